/- Lemmas. -/
import Derived.Test.YtkimajabegojoaaGreatMo2
import Derived.Test.YtkimajabegojoaaGreatMo6
import Derived.Test.YtkimajabegojoaaGreatMo3
import Derived.Test.YtkimajabegojoaaGreatMo5
import Derived.Test.YtkimajabegojoaaGreatMo1
import Derived.Test.YtkimajabegojoaaGreatMo4
import Derived.Deep.RegionHeld3
namespace Go.Proofs.YtkimajabegojoaaGreat
set_option linter.unusedVariables false
set_option linter.unusedSimpArgs false
set_option maxHeartbeats 40000000
set_option maxRecDepth 100000
open Go.RowKit
theorem aQA(r n:Nat)(A:OA)(es:List Ed)(c:Nat)(Aw:OA)(wd:LI)(cw:Nat)(w:World)(lo hi lo' hi':Nat)(hr:RG w lo hi A es)(hw:RV w lo' hi' Aw (aAe wd))(hg:IsGr r n es)(a6:wd.length<=1048576)(a5:OkI wd)(b:Bool)(hb:b=true↔aLC es wd) :
  Calls Tryz.prog 130 #[aAJ r n A es.length c,.slice Aw wd.length cw] w fun e w'=>e=.returned (.bool b)/\Mid 0 0 w w':=by
 have a1:Mid 0 0 w (w.alloc (.cells #[r,n,.slice A es.length c] 35)):=oE _ _;have b0:=oJ w #[r,n,.slice A es.length c] 35;have HB:=oH hb;clear hb;go_enter Tryz.func130,Tryz.ntmps130
 go_wp2_with fail;with_reducible refine(aNp r n A es c 0 Aw wd cw _ _ _ _ _ (hr.mid a1 oZl) (hw.mid a1 oZl) hg a6 a5).mono ?_
 rintro en w2 ⟨u,k,rfl,hk,a3,a0,a2⟩;have a4:rdA es 0 wd=(u,k):=aTS a3 hk a0;have hL:aLC es wd↔k=wd.length/\u=0:=by unfold aLC;rw[a4]
 have HL:=oH hL;clear a3 a0 a4 hL;rcases(Decidable.em (k=wd.length)).symm with h1|h1
 .have dk:((k:Int) == (wd.length:Int))=false:=by simp only[beq_eq_false_iff_ne];omega
  obtain rfl:b=false:=aAG HB.out fun h=>h1 (HL.out.1 h).1;clear h1;go_wp2_with fail;go_ret;exact⟨rfl,a1.trans a2⟩
 subst h1;rcases(Decidable.em (u=0)).symm with h2|h2
 .have dk:(u == 0)=false:=by simpa using h2
  obtain rfl:b=false:=aAG HB.out fun h=>h2 (HL.out.1 h).2;clear h2;go_wp2_with fail;go_ret;exact⟨rfl,a1.trans a2⟩
 subst h2;obtain rfl:b=true:=HB.out.2 (HL.out.2 ⟨rfl,rfl⟩);go_wp2_with fail;go_ret;exact⟨rfl,a1.trans a2⟩
theorem aPL(es:List Ed):∀(w:LI) (v u:Int),goV es v w=some u↔rdA es v w=(u,w.length)
|[],v,u=>by simp[goV,rdA]
|x::t,v,u=>by
  rw[goV,rdA];split
  .constructor
   .intro h;cases h
   .intro h
    have:=congrArg Prod.snd h;simp at this
  .rw[aPL es t _ u]
   constructor
   .intro h;rw[h];rfl
   .intro h
    have h1:=congrArg Prod.fst h;have h2:=congrArg Prod.snd h;simp at h1 h2;exact Prod.ext h1 h2
theorem aUy{es:List Ed}{w:LI}:aLC es w↔goV es 0 w=some 0:=by
 rw[aPL];constructor
 .intro h;exact Prod.ext h.2 h.1
 intro h;exact⟨congrArg Prod.snd h,congrArg Prod.fst h⟩
section
open Go.RowKit
section
variable {w w':World} {lo hi a b:Nat} {A:OA} {xss:LL}
theorem aHJ{e:TypeId}{base size n c:Nat}{xs:List Value}(h:w.ownsRow base e size (.slice A n c) n xs):n<=c:=by
 obtain⟨_,_,e,h1,_⟩:=aAc h;injection e with _ _ e
 omega
end
end
theorem aNF{r s:Int}{es:List Ed}(hl:es.length<=1048576):-1<=rankI r s es+40/\rankI r s es<=1048577:=by
 unfold rankI;split
 .rename_i h
  have h1:=h.fol.gr.size;have h2:=h.fol.gr.len;omega
 omega
def MarkerX(P:Prop):Prop:=P
theorem MarkerX.to{P:Prop}(h:MarkerX P):P:=h
def WordsAt(w:World)(H B:Nat)(vals:List Value)(st:BS):Prop:=∀ p∈st,p.2≠[]->∃ b cw,vals[p.1.toNat]?=some (.slice (some ⟨b,0,none⟩) p.2.length cw)/\b<H/\b≠B/\b<w.heap.size/\∀ j u,(aAe p.2)[j]?=some u->w.cell? ⟨b,j,none⟩=some u
theorem WordsAt.mid{w w':World}{H B:Nat}{vals:List Value}{st:BS}(h:WordsAt w H B vals st)(m:Mid 0 0 w w'):WordsAt w' H B vals st:=fun p hp hn=>by
 obtain⟨b,cw,h1,h2,h3,h4,h5⟩:=h p hp hn;exact⟨b,cw,h1,h2,h3,oT h4 m.size,fun j u hu=>aAa m h4 oZr (h5 j u hu)⟩
theorem WordsAt.grown{w w':World}{H B:Nat}{vals:List Value}{st:BS}{row:Option Nat}(h:WordsAt w H B vals st)(hg:w.grownBy w' row)(hd:∀ g,row=some g->g=B \/ H<=g):WordsAt w' H B vals st:=fun p hp hn=>by
 obtain⟨b,cw,h1,h2,h3,h4,h5⟩:=h p hp hn;refine⟨b,cw,h1,h2,h3,oT h4 hg.size,fun j u hu=>(World.cell?_of_block (hg.block b h4 (fun e=>?_))).trans (h5 j u hu)⟩;rcases hd b e.symm with h0|h0
 .exact h3 h0
 .omega
theorem TreeSt.wordsAt{w w1:World}{g n:Nat}{oB:Option Nat}{vals:List Value}{st:BS}{B:Nat}{e:TypeId}{size:Nat}{v:Value}(h:TreeSt w g oB n vals st)(hB:∀ j,w.cell? ⟨B,j,none⟩=none):WordsAt w w B vals st:=fun p hp hn=>by
 obtain⟨b,c,h1,h2,h3,h4,h5⟩:=h.on p hp;refine⟨b,c,h1,h5,?_,h5,h2⟩;intro hb;subst hb;have hl:0<p.2.length:=List.length_pos_iff.2 hn;have:=h2 0 (.int .i64 p.2[0]) (by rw[aAP,List.getElem?_eq_getElem hl];rfl);rw[hB] at this;cases this
theorem aUD{b g n c:Nat}(h:Value.ownBlock (.slice (some ⟨b,0,none⟩) n c)=some g):g=b:=(Option.some.inj (show some b=some g from h)).symm
theorem aSw{w:World}{lo hi b j:Nat}{cs:List Value}{u:Value}(h:RV w lo hi (some ⟨b,0,none⟩) cs)(hu:cs[j]?=some u):w.cell? ⟨b,j,none⟩=some u:=by
 obtain⟨b',a0,e, -, -,hc⟩:=h.2 (by intro h0;subst h0;simp at hu);injection e with e
 injection e with e1 e2
 subst e1 e2;have:=hc j u hu;rw[Nat.zero_add] at this;exact this
theorem aKH(r n:Nat)(A:OA)(es:List Ed)(c:Nat)(w:World)(lo hi:Nat)(hr:RG w lo hi A es)(hf:IsFol r n es) :
  Calls Tryz.prog 244 #[aAJ r n A es.length c] w fun e w'=>∃ A1 c1,e=.returned (.slice A1 (canon (aBG es (bfs es (aAg r) 0))).length c1)/\OG w' w.heap.size w'.heap.size A1 c1 (canon (aBG es (bfs es (aAg r) 0)))/\Mid 0 0 w w':=by
 have hg:=hf.gr;have bM:0<n:=by have:=hg.size;omega
 have bN:n<=40:=by have:=hg.size;omega
 have hl:=hg.len;have bK:∀ e∈es,1<=e.l/\e.l<=3:=fun e he=>by have:=hg.all e he;have:=hg.rank;unfold InG at *;omega
 have ba:r<=3:=by have:=hg.rank;omega
 have a5:=aHh (L:=aAg r) (v:=0) hg.all (Int.le_refl _) (show(0:Int)<(n:Int) by omega);have aC:=aRl es (aAg r) 0;have a1:Mid 0 0 w ((w.alloc (.cells #[r,n,.slice A es.length c] 35)).alloc (.cells #[] 110)):=(oE _ _).trans (oE _ _);have B0:=(oJ w #[r,n,.slice A es.length c] 35).mid (oE _ (.cells #[] 110)) oZr;have O0:=aAd (w.alloc (.cells #[r,n,.slice A es.length c] 35)) 110 3;have hB:∀ j,((w.alloc (.cells #[r,n,.slice A es.length c] 35)).alloc (.cells #[] 110)).cell? ⟨w.heap.size+1,j,none⟩=none:=fun j=>by
  have h:=World.cell?_alloc_new (w.alloc (.cells #[r,n,.slice A es.length c] 35)) #[] 110 j;rw[World.size_alloc] at h;rw[h]
  rfl
 simp only[World.size_alloc] at O0;obtain⟨p0,p1,p2⟩:=B0.c3 rfl;go_enter Tryz.func244,Tryz.ntmps244
 go_wp2_with fail;generalize (w.alloc (.cells #[r,n,.slice A es.length c] 35)).alloc (.cells #[] 110)=w1 at a1 B0 O0 hB p0 p1 p2 |-;have bR:w.heap.size+1<w1.heap.size:=(O0.lt _ rfl).2;have aR:=hr.mid a1 oZl;have hT:=aKa r n 0 A es c w1 lo hi aR hg bM;have ar:((0:Nat):Int)=0:=rfl;rw[ar] at hT;have b2:aBS r es 0=(bfs es (aAg r) 0).map Prod.fst:=by unfold aBS;rw[Int.toNat_natCast]
 rw[b2] at hT;generalize a2:bfs es (aAg r) 0=ST at hT a5 aC |-;have aq:=oH hT;have aI:=oH a2;clear hT ar b2 a2;with_reducible refine aq.out.mono ?_
 rintro en w2 ⟨A1,c1,rfl,aD,a3,aV,aT,aZ⟩;have aM:(ST.map Prod.fst).length=ST.length:=List.length_map ..;rw[aM] at a3 aZ |-;have bU:0<ST.length:=List.length_pos_iff.2 aC.ne;have bB:ST.length<=n:=by have:=a5.len oO;omega
 obtain⟨m,hm⟩:∃ m,ST.length=m+1:=⟨ST.length - 1,oO⟩
 have HM:=oH hm;rw[hm] at a3 aZ |-;obtain⟨g1,rfl,bI,ai⟩:=aAS a3 (Nat.succ_pos m);have bF:=aHJ a3;have bb:=aD.size;have aw:=aZ.wordsAt (w1:=w2) (e:=110) (size:=3) (v:=undef) (B:=w.heap.size+1) (fun j=>(World.cell?_of_block (aD.block _ (by simpa using bR) oO)).trans (hB j));have au:=(aAz a3).wide (lo':=w.heap.size+2) (hi':=w2.heap.size) oO oN oN;have av:=(aAz aT).wide (lo':=w.heap.size+2) (hi':=w2.heap.size) oO oN oN;clear p0 p1 p2 a3 aT aZ aM hB aq;replace B0:=B0.mid aD oZr;replace O0:=aAb O0 aD oZl;replace a1:=a1.trans aD;have aX:Hid (w2.ownsRow (w.heap.size+1) 110 3 (.slice (some ⟨w.heap.size+1,0,none⟩) 0 0) 0 (aAe (edI ((aBG es ST).take 0)))):=oH O0;have aW:Hid (∀ g,Value.ownBlock (.slice (some (⟨w.heap.size+1,0,none⟩:Addr)) 0 0)=some g->g=w.heap.size+1 \/ w2.heap.size<=g):=oH (fun g hg=>.inl (aUD hg));have a6:=oH au;have a4:=oH av;have a7:=oH aw;have bA:w.heap.size+2<=w2.heap.size:=by omega
 clear O0 au av aw aD;generalize (some (⟨w.heap.size+1,0,none⟩:Addr))=A0 at aX aW |-;generalize hH:w2.heap.size=H2 at a6 a4 a7 aW bA ai;generalize w1.heap.size+1=gv at a4 |-;have aS:H2<=w2.heap.size:=Nat.le_of_eq hH.symm;clear hH;by_cases hc1:c1=1
 .subst hc1
  obtain rfl:m=0:=by omega
  have ah:aBG es ST=[]:=by
   cases a2:ST with
  |nil=>rfl
  |cons p t=>
    have:=HM.out;rw[a2,List.length_cons] at this;have:t=[]:=List.eq_nil_of_length_eq_zero oO;subst this
    rfl
  have aB:=aX.out;rw[ah] at aB;have b9:=oH ah;clear ah;go_wp2_with fail;go_loopw [3,20] (fun ov kv wr=>ov=.slice A0 0 0/\kv=.int .i64 0/\wr=w2) (fun _ _ _=>0)
  case atStart=>exact⟨rfl,rfl,rfl⟩
  obtain⟨rfl,rfl,rfl⟩:=hrel;have aQ:RG wr w wr A0 []:=(RV.wide (aAz aB) (Nat.le_succ _) oN oN)
  have HS:=oH (aCE A0 [] 0 0 wr _ _ rfl aQ oO);clear aQ aB;go_wp2_with fail;with_reducible refine HS.out.mono ?_
  rintro en w5 ⟨A5,c5,rfl,ag,ak⟩;go_wp2_with fail;go_ret;rw[aI.out,b9.out];exact⟨A5,c5,rfl,ag.wide a1.size oN oN,a1.trans ak⟩
 go_wp2_with fail;go_loopw [3,20] (fun ov kv wr=>∃(k:Nat) (A2:OA) (c2:Nat),kv=.int .i64 k/\ov=.slice A2 k c2/\k<=m/\Hid (wr.ownsRow (w.heap.size+1) 110 3 (.slice A2 k c2) k (aAe (edI ((aBG es ST).take k))))/\Hid (∀ g,Value.ownBlock (.slice A2 k c2)=some g->g=w.heap.size+1 \/ H2<=g)/\Hid (RV wr (w.heap.size+2) H2 (some ⟨g1,0,none⟩) (aAe (ST.map Prod.fst)))/\Hid (RV wr (w.heap.size+2) H2 (some ⟨gv,0,none⟩) aV)/\Hid (WordsAt wr H2 (w.heap.size+1) aV ST)/\Box wr w.heap.size [.int .i64 r,.int .i64 n,.slice A es.length c]/\H2<=wr.heap.size/\Mid 0 0 w wr) (fun _ kv _=>m - (intOf kv).toNat)
 case atStart=>exact⟨0,A0,0,rfl,rfl,oZ,aX,aW,a6,a4,a7,B0,aS,a1⟩
 clear aX aW a6 a4 a7 B0 aS a1 aR;obtain⟨wo,bS⟩:∃ wo,wo=wr:=⟨_,rfl⟩
 subst bS;obtain⟨k,A2,c2,rfl,rfl,hk,HO,HD,a6,a4,a7,B0,bf,a1⟩:=hrel;by_cases hlt:k<m
 .obtain⟨p,hp⟩:=aAy ST (show k+1<ST.length by rw[HM.out];omega)
  have al:=oG hp;have b5:p∈ST.tail:=by
   have h:ST.tail[k]?=some p:=by
    cases a2:ST with
   |nil=>rw[a2] at hp;simp at hp
   |cons a t=>rw[a2] at hp;simpa using hp
   exact oG h
  have az:(aBG es ST)[k]?=some (aJM es p):=by
   unfold aBG;cases a2:ST with
  |nil=>rw[a2] at hp;simp at hp
  |cons a t=>rw[a2] at hp;simp at hp;simp[hp]
  obtain⟨p', -,x,bT,b3, -⟩:=aC.par p b5;have bi:=aAU.1 bT;have aP:p.2=p'.2++[x]:=by rw[b3]
  have bQ:=a5.rng p al;obtain⟨pv,aY⟩:∃ n:Nat,p.1=n:=⟨p.1.toNat,oO⟩
  obtain⟨bw,cw,aU,bD,bC,bE,ay⟩:=a7.out p al (by rw[aP];simp);obtain⟨q,hq⟩:∃ q,p'.2.length=q:=⟨_,rfl⟩
  have b4:p.2.length=q+1:=by rw[aP,List.length_append,hq];rfl
  have bH:=ay q x (by rw[aAP,aP,List.getElem?_append_right oO,hq];simp);rw[aY,Int.toNat_natCast,b4] at aU;have bG:=aSw a4.out aU;have ax:=aSw a6.out (show(aAe (ST.map Prod.fst))[k+1]?=some (.int .i64 (pv:Int)) by rw[aAP,List.getElem?_map,hp,<- aY];rfl);have b0:aJM es p=aBc (aAr es (pv:Int) (-x)) x (pv:Int):=by unfold aJM;rw[aP,aLi,aY]
  have bY:q<=100:=by
   have h1:=a5.wl (k+1) p hp;have h2:=HM.out;omega
  have bh:IntKind.i64.wrap (((q+1:Nat):Int) - 1)=(q:Int):=by rw[oI _];omega
  have bg:IntKind.i64.wrap (-x) = -x:=oI _;have bL:gv<wo.heap.size:=by obtain⟨_,_,e, -,h, -⟩:=a4.out.2 (by intro h0;rw[h0] at aU;simp at aU);injection e with e;injection e with e;have:=a4.out.1;omega
  have bJ:g1<wo.heap.size:=by omega
  have bP:(pv:Int)<(n:Int):=by omega
  have bO:(0:Int)<=(pv:Int):=by omega
  have bW:(0:Int)<=(k:Int):=by omega
  have bX:(k:Int)<(m:Int):=by omega
  have hq0:(0:Int)<=(q:Int):=by omega
  have bZ:(q:Int)<(((q+1:Nat)):Int):=by omega
  rw[show k+1=1+k by omega] at ax;have am:=oH az;have an:=oH b0;have af:=aCK r n A es c pv (-x) wo lo hi (hr.mid a1 oZl) oO bK oO oO;have bV:w.heap.size<wo.heap.size:=B0.1;obtain⟨u,hu⟩:∃ u,aAr es (pv:Int) (-x)=u:=⟨_,rfl⟩
  rw[hu] at af;have ao:=oH hu;obtain⟨z0,z1,z2⟩:=B0.c3 rfl;clear hp al b5 az b3 aP aY ay aU b4 b0 hq hu;go_wp2_with fail;with_reducible refine af.mono ?_
  rintro en w3 ⟨rfl,a8⟩;have a2:=aJZ u x (pv:Int) w3 oO oO;have ap:=oH (aAb HO.out a8 oZl);have aE:=oH (a6.out.mid a8 oZl);have aG:=oH (a4.out.mid a8 oZl);have aJ:=oH (a7.out.mid a8);have B3:=B0.mid a8 oZr;have bc:=a8.size;have aN:=a1.trans a8;clear HO a6 a4 a7 B0 a1 a8 z0 z1 z2 bH bG ax af;go_wp2_with fail;with_reducible refine a2.mono ?_
  rintro en w4 ⟨rfl,a9⟩;have aa:=oH (aAb ap.out a9 oZl);have aF:=oH (aE.out.mid a9 oZl);have aH:=oH (aG.out.mid a9 oZl);have aK:=oH (aJ.out.mid a9);have B4:=B3.mid a9 oZr;have bd:=a9.size;have aO:=aN.trans a9;have aA:Hid ((aBG es ST)[k]?=some (aBc u x (pv:Int))):=oH (by rw[am.out,an.out,ao.out]);clear ap aE aG aJ B3 aN a9 a2 am an ao;generalize aBc u x (pv:Int)=ed at aA |-;go_wp2_with (at_builtin;refine MarkerX.to ?_)
  unfold MarkerX;refine aCS rfl _ _ rfl (w.heap.size+1) A2 k c2 _ rfl aa.out ed rfl oO oO ?_;intro A6 c6 w6 b1 a0 aL;have b8:Hid (w6.ownsRow (w.heap.size+1) 110 3 (.slice A6 (k+1) c6) (k+1) (aAe (edI ((aBG es ST).take (k+1))))):=oH (by
   obtain⟨h1,h2⟩:=List.getElem?_eq_some_iff.1 aA.out;rw[List.take_succ_eq_append_getElem h1,h2];exact b1)
  have ab:=oH (aF.out.grown a0 (fun g hg=>by rcases HD.out g hg with h|h <;> omega));have ad:=oH (aH.out.grown a0 (fun g hg=>by rcases HD.out g hg with h|h <;> omega));have ae:=oH (aK.out.grown a0 HD.out);have B6:=B4.grown a0 (by intro h0;have:=HD.out _ h0;omega);have aj:=aO.grownNew a0 (fun g hg=>by have:=(aa.out.lt g hg).1;omega);have be:=a0.size;have b7:Hid (∀ g,Value.ownBlock (.slice A6 (k+1) c6)=some g->g=w.heap.size+1 \/ H2<=g):=oH (by
   intro g hg;rcases aL with h|h
   .exact HD.out g (h ▸ hg)
   .rw[h] at hg
    injection hg with hg
    omega)
  clear b1 a0 aL aa aF aH aK B4 aO HD aA;go_wp2_with fail;go_roundw
  case rel=>exact⟨k+1,A6,c6,by go_num,rfl,oO,b8,b7,ab,ad,ae,B6,oO,aj⟩
  simp[intOf];omega
 obtain rfl:k=m:=by omega
 have b6:(aBG es ST).length=k:=by unfold aBG;rw[List.length_map,List.length_tail,HM.out];rfl
 have ho:=HO.out;rw[List.take_of_length_le oO] at ho;have aQ:RG wo w wo A2 (aBG es ST):=(RV.wide (aAz ho) (Nat.le_succ _) oN oN)
 have HS:=oH (aCE A2 (aBG es ST) k c2 wo _ _ b6 aQ oO);clear aQ ho b6 HO HD a6 a4 a7 B0;go_wp2_with fail;with_reducible refine HS.out.mono ?_
 rintro en w5 ⟨A5,c5,rfl,ag,ak⟩;go_wp2_with fail;go_ret;rw[aI.out];exact⟨A5,c5,rfl,ag.wide a1.size oN oN,a1.trans ak⟩
section
open Go.RowKit
structure Grp (w:World) (lo a b:Nat) (A:OA) (n c:Nat) (rows:List Row) (Aa:OA) (act:LL):Prop where
 out:w.ownsRow lo 44 1 (.slice A n c) n (aBi rows)
 rows:OwnRows w b w.heap.size 3 rows
 act:RSS w a b Aa act
 off:∀ g,Value.ownBlock (.slice A n c)=some g->g<a \/ b<=g
 lob:lo<=b
section
variable {w w':World} {lo a b:Nat} {A:OA} {n c:Nat} {rows:List Row} {Aa:OA} {act:LL}
theorem Grp.len(h:Grp w lo a b A n c rows Aa act):rows.length=n:=by
 have:=h.out.1;rw[aCx] at this;omega
theorem Grp.mid(h:Grp w lo a b A n c rows Aa act)(m:Mid 0 0 w w'):Grp w' lo a b A n c rows Aa act:=
 ⟨aAb h.out m oZl,(h.rows.mid m oZl).wide oN m.size oN,h.act.mid m oZl,h.off,h.lob⟩
theorem Grp.rss(h:Grp w lo a b A n c rows Aa act):RSS w lo w A (aAt rows):=
 (OSS.mk' h.out (h.rows.wide h.lob oN oN) rfl).rss
theorem Grp.push{W:World}{W':World}{A':OA}{c':Nat}{r:Row}(h:Grp w lo a b A n c rows Aa act)(m:Mid 0 0 w W)(a0:W.ownsRow w 3 1 r.v r.xs.length (aAe r.xs))(h1:W'.ownsRow lo 44 1 (.slice A' (n+1) c') (n+1) (aBi rows++[r.v]))(h2:W.grownBy W' (Value.ownBlock (.slice A n c)))(h3:Value.ownBlock (.slice A' (n+1) c')=Value.ownBlock (.slice A n c) \/ Value.ownBlock (.slice A' (n+1) c')=some (W.heap.size+1)) :
  Grp W' lo a b A' (n+1) c' (rows++[r]) Aa act:=by
 have a1:=h.act.size;have a2:=m.size;have hG:=h.mid m;refine⟨by rw[aBg];exact h1,?_,?_,?_,h.lob⟩
 .have k1:=(h.rows.mid m oZl).push (r:=r) (base:=w.heap.size) (hi':=W.heap.size) a0 oN a1 a2 oN (fun g hg=>(a0.lt g hg).2)
  exact(k1.grown hG.out oD h2).wide oN h2.size oN
 .cases hob:Value.ownBlock (.slice A n c) with
 |none=>
   rw[hob] at h2;exact hG.act.mid (Mid.of_grown (lo:=0) (hi:=0) h2 (by intro g hg;cases hg)) oZl
 |some g=>
   rw[hob] at h2;have:=h.off g hob;exact hG.act.mid (Mid.of_grown (lo:=g) (hi:=g+1) h2 (by intro g' hg;injection hg with hg;omega)) oO
 intro g hg;rcases h3 with h3|h3
 .exact h.off g (by rw[<- h3];exact hg)
 rw[h3] at hg;injection hg with hg
 omega
end
section
variable {W:World} {ops:Array Oper} {rest:List Oper} {o:Oper} {ac:Act} {Q:Exit->Act->World->Prop}
theorem aFV{w:World}{lo a b:Nat}{A:OA}{n c:Nat}{rows:List Row}{Aa:OA}{act:LL}(a0:o.guard=none)(s x:Operand)(ho:o.op=.call { callee:=.builtin .append,args:=#[s,x],argTypes:=#[24,24] })(hs:ac.eval s=.slice A n c)(h:Grp w lo a b A n c rows Aa act)(m:Mid 0 0 w W)(r:Row)(hrow:W.ownsRow w 3 1 r.v r.xs.length (aAe r.xs))(hx:ac.eval x=.slice (some ⟨W,0,none⟩) 1 1)(hn:n<=1048576)(hk:∀ A' c' w',Grp w' lo a b A' (n+1) c' (rows++[r]) Aa act->Mid lo W W w'->wpList Tryz.prog ops Q rest (ac.put o.dst (.slice A' (n+1) c')) w') :
  wpList Tryz.prog ops Q (o::rest) ac (W.alloc (.cells #[r.v] 44)):=by
 have a1:=h.act.size;have a3:=m.size;have a2:=h.lob;refine aAk (news:=[r.v]) a0 s x 24 ho lo 44 (.slice none 0 0) 1 24 aDl aDi rfl oD (.slice A n c) n (aBi rows) hs (h.mid m).out 1 hx rfl ?_ (by unfold maxLen;omega) oO oO ?_
 .intro u hu
  simp at hu;subst hu
  rfl
 intro v' w' h1 h2 h3;obtain⟨A',c',rfl, -, -⟩:=aAc h1;exact hk A' c' w' (h.push m hrow h1 h2 h3) (oF (h.mid m).out h2)
end
theorem aKy{m:Nat}:∀(l:LL),(∀ x∈l,x.length<=m)->aAK l<=l.length * m
|[],_=>by simp[aAK]
|x::t,h=>by
  have h1:=aKy t fun y hy=>h y (by simp[hy]);have h2:=h x oM;have h3:aAK (x::t)=x.length+aAK t:=by simp[aAK]
  rw[h3,List.length_cons,Nat.succ_mul];omega
end
section
open Go.RowKit
section
variable {P:Program} (w:World)
theorem aIv(base:Nat)(t ty e:TypeId)(i:TypeInfo)(z:Value)(size bytes:Nat)(ht:P.underlying t=some (.slice e))(hi:P.info? e=some i)(hz:i.zero=some z)(a4:i.size=size)(a8:i.bytes=bytes)(v:Value)(n:Nat)(xs:List Value)(a2:w.ownsRow base e size v n xs)(a:Addr)(m c:Nat)(news:List Value)(hl:news.length=m * size)(a0:∀ j u,news[j]?=some u->w.cell? (a.add j)=some u)(h1:∀ u∈news,u.oneCell'=true)(a7:n+m<=maxLen)(a1:(n+m) * bytes<=140737488355328){v':Value}{w':World}(hr:(Builtin.append_ #[t,t] ty #[v,.slice (some a) m c]).run P w=.ok v' w')(hg:w.grownBy w' v.ownBlock) :
  v'.ownBlock=v.ownBlock \/ w.grownBy w' none:=by
 subst a4;subst a8;have a6:n+m<=9223372036854775807:=by simp only[maxLen] at a7;omega
 rcases a2.2 with⟨rfl,rfl⟩|⟨g,cap,cur,rfl,hbg,hgg,hnc,hcm,hcs,htake⟩
 .exact .inr hg
 by_cases hroom:n+m<=cap
 .have a5:n * i.size+news.length<=cur.size:=by rw[hl,hcs,<- Nat.add_mul];exact Nat.mul_le_mul_right _ hroom
  have h2:=run_append_room (P:=P) w t ty e i ht hi g n cap cur hgg a m c news hl a0 h1 hroom a5;rw[hr] at h2;injection h2 with h2 h3
  exact .inl (by rw[h2];rfl)
 have a3:∀ j u,xs[j]?=some u->w.cell? ((⟨g,0,none⟩:Addr).add j)=some u:=a2.cells (g:=g) rfl;have h2:=run_append_grow (P:=P) w t ty e i z ht hi hz ⟨g,0,none⟩ n cap xs a2.1 a3 a m c news hl a0 oO oO (growslice_fits oO a1);rw[hr] at h2;injection h2 with h2 h3
 exact .inr (by rw[h3];exact aCB (aQx w none) (World.grownBy_alloc _ _ _))
end
section
variable {W:World} {ops:Array Oper} {rest:List Oper} {o:Oper} {a:Act} {Q:Exit->Act->World->Prop}
theorem aOd(a3:o.guard=none)(s x:Operand)(t:TypeId)(ho:o.op=.call { callee:=.builtin .append,args:=#[s,x],argTypes:=#[t,t] })(base:Nat)(e:TypeId)(z:Value)(size bytes:Nat)(ht:Tryz.prog.underlying t=some (.slice e))(hinfo:(Tryz.prog.info? e).map (fun i=>(i.zero,i.size,i.bytes))=some (some z,size,bytes))(hzs:z.cells.size=size)(hsz:0<size)(v:Value)(n:Nat)(xs:List Value)(hs:a.eval s=v)(hown:W.ownsRow base e size v n xs)(m:Nat)(news:List Value)(hx:a.eval x=.slice (some ⟨W,0,none⟩) m m)(hl:news.length=m * size)(h1:∀ u∈news,u.oneCell'=true)(h63:n+m<=maxLen)(hbytes:(n+m) * bytes<=140737488355328)(hbase:base<=W.heap.size)(h:∀ v' w',w'.ownsRow base e size v' (n+m) (xs++news)->W.grownBy w' v.ownBlock->(v'.ownBlock=v.ownBlock \/ v'.ownBlock=some (W.heap.size+1))->(v'.ownBlock=v.ownBlock \/ W.grownBy w' none)->wpList Tryz.prog ops Q rest (a.put o.dst v') w') :
  wpList Tryz.prog ops Q (o::rest) a (W.alloc (.cells news.toArray e)):=by
 obtain⟨i,hi,hz,a1,a2⟩:=info_parts hinfo;have a0:∀ j u,news[j]?=some u->(W.alloc (.cells news.toArray e)).cell? ((⟨W,0,none⟩:Addr).add j)=some u:=by
  intro j u hu;rw[Addr.add_lit,Nat.zero_add,World.cell?_alloc_new]
  simpa using hu
 refine wpList_plain a3 fun K hK=>?_;obtain⟨v',w',hr,h2,h3,h4,h5⟩:=run_append_own_at (P:=Tryz.prog) (W.alloc (.cells news.toArray e)) base t o.type e i z size bytes ht hi hz a1 a2 hzs hsz v n xs (hown.alloc _) ⟨W,0,none⟩ m m news hl a0 h1 h63 hbytes (by simp;omega);have h6:=aIv (P:=Tryz.prog) (W.alloc (.cells news.toArray e)) base t o.type e i z size bytes ht hi hz a1 a2 v n xs (hown.alloc _) ⟨W,0,none⟩ m m news hl a0 h1 h63 hbytes hr h3;unfold Oper.wp execOp;simp only[ho,resolve,invoke,builtin,Sem.run_bind,Sem.run_pure,Result.andThen_ok,List.map_toArray,List.map_cons,List.map_nil,hs,hx,hr];refine hK _ _ (h v' w' h2 (aCB (World.grownBy_alloc W _ _) h3) (by simpa using h5) ?_);rcases h6 with h6|h6
 .exact .inl h6
 exact .inr (aCB (World.grownBy_alloc W _ _) h6)
end
def OldRows(w:World)(g:Nat)(rows0:List Row):Prop:=g<w.heap.size/\∀ k u,(aBi rows0)[k]?=some u->w.cell? ⟨g,k,none⟩=some u
theorem OldRows.mid{w w':World}{g lo hi:Nat}{rows0:List Row}(h:OldRows w g rows0)(m:Mid lo hi w w')(hd:g<lo \/ hi<=g:=by omega):OldRows w' g rows0:=
 ⟨oT h.1 m.size,fun k u hu=>(World.cell?_of_block (m.block g h.1 oO)).trans (h.2 k u hu)⟩
theorem OldRows.push{W W':World}{lo g:Nat}{A A':OA}{n c c':Nat}{rows0 rows:List Row}{r:Row}(h:OldRows W g rows0)(hp:rows0 <+: rows)(h1:W'.ownsRow lo 44 1 (.slice A' (n+1) c') (n+1) (aBi rows++[r.v]))(h2:W.grownBy W' (Value.ownBlock (.slice A n c)))(h6:Value.ownBlock (.slice A' (n+1) c')=Value.ownBlock (.slice A n c) \/ W.grownBy W' none):OldRows W' g rows0:=by
 refine⟨oT h.1 h2.size,fun k u hu=>?_⟩;by_cases hb:Value.ownBlock (.slice A n c)=some g
 .rcases h6 with h6|h6
  .have a0:Value.ownBlock (.slice A' (n+1) c')=some g:=h6.trans hb
   have hk:(aBi rows++[r.v])[k]?=some u:=by
    obtain⟨t,rfl⟩:=hp;rw[aBg,List.append_assoc,List.getElem?_append_left (List.getElem?_eq_some_iff.1 hu).1];exact hu
   have:=h1.cells a0 k u hk;rw[Addr.add_lit,Nat.zero_add] at this;exact this
  exact h6.cell (h.2 k u hu) oM
 exact h2.cell (h.2 k u hu) (by intro e;exact hb e.symm)
section
variable {W:World} {ops:Array Oper} {rest:List Oper} {o:Oper} {ac:Act} {Q:Exit->Act->World->Prop}
theorem aHX{w:World}{lo a b g:Nat}{A:OA}{n c:Nat}{rows rows0:List Row}{Aa:OA}{act:LL}(a0:o.guard=none)(s x:Operand)(ho:o.op=.call { callee:=.builtin .append,args:=#[s,x],argTypes:=#[24,24] })(hs:ac.eval s=.slice A n c)(h:Grp w lo a b A n c rows Aa act)(m:Mid 0 0 w W)(hold:OldRows w g rows0)(hp:rows0 <+: rows)(r:Row)(u:Value)(hu:r.v=u)(hrow:W.ownsRow w 3 1 r.v r.xs.length (aAe r.xs))(hx:ac.eval x=.slice (some ⟨W,0,none⟩) 1 1)(hn:n<=1048576)(hk:∀ A' c' w',Grp w' lo a b A' (n+1) c' (rows++[r]) Aa act->OldRows w' g rows0->W.grownBy w' (Value.ownBlock (.slice A n c))->Mid lo W W w'->wpList Tryz.prog ops Q rest (ac.put o.dst (.slice A' (n+1) c')) w') :
  wpList Tryz.prog ops Q (o::rest) ac (W.alloc (.cells #[u] 44)):=by
 subst hu;have a1:=h.act.size;have a3:=m.size;have a2:=h.lob;refine aOd (news:=[r.v]) a0 s x 24 ho lo 44 (.slice none 0 0) 1 24 aDl aDi rfl oD (.slice A n c) n (aBi rows) hs (h.mid m).out 1 hx rfl ?_ (by unfold maxLen;omega) oO oO ?_
 .intro u hu
  simp at hu;subst hu
  rfl
 intro v' w' h1 h2 h3 h6;obtain⟨A',c',rfl, -, -⟩:=aAc h1;exact hk A' c' w' (h.push m hrow h1 h2 h3) ((hold.mid m oZr).push hp h1 h2 h6) h2 (oF (h.mid m).out h2)
end
end
section
def aGN(f:LI->Int->Bool)(L:LI)(w:LI):LL:=(L.filter (f w)).map fun x=>w++[x]
def aAW(f:LI->Int->Bool)(L:LI)(l:LL):LL:=l.flatMap (aGN f L)
def lay(f:LI->Int->Bool)(L:LI):Nat->LL
|0=>[[]]
|n+1=>aAW f L (lay f L n)
def pre(f:LI->Int->Bool)(L:LI):Nat->LL
|0=>[]
|n+1=>pre f L n++lay f L n
section
variable {f:LI->Int->Bool} {L:LI}
theorem aMe(w:LI):(aGN f L w).length<=L.length:=by
 unfold aGN;rw[List.length_map];exact List.length_filter_le _ _
theorem aES(l:LL):(aAW f L l).length<=l.length * L.length:=by
 induction l with
|nil=>simp[aAW]
|cons w t ih=>
  have h1:=aMe (f:=f) (L:=L) w;have h2:aAW f L (w::t)=aGN f L w++aAW f L t:=rfl;rw[h2,List.length_append,List.length_cons,Nat.succ_mul];omega
theorem aKd(hL:L.length<=6):∀ n,(lay f L n).length<=6 ^ n
|0=>by simp[lay]
|n+1=>by
  have h1:=aKd hL n;have h2:=aES (f:=f) (L:=L) (lay f L n);have h3:(lay f L n).length * L.length<=6 ^ n * 6:=Nat.mul_le_mul h1 hL;rw[Nat.pow_succ];exact oV h2 h3
theorem aUu(hL:L.length<=6){n:Nat}(hn:n<=5):(lay f L n).length<=7776:=by
 have h1:=aKd (f:=f) hL n;have h2:6 ^ n<=6 ^ 5:=Nat.pow_le_pow_right oO hn;omega
theorem aQN(hL:L.length<=6):∀ {n:Nat},n<=6->(pre f L n).length<=n * 7776
|0,_=>by simp[pre]
|n+1,hn=>by
  have h1:=aQN hL (n:=n) oO;have h2:=aUu (f:=f) hL (n:=n) oO;rw[pre,List.length_append];omega
theorem aGM{l:LL}{v:LI}:v∈aAW f L l↔∃ w∈l,∃ x∈L,f w x=true/\v=w++[x]:=by
 unfold aAW aGN;simp only[List.mem_flatMap,List.mem_map,List.mem_filter];constructor
 .rintro⟨w,hw,x,⟨hx,hf⟩,rfl⟩
  exact⟨w,hw,x,hx,hf,rfl⟩
 rintro⟨w,hw,x,hx,hf,rfl⟩;exact⟨w,hw,x,⟨hx,hf⟩,rfl⟩
theorem aNv:∀ {n:Nat} {v:LI},v∈lay f L n->v.length=n/\∀ x∈v,x∈L
|0,v,h=>by simp[lay] at h;subst h;simp
|n+1,v,h=>by
  obtain⟨w,hw,x,hx, -,rfl⟩:=aGM.1 h;obtain⟨h1,h2⟩:=aNv hw;refine⟨by simp[h1],fun y hy=>?_⟩;rcases List.mem_append.1 hy with hy|hy
  .exact h2 y hy
  .simp at hy
   subst hy;exact hx
theorem aND:∀ {n:Nat} {v:LI},v∈pre f L n->v.length<n/\∀ x∈v,x∈L
|0,v,h=>by simp[pre] at h
|n+1,v,h=>by
  rcases List.mem_append.1 h with h|h
  .have:=aND h
   exact⟨oO,this.2⟩
  .have:=aNv h
   exact⟨oO,this.2⟩
theorem aFH{l:LL}{k:Nat}{w:LI}(h:l[k]?=some w):aAW f L (l.take (k+1))=aAW f L (l.take k)++aGN f L w:=by
 obtain⟨hk,h'⟩:=List.getElem?_eq_some_iff.1 h;rw[List.take_succ_eq_append_getElem hk,h'];unfold aAW;rw[List.flatMap_append];simp
theorem aMf{w:LI}{j:Nat}{x:Int}(h:L[j]?=some x)(hf:f w x=true):aGN f (L.take (j+1)) w=aGN f (L.take j) w++[w++[x]]:=by
 obtain⟨hk,h'⟩:=List.getElem?_eq_some_iff.1 h;rw[List.take_succ_eq_append_getElem hk,h'];unfold aGN;rw[List.filter_append,List.map_append];simp[hf]
theorem aON{w:LI}{j:Nat}{x:Int}(h:L[j]?=some x)(hf:f w x=false):aGN f (L.take (j+1)) w=aGN f (L.take j) w:=by
 obtain⟨hk,h'⟩:=List.getElem?_eq_some_iff.1 h;rw[List.take_succ_eq_append_getElem hk,h'];unfold aGN;rw[List.filter_append,List.map_append];simp[hf]
theorem aNu{g:LI->Int->Bool}(h:∀ w,(∀ x∈w,x∈L)->∀ x∈L,f w x=g w x):∀ n,lay f L n=lay g L n
|0=>rfl
|n+1=>by
  have ih:=aNu h n;rw[lay,lay,<- ih];unfold aAW;have h2:∀ l:LL,(∀ w∈l,∀ x∈w,x∈L)->l.flatMap (aGN f L)=l.flatMap (aGN g L):=by
   intro l hl
   induction l with
  |nil=>rfl
  |cons w t iht=>
    rw[List.flatMap_cons,List.flatMap_cons,iht fun v hv=>hl v (by simp[hv])];have:aGN f L w=aGN g L w:=by
     unfold aGN;rw[List.filter_congr fun x hx=>h w (hl w oM) x hx]
    rw[this]
  exact h2 _ fun w hw=>(aNv hw).2
theorem aNC{g:LI->Int->Bool}(h:∀ w,(∀ x∈w,x∈L)->∀ x∈L,f w x=g w x):∀ n,pre f L n=pre g L n
|0=>rfl
|n+1=>by rw[pre,pre,aNC h n,aNu h n]
end
def okB(w:LI)(x:Int):Bool:=!(w.getLast? == some (-x))
theorem aMd(w:LI)(y x:Int):okB (w++[y]) x=!(y == -x):=by simp[okB]
end
theorem aDJ(A:OA)(xs:LI)(c B:Nat)(w:World)(hr:Rs w B A (aAe xs))(hB:B<=w.heap.size)(a5:OkI xs)(hl:xs.length<=4194304) :
  Calls Tryz.prog 109 #[.slice A xs.length c] w fun e w'=>RetI 3 (aAE xs) w e w':=by
 have aA:=oH a5;clear a5;have aD:xs.length<=maxLen:=by unfold maxLen;omega
 obtain⟨i0,hi,a7,a8,a9⟩:=info_parts aBs;have a4:i0.bytes * xs.length<=281474976710656:=by rw[a9];omega
 go_enter Tryz.func109,Tryz.ntmps109
 go_wp2_with (at_make;refine wpList_make_own _ rfl _ _ 44 rfl w 3 i0 (.int .i64 0) 1 aBo hi a7 a8 .i64 .i64 _ xs.length rfl rfl rfl a4 aD oN ?_;intro w1 a0 a3)
 have aB:=aKW a3;clear hi a7 a8 a9 a4;go_loopw [3,4] (fun v i wr=>∃ j:Nat,j<=xs.length/\i=.int .i64 ((j:Int) - 1)/\wr.ownsRow w.heap.size 3 1 v (xs.length - j) (aAe (aAE (xs.drop j)))/\Below w.heap.size w wr)
  (fun _ i _=>(intOf i+1).toNat)
 case atStart=>exact⟨xs.length,oN,rfl,by simpa [aAE,aAe] using a0,aB⟩
 obtain⟨j,hj,rfl,a1,hb⟩:=hrel;have a6:=hb.size;cases j with
|zero=>
  go_wp2_with fail;go_ret;exact RetI.mk (by rw[aBE]) (by simpa using a1) hb
|succ m=>
  rw[show(((m+1:Nat):Int) - 1)=(m:Int) from by omega];obtain⟨b,aE,x,rfl, -,hx,hc⟩:=((hr.more hB).below hb).int (show m<xs.length by omega);have a2:=aA.out x (oG hx);have HW:=oH (aHZ a2.1 a2.2);have HX:=oH hx;clear hx a2;go_wp2_with (at_builtin;refine aAk rfl _ _ 44 rfl w 3 (.int .i64 0) 1 8 aBo aBs rfl oD _ _ _ rfl a1 1 [.int .i64 (wrap64 (-x))] rfl rfl ?c1 ?c2 ?c3 a6 ?next)
  case c1=>exact aAm [wrap64 (-x)]
  case c2=>unfold maxLen;omega
  case c3=>omega
  case next=>
   intro v' w1 a0 aC _;go_wp2_with fail;go_roundw
   case rel=>
    refine⟨m,oO,rfl,?_,hb.grown aC a6 (fun g hg=>(a1.lt g hg).1)⟩;rw[aOr xs HX.out,aNr,aAi,show xs.length - m=xs.length - (m+1)+1 from by omega,<- HW.out];exact a0
   simp[intOf]
def aVl(xs:LI):Nat:=(xs.length+1) / 2
def aUo(xs:LI):LI:=xs.take (aVl xs)
def aUp(xs:LI):LI:=(aAE xs).take (aVl xs)
def aVQ(xs:LI):LI × LI:=if 0<aVT (aUo xs) (aUp xs) then(aUp xs,aUo xs) else(aUo xs,aUp xs)
theorem aEW{xs:LI}(h:OkI xs):OkI (aAE xs):=by
 intro x hx;unfold aAE at hx;rw[List.mem_reverse,List.mem_map] at hx;obtain⟨y,hy,rfl⟩:=hx;have:=h y hy;unfold negI aMc;split <;> omega
theorem aFd(A:OA)(xs:LI)(c B:Nat)(w:World)(hr:Rs w B A (aAe xs))(hB:B<=w.heap.size)(a2:OkI xs)(hl:xs.length<=4194304) :
  Calls Tryz.prog 109 #[.slice A xs.length c] w fun e w'=>∃ A2 c2,e=.returned (.slice A2 xs.length c2)/\xs.length<=c2/\w'.ownsRow w.heap.size 3 1 (.slice A2 xs.length c2) xs.length (aAe (aAE xs))/\Below w.heap.size w w':=
 (aDJ A xs c B w hr hB a2 hl).mono fun e w' h=>by
  obtain⟨A2,c2,he,ho,hb⟩:=h;obtain⟨A2',a3,a1,a0, -⟩:=aAc ho;injection a1 with he2a _ he2c
  subst he2a he2c;rw[aBE] at he a0 ho;exact⟨A2,c2,he,a0,ho,hb⟩
theorem OwnRows.replace{w:World}{lo hi:Nat}{tI:TypeId}{rows:List Row}{base hi' k:Nat}{r:Row}(h:OwnRows w lo hi tI rows)(hr:w.ownsRow base tI 1 r.v r.xs.length (aAe r.xs))(hb:hi<=base)(hl:lo<=base)(hh:hi<=hi')(hs:hi'<=w.heap.size)(a1:∀ g,r.v.ownBlock=some g->g<hi') :
  OwnRows w lo hi' tI (rows.set k r):=by
 refine⟨fun s hs'=>?_,?_⟩
 .rcases List.mem_or_eq_of_mem_set hs' with hm|hm
  .exact(h.1 s hm).wide oN hh hs
  subst hm;exact⟨hs,aAh hr hl,a1⟩
 have key:∀ s∈rows,s.v.ownBlock=none \/ (s.v.ownBlock≠r.v.ownBlock):=fun s hsm=>by
  cases hv:s.v.ownBlock with
 |none=>exact .inl rfl
 |some g=>
   refine .inr fun e=>?_;have h1:=(h.1 s hsm).2.2 g hv;have h2:=(hr.lt g e.symm).1;omega
 rw[List.pairwise_iff_getElem];intro i j hi hj a0;have hp:=List.pairwise_iff_getElem.1 h.2 i j (by simpa using hi) (by simpa using hj) a0;rw[List.getElem_set,List.getElem_set];have a2:i<rows.length:=by simpa using hi
 have a3:j<rows.length:=by simpa using hj
 split
 .split
  .omega
  cases hv:r.v.ownBlock with
 |none=>exact .inl rfl
 |some g=>
   refine .inr fun e=>?_;rcases key rows[j] (List.getElem_mem _) with h1|h1
   .rw[h1] at e;cases e
   exact h1 (by rw[hv];exact e.symm)
 split
 .exact key rows[i] (List.getElem_mem _)
 exact hp
theorem aSu(rows:List Row)(k:Nat)(r:Row):aAt (rows.set k r)=(aAt rows).set k r.xs:=by simp[aAt,List.map_set]
theorem aSv(rows:List Row)(k:Nat)(r:Row):aBi (rows.set k r)=(aBi rows).set k r.v:=by simp[aBi,List.map_set]
theorem aHz(A:OA)(xs:LI)(c:Nat)(w:World)(B:Nat)(hr:Rs w B A (aAe xs))(hB:B<=w.heap.size)(hl:xs.length<=1099511627776) :
  Calls Tryz.prog 178 #[.slice A xs.length c] w fun e w'=>∃ A2 c2,e=.returned (.slice A2 xs.length c2)/\w'.ownsRow w.heap.size 3 1 (.slice A2 xs.length c2) xs.length (aAe xs)/\Below w.heap.size w w':=by
 have a2:=aAd w 3 1;have a4:Rs (w.alloc (.cells #[] 3)) B A (aAe xs):=hr.alloc hB _;have a3:(aAe xs).length=xs.length * 1:=by rw[aAB];omega
 go_enter Tryz.func178,Tryz.ntmps178
 go_wp2_with (at_builtin;refine aBY rfl _ _ 44 rfl w 3 (.int .i64 0) 1 8 aBo aBs rfl oD _ _ _ rfl a2 A xs.length c B (aAe xs) rfl a4 a3 (aAm _) ?c4 ?c5 ?c6 ?next)
 case c4=>unfold maxLen;omega
 case c5=>omega
 case c6=>simp
 case next=>
  intro v2 w2 a1 a0 _;try rw[Nat.zero_add,List.nil_append] at a1
  go_wp2_with fail;go_ret;obtain⟨A2,c2,rfl, -, -⟩:=aAc a1;exact⟨A2,c2,rfl,a1,((Below.refl w w).alloc oN _).grown a0 oM (fun g hg=>(a2.lt g hg).1)⟩
theorem aUE{w:LI}{y x:Int}(hx:x≠0)(hy:y≠0)(hb:-3<=y/\y<=3):okB (w++[y]) x=!(aFg y x):=by
 rw[aMd]
 congr 1
 unfold aFg;have h1:(y == -x)=decide (x = -y):=by
  by_cases h:x = -y
  .simp[h]
  have:¬ y = -x:=by omega
  simp[h,this]
 rw[h1];have h2:¬ y=aMc:=by unfold aMc;omega
 simp[hy,h2]
theorem aUv{r:Nat}(hr:1<=r)(n:Nat):0<(lay okB (aAg r) n).length:=by
 have h:∀ n,List.replicate n (1:Int)∈lay okB (aAg r) n:=by
  intro n
  induction n with
 |zero=>simp[lay]
 |succ n ih=>
   rw[lay,aGM];refine⟨_,ih,1,aAU.2 oO,?_,List.replicate_succ'⟩;cases n with
  |zero=>rfl
  |succ n=>rw[List.replicate_succ',aMd];rfl
 exact List.length_pos_of_mem (h n)
theorem aSk{w':World}{lo:Nat}{A2:OA}{n c2:Nat}{xs:LI}{y:Int}(h:w'.ownsRow lo 3 1 (.slice A2 (n+1) c2) (n+1) (aAe (xs++[y])))(hl:xs.length=n):w'.ownsRow lo 3 1 (Row.v ⟨A2,c2,xs++[y]⟩) (xs++[y]).length (aAe (xs++[y])):=by
 have:(xs++[y]).length=n+1:=by rw[List.length_append,hl];rfl
 unfold Row.v;rw[this];exact h
theorem aKI(r n:Nat)(w:World)(bY:1<=r)(hr:r<=3)(hn:n<=4) :
  Calls Tryz.prog 167 #[.int .i64 r,.int .i64 n] w fun e w'=>∃ A1 c1,e=.returned (.slice A1 (pre okB (aAg r) (n+1)).length c1)/\OSS w' w.heap.size w'.heap.size 44 3 A1 c1 (pre okB (aAg r) (n+1))/\Mid 0 0 w w':=by
 have aT:(aAg r).length<=6:=by rw[aBR];omega
 have bF:=oH (fun k (hk:k<=5)=>aUu (f:=okB) aT hk);have al:=oH (fun k (hk:k<=6)=>aQN (f:=okB) aT hk);have aa:Mid 0 0 w ((w.alloc (.cells #[] 3)).alloc (.cells #[.slice (some ⟨w,0,none⟩) 0 0] 44)):=(oE _ _).trans (oE _ _);have O0:=(aAd w 3 1).alloc (.cells #[.slice (some ⟨w,0,none⟩) 0 0] 44);have O1:=aMj (w.alloc (.cells #[] 3)) 44 (.slice (some ⟨w,0,none⟩) 0 0);simp only[World.size_alloc] at O1;have an:Grp ((w.alloc (.cells #[] 3)).alloc (.cells #[.slice (some ⟨w,0,none⟩) 0 0] 44)) w w w (some ⟨w.heap.size+1,0,none⟩) 1 1 [⟨some ⟨w,0,none⟩,0,[]⟩] none []:=
  ⟨aAh O1 (Nat.le_succ _),⟨fun r hr=>by rw[List.mem_singleton] at hr;subst hr;exact⟨oN,O0,fun g hg=>(O0.lt g hg).2⟩,by simp⟩,RSS.nil (by simp;omega),fun g hg=>by injection hg with hg;simp only at hg;omega,oN⟩
 go_enter Tryz.func167,Tryz.ntmps167
 go_wp2_with fail;generalize (w.alloc (.cells #[] 3)).alloc (.cells #[.slice (some ⟨w,0,none⟩) 0 0] 44)=w1 at aa an |-;have aY:=oH an;generalize (some (⟨w.heap.size+1,0,none⟩:Addr))=A0 at aY |-;have ae:Hid (aAt [(⟨some ⟨w,0,none⟩,0,[]⟩:Row)]=pre okB (aAg r) (0+1)):=oH rfl;have b0:Hid ((pre okB (aAg r) 0).length=0):=oH rfl;generalize [(⟨some ⟨w,0,none⟩,0,[]⟩:Row)]=rows00 at aY ae;clear O0 O1 an;go_loopw [5,6,7] (fun ov fv nv wr=>∃(k fr n1:Nat) (rows:List Row) (A1:OA) (c1:Nat),nv=.int .i64 k/\fv=.int .i64 fr/\ov=.slice A1 n1 c1/\Hid (k<=n)/\Hid ((pre okB (aAg r) k).length=fr)/\Hid (aAt rows=pre okB (aAg r) (k+1))/\Hid (Grp wr w.heap.size w.heap.size w.heap.size A1 n1 c1 rows none [])/\Mid 0 0 w wr) (fun _ _ nv _=>n - (intOf nv).toNat)
 case atStart=>exact⟨0,0,1,rows00,A0,1,rfl,rfl,rfl,oH oZ,b0,ae,aY,aa⟩
 clear b0 ae aY aa;obtain⟨wo,bZ⟩:∃ wo,wo=wr:=⟨_,rfl⟩
 subst bZ;obtain⟨k,fr,n1,rows,A1,c1,rfl,rfl,rfl,HK,HF,HD,HG,hm⟩:=hrel;have bq:=HK.out;have au:n1=fr+(lay okB (aAg r) k).length:=by
  have h1:=HG.out.len;have h2:=congrArg List.length HD.out;rw[aAD,pre,List.length_append,HF.out] at h2;omega
 by_cases hlt:k<n
 .have bU:(k:Int)<(n:Int):=by omega
  obtain⟨ln,aV⟩:∃ ln,(lay okB (aAg r) k).length=ln:=⟨_,rfl⟩
  have br:ln<=7776:=by rw[<- aV];exact bF.out k oO
  have bi:fr<=40000:=by have h1:=al.out k oO;have h2:=HF.out;omega
  rw[aV] at au;have bX:0<ln:=by rw[<- aV];exact aUv bY k
  obtain⟨g0,bL,bS,aM⟩:=aAS HG.out.out (show 0<n1 by omega);subst bL;have bv:n1<=c1:=by obtain⟨_,_,e,h1,h2⟩:=aAc HG.out.out;injection e with _ _ e;omega
  have bg:c1<=maxLen:=by obtain⟨_,_,e,h1,h2⟩:=aAc HG.out.out;injection e with _ _ e;omega
  have bf:¬ c1=fr:=by omega
  have i1:(fr:Int)<=(n1:Int):=by omega
  have i2:(n1:Int)<=(c1:Int):=by omega
  have i3:(0:Int)<=(fr:Int):=by omega
  have ag:=oH aV;have ai:=oH au;clear aV au;have av:n1 - fr=ln:=by have:=ai.out;omega
  have aX:OldRows wo g0 rows:=⟨aM,fun j u hu=>(HG.out.out.cellAt j (by have h1:=(List.getElem?_eq_some_iff.1 hu).1;have h2:=HG.out.len;rw[aCx] at h1;omega)).trans hu⟩
  have a1:=oH aX;have bH:=oH HG.out.len;go_wp2_with fail;generalize (some (⟨g0,0,none⟩:Addr))=A2 at HG |-;have az:Hid (aAt rows=pre okB (aAg r) (k+1)++aAW okB (aAg r) ((lay okB (aAg r) k).take 0)):=oH (by rw[HD.out];simp[aAW]);clear aX av;go_loopw [5,27] (fun ov jv wr=>∃(j n2:Nat) (a2:List Row) (A3:OA) (c3:Nat),jv=.int .i64 j/\ov=.slice A3 n2 c3/\Hid (j<=ln)/\Hid (rows <+: a2)/\Hid (aAt a2=pre okB (aAg r) (k+1)++aAW okB (aAg r) ((lay okB (aAg r) k).take j))/\Hid (Grp wr w.heap.size w.heap.size w.heap.size A3 n2 c3 a2 none [])/\Hid (OldRows wr g0 rows)/\Mid 0 0 w wr) (fun _ jv _=>ln - (intOf jv).toNat)
  case atStart=>exact⟨0,n1,rows,A2,c1,rfl,rfl,oH oZ,oH (List.prefix_refl _),az,HG,a1,hm⟩
  clear HG a1 hm az bS aM;obtain⟨wp,ba⟩:∃ wp,wp=wr:=⟨_,rfl⟩
  subst ba;obtain⟨j,n2,a2,A3,c3,rfl,rfl,HJ,HPF,HD2,HG,a1,hm⟩:=hrel;have bp:=HJ.out;have bt:n2<=50000:=by
   have h1:=HG.out.len;have h2:=congrArg List.length HD2.out;have h3:=al.out (k+1) oO;have h4:=aES (f:=okB) (L:=aAg r) ((lay okB (aAg r) k).take j);have h5:((lay okB (aAg r) k).take j).length<=1296:=by
    have h6:=aKd (f:=okB) aT k;have h7:6 ^ k<=6 ^ 4:=Nat.pow_le_pow_right oO oO;rw[List.length_take];omega
   have h8:((lay okB (aAg r) k).take j).length * (aAg r).length<=1296 * 6:=Nat.mul_le_mul h5 aT;rw[aAD,List.length_append] at h2;omega
  by_cases hlt2:j<ln
  .obtain⟨wd,ad⟩:=aAy (lay okB (aAg r) k) (show j<(lay okB (aAg r) k).length by rw[ag.out];exact hlt2)
   obtain⟨aw,bA⟩:=aNv (oG ad);have bJ:=oH bA;have bn:(0:Int)<=(j:Int):=by omega
   have bo:(j:Int)<(ln:Int):=by omega
   obtain⟨rr,ab⟩:=aAy rows (show fr+j<rows.length by rw[bH.out];have:=ai.out;omega);have bB:rr.xs=wd:=by
    have h1:(aAt rows)[fr+j]?=some rr.xs:=by simp[aAt,ab]
    rw[HD.out,pre,List.getElem?_append_right (by rw[HF.out];omega),HF.out,Nat.add_sub_cancel_left,ad] at h1;injection h1 with h1
    exact h1.symm
   have b3:=a1.out.2 (fr+j) rr.v (by simp[aBi,ab]);have aM:=a1.out.1;have aR:rr∈a2:=HPF.out.subset (oG ab);have aB:=OV.rv (HG.out.rows.1 rr aR);have aN:=oH aR;obtain⟨Aw,cw,xw⟩:=rr;simp only at bB aB;subst bB;have aq:wp.cell? ⟨g0,fr+j,none⟩=some (.slice Aw k cw):=by rw[b3];simp only[Row.v,aw]
   have bI:=oH aB;have aE:=oH aw;have bG:=oH (aFH (f:=okB) (L:=aAg r) ad);clear b3 ab aR aB ad aw bA;go_wp2_with fail;with_reducible refine(aHA r _ oO).mono ?_
   rintro en w8 ⟨A8,c8,rfl,ao,aW⟩;have bx:=aW.size;replace HG:=oH (HG.out.mid aW);replace a1:=oH (a1.out.mid aW oZr);have b9:=hm.trans aW;obtain⟨LL,ap⟩:∃ LL,(aAg r).length=LL:=⟨_,rfl⟩
   rw[ap] at ao |-;have bO:LL<=6:=by omega
   have b1:=oH ap;have aC:=oH ao;have aA:Hid (aAt a2=(pre okB (aAg r) (k+1)++aAW okB (aAg r) ((lay okB (aAg r) k).take j))++aGN okB ((aAg r).take 0) xw):=oH (by rw[HD2.out];simp[aGN]);generalize wp.heap.size=Lp at aC;clear ao aW ap bI aq hm HD2;go_wp2_with fail;go_loopw [5,34] (fun ov iv wr=>∃(i n3:Nat) (a0:List Row) (A4:OA) (c4:Nat),iv=.int .i64 i/\ov=.slice A4 n3 c4/\Hid (i<=LL)/\Hid (rows <+: a0)/\Hid ((⟨Aw,cw,xw⟩:Row)∈a0)/\Hid (aAt a0=(pre okB (aAg r) (k+1)++aAW okB (aAg r) ((lay okB (aAg r) k).take j))++aGN okB ((aAg r).take i) xw)/\Hid (Grp wr w.heap.size w.heap.size w.heap.size A4 n3 c4 a0 none [])/\Hid (OldRows wr g0 rows)/\Hid (wr.ownsRow Lp 3 1 (.slice A8 LL c8) LL (aAe (aAg r)))/\Mid 0 0 w wr) (fun _ iv _=>LL - (intOf iv).toNat)
   case atStart=>exact⟨0,n2,a2,A3,c3,rfl,rfl,oH oZ,HPF,aN,aA,HG,a1,aC,b9⟩
   clear HG a1 aC aA HPF aN b9 aM;obtain⟨wq,bc⟩:∃ wq,wq=wr:=⟨_,rfl⟩
   subst bc;obtain⟨i,n3,a0,A4,c4,rfl,rfl,HI,HPF,HMEM,aA,HG,a1,aC,hm⟩:=hrel;have bm:=HI.out;have bu:n3<=60000:=by
    have h1:=HG.out.len;have h2:=congrArg List.length aA.out;have h3:=al.out (k+1) oO;have h4:=aES (f:=okB) (L:=aAg r) ((lay okB (aAg r) k).take j);have h5:((lay okB (aAg r) k).take j).length<=1296:=by
     have h6:=aKd (f:=okB) aT k;have h7:6 ^ k<=6 ^ 4:=Nat.pow_le_pow_right oO oO;rw[List.length_take];omega
    have h8:((lay okB (aAg r) k).take j).length * (aAg r).length<=1296 * 6:=Nat.mul_le_mul h5 aT;have h9:=aMe (f:=okB) (L:=(aAg r).take i) xw;have be:((aAg r).take i).length<=6:=by rw[List.length_take];omega
    rw[aAD,List.length_append,List.length_append] at h2;omega
   have aB:=OV.rv (HG.out.rows.1 _ HMEM.out);simp only at aB;by_cases hlt3:i<LL
   .obtain⟨x,hx⟩:=aAy (aAg r) (show i<(aAg r).length by rw[b1.out];exact hlt3)
    have bz:=aAU.1 (oG hx);have HX:=oH hx;obtain⟨g8,bM,bj,bT⟩:=aAS aC.out (show 0<LL by omega);subst bM;have bh:wq.cell? ⟨g8,i,none⟩=some (.int .i64 x):=(aC.out.cellAt i oO).trans (by rw[aAP,hx];rfl);have bk:(0:Int)<=(i:Int):=by omega
    have bl:(i:Int)<(LL:Int):=by omega
    clear hx;rcases List.eq_nil_or_concat xw with hnil|⟨ws,y,hcc⟩
    .have b5:k=0:=by have:=aE.out;rw[hnil] at this;exact this.symm
     have bV:((k:Int) == 0)=true:=by simp[b5]
     have aD:okB xw x=true:=by rw[hnil];rfl
     clear hnil b5;have aQ:=aHz Aw xw cw wq _ (aB.rs) aB.1 (by rw[aE.out];omega);rw[aE.out] at aQ;go_wp2_with fail;with_reducible refine aQ.mono ?_
     rintro en ax ⟨A10,bK,rfl,aJ,a4⟩;have a9:Mid 0 0 wq ax:=Mid.of_below a4;have aS:=a9.size;have a7:=oH aJ;clear aQ aJ a4 aB;go_wp2_with (at_builtin;refine MarkerX.to ?_)
     unfold MarkerX;refine aBp rfl _ _ rfl wq _ k _ xw rfl a7.out x rfl oO aS ?_;intro A12 a8 ay aK a5 aH;have a3:Mid 0 0 wq ay:=a9.transNew (oF a7.out a5) (Or.inl oN);have aL:=oH (aSk aK aE.out);have hu:Hid (Row.v ⟨A12,a8,xw++[x]⟩=.slice A12 (k+1) a8):=oH (by simp only[Row.v,List.length_append,aE.out,List.length_singleton]);clear aK a5 aH a9 a7;go_wp2_with (at_builtin;refine MarkerX.to ?_)
     unfold MarkerX;refine aHX rfl _ _ rfl rfl HG.out a3 a1.out HPF.out ⟨A12,a8,xw++[x]⟩ (.slice A12 (k+1) a8) hu.out aL.out rfl oO ?_;intro A14 am bd aF aG a6 aI;have af:=oH aF;have aj:=oH aG;have aP:=oH ((aAb aC.out a3 oZl).kept a6 (aBd (aAb aC.out a3 oZl) (HG.out.mid a3).out oD));have ar:=(hm.trans a3).transNew aI (Or.inl oN);have aO:Hid (aAt (a0++[(⟨A12,a8,xw++[x]⟩:Row)])=(pre okB (aAg r) (k+1)++aAW okB (aAg r) ((lay okB (aAg r) k).take j))++aGN okB ((aAg r).take (i+1)) xw):=oH (by
      rw[aMf HX.out aD,aAv,aA.out];simp[aAt])
     have ak:Hid (rows <+: a0++[(⟨A12,a8,xw++[x]⟩:Row)]):=oH (HPF.out.trans (List.prefix_append _ _));have ah:Hid ((⟨Aw,cw,xw⟩:Row)∈a0++[(⟨A12,a8,xw++[x]⟩:Row)]):=oH (List.mem_append_left _ HMEM.out);clear aF aG a6 aI a3 aL hu HG a1 aC aA HPF HMEM hm;go_wp2_with fail;go_roundw
     case rel=>exact⟨i+1,n3+1,_,A14,am,by go_num,rfl,oH oO,ak,ah,aO,af,aj,aP,ar⟩
     simp[intOf];omega
    have bW:k=ws.length+1:=by have:=aE.out;rw[hcc,List.length_concat] at this;exact this.symm
    have bV:((k:Int) == 0)=false:=by simp;omega
    obtain⟨m,b8⟩:∃ m,ws.length=m:=⟨_,rfl⟩
    have bU:(k:Int) - 1=(m:Int):=by omega
    have bC:y∈xw:=by rw[hcc];simp
    have c0:=aAU.1 (bJ.out y bC);have b4:xw[m]?=some y:=by rw[hcc,List.concat_eq_append,List.getElem?_append_right oO,<- b8];simp
    obtain⟨bw,ow,y',bN,bP,aZ,bR⟩:=aB.at (k:=m) (by rw[aE.out];omega);subst bN;rw[b4] at aZ;injection aZ with aZ
    subst aZ;have bQ:bw<wq.heap.size:=oT bP aB.1;have aa:(0:Int)<=(m:Int):=by omega
    have bs:(m:Int)<(k:Int):=by omega
    have aU:=aUE (w:=ws) (y:=y) (x:=x) oO oO oO;rw[<- List.concat_eq_append,<- hcc] at aU;have hA:=aCe y x wq oO oO;clear hcc bC b4 b8 bW;go_wp2_with fail;with_reducible refine hA.mono ?_
    rintro en w9 ⟨rfl,rfl⟩;obtain⟨bb,b2⟩:∃ bb,aFg y x=bb:=⟨_,rfl⟩
    rw[b2] at aU |-;clear b2 hA bR;cases bb
    rotate_left
    .have aD:okB xw x=false:=aU
     have aO:Hid (aAt a0=(pre okB (aAg r) (k+1)++aAW okB (aAg r) ((lay okB (aAg r) k).take j))++aGN okB ((aAg r).take (i+1)) xw):=oH (by rw[aON HX.out aD];exact aA.out);clear aA aU aD;go_wp2_with fail;go_roundw
     case rel=>exact⟨i+1,n3,a0,A4,c4,by go_num,rfl,oH oO,HPF,HMEM,aO,HG,a1,aC,hm⟩
     simp[intOf];omega
    have aD:okB xw x=true:=aU;clear aU;have aQ:=aHz (some ⟨bw,ow,none⟩) xw cw wq _ (aB.rs) aB.1 (by rw[aE.out];omega);rw[aE.out] at aQ;go_wp2_with fail;with_reducible refine aQ.mono ?_
    rintro en ax ⟨A10,bK,rfl,aJ,a4⟩;have a9:Mid 0 0 wq ax:=Mid.of_below a4;have aS:=a9.size;have a7:=oH aJ;clear aQ aJ a4 aB;go_wp2_with (at_builtin;refine MarkerX.to ?_)
    unfold MarkerX;refine aBp rfl _ _ rfl wq _ k _ xw rfl a7.out x rfl oO aS ?_;intro A12 a8 ay aK a5 aH;have a3:Mid 0 0 wq ay:=a9.transNew (oF a7.out a5) (Or.inl oN);have aL:=oH (aSk aK aE.out);have hu:Hid (Row.v ⟨A12,a8,xw++[x]⟩=.slice A12 (k+1) a8):=oH (by simp only[Row.v,List.length_append,aE.out,List.length_singleton]);clear aK a5 aH a9 a7;go_wp2_with (at_builtin;refine MarkerX.to ?_)
    unfold MarkerX;refine aHX rfl _ _ rfl rfl HG.out a3 a1.out HPF.out ⟨A12,a8,xw++[x]⟩ (.slice A12 (k+1) a8) hu.out aL.out rfl oO ?_;intro A14 am bd aF aG a6 aI;have af:=oH aF;have aj:=oH aG;have aP:=oH ((aAb aC.out a3 oZl).kept a6 (aBd (aAb aC.out a3 oZl) (HG.out.mid a3).out oD));have ar:=(hm.trans a3).transNew aI (Or.inl oN);have aO:Hid (aAt (a0++[(⟨A12,a8,xw++[x]⟩:Row)])=(pre okB (aAg r) (k+1)++aAW okB (aAg r) ((lay okB (aAg r) k).take j))++aGN okB ((aAg r).take (i+1)) xw):=oH (by
     rw[aMf HX.out aD,aAv,aA.out];simp[aAt])
    have ak:Hid (rows <+: a0++[(⟨A12,a8,xw++[x]⟩:Row)]):=oH (HPF.out.trans (List.prefix_append _ _));have ah:Hid ((⟨(some ⟨bw,ow,none⟩),cw,xw⟩:Row)∈a0++[(⟨A12,a8,xw++[x]⟩:Row)]):=oH (List.mem_append_left _ HMEM.out);clear aF aG a6 aI a3 aL hu HG a1 aC aA HPF HMEM hm;go_wp2_with fail;go_roundw
    case rel=>exact⟨i+1,n3+1,_,A14,am,by go_num,rfl,oH oO,ak,ah,aO,af,aj,aP,ar⟩
    simp[intOf];omega
   obtain rfl:LL=i:=by omega
   have aO:Hid (aAt a0=pre okB (aAg r) (k+1)++aAW okB (aAg r) ((lay okB (aAg r) k).take (j+1))):=oH (by have h:(aAg r).take LL=aAg r:=List.take_of_length_le (by rw[b1.out];exact oN);rw[bG.out,<- List.append_assoc,aA.out,h]);clear aA aB;go_wp2_with fail;go_roundw
   case rel=>exact⟨j+1,n3,a0,A4,c4,by go_num,rfl,oH oO,HPF,aO,HG,a1,hm⟩
   simp[intOf];omega
  obtain rfl:ln=j:=by omega
  have aA:Hid (aAt a2=pre okB (aAg r) (k+1+1)):=oH (by rw[HD2.out,List.take_of_length_le (by rw[ag.out];exact oN)];rfl);have bD:Hid ((pre okB (aAg r) (k+1)).length=n1):=oH (by rw[pre,List.length_append,HF.out,ag.out];exact ai.out.symm);clear HD2 a1 HPF;go_wp2_with fail;go_roundw
  case rel=>exact⟨k+1,n1,n2,a2,A3,c3,by go_num,rfl,rfl,oH oO,bD,aA,HG,hm⟩
  simp[intOf];omega
 obtain rfl:n=k:=by omega
 have b6:=HG.out.len;have b7:(pre okB (aAg r) (n+1)).length=n1:=by rw[<- HD.out,aAD,b6]
 have HO:=oH (OSS.mk' HG.out.out (HG.out.rows.wide HG.out.lob oN oN) HD.out);have bE:=oH b7;clear b6 b7;go_wp2_with fail;go_ret;exact⟨A1,c1,by rw[bE.out];rfl,HO.out,hm⟩
def IsMor(rk:Int)(d:LL):Prop:=1<=rk/\rk<=3/\(d.length:Int)=rk/\∀ xs∈d,IsW rk xs
def WordsTo(rk:Int)(d:LL)(k:Nat):Prop:=∀ j xs,j<k->d[j]?=some xs->IsW rk xs
theorem WordsTo.zero(rk:Int)(d:LL):WordsTo rk d 0:=fun j x h=>absurd h (Nat.not_lt_zero j)
theorem WordsTo.succ{rk:Int}{d:LL}{k:Nat}{x:LI}(h:WordsTo rk d k)(hx:d[k]?=some x)(hl:IsW rk x):WordsTo rk d (k+1):=by
 intro j z hj hz;rcases Nat.lt_or_eq_of_le (Nat.le_of_lt_succ hj) with h1|rfl
 .exact h j z h1 hz
 rw[hx] at hz;obtain rfl:=Option.some.inj hz;exact hl
theorem aDW{rk:Int}{d:LL}:WordsTo rk d d.length↔∀ xs∈d,IsW rk xs:=by
 constructor
 .intro h x hx
  obtain⟨j,hj⟩:=List.mem_iff_getElem?.1 hx;exact h j x (List.getElem?_eq_some_iff.1 hj).1 hj
 exact fun h j x _ hx=>h x (oG hx)
theorem aDs(p:Prop):∃ r:Bool,r=true↔p:=by
 by_cases h:p
 .exact⟨true,by simp[h]⟩
 exact⟨false,by simp[h]⟩
theorem aPP{d:LL}{xs:LI}(h:xs∈d)(hl:d.length+aAK d<=1048576):xs.length<=4194304:=by
 have:=aBm h;omega
theorem aAq(rk:Int)(A:OA)(d:LL)(c:Nat)(w:World)(lo hi:Nat)(hr:RSS w lo hi A d)(a6:OkSS d)(hl:d.length+aAK d<=1048576)(r:Bool)(a3:r=true↔IsMor rk d) :
  Calls Tryz.prog 64 #[.agg #[rk,.slice A d.length c]] w (Stp (.bool r) w):=by
 have aB:=oH a6;have HR:=oH a3;clear a6 a3;have a2:Mid 0 0 w (w.alloc (.cells #[rk,.slice A d.length c] 76)):=oE _ _;have a4:=oJ w #[rk,.slice A d.length c] 76;have a7:=hr.mid a2 oZl;go_enter Tryz.func64,Tryz.ntmps64
 go_wp2_with fail;obtain⟨wb,aA⟩:∃ wb,wb=w.alloc (.cells #[.int .i64 rk,.slice A d.length c] 76):=⟨_,rfl⟩
 rw[<- aA] at a2 a4 a7 |-;clear aA hr;have k0:=a4.cell 0 rfl;have k1:=a4.cell 1 rfl;go_loopw [3] (fun i wr=>∃ k:Nat,k<=d.length/\i=.int .i64 k/\(∃ n,wr=wb.drewN n)/\WordsTo rk d k) (fun i _=>d.length - (intOf i).toNat)
 case atStart=>exact⟨0,oZ,rfl,⟨0,rfl⟩,WordsTo.zero _ _⟩
 obtain⟨k,hk,rfl,⟨nd,rfl⟩,a9⟩:=hrel;have HT:=oH a9;clear a9;by_cases hlt:k<d.length
 .obtain⟨b,aE,A',c',xs,rfl, -, -,hx,hc,a8⟩:=a7.row hlt
  have hm:=oG hx;have aD:=aPP hm hl;have a5:=aB.out.2 xs hm;have HX:=oH hx;have HM:=oH hm;clear hx hm;obtain⟨v,hv⟩:=aDs (IsW rk xs);have hC:=fun n:Nat=>aCi rk A' xs c' (wb.drewN n) _ (a8.rs.drewN n) a5 aD v hv;have HV:=oH hv;have HC:=oH hC;have HO:=oH a5;clear hC hv a5 a8;have aC:(k:Int)<(d.length:Int):=by omega
  cases v
  .have hf:r=false:=by
    cases r
    .rfl
    have:=HV.out.2 ((HR.out.1 rfl).2.2.2 xs HM.out);cases this
   subst hf;go_wp2_with fail;go_quiet ((go_at_call 101;first|exact qz0 (HC.out _)|exact qz1 (HC.out _)))
   go_wp2_with fail;go_ret;exact⟨rfl,(a2.drewN nd).drewN _⟩
  have hw:=HV.out.1 rfl;have HW:=oH hw;clear hw HV;go_wp2_with fail;go_quiet ((go_at_call 101;first|exact qz0 (HC.out _)|exact qz1 (HC.out _)))
  go_wp2_with fail;go_roundw
  case rel=>exact⟨k+1,oO,by go_num,⟨_,by first|rfl|exact dn _ _ _⟩,HT.out.succ HX.out HW.out⟩
  simp[intOf];omega
 obtain rfl:k=d.length:=by omega
 have a0:r=(inB rk 1 3 && ((d.length:Int) == rk)):=by
  rw[Bool.eq_iff_iff,HR.out];simp only[Bool.and_eq_true,beq_iff_eq,inB,decide_eq_true_eq];exact⟨fun h=>⟨⟨h.1,h.2.1⟩,h.2.2.1⟩,fun h=>⟨h.1.1,h.1.2,h.2,aDW.1 HT.out⟩⟩
 by_cases hib:inB rk 1 3=false
 .rw[hib] at a0
  have HI:=oH hib;clear hib;simp only[Bool.false_and] at a0;subst a0;go_wp2_with fail;refine(aBw _ _ _ _).mono ?_;rintro e w' ⟨rfl,rfl⟩;rw[HI.out];go_wp2_with fail;go_ret;exact⟨rfl,a2.drewN _⟩
 have a1:inB rk 1 3=true:=by simpa using hib
 rw[a1] at a0;have HI:=oH a1;simp only[Bool.true_and] at a0;clear hib a1;cases r
 .have hq:((d.length:Int) == rk)=false:=a0.symm
  clear a0;go_wp2_with fail;refine(aBw _ _ _ _).mono ?_;rintro e w' ⟨rfl,rfl⟩;rw[HI.out];go_wp2_with fail;go_ret;exact⟨rfl,a2.drewN _⟩
 have hq:((d.length:Int) == rk)=true:=a0.symm;clear a0;go_wp2_with fail;refine(aBw _ _ _ _).mono ?_;rintro e w' ⟨rfl,rfl⟩;rw[HI.out];go_wp2_with fail;go_ret;exact⟨rfl,a2.drewN _⟩
theorem aAs(rk:Int)(A:OA)(d:LL)(c:Nat)(w:World)(lo hi:Nat)(hr:RSS w lo hi A d)(a7:OkSS d)(hl:d.length+aAK d<=1048576)(r:Bool)(a2:r=true↔IsMor rk d) :
  Calls Tryz.prog 63 #[.agg #[rk,.slice A d.length c]] w (Stp (.bool r) w):=by
 have aE:=oH a7;have HR:=oH a2;clear a7 a2;have a0:Mid 0 0 w (w.alloc (.cells #[rk,.slice A d.length c] 76)):=oE _ _;have a3:=oJ w #[rk,.slice A d.length c] 76;have a9:=hr.mid a0 oZl;clear hr;by_cases hib:inB rk 1 3=false
 .have hf:r=false:=by
   cases r
   .rfl
   have h:=HR.out.1 rfl;simp[inB] at hib;have:=h.1;have:=h.2.1;omega
  subst hf;have HI:=oH hib;clear hib;go_enter Tryz.func63,Tryz.ntmps63
  go_wp2_with fail;refine(aAu _ _ _ _).mono ?_;rintro e w' ⟨rfl,rfl⟩;rw[HI.out];go_wp2_with fail;go_ret;exact⟨rfl,a0⟩
 have a1:inB rk 1 3=true:=by simpa using hib
 have HI:=oH a1;clear hib a1;by_cases hq:((d.length:Int) != rk)=true
 .have hf:r=false:=by
   cases r
   .rfl
   have h:=HR.out.1 rfl;simp at hq;exact absurd h.2.2.1 hq
  subst hf;go_enter Tryz.func63,Tryz.ntmps63
  go_wp2_with fail;refine(aAu _ _ _ _).mono ?_;rintro e w' ⟨rfl,rfl⟩;rw[HI.out];go_wp2_with fail;go_ret;exact⟨rfl,a0⟩
 have aF:((d.length:Int) != rk)=false:=by simpa using hq
 have aA:r=true↔WordsTo rk d d.length:=HR.out.trans ⟨fun h=>aDW.2 h.2.2.2,fun h=>by
  have a5:1<=rk/\rk<=3:=by simpa [inB] using HI.out
  exact⟨a5.1,a5.2,by simpa using aF,aDW.1 h⟩⟩
 have a4:=oH aA;clear aA HR hq;go_enter Tryz.func63,Tryz.ntmps63
 go_wp2_with fail;refine(aAu _ _ _ _).mono ?_;rintro e w' ⟨rfl,rfl⟩;rw[HI.out];go_wp2_with fail;obtain⟨wb,aD⟩:∃ wb,wb=w.alloc (.cells #[.int .i64 rk,.slice A d.length c] 76):=⟨_,rfl⟩
 rw[<- aD] at a0 a3 a9 |-;clear aD;have k0:=a3.cell 0 rfl;have k1:=a3.cell 1 rfl;go_loop [4,20] (fun _ i=>∃ k:Nat,k<=d.length/\i=.int .i64 k/\WordsTo rk d k) (fun _ i=>d.length - (intOf i).toNat)
 case atStart=>exact⟨0,oZ,rfl,WordsTo.zero _ _⟩
 obtain⟨k,hk,rfl,aC⟩:=hrel;have HT:=oH aC;clear aC;by_cases hlt:k<d.length
 .obtain⟨b,aG,A',c',xs,rfl, -, -,hx,hc,aB⟩:=a9.row hlt
  have hm:=oG hx;have a6:=aPP hm hl;have a8:=aE.out.2 xs hm;have HX:=oH hx;have HM:=oH hm;clear hx hm;obtain⟨v,hv⟩:=aDs (IsW rk xs);have HV:=oH hv;have HO:=oH a8;clear hv a8;cases v
  .have hf:r=false:=by
    cases r
    .rfl
    have:=HV.out.2 (a4.out.1 rfl k xs hlt HX.out);cases this
   subst hf;go_wp2_with fail;refine(aBP rk A' xs c' _ _ aB.rs HO.out a6 _ HV.out).mono ?_;rintro e w' ⟨rfl,rfl⟩;go_wp2_with fail;go_ret;exact⟨rfl,a0⟩
  have hw:=HV.out.1 rfl;have HW:=oH hw;clear hw HV;go_wp2_with fail;refine(aBP rk A' xs c' _ _ aB.rs HO.out a6 true (oX rfl HW.out)).mono ?_;rintro e w' ⟨rfl,rfl⟩;go_wp2_with fail;go_round
  case rel=>exact⟨k+1,oO,by go_num,HT.out.succ HX.out HW.out⟩
  simp[intOf];omega
 obtain rfl:k=d.length:=by omega
 obtain rfl:r=true:=a4.out.2 HT.out;go_wp2_with fail;go_ret;exact⟨rfl,a0⟩
def aFx(r:Int)(d:LL)(res:Bool):Prop:=res=true↔IsMor r d
theorem aJD(r:Int)(d:LL)(_:(Lit.int .i64 r).wf=true)(_:OkSS d)(_:d.length+aAK d<=1048576):∃ res,aFx r d res:=aDs _
theorem aFl(r:Int)(A:OA)(d:LL)(c:Nat)(w:World)(lo hi:Nat)(h:RSS w lo hi A d)(_b:(Lit.int .i64 r).wf=true)(_o:OkSS d)(hl:d.length+aAK d<=1048576)(a1:Bool)(a0:aFx r d a1) :
  Calls Tryz.prog 64 #[.agg #[r,.slice A d.length c]] w (Stp (.bool a1) w):=aAq r A d c w lo hi h _o hl a1 a0
theorem aFi(r:Int)(A:OA)(d:LL)(c:Nat)(w:World)(lo hi:Nat)(h:RSS w lo hi A d)(_b:(Lit.int .i64 r).wf=true)(_o:OkSS d)(hl:d.length+aAK d<=1048576)(a1:Bool)(a0:aFx r d a1) :
  Calls Tryz.prog 63 #[.agg #[r,.slice A d.length c]] w (Stp (.bool a1) w):=aAs r A d c w lo hi h _o hl a1 a0
def aUY(w wr:World)(v:Value)(out:LI):Prop:=wr.ownsRow w.heap.size 3 1 v out.length (aAe out)/\Below w.heap.size w wr
theorem aEe(A:OA)(d:LL)(c:Nat)(w:World)(lo hi:Nat)(hr:RSS w lo hi A d)(aM:∀ xs∈d,OkI xs)(hl:d.length<=4194304)(hs:aAK d<=268435456) :
  Calls Tryz.prog 110 #[.slice A d.length c] w fun e w'=>RetI 3 (red [] d.flatten) w e w':=by
 have aF:=oH aM;clear aM;have aP:=(Below.refl w w).alloc oN (.cells #[] 3);have aU:=aAd w 3 1;go_enter Tryz.func110,Tryz.ntmps110
 go_wp2_with fail;go_loopw [3,5,7,11] (fun v _ _ i wr=>∃ k:Nat,k<=d.length/\i=.int .i64 k/\aUY w wr v (red [] (d.take k).flatten)) (fun _ _ _ i _=>d.length - (intOf i).toNat)
 case atStart=>exact⟨0,oZ,rfl,by simpa [red,aAe] using aU,aP⟩
 obtain⟨k,hk,rfl,a0,hb⟩:=hrel;by_cases hlt:k<d.length
 .obtain⟨b,aW,A',c',xs,rfl, -,aZ,hx,hc,aV⟩:=hr.row hlt
  have aR:=hr.size;have aQ:wr.cell? ⟨b,aW+k,none⟩=some (.slice A' xs.length c'):=(hb.cell (by simp;omega)).trans hc;have hm:=oG hx;have aN:=aF.out xs hm;have aS:=aBm hm;have aT:xs.length<=268435456:=by omega
  obtain⟨a2,a1⟩:∃ o,o=red [] (d.take k).flatten:=⟨_,rfl⟩
  have a5:=aIY d hx;rw[<- a1] at a0 a5;have a8:OkI a2:=by
   rw[a1];exact aNH (aKg fun ys hy=>aF.out ys (List.mem_of_mem_take hy))
  have ad:a2.length+xs.length<=268435456:=by
   have h1:=aBu (d.take k).flatten;rw[<- a1,aFT] at h1;have h2:=aBI hx;have h3:=aCl d (k+1);omega
  have HX:=oH hx;have HS:=oH a5;have aO:=oH a8;have aG:=oH aN;clear hx hm aN a1 a5 a8 aS;go_wp2_with fail;go_loopw [3,7,17] (fun v _ j wr2=>∃ l:Nat,l<=xs.length/\j=.int .i64 l/\aUY w wr2 v (red a2 (xs.take l))) (fun _ _ j _=>xs.length - (intOf j).toNat)
  case atStart=>exact⟨0,oZ,rfl,a0,hb⟩
  clear a0 hb aQ;obtain⟨l,ae,rfl,a0,hb⟩:=hrel;have a9:=hb.size;by_cases hl2:l<xs.length
  .obtain⟨b',aX,x,rfl, -,aE,ab⟩:=((aV.rs.more aR).below hb).int hl2
   have aD:=aPO xs aE a2;have aL:=aG.out x (oG aE);have a3:=aMr a2 (xs.take l);rw[List.length_take] at a3;obtain⟨a7,aC⟩:∃ o,o=red a2 (xs.take l):=⟨_,rfl⟩
   rw[<- aC] at a0 aD a3;have a6:OkI a7:=fun y hy=>by
    rw[aC] at hy;rcases aIu hy with h1|h1
    .exact aO.out y h1
    .exact aG.out y (List.mem_of_mem_take h1)
   clear aC aE;have aA:=oH aD;have aY:=oH aL;clear aD aL;rcases Nat.eq_zero_or_pos a7.length with he|hp
   .obtain rfl:=List.eq_nil_of_length_eq_zero he
    clear he a6 a3;obtain⟨A1,c1,rfl, -, -⟩:=aAc a0;go_wp2_with (at_builtin;refine aAk rfl _ _ 44 rfl w 3 (.int .i64 0) 1 8 aBo aBs rfl oD _ _ _ rfl a0 1 [x] rfl rfl (aAm [x]) (by unfold maxLen;simp) oM a9 ?n1)
    case n1=>
     intro v' w1 a4 aB _;go_wp2_with fail;go_roundw
     case rel=>
      refine⟨l+1,oO,by go_num,?_,hb.grown aB a9 (fun g hg=>(a0.lt g hg).1)⟩;rw[aA.out,aBT];exact a4
     simp[intOf];omega
   .obtain⟨ys,a,rfl⟩:=aMV a7 hp
    have aK:=a6 a oM;rw[List.length_append] at a0 a3;simp only[List.length_cons,List.length_nil,Nat.zero_add] at a0 a3;clear hp a6;obtain⟨A1,c1,rfl,af, -⟩:=aAc a0;obtain⟨g,rfl, -, -⟩:=aAS a0 (Nat.succ_pos _);have aa:wr.cell? ⟨g,ys.length,none⟩=some (.int .i64 a):=by
     rw[a0.cellAt ys.length oO];simp[aAe]
    have HA:=oH aK;obtain⟨aI,aJ⟩:=aK;by_cases hI:aFg a x=true
    .have HI:=oH hI
     clear hI;have ag:ys.length<=c1:=by omega
     go_wp2_with fail;refine(aCe _ _ _ aI aJ).mono ?_;rintro e w' ⟨rfl,rfl⟩;rw[HI.out];go_wp2_with fail;go_roundw
     case rel=>
      refine⟨l+1,oO,by go_num,?_,hb⟩;rw[aA.out,aBt HI.out];have h1:=aHK a0 (Nat.le_succ ys.length);rw[Nat.mul_one,aAi,List.take_left' (aAB ys)] at h1;exact h1
     simp[intOf];omega
    .have aH:aFg a x=false:=by simpa using hI
     have HI:=oH aH;clear hI aH;go_wp2_with fail;refine(aCe _ _ _ aI aJ).mono ?_;rintro e w' ⟨rfl,rfl⟩;rw[HI.out];go_wp2_with (at_builtin;refine aAk rfl _ _ 44 rfl w 3 (.int .i64 0) 1 8 aBo aBs rfl oD _ _ _ rfl a0 1 [x] rfl rfl (aAm [x]) (by unfold maxLen;omega) oO a9 ?n2)
     case n2=>
      intro v' w1 a4 aB _;go_wp2_with fail;go_roundw
      case rel=>
       refine⟨l+1,oO,by go_num,?_,hb.grown aB a9 (fun g hg=>(a0.lt g hg).1)⟩;rw[aA.out,aAT HI.out,aAi,List.length_append,List.length_append];exact a4
      simp[intOf];omega
  obtain rfl:l=xs.length:=by omega
  rw[List.take_length] at a0;go_wp2_with fail;go_roundw
  case rel=>
   refine⟨k+1,oO,by go_num,?_,hb⟩;rw[HS.out];exact a0
  simp[intOf];omega
 obtain rfl:k=d.length:=by omega
 rw[List.take_length] at a0;go_wp2_with fail;go_ret;exact RetI.mk rfl a0 hb
end Go.Proofs.YtkimajabegojoaaGreat
