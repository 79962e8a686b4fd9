/- Lemmas. -/
import Derived.Test.YtkimajabegojoaaGreatMo8
import Derived.Test.YtkimajabegojoaaGreatMo3
import Derived.Test.YtkimajabegojoaaGreatMo1
import Derived.Test.YtkimajabegojoaaGreatMo4
import Derived.Test.YtkimajabegojoaaGreatMo7
import Derived.Test.YtkimajabegojoaaGreatMo5
import Derived.Test.YtkimajabegojoaaGreatMo6
namespace Go.Proofs.YtkimajabegojoaaGreat
set_option linter.unusedVariables false
set_option linter.unusedSimpArgs false
set_option maxHeartbeats 40000000
set_option maxRecDepth 100000
open Go.RowKit
theorem aOZ(r n:Nat)(A:OA)(es:List Ed)(c:Nat)(pa pb:Nat)(el:Int)(w:World)(lo hi:Nat)(hr:RG w lo hi A es)(aD:IsCor r n es)(he:(⟨(pa:Int),el,(pb:Int)⟩:Ed)∈es) :
  Calls Tryz.prog 226 #[aAJ r n A es.length c,.agg #[.int .i64 (pa:Int),.int .i64 el,.int .i64 (pb:Int)]] w fun e w'=>∃ A1 c1,e=.returned (.slice A1 (basisW r es ⟨(pa:Int),el,(pb:Int)⟩).length c1)/\w'.ownsRow w.heap.size 3 1 (.slice A1 (basisW r es ⟨(pa:Int),el,(pb:Int)⟩).length c1) (basisW r es ⟨(pa:Int),el,(pb:Int)⟩).length (aAe (basisW r es ⟨(pa:Int),el,(pb:Int)⟩))/\Mid 0 0 w w':=by
 have bQ:n<=40:=by have:=aD.gr.size;omega
 have hl:=aD.gr.len;have av:=aD.gr.all _ he;unfold InG at av;simp only at av;have bT:r<=3:=by have:=aD.gr.rank;omega
 have bA:pa<n:=by omega
 have bB:pb<n:=by omega
 have bS:-3<=el/\el<=3:=by omega
 obtain⟨bM,aO⟩:=aFc aD bA;obtain⟨bN,aP⟩:=aFc aD bB;have ap:=fun W h=>aHV r n pa A es c W lo hi h aD bA;have aq:=fun W h=>aHV r n pb A es c W lo hi h aD bB;have a7:basisW r es ⟨(pa:Int),el,(pb:Int)⟩=red [] (wordV r es (pa:Int)++[el]++aAE (wordV r es (pb:Int))):=rfl;generalize wordV r es (pa:Int)=wa at bM aO ap a7;generalize wordV r es (pb:Int)=wb at bN aP aq a7;generalize basisW r es ⟨(pa:Int),el,(pb:Int)⟩=bw at a7 |-;have ad:OkI wa:=fun x hx=>by have:=aAU.1 (aO x hx);omega
 have ae:OkI wb:=fun x hx=>by have:=aAU.1 (aP x hx);omega
 have af:OkI (wa++[el]):=by
  intro y hy;rcases List.mem_append.1 hy with h|h
  .exact ad y h
  simp at h;subst h;omega
 have aF:=oH ae;have aY:=oH af;have b2:=oH ap;have b3:=oH aq;have aW:=oH a7;have bI:=oH aD;have bJ:=oH he;clear aD ap aq a7 aO aP ad ae af av he;have aa:Mid 0 0 w ((w.alloc (.cells #[r,n,.slice A es.length c] 35)).alloc (.cells #[.int .i64 (pa:Int),el,.int .i64 (pb:Int)] 110)):=(oE _ _).trans (oE _ _);have B0:=(oJ w #[r,n,.slice A es.length c] 35).mid (oE _ (.cells #[.int .i64 (pa:Int),el,.int .i64 (pb:Int)] 110)) oZr;have B1:=oJ (w.alloc (.cells #[r,n,.slice A es.length c] 35)) #[.int .i64 (pa:Int),el,.int .i64 (pb:Int)] 110;simp only[World.size_alloc] at B1;go_enter Tryz.func226,Tryz.ntmps226
 go_wp2_with fail;generalize (w.alloc (.cells #[r,n,.slice A es.length c] 35)).alloc (.cells #[.int .i64 (pa:Int),el,.int .i64 (pb:Int)] 110)=w1 at aa B0 B1 |-;have bU:w.heap.size+1<w1.heap.size:=B1.1;go_loopw [5,6] (fun v j wq=>∃ m:Nat,∃ vb:Bool,m<=es.length/\j=.int .i64 m/\v=.bool vb/\Hid (vb=true↔(⟨(pa:Int),el,(pb:Int)⟩:Ed)∈es.take m)/\Mid 0 0 w1 wq) (fun _ j _=>es.length - (intOf j).toNat)
 case atStart=>exact⟨0,false,oZ,rfl,rfl,oH oM,Mid.refl _ _ _⟩
 obtain⟨m,vb,bP,rfl,rfl,HV,aJ⟩:=hrel;have ba:=B0.mid aJ oZr;have bb:=B1.mid aJ oZr;have P2:=ba.cell 2 rfl;obtain⟨Q0,Q1,Q2⟩:=bb.c3 rfl;by_cases hlm:m<es.length
 .obtain⟨B',bR,f,bK, -,au,b7,f0,f1,f2⟩:=(hr.mid (aa.trans aJ) oZl).ed hlm
  subst bK;have bY:B'<wr.heap.size:=oT au (oV hr.1 (aa.trans aJ).size);have p2:=aAf ba.1 P2;have q0:=aAf bb.1 Q0;have q1:=aAf bb.1 Q1;have q2:=aAf bb.1 Q2;have z0:=aAf (by show B'<wr.heap.size;omega) f0;have z1:=aAf (by show B'<wr.heap.size;omega) f1;have z2:=aAf (by show B'<wr.heap.size;omega) f2;have bO:(0:Int)<=(m:Int):=by omega
  have a0:(m:Int)<(es.length:Int):=by omega
  obtain⟨d,hd⟩:∃ d,decide (f=⟨(pa:Int),el,(pb:Int)⟩)=d:=⟨_,rfl⟩
  have hq:=aHl f ⟨(pa:Int),el,(pb:Int)⟩ hd;have hg:=aJT f ⟨(pa:Int),el,(pb:Int)⟩;have HD:=oH hd;have b4:=oH b7;clear b7 hd;cases vb
  .go_wp2_with fail
   refine wqg ?_;repeat
    (with_reducible refine wpQuiet_step (fun K hK=>?_))
    go_simp
    first|(with_reducible refine hK _ ?_)|(rw[if_neg oD];(with_reducible refine hK _ ?_))|(apply Exists.intro;refine⟨fun _=>?_,hK _ ?_⟩;(fail))
    clear hK K
   with_reducible refine wpQuiet_nil ?_
   rintro _ ⟨⟨nq,osq⟩,rfl⟩;go_wp2_with fail;go_roundw
   case rel=>
    refine⟨m+1,d,oO,by go_num,rfl,oH ?_,aJ.trans (Mid.ofWg _ _ _)⟩;rw[aDv b4.out,<- HD.out,decide_eq_true_iff];have hn:¬ (⟨(pa:Int),el,(pb:Int)⟩:Ed)∈es.take m:=fun h=>by have:=HV.out.2 h;cases this
    exact⟨fun h=>.inr h.symm,fun h=>(h.resolve_left hn).symm⟩
   simp[intOf];omega
  have HM:=oH (HV.out.1 rfl);clear HV;go_wp2_with fail;refine wqg ?_;repeat
   (with_reducible refine wpQuiet_step (fun K hK=>?_))
   go_simp
   first|(with_reducible refine hK _ ?_)|(rw[if_neg oD];(with_reducible refine hK _ ?_))|(apply Exists.intro;refine⟨fun _=>?_,hK _ ?_⟩;(fail))
   clear hK K
  with_reducible refine wpQuiet_nil ?_
  rintro _ ⟨⟨nq,osq⟩,rfl⟩;go_wp2_with fail;go_roundw
  case rel=>exact⟨m+1,true,oO,by go_num,rfl,oH (oX rfl ((aDv b4.out).2 (.inl HM.out))),aJ.trans (Mid.ofWg _ _ _)⟩
  simp[intOf];omega
 obtain rfl:m=es.length:=by omega
 obtain rfl:vb=true:=HV.out.2 (by rw[List.take_length];exact bJ.out);have aw:=aa.trans aJ;have bV:=aJ.size;have P0:=ba.cell 0 rfl;have P1:=ba.cell 1 rfl;clear B0 B1 aJ aa HV;go_wp2_with fail;with_reducible refine(aAY r n A es c wr lo hi (hr.mid aw oZl) oO true (oX rfl bI.out.fol)).mono ?_
 rintro en w2 ⟨rfl,b8⟩;have aV:=b8.trans (Mid.drew1 w2);have ak:=ba.mid aV oZr;have al:=bb.mid aV oZr;have ab:=aw.trans aV;have bC:=aV.size;clear P0 P1 P2 Q0 Q1 Q2 ba bb aw b8;go_wp2_with fail;obtain⟨p0,p1,p2⟩:=ak.c3 rfl;obtain⟨q0,q1,q2⟩:=al.c3 rfl;have am:=ak.1;have an:=al.1;refine aAo (S:=(fun w'=>w'.cell? ⟨w,0,none⟩=some (.int .i64 r)/\w'.cell? ⟨w,1,none⟩=some (.int .i64 n)/\w'.cell? ⟨w,2,none⟩=some (.slice A es.length c)/\w'.cell? ⟨w.heap.size+1,0,none⟩=some (.int .i64 (pa:Int))/\w'.cell? ⟨w.heap.size+1,1,none⟩=some (.int .i64 el)/\w'.cell? ⟨w.heap.size+1,2,none⟩=some (.int .i64 (pb:Int)))) [14] oK ⟨p0,p1,p2,q0,q1,q2⟩ ?_;generalize World.drew w2=wz at p0 p1 p2 q0 q1 q2 ab am an aV bC ak al |-;have hK:∀ W,Mid 0 0 wz W->(W.cell? ⟨w,0,none⟩=some (.int .i64 r)/\W.cell? ⟨w,1,none⟩=some (.int .i64 n)/\W.cell? ⟨w,2,none⟩=some (.slice A es.length c)/\W.cell? ⟨w.heap.size+1,0,none⟩=some (.int .i64 (pa:Int))/\W.cell? ⟨w.heap.size+1,1,none⟩=some (.int .i64 el)/\W.cell? ⟨w.heap.size+1,2,none⟩=some (.int .i64 (pb:Int))):=fun W m=>⟨aAa m am oZr p0,aAa m am oZr p1,aAa m am oZr p2,aAa m an oZr q0,aAa m an oZr q1,aAa m an oZr q2⟩
 have aH:=hK wz (Mid.refl 0 0 wz);have b6:RG wz lo hi A es:=hr.mid ab oZl;have bW:w.heap.size<=wz.heap.size:=ab.size;have aN:∀ u∈[Value.int .i64 el],u.oneCell'=true:=by
  intro u hu;simp at hu;subst hu
  rfl
 have a3:wa.length+1<=maxLen:=by unfold maxLen;omega
 have aZ:(wa.length+1) * 8<=140737488355328:=by omega
 clear ak al aV bC;refine tkZ [3,7,13,14] 0 rfl aH ?_;try simp only[oP]
 refine tkZ [2,3,7,13,14] 1 rfl aH ?_;try simp only[oP]
 refine tkZ [3,7,13,14] 2 rfl aH ?_;try simp only[oP]
 refine tkZ [5,6,7,13,14] 4 rfl aH ?_;try simp only[oP]
 refine tkZ [6,7,13,14] 5 rfl aH ?_;try simp only[oP]
 refine tkZ [11,12,13,14] 8 rfl aH ?_;try simp only[oP]
 refine tkZ [10,11,12,13,14] 9 rfl aH ?_;try simp only[oP]
 refine tkZ [11,12,13,14] 10 rfl aH ?_;try simp only[oP]
 have aU:=Mid.refl 0 0 wz;have HK:=oH hK;have aj:=oH b6;clear hK b6 aH p0 p1 p2 q0 q1 q2;refine aBb (rs:=[3,6]) oK oM (AllReadyZ.cons rfl (fun K hK=>?_) (AllReadyZ.cons rfl (fun K hK=>?_) AllReadyZ.nil));focus
  (go_simp;(with_reducible refine(b2.out _ (aj.out.mid aU oZl)).mono ?_);rintro en x1 ⟨A1,c1,rfl,ho,a0⟩;go_wp2_with fail)
  refine hK.out _ _ (Or.inr (HK.out _ (aU.trans a0))) (fun _=>?_);clear hK K;try simp only[oP]
  have a3:=aU.trans a0;have bD:=a0.size;have a5:=oH (aAh ho aU.size);obtain⟨s3,ay⟩:∃ s,s=x1.heap.size:=⟨_,rfl⟩
  have bL:∀ g,Value.ownBlock (.slice A1 wa.length c1)=some g->g<s3:=fun g hg=>by have:=(ho.lt g hg).2;omega
  have a1:s3<=x1.heap.size:=by omega
  clear ay;clear ho a0;refine rdZ 6 rfl (fun K hK=>?_);go_simp;refine hK.out _ _ (Or.inr (HK.out _ (a3.trans (oE x1 (.cells #[el] 3))))) (fun _=>?_);clear hK K;try simp only[oP]
  have aC:=oE x1 (.cells #[el] 3);have aB:=a3.trans aC;replace a5:=oH (aAb a5.out aC oZl);have a8:(x1.alloc (.cells #[el] 3)).cell? ⟨x1,0,none⟩=some (.int .i64 el):=World.cell?_alloc_at _ _ _ _ rfl;have aE:x1.heap.size<(x1.alloc (.cells #[el] 3)).heap.size:=by simp
  have ag:=aC.size;generalize x1.alloc (.cells #[el] 3)=x2 at aC aB a8 aE ag a5 |-;generalize hp6e:x1.heap.size=p6 at a8 aE |-;replace a1:s3<=x2.heap.size:=by omega
  clear hp6e aC a3;refine rdZ 7 rfl (fun K hK=>?_)
  (refine aAV (by rfl) (.tmp 35) (.tmp 38) 44 (by rfl) wz.heap.size 3 (.int .i64 0) 1 8 aBo aBs rfl oD (.slice A1 wa.length c1) wa.length _ (by rfl) a5.out (some ⟨p6,0,none⟩) 1 1 _ [el] (by rfl) (aGy a8) rfl aN a3 aZ aB.size ?_;intro v7 x3 aS aI ar;obtain⟨A7,c7,rfl, -, -⟩:=aAc aS)
  refine hK.out _ _ (Or.inr (HK.out _ (aB.transNew (oF a5.out aI) (Or.inl oN)))) (fun _=>?_);clear hK K;try simp only[oP]
  have aK:=aB.transNew (oF a5.out aI) (Or.inl oN);have a6:Hid (x3.ownsRow wz 3 1 (.slice A7 (wa.length+1) c7) (wa.length+1) (aAe (wa++[el]))):=oH (by rw[aAi];exact aS);replace a1:s3<=x3.heap.size:=oV a1 aI.size;clear aS aI ar a5 a8 aE aB;refine rdZ 11 rfl (fun K hK=>?_)
  (go_simp;(with_reducible refine(b3.out _ (aj.out.mid aK oZl)).mono ?_);rintro en x4 ⟨A2,c2,rfl,ho,a0⟩;go_wp2_with fail)
  refine hK.out _ _ (Or.inr (HK.out _ (aK.trans a0))) (fun _=>?_);clear hK K;try simp only[oP]
  have aQ:=aK.trans a0;replace a6:=oH (aAb a6.out a0 oZl);have bE:=a0.size;have aG:=oH ((aAz ho).wide (lo':=s3) (hi':=x4.heap.size) oO oN oN);replace a1:s3<=x4.heap.size:=by omega
  clear ho a0 aK;refine rdZ 12 rfl (fun K hK=>?_)
  (go_simp;(with_reducible refine(aCQ A2 wb c2 _ x4 aG.out.rsS oN aF.out oO).mono ?_);intro en x5 hq;obtain⟨A3,c3,rfl,ho,a0⟩:=RetI.get hq;go_wp2_with fail)
  refine hK.out _ _ (Or.inr (HK.out _ (aQ.trans a0))) (fun _=>?_);clear hK K;try simp only[oP]
  have aR:=aQ.trans a0;replace a6:=oH (aAb a6.out a0 oZl);replace aG:=oH (aG.out.mid a0 oZl);have bF:=a0.size;have ai:=oH ((aAz ho).wide (lo':=s3) (hi':=x5.heap.size) oO oN oN);replace a1:s3<=x5.heap.size:=by omega
  clear ho a0 hq aG aQ;have aT:=aCR A7 A3 (wa++[el]) (aAE wb) c7 c3 x5 (aAz a6.out).rsS ai.out.rsS aY.out (aEW aF.out) (by rw[List.length_append,aBE];simp;omega);rw[show(wa++[el]).length=wa.length+1 by simp,<- aW.out] at aT;refine rdZ 13 rfl (fun K hK=>?_)
  (go_simp;(with_reducible refine aT.mono ?_);intro en x6 hq;obtain⟨A13,b5,rfl,aM,a0⟩:=RetI.get hq;go_wp2_with fail)
  refine hK.out _ _ (Or.inr (HK.out _ (aR.trans a0))) (fun _=>?_);clear hK K;try simp only[oP]
  have b9:=ab.trans (aR.trans a0);have ax:=aR.size;have aX:=oH (aAh aM (show w.heap.size<=x5.heap.size by omega))
 rotate_left
 focus
  go_simp;refine hK.out _ _ (Or.inr (HK.out _ (aU.trans (oE wz (.cells #[el] 3))))) (fun _=>?_);clear hK K;try simp only[oP]
  have aC:=oE wz (.cells #[el] 3);have a4:=aU.trans aC;have a8:(wz.alloc (.cells #[el] 3)).cell? ⟨wz,0,none⟩=some (.int .i64 el):=World.cell?_alloc_at _ _ _ _ rfl;have aE:wz.heap.size<(wz.alloc (.cells #[el] 3)).heap.size:=by simp
  have ah:=aC.size;generalize wz.alloc (.cells #[el] 3)=x8 at aC a4 a8 aE ah |-;generalize hp6e:wz.heap.size=p6 at a8 aE |-;clear hp6e aC;refine rdZ 3 rfl (fun K hK=>?_)
  (go_simp;(with_reducible refine(b2.out _ (aj.out.mid a4 oZl)).mono ?_);rintro en x9 ⟨A1,c1,rfl,ho,a0⟩;go_wp2_with fail)
  refine hK.out _ _ (Or.inr (HK.out _ (a4.trans a0))) (fun _=>?_);clear hK K;try simp only[oP]
  have aL:=a4.trans a0;replace a8:=aAa a0 aE oZr a8;replace aE:=oT aE a0.size;have bG:=a0.size;have a5:=oH (aAh ho a4.size);obtain⟨s3,ay⟩:∃ s,s=x9.heap.size:=⟨_,rfl⟩
  have bL:∀ g,Value.ownBlock (.slice A1 wa.length c1)=some g->g<s3:=fun g hg=>by have:=(ho.lt g hg).2;omega
  have a1:s3<=x9.heap.size:=by omega
  clear ay;clear ho a0 a4;refine rdZ 7 rfl (fun K hK=>?_)
  (refine aAV (by rfl) (.tmp 35) (.tmp 38) 44 (by rfl) wz.heap.size 3 (.int .i64 0) 1 8 aBo aBs rfl oD (.slice A1 wa.length c1) wa.length _ (by rfl) a5.out (some ⟨p6,0,none⟩) 1 1 _ [el] (by rfl) (aGy a8) rfl aN a3 aZ aL.size ?_;intro v7 bH aS aI ar;obtain⟨A7,c7,rfl, -, -⟩:=aAc aS)
  refine hK.out _ _ (Or.inr (HK.out _ (aL.transNew (oF a5.out aI) (Or.inl oN)))) (fun _=>?_);clear hK K;try simp only[oP]
  have a2:=aL.transNew (oF a5.out aI) (Or.inl oN);have a6:Hid (bH.ownsRow wz 3 1 (.slice A7 (wa.length+1) c7) (wa.length+1) (aAe (wa++[el]))):=oH (by rw[aAi];exact aS);replace a1:s3<=bH.heap.size:=oV a1 aI.size;clear aS aI ar a5 a8 aE aL;refine rdZ 11 rfl (fun K hK=>?_)
  (go_simp;(with_reducible refine(b3.out _ (aj.out.mid a2 oZl)).mono ?_);rintro en b1 ⟨A2,c2,rfl,ho,a0⟩;go_wp2_with fail)
  refine hK.out _ _ (Or.inr (HK.out _ (a2.trans a0))) (fun _=>?_);clear hK K;try simp only[oP]
  have a9:=a2.trans a0;replace a6:=oH (aAb a6.out a0 oZl);have az:=a0.size;have aG:=oH ((aAz ho).wide (lo':=s3) (hi':=b1.heap.size) oO oN oN);replace a1:s3<=b1.heap.size:=by omega
  clear ho a0 a2;refine rdZ 12 rfl (fun K hK=>?_)
  (go_simp;(with_reducible refine(aCQ A2 wb c2 _ b1 aG.out.rsS oN aF.out oO).mono ?_);intro en ao hq;obtain⟨A3,c3,rfl,ho,a0⟩:=RetI.get hq;go_wp2_with fail)
  refine hK.out _ _ (Or.inr (HK.out _ (a9.trans a0))) (fun _=>?_);clear hK K;try simp only[oP]
  have aA:=a9.trans a0;replace a6:=oH (aAb a6.out a0 oZl);replace aG:=oH (aG.out.mid a0 oZl);have b0:=a0.size;have ai:=oH ((aAz ho).wide (lo':=s3) (hi':=ao.heap.size) oO oN oN);replace a1:s3<=ao.heap.size:=by omega
  clear ho a0 hq aG a9;have aT:=aCR A7 A3 (wa++[el]) (aAE wb) c7 c3 ao (aAz a6.out).rsS ai.out.rsS aY.out (aEW aF.out) (by rw[List.length_append,aBE];simp;omega);rw[show(wa++[el]).length=wa.length+1 by simp,<- aW.out] at aT;refine rdZ 13 rfl (fun K hK=>?_)
  (go_simp;(with_reducible refine aT.mono ?_);intro en bX hq;obtain⟨A13,b5,rfl,aM,a0⟩:=RetI.get hq;go_wp2_with fail)
  refine hK.out _ _ (Or.inr (HK.out _ (aA.trans a0))) (fun _=>?_);clear hK K;try simp only[oP]
  have b9:=ab.trans (aA.trans a0);have ax:=aA.size;have aX:=oH (aAh aM (show w.heap.size<=ao.heap.size by omega))
 rotate_left
 all_goals
  clear a6 ai aT aM a0 hq;refine rdZ 14 rfl (fun K hK=>?_);go_simp;refine hK.out _ _ (Or.inl oM) (fun _=>?_);clear hK K;try simp only[oP]
  refine aAj oK ?_ _;go_wp2_with fail;go_ret;exact⟨A13,b5,rfl,aX.out,b9⟩
structure TreeL (es:List Ed) (st:BS) (T:List Ed):Prop where
 mem:∀ e,e∈T↔e∈aBG es st
 len:T.length<=st.length
theorem TreeL.start(es:List Ed)(v:Int):TreeL es [(v,[])] []:=⟨fun e=>by simp[aBG],by simp⟩
theorem TreeL.put{r s:Int}{es:List Ed}(hf:IsFol r s es){st:BS}{T:List Ed}(h:TreeL es st T)(a0:st≠[]){u x:Int}{w:LI}(hv:0<=aAr es u x):TreeL es (st++[(aAr es u x,w++[x])]) (aCw (aBc u x (aAr es u x)) T):=by
 refine⟨fun e=>?_,?_⟩
 .rw[aJq,aQR es _ a0,aKZ hf hv,List.mem_append,List.mem_singleton,h.mem e]
  constructor
  .rintro(h|h)
   .exact .inr h
   exact .inl h
  rintro(h|h)
  .exact .inr h
  exact .inl h
 have:=aDw (aBc u x (aAr es u x)) T;rw[List.length_append];have:=h.len;simp;omega
theorem aNT(r n:Nat)(A:OA)(es:List Ed)(c:Nat)(w:World)(lo hi:Nat)(hr:RG w lo hi A es)(hf:IsFol r n es) :
  Calls Tryz.prog 255 #[aAJ r n A es.length c] w fun e w'=>∃ T A1 c1,e=.returned (.slice A1 (List.length T) c1)/\TreeL es (bfs es (aAg r) 0) T/\RG w' w.heap.size w'.heap.size A1 T/\Mid 0 0 w w':=by
 have hg:=hf.gr;have bl:n<=40:=by have:=hg.size;omega
 have bj:1<=n:=by have:=hg.size;omega
 have cB:r<=3:=by have:=hg.rank;omega
 have hl:=hg.len;have bP:∀ e∈es,1<=e.l/\e.l<=3:=fun e he=>by have:=hg.all e he;unfold InG at this;omega
 have aB:Mid 0 0 w ((w.alloc (.cells #[r,n,.slice A es.length c] 35)).alloc (.cells #[] 110)):=(oE _ _).trans (oE _ _);have B0:=(oJ w #[r,n,.slice A es.length c] 35).mid (oE _ (.cells #[] 110)) oZr;have OE:=aAd (w.alloc (.cells #[r,n,.slice A es.length c] 35)) 110 3;simp only[World.size_alloc] at OE;have HG:=oH hg;have HF:=oH hf;have bT:=oH bP;have bR:(0:Int)<=0:=Int.le_refl _;have bS:(0:Int)<(n:Int):=by omega
 clear hg bP hf;go_enter Tryz.func255,Tryz.ntmps255
 go_wp2_with fail;generalize (w.alloc (.cells #[r,n,.slice A es.length c] 35)).alloc (.cells #[] 110)=w0 at aB B0 OE |-;have cC:w.heap.size+1<w0.heap.size:=(OE.lt _ rfl).2;with_reducible refine(aAY r n A es c w0 lo hi (hr.mid aB oZl) oO true (oX rfl HF.out)).mono ?_
 rintro en w1 ⟨rfl,ae⟩;have bm:=ae.size;replace B0:=B0.mid ae oZr;replace OE:=aAb OE ae oZl;replace aB:=aB.trans ae;obtain⟨p0,p1,p2⟩:=B0.c3 rfl;have al:=oE w1 (.cells #[(0:Int)] 3);have O0:(w1.alloc (.cells #[(0:Int)] 3)).ownsRow w1 3 1 (.slice (some ⟨w1,0,none⟩) 1 1) 1 (aAe [(0:Int)]):=World.ownsRow_lit (size:=1) w1 #[(0:Int)] 1 oN (by simp[maxLen]) oM;have bq:w.heap.size<w1.heap.size:=by omega
 replace B0:=B0.mid al oZr;replace OE:=aAb OE al oZl;replace aB:=aB.trans al;go_wp2_with fail;with_reducible refine(aEo r _ oO).mono ?_
 rintro en w4 ⟨A4,c4,rfl,b6,aP⟩;have bo:w1.heap.size+1<=w4.heap.size:=by have:=aP.size;simpa using this
 rw[World.size_alloc] at b6;replace B0:=B0.mid aP oZr;replace O0:=aAb O0 aP oZl;replace OE:=aAb OE aP oZl;replace aB:=aB.trans aP;clear p0 p1 p2 al aP ae;have ar:Hid (RG w4 (w.heap.size+1) (w.heap.size+2) (some ⟨w.heap.size+1,0,none⟩) []):=oH ⟨oO,fun hn=>absurd rfl hn⟩;have aT:=oH (TreeL.start es 0);have bH:Hid (∀ g,Value.ownBlock (.slice (some (⟨w1,0,none⟩:Addr)) 1 1)=some g->g<w.heap.size+1 \/ w.heap.size+2<=g):=oH (fun g hg=>by have h:=Option.some.inj (show some w1.heap.size=some g from hg);omega);clear OE;generalize (some (⟨w.heap.size+1,0,none⟩:Addr))=AE0 at ar |-;have bV:=oH (aBR r);obtain⟨LL,b7⟩:∃ LL,(aAg r).length=LL:=⟨_,rfl⟩
 have bc:LL<=6:=by have:=bV.out;omega
 rw[b7];have au:=oH b7;clear b7;go_wp2_with fail;go_loopw [3,4,6] (fun ev ord iv wr=>∃(i n1:Nat) (A1:OA) (c1:Nat) (T:List Ed) (AT:OA) (cT L2 H2:Nat),i<=n1/\iv=.int .i64 i/\ord=.slice A1 n1 c1/\ev=.slice AT T.length cT/\Hid (TreeL es (aAn es (aAg r) 0 i) T)/\Hid (RG wr L2 H2 AT T)/\w.heap.size<=L2/\Hid (∀ g,Value.ownBlock (.slice A1 n1 c1)=some g->g<L2 \/ H2<=g)/\Hid ((aAn es (aAg r) 0 i).length=n1) /\
   wr.ownsRow w1 3 1 (.slice A1 n1 c1) n1 (aAe ((aAn es (aAg r) 0 i).map Prod.fst))/\Hid (RV wr (w1.heap.size+1) w4.heap.size A4 (aAe (aAg r)))/\Hid (∀ g,Value.ownBlock (.slice A1 n1 c1)=some g->g<w1.heap.size+1 \/ w4.heap.size<=g) /\
   Box wr w [r,n,.slice A es.length c]/\Mid 0 0 w wr) (fun _ _ i _=>(41 - intOf i).toNat)
 case atStart=>exact⟨0,1,_,1,[],AE0,0,_,_,oZ,rfl,rfl,rfl,aT,ar,Nat.le_succ _,bH,oH rfl,O0,oH b6,oH (fun g hg=>by have h:=Option.some.inj (show some w1.heap.size=some g from hg);omega),B0,aB⟩
 clear O0 b6 B0 aB ar aT bH;obtain⟨wo,bt⟩:∃ wo,wo=wr:=⟨_,rfl⟩
 subst bt;obtain⟨i,n1,A1,c1,T,AT,cT,L2,H2,c7,rfl,rfl,rfl,HTL,a8,aR,HDE,HN,a0,a6,HD,bx,hm⟩:=hrel;have bD:=aFZ (L:=aAg r) HG.out.all bR bS i;have cA:n1<=40:=by have h1:=bD.len oO;have h2:=HN.out;omega
 have bX:=oH bD;clear bD;by_cases hlt:i<n1
 .obtain⟨p,hp⟩:=aAy (aAn es (aAg r) 0 i) (show i<(aAn es (aAg r) 0 i).length by rw[HN.out];exact hlt)
  obtain⟨u,wd⟩:=p;have HP:=oH hp;have bd:=oH (aFY hp);have c5:(0:Int)<=(i:Int):=by omega
  clear hp;go_wp2_with fail;go_loopw [3,4,7] (fun ev ord jv wr=>∃(j n1:Nat) (A1:OA) (c1:Nat) (T:List Ed) (AT:OA) (cT L2 H2:Nat),j<=LL/\jv=.int .i64 j/\ord=.slice A1 n1 c1/\ev=.slice AT T.length cT/\Hid (TreeL es (aAN es ((aAg r).take j) (u,wd) (aAn es (aAg r) 0 i)) T)/\Hid (RG wr L2 H2 AT T)/\w.heap.size<=L2/\Hid (∀ g,Value.ownBlock (.slice A1 n1 c1)=some g->g<L2 \/ H2<=g)/\Hid ((aAN es ((aAg r).take j) (u,wd) (aAn es (aAg r) 0 i)).length=n1) /\
    wr.ownsRow w1 3 1 (.slice A1 n1 c1) n1 (aAe ((aAN es ((aAg r).take j) (u,wd) (aAn es (aAg r) 0 i)).map Prod.fst)) /\
    Hid (RV wr (w1.heap.size+1) w4.heap.size A4 (aAe (aAg r)))/\Hid (∀ g,Value.ownBlock (.slice A1 n1 c1)=some g->g<w1.heap.size+1 \/ w4.heap.size<=g)/\Box wr w [r,n,.slice A es.length c]/\Mid 0 0 w wr) (fun _ _ j _=>LL - (intOf j).toNat)
  case atStart=>exact⟨0,n1,_,c1,T,AT,cT,L2,H2,oZ,rfl,rfl,rfl,by rw[List.take_zero];exact HTL,a8,aR,HDE,by rw[List.take_zero];exact HN,a0,a6,HD,bx,hm⟩
  clear a0 a6 HD bx hm HTL a8 aR HDE;obtain⟨j,n1,A1,c1,T,AT,cT,L2,H2,hj,rfl,rfl,rfl,HTL,a8,aR,HDE,HN,a0,a6,HD,bx,hm⟩:=hrel;obtain⟨a4,a3⟩:∃ st,aAN es ((aAg r).take j) (u,wd) (aAn es (aAg r) 0 i)=st:=⟨_,rfl⟩
  have aM:BfsOk n (aAg r) a4:=by rw[<- a3];exact BfsOk.row HG.out.all _ (fun x hx=>List.mem_of_mem_take hx) bX.out HP.out
  have aQ:a4[i]?=some (u,wd):=by rw[<- a3];exact aCr (aCn _ _ _ _) HP.out
  rw[a3] at HN a0 HTL;have bk:n1<=40:=by have h1:=aM.len oO;have h2:=HN.out;omega
  by_cases hlt2:j<LL
  .obtain⟨B4,o4,x,rfl,bb,hx,bO⟩:=a6.out.at (k:=j) (by rw[au.out];exact hlt2)
   have cE:=aIn (oG hx);have a7:=aEL (es:=es) (p:=(u,wd)) (st:=aAn es (aAg r) 0 i) hx;rw[a3] at a7;simp only at a7;have c8:(0:Int)<=(j:Int):=by omega
   have c9:(j:Int)<(LL:Int):=by omega
   have bh:i<n1:=by have h1:=(List.getElem?_eq_some_iff.1 aQ).1;have h2:=HN.out;omega
   have c6:(i:Int)<(n1:Int):=by omega
   obtain⟨g1,rfl,c2,bA⟩:=aAS a0 (show 0<n1 by omega);have bN:wr.cell? ⟨g1,i,none⟩=some (.int .i64 u):=(a0.cellAt i oO).trans (by rw[aAP,List.getElem?_map,aQ];rfl);have aW:B4<wr.heap.size:=oT bb a6.out.1;have b9:=aCf HG.out.all u x;have c0:=oH aM;have k0:=aAf bx.1 (bx.cell 0 rfl);have k1:=aAf bx.1 (bx.cell 1 rfl);have k2:=aAf bx.1 (bx.cell 2 rfl);have k3:=aAf bA bN;have k4:=aAf aW bO;have hA:=fun m os=>aBL r n A es c u x (wg wr m os) lo hi (hr.mid (hm.trans (Mid.ofWg wr m os)) oZl) oO bT.out oO oO;have bJ:=oH hx;have bY:=oH aQ;clear hx aM aQ a3 bN bO;go_wp2_with fail;refine wqg ?_;repeat
    (with_reducible refine wpQuiet_step (fun K hK=>?_))
    go_simp
    first|(with_reducible refine hK _ ?_)|(rw[if_neg oD];(with_reducible refine hK _ ?_))|(apply Exists.intro;refine⟨fun _=>?_,hK _ ?_⟩;((go_at_call 129;exact Calls.wg_of (hA _ _))))
    clear hK K
   with_reducible refine wpQuiet_nil ?_
   rintro _ ⟨⟨nq,osq⟩,rfl⟩;have aN:=Mid.ofWg wr nq osq;generalize wg wr nq osq=w6 at aN |-;have bp:=aN.size;replace bx:=bx.mid aN oZr;replace a0:=aAb a0 aN oZl;replace hm:=hm.trans aN;replace a6:=oH (a6.out.mid aN oZl);replace a8:=oH (a8.out.mid aN oZl);generalize htx:aAr es u x=t at a7 b9 |-;have bI:=oH htx;clear k0 k1 k2 k3 k4 hA;by_cases ht0:t<0
   .have b1:decide (t<0)=true:=by simp;omega
    have a5:=oH (a7.trans (by rw[aAx,htx,if_pos (.inl ht0)]:aAx es u wd a4 x=a4));clear a7 b9 ht0 htx;go_wp2_with fail;go_roundw
    case rel=>exact⟨j+1,n1,_,c1,T,AT,cT,L2,H2,oO,by go_num,rfl,rfl,by rw[a5.out];exact HTL,a8,aR,HDE,by rw[a5.out];exact HN,by rw[a5.out];exact a0,a6,HD,bx,hm⟩
    simp[intOf];omega
   have b1:decide (t<0)=false:=by simp;omega
   obtain⟨b2,bL⟩:=aAF (t∈a4.map Prod.fst);have ao:=oH bL;have bC:(a4.map Prod.fst).length=n1:=by rw[List.length_map];exact HN.out
   have hP:=aDE (some ⟨g1,0,none⟩) (a4.map Prod.fst) c1 t w6 _ _ (aAz a0) oO b2 ao.out;rw[bC] at hP;have bz:=oH bC;clear bL b9 bC;go_wp2_with fail;with_reducible refine hP.mono ?_
   rintro en w7 ⟨rfl,rfl⟩;cases b2
   rotate_left
   .have a5:=oH (a7.trans (by rw[aAx,htx,if_pos (.inr (ao.out.1 (by trivial)))]:aAx es u wd a4 x=a4))
    clear a7 htx ht0 hP;go_wp2_with fail;go_roundw
    case rel=>exact⟨j+1,n1,_,c1,T,AT,cT,L2,H2,oO,by go_num,rfl,rfl,by rw[a5.out];exact HTL,a8,aR,HDE,by rw[a5.out];exact HN,by rw[a5.out];exact a0,a6,HD,bx,hm⟩
    simp[intOf];omega
   have bQ:t ∉ a4.map Prod.fst:=fun h=>by have:=ao.out.2 h;cases this
   have a5:=oH (a7.trans (by rw[aAx,htx,if_neg (fun h=>h.elim (fun h=>by omega) bQ)]:aAx es u wd a4 x=a4++[(t,wd++[x])]));have ay:=oH a0;have bE:w1.heap.size<=w6.heap.size:=by have:=a6.out.1;omega
   have b8:0<=t:=by omega
   clear a7 htx ht0 hP bQ;go_wp2_with (at_builtin;refine MarkerX.to ?_)
   unfold MarkerX;refine aBp rfl _ _ rfl w1 _ n1 c1 (a4.map Prod.fst) rfl ay.out t rfl oO bE ?_;intro A10 aj aO a1 a2 aE;have aL:=oF ay.out a2;have aV:=bx.mid aL;have aC:=a6.out.grown a2 HD.out;have aG:=hm.transNew aL oL;have af:(a4++[(t,wd++[x])]).map Prod.fst=a4.map Prod.fst++[t]:=by simp
   have aw:=oH af;have bs:w4.heap.size<=w6.heap.size:=a6.out.1;have ap:Hid (∀ g,Value.ownBlock (.slice A10 (n1+1) aj)=some g->g<w1.heap.size+1 \/ w4.heap.size<=g):=oH (by
    intro g hg;rcases aE with h|h
    .exact HD.out g (h.symm.trans hg)
    .rw[h] at hg
     injection hg with hg
     omega)
   have bU:=oH aC;have aD:=oH (RV.grown a8.out a2 HDE.out);have bn:=a2.size;have ai:Hid (TreeL es (a4++[(t,wd++[x])]) (aCw (aBc u x t) T)):=oH (by
    have h:=HTL.out.put HF.out (by intro h0;have h1:=HN.out;rw[h0] at h1;simp at h1;omega) (u:=u) (x:=x) (w:=wd) (by rw[bI.out];exact b8);rw[bI.out] at h;exact h)
   have bK:T.length<=1000000:=by have h1:=HTL.out.len;have h2:=HN.out;omega
   have aF:=Mid.drew1 aO;have aI:=aAb a1 aF oZl;have av:=oH (aC.mid aF oZl);have aJ:=oH (aD.out.mid aF oZl);have b3:=aV.mid aF oZr;have am:=aG.trans aF;have bF:=aF.size;obtain⟨ak,b5,bf,ad⟩:=aAS a1 (Nat.succ_pos n1);subst b5;have aY:aO.cell? ⟨ak,i,none⟩=some (.int .i64 u):=(a1.cellAt i oO).trans (by rw[aAi,List.getElem?_append_left (by rw[aAB,List.length_map,HN.out];exact bh),aAP,List.getElem?_map,bY.out];rfl);have aa:aO.cell? ⟨B4,o4+j,none⟩=some (.int .i64 x):=by
    obtain⟨B',o',x',b4, -,an,be⟩:=aC.at (k:=j) (by rw[au.out];exact hlt2);injection b4 with b4
    injection b4 with e1 e2
    subst e1 e2;rw[bJ.out] at an;injection an with an
    subst an;exact be
   have aZ:=aAa aF ad oZr aY;have ab:=aAa aF (oT aW oO) oZr aa;have ah:∀ g,Value.ownBlock (.slice (some (⟨ak,0,none⟩:Addr)) (n1+1) aj)=some g->g<(World.drew aO).heap.size:=fun g hg=>by have h:=Option.some.inj (show some ak=some g from hg);omega
   have aS:=oH ah;have bg:(i:Int)<(n1:Int)+1:=by omega
   have cD:IntKind.i64.wrap (-x) = -x:=oI _;have a9:=oH aI;clear aC af aE a2 aD aG aV a1 aL a8 HTL HDE a6 a0 ay hm bx ah aI;have bu:=(aAU.1 (oG bJ.out)).1;by_cases hx0:0<x
   focus
    have d0:decide (0<x)=true:=by simpa using hx0
    have ag:aBc u x t=⟨u,x,t⟩:=by rw[aBc,if_neg oO]
    rw[ag] at ai;have az:=oH (fun W h=>aBz AT T cT ⟨u,x,t⟩ W L2 H2 h bK);clear ag;go_wp2_with fail;refine wp_region_still_tail 11 oK oK ?_
   rotate_left
   focus
    have d0:decide (0<x)=false:=by simpa using hx0
    have ag:aBc u x t=⟨t, -x,u⟩:=by rw[aBc,if_pos oO]
    rw[ag] at ai;have az:=oH (fun W h=>aBz AT T cT ⟨t, -x,u⟩ W L2 H2 h bK);clear ag;go_wp2_with fail;refine wp_region_still_tail 12 oK oK ?_
   rotate_left
   all_goals
    simp only[List.take_succ_cons,List.take_zero,List.drop_succ_cons,List.drop_zero];change wpStill _ _ (World.drew aO) (fun a'=>wpList _ _ _ _ a' (World.drew aO)) _ _;generalize World.drew aO=wz at av aJ b3 am bF aZ ab aS a9 |-;repeat
     (with_reducible refine wpStill_step (fun K hK=>?_))
     go_simp
     first|(with_reducible refine hK _ ?_)
     clear hK K
    with_reducible refine wpStill_nil ?_
    go_wp2_with fail;with_reducible refine(az.out wz (RV.rg aJ.out)).mono ?_
    rintro en bw ⟨A12,ba,rfl,aX,aA⟩;have aH:=aAb a9.out aA oZl;have bW:=oH (av.out.mid aA oZl);have bZ:=b3.mid aA oZr;have bi:=am.trans aA;have b0:=oH aX.rg;have aq:Hid (∀ g,Value.ownBlock (.slice (some (⟨ak,0,none⟩:Addr)) (n1+1) aj)=some g->g<wz.heap.size \/ bw.heap.size<=g):=oH (fun g hg=>.inl (aS.out g hg));have bG:w.heap.size<=wz.heap.size:=am.size;have ax:Hid ((aAN es ((aAg r).take (j+1)) (u,wd) (aAn es (aAg r) 0 i)).length=n1+1):=oH (by rw[a5.out,List.length_append,HN.out];rfl);rw[<- aw.out,<- a5.out] at aH;have aK:=ai.out;rw[<- a5.out] at aK;have aU:=oH aK;clear a9 av aJ b3 am aX aA az ai aK aZ ab;go_wp2_with fail;go_roundw
    case rel=>exact⟨j+1,n1+1,_,aj,_,A12,ba,_,_,oO,by go_num,rfl,rfl,aU,b0,bG,aq,ax,aH,bW,ap,bZ,bi⟩
    simp[intOf];omega
  obtain rfl:j=LL:=by omega
  have br:(aAg r).take j=aAg r:=List.take_of_length_le (by rw[au.out];exact oN);rw[br] at a3;have a7:=bd.out;rw[a3] at a7;have a5:=oH a7;have bB:i+1<=n1:=by have h1:=(List.getElem?_eq_some_iff.1 aQ).1;have h2:=HN.out;omega
  clear a7 a3 aQ;go_wp2_with fail;go_roundw
  case rel=>exact⟨i+1,n1,A1,c1,T,AT,cT,L2,H2,bB,by go_num,rfl,rfl,by rw[a5.out];exact HTL,a8,aR,HDE,by rw[a5.out];exact HN,by rw[a5.out];exact a0,a6,HD,bx,hm⟩
  simp[intOf];omega
 obtain rfl:i=n1:=by omega
 have bM:=aPk (L:=aAg r) HG.out.all bR bS oO HN.out;rw[<- bM] at HTL;clear bM;go_wp2_with fail;go_ret;exact⟨T,AT,cT,rfl,HTL.out,⟨oN,fun hn=>by obtain⟨b,bv,h1,h2,h3,h4⟩:=a8.out.2 hn;exact⟨b,bv,h1,oO,by have:=a8.out.1;omega,h4⟩⟩,hm⟩
theorem aOK{T U es:List Ed}(h:∀ e,e∈T↔e∈U):aCg T es=aCg U es:=by
 unfold aCg
 congr 1
 funext e
 rw[decide_eq_decide,h e]
theorem aKq(r n:Nat)(A:OA)(es:List Ed)(c:Nat)(w:World)(lo hi:Nat)(hr:RG w lo hi A es)(hf:IsFol r n es) :
  Calls Tryz.prog 225 #[aAJ r n A es.length c] w fun e w'=>∃ A1 c1,e=.returned (.slice A1 (aCg (aBG es (bfs es (aAg r) 0)) es).length c1)/\OG w' w.heap.size w'.heap.size A1 c1 (aCg (aBG es (bfs es (aAg r) 0)) es)/\Mid 0 0 w w':=by
 have hl:=hf.gr.len;have HF:=oH hf;clear hf;have af:(bfs es (aAg r) 0).length<=40:=by
  have hs:=HF.out.gr.size;have:=(aHh (L:=aAg r) (v:=0) HF.out.gr.all (Int.le_refl _) oO).len oO;omega
 have a0:Mid 0 0 w (w.alloc (.cells #[r,n,.slice A es.length c] 35)):=oE _ _;have B0:=oJ w #[r,n,.slice A es.length c] 35;obtain⟨p0,p1,p2⟩:=B0.c3 rfl;go_enter Tryz.func225,Tryz.ntmps225
 go_wp2_with fail;generalize w.alloc (.cells #[r,n,.slice A es.length c] 35)=w1 at a0 B0 p0 p1 p2 |-;have ak:w.heap.size<w1.heap.size:=B0.1;with_reducible refine(aNT r n A es c w1 lo hi (hr.mid a0 oZl) HF.out).mono ?_
 rintro en w2 ⟨T,AT,cT,rfl,aK,aD,aE⟩;have aa:=aE.size;clear p0 p1 p2;replace B0:=B0.mid aE oZr;replace a0:=a0.trans aE;have ae:T.length<=40:=by have:=aK.len;omega
 have HX:=oH (aOK (es:=es) aK.mem);have O0:=aAd w2 110 3;have aB:=oE w2 (.cells #[] 110);replace B0:=B0.mid aB oZr;replace aD:=aD.mid aB oZl;replace a0:=a0.trans aB;have a4:=oH aD;have aS:(w2.alloc (.cells #[] 110)).heap.size=w2.heap.size+1:=by simp
 clear aK aD aE;obtain⟨p0,p1,p2⟩:=B0.c3 rfl;go_wp2_with fail;generalize w2.alloc (.cells #[] 110)=w3 at B0 a4 a0 O0 aS aB p0 p1 p2 |-;have aC:Hid (w3.ownsRow w2 110 3 (.slice (some ⟨w2,0,none⟩) 0 0) 0 (aAe (edI (aCg T (es.take 0))))):=oH O0;have aO:Hid ((aCg T (es.take 0)).length=0):=oH rfl;have a7:w2.heap.size<=w3.heap.size:=by omega
 clear O0 aB p0 p1 p2 aS;generalize (some (⟨w2,0,none⟩:Addr))=A0 at aC |-;generalize w2.heap.size=H2 at aC a4 a7 aa;go_loopw [4,5] (fun ov kv wr=>∃(k n2:Nat) (A2:OA) (c2:Nat),kv=.int .i64 k/\ov=.slice A2 n2 c2/\k<=es.length/\Hid ((aCg T (es.take k)).length=n2)/\Hid (wr.ownsRow H2 110 3 (.slice A2 n2 c2) n2 (aAe (edI (aCg T (es.take k)))))/\Hid (RG wr w1.heap.size H2 AT T)/\Box wr w.heap.size [.int .i64 r,.int .i64 n,.slice A es.length c]/\H2<=wr.heap.size/\Mid 0 0 w wr) (fun _ kv _=>es.length - (intOf kv).toNat)
 case atStart=>exact⟨0,0,A0,0,rfl,rfl,oZ,aO,aC,a4,B0,a7,a0⟩
 clear aO aC a4 B0 a7 a0;obtain⟨wo,ab⟩:∃ wo,wo=wr:=⟨_,rfl⟩
 subst ab;obtain⟨k,n2,A2,c2,rfl,rfl,hk,HN,HO,a4,B0,ao,a0⟩:=hrel;have aj:n2<=120:=by have h1:=aFM T (es.take k);have h2:=HN.out;rw[List.length_take] at h1;omega
 obtain⟨p0,p1,p2⟩:=B0.c3 rfl;by_cases hlt:k<es.length
 .have ag:(0:Int)<=(k:Int):=by omega
  have ah:(k:Int)<(es.length:Int):=by omega
  go_wp2_with fail;with_reducible refine(aAY r n A es c wo lo hi (hr.mid a0 oZl) oO true (oX rfl HF.out)).mono ?_
  rintro en w4 ⟨rfl,aA⟩;have aH:=oH (aAb HO.out aA oZl);have a3:=oH (a4.out.mid aA oZl);have al:=aA.size;clear p0 p1 p2;replace B0:=B0.mid aA oZr;replace a0:=a0.trans aA;obtain⟨p0,p1,p2⟩:=B0.c3 rfl;clear HO a4 aA;obtain⟨b,ap,e,hA, -,aU,he,x0,x1,x2⟩:=(hr.mid a0 oZl).ed hlt;subst hA;have a8:b<w4.heap.size:=oT aU (oV hr.1 a0.size);have HE:=oH he;clear he;go_wp2_with fail;go_loopw [6,7] (fun v j wq=>∃ m:Nat,∃ vb:Bool,m<=T.length/\j=.int .i64 m/\v=.bool vb/\Hid (vb=true↔e∈T.take m)/\Mid 0 0 w4 wq) (fun _ j _=>T.length - (intOf j).toNat)
  case atStart=>exact⟨0,false,oZ,rfl,rfl,oH oM,Mid.refl _ _ _⟩
  obtain⟨m,vb,aZ,rfl,rfl,HV,a1⟩:=hrel;have ba:=B0.mid a1 oZr;have P2:=ba.cell 2 rfl;clear p0 p1 p2;by_cases hlm:m<T.length
  .obtain⟨B',ad,f,rfl, -,aV,aQ,f0,f1,f2⟩:=(a3.out.mid a1 oZl).ed hlm
   have aq:B'<wr.heap.size:=by have:=a1.size;omega
   have zq:=a1.size;have p2:=aAf ba.1 P2;have y0:=aAf (by show b<wr.heap.size;omega) (aAa a1 a8 oZr x0);have y1:=aAf (by show b<wr.heap.size;omega) (aAa a1 a8 oZr x1);have y2:=aAf (by show b<wr.heap.size;omega) (aAa a1 a8 oZr x2);have z0:=aAf (by show B'<wr.heap.size;omega) f0;have z1:=aAf (by show B'<wr.heap.size;omega) f1;have z2:=aAf (by show B'<wr.heap.size;omega) f2;have aX:(0:Int)<=(m:Int):=by omega
   have ai:(m:Int)<(T.length:Int):=by omega
   obtain⟨d,hd⟩:∃ d,decide (f=e)=d:=⟨_,rfl⟩
   have hq:=aHl f e hd;have hg:=aJT f e;have HD:=oH hd;have aN:=oH aQ;clear aQ hd zq;cases vb
   .go_wp2_with fail
    refine wqg ?_;repeat
     (with_reducible refine wpQuiet_step (fun K hK=>?_))
     go_simp
     first|(with_reducible refine hK _ ?_)|(rw[if_neg oD];(with_reducible refine hK _ ?_))|(apply Exists.intro;refine⟨fun _=>?_,hK _ ?_⟩;(fail))
     clear hK K
    with_reducible refine wpQuiet_nil ?_
    rintro _ ⟨⟨nq,osq⟩,rfl⟩;go_wp2_with fail;go_roundw
    case rel=>
     refine⟨m+1,d,oO,by go_num,rfl,oH ?_,a1.trans (Mid.ofWg _ _ _)⟩;rw[aDv aN.out,<- HD.out,decide_eq_true_iff];have hn:¬ e∈T.take m:=fun h=>by have:=HV.out.2 h;cases this
     exact⟨fun h=>.inr h.symm,fun h=>(h.resolve_left hn).symm⟩
    simp[intOf];omega
   have HM:=oH (HV.out.1 rfl);clear HV;go_wp2_with fail;refine wqg ?_;repeat
    (with_reducible refine wpQuiet_step (fun K hK=>?_))
    go_simp
    first|(with_reducible refine hK _ ?_)|(rw[if_neg oD];(with_reducible refine hK _ ?_))|(apply Exists.intro;refine⟨fun _=>?_,hK _ ?_⟩;(fail))
    clear hK K
   with_reducible refine wpQuiet_nil ?_
   rintro _ ⟨⟨nq,osq⟩,rfl⟩;go_wp2_with fail;go_roundw
   case rel=>exact⟨m+1,true,oO,by go_num,rfl,oH (oX rfl ((aDv aN.out).2 (.inl HM.out))),a1.trans (Mid.ofWg _ _ _)⟩
   simp[intOf];omega
  obtain rfl:m=T.length:=by omega
  have a5:=oH (aAb aH.out a1 oZl);have a6:=oH (a3.out.mid a1 oZl);have am:=a1.size;have aM:=a0.trans a1;have X0:=aAa a1 a8 oZr x0;have X1:=aAa a1 a8 oZr x1;have X2:=aAa a1 a8 oZr x2;have aW:b<wr.heap.size:=by omega
  cases vb
  .have a9:e ∉ T:=fun h=>by have:=HV.out.2 (by rw[List.take_length];exact h);cases this
   have aF:=oH a9;clear HV aH a3 a9;go_wp2_with (at_builtin;refine MarkerX.to ?_)
   unfold MarkerX;refine aCS rfl _ _ rfl H2 A2 n2 c2 _ rfl a5.out e rfl oO oO ?_;intro A6 c6 w6 aR a2 aL;have aG:Hid ((aCg T (es.take (k+1))).length=n2+1):=oH (by rw[aCF HE.out,if_pos aF.out,List.length_append,HN.out];rfl);have aI:Hid (w6.ownsRow H2 110 3 (.slice A6 (n2+1) c6) (n2+1) (aAe (edI (aCg T (es.take (k+1)))))):=oH (by rw[aCF HE.out,if_pos aF.out];exact aR);have aJ:Hid (RG w6 w1 H2 AT T):=oH (RV.rg (RV.grown a6.out a2 (fun g hg=>.inr (a5.out.lt g hg).1)));have aY:=aM.grownNew a2 (fun g hg=>by have:=(a5.out.lt g hg).1;omega);have B6:=ba.grown a2 (by intro h0;have:=(a5.out.lt _ h0).1;omega);have an:=a2.size;clear aR a2 aL HN a5 a6 aM aF;go_wp2_with fail;go_roundw
   case rel=>exact⟨k+1,n2+1,A6,c6,by go_num,rfl,oO,aG,aI,aJ,B6,oO,aY⟩
   simp[intOf];omega
  have a9:e∈T:=by have:=HV.out.1 rfl;rwa [List.take_length] at this
  have aG:Hid ((aCg T (es.take (k+1))).length=n2):=oH (by rw[aCF HE.out,if_neg (by simpa using a9),List.append_nil];exact HN.out);have aI:Hid (wr.ownsRow H2 110 3 (.slice A2 n2 c2) n2 (aAe (edI (aCg T (es.take (k+1)))))):=oH (by rw[aCF HE.out,if_neg (by simpa using a9),List.append_nil];exact a5.out);clear HV HN aH a5 a3 a9;go_wp2_with fail;go_roundw
  case rel=>exact⟨k+1,n2,A2,c2,by go_num,rfl,oO,aG,aI,a6,ba,oO,aM⟩
  simp[intOf];omega
 obtain rfl:k=es.length:=by omega
 have hN:=HN.out;have hO:=HO.out;rw[List.take_length] at hN hO;subst hN;have aP:OG wo w wo A2 c2 (aCg T es):=⟨oN,aAh hO oO,fun g hg=>(hO.lt g hg).2⟩
 have aT:=oH aP;clear hO HO aP a4 HN;go_wp2_with fail;go_ret;rw[<- HX.out];exact⟨A2,c2,rfl,aT.out,a0⟩
theorem aNO(r n:Nat)(A:OA)(es:List Ed)(c:Nat)(w:World)(lo hi:Nat)(hr:RG w lo hi A es)(aH:IsCor r n es)(X:List Ed)(aG:X=aCg (aBG es (bfs es (aAg r) 0)) es) :
  Calls Tryz.prog 165 #[aAJ r n A es.length c] w fun e w'=>∃ A1 c1,e=.returned (.slice A1 (X.map (basisW r es)).length c1)/\OSS w' w.heap.size w'.heap.size 44 3 A1 c1 (X.map (basisW r es))/\Mid 0 0 w w':=by
 have hl:=aH.gr.len;have an:X.length<=120:=by rw[aG];have:=aFM (aBG es (bfs es (aAg r) 0)) es;omega
 have hX:∀ e∈X,e∈es:=fun e he=>by rw[aG] at he;exact(List.mem_filter.1 he).1
 have aN:=fun W h=>aKq r n A es c W lo hi h aH.fol;rw[<- aG] at aN;have ad:=oH aN;have HX:=oH hX;have aJ:=oH aH;clear aN hX aG aH;have a0:Mid 0 0 w ((w.alloc (.cells #[r,n,.slice A es.length c] 35)).alloc (.cells #[] 44)):=(oE _ _).trans (oE _ _);have B0:=(oJ w #[r,n,.slice A es.length c] 35).mid (oE _ (.cells #[] 44)) oZr;have O0:=Own1.empty (w.alloc (.cells #[r,n,.slice A es.length c] 35));simp only[World.size_alloc] at O0;obtain⟨p0,p1,p2⟩:=B0.c3 rfl;go_enter Tryz.func165,Tryz.ntmps165
 go_wp2_with fail;generalize (w.alloc (.cells #[r,n,.slice A es.length c] 35)).alloc (.cells #[] 44)=w1 at a0 B0 O0 p0 p1 p2 |-;have av:w.heap.size+1<w1.heap.size:=(O0.lt rfl).2;with_reducible refine(aAH r n A es c w1 lo hi (hr.mid a0 oZl) oO true (oX rfl aJ.out)).mono ?_
 rintro en w2 ⟨rfl,a9⟩;have ak:=a9.size;clear p0 p1 p2;replace O0:=O0.mid a9;replace B0:=B0.mid a9 oZr;replace a0:=a0.trans a9;obtain⟨p0,p1,p2⟩:=B0.c3 rfl;clear a9;go_wp2_with fail;with_reducible refine(ad.out w2 (hr.mid a0 oZl)).mono ?_
 rintro en w3 ⟨AX,cX,rfl,aW,aA⟩;have aZ:=aA.size;have a2:=oH aW.rg;clear p0 p1 p2 aW;replace O0:=O0.mid aA;replace B0:=B0.mid aA oZr;replace a0:=a0.trans aA;clear aA;have aK:=oH O0;have aD:Hid (∀ g,obS (some (⟨w.heap.size+1,0,none⟩:Addr)) 0 0=some g->g=w.heap.size+1 \/ w3.heap.size<=g):=oH (fun g hg=>.inl (aRZ hg));have aT:Hid (aAt ([]:List Row)=(X.take 0).map (basisW r es)):=oH rfl;have al:w.heap.size+2<=w2.heap.size:=by omega
 clear O0;generalize (some (⟨w.heap.size+1,0,none⟩:Addr))=A0 at aK aD |-;generalize w2.heap.size=L2 at a2 al aZ;generalize hH:w3.heap.size=H3 at a2 aD aZ;have aC:H3<=w3.heap.size:=Nat.le_of_eq hH.symm;clear hH ak;go_wp2_with fail;go_loopw [3,5] (fun ov kv wr=>∃(k:Nat) (rows:List Row) (A2:OA) (c2:Nat),kv=.int .i64 k/\ov=.slice A2 k c2/\k<=X.length/\Hid (aAt rows=(X.take k).map (basisW r es))/\Hid (Own1 wr (w.heap.size+1) A2 k c2 rows)/\Hid (∀ g,obS A2 k c2=some g->g=w.heap.size+1 \/ H3<=g)/\Hid (RG wr L2 H3 AX X)/\Box wr w.heap.size [.int .i64 r,.int .i64 n,.slice A es.length c]/\H3<=wr.heap.size/\Mid 0 0 w wr) (fun _ kv _=>X.length - (intOf kv).toNat)
 case atStart=>exact⟨0,[],A0,0,rfl,rfl,oZ,aT,aK,aD,a2,B0,aC,a0⟩
 clear aT aK aD a2 B0 aC a0;obtain⟨wo,am⟩:∃ wo,wo=wr:=⟨_,rfl⟩
 subst am;obtain⟨k,rows,A2,c2,rfl,rfl,hk,HN,HO,HD,a2,B0,ay,a0⟩:=hrel;by_cases hlt:k<X.length
 .have a4:=Mid.drew1 wo
  have aL:=oH (HO.out.mid a4);have aF:=oH (a2.out.mid a4 oZl);have Bd:=B0.mid a4 oZr;have aI:=a0.trans a4;have aQ:=a4.size;obtain⟨b,az,⟨ea,el,aU⟩,hA, -,ap,he,x0,x1,x2⟩:=(aF.out).ed hlt;simp only at x0 x1 x2;subst hA;have ai:b<(World.drew wo).heap.size:=by omega
  have ar:(0:Int)<=(k:Int):=by omega
  have au:(k:Int)<(X.length:Int):=by omega
  have aO:=HX.out _ (oG he);have aP:=aJ.out.gr.all _ aO;unfold InG at aP;simp only at aP;obtain⟨pa,rfl⟩:∃ m:Nat,ea=m:=⟨ea.toNat,oO⟩
  obtain⟨pb,rfl⟩:∃ m:Nat,aU=m:=⟨aU.toNat,oO⟩
  have ae:=oH he;have aR:=oH (fun W h=>aOZ r n A es c pa pb el W lo hi h aJ.out aO);obtain⟨p0,p1,p2⟩:=Bd.c3 rfl;clear he aO aP HO a2 B0 a0;go_wp2_with fail;refine wp_region_still_tail 5 oK oK ?_;simp only[List.take_succ_cons,List.take_zero,List.drop_succ_cons,List.drop_zero];change wpStill _ _ (World.drew wo) (fun a'=>wpList _ _ _ _ a' (World.drew wo)) _ _;generalize World.drew wo=wz at aL aF Bd aI aQ ai x0 x1 x2 p0 p1 p2 a4 |-;repeat
   (with_reducible refine wpStill_step (fun K hK=>?_))
   go_simp
   first|(with_reducible refine hK _ ?_)
   clear hK K
  with_reducible refine wpStill_nil ?_
  go_wp2_with fail;with_reducible refine(aR.out wz (hr.mid aI oZl)).mono ?_
  rintro en w5 ⟨A5,c5,rfl,aY,a5⟩;have aB:w5.ownsRow wz 3 1 (Row.v ⟨A5,c5,basisW r es ⟨(pa:Int),el,(pb:Int)⟩⟩) (basisW r es ⟨(pa:Int),el,(pb:Int)⟩).length (aAe (basisW r es ⟨(pa:Int),el,(pb:Int)⟩)):=aY;have a3:=oH aB;have a6:=oH (aF.out.mid a5 oZl);have B5:=Bd.mid a5 oZr;have aX:=aI.trans a5;have aw:=a5.size;have aE:=aL;have aS:=oH a5;have ao:=Bd.1;clear aY aB aF Bd aI p0 p1 p2 x0 x1 x2 a4 aR a5 aL;generalize hBW:basisW r es ⟨(pa:Int),el,(pb:Int)⟩=bw at a3 |-;have aa:=oH hBW;clear hBW;go_wp2_with (at_builtin;refine MarkerX.to ?_)
  unfold MarkerX;refine aIO rfl _ _ rfl rfl aE.out aS.out ⟨A5,c5,bw⟩ (.slice A5 bw.length c5) rfl a3.out rfl oO oO ?_;intro A8 c8 w8 aV a1 a7;have ah:=oH aV;have ag:Hid (aAt (rows++[(⟨A5,c5,bw⟩:Row)])=(X.take (k+1)).map (basisW r es)):=oH (by
   obtain⟨h1,h2⟩:=List.getElem?_eq_some_iff.1 ae.out;rw[aAv,HN.out,List.take_succ_eq_append_getElem h1,h2,List.map_append,List.map_cons,aa.out]
   rfl)
  have aM:Hid (RG w8 L2 H3 _ X):=oH (RV.rg (RV.grown a6.out a1 (fun g hg=>by rcases HD.out g hg with h|h <;> omega)));have B8:=B5.grown a1 (by intro h0;have:=(aE.out.lt h0).1;omega);have aj:=aX.grownNew a1 (fun g hg=>by have:=(aE.out.lt hg).1;omega);have ax:=a1.size;have ab:Hid (∀ g,obS A8 (k+1) c8=some g->g=w.heap.size+1 \/ H3<=g):=oH (by
   intro g hg;rcases a7 with h|h
   .exact HD.out g (h ▸ hg)
   .rw[h] at hg
    have aq:=Option.some.inj hg;omega)
  clear aV a1 a7 aE aS a6 B5 aX a3 HN HD;go_wp2_with fail;go_roundw
  case rel=>exact⟨k+1,_,A8,c8,by go_num,rfl,oO,ag,ah,ab,aM,B8,oO,aj⟩
  simp[intOf];omega
 obtain rfl:k=X.length:=by omega
 have hN:=HN.out;rw[List.take_length] at hN;have a8:(X.map (basisW r es)).length=X.length:=List.length_map ..;have HQ:Hid (OSS wo w wo 44 3 A2 c2 (X.map (basisW r es))):=oH ((HO.out.base (Nat.le_succ _)).oss hN);have af:=oH a8;clear hN a8 HN HO HD a2;go_wp2_with fail;go_ret;exact⟨A2,c2,by rw[af.out];rfl,HQ.out,a0⟩
open Classical in
noncomputable def jwA (r s:Int) (es:List Ed) (wd:LI):Option (Int × List Ed):=
 if IsCor r s es/\IsW r wd then(if wd=[] then some (s,es) else if PathOk r s es 0 wd 0 then some (coreA r (s+(wd.length:Int) - 1,canon (es++aCq 0 s wd 0 wd.length))) else none) else none
def JwIs(r s:Int)(es:List Ed)(wd:LI)(rr rs:Int)(res:List Ed)(b:Bool):Prop:=
 (b=true/\jwA r s es wd=some (rs,res)/\rr=r) \/ (b=false/\jwA r s es wd=none/\rr=0/\rs=0/\res=[])
theorem aQY(r s:Int)(es:List Ed)(wd:LI):∃ rr rs res b,JwIs r s es wd rr rs res b:=by
 cases h:jwA r s es wd with
|none=>exact⟨_,_,_,_,.inr ⟨rfl,h,rfl,rfl,rfl⟩⟩
|some p=>exact⟨_,p.1,p.2,_,.inl ⟨rfl,h,rfl⟩⟩
theorem JwIs.no{r s:Int}{es:List Ed}{wd:LI}{rr rs:Int}{res:List Ed}{b:Bool}(h:JwIs r s es wd rr rs res b)(hn:jwA r s es wd=none):b=false/\rr=0/\rs=0/\res=[]:=by
 rcases h with⟨-,h, -⟩|⟨h1, -,h2⟩
 .rw[hn] at h
  cases h
 exact⟨h1,h2⟩
theorem JwIs.yes{r s:Int}{es:List Ed}{wd:LI}{rr rs q:Int}{res qs:List Ed}{b:Bool}(h:JwIs r s es wd rr rs res b)(hn:jwA r s es wd=some (q,qs)):b=true/\rr=r/\rs=q/\res=qs:=by
 rcases h with⟨h1,h,h2⟩|⟨-,h, -⟩
 .rw[hn] at h
  injection h with h
  injection h with h3 h4
  exact⟨h1,h2,h3.symm,h4.symm⟩
 rw[hn] at h;cases h
theorem aTh{r s:Int}{es:List Ed}{wd:LI}{p:Int × List Ed}(h:jwA r s es wd=some p):IsCor r s es/\IsW r wd/\IsGr r p.1 p.2:=by
 unfold jwA at h;split at h
 .rename_i hc
  refine⟨hc.1,hc.2,?_⟩;split at h
  .injection h with h
   subst h;exact hc.1.gr
  split at h
  .rename_i hp
   injection h with h
   subst h;exact aCJ (g:=(s+(wd.length:Int) - 1,canon (es++aCq 0 s wd 0 wd.length))) (aMm hp)
  cases h
 cases h
theorem aEY(r s:Int)(A:OA)(es:List Ed)(c:Nat)(Aw:OA)(wd:LI)(cw:Nat)(w:World)(lo hi lo' hi':Nat)(hr:RG w lo hi A es)(hw:RV w lo' hi' Aw (aAe wd))(hl:es.length<=1048576)(aA:wd.length<=1048576)(a4:OkI wd)(rs:Int)(a0:List Ed)(b:Bool)(a2:PathIs r s es 0 wd 0 rs a0 b) :
  Calls Tryz.prog 181 #[aAJ r s A es.length c,.slice Aw wd.length cw] w fun e w'=>∃ A1 c1,e=.returned (.tuple #[aAJ r rs A1 a0.length c1,.bool b])/\OG w' w.heap.size w'.heap.size A1 c1 a0/\Mid 0 0 w w':=by
 have a1:Mid 0 0 w ((w.alloc (.cells #[r,s,.slice A es.length c] 35)).alloc (.cells #[(0:Int),(0:Int),.slice none 0 0] 35)):=(oE _ _).trans (oE _ _);have b0:=(oJ w #[r,s,.slice A es.length c] 35).mid (oE _ (.cells #[(0:Int),(0:Int),.slice none 0 0] 35)) oZr;have b2:=oJ (w.alloc (.cells #[r,s,.slice A es.length c] 35)) #[(0:Int),(0:Int),.slice none 0 0] 35;simp only[World.size_alloc] at b2;have HR:=oH a2;have a5:=oH a4;clear a2 a4;go_enter Tryz.func181,Tryz.ntmps181
 go_wp2_with fail;generalize ((w.alloc (.cells #[r,s,.slice A es.length c] 35)).alloc (.cells #[(0:Int),(0:Int),.slice none 0 0] 35))=w1 at a1 b0 b2 |-;have aB:w.heap.size+1<w1.heap.size:=b2.1;with_reducible refine(aNN r s A es c 0 Aw wd cw 0 w1 _ _ _ _ (hr.mid a1 oZl) (hw.mid a1 oZl) hl aA a5.out rs a0 b HR.out).mono ?_
 rintro en w2 ⟨A2,c2,rfl,a7,a3⟩;replace b0:=b0.mid a3 oZr;replace b2:=b2.mid a3 oZr;replace a1:=a1.trans a3;have aC:=a3.size;have a6:=oE w2 (.cells #[r,rs,.slice A2 a0.length c2] 35);have Y2:=oJ w2 #[r,rs,.slice A2 a0.length c2] 35;have a8:w.heap.size+1<w2.heap.size:=by omega
 have a9:w.heap.size<w2.heap.size:=by omega
 obtain⟨q0,q1,q2⟩:=Y2.c3 rfl;obtain⟨z0,z1,z2⟩:=b2.c3 rfl;have zf:=b2.2.2;clear a6;go_wp2_with fail;refine oW (v:=.tuple #[.agg #[r,rs,.slice A2 a0.length c2],.bool b]) (by simp[results,Tryz.results181,go_sem,z0,z1,z2,zf,q0,q1,q2,a8,a9,World.cell?_alloc_lt]) rfl ⟨A2,c2,rfl,?_,?_⟩
 .refine OG.wide (OG.mid a7 (a:=w.heap.size+1) (b:=w.heap.size+2) ?_ oL) oO (by simp;try omega) oN
  repeat (first|exact Mid.refl _ _ _|refine Mid.trans ?_ (Mid.zero (oE _ _))|refine Mid.stored ?_ _ (by simp;try omega) (by simp;try omega))
 repeat (first|exact a1|refine Mid.trans ?_ (oE _ _)|refine oQ ?_ (by simp;try omega) _)
theorem aMA(r s:Int)(A:OA)(es:List Ed)(c:Nat)(Aw:OA)(wd:LI)(cw:Nat)(w:World)(lo hi lo' hi':Nat)(hr:RG w lo hi A es)(hw:RV w lo' hi' Aw (aAe wd))(hl:es.length<=1048576)(aN:wd.length<=1048576)(aM:OkI wd)(rr rs:Int)(a7:List Ed)(b:Bool)(a9:JwIs r s es wd rr rs a7 b) :
  Calls Tryz.prog 227 #[aAJ r s A es.length c,.slice Aw wd.length cw] w fun e w'=>∃ A1 c1,e=.returned (.tuple #[aAJ rr rs A1 a7.length c1,.bool b])/\OG w' w.heap.size w'.heap.size A1 c1 a7/\Mid 0 0 w w':=by
 have a0:Mid 0 0 w ((w.alloc (.cells #[r,s,.slice A es.length c] 35)).alloc (.cells #[(0:Int),(0:Int),.slice none 0 0] 35)):=(oE _ _).trans (oE _ _);have b0:=(oJ w #[r,s,.slice A es.length c] 35).mid (oE _ (.cells #[(0:Int),(0:Int),.slice none 0 0] 35)) oZr;have b2:=oJ (w.alloc (.cells #[r,s,.slice A es.length c] 35)) #[(0:Int),(0:Int),.slice none 0 0] 35;simp only[World.size_alloc] at b2;have HR:=oH a9;have aB:=oH aM;clear a9 aM;go_enter Tryz.func227,Tryz.ntmps227
 go_wp2_with fail;generalize ((w.alloc (.cells #[r,s,.slice A es.length c] 35)).alloc (.cells #[(0:Int),(0:Int),.slice none 0 0] 35))=w1 at a0 b0 b2 |-;have aV:w.heap.size+1<w1.heap.size:=b2.1;by_cases hc:IsCor r s es
 .have HC:=oH hc
  clear hc;with_reducible refine(aAH r s A es c _ _ _ (hr.mid a0 oZl) hl true (oX rfl HC.out)).mono ?_
  rintro en w2 ⟨rfl,a4⟩;replace b0:=b0.mid a4 oZr;replace b2:=b2.mid a4 oZr;replace a0:=a0.trans a4;have aW:=a4.size;obtain⟨p0,p1,p2⟩:=b0.c3 rfl;go_wp2_with fail;by_cases hwd:IsW r wd
  .have HW:=oH hwd
   clear hwd;with_reducible refine(aCi r Aw wd cw _ _ ((hw.mid a0 oZl).rs) aB.out oO true (oX rfl HW.out)).mono ?_
   rintro en w3 ⟨rfl,nd,aA⟩;have a2:Mid 0 0 w2 w3:=by rw[aA];exact(Mid.refl 0 0 w2).drewN nd
   replace b0:=b0.mid a2 oZr;replace b2:=b2.mid a2 oZr;replace a0:=a0.trans a2;have aR:=a2.size;clear p0 p1 p2 aA a2;obtain⟨p0,p1,p2⟩:=b0.c3 rfl;by_cases hne:wd=[]
   .subst hne
    have a1:jwA r s es []=some (s,es):=by rw[jwA,if_pos ⟨HC.out,HW.out⟩,if_pos rfl]
    obtain⟨rfl,rfl,rfl,rfl⟩:=HR.out.yes a1;clear HR a1;go_wp2_with fail;with_reducible refine(aCk rr rs A a7 c _ _ _ (hr.mid a0 oZl) hl).mono ?_
    rintro en w4 ⟨A4,c4,rfl,a6,a3⟩;replace b2:=b2.mid a3 oZr;replace a0:=a0.trans a3;have aS:=a3.size;obtain⟨z0,z1,z2⟩:=b2.c3 rfl;have zf:=b2.2.2;clear p0 p1 p2;go_wp2_with fail;refine oW (v:=.tuple #[.agg #[rr,rs,.slice A4 a7.length c4],.bool true]) (by simp[results,Tryz.results227,go_sem,z0,z1,z2,zf]) rfl ⟨A4,c4,rfl,?_,?_⟩
    .refine OG.wide (OG.mid a6 (a:=w.heap.size+1) (b:=w.heap.size+2) ?_ oL) oO oM oN
     repeat (first|exact Mid.refl _ _ _|refine Mid.stored ?_ _ (by simp;try omega) (by simp;try omega))
    repeat (first|exact a0|refine oQ ?_ (by simp;try omega) _)
   have d4:((wd.length:Int) == 0)=false:=by have:=List.length_pos_iff.2 hne;simp only[beq_eq_false_iff_ne];omega
   have aJ:=oH hne;clear hne;by_cases hp:PathOk r s es 0 wd 0
   .have HP:=oH hp
    clear hp;obtain⟨ms,aD⟩:∃ ms,canon (es++aCq 0 s wd 0 wd.length)=ms:=⟨_,rfl⟩
    have a8:=aMm HP.out;rw[aD] at a8;obtain⟨sn,aE⟩:∃ sn:Nat,s+(wd.length:Int) - 1=sn:=⟨(s+(wd.length:Int) - 1).toNat,by have:=a8.size;omega⟩
    have a5:PathIs r s es 0 wd 0 (s+(wd.length:Int) - 1) ms true:=Or.inl ⟨rfl,HP.out,rfl,aD.symm⟩;have a1:jwA r s es wd=some (coreA r (s+(wd.length:Int) - 1,canon (es++aCq 0 s wd 0 wd.length))):=by rw[jwA,if_pos ⟨HC.out,HW.out⟩,if_neg aJ.out,if_pos HP.out]
    rw[aD,aE] at a1;rw[aE] at a5 a8;have aF:=oH a8;have aG:=oH a5;have aT:=oH aE;clear aD a8 a5 aE;obtain⟨rn,rfl⟩:∃ rn:Nat,r=rn:=⟨r.toNat,by have:=aF.out.rank;omega⟩
    obtain⟨q,qs,hQ, -⟩:=aFh (aCJ (g:=((sn:Int),ms)) aF.out);rw[hQ] at a1;obtain⟨rfl,aP,aQ,aU⟩:=HR.out.yes a1;subst aP aQ;subst a7;clear HR a1;go_wp2_with fail;with_reducible refine(aEY rn s A es c Aw wd cw _ _ _ _ _ (hr.mid a0 oZl) (hw.mid a0 oZl) hl aN aB.out sn ms true aG.out).mono ?_
    rintro en w4 ⟨A4,c4,rfl,a6,a3⟩;have aS:=a3.size;have aC:=oE w4 (.cells #[rn,sn,.slice A4 ms.length c4] 35);have Y4:=oJ w4 #[rn,sn,.slice A4 ms.length c4] 35;replace b2:=b2.mid a3 oZr;replace a0:=a0.trans a3;replace b2:=b2.mid aC oZr;replace a6:=a6.mid aC oZl;replace a0:=a0.trans aC;have aX:=aC.size;obtain⟨y0,y1,y2⟩:=Y4.c3 rfl;have hP:=aDd rn sn A4 ms c4 (w4.alloc (.cells #[rn,sn,.slice A4 ms.length c4] 35)) _ _ (OG.rg a6) aF.out;rw[hQ] at hP;dsimp only at hP;have aK:=oH hP;clear hP hQ p0 p1 p2;go_wp2_with fail;with_reducible refine aK.out.mono ?_
    rintro en w6 ⟨A5,c5,rfl,aO,aL⟩;clear aK;replace b2:=b2.mid aL oZr;replace a0:=a0.trans aL;obtain⟨z0,z1,z2⟩:=b2.c3 rfl;have zf:=b2.2.2;go_wp2_with fail;refine oW (v:=.tuple #[.agg #[rn,q,.slice A5 qs.length c5],.bool true]) (by simp[results,Tryz.results227,go_sem,z0,z1,z2,zf]) rfl ⟨A5,c5,rfl,?_,?_⟩
    .refine OG.wide (OG.mid aO (a:=w.heap.size+1) (b:=w.heap.size+2) ?_ oL) oO oM oN
     repeat (first|exact Mid.refl _ _ _|refine Mid.stored ?_ _ (by simp;try omega) (by simp;try omega))
    repeat (first|exact a0|refine oQ ?_ (by simp;try omega) _)
   have a5:PathIs r s es 0 wd 0 s es false:=Or.inr ⟨rfl,hp,rfl,rfl⟩;have a1:jwA r s es wd=none:=by rw[jwA,if_pos ⟨HC.out,HW.out⟩,if_neg aJ.out,if_neg hp]
   obtain⟨rfl,rfl,rfl,rfl⟩:=HR.out.no a1;have aG:=oH a5;clear HR a1 hp a5;go_wp2_with fail;with_reducible refine(aEY r s A es c Aw wd cw _ _ _ _ _ (hr.mid a0 oZl) (hw.mid a0 oZl) hl aN aB.out s es false aG.out).mono ?_
   rintro en w4 ⟨A4,c4,rfl,a6,a3⟩;replace b2:=b2.mid a3 oZr;replace a0:=a0.trans a3;have aI:w.heap.size+1<w4.heap.size:=b2.1;have aH:w.heap.size<w4.heap.size:=by omega
   obtain⟨z0,z1,z2⟩:=b2.c3 rfl;have zf:=b2.2.2;clear p0 p1 p2;go_wp2_with fail;refine oW (v:=.tuple #[.agg #[(0:Int),(0:Int),.slice none 0 0],.bool false]) (by simp[results,Tryz.results227,go_sem,z0,z1,z2,zf,aH,aI,World.cell?_alloc_lt]) rfl ⟨none,0,rfl,?_,?_⟩
   .exact⟨oN,⟨rfl,.inl ⟨rfl,rfl⟩⟩,fun g hg=>by simp[Value.ownBlock] at hg⟩
   repeat (first|exact a0|refine Mid.trans ?_ (oE _ _)|refine oQ ?_ (by simp;try omega) _)
  have a1:jwA r s es wd=none:=by rw[jwA,if_neg fun h=>hwd h.2]
  obtain⟨rfl,rfl,rfl,rfl⟩:=HR.out.no a1;have HW:=oH hwd;clear hwd a1 HR;with_reducible refine(aCi r Aw wd cw _ _ ((hw.mid a0 oZl).rs) aB.out oO false (iff_of_false Bool.false_ne_true HW.out)).mono ?_
  rintro en w3 ⟨rfl,nd,aA⟩;have a2:Mid 0 0 w2 w3:=by rw[aA];exact(Mid.refl 0 0 w2).drewN nd
  replace b0:=b0.mid a2 oZr;replace b2:=b2.mid a2 oZr;replace a0:=a0.trans a2;have aR:=a2.size;clear p0 p1 p2 aA a2;obtain⟨p0,p1,p2⟩:=b0.c3 rfl;obtain⟨z0,z1,z2⟩:=b2.c3 rfl;have zf:=b2.2.2;clear p0 p1 p2;go_wp2_with fail;refine oW (v:=.tuple #[.agg #[(0:Int),(0:Int),.slice none 0 0],.bool false]) (by simp[results,Tryz.results227,go_sem,z0,z1,z2,zf]) rfl ⟨none,0,rfl,?_,?_⟩
  .exact⟨oN,⟨rfl,.inl ⟨rfl,rfl⟩⟩,fun g hg=>by simp[Value.ownBlock] at hg⟩
  repeat (first|exact a0|refine Mid.trans ?_ (oE _ _)|refine oQ ?_ (by simp;try omega) _)
 have a1:jwA r s es wd=none:=by rw[jwA,if_neg fun h=>hc h.1]
 obtain⟨rfl,rfl,rfl,rfl⟩:=HR.out.no a1;have HC:=oH hc;clear hc a1 HR;with_reducible refine(aAH r s A es c _ _ _ (hr.mid a0 oZl) hl false (iff_of_false Bool.false_ne_true HC.out)).mono ?_
 rintro en w2 ⟨rfl,a4⟩;replace b2:=b2.mid a4 oZr;replace a0:=a0.trans a4;obtain⟨z0,z1,z2⟩:=b2.c3 rfl;have zf:=b2.2.2;go_wp2_with fail;refine oW (v:=.tuple #[.agg #[(0:Int),(0:Int),.slice none 0 0],.bool false]) (by simp[results,Tryz.results227,go_sem,z0,z1,z2,zf]) rfl ⟨none,0,rfl,?_,?_⟩
 .exact⟨oN,⟨rfl,.inl ⟨rfl,rfl⟩⟩,fun g hg=>by simp[Value.ownBlock] at hg⟩
 repeat (first|exact a0|refine Mid.trans ?_ (oE _ _)|refine oQ ?_ (by simp;try omega) _)
theorem aEP(r s:Int)(A:OA)(es:List Ed)(c:Nat)(Aw:OA)(wd:LI)(cw:Nat)(w:World)(lo hi lo' hi':Nat)(hr:RG w lo hi A es)(hw:RV w lo' hi' Aw (aAe wd))(hl:es.length<=1048576)(a7:wd.length<=1048576)(a4:OkI wd)(rs:Int)(a2:List Ed)(b:Bool)(a1:PathIs r s es 0 wd 0 rs a2 b) :
  Calls Tryz.prog 224 #[aAJ r s A es.length c,.slice Aw wd.length cw] w fun e w'=>∃ A1 c1,e=.returned (.tuple #[aAJ r rs A1 a2.length c1,.bool b])/\OG w' w.heap.size w'.heap.size A1 c1 a2/\Mid 0 0 w w':=by
 have a0:Mid 0 0 w ((w.alloc (.cells #[r,s,.slice A es.length c] 35)).alloc (.cells #[(0:Int),(0:Int),.slice none 0 0] 35)):=(oE _ _).trans (oE _ _);have b0:=(oJ w #[r,s,.slice A es.length c] 35).mid (oE _ (.cells #[(0:Int),(0:Int),.slice none 0 0] 35)) oZr;have b2:=oJ (w.alloc (.cells #[r,s,.slice A es.length c] 35)) #[(0:Int),(0:Int),.slice none 0 0] 35;simp only[World.size_alloc] at b2;have HR:=oH a1;have a5:=oH a4;clear a1 a4;go_enter Tryz.func224,Tryz.ntmps224
 go_wp2_with fail;generalize ((w.alloc (.cells #[r,s,.slice A es.length c] 35)).alloc (.cells #[(0:Int),(0:Int),.slice none 0 0] 35))=w1 at a0 b0 b2 |-;have a8:w.heap.size+1<w1.heap.size:=b2.1;with_reducible refine(aNj r s A es c 0 Aw wd cw 0 w1 _ _ _ _ (hr.mid a0 oZl) (hw.mid a0 oZl) hl a7 a5.out rs a2 b HR.out).mono ?_
 rintro en w2 ⟨A2,c2,rfl,a6,a3⟩;replace b0:=b0.mid a3 oZr;replace b2:=b2.mid a3 oZr;replace a0:=a0.trans a3;have a9:=a3.size;obtain⟨z0,z1,z2⟩:=b2.c3 rfl;have zf:=b2.2.2;go_wp2_with fail;refine oW (v:=.tuple #[.agg #[r,rs,.slice A2 a2.length c2],.bool b]) (by simp[results,Tryz.results224,go_sem,z0,z1,z2,zf]) rfl ⟨A2,c2,rfl,?_,?_⟩
 .refine OG.wide (OG.mid a6 (a:=w.heap.size+1) (b:=w.heap.size+2) ?_ oL) oO oM oN
  repeat (first|exact Mid.refl _ _ _|refine Mid.stored ?_ _ (by simp;try omega) (by simp;try omega))
 repeat (first|exact a0|refine oQ ?_ (by simp;try omega) _)
theorem aLV(r s:Int)(A:OA)(es:List Ed)(c:Nat)(Aw:OA)(wd:LI)(cw:Nat)(w:World)(lo hi lo' hi':Nat)(hr:RG w lo hi A es)(hw:RV w lo' hi' Aw (aAe wd))(hl:es.length<=1048576)(aJ:es.length<=c)(aM:wd.length<=1048576)(aL:OkI wd)(rr rs:Int)(a6:List Ed)(b:Bool)(a8:JwIs r s es wd rr rs a6 b) :
  Calls Tryz.prog 164 #[aAJ r s A es.length c,.slice Aw wd.length cw] w fun e w'=>∃ A1 c1,e=.returned (.tuple #[aAJ rr rs A1 a6.length c1,.bool b])/\OG w' w.heap.size w'.heap.size A1 c1 a6/\Mid 0 0 w w':=by
 have a0:Mid 0 0 w ((w.alloc (.cells #[r,s,.slice A es.length c] 35)).alloc (.cells #[(0:Int),(0:Int),.slice none 0 0] 35)):=(oE _ _).trans (oE _ _);have b0:=(oJ w #[r,s,.slice A es.length c] 35).mid (oE _ (.cells #[(0:Int),(0:Int),.slice none 0 0] 35)) oZr;have b2:=oJ (w.alloc (.cells #[r,s,.slice A es.length c] 35)) #[(0:Int),(0:Int),.slice none 0 0] 35;simp only[World.size_alloc] at b2;have HR:=oH a8;have a9:=oH aL;clear a8 aL;go_enter Tryz.func164,Tryz.ntmps164
 go_wp2_with fail;generalize ((w.alloc (.cells #[r,s,.slice A es.length c] 35)).alloc (.cells #[(0:Int),(0:Int),.slice none 0 0] 35))=w1 at a0 b0 b2 |-;have aT:w.heap.size+1<w1.heap.size:=b2.1;by_cases hc:IsCor r s es
 .have HC:=oH hc
  clear hc;with_reducible refine(aBl r s A es c _ _ _ (hr.mid a0 oZl) hl aJ true (oX rfl HC.out)).mono ?_
  rintro en w2 ⟨rfl,a3⟩;replace b0:=b0.mid a3 oZr;replace b2:=b2.mid a3 oZr;replace a0:=a0.trans a3;have aU:=a3.size;obtain⟨p0,p1,p2⟩:=b0.c3 rfl;go_wp2_with fail;by_cases hwd:IsW r wd
  .have HW:=oH hwd
   clear hwd;with_reducible refine(aBP r Aw wd cw _ _ ((hw.mid a0 oZl).rs) a9.out oO true (oX rfl HW.out)).mono ?_
   rintro en w3 ⟨rfl,rfl⟩;by_cases hne:wd=[]
   .subst hne
    have a1:jwA r s es []=some (s,es):=by rw[jwA,if_pos ⟨HC.out,HW.out⟩,if_pos rfl]
    obtain⟨rfl,rfl,rfl,rfl⟩:=HR.out.yes a1;clear HR a1;go_wp2_with fail;with_reducible refine(aBH rr rs A a6 c _ _ _ (hr.mid a0 oZl) hl).mono ?_
    rintro en w4 ⟨A4,c4,rfl,a5,a2⟩;replace b2:=b2.mid a2 oZr;replace a0:=a0.trans a2;have aQ:=a2.size;obtain⟨z0,z1,z2⟩:=b2.c3 rfl;have zf:=b2.2.2;clear p0 p1 p2;go_wp2_with fail;refine oW (v:=.tuple #[.agg #[rr,rs,.slice A4 a6.length c4],.bool true]) (by simp[results,Tryz.results164,go_sem,z0,z1,z2,zf]) rfl ⟨A4,c4,rfl,?_,?_⟩
    .refine OG.wide (OG.mid a5 (a:=w.heap.size+1) (b:=w.heap.size+2) ?_ oL) oO oM oN
     repeat (first|exact Mid.refl _ _ _|refine Mid.stored ?_ _ (by simp;try omega) (by simp;try omega))
    repeat (first|exact a0|refine oQ ?_ (by simp;try omega) _)
   have d4:((wd.length:Int) == 0)=false:=by have:=List.length_pos_iff.2 hne;simp only[beq_eq_false_iff_ne];omega
   have aH:=oH hne;clear hne;by_cases hp:PathOk r s es 0 wd 0
   .have HP:=oH hp
    clear hp;obtain⟨ms,aB⟩:∃ ms,canon (es++aCq 0 s wd 0 wd.length)=ms:=⟨_,rfl⟩
    have a7:=aMm HP.out;rw[aB] at a7;obtain⟨sn,aC⟩:∃ sn:Nat,s+(wd.length:Int) - 1=sn:=⟨(s+(wd.length:Int) - 1).toNat,by have:=a7.size;omega⟩
    have a4:PathIs r s es 0 wd 0 (s+(wd.length:Int) - 1) ms true:=Or.inl ⟨rfl,HP.out,rfl,aB.symm⟩;have a1:jwA r s es wd=some (coreA r (s+(wd.length:Int) - 1,canon (es++aCq 0 s wd 0 wd.length))):=by rw[jwA,if_pos ⟨HC.out,HW.out⟩,if_neg aH.out,if_pos HP.out]
    rw[aB,aC] at a1;rw[aC] at a4 a7;have aD:=oH a7;have aE:=oH a4;have aR:=oH aC;clear aB a7 a4 aC;obtain⟨rn,rfl⟩:∃ rn:Nat,r=rn:=⟨r.toNat,by have:=aD.out.rank;omega⟩
    obtain⟨q,qs,hQ, -⟩:=aFh (aCJ (g:=((sn:Int),ms)) aD.out);rw[hQ] at a1;obtain⟨rfl,aO,aP,aS⟩:=HR.out.yes a1;subst aO aP;subst a6;clear HR a1;go_wp2_with fail;with_reducible refine(aEP rn s A es c Aw wd cw _ _ _ _ _ (hr.mid a0 oZl) (hw.mid a0 oZl) hl aM a9.out sn ms true aE.out).mono ?_
    rintro en w4 ⟨A4,c4,rfl,a5,a2⟩;have aQ:=a2.size;have aA:=oE w4 (.cells #[rn,sn,.slice A4 ms.length c4] 35);have Y4:=oJ w4 #[rn,sn,.slice A4 ms.length c4] 35;replace b2:=b2.mid a2 oZr;replace a0:=a0.trans a2;replace b2:=b2.mid aA oZr;replace a5:=a5.mid aA oZl;replace a0:=a0.trans aA;have aV:=aA.size;obtain⟨y0,y1,y2⟩:=Y4.c3 rfl;have hP:=aEn rn sn A4 ms c4 (w4.alloc (.cells #[rn,sn,.slice A4 ms.length c4] 35)) _ _ (OG.rg a5) aD.out;rw[hQ] at hP;dsimp only at hP;have aI:=oH hP;clear hP hQ p0 p1 p2;go_wp2_with fail;with_reducible refine aI.out.mono ?_
    rintro en w6 ⟨A5,c5,rfl,aN,aK⟩;clear aI;replace b2:=b2.mid aK oZr;replace a0:=a0.trans aK;obtain⟨z0,z1,z2⟩:=b2.c3 rfl;have zf:=b2.2.2;go_wp2_with fail;refine oW (v:=.tuple #[.agg #[rn,q,.slice A5 qs.length c5],.bool true]) (by simp[results,Tryz.results164,go_sem,z0,z1,z2,zf]) rfl ⟨A5,c5,rfl,?_,?_⟩
    .refine OG.wide (OG.mid aN (a:=w.heap.size+1) (b:=w.heap.size+2) ?_ oL) oO oM oN
     repeat (first|exact Mid.refl _ _ _|refine Mid.stored ?_ _ (by simp;try omega) (by simp;try omega))
    repeat (first|exact a0|refine oQ ?_ (by simp;try omega) _)
   have a4:PathIs r s es 0 wd 0 s es false:=Or.inr ⟨rfl,hp,rfl,rfl⟩;have a1:jwA r s es wd=none:=by rw[jwA,if_pos ⟨HC.out,HW.out⟩,if_neg aH.out,if_neg hp]
   obtain⟨rfl,rfl,rfl,rfl⟩:=HR.out.no a1;have aE:=oH a4;clear HR a1 hp a4;go_wp2_with fail;with_reducible refine(aEP r s A es c Aw wd cw _ _ _ _ _ (hr.mid a0 oZl) (hw.mid a0 oZl) hl aM a9.out s es false aE.out).mono ?_
   rintro en w4 ⟨A4,c4,rfl,a5,a2⟩;replace b2:=b2.mid a2 oZr;replace a0:=a0.trans a2;have aG:w.heap.size+1<w4.heap.size:=b2.1;have aF:w.heap.size<w4.heap.size:=by omega
   obtain⟨z0,z1,z2⟩:=b2.c3 rfl;have zf:=b2.2.2;clear p0 p1 p2;go_wp2_with fail;refine oW (v:=.tuple #[.agg #[(0:Int),(0:Int),.slice none 0 0],.bool false]) (by simp[results,Tryz.results164,go_sem,z0,z1,z2,zf,aF,aG,World.cell?_alloc_lt]) rfl ⟨none,0,rfl,?_,?_⟩
   .exact⟨oN,⟨rfl,.inl ⟨rfl,rfl⟩⟩,fun g hg=>by simp[Value.ownBlock] at hg⟩
   repeat (first|exact a0|refine Mid.trans ?_ (oE _ _)|refine oQ ?_ (by simp;try omega) _)
  have a1:jwA r s es wd=none:=by rw[jwA,if_neg fun h=>hwd h.2]
  obtain⟨rfl,rfl,rfl,rfl⟩:=HR.out.no a1;have HW:=oH hwd;clear hwd a1 HR;with_reducible refine(aBP r Aw wd cw _ _ ((hw.mid a0 oZl).rs) a9.out oO false (iff_of_false Bool.false_ne_true HW.out)).mono ?_
  rintro en w3 ⟨rfl,rfl⟩;obtain⟨z0,z1,z2⟩:=b2.c3 rfl;have zf:=b2.2.2;clear p0 p1 p2;go_wp2_with fail;refine oW (v:=.tuple #[.agg #[(0:Int),(0:Int),.slice none 0 0],.bool false]) (by simp[results,Tryz.results164,go_sem,z0,z1,z2,zf]) rfl ⟨none,0,rfl,?_,?_⟩
  .exact⟨oN,⟨rfl,.inl ⟨rfl,rfl⟩⟩,fun g hg=>by simp[Value.ownBlock] at hg⟩
  repeat (first|exact a0|refine Mid.trans ?_ (oE _ _)|refine oQ ?_ (by simp;try omega) _)
 have a1:jwA r s es wd=none:=by rw[jwA,if_neg fun h=>hc h.1]
 obtain⟨rfl,rfl,rfl,rfl⟩:=HR.out.no a1;have HC:=oH hc;clear hc a1 HR;with_reducible refine(aBl r s A es c _ _ _ (hr.mid a0 oZl) hl aJ false (iff_of_false Bool.false_ne_true HC.out)).mono ?_
 rintro en w2 ⟨rfl,a3⟩;replace b2:=b2.mid a3 oZr;replace a0:=a0.trans a3;obtain⟨z0,z1,z2⟩:=b2.c3 rfl;have zf:=b2.2.2;go_wp2_with fail;refine oW (v:=.tuple #[.agg #[(0:Int),(0:Int),.slice none 0 0],.bool false]) (by simp[results,Tryz.results164,go_sem,z0,z1,z2,zf]) rfl ⟨none,0,rfl,?_,?_⟩
 .exact⟨oN,⟨rfl,.inl ⟨rfl,rfl⟩⟩,fun g hg=>by simp[Value.ownBlock] at hg⟩
 repeat (first|exact a0|refine Mid.trans ?_ (oE _ _)|refine oQ ?_ (by simp;try omega) _)
def aGQ(x:Int)(p:LI)(k:Nat):List Ed:=(List.range k).map fun(v:Nat)=>⟨(v:Int),x,p.getD v 0⟩
theorem aLm{x y:Int}{p:LI}{k:Nat}(h:p[k]?=some y):aGQ x p (k+1)=aGQ x p k++[⟨(k:Int),x,y⟩]:=by simp[aGQ,List.range_succ,List.getD,h]
theorem aKi(x:Int)(p:LI)(k:Nat):(aGQ x p k).length=k:=by simp[aGQ]
def aBM(l:LL):Nat->List Ed
|0=>[]
|k+1=>aBM l k++(match l[k]? with|none=>[]|some p=>aGQ ((k:Int)+1) p p.length)
theorem aDz{l:LL}{k:Nat}{p:LI}(h:l[k]?=some p):aBM l (k+1)=aBM l k++aGQ ((k:Int)+1) p p.length:=by rw[aBM,h]
structure GActOk (rank:Int) (l:LL) (n:Nat):Prop where
 rk:1<=rank/\rank<=3
 ln:(l.length:Int)=rank
 n0:0<n
 all:∀ p∈l,aID p/\p.length=n
theorem GActOk.n40{rank:Int}{l:LL}{n:Nat}(h:GActOk rank l n):n<=40:=by
 have h1:=h.ln;have h2:=h.rk;cases l with
|nil=>simp at h1;omega
|cons p t=>
  have:=h.all p oM;have h3:=this.1.1;omega
theorem aJG{l:LL}{n:Nat}(h:∀ p∈l,p.length=n):∀ k,k<=l.length->(aBM l k).length=k * n
|0,_=>by simp[aBM]
|k+1,hk=>by
  have hp:=List.getElem?_eq_getElem (l:=l) (i:=k) oO;rw[aDz hp,List.length_append,aKi,aJG h k oO,h _ (List.getElem_mem _),Nat.succ_mul]
theorem aTG{rank:Int}{l:LL}{n:Nat}(h:GActOk rank l n):∀ k,k<=l.length->∀ e∈aBM l k,InG rank n e
|0,_,e,he=>by simp[aBM] at he
|k+1,hk,e,he=>by
  have hp:=List.getElem?_eq_getElem (l:=l) (i:=k) oO;rw[aDz hp] at he;rcases List.mem_append.1 he with he|he
  .exact aTG h k oO e he
  .simp only[aGQ,List.mem_map,List.mem_range] at he
   obtain⟨v,hv,rfl⟩:=he;obtain⟨h1,h2⟩:=h.all _ (List.getElem_mem (by omega:k<l.length));have h3:=h1.2.1 (l[k].getD v 0) (by rw[List.getD_eq_getElem?_getD,List.getElem?_eq_getElem hv];exact List.getElem_mem _);have h4:=h.ln;unfold InG;simp only;omega
theorem aKU{rank:Int}{l:LL}{n:Nat}(h:GActOk rank l n):IsGr rank n (canon (aBM l l.length)):=by
 have a0:=h.n40;have hr:=h.rk;have hn:=h.n0;refine⟨hr,⟨oO,oO⟩,?_,?_,aCI _⟩
 .have h1:=aDe (aBM l l.length)
  rw[aJG (fun p hp=>(h.all p hp).2) l.length oN] at h1;have h2:=h.ln;have h3:l.length * n<=3 * 40:=Nat.mul_le_mul oO a0;omega
 intro e he;exact aTG h l.length oN e (aAO.1 he)
def n0L(l:LL):Nat:=(l.headD []).length
def GActIs(rank:Int)(l:LL)(rr rs:Int)(res:List Ed)(b:Bool):Prop:=
 (b=true/\GActOk rank l (n0L l)/\rr=rank/\rs=(coreA rank ((n0L l:Nat),canon (aBM l l.length))).1/\res=(coreA rank ((n0L l:Nat),canon (aBM l l.length))).2) \/ (b=false/\¬ GActOk rank l (n0L l)/\rr=0/\rs=0/\res=[])
theorem aQX(rank:Int)(l:LL):∃ rr rs res b,GActIs rank l rr rs res b:=by
 by_cases h:GActOk rank l (n0L l)
 .exact⟨_,_,_,_,.inl ⟨rfl,h,rfl,rfl,rfl⟩⟩
 exact⟨_,_,_,_,.inr ⟨rfl,h,rfl,rfl,rfl⟩⟩
theorem GActIs.no{rank:Int}{l:LL}{rr rs:Int}{res:List Ed}{b:Bool}(h:GActIs rank l rr rs res b)(hn:¬ GActOk rank l (n0L l)):b=false/\rr=0/\rs=0/\res=[]:=by
 rcases h with⟨-,h, -⟩|⟨h1, -,h2⟩
 .exact absurd h hn
 exact⟨h1,h2⟩
theorem GActIs.yes{rank:Int}{l:LL}{rr rs:Int}{res:List Ed}{b:Bool}(h:GActIs rank l rr rs res b)(hn:GActOk rank l (n0L l)):b=true/\rank=rr/\rs=(coreA rank ((n0L l:Nat),canon (aBM l l.length))).1/\res=(coreA rank ((n0L l:Nat),canon (aBM l l.length))).2:=by
 rcases h with⟨h1, -,h2,h3⟩|⟨-,h, -⟩
 .exact⟨h1,h2.symm,h3⟩
 exact absurd hn h
theorem GActIs.lens{rank:Int}{l:LL}{rr rs:Int}{res:List Ed}{b:Bool}(h:GActIs rank l rr rs res b):res.length<=120:=by
 rcases h with⟨-,h, -, -,rfl⟩|⟨-, -, -, -,rfl⟩
 .exact(aCJ (g:=((n0L l:Nat),canon (aBM l l.length))) (aKU h)).len
 simp
theorem aTQ{l:LL}{p:LI}(h:l[0]?=some p):n0L l=p.length:=by
 cases l with
|nil=>simp at h
|cons q t=>simp at h;subst h;rfl
theorem aJm{x:Int}{b:Bool}(hb:b=true↔1<=x/\x<=3):inB x 1 3=b:=by
 cases b
 .have h:¬ (1<=x/\x<=3):=fun h=>by have:=hb.2 h;cases this
  unfold inB;simp;omega
 have:=hb.1 rfl;unfold inB;simp;omega
theorem aHu(rank:Int)(A:OA)(l:LL)(c:Nat)(w:World)(lo hi:Nat)(hr:RSS w lo hi A l)(hl:l.length+aAK l<=1048576)(bH:(Lit.int .i64 rank).wf=true)(rr rs:Int)(aJ:List Ed)(b:Bool)(aD:GActIs rank l rr rs aJ b) :
  Calls Tryz.prog 159 #[.int .i64 rank,.slice A l.length c] w fun e w'=>∃ A1 c1,e=.returned (.tuple #[aAJ rr rs A1 aJ.length c1,.bool b])/\OG w' w.heap.size w'.heap.size A1 c1 aJ/\Mid 0 0 w w':=by
 have HR:=oH aD;clear aD;obtain⟨b1,aO⟩:=aAF (1<=rank/\rank<=3);have H1:=oH aO;have aa:=aJm aO;clear aO;have a3:Mid 0 0 w (w.alloc (.cells #[(0:Int),(0:Int),.slice none 0 0] 35)):=oE _ _;have B2:=oJ w #[(0:Int),(0:Int),.slice none 0 0] 35;go_enter Tryz.func159,Tryz.ntmps159
 go_wp2_with fail;generalize w.alloc (.cells #[(0:Int),(0:Int),.slice none 0 0] 35)=w1 at a3 B2 |-;have ax:w.heap.size<w1.heap.size:=B2.1;with_reducible refine(aDm aa _).mono ?_
 rintro en w2 ⟨rfl,rfl⟩;cases b1 with
|false=>
  have a1:¬ GActOk rank l (n0L l):=fun h=>by have:=H1.out.2 h.rk;cases this
  obtain⟨rfl,rfl,rfl,rfl⟩:=HR.out.no a1;obtain⟨z0,z1,z2⟩:=B2.c3 rfl;have zf:=B2.2.2;go_wp2_with fail;refine oW (v:=.tuple #[.agg #[(0:Int),(0:Int),.slice none 0 0],.bool false]) (by simp[results,Tryz.results159,go_sem,z0,z1,z2,zf]) rfl ⟨none,0,rfl,OG.nil,?_⟩;repeat (first|exact a3|refine oQ ?_ (by simp;try omega) _)
|true=>
 have aw:=H1.out.1 rfl;clear H1 aa;by_cases hln:(l.length:Int)=rank
 .have dl:((l.length:Int) != rank)=false:=by simpa using hln
  obtain⟨B0,o0,Ap0,b2,p0,rfl, -,b3,aU,aP, -⟩:=(hr.mid a3 oZl).row (k:=0) oO;have aM:B0<w1.heap.size:=by have:=(hr.mid a3 oZl).size;omega
  have aT:=aTQ aU;have aV:p0.length<=1048576:=by have:=aBm (oG aU);omega
  simp only[Nat.add_zero] at aP;generalize hnn:p0.length=n at aP aT aV;have a7:=oH aT;clear aU aT hnn;have bI:(0:Int)<(l.length:Int):=by omega
  have aL:=oH hln;clear hln;by_cases hz:n=0
  .have a1:¬ GActOk rank l n:=fun h=>by have:=h.n0;omega
   have dz:((n:Int) == 0)=true:=by rw[hz];rfl
   obtain⟨rfl,rfl,rfl,rfl⟩:=HR.out.no (by rw[a7.out];exact a1);obtain⟨z0,z1,z2⟩:=B2.c3 rfl;have zf:=B2.2.2;go_wp2_with fail;refine oW (v:=.tuple #[.agg #[(0:Int),(0:Int),.slice none 0 0],.bool false]) (by simp[results,Tryz.results159,go_sem,z0,z1,z2,zf]) rfl ⟨none,0,rfl,OG.nil,?_⟩;repeat (first|exact a3|refine oQ ?_ (by simp;try omega) _)
  have dz:((n:Int) == 0)=false:=by simp only[beq_eq_false_iff_ne];omega
  have bG:IntKind.i64.wrap ((n:Int) * rank)=(n:Int) * rank:=IntWalk.i64_in _ (by
   have h1:0<=(n:Int) * rank:=Int.mul_nonneg oO oO;have h2:(n:Int) * rank<=1048576 * 3:=Int.mul_le_mul oO oO oO oO;omega)
  by_cases hbig:120<(n:Int) * rank
  .have a1:¬ GActOk rank l n:=fun h=>by
    have h1:=h.n40;have h2:(n:Int) * rank<=40 * 3:=Int.mul_le_mul oO oO oO oO;omega
   have db:decide (120<(n:Int) * rank)=true:=by simpa using hbig
   obtain⟨rfl,rfl,rfl,rfl⟩:=HR.out.no (by rw[a7.out];exact a1);obtain⟨z0,z1,z2⟩:=B2.c3 rfl;have zf:=B2.2.2;go_wp2_with fail;refine oW (v:=.tuple #[.agg #[(0:Int),(0:Int),.slice none 0 0],.bool false]) (by simp[results,Tryz.results159,go_sem,z0,z1,z2,zf]) rfl ⟨none,0,rfl,OG.nil,?_⟩;repeat (first|exact a3|refine oQ ?_ (by simp;try omega) _)
  have db:decide (120<(n:Int) * rank)=false:=by simpa using hbig
  have aN:=oE w1 (.cells #[rank,n,.slice none 0 0] 35);have Y3:=oJ w1 #[rank,n,.slice none 0 0] 35;have Y2:=B2.mid aN oZr;have aS:=a3.trans aN;go_wp2_with fail;generalize w1.alloc (.cells #[rank,n,.slice none 0 0] 35)=w3 at Y2 Y3 aS |-;have ay:w1.heap.size<w3.heap.size:=Y3.1;clear aN a3 B2 aP;generalize hG:w1.heap.size=Gb at Y3 ax ay aM |-;clear hG;have b8:=hr.size;go_loopw [45] (fun i wr=>∃(k:Nat) (A2:OA) (n2 c2:Nat),k<=l.length/\i=.int .i64 k/\Hid (n2=k * n)/\Hid (∀ p∈l.take k,aID p/\p.length=n) /\
   wr.ownsRow (Gb+1) 110 3 (.slice A2 n2 c2) n2 (aAe (edI (aBM l k))) /\
   Box wr w [(0:Int),(0:Int),.slice none 0 0]/\Box wr Gb [rank,n,.slice A2 n2 c2]/\Mid 0 0 w wr) (fun i _=>l.length - (intOf i).toNat)
  case atStart=>exact⟨0,none,0,0,oZ,rfl,oH oM,oH oM,World.ownsRow_nil _ _ _ _,Y2,Y3,aS⟩
  clear Y2 Y3 aS;obtain⟨wo,az⟩:∃ wo,wo=wr:=⟨_,rfl⟩
  subst az;obtain⟨k,A2,n2,c2,hk,rfl,HN,HALL,a0,Z2,Z3,hm⟩:=hrel;have b6:Gb<wo.heap.size:=Z3.1;by_cases hlt:k<l.length
  .obtain⟨Bp,op,Ap,cp,p,he, -,b4,hp,ao,a6⟩:=(hr.mid hm oZl).row hlt
   injection he with he
   injection he with he1 he2
   subst he1 he2;have au:p.length<=1048576:=by have:=aBm (oG hp);omega
   have bA:(k:Int)<(l.length:Int):=by omega
   have b9:(0:Int)<=(k:Int):=by omega
   have HP:=oH hp;obtain⟨bp,aZ⟩:=aAF (aID p);have aK:=oH aZ;clear hp aZ;go_wp2_with fail;have aX:hi<=wo.heap.size:=a6.1;with_reducible refine(aHv Ap p cp _ _ a6.rs aX au bp aK.out).mono ?_
   rintro en w5 ⟨rfl,aC⟩;have a8:Mid 0 0 wo w5:=Mid.of_below aC;have Q2:=Z2.mid a8 oZr;have Q3:=Z3.mid a8 oZr;have a5:=aAb a0 a8 oZl;have a9:=hm.trans a8;have aE:=a6.mid a8 oZl;clear ao Z2 Z3 a0 hm a8 aC a6;cases bp with
  |false=>
    have a1:¬ GActOk rank l n:=fun h=>by have:=aK.out.2 (h.all p (oG HP.out)).1;cases this
    obtain⟨rfl,rfl,rfl,rfl⟩:=HR.out.no (by rw[a7.out];exact a1);obtain⟨z0,z1,z2⟩:=Q2.c3 rfl;have zf:=Q2.2.2;go_wp2_with fail;refine oW (v:=.tuple #[.agg #[(0:Int),(0:Int),.slice none 0 0],.bool false]) (by simp[results,Tryz.results159,go_sem,z0,z1,z2,zf]) rfl ⟨none,0,rfl,OG.nil,?_⟩;repeat (first|exact a9|refine oQ ?_ (by simp;try omega) _)
  |true=>
   have q1:=Q3.cell 1 rfl;by_cases hpn:p.length=n
   .have dn:((p.length:Int) != (n:Int))=false:=by rw[hpn];simp
    have a2:=aK.out.1 rfl;have ar:=a2.1;have aB:=oH a2;clear a2;go_wp2_with fail;clear q1;go_loopw [63] (fun j wr=>∃(m:Nat) (A3:OA) (n3 c3:Nat),m<=p.length/\j=.int .i64 m/\Hid (n3=k * n+m) /\
     wr.ownsRow (Gb+1) 110 3 (.slice A3 n3 c3) n3 (aAe (edI (aBM l k++aGQ ((k:Int)+1) p m))) /\
     Box wr w [(0:Int),(0:Int),.slice none 0 0]/\Box wr Gb [rank,n,.slice A3 n3 c3]/\RV wr lo hi Ap (aAe p)/\Mid 0 0 w wr) (fun j _=>p.length - (intOf j).toNat)
    case atStart=>exact⟨0,A2,n2,c2,oZ,rfl,HN,by simpa [aGQ] using a5,Q2,Q3,aE,a9⟩
    clear a5 Q2 Q3 aE a9;obtain⟨m,A3,n3,c3,bC,rfl,HN3,a0,Z2,Z3,a6,hm⟩:=hrel;have bE:n3<=1000:=by
     have h1:=HN3.out;have h2:k * n<=3 * 40:=Nat.mul_le_mul (by have:=aL.out;omega) oO;omega
    by_cases hltm:m<p.length
    .obtain⟨Bx,ox,x,rfl,b5,hx,b7⟩:=a6.at hltm
     have bB:(m:Int)<(p.length:Int):=by omega
     have ap:(0:Int)<=(m:Int):=by omega
     have ah:=aLm (x:=(k:Int)+1) hx;have am:=oH ah;have g2:=Z3.cell 2 rfl;have b0:Gb+1<=wr.heap.size:=Z3.1;have HO:=oH a0;clear hx ah a0;go_wp2_with (at_builtin;refine aCm rfl _ _ rfl (Gb+1) A3 n3 c3 _ rfl HO.out ⟨(m:Int),(k:Int)+1,x⟩ rfl oO b0 ?_;intro A4 c4 w4 a4 aG;have X3:=Z3.mid aG (Or.inl oS);have X2:=Z2.mid aG;have x2:=X3.cell 2 rfl;have xf:=X3.2.2;have al:=oH a4;clear a4)
     go_roundw
     case rel=>
      have aA:=Mid.setCell w4 (lo:=Gb) (hi:=Gb+1) (p:=⟨Gb,2,none⟩) (.slice A4 (n3+1) c4) oN oS;refine⟨m+1,A4,n3+1,c4,oO,by go_num,oH (by rw[HN3.out];omega),?_,X2.mid aA,X3.set 2 _ oM rfl,(a6.mid aG).mid aA,(hm.transNew aG oL).storeNew (by show w.heap.size<=Gb;omega) _⟩;have h1:=aAb al.out aA (Or.inl oN);rw[am.out,<- List.append_assoc];exact h1
     simp[intOf];omega
    obtain rfl:m=p.length:=by omega
    have an:=aDz HP.out;rw[<- an] at a0;go_wp2_with fail;go_roundw
    case rel=>
     refine⟨k+1,A3,n3,c3,oO,by go_num,oH (by rw[HN3.out,hpn,Nat.succ_mul]),oH (fun q hq=>?_),a0,Z2,Z3,hm⟩;rcases(aCM HP.out).1 hq with hq|hq
     .exact HALL.out q hq
     rw[hq];exact⟨aB.out,hpn⟩
    simp[intOf];omega
   have dn:((p.length:Int) != (n:Int))=true:=by rw[bne_iff_ne];omega
   have a1:¬ GActOk rank l n:=fun h=>hpn (h.all p (oG HP.out)).2;obtain⟨rfl,rfl,rfl,rfl⟩:=HR.out.no (by rw[a7.out];exact a1);obtain⟨z0,z1,z2⟩:=Q2.c3 rfl;have zf:=Q2.2.2;go_wp2_with fail;refine oW (v:=.tuple #[.agg #[(0:Int),(0:Int),.slice none 0 0],.bool false]) (by simp[results,Tryz.results159,go_sem,z0,z1,z2,zf]) rfl ⟨none,0,rfl,OG.nil,?_⟩;repeat (first|exact a9|refine oQ ?_ (by simp;try omega) _)
  obtain rfl:k=l.length:=by omega
  rw[List.take_length] at HALL;have aH:GActOk rank l n:=⟨aw,aL.out,oO,HALL.out⟩
  obtain⟨rfl,rfl,aI,aW⟩:=HR.out.yes (by rw[a7.out];exact aH);rw[a7.out] at aI aW;have aF:=aKU aH;have av:RG wo (Gb+1) wo.heap.size A2 (aBM l l.length):=OV.rv (e:=110) (size:=3) (c:=c2) (n:=n2) ⟨oN,a0,fun g hg=>(a0.lt g hg).2⟩;have ae:(aBM l l.length).length=n2:=by rw[HN.out,aJG (fun q hq=>(HALL.out q hq).2) l.length oN]
  have bD:n2<=1000:=by
   have h1:=HN.out;have h2:=aH.n40;have h3:l.length * n<=3 * 40:=Nat.mul_le_mul (by have:=aL.out;omega) h2;omega
  have ak:=oH ae;have z2:=Z3.cell 2 rfl;obtain⟨rn,rfl⟩:∃ rn:Nat,rank=rn:=⟨rank.toNat,oO⟩
  obtain⟨ms,aR⟩:∃ ms,canon (aBM l l.length)=ms:=⟨_,rfl⟩
  rw[aR] at aF aI aW;obtain⟨q,qs,hQ, -⟩:=aFh (aCJ (g:=((n:Int),ms)) aF);have ai:=oH aF;rw[hQ] at aI aW;subst aI;subst aJ;have HQ:=oH hQ;have aj:=oH aR;clear ae aH HR aF hQ aR;go_wp2_with fail;with_reducible refine(aCE A2 (aBM l l.length) n2 c2 _ _ _ ak.out av oO).mono ?_
  rintro en w6 ⟨A4,c4,rfl,af,aQ⟩;rw[aj.out] at af |-;have Q2:=Z2.mid aQ oZr;have Q3:=Z3.mid aQ oZr;have aA:=Mid.setCell w6 (lo:=Gb) (hi:=Gb+1) (p:=⟨Gb,2,none⟩) (.slice A4 ms.length c4) oN oS;have R2:=Q2.mid aA;have R3:=Q3.set 2 (.slice A4 ms.length c4) oM rfl;have ag:=af.mid aA;have ab:=(hm.trans aQ).storeNew (p:=⟨Gb,2,none⟩) (by show w.heap.size<=Gb;omega) (.slice A4 ms.length c4);have q2:=Q3.cell 2 rfl;have qf:=Q3.2.2;simp only[List.set_cons_succ,List.set_cons_zero] at R3;obtain⟨r0,r1,r2⟩:=R3.c3 rfl;clear z2;go_wp2_with fail;generalize w6.setCell ⟨Gb,2,none⟩ (.slice A4 ms.length c4)=w7 at R2 R3 ag ab r0 r1 r2 |-;have hP:=aEn rn n A4 ms c4 w7 _ _ (OG.rg ag) ai.out;rw[HQ.out] at hP;dsimp only at hP;have aY:=oH hP;clear hP;with_reducible refine aY.out.mono ?_
  rintro en w8 ⟨A5,c5,rfl,aq,ad⟩;clear aY;have S2:=R2.mid ad oZr;have a9:=ab.trans ad;have bF:w.heap.size<w7.heap.size:=R2.1;clear r0 r1 r2 q2;obtain⟨z0,z1,z2⟩:=S2.c3 rfl;have zf:=S2.2.2;go_wp2_with fail;refine oW (v:=.tuple #[.agg #[rn,q,.slice A5 qs.length c5],.bool true]) (by simp[results,Tryz.results159,go_sem,z0,z1,z2,zf]) rfl ⟨A5,c5,rfl,?_,?_⟩
  .refine OG.wide (OG.mid aq (a:=w.heap.size) (b:=w.heap.size+1) ?_ oL) oO oM oN
   repeat (first|exact Mid.refl _ _ _|refine Mid.stored ?_ _ (by simp;try omega) (by simp;try omega))
  repeat (first|exact a9|refine oQ ?_ (by simp;try omega) _)
 have dl:((l.length:Int) != rank)=true:=by simpa using hln
 have a1:¬ GActOk rank l (n0L l):=fun h=>hln h.ln;obtain⟨rfl,rfl,rfl,rfl⟩:=HR.out.no a1;obtain⟨z0,z1,z2⟩:=B2.c3 rfl;have zf:=B2.2.2;go_wp2_with fail;refine oW (v:=.tuple #[.agg #[(0:Int),(0:Int),.slice none 0 0],.bool false]) (by simp[results,Tryz.results159,go_sem,z0,z1,z2,zf]) rfl ⟨none,0,rfl,OG.nil,?_⟩;repeat (first|exact a3|refine oQ ?_ (by simp;try omega) _)
def aIQ(rk:Int)(d:LL):Prop:=1<=rk/\rk<=3/\d.length<=6/\(∀ xs∈d,IsW rk xs)/\aAK d<40
theorem aFe(A:OA)(d:LL)(c:Nat)(w:World)(lo hi:Nat)(hr:RSS w lo hi A d)(hl:d.length+aAK d<=1048576) :
  Calls Tryz.prog 179 #[.slice A d.length c] w fun e w'=>e=.returned (.int .i64 (aAK d:Nat))/\w=w':=by
 go_enter Tryz.func179,Tryz.ntmps179
 go_wp2_with fail;go_loop [3,5,8] (fun n _ i=>∃ k:Nat,k<=d.length/\i=.int .i64 k/\n=.int .i64 (aAK (d.take k):Nat)) (fun _ _ i=>d.length - (intOf i).toNat)
 case atStart=>exact⟨0,oZ,rfl,by simp[aAK]⟩
 obtain⟨k,hk,rfl,rfl⟩:=hrel;have hs:=aCl d k;by_cases hlt:k<d.length
 .obtain⟨b,a5,A1,c1,xs,rfl, -, -,hx,a4, -⟩:=hr.row hlt
  have a0:=aBI hx;have a2:=aCl d (k+1);have a3:aAK (d.take k)+xs.length<=1048576:=by omega
  have a1:=oH a0;clear a0 a2 hx;go_wp2_with fail;go_round
  case rel=>exact⟨k+1,oO,by go_num,by rw[a1.out];go_num⟩
  simp[intOf];omega
 obtain rfl:k=d.length:=by omega
 go_wp2_with fail;go_ret;exact⟨by first|rfl|rw[List.take_length]|simp,rfl⟩
theorem aFk(A:OA)(d:LL)(c:Nat)(w:World)(lo hi:Nat)(hr:RSS w lo hi A d)(hl:d.length+aAK d<=1048576) :
  Calls Tryz.prog 20 #[.slice A d.length c] w fun e w'=>e=.returned (.int .i64 (aAK d:Nat))/\w=w':=by
 go_enter Tryz.func20,Tryz.ntmps20
 go_wp2_with fail;go_loop [3,4] (fun n i=>∃ k:Nat,k<=d.length/\i=.int .i64 k/\n=.int .i64 (aAK (d.take k):Nat)) (fun _ i=>d.length - (intOf i).toNat)
 case atStart=>exact⟨0,oZ,rfl,by simp[aAK]⟩
 obtain⟨k,hk,rfl,rfl⟩:=hrel;have hs:=aCl d k;by_cases hlt:k<d.length
 .obtain⟨b,a6,A1,c1,xs,rfl, -, -,hx,a5, -⟩:=hr.row hlt
  have a0:=aBI hx;have a3:=aCl d (k+1);have a4:aAK (d.take k)+xs.length<=1048576:=by omega
  have a2:(k:Int)<(d.length:Int):=by omega
  have a1:=oH a0;clear a0 a3 hx;go_wp2_with fail;go_round
  case rel=>exact⟨k+1,oO,by go_num,by rw[a1.out];go_num⟩
  simp[intOf];omega
 obtain rfl:k=d.length:=by omega
 go_wp2_with fail;go_ret;exact⟨by first|rfl|rw[List.take_length]|simp,rfl⟩
theorem aCD{r:Bool}{p:Prop}(h:r=true↔p)(hn:¬ p):r=false:=by
 cases r
 .rfl
 exact absurd (h.1 rfl) hn
theorem aLR(rk:Int)(A:OA)(d:LL)(c:Nat)(w:World)(lo hi:Nat)(hr:RSS w lo hi A d)(a6:∀ xs∈d,OkI xs)(hl:d.length+aAK d<=1048576)(r:Bool)(a1:r=true↔aIQ rk d) :
  Calls Tryz.prog 95 #[rk,.slice A d.length c] w fun e w'=>e=.returned (.bool r)/\w=w':=by
 have aA:=oH a6;have HR:=oH a1;clear a6 a1;by_cases hb:inB rk 1 3=false
 .obtain rfl:r=false:=aCD HR.out (fun h=>by simp[inB] at hb;have:=h.1;have:=h.2.1;omega)
  have HB:=oH hb;clear hb;go_enter Tryz.func95,Tryz.ntmps95
  go_wp2_with fail;with_reducible refine(aAu _ _ _ _).mono ?_
  rintro e w' ⟨rfl,rfl⟩;rw[HB.out];go_wp2_with fail;go_ret;exact⟨rfl,rfl⟩
 have a2:inB rk 1 3=true:=by simpa using hb
 have HB:=oH a2;have a8:1<=rk/\rk<=3:=by simpa [inB] using a2
 clear hb a2;by_cases h6:6<d.length
 .obtain rfl:r=false:=aCD HR.out (fun h=>by have:=h.2.2.1;omega)
  have aB:(6:Int)<(d.length:Int):=by omega
  go_enter Tryz.func95,Tryz.ntmps95
  go_wp2_with fail;with_reducible refine(aAu _ _ _ _).mono ?_
  rintro e w' ⟨rfl,rfl⟩;rw[HB.out];go_wp2_with fail;go_ret;exact⟨rfl,rfl⟩
 have aB:¬ (6:Int)<(d.length:Int):=by omega
 go_enter Tryz.func95,Tryz.ntmps95
 go_wp2_with fail;with_reducible refine(aAu _ _ _ _).mono ?_
 rintro e w' ⟨rfl,rfl⟩;rw[HB.out];go_wp2_with fail;go_loop [6,17] (fun _ i=>∃ k:Nat,k<=d.length/\i=.int .i64 k/\WordsTo rk d k) (fun _ i=>d.length - (intOf i).toNat)
 case atStart=>exact⟨0,oZ,rfl,WordsTo.zero _ _⟩
 obtain⟨k,hk,rfl,hw⟩:=hrel;have HW:=oH hw;clear hw;by_cases hlt:k<d.length
 .obtain⟨b,aD,A1,c1,xs,rfl, -, -,hx,aC,a9⟩:=hr.row hlt
  have a5:=aPP (oG hx) hl;have a7:=aA.out xs (oG hx);have a3:=oH a7;have HX:=oH hx;clear hx a7;obtain⟨v,hv⟩:=aDs (IsW rk xs);have HV:=oH hv;clear hv;cases hvc:v with
 |false=>
   subst hvc;go_wp2_with fail;with_reducible refine(aBP rk A1 xs c1 _ _ a9.rs a3.out a5 false HV.out).mono ?_
   rintro e w' ⟨rfl,rfl⟩;go_wp2_with fail;go_ret;obtain rfl:r=false:=aCD HR.out (fun h=>by have:=HV.out.2 (h.2.2.2.1 xs (oG HX.out));cases this);exact⟨rfl,rfl⟩
 |true=>
   subst hvc;have a4:=oH (HV.out.1 rfl);clear HV;go_wp2_with fail;with_reducible refine(aBP rk A1 xs c1 _ _ a9.rs a3.out a5 true (oX rfl a4.out)).mono ?_
   rintro e w' ⟨rfl,rfl⟩;go_wp2_with fail;go_round
   case rel=>exact⟨k+1,oO,by go_num,HW.out.succ HX.out a4.out⟩
   simp[intOf];omega
 obtain rfl:k=d.length:=by omega
 by_cases h40:aAK d<40
 .obtain rfl:r=true:=HR.out.2 ⟨a8.1,a8.2,oO,aDW.1 HW.out,h40⟩
  have a0:(aAK d:Int)<40:=by omega
  go_wp2_with fail;with_reducible refine(aFe A d c _ _ _ hr hl).mono ?_
  rintro e w' ⟨rfl,rfl⟩;go_wp2_with fail;go_ret;exact⟨by simp[a0],rfl⟩
 obtain rfl:r=false:=aCD HR.out (fun h=>h40 h.2.2.2.2);have a0:¬ (aAK d:Int)<40:=by omega
 go_wp2_with fail;with_reducible refine(aFe A d c _ _ _ hr hl).mono ?_
 rintro e w' ⟨rfl,rfl⟩;go_wp2_with fail;go_ret;exact⟨by simp;omega,rfl⟩
theorem aMx(rk:Int)(A:OA)(d:LL)(c:Nat)(w:World)(lo hi:Nat)(hr:RSS w lo hi A d)(a6:∀ xs∈d,OkI xs)(hl:d.length+aAK d<=1048576)(r:Bool)(a1:r=true↔aIQ rk d) :
  Calls Tryz.prog 14 #[.int .i64 rk,.slice A d.length c] w fun e w'=>e=.returned (.bool r)/\∃ n,w'=w.drewN n:=by
 have aA:=oH a6;have HR:=oH a1;clear a6 a1;go_enter Tryz.func14,Tryz.ntmps14
 go_wp2_with fail;go_loopw [5] (fun i wr=>∃ k:Nat,k<=d.length/\i=.int .i64 k/\WordsTo rk d k/\∃ n,wr=w.drewN n) (fun i _=>d.length - (intOf i).toNat)
 case atStart=>exact⟨0,oZ,rfl,WordsTo.zero _ _,0,rfl⟩
 obtain⟨k,hk,rfl,hw,nd,rfl⟩:=hrel;have HW:=oH hw;clear hw;by_cases hlt:k<d.length
 .obtain⟨b,aE,A1,c1,xs,rfl, -, -,hx,aD,a9⟩:=hr.row hlt
  have a5:=aPP (oG hx) hl;have a7:=aA.out xs (oG hx);have a3:=oH a7;have HX:=oH hx;have aC:(k:Int)<(d.length:Int):=by omega
  clear hx a7;obtain⟨v,hv⟩:=aDs (IsW rk xs);have HV:=oH hv;clear hv;cases hvc:v with
 |false=>
   subst hvc;go_wp2_with fail;with_reducible refine(aCi rk A1 xs c1 _ _ (a9.rs.drewN nd) a3.out a5 false HV.out).mono ?_
   rintro e w' ⟨rfl,n2,rfl⟩;go_wp2_with fail;go_ret;obtain rfl:r=false:=aCD HR.out (fun h=>by have:=HV.out.2 (h.2.2.2.1 xs (oG HX.out));cases this);exact⟨rfl,_,by first|rfl|exact dn _ _ _⟩
 |true=>
   subst hvc;have a4:=oH (HV.out.1 rfl);clear HV;go_wp2_with fail;with_reducible refine(aCi rk A1 xs c1 _ _ (a9.rs.drewN nd) a3.out a5 true (oX rfl a4.out)).mono ?_
   rintro e w' ⟨rfl,n2,rfl⟩;go_wp2_with fail;go_roundw
   case rel=>exact⟨k+1,oO,by go_num,HW.out.succ HX.out a4.out,_,by first|rfl|exact dn _ _ _⟩
   simp[intOf];omega
 obtain rfl:k=d.length:=by omega
 by_cases hb:inB rk 1 3=false
 .obtain rfl:r=false:=aCD HR.out (fun h=>by simp[inB] at hb;have:=h.1;have:=h.2.1;omega)
  have HB:=oH hb;clear hb;go_wp2_with fail;with_reducible refine(aBw _ _ _ _).mono ?_
  rintro e w' ⟨rfl,rfl⟩;rw[HB.out];go_wp2_with fail;go_ret;exact⟨rfl,_,rfl⟩
 have a2:inB rk 1 3=true:=by simpa using hb
 have HB:=oH a2;have a8:1<=rk/\rk<=3:=by simpa [inB] using a2
 clear hb a2;by_cases h6:6<d.length
 .obtain rfl:r=false:=aCD HR.out (fun h=>by have:=h.2.2.1;omega)
  have aB:¬ (d.length:Int)<=6:=by omega
  go_wp2_with fail;with_reducible refine(aBw _ _ _ _).mono ?_
  rintro e w' ⟨rfl,rfl⟩;rw[HB.out];go_wp2_with fail;go_ret;exact⟨by first|rfl|(simp;omega),_,rfl⟩
 have aB:(d.length:Int)<=6:=by omega
 by_cases h40:aAK d<40
 .obtain rfl:r=true:=HR.out.2 ⟨a8.1,a8.2,oO,aDW.1 HW.out,h40⟩
  have a0:(aAK d:Int)<40:=by omega
  go_wp2_with fail;with_reducible refine(aBw _ _ _ _).mono ?_
  rintro e w' ⟨rfl,rfl⟩;rw[HB.out];go_wp2_with fail;with_reducible refine(aFk A d c (w.drewN nd) _ _ (hr.mid ((Mid.refl 0 0 w).drewN nd) oZl) hl).mono ?_
  rintro e w' ⟨rfl,rfl⟩;go_wp2_with fail;go_ret;exact⟨by simp[a0],_,rfl⟩
 obtain rfl:r=false:=aCD HR.out (fun h=>h40 h.2.2.2.2);have a0:¬ (aAK d:Int)<40:=by omega
 go_wp2_with fail;with_reducible refine(aBw _ _ _ _).mono ?_
 rintro e w' ⟨rfl,rfl⟩;rw[HB.out];go_wp2_with fail;with_reducible refine(aFk A d c (w.drewN nd) _ _ (hr.mid ((Mid.refl 0 0 w).drewN nd) oZl) hl).mono ?_
 rintro e w' ⟨rfl,rfl⟩;go_wp2_with fail;go_ret;exact⟨by simp;omega,_,rfl⟩
theorem aPu{r:Int}(h:1<=r/\r<=3):IsGr r 1 []:=⟨h,oO,by simp,by simp,List.Pairwise.nil⟩
structure FlOk (r:Int) (l:LL) (k:Nat) (g:Int × List Ed):Prop where
 gr:IsGr r g.1 g.2
 sz:g.1<=1+(aAK (l.take k):Nat)
 ln:g.2.length<=aAK (l.take k)
theorem FlOk.path{r:Int}{l:LL}{k:Nat}{g:Int × List Ed}{w:LI}(ha:aIQ r l)(h:FlOk r l k g)(hw:l[k]?=some w)(hn:w≠[]):PathOk r g.1 g.2 0 w 0:=by
 have h1:=aBI hw;have h2:=aCl l (k+1);have h3:=ha.2.2.2.2;have h4:=h.sz;have h5:=h.ln;have h6:=h.gr.size;exact⟨h.gr,oO,oO,ha.2.2.2.1 w (oG hw),hn,oO,oO⟩
theorem FlOk.step{r:Int}{l:LL}{k:Nat}{g:Int × List Ed}{w:LI}(ha:aIQ r l)(h:FlOk r l k g)(hw:l[k]?=some w):FlOk r l (k+1) (aCT g w):=by
 have h1:=aBI hw;by_cases hn:w=[]
 .subst hn
  have h4:=h.sz;have h5:=h.ln;simp only[List.length_nil] at h1;rw[aCT,if_pos rfl];exact⟨h.gr,oO,oO⟩
 have hp:=h.path ha hw hn;have h4:=h.sz;have h5:=h.ln;have h6:=aDe (g.2++aCq 0 g.1 w 0 w.length);have h7:0<w.length:=List.length_pos_iff.2 hn;rw[List.length_append,aHN] at h6;rw[aCT,if_neg hn];exact⟨aMm hp,by simp only;omega,by simp only;omega⟩
theorem FlOk.zero{r:Int}(l:LL)(h:1<=r/\r<=3):FlOk r l 0 (1,[]):=⟨aPu h,by simp[aAK],by simp⟩
theorem aVj{r:Int}{l:LL}(ha:aIQ r l):∀ k,k<=l.length->FlOk r l k (aBn (l.take k) (1,[]))
|0,_=>FlOk.zero l ⟨ha.1,ha.2.1⟩
|k+1,hk=>by
  have hw:=List.getElem?_eq_getElem (l:=l) (i:=k) oO;rw[aIf hw];exact(aVj ha k oO).step ha hw
def aUW(rank:Int)(l:LL)(rr rs:Int)(res:List Ed)(b:Bool):Prop:=
 (b=true/\aIQ rank l/\rr=rank/\rs=(aBn l (1,[])).1/\res=(aBn l (1,[])).2) \/ (b=false/\¬ aIQ rank l/\rr=0/\rs=0/\res=[])
def SubIs(rank:Int)(l:LL)(rr rs:Int)(res:List Ed)(b:Bool):Prop:=
 (b=true/\aIQ rank l/\rr=rank/\rs=(coreA rank (aBn l (1,[]))).1/\res=(coreA rank (aBn l (1,[]))).2) \/ (b=false/\¬ aIQ rank l/\rr=0/\rs=0/\res=[])
theorem aSM(rank:Int)(l:LL):∃ rr rs res b,SubIs rank l rr rs res b:=by
 by_cases h:aIQ rank l
 .exact⟨_,_,_,_,.inl ⟨rfl,h,rfl,rfl,rfl⟩⟩
 exact⟨_,_,_,_,.inr ⟨rfl,h,rfl,rfl,rfl⟩⟩
theorem aJP{r:Int}{l:LL}(ha:aIQ r l):IsGr r (aBn l (1,[])).1 (aBn l (1,[])).2:=by
 have:=(aVj ha l.length oN).gr;rw[List.take_length] at this;exact this
theorem SubIs.lens{rank:Int}{l:LL}{rr rs:Int}{res:List Ed}{b:Bool}(h:SubIs rank l rr rs res b):res.length<=120:=by
 rcases h with⟨-,h, -, -,rfl⟩|⟨-, -, -, -,rfl⟩
 .exact(aCJ (aJP h)).len
 simp
theorem aHU(rank:Int)(w:World)(h:1<=rank/\rank<=3) :
  Calls Tryz.prog 180 #[rank] w fun e w'=>e=.returned (.tuple #[aAJ rank 1 none 0 0,.bool true])/\Mid 0 0 w w':=by
 have a0:Mid 0 0 w (w.alloc (.cells #[(0:Int),(0:Int),.slice none 0 0] 35)):=oE _ _;have b2:=oJ w #[(0:Int),(0:Int),.slice none 0 0] 35;have a1:inB rank 1 3=true:=aJm (oX rfl h);go_enter Tryz.func180,Tryz.ntmps180
 go_wp2_with fail;generalize w.alloc (.cells #[(0:Int),(0:Int),.slice none 0 0] 35)=w1 at a0 b2 |-;have a2:w.heap.size<w1.heap.size:=b2.1;with_reducible refine(aBQ a1 _).mono ?_
 rintro en w2 ⟨rfl,rfl⟩;obtain⟨z0,z1,z2⟩:=b2.c3 rfl;have zf:=b2.2.2;go_wp2_with fail;refine oW (v:=.tuple #[.agg #[rank,(1:Int),.slice none 0 0],.bool true]) (by simp[results,Tryz.results180,go_sem,z0,z1,z2,zf]) rfl ⟨rfl,?_⟩;repeat (first|exact a0|refine oQ ?_ (by simp;try omega) _)
theorem aHQ(rank:Int)(A:OA)(l:LL)(c:Nat)(w:World)(lo hi:Nat)(hr:RSS w lo hi A l)(ah:∀ xs∈l,OkI xs)(hl:l.length+aAK l<=1048576)(rr rs:Int)(aI:List Ed)(b:Bool)(aK:aUW rank l rr rs aI b) :
  Calls Tryz.prog 103 #[.int .i64 rank,.slice A l.length c] w fun e w'=>∃ A1 c1,e=.returned (.tuple #[aAJ rr rs A1 aI.length c1,.bool b])/\OG w' w.heap.size w'.heap.size A1 c1 aI/\Mid 0 0 w w':=by
 have HR:=oH aK;have aa:=oH ah;clear aK ah;obtain⟨b1,af⟩:=aAF (aIQ rank l);have H1:=oH af;clear af;have a7:Mid 0 0 w (w.alloc (.cells #[(0:Int),(0:Int),.slice none 0 0] 35)):=oE _ _;have b2:=oJ w #[(0:Int),(0:Int),.slice none 0 0] 35;go_enter Tryz.func103,Tryz.ntmps103
 go_wp2_with fail;generalize w.alloc (.cells #[(0:Int),(0:Int),.slice none 0 0] 35)=w1 at a7 b2 |-;have bD:w.heap.size<w1.heap.size:=b2.1;with_reducible refine(aMx rank A l c w1 _ _ (hr.mid a7 oZl) aa.out hl b1 H1.out).mono ?_
 rintro en w2 ⟨rfl,nd,am⟩;have aW:Mid 0 0 w1 w2:=by rw[am];exact(Mid.refl 0 0 w1).drewN nd
 replace b2:=b2.mid aW oZr;replace a7:=a7.trans aW;clear am aW;cases b1 with
|false=>
  have ag:¬ aIQ rank l:=fun h=>by have:=H1.out.2 h;cases this
  obtain⟨rfl,rfl,rfl,rfl⟩:b=false/\rr=0/\rs=0/\aI=[]:=by
   rcases HR.out with⟨-,h, -⟩|⟨h1, -,h2⟩
   .exact absurd h ag
   exact⟨h1,h2⟩
  obtain⟨z0,z1,z2⟩:=b2.c3 rfl;have zf:=b2.2.2;clear ag HR;go_wp2_with fail;refine oW (v:=.tuple #[.agg #[(0:Int),(0:Int),.slice none 0 0],.bool false]) (by simp[results,Tryz.results103,go_sem,z0,z1,z2,zf]) rfl ⟨none,0,rfl,?_,?_⟩
  .exact⟨oN,⟨rfl,.inl ⟨rfl,rfl⟩⟩,fun g hg=>by simp[Value.ownBlock] at hg⟩
  repeat (first|exact a7|refine Mid.trans ?_ (oE _ _)|refine oQ ?_ (by simp;try omega) _)
|true=>
 have a8:=H1.out.1 rfl;have HA:=oH a8;have aj:1<=rank/\rank<=3:=⟨a8.1,a8.2.1⟩
 obtain⟨rfl,rfl,ak,ai⟩:b=true/\rr=rank/\rs=(aBn l (1,[])).1/\aI=(aBn l (1,[])).2:=by
  rcases HR.out with⟨h1, -,h2⟩|⟨-,h, -⟩
  .exact⟨h1,h2⟩
  exact absurd a8 h
 have ad:=oH ak;have ab:=oH ai;clear a8 H1 HR ak ai;go_wp2_with fail;with_reducible refine(aHU rr _ aj).mono ?_
 rintro en w4 ⟨rfl,aO⟩;have ax:=aO.size;have aS:=oE w4 (.cells #[rr,(1:Int),.slice none 0 0] 35);have Y4:=oJ w4 #[rr,(1:Int),.slice none 0 0] 35;replace b2:=b2.mid aO oZr;replace a7:=a7.trans aO;have ar:=b2.1;replace b2:=b2.mid aS oZr;replace a7:=a7.trans aS;go_wp2_with fail;generalize w4.alloc (.cells #[rr,(1:Int),.slice none 0 0] 35)=w5 at b2 Y4 a7 |-;have al:w4.heap.size<w5.heap.size:=Y4.1;clear aS aO;generalize hG:w4.heap.size=Gb at Y4 ar al;clear hG ax;have bA:=hr.size;go_loopw [8] (fun i wr=>∃(k:Nat) (A2:OA) (c2 aV:Nat) (g:Int × List Ed),k<=l.length/\i=.int .i64 k/\Hid (g=aBn (l.take k) (1,[]))/\Hid (FlOk rr l k g)/\OG wr (Gb+1) aV A2 c2 g.2 /\
   Box wr w [(0:Int),(0:Int),.slice none 0 0]/\Box wr Gb [rr,.int .i64 g.1,.slice A2 g.2.length c2]/\Mid 0 0 w wr) (fun i _=>l.length - (intOf i).toNat)
 case atStart=>exact⟨0,none,0,_,(1,[]),oZ,rfl,oH rfl,oH (FlOk.zero l aj),OG.nil,b2,Y4,a7⟩
 clear b2 Y4 a7 al;obtain⟨wo,b0⟩:∃ wo,wo=wr:=⟨_,rfl⟩
 subst b0;obtain⟨k,A2,c2,aV,⟨gs,ge⟩,hk,rfl,HGE,HFL,a3,Z2,Z3,hm⟩:=hrel;dsimp only at a3 Z3;have b8:Gb<wo.heap.size:=Z3.1;have au:=HFL.out.gr.len;dsimp only at au;by_cases hlt:k<l.length
 .obtain⟨Bp,op,Ap,cp,p,rfl, -,b7,hp,aD,aJ⟩:=(hr.mid hm oZl).row hlt
  have av:p.length<=1048576:=by have:=aBm (oG hp);omega
  have bC:(k:Int)<(l.length:Int):=by omega
  have bB:(0:Int)<=(k:Int):=by omega
  have aP:Bp<wo.heap.size:=by omega
  have HP:=oH hp;have aT:=aIf hp (1,[]);rw[<- HGE.out] at aT;have aZ:=oH aT;have ae:=oH (HFL.out.step HA.out hp);clear hp aT;obtain⟨bb,aR⟩:∃ bb,PathIs rr gs ge 0 p 0 (aCT (gs,ge) p).1 (aCT (gs,ge) p).2 bb:=by
   by_cases hne:p=[]
   .subst hne
    rw[aCT,if_pos rfl];exact⟨false,.inr ⟨rfl,fun h=>h.ne rfl,rfl,rfl⟩⟩
   rw[aCT,if_neg hne];exact⟨true,.inl ⟨rfl,HFL.out.path HA.out HP.out hne,rfl,rfl⟩⟩
  obtain⟨g',aN⟩:∃ g',aCT (gs,ge) p=g':=⟨_,rfl⟩
  rw[aN] at aR;have ap:Hid (g'=aBn (l.take (k+1)) (1,[])):=oH (by rw[aZ.out,<- aN]);have ao:Hid (FlOk rr l (k+1) g'):=oH (by rw[<- aN];exact ae.out);have hP:=fun W (h1:RG W (Gb+1) aV A2 ge) (h2:RV W lo hi Ap (aAe p))=>aEY rr gs A2 ge c2 Ap p cp W _ _ _ _ h1 h2 oO av (aa.out p (oG HP.out)) g'.1 g'.2 bb aR;have aL:=oH hP;clear aN ae aZ aR hP;go_wp2_with fail;have aE:=Mid.drew1 wo;have ay:=aE.size;replace Z2:=Z2.mid aE oZr;replace Z3:=Z3.mid aE oZr;replace a3:=a3.mid aE oZl;replace hm:=hm.trans aE;replace aJ:=aJ.mid aE oZl;replace aD:=aAa aE aP oZr aD;obtain⟨q0,q1,q2⟩:=Z3.c3 rfl;clear aE;refine aAo (S:=(fun w'=>(w'.cell? ⟨Gb,0,none⟩=some (.int .i64 rr)/\w'.cell? ⟨Gb,1,none⟩=some (.int .i64 gs)/\w'.cell? ⟨Gb,2,none⟩=some (.slice A2 ge.length c2))/\w'.cell? ⟨Bp,op+k,none⟩=some (.slice Ap p.length cp))) [] oK ⟨⟨q0,q1,q2⟩,aD⟩ ?_;generalize World.drew wo=wz at Z2 Z3 a3 hm aJ aD q0 q1 q2 ay |-;have hS:(wz.cell? ⟨Gb,0,none⟩=some (.int .i64 rr)/\wz.cell? ⟨Gb,1,none⟩=some (.int .i64 gs)/\wz.cell? ⟨Gb,2,none⟩=some (.slice A2 ge.length c2))/\wz.cell? ⟨Bp,op+k,none⟩=some (.slice Ap p.length cp):=⟨⟨q0,q1,q2⟩,aD⟩
  have aQ:Bp<wz.heap.size:=by omega
  refine tkZ [] 0 rfl hS ?_;try simp only[oP]
  refine tkZ [] 1 rfl hS ?_;try simp only[oP]
  refine tkZ [] 2 rfl hS ?_;try simp only[oP]
  refine tkZ [] 3 rfl hS ?_;try simp only[oP]
  refine tkZ [] 4 rfl hS ?_;try simp only[oP]
  refine aBb (rs:=[5,9]) oK oM (AllReadyZ.cons rfl (fun K hK=>?_) (AllReadyZ.cons rfl (fun K hK=>?_) AllReadyZ.nil));focus
   (go_simp;(with_reducible refine(aL.out _ a3.rg aJ).mono ?_);rintro en aC ⟨A6,c6,rfl,aB,a0⟩;have aA:=Z3.mid a0 oZr;have a2:=aAa a0 aQ oZr aD;go_wp2_with fail)
   refine hK.out _ _ (Or.inr ⟨aA.c3 rfl,a2⟩) (fun _=>?_);clear hK K;try simp only[oP]
   replace Z2:=Z2.mid a0 oZr;replace hm:=hm.trans a0;have aY:=a0.size;have a4:=And.intro (aA.c3 rfl) a2;clear Z3 hS q0 q1 q2 a3 aL;refine tkZ [] 6 rfl a4 ?_;try simp only[oP]
   refine tkZ [] 7 rfl a4 ?_;try simp only[oP]
   refine tkZ [] 8 rfl a4 ?_;try simp only[oP]
   have a5:=oE aC (.cells #[(0:Int),(0:Int),.slice none 0 0] 35);have a6:=aA.mid a5 oZr;have a1:=aAa a5 oO oZr a2;refine rdZ 9 rfl (fun K hK=>?_);go_simp;refine hK.out _ _ (Or.inr ⟨a6.c3 rfl,a1⟩) (fun _=>?_);clear hK K;try simp only[oP]
   clear a5 a6 a1;have a5:=oE aC (.cells #[rr,.int .i64 g'.1,.slice A6 g'.2.length c6] 35);have a6:=aA.mid a5 oZr;have a1:=aAa a5 oO oZr a2;refine rdZ 10 rfl (fun K hK=>?_);go_simp;refine hK.out _ _ (Or.inr ⟨a6.c3 rfl,a1⟩) (fun _=>?_);clear hK K;try simp only[oP]
   refine rdZ 11 rfl (fun K hK=>?_);go_simp;refine hK.out _ _ (Or.inr ⟨a6.c3 rfl,a1⟩) (fun _=>?_);clear hK K;try simp only[oP]
   refine aAj oK ?_ _;have Zx:=oJ aC #[rr,.int .i64 g'.1,.slice A6 g'.2.length c6] 35;replace aB:=aB.mid a5 oZl;replace Z2:=Z2.mid a5 oZr;replace hm:=hm.trans a5;have aU:Gb+1<=aC.heap.size:=by omega
   have Z3:=a6;clear aA a6 a4 a5 a2 a1 a0;generalize aC.alloc (.cells #[rr,.int .i64 g'.1,.slice A6 g'.2.length c6] 35)=w11 at Z2 Z3 Zx aB hm |-;generalize aC.heap.size=Gz at Zx aU aB |-
  rotate_left
  focus
   have a5:=oE wz (.cells #[(0:Int),(0:Int),.slice none 0 0] 35);have a6:=Z3.mid a5 oZr;have a1:=aAa a5 aQ oZr aD;have Zx:=oJ wz #[(0:Int),(0:Int),.slice none 0 0] 35;have a9:=a3.mid a5 oZl;have aH:=aJ.mid a5 oZl;have az:=a5.size;go_simp;refine hK.out _ _ (Or.inr ⟨a6.c3 rfl,a1⟩) (fun _=>?_);clear hK K;try simp only[oP]
   replace Z2:=Z2.mid a5 oZr;replace hm:=hm.trans a5;clear Z3 hS q0 q1 q2 a3 aJ aD a5;have an:wz.heap.size<(wz.alloc (.cells #[(0:Int),(0:Int),.slice none 0 0] 35)).heap.size:=Zx.1;generalize wz.alloc (.cells #[(0:Int),(0:Int),.slice none 0 0] 35)=wy at a6 Zx a9 aH a1 Z2 hm az an |-;have aq:Bp<wy.heap.size:=by omega
   refine rdZ 5 rfl (fun K hK=>?_)
   (go_simp;(with_reducible refine(aL.out _ a9.rg aH).mono ?_);rintro en aC ⟨A6,c6,rfl,aB,a0⟩;have aA:=a6.mid a0 oZr;have a2:=aAa a0 aq oZr a1;go_wp2_with fail)
   refine hK.out _ _ (Or.inr ⟨aA.c3 rfl,a2⟩) (fun _=>?_);clear hK K;try simp only[oP]
   replace Z2:=Z2.mid a0 oZr;replace Zx:=Zx.mid a0 oZr;replace hm:=hm.trans a0;have aY:=a0.size;have a4:=And.intro (aA.c3 rfl) a2;clear a6 a9 aL aH a1;refine tkZ [] 6 rfl a4 ?_;try simp only[oP]
   refine tkZ [] 7 rfl a4 ?_;try simp only[oP]
   refine tkZ [] 8 rfl a4 ?_;try simp only[oP]
   have b6:=Zx.2.2;obtain⟨b3,b4,b5⟩:=Zx.c3 rfl;have aF:=Mid.s3 aC wz rr (.int .i64 g'.1) (.slice A6 g'.2.length c6);have aM:=aA.mid aF;have aG:=aAa aF oO (Or.inl aQ) a2;refine rdZ 10 rfl (fun K hK=>?_);go_simp;refine hK.out _ _ (Or.inr ⟨aM.c3 rfl,aG⟩) (fun _=>?_);clear hK K;try simp only[oP]
   refine rdZ 11 rfl (fun K hK=>?_);go_simp;refine hK.out _ _ (Or.inr ⟨aM.c3 rfl,aG⟩) (fun _=>?_);clear hK K;try simp only[oP]
   refine aAj oK ?_ _;replace aB:=aB.mid aF;replace Z2:=Z2.mid aF;replace Zx:=Zx.s3 rr (.int .i64 g'.1) (.slice A6 g'.2.length c6);replace hm:=hm.n3 wz oO rr (.int .i64 g'.1) (.slice A6 g'.2.length c6);have aU:Gb+1<=wz.heap.size:=by omega
   have Z3:=aM;clear aA aM a4 aF a2 aG a0 b3 b4 b5 b6;generalize ((aC.setCell ⟨wz,0,none⟩ rr).setCell ⟨wz,1,none⟩ (.int .i64 g'.1)).setCell ⟨wz,2,none⟩ (.slice A6 g'.2.length c6)=w11 at Z2 Z3 Zx aB hm |-;generalize wz.heap.size=Gz at Zx aU an |-
  rotate_left
  all_goals
   have aF:=Mid.s3 w11 Gb rr (.int .i64 g'.1) (.slice A6 g'.2.length c6);have Y7:=Z3.s3 rr (.int .i64 g'.1) (.slice A6 g'.2.length c6);obtain⟨x0,x1,x2⟩:=Zx.c3 rfl;obtain⟨q0,q1,q2⟩:=Z3.c3 rfl;have qf:=Z3.2.2;go_wp2_with fail;go_roundw
   case rel=>exact⟨k+1,A6,c6,_,g',hlt,by go_num,ap,ao,(aB.wide (lo':=Gb+1) oO oN aB.size).mid aF (Or.inl oN),Z2.mid aF,Y7,hm.n3 Gb oO rr (.int .i64 g'.1) (.slice A6 g'.2.length c6)⟩
   simp[intOf];omega
 obtain rfl:k=l.length:=by omega
 rw[List.take_length] at HGE;have aX:rs=gs:=by rw[ad.out,<- HGE.out]
 have aw:aI=ge:=by rw[ab.out,<- HGE.out]
 clear ad ab HGE HFL;subst aX;subst aI;obtain⟨z0,z1,z2⟩:=Z2.c3 rfl;obtain⟨q0,q1,q2⟩:=Z3.c3 rfl;have zf:=Z2.2.2;have b9:(w.heap.size == Gb)=false:=by simp;omega
 go_wp2_with fail;refine oW (v:=.tuple #[.agg #[rr,rs,.slice A2 ge.length c2],.bool true]) (by simp[results,Tryz.results103,go_sem,z0,z1,z2,zf,q0,q1,q2]) rfl ⟨A2,c2,rfl,?_,?_⟩
 .refine OG.wide (OG.mid a3 (a:=w.heap.size) (b:=w.heap.size+1) ?_ oL) oO (by have:=a3.size;simp;omega) oN
  repeat (first|exact Mid.refl _ _ _|refine Mid.stored ?_ _ (by simp;try omega) (by simp;try omega))
 repeat (first|exact hm|refine oQ ?_ (by simp;try omega) _)
theorem aCj(rank:Int)(A:OA)(l:LL)(c:Nat)(w:World)(lo hi:Nat)(hr:RSS w lo hi A l)(aE:∀ xs∈l,OkI xs)(hl:l.length+aAK l<=1048576)(rr rs:Int)(a5:List Ed)(b:Bool)(a1:SubIs rank l rr rs a5 b) :
  Calls Tryz.prog 15 #[.int .i64 rank,.slice A l.length c] w fun e w'=>∃ A1 c1,e=.returned (.tuple #[aAJ rr rs A1 a5.length c1,.bool b])/\OG w' w.heap.size w'.heap.size A1 c1 a5/\Mid 0 0 w w':=by
 have aB:=oH aE;clear aE;have a0:Mid 0 0 w (w.alloc (.cells #[(0:Int),(0:Int),.slice none 0 0] 35)):=oE _ _;have b2:=oJ w #[(0:Int),(0:Int),.slice none 0 0] 35;by_cases ha:aIQ rank l
 .obtain⟨rfl,rfl,aA,aF⟩:b=true/\rr=rank/\rs=(coreA rank (aBn l (1,[]))).1/\a5=(coreA rank (aBn l (1,[]))).2:=by
   rcases a1 with⟨h1, -,h2⟩|⟨-,h, -⟩
   .exact⟨h1,h2⟩
   exact absurd ha h
  have a3:=aJP ha;obtain⟨rn,rfl⟩:∃ rn:Nat,rr=rn:=⟨rr.toNat,by have:=a3.rank;omega⟩
  have a2:aUW rn l rn (aBn l (1,[])).1 (aBn l (1,[])).2 true:=.inl ⟨rfl,ha,rfl,rfl,rfl⟩;obtain⟨⟨fs,ms⟩,hF⟩:∃ F,aBn l (1,[])=F:=⟨_,rfl⟩
  rw[hF] at a2 aA aF a3;obtain⟨sn,rfl⟩:∃ sn:Nat,fs=sn:=⟨fs.toNat,by have:=a3.size;simp only at this;omega⟩
  obtain⟨q,qs,hQ, -⟩:=aFh (aCJ (g:=((sn:Int),ms)) a3);rw[hQ] at aA aF;subst aA;subst a5;have a7:=oH a2;have aG:=oH a3;have HQ:=oH hQ;clear a1 ha a2 a3 hF hQ;go_enter Tryz.func15,Tryz.ntmps15
  go_wp2_with fail;generalize w.alloc (.cells #[(0:Int),(0:Int),.slice none 0 0] 35)=w1 at a0 b2 |-;have aI:w.heap.size<w1.heap.size:=b2.1;with_reducible refine(aHQ rn A l c w1 _ _ (hr.mid a0 oZl) aB.out hl rn sn ms true a7.out).mono ?_
  rintro en w4 ⟨A4,c4,rfl,a9,a4⟩;have aJ:=a4.size;have a6:=oE w4 (.cells #[rn,sn,.slice A4 ms.length c4] 35);have Y4:=oJ w4 #[rn,sn,.slice A4 ms.length c4] 35;replace b2:=b2.mid a4 oZr;replace a0:=a0.trans a4;replace b2:=b2.mid a6 oZr;replace a9:=a9.mid a6 oZl;replace a0:=a0.trans a6;have aK:=a6.size;obtain⟨y0,y1,y2⟩:=Y4.c3 rfl;have hP:=aDd rn sn A4 ms c4 (w4.alloc (.cells #[rn,sn,.slice A4 ms.length c4] 35)) _ _ (OG.rg a9) aG.out;rw[HQ.out] at hP;dsimp only at hP;have aC:=oH hP;clear hP;go_wp2_with fail;with_reducible refine aC.out.mono ?_
  rintro en w6 ⟨A5,c5,rfl,aH,aD⟩;clear aC;replace b2:=b2.mid aD oZr;replace a0:=a0.trans aD;obtain⟨z0,z1,z2⟩:=b2.c3 rfl;have zf:=b2.2.2;go_wp2_with fail;refine oW (v:=.tuple #[.agg #[rn,q,.slice A5 qs.length c5],.bool true]) (by simp[results,Tryz.results15,go_sem,z0,z1,z2,zf]) rfl ⟨A5,c5,rfl,?_,?_⟩
  .refine OG.wide (OG.mid aH (a:=w.heap.size) (b:=w.heap.size+1) ?_ oL) oO oM oN
   repeat (first|exact Mid.refl _ _ _|refine Mid.stored ?_ _ (by simp;try omega) (by simp;try omega))
  repeat (first|exact a0|refine oQ ?_ (by simp;try omega) _)
 obtain⟨rfl,rfl,rfl,rfl⟩:b=false/\rr=0/\rs=0/\a5=[]:=by
  rcases a1 with⟨-,h, -⟩|⟨h1, -,h2⟩
  .exact absurd h ha
  exact⟨h1,h2⟩
 have a2:aUW rank l 0 0 [] false:=.inr ⟨rfl,ha,rfl,rfl,rfl⟩;have a7:=oH a2;clear a1 ha a2;go_enter Tryz.func15,Tryz.ntmps15
 go_wp2_with fail;generalize w.alloc (.cells #[(0:Int),(0:Int),.slice none 0 0] 35)=w1 at a0 b2 |-;have aI:w.heap.size<w1.heap.size:=b2.1;with_reducible refine(aHQ rank A l c w1 _ _ (hr.mid a0 oZl) aB.out hl 0 0 [] false a7.out).mono ?_
 rintro en w4 ⟨A4,c4,rfl, -,a4⟩;replace b2:=b2.mid a4 oZr;replace a0:=a0.trans a4;have a8:w.heap.size<w4.heap.size:=b2.1;obtain⟨z0,z1,z2⟩:=b2.c3 rfl;have zf:=b2.2.2;go_wp2_with fail;refine oW (v:=.tuple #[.agg #[(0:Int),(0:Int),.slice none 0 0],.bool false]) (by simp[results,Tryz.results15,go_sem,z0,z1,z2,zf,a8,World.cell?_alloc_lt]) rfl ⟨none,0,rfl,?_,?_⟩
 .exact⟨oN,⟨rfl,.inl ⟨rfl,rfl⟩⟩,fun g hg=>by simp[Value.ownBlock] at hg⟩
 repeat (first|exact a0|refine Mid.trans ?_ (oE _ _)|refine oQ ?_ (by simp;try omega) _)
def aIE(r s:Int)(es:List Ed):Prop:=IsCor r s es/\s=1/\(es.length:Int)=r
theorem aNR(r s:Int)(A:OA)(es:List Ed)(c:Nat)(w:World)(lo hi:Nat)(hr:RG w lo hi A es)(hl:es.length<=1048576)(b:Bool)(hb:b=true↔aIE r s es) :
  Calls Tryz.prog 153 #[aAJ r s A es.length c] w fun e w'=>e=.returned (.bool b)/\Mid 0 0 w w':=by
 have a0:Mid 0 0 w (w.alloc (.cells #[r,s,.slice A es.length c] 35)):=oE _ _;have b0:=oJ w #[r,s,.slice A es.length c] 35;by_cases hc:IsCor r s es
 .have HC:=oH hc
  have HB:Hid (b=true↔s=1/\(es.length:Int)=r):=oH (by rw[hb,aIE];exact⟨fun h=>h.2,fun h=>⟨hc,h⟩⟩);clear hb hc;go_enter Tryz.func153,Tryz.ntmps153
  go_wp2_with fail;with_reducible refine(aAH r s A es c _ _ _ (hr.mid a0 oZl) hl true (oX rfl HC.out)).mono ?_
  rintro en w2 ⟨rfl,a1⟩;replace b0:=b0.mid a1 oZr;replace a0:=a0.trans a1;obtain⟨p0,p1,p2⟩:=b0.c3 rfl;by_cases h1:s=1
  .subst h1
   have a2:Hid (b=decide ((es.length:Int)=r)):=oH (by
    have:=HB.out;cases b with
   |true=>simp at this;simp[this]
   |false=>
     simp at this;simp[this])
   by_cases h2:(es.length:Int)=r
   .have d2:((es.length:Int) == r)=true:=by simpa using h2
    have a3:b=true:=by rw[a2.out];simpa using h2
    subst a3;clear h2 HB a2;go_wp2_with fail;go_ret;exact⟨rfl,a0⟩
   have d2:((es.length:Int) == r)=false:=by simpa using h2
   have a3:b=false:=by rw[a2.out];simpa using h2
   subst a3;clear h2 HB a2;go_wp2_with fail;go_ret;exact⟨rfl,a0⟩
  have d1:(s == 1)=false:=by simpa using h1
  obtain rfl:b=false:=by
   cases b
   .rfl
   exact absurd (HB.out.1 rfl).1 h1
  clear h1 HB;go_wp2_with fail;go_ret;exact⟨rfl,a0⟩
 obtain rfl:b=false:=aAG hb fun h=>hc h.1;have HC:=oH hc;clear hb hc;go_enter Tryz.func153,Tryz.ntmps153
 go_wp2_with fail;with_reducible refine(aAH r s A es c _ _ _ (hr.mid a0 oZl) hl false (iff_of_false Bool.false_ne_true HC.out)).mono ?_
 rintro en w2 ⟨rfl,a1⟩;replace b0:=b0.mid a1 oZr;replace a0:=a0.trans a1;obtain⟨p0,p1,p2⟩:=b0.c3 rfl;go_wp2_with fail;go_ret;exact⟨rfl,a0⟩
theorem aHx(rank:Int)(w:World)(h:1<=rank/\rank<=3) :
  Calls Tryz.prog 222 #[rank] w fun e w'=>e=.returned (.tuple #[aAJ rank 1 none 0 0,.bool true])/\Mid 0 0 w w':=by
 have a0:Mid 0 0 w (w.alloc (.cells #[(0:Int),(0:Int),.slice none 0 0] 35)):=oE _ _;have b2:=oJ w #[(0:Int),(0:Int),.slice none 0 0] 35;have a1:inB rank 1 3=true:=aJm (oX rfl h);go_enter Tryz.func222,Tryz.ntmps222
 go_wp2_with fail;generalize w.alloc (.cells #[(0:Int),(0:Int),.slice none 0 0] 35)=w1 at a0 b2 |-;have a2:w.heap.size<w1.heap.size:=b2.1;with_reducible refine(aDm a1 _).mono ?_
 rintro en w2 ⟨rfl,rfl⟩;obtain⟨z0,z1,z2⟩:=b2.c3 rfl;have zf:=b2.2.2;go_wp2_with fail;refine oW (v:=.tuple #[.agg #[rank,(1:Int),.slice none 0 0],.bool true]) (by simp[results,Tryz.results222,go_sem,z0,z1,z2,zf]) rfl ⟨rfl,?_⟩;repeat (first|exact a0|refine oQ ?_ (by simp;try omega) _)
theorem aHt(rank:Int)(A:OA)(l:LL)(c:Nat)(w:World)(lo hi:Nat)(hr:RSS w lo hi A l)(aN:∀ xs∈l,OkI xs)(hl:l.length+aAK l<=1048576)(rr rs:Int)(a3:List Ed)(b:Bool)(a4:aUW rank l rr rs a3 b) :
  Calls Tryz.prog 217 #[.int .i64 rank,.slice A l.length c] w fun e w'=>∃ A1 c1,e=.returned (.tuple #[aAJ rr rs A1 a3.length c1,.bool b])/\OG w' w.heap.size w'.heap.size A1 c1 a3/\Mid 0 0 w w':=by
 have HR:=oH a4;have aI:=oH aN;clear a4 aN;obtain⟨b1,aL⟩:=aAF (aIQ rank l);have H1:=oH aL;clear aL;have a2:Mid 0 0 w (w.alloc (.cells #[(0:Int),(0:Int),.slice none 0 0] 35)):=oE _ _;have b2:=oJ w #[(0:Int),(0:Int),.slice none 0 0] 35;go_enter Tryz.func217,Tryz.ntmps217
 go_wp2_with fail;generalize w.alloc (.cells #[(0:Int),(0:Int),.slice none 0 0] 35)=w1 at a2 b2 |-;have am:w.heap.size<w1.heap.size:=b2.1;with_reducible refine(aLR rank A l c w1 _ _ (hr.mid a2 oZl) aI.out hl b1 H1.out).mono ?_
 rintro en w2 ⟨rfl,rfl⟩;cases b1 with
|false=>
  have aM:¬ aIQ rank l:=fun h=>by have:=H1.out.2 h;cases this
  obtain⟨rfl,rfl,rfl,rfl⟩:b=false/\rr=0/\rs=0/\a3=[]:=by
   rcases HR.out with⟨-,h, -⟩|⟨h1, -,h2⟩
   .exact absurd h aM
   exact⟨h1,h2⟩
  obtain⟨z0,z1,z2⟩:=b2.c3 rfl;have zf:=b2.2.2;clear aM HR;go_wp2_with fail;refine oW (v:=.tuple #[.agg #[(0:Int),(0:Int),.slice none 0 0],.bool false]) (by simp[results,Tryz.results217,go_sem,z0,z1,z2,zf]) rfl ⟨none,0,rfl,?_,?_⟩
  .exact⟨oN,⟨rfl,.inl ⟨rfl,rfl⟩⟩,fun g hg=>by simp[Value.ownBlock] at hg⟩
  repeat (first|exact a2|refine Mid.trans ?_ (oE _ _)|refine oQ ?_ (by simp;try omega) _)
|true=>
 have a0:=H1.out.1 rfl;have HA:=oH a0;have aQ:1<=rank/\rank<=3:=⟨a0.1,a0.2.1⟩
 obtain⟨rfl,rfl,aR,aP⟩:b=true/\rr=rank/\rs=(aBn l (1,[])).1/\a3=(aBn l (1,[])).2:=by
  rcases HR.out with⟨h1, -,h2⟩|⟨-,h, -⟩
  .exact⟨h1,h2⟩
  exact absurd a0 h
 have aK:=oH aR;have aJ:=oH aP;clear a0 H1 HR aR aP;go_wp2_with fail;with_reducible refine(aHx rr _ aQ).mono ?_
 rintro en w4 ⟨rfl,a6⟩;have af:=a6.size;have aD:=oE w4 (.cells #[rr,(1:Int),.slice none 0 0] 35);have Y4:=oJ w4 #[rr,(1:Int),.slice none 0 0] 35;replace b2:=b2.mid a6 oZr;replace a2:=a2.trans a6;have aW:=b2.1;replace b2:=b2.mid aD oZr;replace a2:=a2.trans aD;go_wp2_with fail;generalize w4.alloc (.cells #[rr,(1:Int),.slice none 0 0] 35)=w5 at b2 Y4 a2 |-;have aS:w4.heap.size<w5.heap.size:=Y4.1;clear aD a6;generalize hG:w4.heap.size=Gb at Y4 aW aS;clear hG af;have aj:=hr.size;go_loopw [22] (fun i wr=>∃(k:Nat) (A2:OA) (c2 aG:Nat) (g:Int × List Ed),k<=l.length/\i=.int .i64 k/\Hid (g=aBn (l.take k) (1,[]))/\Hid (FlOk rr l k g)/\OG wr (Gb+1) aG A2 c2 g.2 /\
   Box wr w [(0:Int),(0:Int),.slice none 0 0]/\Box wr Gb [rr,.int .i64 g.1,.slice A2 g.2.length c2]/\Mid 0 0 w wr) (fun i _=>l.length - (intOf i).toNat)
 case atStart=>exact⟨0,none,0,_,(1,[]),oZ,rfl,oH rfl,oH (FlOk.zero l aQ),OG.nil,b2,Y4,a2⟩
 clear b2 Y4 a2 aS;obtain⟨wo,ag⟩:∃ wo,wo=wr:=⟨_,rfl⟩
 subst ag;obtain⟨k,A2,c2,aG,⟨gs,ge⟩,hk,rfl,HGE,HFL,a1,Z2,Z3,hm⟩:=hrel;dsimp only at a1 Z3;have aV:Gb<wo.heap.size:=Z3.1;have aY:=HFL.out.gr.len;dsimp only at aY;by_cases hlt:k<l.length
 .obtain⟨Bp,op,Ap,cp,p,rfl, -,ah,hp,aX,ae⟩:=(hr.mid hm oZl).row hlt
  have aa:p.length<=1048576:=by have:=aBm (oG hp);omega
  have al:(k:Int)<(l.length:Int):=by omega
  have ak:(0:Int)<=(k:Int):=by omega
  have HP:=oH hp;have aE:=aIf hp (1,[]);rw[<- HGE.out] at aE;have a9:=oH aE;have aB:=oH (HFL.out.step HA.out hp);clear hp aE;by_cases hne:p=[]
  .subst hne
   have aA:Hid ((gs,ge)=aBn (l.take (k+1)) (1,[])):=oH (by rw[a9.out,aCT,if_pos rfl]);have a8:Hid (FlOk rr l (k+1) (gs,ge)):=oH (by have:=aB.out;rw[aCT,if_pos rfl] at this;exact this);go_wp2_with fail;go_roundw
   case rel=>exact⟨k+1,A2,c2,aG,(gs,ge),hlt,by go_num,aA,a8,a1,Z2,Z3,hm⟩
   simp[intOf];omega
  have ab:0<p.length:=List.length_pos_iff.2 hne;have aO:=HFL.out.path HA.out HP.out hne;have aC:PathIs rr gs ge 0 p 0 (aCT (gs,ge) p).1 (aCT (gs,ge) p).2 true:=by
   rw[aCT,if_neg hne];exact .inl ⟨rfl,aO,rfl,rfl⟩
  obtain⟨g',a5⟩:∃ g',aCT (gs,ge) p=g':=⟨_,rfl⟩
  rw[a5] at aC;have aA:Hid (g'=aBn (l.take (k+1)) (1,[])):=oH (by rw[a9.out,<- a5]);have a8:Hid (FlOk rr l (k+1) g'):=oH (by rw[<- a5];exact aB.out);have aU:=oH aC;have aF:=a1.rg;obtain⟨q0,q1,q2⟩:=Z3.c3 rfl;clear hne aO aC a5 aB a9;go_wp2_with fail;with_reducible refine(aEP rr gs A2 ge c2 Ap p cp wo _ _ _ _ aF ae oO aa (aI.out p (oG HP.out)) g'.1 g'.2 true aU.out).mono ?_
  rintro en w6 ⟨A6,c6,rfl,aZ,a7⟩;have an:=a7.size;replace Z2:=Z2.mid a7 oZr;replace Z3:=Z3.mid a7 oZr;replace hm:=hm.trans a7;clear q0 q1 q2 aX;obtain⟨q0,q1,q2⟩:=Z3.c3 rfl;have qf:=Z3.2.2;have aT:=Mid.s3 w6 Gb rr (.int .i64 g'.1) (.slice A6 g'.2.length c6);have Y7:=Z3.s3 rr (.int .i64 g'.1) (.slice A6 g'.2.length c6);go_wp2_with fail;go_roundw
  case rel=>exact⟨k+1,A6,c6,_,g',hlt,by go_num,aA,a8,(aZ.wide (lo':=Gb+1) aV oN oN).mid aT (Or.inl oN),Z2.mid aT,Y7,hm.n3 Gb oO rr (.int .i64 g'.1) (.slice A6 g'.2.length c6)⟩
  simp[intOf];omega
 obtain rfl:k=l.length:=by omega
 rw[List.take_length] at HGE;have aH:rs=gs:=by rw[aK.out,<- HGE.out]
 have ad:a3=ge:=by rw[aJ.out,<- HGE.out]
 clear aK aJ HGE HFL;subst aH;subst a3;obtain⟨z0,z1,z2⟩:=Z2.c3 rfl;obtain⟨q0,q1,q2⟩:=Z3.c3 rfl;have zf:=Z2.2.2;have ai:(w.heap.size == Gb)=false:=by simp;omega
 go_wp2_with fail;refine oW (v:=.tuple #[.agg #[rr,rs,.slice A2 ge.length c2],.bool true]) (by simp[results,Tryz.results217,go_sem,z0,z1,z2,zf,q0,q1,q2]) rfl ⟨A2,c2,rfl,?_,?_⟩
 .refine OG.wide (OG.mid a1 (a:=w.heap.size) (b:=w.heap.size+1) ?_ oL) oO (by have:=a1.size;simp;omega) oN
  repeat (first|exact Mid.refl _ _ _|refine Mid.stored ?_ _ (by simp;try omega) (by simp;try omega))
 repeat (first|exact hm|refine oQ ?_ (by simp;try omega) _)
theorem aCL(rank:Int)(A:OA)(l:LL)(c:Nat)(w:World)(lo hi:Nat)(hr:RSS w lo hi A l)(aE:∀ xs∈l,OkI xs)(hl:l.length+aAK l<=1048576)(rr rs:Int)(a5:List Ed)(b:Bool)(a1:SubIs rank l rr rs a5 b) :
  Calls Tryz.prog 151 #[.int .i64 rank,.slice A l.length c] w fun e w'=>∃ A1 c1,e=.returned (.tuple #[aAJ rr rs A1 a5.length c1,.bool b])/\OG w' w.heap.size w'.heap.size A1 c1 a5/\Mid 0 0 w w':=by
 have aB:=oH aE;clear aE;have a0:Mid 0 0 w (w.alloc (.cells #[(0:Int),(0:Int),.slice none 0 0] 35)):=oE _ _;have b2:=oJ w #[(0:Int),(0:Int),.slice none 0 0] 35;by_cases ha:aIQ rank l
 .obtain⟨rfl,rfl,aA,aF⟩:b=true/\rr=rank/\rs=(coreA rank (aBn l (1,[]))).1/\a5=(coreA rank (aBn l (1,[]))).2:=by
   rcases a1 with⟨h1, -,h2⟩|⟨-,h, -⟩
   .exact⟨h1,h2⟩
   exact absurd ha h
  have a3:=aJP ha;obtain⟨rn,rfl⟩:∃ rn:Nat,rr=rn:=⟨rr.toNat,by have:=a3.rank;omega⟩
  have a2:aUW rn l rn (aBn l (1,[])).1 (aBn l (1,[])).2 true:=.inl ⟨rfl,ha,rfl,rfl,rfl⟩;obtain⟨⟨fs,ms⟩,hF⟩:∃ F,aBn l (1,[])=F:=⟨_,rfl⟩
  rw[hF] at a2 aA aF a3;obtain⟨sn,rfl⟩:∃ sn:Nat,fs=sn:=⟨fs.toNat,by have:=a3.size;simp only at this;omega⟩
  obtain⟨q,qs,hQ, -⟩:=aFh (aCJ (g:=((sn:Int),ms)) a3);rw[hQ] at aA aF;subst aA;subst a5;have a7:=oH a2;have aG:=oH a3;have HQ:=oH hQ;clear a1 ha a2 a3 hF hQ;go_enter Tryz.func151,Tryz.ntmps151
  go_wp2_with fail;generalize w.alloc (.cells #[(0:Int),(0:Int),.slice none 0 0] 35)=w1 at a0 b2 |-;have aI:w.heap.size<w1.heap.size:=b2.1;with_reducible refine(aHt rn A l c w1 _ _ (hr.mid a0 oZl) aB.out hl rn sn ms true a7.out).mono ?_
  rintro en w4 ⟨A4,c4,rfl,a9,a4⟩;have aJ:=a4.size;have a6:=oE w4 (.cells #[rn,sn,.slice A4 ms.length c4] 35);have Y4:=oJ w4 #[rn,sn,.slice A4 ms.length c4] 35;replace b2:=b2.mid a4 oZr;replace a0:=a0.trans a4;replace b2:=b2.mid a6 oZr;replace a9:=a9.mid a6 oZl;replace a0:=a0.trans a6;have aK:=a6.size;obtain⟨y0,y1,y2⟩:=Y4.c3 rfl;have hP:=aEn rn sn A4 ms c4 (w4.alloc (.cells #[rn,sn,.slice A4 ms.length c4] 35)) _ _ (OG.rg a9) aG.out;rw[HQ.out] at hP;dsimp only at hP;have aC:=oH hP;clear hP;go_wp2_with fail;with_reducible refine aC.out.mono ?_
  rintro en w6 ⟨A5,c5,rfl,aH,aD⟩;clear aC;replace b2:=b2.mid aD oZr;replace a0:=a0.trans aD;obtain⟨z0,z1,z2⟩:=b2.c3 rfl;have zf:=b2.2.2;go_wp2_with fail;refine oW (v:=.tuple #[.agg #[rn,q,.slice A5 qs.length c5],.bool true]) (by simp[results,Tryz.results151,go_sem,z0,z1,z2,zf]) rfl ⟨A5,c5,rfl,?_,?_⟩
  .refine OG.wide (OG.mid aH (a:=w.heap.size) (b:=w.heap.size+1) ?_ oL) oO oM oN
   repeat (first|exact Mid.refl _ _ _|refine Mid.stored ?_ _ (by simp;try omega) (by simp;try omega))
  repeat (first|exact a0|refine oQ ?_ (by simp;try omega) _)
 obtain⟨rfl,rfl,rfl,rfl⟩:b=false/\rr=0/\rs=0/\a5=[]:=by
  rcases a1 with⟨-,h, -⟩|⟨h1, -,h2⟩
  .exact absurd h ha
  exact⟨h1,h2⟩
 have a2:aUW rank l 0 0 [] false:=.inr ⟨rfl,ha,rfl,rfl,rfl⟩;have a7:=oH a2;clear a1 ha a2;go_enter Tryz.func151,Tryz.ntmps151
 go_wp2_with fail;generalize w.alloc (.cells #[(0:Int),(0:Int),.slice none 0 0] 35)=w1 at a0 b2 |-;have aI:w.heap.size<w1.heap.size:=b2.1;with_reducible refine(aHt rank A l c w1 _ _ (hr.mid a0 oZl) aB.out hl 0 0 [] false a7.out).mono ?_
 rintro en w4 ⟨A4,c4,rfl, -,a4⟩;replace b2:=b2.mid a4 oZr;replace a0:=a0.trans a4;have a8:w.heap.size<w4.heap.size:=b2.1;obtain⟨z0,z1,z2⟩:=b2.c3 rfl;have zf:=b2.2.2;go_wp2_with fail;refine oW (v:=.tuple #[.agg #[(0:Int),(0:Int),.slice none 0 0],.bool false]) (by simp[results,Tryz.results151,go_sem,z0,z1,z2,zf,a8,World.cell?_alloc_lt]) rfl ⟨none,0,rfl,?_,?_⟩
 .exact⟨oN,⟨rfl,.inl ⟨rfl,rfl⟩⟩,fun g hg=>by simp[Value.ownBlock] at hg⟩
 repeat (first|exact a0|refine Mid.trans ?_ (oE _ _)|refine oQ ?_ (by simp;try omega) _)
theorem aNn(r s:Int)(A:OA)(es:List Ed)(c:Nat)(w:World)(lo hi:Nat)(hr:RG w lo hi A es)(hl:es.length<=1048576)(a4:es.length<=c)(b:Bool)(hb:b=true↔aIE r s es) :
  Calls Tryz.prog 152 #[aAJ r s A es.length c] w fun e w'=>e=.returned (.bool b)/\Mid 0 0 w w':=by
 have a0:Mid 0 0 w (w.alloc (.cells #[r,s,.slice A es.length c] 35)):=oE _ _;have b0:=oJ w #[r,s,.slice A es.length c] 35;by_cases hc:IsCor r s es
 .have HC:=oH hc
  have HB:Hid (b=true↔s=1/\(es.length:Int)=r):=oH (by rw[hb,aIE];exact⟨fun h=>h.2,fun h=>⟨hc,h⟩⟩);clear hb hc;go_enter Tryz.func152,Tryz.ntmps152
  go_wp2_with fail;with_reducible refine(aBl r s A es c _ _ _ (hr.mid a0 oZl) hl a4 true (oX rfl HC.out)).mono ?_
  rintro en w2 ⟨rfl,a1⟩;replace b0:=b0.mid a1 oZr;replace a0:=a0.trans a1;obtain⟨p0,p1,p2⟩:=b0.c3 rfl;by_cases h1:s=1
  .subst h1
   have a2:Hid (b=decide ((es.length:Int)=r)):=oH (by
    have:=HB.out;cases b with
   |true=>simp at this;simp[this]
   |false=>
     simp at this;simp[this])
   by_cases h2:(es.length:Int)=r
   .have d2:((es.length:Int) == r)=true:=by simpa using h2
    have a3:b=true:=by rw[a2.out];simpa using h2
    subst a3;clear h2 HB a2;go_wp2_with fail;go_ret;exact⟨rfl,a0⟩
   have d2:((es.length:Int) == r)=false:=by simpa using h2
   have a3:b=false:=by rw[a2.out];simpa using h2
   subst a3;clear h2 HB a2;go_wp2_with fail;go_ret;exact⟨rfl,a0⟩
  have d1:(s == 1)=false:=by simpa using h1
  obtain rfl:b=false:=by
   cases b
   .rfl
   exact absurd (HB.out.1 rfl).1 h1
  clear h1 HB;go_wp2_with fail;go_ret;exact⟨rfl,a0⟩
 obtain rfl:b=false:=aAG hb fun h=>hc h.1;have HC:=oH hc;clear hb hc;go_enter Tryz.func152,Tryz.ntmps152
 go_wp2_with fail;with_reducible refine(aBl r s A es c _ _ _ (hr.mid a0 oZl) hl a4 false (iff_of_false Bool.false_ne_true HC.out)).mono ?_
 rintro en w2 ⟨rfl,a1⟩;replace b0:=b0.mid a1 oZr;replace a0:=a0.trans a1;obtain⟨p0,p1,p2⟩:=b0.c3 rfl;go_wp2_with fail;go_ret;exact⟨rfl,a0⟩
noncomputable def stepJ (r:Int) (g:Option (Int × List Ed)) (x:LI):Option (Int × List Ed):=
 match g with
|none=>none
|some p=>if x.length<=24 then jwA r p.1 p.2 x else none
noncomputable def joinJ (r:Int) (l:LL):Option (Int × List Ed):=l.foldl (stepJ r) (some (1,[]))
theorem aDB{r:Int}{l:LL}{k:Nat}{x:LI}(h:l[k]?=some x):joinJ r (l.take (k+1))=stepJ r (joinJ r (l.take k)) x:=by
 obtain⟨h1,h2⟩:=List.getElem?_eq_some_iff.1 h;unfold joinJ;rw[List.take_succ_eq_append_getElem h1,h2,List.foldl_append]
 rfl
theorem aLu(r:Int)(l:LL):l.foldl (stepJ r) none=none:=by
 induction l with
|nil=>rfl
|cons x t ih=>exact ih
theorem aGe{r:Int}{l:LL}{k:Nat}(h:joinJ r (l.take k)=none):joinJ r l=none:=by
 unfold joinJ at h |-;rw[<- List.take_append_drop k l,List.foldl_append,h];exact aLu r _
theorem aLX{r:Int}(hr:1<=r/\r<=3){l:LL}{p:Int × List Ed}(h:joinJ r l=some p):IsGr r p.1 p.2:=by
 have key:∀(l:LL) (g:Int × List Ed),IsGr r g.1 g.2->∀ p,l.foldl (stepJ r) (some g)=some p->IsGr r p.1 p.2:=by
  intro l
  induction l with
 |nil=>
   intro g hg p h;injection h with h
   subst h;exact hg
 |cons x t ih=>
   intro g hg p h;rw[List.foldl_cons] at h;cases hs:stepJ r (some g) x with
  |none=>
    rw[hs,aLu] at h;cases h
  |some q=>
    rw[hs] at h;refine ih q ?_ p h;simp only[stepJ] at hs;split at hs
    .exact(aTh hs).2.2
    cases hs
 exact key l (1,[]) (aPu hr) p h
theorem aLt{r:Int}{g:Int × List Ed}{x:LI}(h:¬ x.length<=24):stepJ r (some g) x=none:=by
 simp only[stepJ];rw[if_neg h]
theorem aGk{r:Int}{g:Int × List Ed}{x:LI}(h:x.length<=24):stepJ r (some g) x=jwA r g.1 g.2 x:=by
 simp only[stepJ];rw[if_pos h]
def WsIs(r:Int)(l:LL)(rr rs:Int)(res:List Ed)(b:Bool):Prop:=
 (joinJ r l=none/\b=false/\rr=0/\rs=0/\res=[]) \/ (∃ p,joinJ r l=some p/\b=true/\rr=r/\rs=p.1/\res=p.2)
theorem aTZ(r:Int)(l:LL):∃ rr rs res b,WsIs r l rr rs res b:=by
 cases h:joinJ r l with
|none=>exact⟨_,_,_,_,.inl ⟨h,rfl,rfl,rfl,rfl⟩⟩
|some p=>exact⟨_,_,_,_,.inr ⟨p,h,rfl,rfl,rfl,rfl⟩⟩
theorem WsIs.no{r:Int}{l:LL}{rr rs:Int}{res:List Ed}{b:Bool}(h:WsIs r l rr rs res b)(hn:joinJ r l=none):b=false/\rr=0/\rs=0/\res=[]:=by
 rcases h with⟨-,h⟩|⟨p,h, -⟩
 .exact h
 rw[hn] at h;cases h
theorem WsIs.yes{r:Int}{l:LL}{rr rs:Int}{res:List Ed}{b:Bool}(h:WsIs r l rr rs res b){p:Int × List Ed}(hn:joinJ r l=some p):b=true/\rr=r/\rs=p.1/\res=p.2:=by
 rcases h with⟨h, -⟩|⟨q,h,h2⟩
 .rw[hn] at h
  cases h
 rw[hn] at h;injection h with h
 subst h;exact h2
theorem WsIs.lens{r:Int}(hr:1<=r/\r<=3){l:LL}{rr rs:Int}{res:List Ed}{b:Bool}(h:WsIs r l rr rs res b):res.length<=120:=by
 rcases h with⟨-, -, -, -,rfl⟩|⟨p,h, -, -, -,rfl⟩
 .simp
 exact(aLX hr h).len
noncomputable def basA (r:Int) (es:List Ed):LL:=(aCg (aBG es (bfs es (aAg r.toNat) 0)) es).map (basisW r.toNat es)
theorem aRi{r n:Nat}{es:List Ed}(h:IsCor r n es){e:Ed}(he:e∈es):(basisW r es e).length<=81/\OkI (basisW r es e):=by
 have a0:=h.gr.all e he;have hr:=h.gr.rank;have hn:=h.gr.size;unfold InG at a0;obtain⟨a,l,b⟩:=e;simp only at a0;obtain⟨pa,rfl⟩:∃ m:Nat,a=m:=⟨a.toNat,oO⟩
 obtain⟨pb,rfl⟩:∃ m:Nat,b=m:=⟨b.toNat,oO⟩
 obtain⟨h1,h2⟩:=aFc h (v:=pa) oO;obtain⟨h3,h4⟩:=aFc h (v:=pb) oO;unfold basisW;simp only;refine⟨?_,aNH ?_⟩
 .have h5:=aBu (wordV r es (pa:Int)++[l]++aAE (wordV r es (pb:Int)))
  rw[List.length_append,List.length_append,aBE] at h5;simp only[List.length_cons,List.length_nil] at h5;omega
 intro x hx;rcases List.mem_append.1 hx with hx|hx
 .rcases List.mem_append.1 hx with hx|hx
  .have:=aAU.1 (h2 x hx)
   omega
  simp at hx;subst hx;omega
 exact aEW (fun y hy=>by have:=aAU.1 (h4 y hy);omega) x hx
theorem aPj{r n:Nat}{es:List Ed}(h:IsCor r n es):(basA r es).length<=120:=by
 have h1:=aFM (aBG es (bfs es (aAg r) 0)) es;have h2:=h.gr.len;unfold basA;rw[List.length_map,Int.toNat_natCast];omega
theorem aRh{r n:Nat}{es:List Ed}(h:IsCor r n es){x:LI}(hx:x∈basA r es):x.length<=81/\OkI x:=by
 unfold basA at hx;obtain⟨e,he,rfl⟩:=List.mem_map.1 hx;rw[Int.toNat_natCast] at he |-;exact aRi h (List.mem_filter.1 he).1
theorem aGE{d:LL}(hb:∀ xs∈d,xs.length<=24)(ho:∀ xs∈d,OkI xs)(l:LI):(aAl d l).length<=4800:=by
 have h1:=aBu (aCO d (l.take 200)).flatten;have h2:=aCh hb ho l (Nat.le_refl 200);unfold aAl;omega
theorem aMX{d:LL}(hb:∀ xs∈d,xs.length<=24)(ho:∀ xs∈d,OkI xs)(l:LI):OkI (aAl d l):=aNH (aKk hb ho _)
def aJC(r0:Int)(d:LL)(r s:Int)(es:List Ed):Prop:=IsMor r0 d/\IsCor r s es/\r=r0
def ImgIs(r0:Int)(d:LL)(r s:Int)(es:List Ed)(rr rs:Int)(res:List Ed)(b:Bool):Prop:=
 (¬ aJC r0 d r s es/\b=false/\rr=0/\rs=0/\res=[]) \/ (aJC r0 d r s es/\WsIs r0 ((basA r es).map (aAl d)) rr rs res b)
theorem aSJ(r0:Int)(d:LL)(r s:Int)(es:List Ed):∃ rr rs a0 b,ImgIs r0 d r s es rr rs a0 b:=by
 by_cases h:aJC r0 d r s es
 .obtain⟨rr,rs,a0,b,hg⟩:=aTZ r0 ((basA r es).map (aAl d))
  exact⟨rr,rs,a0,b,.inr ⟨h,hg⟩⟩
 exact⟨_,_,_,_,.inl ⟨h,rfl,rfl,rfl,rfl⟩⟩
theorem ImgIs.no{r0:Int}{d:LL}{r s:Int}{es:List Ed}{rr rs:Int}{res:List Ed}{b:Bool}(h:ImgIs r0 d r s es rr rs res b)(hn:¬ aJC r0 d r s es):b=false/\rr=0/\rs=0/\res=[]:=by
 rcases h with⟨-,h⟩|⟨h, -⟩
 .exact h
 exact absurd h hn
theorem ImgIs.yes{r0:Int}{d:LL}{r s:Int}{es:List Ed}{rr rs:Int}{res:List Ed}{b:Bool}(h:ImgIs r0 d r s es rr rs res b)(hn:aJC r0 d r s es):WsIs r0 ((basA r es).map (aAl d)) rr rs res b:=by
 rcases h with⟨h, -⟩|⟨-,h⟩
 .exact absurd hn h
 exact h
theorem ImgIs.lens{r0:Int}{d:LL}{r s:Int}{es:List Ed}{rr rs:Int}{res:List Ed}{b:Bool}(h:ImgIs r0 d r s es rr rs res b):res.length<=120:=by
 rcases h with⟨-, -, -, -,rfl⟩|⟨h1,h⟩
 .simp
 exact h.lens ⟨h1.1.1,h1.1.2.1⟩
theorem aOX(r n:Nat)(A:OA)(es:List Ed)(c:Nat)(w:World)(lo hi:Nat)(hr:RG w lo hi A es)(a0:IsCor r n es) :
  Calls Tryz.prog 165 #[aAJ r n A es.length c] w fun e w'=>∃ A1 c1,e=.returned (.slice A1 (basA r es).length c1)/\OSS w' w.heap.size w'.heap.size 44 3 A1 c1 (basA r es)/\Mid 0 0 w w':=by
 have h:=aNO r n A es c w lo hi hr a0 _ rfl;unfold basA;rw[Int.toNat_natCast];exact h
theorem aOz(r n:Nat)(A:OA)(es:List Ed)(c:Nat)(w:World)(lo hi:Nat)(hr:RG w lo hi A es)(a1:es.length<=c)(a0:IsCor r n es) :
  Calls Tryz.prog 125 #[aAJ r n A es.length c] w fun e w'=>∃ A1 c1,e=.returned (.slice A1 (basA r es).length c1)/\OSS w' w.heap.size w'.heap.size 44 3 A1 c1 (basA r es)/\Mid 0 0 w w':=by
 have a2:=a0.gr.size;have hl:=a0.gr.len;have hT:(aBG es (bfs es (aAg r) 0)).length<=1000000:=by
  unfold aBG;rw[List.length_map,List.length_tail,a0.found];omega
 have hX:=aFM (aBG es (bfs es (aAg r) 0)) es;have h:=aNk r n A es c w lo hi hr a1 a0 (aCg (aBG es (bfs es (aAg r) 0)) es) (fun e he=>(List.mem_filter.1 he).1) oO
  (fun W hW=>aJU r n A es c W lo hi hW a1 a0.fol _ hT fun W' hW'=>aKH r n A es c W' lo hi hW' a0.fol)
 unfold basA;rw[Int.toNat_natCast];exact h
end Go.Proofs.YtkimajabegojoaaGreat
