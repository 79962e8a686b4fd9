/- Lemmas. -/
import Derived.Test.YtkimajabegojoaaGreatMo4
import Derived.Test.YtkimajabegojoaaGreatMo3
import Derived.ChangeAlike
import Derived.Test.YtkimajabegojoaaGreatMo1
namespace Go.Proofs.YtkimajabegojoaaGreat
set_option linter.unusedVariables false
set_option linter.unusedSimpArgs false
set_option maxHeartbeats 40000000
set_option maxRecDepth 100000
open Go.RowKit
theorem IsGr.nat{r s:Int}{es:List Ed}(h:IsGr r s es):∃ k n:Nat,r=k/\s=n:=by
 have h1:=h.rank;have h2:=h.size;exact⟨r.toNat,s.toNat,oO,oO⟩
theorem aBl(r s:Int)(A:OA)(es:List Ed)(c:Nat)(w:World)(lo hi:Nat)(hr:RG w lo hi A es)(hl:es.length<=1048576)(aC:es.length<=c)(b:Bool)(hb:b=true↔IsCor r s es) :
  Calls Tryz.prog 105 #[aAJ r s A es.length c] w fun e w'=>e=.returned (.bool b)/\Mid 0 0 w w':=by
 have HB:=oH hb;clear hb;have a0:Mid 0 0 w (w.alloc (.cells #[r,s,.slice A es.length c] 35)):=oE _ _;have b0:=oJ w #[r,s,.slice A es.length c] 35;by_cases hf:IsFol r s es
 .obtain⟨r,n,rfl,rfl⟩:=hf.gr.nat
  have aP:0<n:=by have:=hf.gr.size;omega
  have HF:=oH hf;obtain⟨T,hT⟩:∃ T,trimA 40 ((n:Int),es)=T:=⟨_,rfl⟩
  have a5:Hid (T.1=n↔leaf n es=none):=oH (by rw[<- hT];exact aQS (g:=((n:Int),es)) oO);have aB:IsGr r T.1 T.2:=by rw[<- hT];exact aHW 40 (g:=((n:Int),es)) hf.gr
  obtain⟨tr,tn, -,aL⟩:=aB.nat;obtain⟨ts,te⟩:=T;simp only at aL a5;subst aL;have aR:=aB.len;have aG:=oH hT;clear hf hT aB;have a1:=fun W h=>aGw r n A es c W lo hi h HF.out.gr;simp only[aG.out] at a1;have a2:=oH a1;clear a1 aG;go_enter Tryz.func105,Tryz.ntmps105
  go_wp2_with fail;with_reducible refine(aBO r n A es c _ _ _ (hr.mid a0 oZl) hl aC true (oX rfl HF.out)).mono ?_
  rintro en w1 ⟨rfl,a7⟩;replace b0:=b0.mid a7 oZr;replace a0:=a0.trans a7;obtain⟨p0,p1,p2⟩:=b0.c3 rfl;go_wp2_with fail;with_reducible refine(a2.out _ (hr.mid a0 oZl)).mono ?_
  rintro en w2 ⟨A1,c1,Al,nl,cl,rfl,aQ,aK⟩;replace b0:=b0.mid aK oZr;replace a0:=a0.trans aK;have aI:=oE w2 (.cells #[r,tn,.slice A1 te.length c1] 35);have bt:=oJ w2 #[r,tn,.slice A1 te.length c1] 35;replace b0:=b0.mid aI oZr;replace a0:=a0.trans aI;clear p0 p1 p2 a2;go_wp2_with fail;generalize w2.alloc (.cells #[r,tn,.slice A1 te.length c1] 35)=w3 at b0 bt a0 |-;by_cases hts:(tn:Int)=n
  .have aJ:=a5.out.1 hts
   obtain rfl:tn=n:=by omega
   obtain⟨C,hC⟩:∃ C,canonG r ((tn:Int),es)=C:=⟨_,rfl⟩
   have aH:IsGr r C.1 C.2:=by rw[<- hC];exact aFA (g:=((tn:Int),es)) HF.out.gr
   have aF:Hid (b=true↔(r:Int)=r/\C.1=tn/\C.2=es):=oH (by
    rw[HB.out];constructor
    .intro h
     have h1:=h.canon;rw[hC] at h1;exact⟨rfl,by rw[h1],by rw[h1]⟩
    .rintro⟨-,h1,h2⟩
     exact⟨HF.out,aJ,by rw[hC];exact Prod.ext h1 h2⟩)
   have aN:=aH.len;have a9:=Mid.drew1 w3;replace b0:=b0.mid a9 oZr;replace bt:=bt.mid a9 oZr;replace a0:=a0.trans a9;obtain⟨p0,p1,p2⟩:=b0.c3 rfl;have q1:=bt.cell 1 rfl;have a3:=fun W h=>aDH r tn A es c W lo hi h aC HF.out.gr;simp only[hC] at a3;have a4:=oH a3;clear a3 hC aH HB aJ a5 hts a9;refine aAM (S:=(fun w'=>w'.cell? ⟨w,0,none⟩=some (.int .i64 r)/\w'.cell? ⟨w,1,none⟩=some (.int .i64 tn)/\w'.cell? ⟨w,2,none⟩=some (.slice A es.length c)/\w'.cell? ⟨w2,1,none⟩=some (.int .i64 tn))) 11 oK ⟨p0,p1,p2,q1⟩ ?_;generalize World.drew w3=wz at b0 bt a0 p0 p1 p2 q1 |-;have hS:wz.cell? ⟨w,0,none⟩=some (.int .i64 r)/\wz.cell? ⟨w,1,none⟩=some (.int .i64 tn)/\wz.cell? ⟨w,2,none⟩=some (.slice A es.length c)/\wz.cell? ⟨w2,1,none⟩=some (.int .i64 tn):=⟨p0,p1,p2,q1⟩
   refine tkT 0 rfl hS ?_;try simp only[oP]
   refine tkT 1 rfl hS ?_;try simp only[oP]
   refine tkT 2 rfl hS ?_;try simp only[oP]
   refine tkT 3 rfl hS ?_;try simp only[oP]
   refine tkT 4 rfl hS ?_;try simp only[oP]
   refine tkT 5 rfl hS ?_;try simp only[oP]
   refine tkT 6 rfl hS ?_;try simp only[oP]
   refine tkT 8 rfl hS ?_;try simp only[oP]
   refine rdT 7 rfl (fun K hK=>?_)
   (go_simp;refine(a4.out _ (hr.mid a0 oZl)).mono ?_;rintro en w4 ⟨A4,c4,rfl,aE,a8⟩;have a6:=b0.mid a8 oZr;have aA:=bt.mid a8 oZr;go_wp2_with fail)
   refine hK.out _ _ (Or.inr ⟨a6.cell 0 rfl,a6.cell 1 rfl,a6.cell 2 rfl,aA.cell 1 rfl⟩) (fun _=>?_);clear hK K;try simp only[oP]
   replace a0:=a0.trans a8;have hE:=aIU r C.1 A4 C.2 c4 r tn A es c w4 _ _ _ _ aE.rg (hr.mid a0 oZl) oO hl b (by have h:=aF.out;simpa using h);have HE:=oH hE;clear hS p0 p1 p2 q1 b0 bt a4 aF hE a8;refine rdT 9 rfl (fun K hK=>?_)
   (go_simp;refine HE.out.mono ?_;rintro en w5 ⟨rfl,aD⟩;have b0:=a6.mid aD oZr;have bt:=aA.mid aD oZr;go_wp2_with fail)
   refine hK.out _ _ (Or.inr ⟨b0.cell 0 rfl,b0.cell 1 rfl,b0.cell 2 rfl,bt.cell 1 rfl⟩) (fun _=>?_);clear hK K;try simp only[oP]
   have aM:w5.cell? ⟨w,0,none⟩=some (.int .i64 r)/\w5.cell? ⟨w,1,none⟩=some (.int .i64 tn)/\w5.cell? ⟨w,2,none⟩=some (.slice A es.length c)/\w5.cell? ⟨w2,1,none⟩=some (.int .i64 tn):=⟨b0.cell 0 rfl,b0.cell 1 rfl,b0.cell 2 rfl,bt.cell 1 rfl⟩
   have aO:=a0.trans aD;clear HE a6 aA;refine tkT 10 rfl aM ?_;try simp only[oP]
   refine rdT 11 rfl (fun K hK=>?_)
   (go_simp)
   refine hK.out _ _ (Or.inl rfl) (fun _=>?_);clear hK K;try simp only[oP]
   refine aAR oK ?_ _;go_wp2_with fail;go_ret;exact⟨rfl,aO⟩
  obtain rfl:b=false:=aAG HB.out fun h=>hts (a5.out.2 h.leaf);have d1:((tn:Int) == (n:Int))=false:=by simpa only[beq_eq_false_iff_ne] using hts
  have d2:¬ tn=n:=fun h=>hts (by rw[h]);have u0:=aAf b0.1 (b0.cell 0 rfl);have u1:=aAf b0.1 (b0.cell 1 rfl);have u2:=aAf b0.1 (b0.cell 2 rfl);have v1:=aAf bt.1 (bt.cell 1 rfl);clear HB a5 hts;refine wqg ?_;repeat
   (with_reducible refine wpQuiet_step (fun K hK=>?_))
   go_simp
   first|(with_reducible refine hK _ ?_)|(rw[if_neg oD];(with_reducible refine hK _ ?_))|(apply Exists.intro;refine⟨fun _=>?_,hK _ ?_⟩;(fail))
   clear hK K
  with_reducible refine wpQuiet_nil ?_
  rintro _ ⟨⟨nq,osq⟩,rfl⟩;go_wp2_with fail;go_ret;exact⟨rfl,a0.trans (Mid.ofWg w3 nq osq)⟩
 obtain rfl:b=false:=aAG HB.out fun h=>hf h.fol;have HF:=oH hf;clear hf HB;go_enter Tryz.func105,Tryz.ntmps105
 go_wp2_with fail;with_reducible refine(aBO r s A es c _ _ _ (hr.mid a0 oZl) hl aC false (iff_of_false Bool.false_ne_true HF.out)).mono ?_
 rintro en w1 ⟨rfl,a7⟩;go_wp2_with fail;go_ret;exact⟨rfl,a0.trans a7⟩
theorem aOY(r s:Int)(A:OA)(es:List Ed)(c:Nat)(w:World)(lo hi:Nat)(hr:RG w lo hi A es)(hl:es.length<=1048576)(b:Bool)(hb:b=true↔IsCor r s es) :
  Calls Tryz.prog 123 #[aAJ r s A es.length c] w fun e w'=>e=.returned (.bool b)/\Mid 0 0 w w':=by
 have HB:=oH hb;clear hb;have a0:Mid 0 0 w (w.alloc (.cells #[r,s,.slice A es.length c] 35)):=oE _ _;have b0:=oJ w #[r,s,.slice A es.length c] 35;by_cases hf:IsFol r s es
 .obtain⟨r,n,rfl,rfl⟩:=hf.gr.nat
  have HF:=oH hf;clear hf;have a3:=fun W h=>aAY r n A es c W lo hi h hl true (oX rfl HF.out);have a4:=fun W h=>aKx r n A es c W lo hi h HF.out.gr;obtain⟨lf,aC⟩:∃ lf,leafI n es=lf:=⟨_,rfl⟩
  have a9:=oH aC;simp only[aC] at a4;clear aC;have a1:=oH a3;have a2:=oH a4;clear a3 a4;by_cases hln:leaf n es=none
  .have a6:lf = -1:=by rw[<- a9.out,aIm hln]
   subst a6;obtain⟨C,hC⟩:∃ C,canonG r ((n:Int),es)=C:=⟨_,rfl⟩
   have aJ:IsGr r C.1 C.2:=by rw[<- hC];exact aFA (g:=((n:Int),es)) HF.out.gr
   have aI:Hid (b=true↔(r:Int)=r/\C.1=n/\C.2=es):=oH (by
    rw[HB.out];constructor
    .intro h
     have h1:=h.canon;rw[hC] at h1;exact⟨rfl,by rw[h1],by rw[h1]⟩
    .rintro⟨-,h1,h2⟩
     exact⟨HF.out,hln,by rw[hC];exact Prod.ext h1 h2⟩)
   have aN:=aJ.len;have a5:=fun W h=>aDS r n A es c W lo hi h HF.out.gr;simp only[hC] at a5;have a8:=oH a5;clear a5 hC aJ HB hln a9;go_enter Tryz.func123,Tryz.ntmps123
   go_wp2_with fail;generalize w.alloc (.cells #[r,n,.slice A es.length c] 35)=w3 at b0 a0 |-;have aG:=Mid.drew1 w3;replace b0:=b0.mid aG oZr;replace a0:=a0.trans aG;obtain⟨p0,p1,p2⟩:=b0.c3 rfl;clear aG;refine aAM (S:=(fun w'=>w'.cell? ⟨w,0,none⟩=some (.int .i64 r)/\w'.cell? ⟨w,1,none⟩=some (.int .i64 n)/\w'.cell? ⟨w,2,none⟩=some (.slice A es.length c))) 13 oK ⟨p0,p1,p2⟩ ?_;generalize World.drew w3=wz at b0 a0 p0 p1 p2 |-;have hS:wz.cell? ⟨w,0,none⟩=some (.int .i64 r)/\wz.cell? ⟨w,1,none⟩=some (.int .i64 n)/\wz.cell? ⟨w,2,none⟩=some (.slice A es.length c):=⟨p0,p1,p2⟩
   refine tkT 0 rfl hS ?_;try simp only[oP]
   refine rdT 1 rfl (fun K hK=>?_)
   (go_simp;refine(a1.out _ (hr.mid a0 oZl)).mono ?_;rintro en w4 ⟨rfl,aD⟩;have b1:=b0.mid aD oZr;go_wp2_with fail)
   refine hK.out _ _ (Or.inr (b1.c3 rfl)) (fun _=>?_);clear hK K;try simp only[oP]
   replace a0:=a0.trans aD;have aB:w4.cell? ⟨w,0,none⟩=some (.int .i64 r)/\w4.cell? ⟨w,1,none⟩=some (.int .i64 n)/\w4.cell? ⟨w,2,none⟩=some (.slice A es.length c):=b1.c3 rfl
   clear b0 hS p0 p1 p2 aD a1;refine tkT 2 rfl aB ?_;try simp only[oP]
   refine tkT 3 rfl aB ?_;try simp only[oP]
   refine rdT 4 rfl (fun K hK=>?_)
   (go_simp;refine(a2.out _ (hr.mid a0 oZl)).mono ?_;rintro en w5 ⟨rfl,aE⟩;have b2:=b1.mid aE oZr;go_wp2_with fail)
   refine hK.out _ _ (Or.inr (b2.c3 rfl)) (fun _=>?_);clear hK K;try simp only[oP]
   replace a0:=a0.trans aE;have a7:w5.cell? ⟨w,0,none⟩=some (.int .i64 r)/\w5.cell? ⟨w,1,none⟩=some (.int .i64 n)/\w5.cell? ⟨w,2,none⟩=some (.slice A es.length c):=b2.c3 rfl
   clear b1 aB aE a2;refine tkT 5 rfl a7 ?_;try simp only[oP]
   refine tkT 6 rfl a7 ?_;try simp only[oP]
   refine tkT 7 rfl a7 ?_;try simp only[oP]
   refine tkT 8 rfl a7 ?_;try simp only[oP]
   refine tkT 10 rfl a7 ?_;try simp only[oP]
   refine rdT 9 rfl (fun K hK=>?_)
   (go_simp;refine(a8.out _ (hr.mid a0 oZl)).mono ?_;rintro en w6 ⟨A6,c6,rfl,aH,aF⟩;have b3:=b2.mid aF oZr;go_wp2_with fail)
   refine hK.out _ _ (Or.inr (b3.c3 rfl)) (fun _=>?_);clear hK K;try simp only[oP]
   replace a0:=a0.trans aF;have hE:=aDp r C.1 A6 C.2 c6 r n A es c w6 _ _ _ _ aH.rg (hr.mid a0 oZl) oO hl b (by have h:=aI.out;simpa using h);have HE:=oH hE;clear a7 b2 a8 aI hE aF;refine rdT 11 rfl (fun K hK=>?_)
   (go_simp;refine HE.out.mono ?_;rintro en w7 ⟨rfl,aK⟩;have b4:=b3.mid aK oZr;go_wp2_with fail)
   refine hK.out _ _ (Or.inr (b4.c3 rfl)) (fun _=>?_);clear hK K;try simp only[oP]
   have aM:w7.cell? ⟨w,0,none⟩=some (.int .i64 r)/\w7.cell? ⟨w,1,none⟩=some (.int .i64 n)/\w7.cell? ⟨w,2,none⟩=some (.slice A es.length c):=b4.c3 rfl
   have aO:=a0.trans aK;clear HE b3;refine tkT 12 rfl aM ?_;try simp only[oP]
   refine rdT 13 rfl (fun K hK=>?_)
   (go_simp)
   refine hK.out _ _ (Or.inl rfl) (fun _=>?_);clear hK K;try simp only[oP]
   refine aAR oK ?_ _;go_wp2_with fail;go_ret;exact⟨rfl,aO⟩
  obtain rfl:b=false:=aAG HB.out fun h=>hln h.leaf;obtain⟨v,hv⟩:∃ v:Nat,leaf n es=some v:=by
   cases h:leaf n es with
  |none=>exact absurd h hln
  |some v=>exact⟨v,rfl⟩
  have a6:lf=v:=by rw[<- a9.out,aGf hv]
  subst a6;have d1:decide ((v:Int)<0)=false:=by simp
  clear HB hln hv a9;go_enter Tryz.func123,Tryz.ntmps123
  go_wp2_with fail;generalize w.alloc (.cells #[r,n,.slice A es.length c] 35)=w3 at b0 a0 |-;have u0:=aAf b0.1 (b0.cell 0 rfl);have u1:=aAf b0.1 (b0.cell 1 rfl);have u2:=aAf b0.1 (b0.cell 2 rfl);have aA:=fun m os=>a1.out (wg w3 m os) (hr.mid (a0.trans (Mid.ofWg w3 m os)) oZl);have aL:=fun m os=>a2.out (wg w3 m os) (hr.mid (a0.trans (Mid.ofWg w3 m os)) oZl);refine wqg ?_;repeat
   (with_reducible refine wpQuiet_step (fun K hK=>?_))
   go_simp
   first|(with_reducible refine hK _ ?_)|(rw[if_neg oD];(with_reducible refine hK _ ?_))|(apply Exists.intro;refine⟨fun _=>?_,hK _ ?_⟩;((first|(go_at_call 126;exact Calls.wg_of (aA _ _))|(go_at_call 196;exact Calls.wg_of (aL _ _)))))
   clear hK K
  with_reducible refine wpQuiet_nil ?_
  rintro _ ⟨⟨nq,osq⟩,rfl⟩;go_wp2_with fail;go_ret;exact⟨rfl,a0.trans (Mid.ofWg w3 nq osq)⟩
 obtain rfl:b=false:=aAG HB.out fun h=>hf h.fol;have a3:=fun W h=>aAY r s A es c W lo hi h hl false (iff_of_false Bool.false_ne_true hf);have a1:=oH a3;clear hf HB a3;go_enter Tryz.func123,Tryz.ntmps123
 go_wp2_with fail;generalize w.alloc (.cells #[r,s,.slice A es.length c] 35)=w3 at b0 a0 |-;have u0:=aAf b0.1 (b0.cell 0 rfl);have u1:=aAf b0.1 (b0.cell 1 rfl);have u2:=aAf b0.1 (b0.cell 2 rfl);have aA:=fun m os=>a1.out (wg w3 m os) (hr.mid (a0.trans (Mid.ofWg w3 m os)) oZl);refine wqg ?_;repeat
  (with_reducible refine wpQuiet_step (fun K hK=>?_))
  go_simp
  first|(with_reducible refine hK _ ?_)|(rw[if_neg oD];(with_reducible refine hK _ ?_))|(apply Exists.intro;refine⟨fun _=>?_,hK _ ?_⟩;((go_at_call 126;exact Calls.wg_of (aA _ _))))
  clear hK K
 with_reducible refine wpQuiet_nil ?_
 rintro _ ⟨⟨nq,osq⟩,rfl⟩;go_wp2_with fail;go_ret;exact⟨rfl,a0.trans (Mid.ofWg w3 nq osq)⟩
theorem aAH(r s:Int)(A:OA)(es:List Ed)(c:Nat)(w:World)(lo hi:Nat)(hr:RG w lo hi A es)(hl:es.length<=1048576)(b:Bool)(hb:b=true↔IsCor r s es) :
  Calls Tryz.prog 45 #[aAJ r s A es.length c] w fun e w'=>e=.returned (.bool b)/\Mid 0 0 w w':=by
 have a0:Mid 0 0 w (w.alloc (.cells #[r,s,.slice A es.length c] 35)):=oE _ _;have HB:=oH hb;clear hb;go_enter Tryz.func45,Tryz.ntmps45
 go_wp2_with fail;with_reducible refine(aOY r s A es c _ _ _ (hr.mid a0 oZl) hl b HB.out).mono ?_
 rintro en w1 ⟨rfl,a1⟩;go_wp2_with fail;go_ret;exact⟨rfl,a0.trans a1⟩
open Classical in
noncomputable def rankI (r s:Int) (es:List Ed):Int:=if IsCor r s es then(es.length:Int) - s+1 else -1
theorem aOA(r s:Int)(A:OA)(es:List Ed)(c:Nat)(w:World)(lo hi:Nat)(hr:RG w lo hi A es)(hl:es.length<=1048576)(a2:es.length<=c) :
  Calls Tryz.prog 19 #[aAJ r s A es.length c] w fun e w'=>e=.returned (.int .i64 (rankI r s es))/\Mid 0 0 w w':=by
 have a0:Mid 0 0 w (w.alloc (.cells #[r,s,.slice A es.length c] 35)):=oE _ _;have b0:=oJ w #[r,s,.slice A es.length c] 35;by_cases h:IsCor r s es
 .have HR:Hid (rankI r s es=(es.length:Int) - s+1):=oH (by rw[rankI,if_pos h])
  have a3:=h.fol.gr.size;have HC:=oH h;clear h;go_enter Tryz.func19,Tryz.ntmps19
  go_wp2_with fail;with_reducible refine(aBl r s A es c _ _ _ (hr.mid a0 oZl) hl a2 true (oX rfl HC.out)).mono ?_
  rintro en w1 ⟨rfl,a1⟩;replace b0:=b0.mid a1 oZr;replace a0:=a0.trans a1;obtain⟨p0,p1,p2⟩:=b0.c3 rfl;go_wp2_with fail;go_ret;exact⟨by rw[HR.out];rfl,a0⟩
 have HR:Hid (rankI r s es = -1):=oH (by rw[rankI,if_neg h]);have HC:=oH h;clear h;go_enter Tryz.func19,Tryz.ntmps19
 go_wp2_with fail;with_reducible refine(aBl r s A es c _ _ _ (hr.mid a0 oZl) hl a2 false (iff_of_false Bool.false_ne_true HC.out)).mono ?_
 rintro en w1 ⟨rfl,a1⟩;go_wp2_with fail;go_ret;exact⟨by rw[HR.out];rfl,a0.trans a1⟩
theorem aPa(r s:Int)(A:OA)(es:List Ed)(c:Nat)(w:World)(lo hi:Nat)(hr:RG w lo hi A es)(hl:es.length<=1048576) :
  Calls Tryz.prog 143 #[aAJ r s A es.length c] w fun e w'=>e=.returned (.int .i64 (rankI r s es))/\Mid 0 0 w w':=by
 have a0:Mid 0 0 w (w.alloc (.cells #[r,s,.slice A es.length c] 35)):=oE _ _;have b0:=oJ w #[r,s,.slice A es.length c] 35;by_cases h:IsCor r s es
 .have HR:Hid (rankI r s es=(es.length:Int) - s+1):=oH (by rw[rankI,if_pos h])
  have a2:=h.fol.gr.size;have HC:=oH h;clear h;go_enter Tryz.func143,Tryz.ntmps143
  go_wp2_with fail;with_reducible refine(aAH r s A es c _ _ _ (hr.mid a0 oZl) hl true (oX rfl HC.out)).mono ?_
  rintro en w1 ⟨rfl,a1⟩;replace b0:=b0.mid a1 oZr;replace a0:=a0.trans a1;obtain⟨p0,p1,p2⟩:=b0.c3 rfl;go_wp2_with fail;go_ret;exact⟨by rw[HR.out];rfl,a0⟩
 have HR:Hid (rankI r s es = -1):=oH (by rw[rankI,if_neg h]);have HC:=oH h;clear h;go_enter Tryz.func143,Tryz.ntmps143
 go_wp2_with fail;with_reducible refine(aAH r s A es c _ _ _ (hr.mid a0 oZl) hl false (iff_of_false Bool.false_ne_true HC.out)).mono ?_
 rintro en w1 ⟨rfl,a1⟩;go_wp2_with fail;go_ret;exact⟨by rw[HR.out];rfl,a0.trans a1⟩
section
open Go.RowKit
theorem aVH:(Tryz.prog.info? 179).map (fun i=>(i.zero,i.size,i.bytes))=some (some (.agg #[(0:Int),(0:Int)]),2,16):=by kernel_rfl
theorem aVN:Tryz.prog.underlying 152=some (.slice 179):=by kernel_rfl
section
variable {W:World} {ops:Array Oper} {rest:List Oper} {o:Oper} {a:Act} {Q:Exit->Act->World->Prop}
theorem aBq(a0:o.guard=none)(s x:Operand)(ho:o.op=.call { callee:=.builtin .append,args:=#[s,x],argTypes:=#[152,152] })(lo:Nat)(A:OA)(n c:Nat)(ps:List (Int × Int))(hs:a.eval s=.slice A n c)(hown:W.ownsRow lo 179 2 (.slice A n c) n (aAe (fdI ps)))(p:Int × Int)(hx:a.eval x=.slice (some ⟨W,0,none⟩) 1 1)(hn:n<=1048576)(hb:lo<=W.heap.size)(h:∀ A' c' w',w'.ownsRow lo 179 2 (.slice A' (n+1) c') (n+1) (aAe (fdI (ps++[p])))->W.grownBy w' (Value.ownBlock (.slice A n c))->(Value.ownBlock (.slice A' (n+1) c')=Value.ownBlock (.slice A n c) \/ Value.ownBlock (.slice A' (n+1) c')=some (W.heap.size+1))->wpList Tryz.prog ops Q rest (a.put o.dst (.slice A' (n+1) c')) w') :
  wpList Tryz.prog ops Q (o::rest) a (W.alloc (.cells #[.int .i64 p.1,.int .i64 p.2] 179)):=by
 refine aAk (news:=[.int .i64 p.1,.int .i64 p.2]) a0 s x 152 ho lo 179 (.agg #[(0:Int),(0:Int)]) 2 16 aVN aVH rfl oD (.slice A n c) n (aAe (fdI ps)) hs hown 1 hx rfl ?_ (by unfold maxLen;omega) oO hb ?_
 .intro u hu
  simp at hu;rcases hu with rfl|rfl <;> rfl
 intro v' w' h1 h2 h3;obtain⟨A',c',rfl, -, -⟩:=aAc h1;refine h A' c' w' ?_ h2 h3;rw[aQt,aAi,aUl];exact h1
end
theorem aQy(r s:Int)(A:OA)(es:List Ed)(c:Nat)(w:World)(lo hi:Nat)(hr:RG w lo hi A es)(hl:es.length<=120)(aj:es.length<=c) :
  Calls Tryz.prog 276 #[aAJ r s A es.length c] w fun e w'=>∃ A1 c1,e=.returned (.slice A1 (aCo es).length c1)/\RV w' 0 w'.heap.size A1 (aAe (fdI (aCo es)))/\Mid 0 0 w w':=by
 have aT:Mid 0 0 w ((w.alloc (.cells #[r,s,.slice A es.length c] 35)).alloc (.cells #[] 179)):=(oE _ _).trans (oE _ _);have b0:=(oJ w #[r,s,.slice A es.length c] 35).mid (oE _ (.cells #[] 179)) oZr;have O0:=aAd (w.alloc (.cells #[r,s,.slice A es.length c] 35)) 179 2;rw[World.size_alloc] at O0;go_enter Tryz.func276,Tryz.ntmps276
 go_wp2_with fail;go_loopw [3,12] (fun out iv wr=>∃(k:Nat) (A1:OA) (n1 c1:Nat),k<=es.length/\iv=.int .i64 k/\out=.slice A1 n1 c1/\Hid ((aAL es k).length=n1)/\wr.ownsRow (w.heap.size+1) 179 2 (.slice A1 n1 c1) n1 (aAe (fdI (aAL es k))) /\
   Box wr w [r,s,.slice A es.length c]/\Mid 0 0 w wr) (fun _ i _=>es.length - (intOf i).toNat)
 case atStart=>exact⟨0,_,0,0,oZ,rfl,rfl,oH rfl,O0,b0,aT⟩
 clear O0 b0 aT;obtain⟨wo,ab⟩:∃ wo,wo=wr:=⟨_,rfl⟩
 subst ab;obtain⟨k,A1,n1,c1,hk,rfl,rfl,HN,a1,b0,hm⟩:=hrel;by_cases hlt:k<es.length
 .obtain⟨B,aX,e,rfl, -,ah,he,e0,e1,e2⟩:=(hr.mid hm oZl).ed hlt
  have HE:=oH he;have am:(0:Int)<=(k:Int):=by omega
  have an:(k:Int)<(es.length:Int):=by omega
  have ao:(k:Int)+1<=(es.length:Int):=by omega
  have aB:=oE wo (.cells #[.int .i64 e.a,.int .i64 e.l,.int .i64 e.b] 110);have ZE:=oJ wo #[.int .i64 e.a,.int .i64 e.l,.int .i64 e.b] 110;have a5:=oH (show Value.ownBlock (.slice A1 n1 c1)≠some wo from fun h=>by have:=(a1.lt _ h).2;omega);have a8:=a1.alloc (.cells #[.int .i64 e.a,.int .i64 e.l,.int .i64 e.b] 110);have b1:=b0.mid aB oZr;have aU:=hm.trans aB;have ae:=b0.1;obtain⟨p0,p1,p2⟩:=b0.c3 rfl;clear he a1;by_cases hck:c=k+1
  focus
   have aW:RG w lo hi (some ⟨B,aX,none⟩) (es.drop (k+1)):=⟨hr.1,fun h=>absurd (show aAe (edI (es.drop (k+1)))=[] by rw[List.drop_of_length_le oO];rfl) h⟩
   have aK:(c=k+1)=True:=eq_true hck
  rotate_left
  focus
   have aW:=hr.drop (k:=k+1);have aK:(c=k+1)=False:=eq_false hck
  rotate_left
  all_goals
   have ai:k+1<=c:=by omega
   clear hck;go_wp2_with fail;clear p0 p1 p2 e0 e1 e2;go_loopw [3,23] (fun out jv wr=>∃(j:Nat) (A2:OA) (n2 c2:Nat),j<=es.length - (k+1)/\jv=.int .i64 j/\out=.slice A2 n2 c2/\Hid ((aAL es k++((es.drop (k+1)).take j).flatMap (aAp e)).length=n2) /\
     wr.ownsRow (w.heap.size+1) 179 2 (.slice A2 n2 c2) n2 (aAe (fdI (aAL es k++((es.drop (k+1)).take j).flatMap (aAp e))))/\Hid (Value.ownBlock (.slice A2 n2 c2)≠some wo) /\
     Box wr w [r,s,.slice (some ⟨B,aX,none⟩) es.length c]/\Box wr wo [.int .i64 e.a,.int .i64 e.l,.int .i64 e.b]/\Mid 0 0 w wr) (fun _ j _=>es.length - (k+1) - (intOf j).toNat)
   case atStart=>exact⟨0,A1,n1,c1,oZ,rfl,rfl,oH (by simpa using HN.out),by simpa using a8,a5,b1,ZE,aU⟩
   clear a8 b1 ZE aU HN a5;obtain⟨j,A2,n2,c2,hj,rfl,rfl,HN,a1,a5,b0,ZE,hm⟩:=hrel;have ap:n2<=40000:=by
    have h1:=aGG es k;have h2:=aJk e ((es.drop (k+1)).take j);have h3:=HN.out;have h4:k * (2 * es.length)<=120 * 240:=Nat.mul_le_mul oO oO;rw[List.length_append] at h3;rw[List.length_take,List.length_drop] at h2;omega
   by_cases hlt2:j<es.length - (k+1)
   .obtain⟨B',ad,f,hX, -,aZ,hf,f0,f1,f2⟩:=(aW.mid hm oZl).ed (k:=j) (by rw[List.length_drop];exact hlt2)
    injection hX with hX
    injection hX with hX1 hX2
    subst hX1 hX2;have HF:=oH (aNa (e:=e) hf);have ak:(0:Int)<=(j:Int):=by omega
    have al:(j:Int)<((es.length - (k+1):Nat):Int):=by omega
    have aB:=oE wr (.cells #[.int .i64 f.a,.int .i64 f.l,.int .i64 f.b] 110);have ZF:=oJ wr #[.int .i64 f.a,.int .i64 f.l,.int .i64 f.b] 110;have ag:wo.heap.size<wr.heap.size:=ZE.1;have af:w.heap.size<wr.heap.size:=b0.1;have aH:=oH (show Value.ownBlock (.slice A2 n2 c2)≠some wr from fun h=>by have:=(a1.lt _ h).2;omega);have a9:=a1.alloc (.cells #[.int .i64 f.a,.int .i64 f.l,.int .i64 f.b] 110);have aJ:=oH (fun(g:Nat) (h:Value.ownBlock (.slice A2 n2 c2)=some g)=>(a1.lt g h).1);replace b0:=b0.mid aB oZr;replace ZE:=ZE.mid aB oZr;replace hm:=hm.trans aB;obtain⟨g0,g1,g2⟩:=ZE.c3 rfl;obtain⟨h0,h1,h2⟩:=ZF.c3 rfl;have HW:=oH a9;have a7:w.heap.size+1<=(wr.alloc (.cells #[.int .i64 f.a,.int .i64 f.l,.int .i64 f.b] 110)).heap.size:=by simp;omega
    clear hf a1 a9;by_cases e1:e.l=f.l
    .have d1:(e.l != f.l)=false:=by simpa using e1
     by_cases e2:e.a=f.a
     .have d2:(e.a == f.a)=true:=by simpa using e2
      by_cases e3:e.b=f.b
      .have d3:(e.b == f.b)=true:=by simpa using e3
       have a4:aAp e f=[(min e.b f.b,max e.b f.b),(min e.a f.a,max e.a f.a)]:=by simp[aAp,e1,e2,e3]
       have a3:Hid (aAL es k++((es.drop (k+1)).take (j+1)).flatMap (aAp e)=(aAL es k++((es.drop (k+1)).take j).flatMap (aAp e))++[(min e.b f.b,max e.b f.b)]++[(min e.a f.a,max e.a f.a)]):=oH (by rw[HF.out,a4];simp);clear e1 e2 e3 a4;go_wp2_with (first|(at_builtin;refine aBq rfl _ _ rfl (w.heap.size+1) A2 n2 c2 _ rfl HW.out (min e.b f.b,max e.b f.b) (by rw[World.size_alloc];rfl) oO a7 ?_;intro A8 c8 w8 aV a6 aE;have aA:=ZE.grown a6 a5.out;have aD:=ZF.grown a6 aH.out;obtain⟨aN,aO,aP⟩:=aA.c3 rfl;obtain⟨aQ,aR,aS⟩:=aD.c3 rfl;have aI:=oH aV;have aL:=oV a7 a6.size;clear aV)|(at_builtin;refine aBq rfl _ _ rfl (w.heap.size+1) A8 (n2+1) c8 _ rfl aI.out (min e.a f.a,max e.a f.a) rfl oO aL ?_;intro A9 c9 w9 aG a0 a2))
       have aa:=oF HW.out a6;have aF:=oF aI.out a0;have aq:wr.heap.size+1<=w8.heap.size:=by have:=a6.size;simpa using this
       have aM:Hid (Value.ownBlock (.slice A8 (n2+1) c8)≠some wo):=oH (by
        rcases aE with h|h
        .rw[h];exact a5.out
        .rw[h]
         intro he;injection he with he
         simp at he;omega)
       have aC:Hid (Value.ownBlock (.slice A9 (n2+1+1) c9)≠some wo):=oH (by
        rcases a2 with h|h
        .rw[h];exact aM.out
        .rw[h]
         intro he;injection he with he
         omega)
       have aY:=oH (fun(g:Nat) (h:Value.ownBlock (.slice A8 (n2+1) c8)=some g)=>(aI.out.lt g h).1);clear a2 aE;go_roundw
       case rel=>exact⟨j+1,A9,n2+1+1,c9,oO,by go_num,rfl,oH (by rw[a3.out,List.length_append,List.length_append,HN.out];rfl),by rw[a3.out];exact aG,aC,(b0.grown a6 (fun h=>by have:=aJ.out _ h;omega)).grown a0 (fun h=>by have:=aY.out _ h;omega),aA.grown a0 aM.out,(hm.transNew aa (Or.inl (Nat.le_succ _))).transNew aF (Or.inl (Nat.le_succ _))⟩
       simp[intOf];omega
      have d3:(e.b == f.b)=false:=by simpa only[beq_eq_false_iff_ne] using e3
      have a4:aAp e f=[(min e.b f.b,max e.b f.b)]:=by simp[aAp,e1,e2,e3]
      have a3:Hid (aAL es k++((es.drop (k+1)).take (j+1)).flatMap (aAp e)=(aAL es k++((es.drop (k+1)).take j).flatMap (aAp e))++[(min e.b f.b,max e.b f.b)]):=oH (by rw[HF.out,a4,List.append_assoc]);clear e1 e2 e3 a4;go_wp2_with (at_builtin;refine aBq rfl _ _ rfl (w.heap.size+1) A2 n2 c2 _ rfl HW.out (min e.b f.b,max e.b f.b) (by rw[World.size_alloc];rfl) oO a7 ?_;intro A9 c9 w9 aG a0 a2;have aA:=ZE.grown a0 a5.out;have aD:=ZF.grown a0 aH.out;obtain⟨aN,aO,aP⟩:=aA.c3 rfl;obtain⟨aQ,aR,aS⟩:=aD.c3 rfl)
      have aF:=oF HW.out a0;have aC:Hid (Value.ownBlock (.slice A9 (n2+1) c9)≠some wo):=oH (by
       rcases a2 with h|h
       .rw[h];exact a5.out
       .rw[h]
        intro he;injection he with he
        simp at he;omega)
      clear a2;go_roundw
      case rel=>exact⟨j+1,A9,n2+1,c9,oO,by go_num,rfl,oH (by rw[a3.out,List.length_append,HN.out];rfl),by rw[a3.out];exact aG,aC,b0.grown a0 (fun h=>by have:=aJ.out _ h;omega),ZE.grown a0 a5.out,hm.transNew aF (Or.inl (Nat.le_succ _))⟩
      simp[intOf];omega
     have d2:(e.a == f.a)=false:=by simpa only[beq_eq_false_iff_ne] using e2
     by_cases e3:e.b=f.b
     .have d3:(e.b == f.b)=true:=by simpa using e3
      have a4:aAp e f=[(min e.a f.a,max e.a f.a)]:=by simp[aAp,e1,e2,e3]
      have a3:Hid (aAL es k++((es.drop (k+1)).take (j+1)).flatMap (aAp e)=(aAL es k++((es.drop (k+1)).take j).flatMap (aAp e))++[(min e.a f.a,max e.a f.a)]):=oH (by rw[HF.out,a4,List.append_assoc]);clear e1 e2 e3 a4;go_wp2_with (at_builtin;refine aBq rfl _ _ rfl (w.heap.size+1) A2 n2 c2 _ rfl HW.out (min e.a f.a,max e.a f.a) (by rw[World.size_alloc];rfl) oO a7 ?_;intro A9 c9 w9 aG a0 a2;have aA:=ZE.grown a0 a5.out;have aD:=ZF.grown a0 aH.out;obtain⟨aN,aO,aP⟩:=aA.c3 rfl;obtain⟨aQ,aR,aS⟩:=aD.c3 rfl)
      have aF:=oF HW.out a0;have aC:Hid (Value.ownBlock (.slice A9 (n2+1) c9)≠some wo):=oH (by
       rcases a2 with h|h
       .rw[h];exact a5.out
       .rw[h]
        intro he;injection he with he
        simp at he;omega)
      clear a2;go_roundw
      case rel=>exact⟨j+1,A9,n2+1,c9,oO,by go_num,rfl,oH (by rw[a3.out,List.length_append,HN.out];rfl),by rw[a3.out];exact aG,aC,b0.grown a0 (fun h=>by have:=aJ.out _ h;omega),ZE.grown a0 a5.out,hm.transNew aF (Or.inl (Nat.le_succ _))⟩
      simp[intOf];omega
     have d3:(e.b == f.b)=false:=by simpa only[beq_eq_false_iff_ne] using e3
     have a4:aAp e f=[]:=by simp[aAp,e1,e2,e3]
     have a3:Hid (((es.drop (k+1)).take (j+1)).flatMap (aAp e)=((es.drop (k+1)).take j).flatMap (aAp e)):=oH (by rw[HF.out,a4,List.append_nil]);clear e1 e2 e3 a4;go_wp2_with fail;go_roundw
     case rel=>exact⟨j+1,A2,n2,c2,oO,by go_num,rfl,by rw[a3.out];exact HN,by rw[a3.out];exact HW.out,a5,b0,ZE,hm⟩
     simp[intOf];omega
    have d1:(e.l != f.l)=true:=by simpa using e1
    have a4:aAp e f=[]:=by unfold aAp;rw[if_neg e1]
    have a3:Hid (((es.drop (k+1)).take (j+1)).flatMap (aAp e)=((es.drop (k+1)).take j).flatMap (aAp e)):=oH (by rw[HF.out,a4,List.append_nil]);clear e1 a4;go_wp2_with fail;go_roundw
    case rel=>exact⟨j+1,A2,n2,c2,oO,by go_num,rfl,by rw[a3.out];exact HN,by rw[a3.out];exact HW.out,a5,b0,ZE,hm⟩
    simp[intOf];omega
   obtain rfl:j=es.length - (k+1):=by omega
   rw[List.take_of_length_le (by rw[List.length_drop];exact oN),<- aII HE.out] at HN a1;go_wp2_with fail;go_roundw
   case rel=>exact⟨k+1,A2,n2,c2,oO,by go_num,rfl,HN,a1,b0,hm⟩
   simp[intOf];omega
 obtain rfl:k=es.length:=by omega
 rw[aGF] at HN a1;have hx:=HN.out;go_wp2_with fail;go_ret;exact⟨A1,c1,by rw[hx];rfl,(aAz a1).wide oZ oN oN,hm⟩
end
section
open Go.RowKit
attribute [local go_sem ↓] Go.wp_at_zero Go.wp_at_succ
def aOh(es:List Ed)(p:Int × Int)(b:Bool):Prop:=(b=false/\aCo es=[]/\p=(0,0)) \/ (b=true/\∃ t,aCo es=p::t)
theorem aKF(r s:Int)(A:OA)(es:List Ed)(c:Nat)(w:World)(lo hi:Nat)(hr:RG w lo hi A es)(a5:es.length<=c)(hg:IsGr r s es)(p:Int × Int)(b:Bool)(hp:aOh es p b) :
  Calls Tryz.prog 259 #[aAJ r s A es.length c] w fun e w'=>e=.returned (.tuple #[.agg #[.int .i64 p.1,.int .i64 p.2],.bool b])/\Mid 0 0 w w':=by
 have hl:=hg.len;have HG:=oH hg;have a0:Mid 0 0 w ((w.alloc (.cells #[r,s,.slice A es.length c] 35)).alloc (.cells #[(0:Int),(0:Int)] 179)):=(oE _ _).trans (oE _ _);have b0:=(oJ w #[r,s,.slice A es.length c] 35).mid (oE _ (.cells #[(0:Int),(0:Int)] 179)) oZr;have b2:=oJ (w.alloc (.cells #[r,s,.slice A es.length c] 35)) #[(0:Int),(0:Int)] 179;rw[World.size_alloc] at b2;clear hg;obtain⟨p1,p2⟩:=p;go_enter Tryz.func259,Tryz.ntmps259
 go_wp2_with fail;with_reducible refine(aDh r s A es c _ _ _ (hr.mid a0 oZl).rv oO true (oX rfl HG.out)).mono ?_
 rintro en w1 ⟨rfl,a1⟩;replace b0:=b0.mid a1 oZr;replace b2:=b2.mid a1 oZr;replace a0:=a0.trans a1;obtain⟨q0,q1,q2⟩:=b0.c3 rfl;go_wp2_with fail;with_reducible refine(aQy r s A es c _ _ _ (hr.mid a0 oZl) hl a5).mono ?_
 rintro en w2 ⟨A2,c2,rfl,a4,a2⟩;replace b2:=b2.mid a2 oZr;replace a0:=a0.trans a2;have zf:=b2.2.2;have z0:=b2.cell 0 rfl;have z1:=b2.cell 1 rfl;clear q0 q1 q2 a1 a2;rcases hp with⟨rfl,hn,hpp⟩|⟨rfl,t,ht⟩
 .injection hpp with h1 h2
  subst h1 h2;have a6:(aCo es).length=0:=by rw[hn];rfl
  clear hn;go_wp2_with fail;refine oW (v:=.tuple #[.agg #[(0:Int),(0:Int)],.bool false]) (by simp[results,Tryz.results259,go_sem,z0,z1,zf]) rfl ⟨rfl,?_⟩;repeat (first|exact a0|refine oQ ?_ (by simp;try omega) _)
 obtain⟨nl,a3⟩:∃ nl,(aCo es).length=nl+1:=⟨t.length,by rw[ht];rfl⟩
 obtain⟨g,a7,rfl, -, -,hc⟩:=a4.2 (by rw[ht];simp[aGd,aAe]);have y0:=hc 0 p1 (by rw[ht];simp[aGd,aAe]);have y1:=hc 1 p2 (by rw[ht];simp[aGd,aAe]);rw[Nat.add_zero] at y0;have hd:((nl+1:Nat) == 0)=false:=by simp
 rw[a3];have h1:(0:Int)<((nl+1:Nat):Int):=by omega
 clear hc ht a4 a3;go_wp2_with fail;refine oW (v:=.tuple #[.agg #[p1,p2],.bool true]) (by simp[results,Tryz.results259,go_sem,z0,z1,zf]) rfl ⟨rfl,?_⟩;repeat (first|exact a0|refine oQ ?_ (by simp;try omega) _)
theorem aLf(B:Nat)(p1 p2 v:Int)(w:World)(hc:w.cell? ⟨B,0,none⟩=some (.int .i64 p1))(a0:w.cell? ⟨B,1,none⟩=some (.int .i64 p2))(h3:0<=v)(h4:v<40) :
  Calls Tryz.prog 277 #[v,.pointer (some ⟨B,0,none⟩)] w fun e w'=>e=.returned (.int .i64 (aBZ (p1,p2) v))/\w'=w:=by
 by_cases h0:v=p2
 .have hv:aBZ (p1,p2) v=p1:=by simp[aBZ,h0]
  have hb:(v == p2)=true:=by simpa using h0
  rw[hv];clear hv h0;go_enter Tryz.func277,Tryz.ntmps277
  go_wp2_with fail;go_ret;exact⟨rfl,rfl⟩
 have hb:(v == p2)=false:=by simpa only[beq_eq_false_iff_ne] using h0
 by_cases h1:p2<v
 .have hv:aBZ (p1,p2) v=v - 1:=by simp[aBZ,h0,h1]
  have hd:decide (p2<v)=true:=by simpa using h1
  rw[hv];clear hv h0;go_enter Tryz.func277,Tryz.ntmps277
  go_wp2_with fail;go_ret;exact⟨rfl,rfl⟩
 have hv:aBZ (p1,p2) v=v:=by simp[aBZ,h0,h1]
 have hd:decide (p2<v)=false:=by simpa using h1
 rw[hv];clear hv h0;go_enter Tryz.func277,Tryz.ntmps277
 go_wp2_with fail;go_ret;exact⟨rfl,rfl⟩
end
section
open Go.RowKit
attribute [local go_sem ↓] Go.wp_at_zero Go.wp_at_succ
theorem aTm{es:List Ed}{f:Ed->Ed}{k:Nat}{e:Ed}(h:es[k]?=some e):((es.take k).map f++es.drop k).set k (f e)=(es.take (k+1)).map f++es.drop (k+1):=by
 obtain⟨hk,h'⟩:=List.getElem?_eq_some_iff.1 h;have hl:((es.take k).map f).length=k:=by rw[List.length_map,List.length_take];omega
 rw[List.drop_eq_getElem_cons hk,h',List.set_append_right _ _ oO,hl,Nat.sub_self,List.set_cons_zero,aBh h,List.map_append];simp
theorem aTl{es:List Ed}{f:Ed->Ed}{k:Nat}{e:Ed}(h:es[k]?=some e):((es.take k).map f++es.drop k)[k]?=some e:=by
 obtain⟨hk,h'⟩:=List.getElem?_eq_some_iff.1 h;have hl:((es.take k).map f).length=k:=by rw[List.length_map,List.length_take];omega
 rw[List.getElem?_append_right oO,hl,Nat.sub_self,List.getElem?_drop,Nat.add_zero,h]
theorem aHw(r s:Int)(A:OA)(es:List Ed)(c:Nat)(p1 p2:Int)(w:World)(lo hi:Nat)(hr:RG w lo hi A es)(hg:IsGr r s es)(h0:0<=p1)(h1:p1<p2)(h2:p2<s) :
  Calls Tryz.prog 260 #[aAJ r s A es.length c,.agg #[.int .i64 p1,.int .i64 p2]] w fun e w'=>∃ A1 c1,e=.returned (.tuple #[aAJ r (s - 1) A1 (aCu (p1,p2) es).length c1,.bool true])/\OG w' w.heap.size w'.heap.size A1 c1 (aCu (p1,p2) es)/\Mid 0 0 w w':=by
 have hl:=hg.len;have ae:=hg.size;have HG:=oH hg;have a6:Mid 0 0 w (((w.alloc (.cells #[r,s,.slice A es.length c] 35)).alloc (.cells #[p1,p2] 179)).alloc (.cells #[(0:Int),(0:Int),.slice none 0 0] 35)):=((oE _ _).trans (oE _ _)).trans (oE _ _);have b0:=((oJ w #[r,s,.slice A es.length c] 35).mid (oE _ (.cells #[p1,p2] 179)) oZr).mid (oE _ (.cells #[(0:Int),(0:Int),.slice none 0 0] 35)) oZr;have bf:=(oJ (w.alloc (.cells #[r,s,.slice A es.length c] 35)) #[p1,p2] 179).mid (oE _ (.cells #[(0:Int),(0:Int),.slice none 0 0] 35)) oZr;have b2:=oJ ((w.alloc (.cells #[r,s,.slice A es.length c] 35)).alloc (.cells #[p1,p2] 179)) #[(0:Int),(0:Int),.slice none 0 0] 35;simp only[World.size_alloc,Nat.add_assoc,Nat.reduceAdd] at bf b2;have d1:decide (p1<0)=false:=by simp;omega
 have d2:decide (p2<=p1)=false:=by simp;omega
 have d3:decide (s<=p2)=false:=by simp;omega
 clear hg;go_enter Tryz.func260,Tryz.ntmps260
 go_wp2_with fail;generalize hw1:(((w.alloc (.cells #[r,s,.slice A es.length c] 35)).alloc (.cells #[p1,p2] 179)).alloc (.cells #[(0:Int),(0:Int),.slice none 0 0] 35))=w1 at a6 b0 bf b2 |-;clear hw1;with_reducible refine(aBH r s A es c _ _ _ (hr.mid a6 oZl) oO).mono ?_
 rintro en w2 ⟨A1,c1,rfl,ho,aA⟩;have aO:w.heap.size+2<w1.heap.size:=b2.1;replace b0:=b0.mid aA oZr;replace bf:=bf.mid aA oZr;replace b2:=b2.mid aA oZr;replace a6:=a6.trans aA;have aC:=aA.size;have a4:=aAh (base':=w.heap.size+3) ho.ov.2.1 aO;have a7:Value.ownBlock (.slice A1 es.length c1)≠some w2.heap.size:=fun h=>by have:=ho.ov.2.2 _ h;omega
 have a5:=oE w2 (.cells #[r,s,.slice A1 es.length c1] 35);have Y3:=oJ w2 #[r,s,.slice A1 es.length c1] 35;have aB:=b0.1;obtain⟨u0,u1,u2⟩:=b0.c3 rfl;replace b0:=b0.mid a5 oZr;replace bf:=bf.mid a5 oZr;replace b2:=b2.mid a5 oZr;replace a4:=aAb a4 a5 oZl;replace a6:=a6.trans a5;go_wp2_with fail;clear u0 u1 u2;generalize hw3:w2.alloc (.cells #[r,s,.slice A1 es.length c1] 35)=w3 at Y3 b0 bf b2 a4 a6 |-;have aP:w3.heap.size=w2.heap.size+1:=by rw[<- hw3];simp
 obtain⟨G,hG⟩:∃ G,w2.heap.size=G:=⟨_,rfl⟩
 rw[hG] at Y3 a7 aC aB aP |-;clear hw3 a5 aA ho hG;with_reducible refine(aDh r s A es c _ _ _ (hr.mid a6 oZl).rv oO true (oX rfl HG.out)).mono ?_
 rintro en w4 ⟨rfl,a8⟩;replace b0:=b0.mid a8 oZr;replace bf:=bf.mid a8 oZr;replace b2:=b2.mid a8 oZr;replace Y3:=Y3.mid a8 oZr;replace a4:=aAb a4 a8 oZl;replace a6:=a6.trans a8;have ah:w.heap.size+3<=G:=by omega
 clear a8 aP aC aO aB;obtain⟨q0,q1,q2⟩:=b0.c3 rfl;have k0:=bf.cell 0 rfl;have k1:=bf.cell 1 rfl;obtain⟨y0,y1,y2⟩:=Y3.c3 rfl;go_wp2_with fail;clear q0 q1 q2 k0 k1 y0 y1 y2;have aQ:=oH a7;clear a7 b0;go_loopw [39] (fun i wr=>∃ k:Nat,k<=es.length/\i=.int .i64 k/\wr.ownsRow (w.heap.size+3) 110 3 (.slice A1 es.length c1) es.length (aAe (edI ((es.take k).map (aEw (p1,p2))++es.drop k))) /\
   Box wr (w.heap.size+1) [p1,p2]/\Box wr (w.heap.size+2) [(0:Int),(0:Int),.slice none 0 0]/\Box wr G [r,s,.slice A1 es.length c1]/\Mid 0 0 w wr) (fun i _=>es.length - (intOf i).toNat)
 case atStart=>exact⟨0,oZ,rfl,by simpa using a4,bf,b2,Y3,a6⟩
 clear a4 bf b2 Y3 a6;obtain⟨k,hk,rfl,a3,bf,b2,Y3,hm⟩:=hrel;by_cases hlt:k<es.length
 .obtain⟨g,rfl,ai,aa⟩:=aAS a3 oO
  obtain⟨e,he⟩:=aAy es hlt;have aL:=aTl (f:=aEw (p1,p2)) he;obtain⟨e0,e1,e2⟩:=aGP a3 aL;have ab:=HG.out.all e (oG he);obtain⟨i1,i2,i3,i4,i5,i6⟩:=ab;have HE:=oH he;have aj:g≠G:=fun h=>aQ.out (by rw[h];rfl);have ak:(0:Int)<=(k:Int):=by omega
  have al:(k:Int)<(es.length:Int):=by omega
  have a5:=oE wr (.cells #[.int .i64 e.a,.int .i64 e.l,.int .i64 e.b] 110);have ZE:=oJ wr #[.int .i64 e.a,.int .i64 e.l,.int .i64 e.b] 110;have aG:G<wr.heap.size:=Y3.1;replace bf:=bf.mid a5 oZr;replace b2:=b2.mid a5 oZr;replace Y3:=Y3.mid a5 oZr;replace a3:=aAb a3 a5 oZl;replace hm:=hm.trans a5;clear he;go_wp2_with fail;clear e0 e1 e2;generalize hwx:wr.alloc (.cells #[.int .i64 e.a,.int .i64 e.l,.int .i64 e.b] 110)=wx at ZE bf b2 Y3 a3 hm |-;generalize hgE:wr.heap.size=E at ZE aa aG |-;clear hgE hwx a5;have a9:=Mid.drew1 wx;replace bf:=bf.mid a9 oZr;replace b2:=b2.mid a9 oZr;replace Y3:=Y3.mid a9 oZr;replace ZE:=ZE.mid a9 oZr;replace a3:=aAb a3 a9 oZl;replace hm:=hm.trans a9;obtain⟨aS,aT,aU⟩:=aGP a3 aL;have aZ:=fun i=>a3.frozenAt i;obtain⟨f0,f1,f2⟩:=ZE.c3 rfl;have g2:=Y3.cell 2 rfl;have k0:=bf.cell 0 rfl;have k1:=bf.cell 1 rfl;obtain⟨x,hx⟩:∃ x,aBZ (p1,p2) e.a=x:=⟨_,rfl⟩
  obtain⟨y,hy⟩:∃ y,aBZ (p1,p2) e.b=y:=⟨_,rfl⟩
  have aV:Hid (aEw (p1,p2) e=⟨x,e.l,y⟩):=oH (by simp[aEw,hx,hy]);have aD:=aLf (w.heap.size+1) p1 p2 e.a _ k0 k1 i1 oO;have aE:=aLf (w.heap.size+1) p1 p2 e.b _ k0 k1 i3 oO;rw[hx] at aD;rw[hy] at aE;clear hx hy a9;refine aAM (S:=(fun w'=>w'.cell? ⟨E,0,none⟩=some (.int .i64 e.a)/\w'.cell? ⟨E,1,none⟩=some (.int .i64 e.l)/\w'.cell? ⟨E,2,none⟩=some (.int .i64 e.b)/\w'.cell? ⟨G,2,none⟩=some (.slice (some ⟨g,0,none⟩) es.length c1))) 15 oK ⟨f0,f1,f2,g2⟩ ?_;generalize World.drew wx=wz at bf b2 Y3 ZE a3 hm f0 f1 f2 g2 k0 k1 aD aE aS aT aU aZ |-;have hS:wz.cell? ⟨E,0,none⟩=some (.int .i64 e.a)/\wz.cell? ⟨E,1,none⟩=some (.int .i64 e.l)/\wz.cell? ⟨E,2,none⟩=some (.int .i64 e.b)/\wz.cell? ⟨G,2,none⟩=some (.slice (some ⟨g,0,none⟩) es.length c1):=⟨f0,f1,f2,g2⟩
  refine tkT 0 rfl hS ?_;try simp only[oP]
  refine tkT 1 rfl hS ?_;try simp only[oP]
  refine tkT 2 rfl hS ?_;try simp only[oP]
  refine tkT 3 rfl hS ?_;try simp only[oP]
  refine tkT 4 rfl hS ?_;try simp only[oP]
  refine tkT 5 rfl hS ?_;try simp only[oP]
  refine tkT 7 rfl hS ?_;try simp only[oP]
  refine tkT 8 rfl hS ?_;try simp only[oP]
  refine tkT 9 rfl hS ?_;try simp only[oP]
  refine tkT 10 rfl hS ?_;try simp only[oP]
  refine tkT 11 rfl hS ?_;try simp only[oP]
  refine rdT 6 rfl (fun K hK=>?_)
  (go_simp;refine aD.mono ?_;rintro _ w' ⟨rfl,h⟩;obtain rfl:=h.symm;go_wp2_with fail)
  refine hK.out _ _ (Or.inr hS) (fun _=>?_);clear hK K;try simp only[oP]
  refine rdT 12 rfl (fun K hK=>?_)
  (go_simp;refine aE.mono ?_;rintro _ w' ⟨rfl,h⟩;obtain rfl:=h.symm;go_wp2_with fail)
  refine hK.out _ _ (Or.inr hS) (fun _=>?_);clear hK K;try simp only[oP]
  refine tkT 13 rfl hS ?_;try simp only[oP]
  refine tkT 14 rfl hS ?_;try simp only[oP]
  clear aD aE;refine rdT 15 rfl (fun K hK=>?_)
  (go_simp)
  refine hK.out _ _ (Or.inl rfl) (fun _=>?_);clear hK K;try simp only[oP]
  refine aAR oK ?_ _;go_wp2_with fail;go_roundw
  case rel=>
   have h1:=aNA a3 (k:=k) (aEw (p1,p2) e) (by rw[List.length_append,List.length_map,List.length_take,List.length_drop];omega);rw[aTm HE.out,aV.out] at h1;have aI:=(oU wz g (k * 3) x).trans ((oU (wz.setCell ⟨g,k * 3,none⟩ x) g (k * 3+1) (.int .i64 e.l)).trans (oU ((wz.setCell ⟨g,k * 3,none⟩ x).setCell ⟨g,k * 3+1,none⟩ (.int .i64 e.l)) g (k * 3+2) y));exact⟨k+1,oO,by go_num,h1,bf.mid aI,b2.mid aI,Y3.mid aI oO,((hm.storeNew (by show w.heap.size<=g;omega) _).storeNew (by show w.heap.size<=g;omega) _).storeNew (by show w.heap.size<=g;omega) _⟩
  simp[intOf];omega
 obtain rfl:k=es.length:=by omega
 rw[List.take_length,List.drop_length,List.append_nil] at a3;have aM:(es.map (aEw (p1,p2))).length=es.length:=List.length_map _;have ad:RG wr (w.heap.size+3) wr.heap.size A1 (es.map (aEw (p1,p2))):=aAz a3;have aG:G<wr.heap.size:=Y3.1;have aW:=b2.1;have z2:=Y3.cell 2 rfl;have aR:=oH aM;clear aM;go_wp2_with fail;with_reducible refine(aCE A1 (es.map (aEw (p1,p2))) es.length c1 _ _ _ aR.out ad oO).mono ?_
 rintro en w6 ⟨A4,c4,rfl,aN,aF⟩;replace b2:=b2.mid aF oZr;replace Y3:=Y3.mid aF oZr;replace hm:=hm.trans aF;have ag:=aF.size;clear z2;obtain⟨a0,a1,a2⟩:=b2.c3 rfl;obtain⟨x0,x1,x2⟩:=Y3.c3 rfl;have af:=b2.2.2;have xf:=Y3.2.2;have aK:¬ w.heap.size+2=G:=by omega
 have aX:¬ G=w.heap.size+2:=by omega
 obtain⟨ms,aH⟩:∃ ms,canon (es.map (aEw (p1,p2)))=ms:=⟨_,rfl⟩
 rw[aH] at aN |-;have aJ:=oH (show aCu (p1,p2) es=ms from aH);clear aH;go_wp2_with fail;have aY:(w.heap.size+2 == G)=false:=by simpa using aK
 refine oW (v:=.tuple #[.agg #[r,.int .i64 (s - 1),.slice A4 ms.length c4],.bool true]) (by simp[results,Tryz.results260,go_sem,a0,a1,a2,x0,x1,x2,af,xf,aK]) rfl ⟨A4,c4,by rw[aJ.out],?_,?_⟩
 .rw[aJ.out]
  refine OG.wide (OG.mid aN (a:=w.heap.size) (b:=G+1) ?_ (Or.inl aG)) oO oM oN;repeat (first|exact Mid.refl _ _ _|refine Mid.stored ?_ _ (by simp;try omega) (by simp;try omega))
 repeat (first|exact hm|refine oQ ?_ (by simp;try omega) _)
end
def OnceIs(s:Int)(es:List Ed)(p:Int × Int)(b:Bool)(rs:Int)(res:List Ed):Prop:=
 (b=false/\aCo es=[]/\p=(0,0)/\rs=s/\res=es) \/ (b=true/\(∃ t,aCo es=p::t)/\rs=s - 1/\res=aCu p es)
theorem OnceIs.first{s:Int}{es:List Ed}{p:Int × Int}{b:Bool}{rs:Int}{res:List Ed}(h:OnceIs s es p b rs res):aOh es p b:=by
 rcases h with⟨h1,h2,h3, -⟩|⟨h1,h2, -⟩
 .exact .inl ⟨h1,h2,h3⟩
 exact .inr ⟨h1,h2⟩
theorem OnceIs.ex(s:Int)(es:List Ed):∃ p b rs res,OnceIs s es p b rs res:=by
 cases h:aCo es with
|nil=>exact⟨(0,0),false,s,es,.inl ⟨rfl,h,rfl,rfl,rfl⟩⟩
|cons p t=>exact⟨p,true,s - 1,aCu p es,.inr ⟨rfl,⟨t,h⟩,rfl,rfl⟩⟩
theorem aLU(r s:Int)(A:OA)(es:List Ed)(c:Nat)(w:World)(lo hi:Nat)(hr:RG w lo hi A es)(aG:es.length<=c)(hg:IsGr r s es)(p:Int × Int)(b:Bool)(rs:Int)(a7:List Ed)(hp:OnceIs s es p b rs a7) :
  Calls Tryz.prog 240 #[aAJ r s A es.length c] w fun e w'=>∃ A1 c1,e=.returned (.tuple #[aAJ r rs A1 a7.length c1,.agg #[.int .i64 p.1,.int .i64 p.2],.bool b])/\OG w' w.heap.size w'.heap.size A1 c1 a7/\Mid 0 0 w w':=by
 have hl:=hg.len;have HG:=oH hg;have a3:Mid 0 0 w (((w.alloc (.cells #[r,s,.slice A es.length c] 35)).alloc (.cells #[(0:Int),(0:Int),.slice none 0 0] 35)).alloc (.cells #[(0:Int),(0:Int)] 179)):=((oE _ _).trans (oE _ _)).trans (oE _ _);have b0:=((oJ w #[r,s,.slice A es.length c] 35).mid (oE _ (.cells #[(0:Int),(0:Int),.slice none 0 0] 35)) oZr).mid (oE _ (.cells #[(0:Int),(0:Int)] 179)) oZr;have b2:=(oJ (w.alloc (.cells #[r,s,.slice A es.length c] 35)) #[(0:Int),(0:Int),.slice none 0 0] 35).mid (oE _ (.cells #[(0:Int),(0:Int)] 179)) oZr;have b3:=oJ ((w.alloc (.cells #[r,s,.slice A es.length c] 35)).alloc (.cells #[(0:Int),(0:Int),.slice none 0 0] 35)) #[(0:Int),(0:Int)] 179;simp only[World.size_alloc,Nat.add_assoc,Nat.reduceAdd] at b2 b3;have hF:=hp.first
 have HF:=oH hF;clear hg hF;obtain⟨p1,p2⟩:=p;go_enter Tryz.func240,Tryz.ntmps240
 go_wp2_with fail;generalize hw1:(((w.alloc (.cells #[r,s,.slice A es.length c] 35)).alloc (.cells #[(0:Int),(0:Int),.slice none 0 0] 35)).alloc (.cells #[(0:Int),(0:Int)] 179))=w1 at a3 b0 b2 b3 |-;clear hw1;with_reducible refine(aKF r s A es c _ _ _ (hr.mid a3 oZl) aG HG.out (p1,p2) b HF.out).mono ?_
 rintro en w2 ⟨rfl,a9⟩;replace b0:=b0.mid a9 oZr;replace b2:=b2.mid a9 oZr;replace b3:=b3.mid a9 oZr;replace a3:=a3.trans a9;have aB:=b0.1;have aC:=b2.1;have aD:=b3.1;obtain⟨u0,u1,u2⟩:=b0.c3 rfl;have a8:=oE w2 (.cells #[p1,p2] 179);have bf:=oJ w2 #[p1,p2] 179;replace b0:=b0.mid a8 oZr;replace b2:=b2.mid a8 oZr;replace b3:=b3.mid a8 oZr;replace a3:=a3.trans a8;clear a9;rcases hp with⟨rfl,hn,hpp,rfl,rfl⟩|⟨rfl,⟨t,ht⟩,rfl,hres⟩
 .injection hpp with h1 h2
  subst h1 h2;clear hn;go_wp2_with fail;clear u0 u1 u2;generalize hw3:w2.alloc (.cells #[(0:Int),(0:Int)] 179)=w3 at b0 b2 b3 bf a3 |-;clear hw3 a8;with_reducible refine(aBH r rs A a7 c _ _ _ (hr.mid a3 oZl) oO).mono ?_
  rintro en w4 ⟨A4,c4,rfl,a6,a5⟩;have aF:w.heap.size+3<=w3.heap.size:=b3.1;replace b2:=b2.mid a5 oZr;replace b3:=b3.mid a5 oZr;replace a3:=a3.trans a5;obtain⟨a0,a1,a2⟩:=b2.c3 rfl;have x0:=b3.cell 0 rfl;have x1:=b3.cell 1 rfl;have af:=b2.2.2;have xf:=b3.2.2;go_wp2_with fail;refine oW (v:=.tuple #[.agg #[r,rs,.slice A4 a7.length c4],.agg #[(0:Int),(0:Int)],.bool false]) (by simp[results,Tryz.results240,go_sem,a0,a1,a2,x0,x1,af,xf]) rfl ⟨A4,c4,rfl,?_,?_⟩
  .refine OG.wide (OG.mid a6 (a:=w.heap.size+1) (b:=w.heap.size+3) ?_ oL) oO oM oN
   repeat (first|exact Mid.refl _ _ _|refine Mid.stored ?_ _ (by simp;try omega) (by simp;try omega))
  repeat (first|exact a3|refine oQ ?_ (by simp;try omega) _)
 obtain⟨k1,k2,k3⟩:=aDL HG.out.all HG.out.asc (p:=(p1,p2)) (by rw[ht];simp);simp only at k1 k2 k3;have aA:=oH hres;clear ht hres;have y0:=bf.cell 0 rfl;have y1:=bf.cell 1 rfl;go_wp2_with fail;clear u0 u1 u2 y0 y1;generalize hw3:w2.alloc (.cells #[p1,p2] 179)=w3 at b0 b2 b3 bf a3 |-;have aF:w3.heap.size=w2.heap.size+1:=by rw[<- hw3];simp
 clear hw3 a8;obtain⟨F,hF⟩:∃ F,w2.heap.size=F:=⟨_,rfl⟩
 rw[hF] at bf aF aB aC aD |-;clear hF;with_reducible refine(aHw r s A es c p1 p2 _ _ _ (hr.mid a3 oZl) HG.out k1 k2 k3).mono ?_
 rintro en w4 ⟨A4,c4,rfl,a6,a5⟩;rw[<- aA.out] at a6 |-;have aE:=a5.size;replace b2:=b2.mid a5 oZr;replace b3:=b3.mid a5 oZr;replace bf:=bf.mid a5 oZr;replace a3:=a3.trans a5;have a4:=oE w4 (.cells #[r,.int .i64 (s - 1),.slice A4 a7.length c4] 35);have bg:=oJ w4 #[r,.int .i64 (s - 1),.slice A4 a7.length c4] 35;replace b2:=b2.mid a4 oZr;replace b3:=b3.mid a4 oZr;replace bf:=bf.mid a4 oZr;replace a6:=a6.mid a4 oZl;replace a3:=a3.trans a4;go_wp2_with fail;generalize hw5:w4.alloc (.cells #[r,.int .i64 (s - 1),.slice A4 a7.length c4] 35)=w5 at b2 b3 bf bg a6 a3 |-;have aH:w5.heap.size=w4.heap.size+1:=by rw[<- hw5];simp
 clear hw5 a4;obtain⟨H,hH⟩:∃ H,w4.heap.size=H:=⟨_,rfl⟩
 rw[hH] at bg aE aH a6 |-;clear hH;obtain⟨a0,a1,a2⟩:=b2.c3 rfl;have x0:=b3.cell 0 rfl;have x1:=b3.cell 1 rfl;have y0:=bf.cell 0 rfl;have y1:=bf.cell 1 rfl;obtain⟨z0,z1,z2⟩:=bg.c3 rfl;have af:=b2.2.2;have xf:=b3.2.2;have n1:¬ w.heap.size+1=H:=by omega
 have n2:¬ w.heap.size+2=H:=by omega
 have n3:¬ w.heap.size+1=F:=by omega
 have n4:¬ w.heap.size+2=F:=by omega
 have n5:¬ F=H:=by omega
 go_region
 go_wp2_with fail;refine oW (v:=.tuple #[.agg #[r,.int .i64 (s - 1),.slice A4 a7.length c4],.agg #[p1,p2],.bool true]) (by simp[results,Tryz.results240,go_sem,a0,a1,a2,x0,x1,af,xf]) rfl ⟨A4,c4,rfl,?_,?_⟩
 .refine OG.wide (OG.mid a6 (a:=w.heap.size+1) (b:=w.heap.size+3) ?_ oL) oO (by have:=a6.size;simp;omega) oN
  refine Mid.trans ?_ (Mid.drew1 _).zero;repeat (first|exact Mid.refl _ _ _|refine Mid.stored ?_ _ (by simp;try omega) (by simp;try omega))
 refine Mid.trans ?_ (Mid.drew1 _);repeat (first|exact a3|refine oQ ?_ (by simp;try omega) _)
theorem aNl(r:Int)(n:Nat)(A:OA)(es:List Ed)(c:Nat)(w:World)(lo hi:Nat)(hr:RG w lo hi A es)(hg:IsGr r n es) :
  Calls Tryz.prog 195 #[aAJ r n A es.length c] w fun e w'=>∃ A1 c1 Al nl cl,e=.returned (.tuple #[aAJ r (aDg 40 ((n:Int),es)).1 A1 (aDg 40 ((n:Int),es)).2.length c1,.slice Al nl cl])/\OG w' w.heap.size w'.heap.size A1 c1 (aDg 40 ((n:Int),es)).2/\Mid 0 0 w w':=by
 have aW:n<=40:=by have:=hg.size;omega
 have hl:=hg.len;have a9:Mid 0 0 w ((w.alloc (.cells #[r,n,.slice A es.length c] 35)).alloc (.cells #[(0:Int),(0:Int),.slice none 0 0] 35)):=(oE _ _).trans (oE _ _);have b0:=(oJ w #[r,n,.slice A es.length c] 35).mid (oE _ (.cells #[(0:Int),(0:Int),.slice none 0 0] 35)) oZr;have b2:=oJ (w.alloc (.cells #[r,n,.slice A es.length c] 35)) #[(0:Int),(0:Int),.slice none 0 0] 35;simp only[World.size_alloc] at b2;have HG:=oH hg;obtain⟨T,hT⟩:∃ T,aDg 40 ((n:Int),es)=T:=⟨_,rfl⟩
 rw[hT];have HT:=oH hT;clear hg hT;go_enter Tryz.func195,Tryz.ntmps195
 go_wp2_with fail;generalize hw1:((w.alloc (.cells #[r,n,.slice A es.length c] 35)).alloc (.cells #[(0:Int),(0:Int),.slice none 0 0] 35))=w1 at a9 b0 b2 |-;clear hw1;with_reducible refine(aBH r n A es c _ _ _ (hr.mid a9 oZl) oO).mono ?_
 rintro en w2 ⟨A1,c1,rfl,ho,aM⟩;have ae:w.heap.size+1<w1.heap.size:=b2.1;replace b2:=b2.mid aM oZr;replace a9:=a9.trans aM;have aK:=aM.size;have a5:=aAh (base':=w.heap.size+2) ho.ov.2.1 ae;have aD:Value.ownBlock (.slice A1 es.length c1)≠some w2.heap.size:=fun h=>by have:=ho.ov.2.2 _ h;omega
 have aC:=(oE w2 (.cells #[r,n,.slice A1 es.length c1] 35)).trans (oE (w2.alloc (.cells #[r,n,.slice A1 es.length c1] 35)) (.cells #[] 179));have Y3:=(oJ w2 #[r,n,.slice A1 es.length c1] 35).mid (oE (w2.alloc (.cells #[r,n,.slice A1 es.length c1] 35)) (.cells #[] 179)) oZr;have O0:=aAd (w2.alloc (.cells #[r,n,.slice A1 es.length c1] 35)) 179 2;rw[World.size_alloc] at O0;replace b2:=b2.mid aC oZr;replace a5:=aAb a5 aC oZl;replace a9:=a9.trans aC;go_wp2_with fail;generalize hw3:(w2.alloc (.cells #[r,n,.slice A1 es.length c1] 35)).alloc (.cells #[] 179)=w3 at Y3 O0 b2 a5 a9 |-;obtain⟨G,hG⟩:∃ G,w2.heap.size=G:=⟨_,rfl⟩
 rw[hG] at Y3 O0 aD aK |-;have ar:w.heap.size+2<=G:=by omega
 clear hw3 aC aM ho hG aK ae b0;go_loopw [5] (fun l wr=>∃(m s:Nat) (a3:List Ed) (A2:OA) (c2:Nat) (Al:OA) (nl cl:Nat) (ps:List (Int × Int)),l=.slice Al nl cl/\nl+s<=40/\Hid (aDg m ((s:Int),a3)=T)/\s<=m/\Hid (IsGr r s a3)/\wr.ownsRow (G+1) 179 2 (.slice Al nl cl) nl (aAe (fdI ps)) /\
   Hid (wr.ownsRow (w.heap.size+2) 110 3 (.slice A2 a3.length c2) a3.length (aAe (edI a3)))/\Hid (Value.ownBlock (.slice A2 a3.length c2)≠some G)/\Box wr (w.heap.size+1) [(0:Int),(0:Int),.slice none 0 0]/\Box wr G [r,s,.slice A2 a3.length c2]/\Mid 0 0 w wr) (fun _ wr=>aNL wr G)
 case atStart=>exact⟨40,n,es,A1,c1,_,0,0,[],rfl,oO,HT,aW,HG,O0,oH a5,oH aD,b2,Y3,a9⟩
 clear O0 a5 b2 Y3 a9 aD;obtain⟨m,s,a3,A2,c2,Al,nl,cl,ps,rfl,aw,HTm,b1,HGs,a6,HE,HBK,b2,Y3,hm⟩:=hrel;have av:=HGs.out.len;have ax:1<=s:=by have:=HGs.out.size;omega
 have aS:=oH (aCY Y3);have an:a3.length<=c2:=by
  obtain⟨A',c',ag,az,au⟩:=aAc HE.out;injection ag with _ _ ag
  omega
 obtain⟨p,b,rs,aI,aE⟩:=OnceIs.ex (s:Int) a3;have HO:=oH (aLU r s A2 a3 c2 wr _ _ (aAz HE.out).rg an HGs.out p b rs aI aE);have aL:=oH aE;obtain⟨p1,p2⟩:=p;clear aE;obtain⟨y0,y1,y2⟩:=Y3.c3 rfl;go_wp2_with fail;with_reducible refine HO.out.mono ?_
 rintro en w5 ⟨A3,c3,rfl,aX,aH⟩;have aj:G<wr.heap.size:=Y3.1;have aZ:w.heap.size+2<=wr.heap.size:=by omega
 have aQ:=aAb HE.out aH oZl;replace b2:=b2.mid aH oZr;replace Y3:=Y3.mid aH oZr;replace a6:=aAb a6 aH oZl;replace hm:=hm.trans aH;clear HO y0 y1 y2 HE;have a8:=oE w5 (.cells #[r,rs,.slice A3 aI.length c3] 35);have a7:=oE (w5.alloc (.cells #[r,rs,.slice A3 aI.length c3] 35)) (.cells #[p1,p2] 179);have bh:=(oJ w5 #[r,rs,.slice A3 aI.length c3] 35).mid a7 oZr;have bp:=oJ (w5.alloc (.cells #[r,rs,.slice A3 aI.length c3] 35)) #[p1,p2] 179;rw[World.size_alloc] at bp;have aC:=a8.trans a7;have ay:=aH.size;have ap:G<w5.heap.size:=Y3.1;have aq:G<w5.heap.size+1:=by omega
 have al:w.heap.size+1<w5.heap.size:=b2.1;have am:w.heap.size<w5.heap.size:=by omega
 have yf:=Y3.2.2;obtain⟨y0,y1,y2⟩:=Y3.c3 rfl;cases b
 .have af:=b2.2.2
  obtain⟨a0,a1,a2⟩:=b2.c3 rfl;have ab:aCo a3=[]/\True:=by
   rcases aL.out with h|h
   .exact⟨h.2.1,trivial⟩
   exact absurd h.1 oD
  have aB:=HTm.out;rw[aEv (g:=((s:Int),a3)) ab.1] at aB;have aF:=oH aB;clear aB ab;go_wp2_with fail;refine oW (v:=.tuple #[.agg #[r,s,.slice A2 a3.length c2],.slice Al nl cl]) (by simp[results,Tryz.results195,go_sem,a0,a1,a2,af,al,am,World.cell?_alloc_lt]) rfl ⟨A2,c2,Al,nl,cl,by rw[<- aF.out],?_,?_⟩
  .rw[<- aF.out]
   have h0:OG w5 (w.heap.size+2) w5.heap.size A2 c2 a3:=⟨oN,aQ,fun g hg=>(aQ.lt g hg).2⟩
   refine OG.wide (OG.mid h0 (a:=w.heap.size+1) (b:=w.heap.size+2) ?_ (Or.inl oN)) oO (by simp;try omega) oN;repeat (first|exact Mid.refl _ _ _|refine Mid.trans ?_ (oE _ _).zero|refine Mid.stored ?_ _ (by simp;try omega) (by simp;try omega))
  repeat (first|exact hm|refine Mid.trans ?_ (oE _ _)|refine oQ ?_ (by simp;try omega) _)
 obtain⟨t,aY⟩:∃ t,aCo a3=(p1,p2)::t:=by
  rcases aL.out with h|h
  .exact absurd h.1 oD
  exact h.2.1
 obtain⟨rfl,rfl⟩:rs=(s:Int) - 1/\aI=aCu (p1,p2) a3:=by
  rcases aL.out with h|h
  .exact absurd h.1 oD
  exact h.2.2
 obtain⟨k1,k2,k3⟩:=aDL HGs.out.all HGs.out.asc (p:=(p1,p2)) (by rw[aY];simp);obtain⟨m',rfl⟩:∃ m',m=m'+1:=⟨m - 1,oO⟩
 have aB:=HTm.out;rw[aEu (g:=((s:Int),a3)) aY] at aB;simp only at aB;have aF:=oH aB;have aP:=oH (aFL HGs.out k1 k2 k3);clear aB aY k1 k2 k3 aL;obtain⟨s',rfl⟩:∃ s',s=s'+1:=⟨s - 1,oO⟩
 rw[show((s'+1:Nat):Int) - 1=(s':Int) by omega] at aF aP aC a8 a7 bh bp |-;obtain⟨me,ad⟩:∃ me,aCu (p1,p2) a3=me:=⟨_,rfl⟩
 rw[ad] at aF aP aC a8 a7 bh bp aX |-;clear ad;have aO:=(oU w5 G 0 r).trans ((oU (w5.setCell ⟨G,0,none⟩ r) G 1 s').trans (oU ((w5.setCell ⟨G,0,none⟩ r).setCell ⟨G,1,none⟩ s') G 2 (.slice A3 me.length c3)));have Y5:=Y3.s3 r s' (.slice A3 me.length c3);have aN:=hm.n3 G oO r s' (.slice A3 me.length c3);have b6:=b2.mid aO;have a4:=aAb a6 aO (Or.inl oN);have aA:=OG.mid aX aO (Or.inl aj);have aG:=(oE (((w5.setCell ⟨G,0,none⟩ r).setCell ⟨G,1,none⟩ s').setCell ⟨G,2,none⟩ (.slice A3 me.length c3)) (.cells #[r,s',.slice A3 me.length c3] 35)).trans (oE _ (.cells #[p1,p2] 179));replace b6:=b6.mid aG oZr;replace Y5:=Y5.mid aG oZr;replace a4:=aAb a4 aG oZl;replace aN:=aN.trans aG;replace aA:=OG.mid aA aG oZl;have aa:(((((w5.setCell ⟨G,0,none⟩ r).setCell ⟨G,1,none⟩ s').setCell ⟨G,2,none⟩ (.slice A3 me.length c3)).alloc (.cells #[r,s',.slice A3 me.length c3] 35)).alloc (.cells #[p1,p2] 179)).heap.size=w5.heap.size+1+1:=by simp
 have HL:=oH a4;have HY:=oH Y5;have HB:=oH b6;have HM:=oH aN;have ah:=oH aA;clear a4 Y5 b6 aN aA aG aO a6 b2 hm aX aQ aC a8 a7 bh bp;go_wp2_with (at_builtin;refine aBq rfl _ _ rfl (G+1) Al nl cl ps rfl HL.out (p1,p2) (by rw[aa];rfl) oO (by rw[aa];omega) ?_;intro A9 c9 w9 ao aJ ak)
 have aT:=oF HL.out aJ;have aU:=(ah.out).2.1;have ai:=(aAh aU aZ).kept aJ (aBd aU HL.out oD);have aR:Value.ownBlock (.slice A3 me.length c3)≠some G:=fun h=>by have:=(aU.lt _ h).1;omega
 have Y9:=HY.out.mid aT (Or.inl oS);have aV:=aS.out;go_roundw
 case rel=>exact⟨m',s',me,A3,c3,A9,nl+1,c9,ps++[(p1,p2)],rfl,oO,aF,oO,aP,ao,oH ai,oH aR,HB.out.mid aT,Y9,HM.out.transNew aT oL⟩
 rw[aV,aCY Y9];omega
theorem aLs(p1 p2 v:Int)(w:World)(h0:p1<p2)(h1:0<=v)(h2:v<1000000) :
  Calls Tryz.prog 275 #[v,.agg #[p1,p2]] w fun e w'=>e=.returned (.int .i64 (aBZ (p1,p2) v))/\Mid 0 0 w w':=by
 have a0:Mid 0 0 w (w.alloc (.cells #[p1,p2] 179)):=oE _ _;have b0:=oJ w #[p1,p2] 179;go_enter Tryz.func275,Tryz.ntmps275
 have q0:=b0.cell 0 rfl;have q1:=b0.cell 1 rfl;rcases(by omega:v=p2 \/ p2<v \/ v<p2) with h|h|h
 .subst h
  have d1:(v == v)=true:=by simp
  have d2:decide (v<p1)=false:=by simp;omega
  have hf:aBZ (p1,v) v=p1:=by simp[aBZ]
  have HF:=oH hf;clear hf;go_wp2_with fail;go_ret;exact⟨by rw[HF.out];rfl,a0⟩
 .have d1:(v == p2)=false:=by simp only[beq_eq_false_iff_ne];omega
  have hf:aBZ (p1,p2) v=v - 1:=by unfold aBZ;rw[if_neg oO,if_pos (by simpa using h)]
  have HF:=oH hf;clear hf;go_wp2_with fail;go_ret;exact⟨by rw[HF.out];rfl,a0⟩
 have d1:(v == p2)=false:=by simp only[beq_eq_false_iff_ne];omega
 have hn:¬ p2<v:=by omega
 have hf:aBZ (p1,p2) v=v:=by unfold aBZ;rw[if_neg oO,if_neg (by simpa using hn)]
 have HF:=oH hf;clear hf;go_wp2_with fail;go_ret;exact⟨by rw[HF.out];rfl,a0⟩
theorem aHT(r s:Int)(A:OA)(es:List Ed)(c:Nat)(p1 p2:Int)(w:World)(lo hi:Nat)(hr:RG w lo hi A es)(hg:IsGr r s es)(h0:0<=p1)(h1:p1<p2)(h2:p2<s) :
  Calls Tryz.prog 258 #[aAJ r s A es.length c,.agg #[.int .i64 p1,.int .i64 p2]] w fun e w'=>∃ A1 c1,e=.returned (.tuple #[aAJ r (s - 1) A1 (aCu (p1,p2) es).length c1,.bool true])/\OG w' w.heap.size w'.heap.size A1 c1 (aCu (p1,p2) es)/\Mid 0 0 w w':=by
 have hl:=hg.len;have ax:=hg.size;have HG:=oH hg;have a6:Mid 0 0 w (((w.alloc (.cells #[r,s,.slice A es.length c] 35)).alloc (.cells #[p1,p2] 179)).alloc (.cells #[(0:Int),(0:Int),.slice none 0 0] 35)):=((oE _ _).trans (oE _ _)).trans (oE _ _);have b0:=((oJ w #[r,s,.slice A es.length c] 35).mid (oE _ (.cells #[p1,p2] 179)) oZr).mid (oE _ (.cells #[(0:Int),(0:Int),.slice none 0 0] 35)) oZr;have bf:=(oJ (w.alloc (.cells #[r,s,.slice A es.length c] 35)) #[p1,p2] 179).mid (oE _ (.cells #[(0:Int),(0:Int),.slice none 0 0] 35)) oZr;have b2:=oJ ((w.alloc (.cells #[r,s,.slice A es.length c] 35)).alloc (.cells #[p1,p2] 179)) #[(0:Int),(0:Int),.slice none 0 0] 35;simp only[World.size_alloc,Nat.add_assoc,Nat.reduceAdd] at bf b2;have d1:decide (p1<0)=false:=by simp;omega
 have d2:decide (p2<=p1)=false:=by simp;omega
 have d3:decide (s<=p2)=false:=by simp;omega
 clear hg;go_enter Tryz.func258,Tryz.ntmps258
 go_wp2_with fail;generalize hw1:(((w.alloc (.cells #[r,s,.slice A es.length c] 35)).alloc (.cells #[p1,p2] 179)).alloc (.cells #[(0:Int),(0:Int),.slice none 0 0] 35))=w1 at a6 b0 bf b2 |-;clear hw1;with_reducible refine(aBa r s A es c _ _ _ (hr.mid a6 oZl).rv oO true (oX rfl HG.out)).mono ?_
 rintro en w4 ⟨rfl,aH⟩;replace b0:=b0.mid aH oZr;replace bf:=bf.mid aH oZr;replace b2:=b2.mid aH oZr;replace a6:=a6.trans aH;have aw:w.heap.size+3<=w4.heap.size:=b2.1;obtain⟨q0,q1,q2⟩:=b0.c3 rfl;have k0:=bf.cell 0 rfl;have k1:=bf.cell 1 rfl;have a4:=oE w4 (.cells #[r,.int .i64 (s - 1),.slice none 0 0] 35);have Y3:=oJ w4 #[r,.int .i64 (s - 1),.slice none 0 0] 35;replace b0:=b0.mid a4 oZr;replace bf:=bf.mid a4 oZr;replace b2:=b2.mid a4 oZr;replace a6:=a6.trans a4;go_wp2_with fail;clear q0 q1 q2 k0 k1;have aL:(w4.alloc (.cells #[r,.int .i64 (s - 1),.slice none 0 0] 35)).heap.size=w4.heap.size+1:=by simp
 generalize w4.alloc (.cells #[r,.int .i64 (s - 1),.slice none 0 0] 35)=w5 at Y3 b0 bf b2 a6 aL |-;obtain⟨G,hG⟩:∃ G,w4.heap.size=G:=⟨_,rfl⟩
 rw[hG] at Y3 aw aL |-;clear a4 aH hG;go_loopw [7] (fun i wr=>∃(q:Nat) (A2:OA) (c2 aT ad:Nat) (xs:List Ed),q<=es.length/\i=.int .i64 q/\Hid (xs=aCU [] ((es.take q).map (aEw (p1,p2)))) /\
   OG wr aT ad A2 c2 xs/\G+1<=aT /\
   Box wr w [r,s,.slice A es.length c]/\Box wr (w.heap.size+1) [p1,p2]/\Box wr (w.heap.size+2) [(0:Int),(0:Int),.slice none 0 0]/\Box wr G [r,.int .i64 (s - 1),.slice A2 xs.length c2]/\Mid 0 0 w wr) (fun i _=>es.length - (intOf i).toNat)
 case atStart=>exact⟨0,none,0,G+1,_,[],oZ,rfl,oH rfl,⟨Nat.le_of_eq aL.symm,⟨rfl,.inl ⟨rfl,rfl⟩⟩,fun g hg=>by simp[Value.ownBlock] at hg⟩,oN,b0,bf,b2,Y3,a6⟩
 clear b0 bf b2 Y3 a6 aL;obtain⟨q,A2,c2,aT,ad,xs,hq,rfl,HX,a3,aR,b0,bf,b2,Y3,hm⟩:=hrel;have b4:xs.length<=120:=by
  have h1:=aEF [] ((es.take q).map (aEw (p1,p2)));rw[<- HX.out] at h1;simp at h1;omega
 by_cases hlt:q<es.length
 .obtain⟨B,b5,e,rfl, -,ay,he,e0,e1,e2⟩:=(hr.mid hm oZl).ed hlt
  have ar:=HG.out.all e (oG he);have ai:(es.take (q+1)).map (aEw (p1,p2))=(es.take q).map (aEw (p1,p2))++[aEw (p1,p2) e]:=by
   rw[aBh he,List.map_append]
   rfl
  obtain⟨i1,i2,i3,i4,i5,i6⟩:=ar;have hq0:(0:Int)<=(q:Int):=by omega
  have az:(q:Int)<(es.length:Int):=by omega
  have a4:=oE wr (.cells #[.int .i64 e.a,.int .i64 e.l,.int .i64 e.b] 110);have ZE:=oJ wr #[.int .i64 e.a,.int .i64 e.l,.int .i64 e.b] 110;have an:G<wr.heap.size:=Y3.1;obtain⟨u0,u1,u2⟩:=b0.c3 rfl;replace b0:=b0.mid a4 oZr;replace bf:=bf.mid a4 oZr;replace b2:=b2.mid a4 oZr;replace Y3:=Y3.mid a4 oZr;replace a3:=a3.mid a4 oZl;replace hm:=hm.trans a4;have ak:=oH ai;clear he ai;go_wp2_with fail;clear e0 e1 e2 u0 u1 u2;generalize hwx:wr.alloc (.cells #[.int .i64 e.a,.int .i64 e.l,.int .i64 e.b] 110)=wx at ZE b0 bf b2 Y3 a3 hm |-;generalize hgE:wr.heap.size=E at ZE an |-;clear hgE hwx a4;have aA:=Mid.drew1 wx;replace b0:=b0.mid aA oZr;replace bf:=bf.mid aA oZr;replace b2:=b2.mid aA oZr;replace Y3:=Y3.mid aA oZr;replace ZE:=ZE.mid aA oZr;replace a3:=a3.mid aA oZl;replace hm:=hm.trans aA;obtain⟨f0,f1,f2⟩:=ZE.c3 rfl;have g2:=Y3.cell 2 rfl;have k0:=bf.cell 0 rfl;have k1:=bf.cell 1 rfl;obtain⟨x,hx⟩:∃ x,aBZ (p1,p2) e.a=x:=⟨_,rfl⟩
  obtain⟨y,hy⟩:∃ y,aBZ (p1,p2) e.b=y:=⟨_,rfl⟩
  have aj:Hid (aEw (p1,p2) e=⟨x,e.l,y⟩):=oH (by simp[aEw,hx,hy]);clear aA;refine aAM (S:=(fun w'=>w'.cell? ⟨E,0,none⟩=some (.int .i64 e.a)/\w'.cell? ⟨E,1,none⟩=some (.int .i64 e.l)/\w'.cell? ⟨E,2,none⟩=some (.int .i64 e.b)/\w'.cell? ⟨G,2,none⟩=some (.slice A2 xs.length c2)/\w'.cell? ⟨w.heap.size+1,0,none⟩=some (.int .i64 p1)/\w'.cell? ⟨w.heap.size+1,1,none⟩=some (.int .i64 p2))) 15 oK ⟨f0,f1,f2,g2,k0,k1⟩ ?_;generalize World.drew wx=wz at b0 bf b2 Y3 ZE a3 hm f0 f1 f2 g2 k0 k1 |-;have hS:wz.cell? ⟨E,0,none⟩=some (.int .i64 e.a)/\wz.cell? ⟨E,1,none⟩=some (.int .i64 e.l)/\wz.cell? ⟨E,2,none⟩=some (.int .i64 e.b)/\wz.cell? ⟨G,2,none⟩=some (.slice A2 xs.length c2)/\wz.cell? ⟨w.heap.size+1,0,none⟩=some (.int .i64 p1)/\wz.cell? ⟨w.heap.size+1,1,none⟩=some (.int .i64 p2):=⟨f0,f1,f2,g2,k0,k1⟩
  have aO:=aLs p1 p2 e.a wz h1 i1 oO;rw[hx] at aO;refine tkT 0 rfl hS ?_;try simp only[oP]
  refine tkT 1 rfl hS ?_;try simp only[oP]
  refine tkT 2 rfl hS ?_;try simp only[oP]
  refine tkT 3 rfl hS ?_;try simp only[oP]
  refine tkT 4 rfl hS ?_;try simp only[oP]
  refine tkT 6 rfl hS ?_;try simp only[oP]
  refine tkT 7 rfl hS ?_;try simp only[oP]
  refine tkT 8 rfl hS ?_;try simp only[oP]
  refine tkT 9 rfl hS ?_;try simp only[oP]
  refine tkT 10 rfl hS ?_;try simp only[oP]
  refine rdT 5 rfl (fun K hK=>?_)
  (go_simp;refine aO.mono ?_;rintro _ w6 ⟨rfl,a7⟩;have aV:=b0.mid a7 oZr;have aJ:=bf.mid a7 oZr;have aX:=b2.mid a7 oZr;have aN:=Y3.mid a7 oZr;have aE:=ZE.mid a7 oZr;have aB:=OG.mid a3 a7 oZl;have ae:=hm.trans a7;have aa:w6.cell? ⟨E,0,none⟩=some (.int .i64 e.a)/\w6.cell? ⟨E,1,none⟩=some (.int .i64 e.l)/\w6.cell? ⟨E,2,none⟩=some (.int .i64 e.b)/\w6.cell? ⟨G,2,none⟩=some (.slice A2 xs.length c2)/\w6.cell? ⟨w.heap.size+1,0,none⟩=some (.int .i64 p1)/\w6.cell? ⟨w.heap.size+1,1,none⟩=some (.int .i64 p2):=⟨aE.cell 0 rfl,aE.cell 1 rfl,aE.cell 2 rfl,aN.cell 2 rfl,aJ.cell 0 rfl,aJ.cell 1 rfl⟩;go_wp2_with fail)
  refine hK.out _ _ (Or.inr aa) (fun _=>?_);clear hK K;try simp only[oP]
  clear hS aO b0 bf b2 Y3 ZE a3 hm f0 f1 f2 g2 k0 k1 a7;have aP:=aLs p1 p2 e.b w6 h1 i3 oO;rw[hy] at aP;clear hx hy;refine rdT 11 rfl (fun K hK=>?_)
  (go_simp;refine aP.mono ?_;rintro _ w7 ⟨rfl,a8⟩;have aW:=aV.mid a8 oZr;have aK:=aJ.mid a8 oZr;have aY:=aX.mid a8 oZr;have aI:=aN.mid a8 oZr;have aF:=aE.mid a8 oZr;have a5:=OG.mid aB a8 oZl;have ag:=ae.trans a8;have aQ:w7.cell? ⟨E,0,none⟩=some (.int .i64 e.a)/\w7.cell? ⟨E,1,none⟩=some (.int .i64 e.l)/\w7.cell? ⟨E,2,none⟩=some (.int .i64 e.b)/\w7.cell? ⟨G,2,none⟩=some (.slice A2 xs.length c2)/\w7.cell? ⟨w.heap.size+1,0,none⟩=some (.int .i64 p1)/\w7.cell? ⟨w.heap.size+1,1,none⟩=some (.int .i64 p2):=⟨aF.cell 0 rfl,aF.cell 1 rfl,aF.cell 2 rfl,aI.cell 2 rfl,aK.cell 0 rfl,aK.cell 1 rfl⟩;go_wp2_with fail)
  refine hK.out _ _ (Or.inr aQ) (fun _=>?_);clear hK K;try simp only[oP]
  clear aa aP aV aJ aX aN aE aB ae a8;refine tkT 12 rfl aQ ?_;try simp only[oP]
  have hQ:=aBz A2 xs c2 ⟨x,e.l,y⟩ w7 _ _ a5.rg oO;refine rdT 13 rfl (fun K hK=>?_)
  (go_simp;refine hQ.mono ?_;rintro en w9 ⟨A9,c9,rfl,av,a9⟩;have al:=aW.mid a9 oZr;have aG:=aK.mid a9 oZr;have am:=aY.mid a9 oZr;have aD:=aI.mid a9 oZr;have aC:=aF.mid a9 oZr;have ah:=OG.mid a5 a9 oZl;have au:=ag.trans a9;go_wp2_with fail)
  refine hK.out _ _ (Or.inr ⟨aC.cell 0 rfl,aC.cell 1 rfl,aC.cell 2 rfl,aD.cell 2 rfl,aG.cell 0 rfl,aG.cell 1 rfl⟩) (fun _=>?_);clear hK K;try simp only[oP]
  have ao:w9.cell? ⟨E,0,none⟩=some (.int .i64 e.a)/\w9.cell? ⟨E,1,none⟩=some (.int .i64 e.l)/\w9.cell? ⟨E,2,none⟩=some (.int .i64 e.b)/\w9.cell? ⟨G,2,none⟩=some (.slice A2 xs.length c2)/\w9.cell? ⟨w.heap.size+1,0,none⟩=some (.int .i64 p1)/\w9.cell? ⟨w.heap.size+1,1,none⟩=some (.int .i64 p2):=⟨aC.cell 0 rfl,aC.cell 1 rfl,aC.cell 2 rfl,aD.cell 2 rfl,aG.cell 0 rfl,aG.cell 1 rfl⟩
  have b1:=aD.cell 2 rfl;have b3:=aD.2.2;have aZ:G+1<=w7.heap.size:=aI.1;clear aQ aW aK aY aI aF a5 ag a9 hQ;refine tkT 14 rfl ao ?_;try simp only[oP]
  refine rdT 15 rfl (fun K hK=>?_)
  (go_simp)
  refine hK.out _ _ (Or.inl rfl) (fun _=>?_);clear hK K;try simp only[oP]
  refine aAR oK ?_ _;go_wp2_with fail;go_roundw
  case rel=>
   have aM:=oU w9 G 2 (.slice A9 (aCw ⟨x,e.l,y⟩ xs).length c9);refine⟨q+1,A9,c9,_,_,_,oO,by go_num,oH ?_,av.mid aM (Or.inl aZ),aZ,al.mid aM,aG.mid aM,am.mid aM,aD.set 2 _ oM rfl,au.storeNew (p:=⟨G,2,none⟩) (by show w.heap.size<=G;omega) _⟩;rw[ak.out,aCC,<- HX.out,aj.out]
  simp[intOf];omega
 obtain rfl:q=es.length:=by omega
 have aS:=HX.out;rw[List.take_length] at aS;have aU:=oH (show xs=aCu (p1,p2) es from aS);clear aS;obtain⟨u0,u1,u2⟩:=b0.c3 rfl;obtain⟨a0,a1,a2⟩:=b2.c3 rfl;obtain⟨x0,x1,x2⟩:=Y3.c3 rfl;have af:=b2.2.2;have xf:=Y3.2.2;have ab:¬ w.heap.size+2=G:=by omega
 have ap:¬ G=w.heap.size+2:=by omega
 go_wp2_with fail;have aq:(w.heap.size+2 == G)=false:=by simpa using ab
 refine oW (v:=.tuple #[.agg #[r,.int .i64 (s - 1),.slice A2 xs.length c2],.bool true]) (by simp[results,Tryz.results258,go_sem,a0,a1,a2,x0,x1,x2,af,xf,ab]) rfl ⟨A2,c2,by rw[aU.out],?_,?_⟩
 .rw[<- aU.out]
  refine OG.wide (OG.mid a3 (a:=w.heap.size) (b:=G+1) ?_ (Or.inl aR)) oO (by have:=a3.size;simpa using this) oN;repeat (first|exact Mid.refl _ _ _|refine Mid.stored ?_ _ (by simp;try omega) (by simp;try omega))
 repeat (first|exact hm|refine oQ ?_ (by simp;try omega) _)
theorem aNU(r s:Int)(A:OA)(es:List Ed)(c:Nat)(w:World)(lo hi:Nat)(hr:RG w lo hi A es)(hl:es.length<=120) :
  Calls Tryz.prog 274 #[aAJ r s A es.length c] w fun e w'=>∃ A1 c1,e=.returned (.slice A1 (aCo es).length c1)/\RV w' 0 w'.heap.size A1 (aAe (fdI (aCo es)))/\Mid 0 0 w w':=by
 have aQ:Mid 0 0 w ((w.alloc (.cells #[r,s,.slice A es.length c] 35)).alloc (.cells #[] 179)):=(oE _ _).trans (oE _ _);have b0:=(oJ w #[r,s,.slice A es.length c] 35).mid (oE _ (.cells #[] 179)) oZr;have O0:=aAd (w.alloc (.cells #[r,s,.slice A es.length c] 35)) 179 2;rw[World.size_alloc] at O0;go_enter Tryz.func274,Tryz.ntmps274
 go_wp2_with fail;go_loopw [3,4] (fun out iv wr=>∃(k:Nat) (A1:OA) (n1 c1:Nat),k<=es.length/\iv=.int .i64 k/\out=.slice A1 n1 c1/\Hid ((aAL es k).length=n1)/\wr.ownsRow (w.heap.size+1) 179 2 (.slice A1 n1 c1) n1 (aAe (fdI (aAL es k))) /\
   Box wr w [r,s,.slice A es.length c]/\Mid 0 0 w wr) (fun _ i _=>es.length - (intOf i).toNat)
 case atStart=>exact⟨0,_,0,0,oZ,rfl,rfl,oH rfl,O0,b0,aQ⟩
 clear O0 b0 aQ;obtain⟨wo,aX⟩:∃ wo,wo=wr:=⟨_,rfl⟩
 subst aX;obtain⟨k,A1,n1,c1,hk,rfl,rfl,HN,a0,b0,hm⟩:=hrel;obtain⟨q0,q1,q2⟩:=b0.c3 rfl;by_cases hlt:k<es.length
 .obtain⟨e,he⟩:=aAy es hlt
  have HE:=oH he;have af:(0:Int)<=(k:Int):=by omega
  have ag:(k:Int)<(es.length:Int):=by omega
  clear he;go_wp2_with fail;clear q0 q1 q2;go_loopw [3,5] (fun out jv wr=>∃(j:Nat) (A2:OA) (n2 c2:Nat),k+1+j<=es.length/\jv=.int .i64 ((k+1+j:Nat):Int)/\out=.slice A2 n2 c2/\Hid ((aAL es k++((es.drop (k+1)).take j).flatMap (aAp e)).length=n2) /\
    wr.ownsRow (w.heap.size+1) 179 2 (.slice A2 n2 c2) n2 (aAe (fdI (aAL es k++((es.drop (k+1)).take j).flatMap (aAp e)))) /\
    Box wr w [r,s,.slice A es.length c]/\Mid 0 0 w wr) (fun _ j _=>es.length - (intOf j).toNat)
  case atStart=>exact⟨0,A1,n1,c1,oO,by go_num,rfl,oH (by simpa using HN.out),by simpa using a0,b0,hm⟩
  clear a0 b0 hm HN;obtain⟨j,A2,n2,c2,hj,rfl,rfl,HN,a0,b0,hm⟩:=hrel;have ah:n2<=40000:=by
   have h1:=aGG es k;have h2:=aJk e ((es.drop (k+1)).take j);have h3:=HN.out;have h4:k * (2 * es.length)<=120 * 240:=Nat.mul_le_mul oO oO;rw[List.length_append] at h3;rw[List.length_take,List.length_drop] at h2;omega
  obtain⟨m,aD⟩:∃ m,k+1+j=m:=⟨_,rfl⟩
  rw[aD];have HM:=oH aD;rw[aD] at hj;clear aD;obtain⟨q0,q1,q2⟩:=b0.c3 rfl;by_cases hlt2:m<es.length
  .obtain⟨B,ai,e',rfl, -,aT,aC,e0,aZ,aa⟩:=(hr.mid hm oZl).ed hlt
   rw[HE.out] at aC;injection aC with aC
   subst aC;obtain⟨B',aY,f,hX, -,aU,hf,f0,f1,f2⟩:=(hr.mid hm oZl).ed hlt2;injection hX with hX
   injection hX with hX1 hX2
   subst hX1 hX2;have HF:=oH (aNa (e:=e) (show(es.drop (k+1))[j]?=some f by rw[List.getElem?_drop,HM.out];exact hf));have ad:(0:Int)<=(m:Int):=by omega
   have ae:(m:Int)<(es.length:Int):=by omega
   have zb:B<wr.heap.size:=oT aT (hr.mid hm oZl).1;have ab:w.heap.size<wr.heap.size:=b0.1;have aB:=(oE wr (.cells #[.int .i64 e.a,.int .i64 e.l,.int .i64 e.b] 110)).trans (oE (wr.alloc (.cells #[.int .i64 e.a,.int .i64 e.l,.int .i64 e.b] 110)) (.cells #[.int .i64 f.a,.int .i64 f.l,.int .i64 f.b] 110));have ZE:=(oJ wr #[.int .i64 e.a,.int .i64 e.l,.int .i64 e.b] 110).mid (oE (wr.alloc (.cells #[.int .i64 e.a,.int .i64 e.l,.int .i64 e.b] 110)) (.cells #[.int .i64 f.a,.int .i64 f.l,.int .i64 f.b] 110)) oZr;have ZF:=oJ (wr.alloc (.cells #[.int .i64 e.a,.int .i64 e.l,.int .i64 e.b] 110)) #[.int .i64 f.a,.int .i64 f.l,.int .i64 f.b] 110;rw[World.size_alloc] at ZF;have aF:=oH (show Value.ownBlock (.slice A2 n2 c2)≠some wr from fun h=>by have:=(a0.lt _ h).2;omega);have aE:=oH (show Value.ownBlock (.slice A2 n2 c2)≠some (wr.heap.size+1) from fun h=>by have:=(a0.lt _ h).2;omega);have aH:=oH (fun(g:Nat) (h:Value.ownBlock (.slice A2 n2 c2)=some g)=>(a0.lt g h).1);replace b0:=b0.mid aB oZr;replace a0:=aAb a0 aB oZl;replace hm:=hm.trans aB;have HW:=oH a0;have a6:w.heap.size+1<=((wr.alloc (.cells #[.int .i64 e.a,.int .i64 e.l,.int .i64 e.b] 110)).alloc (.cells #[.int .i64 f.a,.int .i64 f.l,.int .i64 f.b] 110)).heap.size:=by simp;omega
   clear hf a0 aB;by_cases e1:e.l=f.l
   .have d1:(e.l == f.l)=true:=by simpa using e1
    by_cases e2:e.a=f.a
    .have d2:(e.a == f.a)=true:=by simpa using e2
     by_cases e3:e.b=f.b
     .have d3:(e.b == f.b)=true:=by simpa using e3
      have a3:aAp e f=[(min e.b f.b,max e.b f.b),(min e.a f.a,max e.a f.a)]:=by simp[aAp,e1,e2,e3]
      have a2:Hid (aAL es k++((es.drop (k+1)).take (j+1)).flatMap (aAp e)=(aAL es k++((es.drop (k+1)).take j).flatMap (aAp e))++[(min e.b f.b,max e.b f.b)]++[(min e.a f.a,max e.a f.a)]):=oH (by rw[HF.out,a3];simp);clear e1 e2 e3 a3;go_wp2_with (first|(at_builtin;refine aBq rfl _ _ rfl (w.heap.size+1) A2 n2 c2 _ rfl HW.out (min e.b f.b,max e.b f.b) (by rw[World.size_alloc,World.size_alloc];rfl) oO a6 ?_;intro A8 c8 w8 aR a5 aI;have a7:=ZE.grown a5 aF.out;have a8:=ZF.grown a5 aE.out;obtain⟨aK,aL,aM⟩:=a7.c3 rfl;obtain⟨aN,aO,aP⟩:=a8.c3 rfl;have aG:=oH aR;have aJ:=oV a6 a5.size;clear aR)|(at_builtin;refine aBq rfl _ _ rfl (w.heap.size+1) A8 (n2+1) c8 _ rfl aG.out (min e.a f.a,max e.a f.a) rfl oO aJ ?_;intro A9 c9 w9 aA a1 a4))
      have aW:=oF HW.out a5;have a9:=oF aG.out a1;have aS:=oH (fun(g:Nat) (h:Value.ownBlock (.slice A8 (n2+1) c8)=some g)=>(aG.out.lt g h).1);clear a4 aI;go_roundw
      case rel=>exact⟨j+1,A9,n2+1+1,c9,by have:=HM.out;omega,by have:=HM.out;go_num,rfl,oH (by rw[a2.out,List.length_append,List.length_append,HN.out];rfl),by rw[a2.out];exact aA,(b0.grown a5 (fun h=>by have:=aH.out _ h;omega)).grown a1 (fun h=>by have:=aS.out _ h;omega),(hm.transNew aW (Or.inl (Nat.le_succ _))).transNew a9 (Or.inl (Nat.le_succ _))⟩
      have:=HM.out;simp[intOf];omega
     have d3:(e.b == f.b)=false:=by simpa only[beq_eq_false_iff_ne] using e3
     have a3:aAp e f=[(min e.b f.b,max e.b f.b)]:=by simp[aAp,e1,e2,e3]
     have a2:Hid (aAL es k++((es.drop (k+1)).take (j+1)).flatMap (aAp e)=(aAL es k++((es.drop (k+1)).take j).flatMap (aAp e))++[(min e.b f.b,max e.b f.b)]):=oH (by rw[HF.out,a3,List.append_assoc]);clear e1 e2 e3 a3;go_wp2_with (at_builtin;refine aBq rfl _ _ rfl (w.heap.size+1) A2 n2 c2 _ rfl HW.out (min e.b f.b,max e.b f.b) (by rw[World.size_alloc,World.size_alloc];rfl) oO a6 ?_;intro A9 c9 w9 aA a1 a4;have a7:=ZE.grown a1 aF.out;have a8:=ZF.grown a1 aE.out;obtain⟨aK,aL,aM⟩:=a7.c3 rfl;obtain⟨aN,aO,aP⟩:=a8.c3 rfl)
     have a9:=oF HW.out a1;clear a4;go_roundw
     case rel=>exact⟨j+1,A9,n2+1,c9,by have:=HM.out;omega,by have:=HM.out;go_num,rfl,oH (by rw[a2.out,List.length_append,HN.out];rfl),by rw[a2.out];exact aA,b0.grown a1 (fun h=>by have:=aH.out _ h;omega),hm.transNew a9 (Or.inl (Nat.le_succ _))⟩
     have:=HM.out;simp[intOf];omega
    have d2:(e.a == f.a)=false:=by simpa only[beq_eq_false_iff_ne] using e2
    by_cases e3:e.b=f.b
    .have d3:(e.b == f.b)=true:=by simpa using e3
     have a3:aAp e f=[(min e.a f.a,max e.a f.a)]:=by simp[aAp,e1,e2,e3]
     have a2:Hid (aAL es k++((es.drop (k+1)).take (j+1)).flatMap (aAp e)=(aAL es k++((es.drop (k+1)).take j).flatMap (aAp e))++[(min e.a f.a,max e.a f.a)]):=oH (by rw[HF.out,a3,List.append_assoc]);clear e1 e2 e3 a3;go_wp2_with (at_builtin;refine aBq rfl _ _ rfl (w.heap.size+1) A2 n2 c2 _ rfl HW.out (min e.a f.a,max e.a f.a) (by rw[World.size_alloc,World.size_alloc];rfl) oO a6 ?_;intro A9 c9 w9 aA a1 a4;have a7:=ZE.grown a1 aF.out;have a8:=ZF.grown a1 aE.out;obtain⟨aK,aL,aM⟩:=a7.c3 rfl;obtain⟨aN,aO,aP⟩:=a8.c3 rfl)
     have a9:=oF HW.out a1;clear a4;go_roundw
     case rel=>exact⟨j+1,A9,n2+1,c9,by have:=HM.out;omega,by have:=HM.out;go_num,rfl,oH (by rw[a2.out,List.length_append,HN.out];rfl),by rw[a2.out];exact aA,b0.grown a1 (fun h=>by have:=aH.out _ h;omega),hm.transNew a9 (Or.inl (Nat.le_succ _))⟩
     have:=HM.out;simp[intOf];omega
    have d3:(e.b == f.b)=false:=by simpa only[beq_eq_false_iff_ne] using e3
    have a3:aAp e f=[]:=by simp[aAp,e1,e2,e3]
    have a2:Hid (((es.drop (k+1)).take (j+1)).flatMap (aAp e)=((es.drop (k+1)).take j).flatMap (aAp e)):=oH (by rw[HF.out,a3,List.append_nil]);clear e1 e2 e3 a3;go_wp2_with fail;go_roundw
    case rel=>exact⟨j+1,A2,n2,c2,by have:=HM.out;omega,by have:=HM.out;go_num,rfl,by rw[a2.out];exact HN,by rw[a2.out];exact HW.out,b0,hm⟩
    have:=HM.out;simp[intOf];omega
   have d1:(e.l == f.l)=false:=by simpa only[beq_eq_false_iff_ne] using e1
   have a3:aAp e f=[]:=by unfold aAp;rw[if_neg e1]
   have a2:Hid (((es.drop (k+1)).take (j+1)).flatMap (aAp e)=((es.drop (k+1)).take j).flatMap (aAp e)):=oH (by rw[HF.out,a3,List.append_nil]);clear e1 a3;go_wp2_with fail;go_roundw
   case rel=>exact⟨j+1,A2,n2,c2,by have:=HM.out;omega,by have:=HM.out;go_num,rfl,by rw[a2.out];exact HN,by rw[a2.out];exact HW.out,b0,hm⟩
   have:=HM.out;simp[intOf];omega
  have aV:j=es.length - (k+1):=by have:=HM.out;omega
  subst aV;rw[List.take_of_length_le (by rw[List.length_drop];exact oN),<- aII HE.out] at HN a0;obtain rfl:m=es.length:=by omega
  go_wp2_with fail;go_roundw
  case rel=>exact⟨k+1,A2,n2,c2,oO,by go_num,rfl,HN,a0,b0,hm⟩
  simp[intOf];omega
 obtain rfl:k=es.length:=by omega
 rw[aGF] at HN a0;go_wp2_with fail;go_ret;have hn:=HN.out;subst hn;exact⟨A1,c1,rfl,(aAz a0).wide oZ oN oN,hm⟩
theorem aKN(r s:Int)(A:OA)(es:List Ed)(c:Nat)(w:World)(lo hi:Nat)(hr:RG w lo hi A es)(hg:IsGr r s es)(p:Int × Int)(b:Bool)(hp:aOh es p b) :
  Calls Tryz.prog 257 #[aAJ r s A es.length c] w fun e w'=>e=.returned (.tuple #[.agg #[.int .i64 p.1,.int .i64 p.2],.bool b])/\Mid 0 0 w w':=by
 have hl:=hg.len;have HG:=oH hg;have a0:Mid 0 0 w ((w.alloc (.cells #[r,s,.slice A es.length c] 35)).alloc (.cells #[(0:Int),(0:Int)] 179)):=(oE _ _).trans (oE _ _);have b0:=(oJ w #[r,s,.slice A es.length c] 35).mid (oE _ (.cells #[(0:Int),(0:Int)] 179)) oZr;have b2:=oJ (w.alloc (.cells #[r,s,.slice A es.length c] 35)) #[(0:Int),(0:Int)] 179;rw[World.size_alloc] at b2;clear hg;obtain⟨p1,p2⟩:=p;go_enter Tryz.func257,Tryz.ntmps257
 go_wp2_with fail;with_reducible refine(aBa r s A es c _ _ _ (hr.mid a0 oZl).rv oO true (oX rfl HG.out)).mono ?_
 rintro en w1 ⟨rfl,a1⟩;replace b0:=b0.mid a1 oZr;replace b2:=b2.mid a1 oZr;replace a0:=a0.trans a1;obtain⟨q0,q1,q2⟩:=b0.c3 rfl;go_wp2_with fail;with_reducible refine(aNU r s A es c _ _ _ (hr.mid a0 oZl) hl).mono ?_
 rintro en w2 ⟨A2,c2,rfl,a4,a2⟩;replace b2:=b2.mid a2 oZr;replace a0:=a0.trans a2;have zf:=b2.2.2;have z0:=b2.cell 0 rfl;have z1:=b2.cell 1 rfl;clear q0 q1 q2 a1 a2;rcases hp with⟨rfl,hn,hpp⟩|⟨rfl,t,ht⟩
 .injection hpp with h1 h2
  subst h1 h2;have a5:(aCo es).length=0:=by rw[hn];rfl
  clear hn;go_wp2_with fail;refine oW (v:=.tuple #[.agg #[(0:Int),(0:Int)],.bool false]) (by simp[results,Tryz.results257,go_sem,z0,z1,zf]) rfl ⟨rfl,?_⟩;repeat (first|exact a0|refine oQ ?_ (by simp;try omega) _)
 obtain⟨nl,a3⟩:∃ nl,(aCo es).length=nl+1:=⟨t.length,by rw[ht];rfl⟩
 obtain⟨g,a6,rfl, -, -,hc⟩:=a4.2 (by rw[ht];simp[aGd,aAe]);have y0:=hc 0 p1 (by rw[ht];simp[aGd,aAe]);have y1:=hc 1 p2 (by rw[ht];simp[aGd,aAe]);rw[Nat.add_zero] at y0;have hd:((nl+1:Nat) == 0)=false:=by simp
 rw[a3];have h1:(0:Int)<((nl+1:Nat):Int):=by omega
 clear hc ht a4 a3;go_wp2_with fail;refine oW (v:=.tuple #[.agg #[p1,p2],.bool true]) (by simp[results,Tryz.results257,go_sem,z0,z1,zf]) rfl ⟨rfl,?_⟩;repeat (first|exact a0|refine oQ ?_ (by simp;try omega) _)
theorem aMz(r s:Int)(A:OA)(es:List Ed)(c:Nat)(w:World)(lo hi:Nat)(hr:RG w lo hi A es)(hg:IsGr r s es)(p:Int × Int)(b:Bool)(rs:Int)(a7:List Ed)(hp:OnceIs s es p b rs a7) :
  Calls Tryz.prog 230 #[aAJ r s A es.length c] w fun e w'=>∃ A1 c1,e=.returned (.tuple #[aAJ r rs A1 a7.length c1,.agg #[.int .i64 p.1,.int .i64 p.2],.bool b])/\OG w' w.heap.size w'.heap.size A1 c1 a7/\Mid 0 0 w w':=by
 have hl:=hg.len;have HG:=oH hg;have a3:Mid 0 0 w (((w.alloc (.cells #[r,s,.slice A es.length c] 35)).alloc (.cells #[(0:Int),(0:Int),.slice none 0 0] 35)).alloc (.cells #[(0:Int),(0:Int)] 179)):=((oE _ _).trans (oE _ _)).trans (oE _ _);have b0:=((oJ w #[r,s,.slice A es.length c] 35).mid (oE _ (.cells #[(0:Int),(0:Int),.slice none 0 0] 35)) oZr).mid (oE _ (.cells #[(0:Int),(0:Int)] 179)) oZr;have b2:=(oJ (w.alloc (.cells #[r,s,.slice A es.length c] 35)) #[(0:Int),(0:Int),.slice none 0 0] 35).mid (oE _ (.cells #[(0:Int),(0:Int)] 179)) oZr;have b3:=oJ ((w.alloc (.cells #[r,s,.slice A es.length c] 35)).alloc (.cells #[(0:Int),(0:Int),.slice none 0 0] 35)) #[(0:Int),(0:Int)] 179;simp only[World.size_alloc,Nat.add_assoc,Nat.reduceAdd] at b2 b3;have hF:=hp.first
 have HF:=oH hF;clear hg hF;obtain⟨p1,p2⟩:=p;go_enter Tryz.func230,Tryz.ntmps230
 go_wp2_with fail;generalize hw1:(((w.alloc (.cells #[r,s,.slice A es.length c] 35)).alloc (.cells #[(0:Int),(0:Int),.slice none 0 0] 35)).alloc (.cells #[(0:Int),(0:Int)] 179))=w1 at a3 b0 b2 b3 |-;clear hw1;with_reducible refine(aKN r s A es c _ _ _ (hr.mid a3 oZl) HG.out (p1,p2) b HF.out).mono ?_
 rintro en w2 ⟨rfl,a9⟩;replace b0:=b0.mid a9 oZr;replace b2:=b2.mid a9 oZr;replace b3:=b3.mid a9 oZr;replace a3:=a3.trans a9;have aB:=b0.1;have aC:=b2.1;have aD:=b3.1;obtain⟨u0,u1,u2⟩:=b0.c3 rfl;have a8:=oE w2 (.cells #[p1,p2] 179);have bf:=oJ w2 #[p1,p2] 179;replace b0:=b0.mid a8 oZr;replace b2:=b2.mid a8 oZr;replace b3:=b3.mid a8 oZr;replace a3:=a3.trans a8;clear a9;rcases hp with⟨rfl,hn,hpp,rfl,rfl⟩|⟨rfl,⟨t,ht⟩,rfl,hres⟩
 .injection hpp with h1 h2
  subst h1 h2;clear hn;go_wp2_with fail;clear u0 u1 u2;generalize hw3:w2.alloc (.cells #[(0:Int),(0:Int)] 179)=w3 at b0 b2 b3 bf a3 |-;clear hw3 a8;with_reducible refine(aCk r rs A a7 c _ _ _ (hr.mid a3 oZl) oO).mono ?_
  rintro en w4 ⟨A4,c4,rfl,a6,a5⟩;have aF:w.heap.size+3<=w3.heap.size:=b3.1;replace b2:=b2.mid a5 oZr;replace b3:=b3.mid a5 oZr;replace a3:=a3.trans a5;obtain⟨a0,a1,a2⟩:=b2.c3 rfl;have x0:=b3.cell 0 rfl;have x1:=b3.cell 1 rfl;have af:=b2.2.2;have xf:=b3.2.2;go_wp2_with fail;refine oW (v:=.tuple #[.agg #[r,rs,.slice A4 a7.length c4],.agg #[(0:Int),(0:Int)],.bool false]) (by simp[results,Tryz.results230,go_sem,a0,a1,a2,x0,x1,af,xf]) rfl ⟨A4,c4,rfl,?_,?_⟩
  .refine OG.wide (OG.mid a6 (a:=w.heap.size+1) (b:=w.heap.size+3) ?_ oL) oO oM oN
   repeat (first|exact Mid.refl _ _ _|refine Mid.stored ?_ _ (by simp;try omega) (by simp;try omega))
  repeat (first|exact a3|refine oQ ?_ (by simp;try omega) _)
 obtain⟨k1,k2,k3⟩:=aDL HG.out.all HG.out.asc (p:=(p1,p2)) (by rw[ht];simp);simp only at k1 k2 k3;have aA:=oH hres;clear ht hres;have y0:=bf.cell 0 rfl;have y1:=bf.cell 1 rfl;go_wp2_with fail;clear u0 u1 u2 y0 y1;generalize hw3:w2.alloc (.cells #[p1,p2] 179)=w3 at b0 b2 b3 bf a3 |-;have aF:w3.heap.size=w2.heap.size+1:=by rw[<- hw3];simp
 clear hw3 a8;obtain⟨F,hF⟩:∃ F,w2.heap.size=F:=⟨_,rfl⟩
 rw[hF] at bf aF aB aC aD |-;clear hF;with_reducible refine(aHT r s A es c p1 p2 _ _ _ (hr.mid a3 oZl) HG.out k1 k2 k3).mono ?_
 rintro en w4 ⟨A4,c4,rfl,a6,a5⟩;rw[<- aA.out] at a6 |-;have aE:=a5.size;replace b2:=b2.mid a5 oZr;replace b3:=b3.mid a5 oZr;replace bf:=bf.mid a5 oZr;replace a3:=a3.trans a5;have a4:=oE w4 (.cells #[r,.int .i64 (s - 1),.slice A4 a7.length c4] 35);have bg:=oJ w4 #[r,.int .i64 (s - 1),.slice A4 a7.length c4] 35;replace b2:=b2.mid a4 oZr;replace b3:=b3.mid a4 oZr;replace bf:=bf.mid a4 oZr;replace a6:=a6.mid a4 oZl;replace a3:=a3.trans a4;go_wp2_with fail;generalize hw5:w4.alloc (.cells #[r,.int .i64 (s - 1),.slice A4 a7.length c4] 35)=w5 at b2 b3 bf bg a6 a3 |-;have aG:w5.heap.size=w4.heap.size+1:=by rw[<- hw5];simp
 clear hw5 a4;obtain⟨H,hH⟩:∃ H,w4.heap.size=H:=⟨_,rfl⟩
 rw[hH] at bg aE aG a6 |-;clear hH;obtain⟨a0,a1,a2⟩:=b2.c3 rfl;have x0:=b3.cell 0 rfl;have x1:=b3.cell 1 rfl;have y0:=bf.cell 0 rfl;have y1:=bf.cell 1 rfl;obtain⟨z0,z1,z2⟩:=bg.c3 rfl;have af:=b2.2.2;have xf:=b3.2.2;have n1:¬ w.heap.size+1=H:=by omega
 have n2:¬ w.heap.size+2=H:=by omega
 have n3:¬ w.heap.size+1=F:=by omega
 have n4:¬ w.heap.size+2=F:=by omega
 have n5:¬ F=H:=by omega
 go_region
 go_wp2_with fail;refine oW (v:=.tuple #[.agg #[r,.int .i64 (s - 1),.slice A4 a7.length c4],.agg #[p1,p2],.bool true]) (by simp[results,Tryz.results230,go_sem,a0,a1,a2,x0,x1,af,xf]) rfl ⟨A4,c4,rfl,?_,?_⟩
 .refine OG.wide (OG.mid a6 (a:=w.heap.size+1) (b:=w.heap.size+3) ?_ oL) oO (by have:=a6.size;simp;omega) oN
  refine Mid.trans ?_ (Mid.drew1 _).zero;repeat (first|exact Mid.refl _ _ _|refine Mid.stored ?_ _ (by simp;try omega) (by simp;try omega))
 refine Mid.trans ?_ (Mid.drew1 _);repeat (first|exact a3|refine oQ ?_ (by simp;try omega) _)
theorem aNP(r:Int)(n:Nat)(A:OA)(es:List Ed)(c:Nat)(w:World)(lo hi:Nat)(hr:RG w lo hi A es)(hg:IsGr r n es) :
  Calls Tryz.prog 182 #[aAJ r n A es.length c] w fun e w'=>∃ A1 c1 Al nl cl,e=.returned (.tuple #[aAJ r (aDg 40 ((n:Int),es)).1 A1 (aDg 40 ((n:Int),es)).2.length c1,.slice Al nl cl])/\OG w' w.heap.size w'.heap.size A1 c1 (aDg 40 ((n:Int),es)).2/\Mid 0 0 w w':=by
 have aW:n<=40:=by have:=hg.size;omega
 have hl:=hg.len;have a9:Mid 0 0 w ((w.alloc (.cells #[r,n,.slice A es.length c] 35)).alloc (.cells #[(0:Int),(0:Int),.slice none 0 0] 35)):=(oE _ _).trans (oE _ _);have b0:=(oJ w #[r,n,.slice A es.length c] 35).mid (oE _ (.cells #[(0:Int),(0:Int),.slice none 0 0] 35)) oZr;have b2:=oJ (w.alloc (.cells #[r,n,.slice A es.length c] 35)) #[(0:Int),(0:Int),.slice none 0 0] 35;simp only[World.size_alloc] at b2;have HG:=oH hg;obtain⟨T,hT⟩:∃ T,aDg 40 ((n:Int),es)=T:=⟨_,rfl⟩
 rw[hT];have HT:=oH hT;clear hg hT;go_enter Tryz.func182,Tryz.ntmps182
 go_wp2_with fail;generalize hw1:((w.alloc (.cells #[r,n,.slice A es.length c] 35)).alloc (.cells #[(0:Int),(0:Int),.slice none 0 0] 35))=w1 at a9 b0 b2 |-;clear hw1;with_reducible refine(aCk r n A es c _ _ _ (hr.mid a9 oZl) oO).mono ?_
 rintro en w2 ⟨A1,c1,rfl,ho,aM⟩;have ae:w.heap.size+1<w1.heap.size:=b2.1;replace b2:=b2.mid aM oZr;replace a9:=a9.trans aM;have aK:=aM.size;have a5:=aAh (base':=w.heap.size+2) ho.ov.2.1 ae;have aD:Value.ownBlock (.slice A1 es.length c1)≠some w2.heap.size:=fun h=>by have:=ho.ov.2.2 _ h;omega
 have aC:=(oE w2 (.cells #[r,n,.slice A1 es.length c1] 35)).trans (oE (w2.alloc (.cells #[r,n,.slice A1 es.length c1] 35)) (.cells #[] 179));have Y3:=(oJ w2 #[r,n,.slice A1 es.length c1] 35).mid (oE (w2.alloc (.cells #[r,n,.slice A1 es.length c1] 35)) (.cells #[] 179)) oZr;have O0:=aAd (w2.alloc (.cells #[r,n,.slice A1 es.length c1] 35)) 179 2;rw[World.size_alloc] at O0;replace b2:=b2.mid aC oZr;replace a5:=aAb a5 aC oZl;replace a9:=a9.trans aC;go_wp2_with fail;generalize hw3:(w2.alloc (.cells #[r,n,.slice A1 es.length c1] 35)).alloc (.cells #[] 179)=w3 at Y3 O0 b2 a5 a9 |-;obtain⟨G,hG⟩:∃ G,w2.heap.size=G:=⟨_,rfl⟩
 rw[hG] at Y3 O0 aD aK |-;have ar:w.heap.size+2<=G:=by omega
 clear hw3 aC aM ho hG aK ae b0;go_loopw [5,6] (fun l iv wr=>∃(i m s:Nat) (a3:List Ed) (A2:OA) (c2:Nat) (Al:OA) (nl cl:Nat) (ps:List (Int × Int)),l=.slice Al nl cl/\iv=.int .i64 i/\i+m=40/\nl+s<=40/\Hid (aDg m ((s:Int),a3)=T)/\s<=m/\Hid (IsGr r s a3)/\wr.ownsRow (G+1) 179 2 (.slice Al nl cl) nl (aAe (fdI ps)) /\
   Hid (wr.ownsRow (w.heap.size+2) 110 3 (.slice A2 a3.length c2) a3.length (aAe (edI a3)))/\Hid (Value.ownBlock (.slice A2 a3.length c2)≠some G)/\Box wr (w.heap.size+1) [(0:Int),(0:Int),.slice none 0 0]/\Box wr G [r,s,.slice A2 a3.length c2]/\Mid 0 0 w wr) (fun _ _ wr=>aNL wr G)
 case atStart=>exact⟨0,40,n,es,A1,c1,_,0,0,[],rfl,rfl,oO,oO,HT,aW,HG,O0,oH a5,oH aD,b2,Y3,a9⟩
 clear O0 a5 b2 Y3 a9 aD;obtain⟨i,m,s,a3,A2,c2,Al,nl,cl,ps,rfl,rfl,aw,ay,HTm,b4,HGs,a6,HE,HBK,b2,Y3,hm⟩:=hrel;have ax:=HGs.out.len;have az:1<=s:=by have:=HGs.out.size;omega
 have aS:=oH (aCY Y3);have an:(i:Int)<40:=by omega
 have av:a3.length<=c2:=by
  obtain⟨A',c',ag,b3,au⟩:=aAc HE.out;injection ag with _ _ ag
  omega
 obtain⟨p,b,rs,aI,aE⟩:=OnceIs.ex (s:Int) a3;have HO:=oH (aMz r s A2 a3 c2 wr _ _ (aAz HE.out).rg HGs.out p b rs aI aE);have aL:=oH aE;obtain⟨p1,p2⟩:=p;clear aE;obtain⟨y0,y1,y2⟩:=Y3.c3 rfl;go_wp2_with fail;with_reducible refine HO.out.mono ?_
 rintro en w5 ⟨A3,c3,rfl,aX,aH⟩;have aj:G<wr.heap.size:=Y3.1;have aZ:w.heap.size+2<=wr.heap.size:=by omega
 have aQ:=aAb HE.out aH oZl;replace b2:=b2.mid aH oZr;replace Y3:=Y3.mid aH oZr;replace a6:=aAb a6 aH oZl;replace hm:=hm.trans aH;clear HO y0 y1 y2 HE;have a8:=oE w5 (.cells #[r,rs,.slice A3 aI.length c3] 35);have a7:=oE (w5.alloc (.cells #[r,rs,.slice A3 aI.length c3] 35)) (.cells #[p1,p2] 179);have bh:=(oJ w5 #[r,rs,.slice A3 aI.length c3] 35).mid a7 oZr;have bp:=oJ (w5.alloc (.cells #[r,rs,.slice A3 aI.length c3] 35)) #[p1,p2] 179;rw[World.size_alloc] at bp;have aC:=a8.trans a7;have b1:=aH.size;have ap:G<w5.heap.size:=Y3.1;have aq:G<w5.heap.size+1:=by omega
 have al:w.heap.size+1<w5.heap.size:=b2.1;have am:w.heap.size<w5.heap.size:=by omega
 have yf:=Y3.2.2;obtain⟨y0,y1,y2⟩:=Y3.c3 rfl;cases b
 .have af:=b2.2.2
  obtain⟨a0,a1,a2⟩:=b2.c3 rfl;have ab:aCo a3=[]/\True:=by
   rcases aL.out with h|h
   .exact⟨h.2.1,trivial⟩
   exact absurd h.1 oD
  have aB:=HTm.out;rw[aEv (g:=((s:Int),a3)) ab.1] at aB;have aF:=oH aB;clear aB ab;go_wp2_with fail;refine oW (v:=.tuple #[.agg #[r,s,.slice A2 a3.length c2],.slice Al nl cl]) (by simp[results,Tryz.results182,go_sem,a0,a1,a2,af,al,am,World.cell?_alloc_lt]) rfl ⟨A2,c2,Al,nl,cl,by rw[<- aF.out],?_,?_⟩
  .rw[<- aF.out]
   have h0:OG w5 (w.heap.size+2) w5.heap.size A2 c2 a3:=⟨oN,aQ,fun g hg=>(aQ.lt g hg).2⟩
   refine OG.wide (OG.mid h0 (a:=w.heap.size+1) (b:=w.heap.size+2) ?_ (Or.inl oN)) oO (by simp;try omega) oN;repeat (first|exact Mid.refl _ _ _|refine Mid.trans ?_ (oE _ _).zero|refine Mid.stored ?_ _ (by simp;try omega) (by simp;try omega))
  repeat (first|exact hm|refine Mid.trans ?_ (oE _ _)|refine oQ ?_ (by simp;try omega) _)
 obtain⟨t,aY⟩:∃ t,aCo a3=(p1,p2)::t:=by
  rcases aL.out with h|h
  .exact absurd h.1 oD
  exact h.2.1
 obtain⟨rfl,rfl⟩:rs=(s:Int) - 1/\aI=aCu (p1,p2) a3:=by
  rcases aL.out with h|h
  .exact absurd h.1 oD
  exact h.2.2
 obtain⟨k1,k2,k3⟩:=aDL HGs.out.all HGs.out.asc (p:=(p1,p2)) (by rw[aY];simp);obtain⟨m',rfl⟩:∃ m',m=m'+1:=⟨m - 1,oO⟩
 have aB:=HTm.out;rw[aEu (g:=((s:Int),a3)) aY] at aB;simp only at aB;have aF:=oH aB;have aP:=oH (aFL HGs.out k1 k2 k3);clear aB aY k1 k2 k3 aL;obtain⟨s',rfl⟩:∃ s',s=s'+1:=⟨s - 1,oO⟩
 rw[show((s'+1:Nat):Int) - 1=(s':Int) by omega] at aF aP aC a8 a7 bh bp |-;obtain⟨me,ad⟩:∃ me,aCu (p1,p2) a3=me:=⟨_,rfl⟩
 rw[ad] at aF aP aC a8 a7 bh bp aX |-;clear ad;have aO:=(oU w5 G 0 r).trans ((oU (w5.setCell ⟨G,0,none⟩ r) G 1 s').trans (oU ((w5.setCell ⟨G,0,none⟩ r).setCell ⟨G,1,none⟩ s') G 2 (.slice A3 me.length c3)));have Y5:=Y3.s3 r s' (.slice A3 me.length c3);have aN:=hm.n3 G oO r s' (.slice A3 me.length c3);have b6:=b2.mid aO;have a4:=aAb a6 aO (Or.inl oN);have aA:=OG.mid aX aO (Or.inl aj);have aG:=(oE (((w5.setCell ⟨G,0,none⟩ r).setCell ⟨G,1,none⟩ s').setCell ⟨G,2,none⟩ (.slice A3 me.length c3)) (.cells #[r,s',.slice A3 me.length c3] 35)).trans (oE _ (.cells #[p1,p2] 179));replace b6:=b6.mid aG oZr;replace Y5:=Y5.mid aG oZr;replace a4:=aAb a4 aG oZl;replace aN:=aN.trans aG;replace aA:=OG.mid aA aG oZl;have aa:(((((w5.setCell ⟨G,0,none⟩ r).setCell ⟨G,1,none⟩ s').setCell ⟨G,2,none⟩ (.slice A3 me.length c3)).alloc (.cells #[r,s',.slice A3 me.length c3] 35)).alloc (.cells #[p1,p2] 179)).heap.size=w5.heap.size+1+1:=by simp
 have HL:=oH a4;have HY:=oH Y5;have HB:=oH b6;have HM:=oH aN;have ah:=oH aA;clear a4 Y5 b6 aN aA aG aO a6 b2 hm aX aQ aC a8 a7 bh bp;go_wp2_with (at_builtin;refine aBq rfl _ _ rfl (G+1) Al nl cl ps rfl HL.out (p1,p2) (by rw[aa];rfl) oO (by rw[aa];omega) ?_;intro A9 c9 w9 ao aJ ak)
 have aT:=oF HL.out aJ;have aU:=(ah.out).2.1;have ai:=(aAh aU aZ).kept aJ (aBd aU HL.out oD);have aR:Value.ownBlock (.slice A3 me.length c3)≠some G:=fun h=>by have:=(aU.lt _ h).1;omega
 have Y9:=HY.out.mid aT (Or.inl oS);have aV:=aS.out;go_roundw
 case rel=>exact⟨i+1,m',s',me,A3,c3,A9,nl+1,c9,ps++[(p1,p2)],rfl,by go_num,oO,oO,aF,oO,aP,ao,oH ai,oH aR,HB.out.mid aT,Y9,HM.out.transNew aT oL⟩
 rw[aV,aCY Y9];omega
theorem aKS(r:Int)(n:Nat)(A:OA)(es:List Ed)(c:Nat)(w:World)(lo hi:Nat)(hr:RG w lo hi A es)(hg:IsGr r n es) :
  Calls Tryz.prog 183 #[aAJ r n A es.length c] w fun e w'=>∃ A1 c1 Al nl cl,e=.returned (.tuple #[aAJ r (trimA 40 ((n:Int),es)).1 A1 (trimA 40 ((n:Int),es)).2.length c1,.slice Al nl cl])/\OG w' w.heap.size w'.heap.size A1 c1 (trimA 40 ((n:Int),es)).2/\Mid 0 0 w w':=by
 have ab:n<=40:=by have:=hg.size;omega
 have hl:=hg.len;have a5:Mid 0 0 w ((w.alloc (.cells #[r,n,.slice A es.length c] 35)).alloc (.cells #[(0:Int),(0:Int),.slice none 0 0] 35)):=(oE _ _).trans (oE _ _);have b0:=(oJ w #[r,n,.slice A es.length c] 35).mid (oE _ (.cells #[(0:Int),(0:Int),.slice none 0 0] 35)) oZr;have b2:=oJ (w.alloc (.cells #[r,n,.slice A es.length c] 35)) #[(0:Int),(0:Int),.slice none 0 0] 35;simp only[World.size_alloc] at b2;have HG:=oH hg;obtain⟨T,hT⟩:∃ T,trimA 40 ((n:Int),es)=T:=⟨_,rfl⟩
 rw[hT];have HT:=oH hT;clear hg hT;go_enter Tryz.func183,Tryz.ntmps183
 go_wp2_with fail;generalize hw1:((w.alloc (.cells #[r,n,.slice A es.length c] 35)).alloc (.cells #[(0:Int),(0:Int),.slice none 0 0] 35))=w1 at a5 b0 b2 |-;clear hw1;with_reducible refine(aCk r n A es c _ _ _ (hr.mid a5 oZl) oO).mono ?_
 rintro en w2 ⟨A1,c1,rfl,ho,aN⟩;have aO:=a5.size;have ak:w.heap.size+1<w1.heap.size:=b2.1;replace b0:=b0.mid aN oZr;replace b2:=b2.mid aN oZr;replace a5:=a5.trans aN;have aP:=aN.size;have a1:=aAh (base':=w.heap.size+2) ho.ov.2.1 ak;have aJ:Value.ownBlock (.slice A1 es.length c1)≠some w2.heap.size:=fun h=>by have:=ho.ov.2.2 _ h;omega
 have a8:=(oE w2 (.cells #[r,n,.slice A1 es.length c1] 35)).trans (oE (w2.alloc (.cells #[r,n,.slice A1 es.length c1] 35)) (.cells #[] 3));have Y3:=(oJ w2 #[r,n,.slice A1 es.length c1] 35).mid (oE (w2.alloc (.cells #[r,n,.slice A1 es.length c1] 35)) (.cells #[] 3)) oZr;have O0:=aAd (w2.alloc (.cells #[r,n,.slice A1 es.length c1] 35)) 3 1;rw[World.size_alloc] at O0;have aK:=b0.1;obtain⟨p0,p1,p2⟩:=b0.c3 rfl;replace b0:=b0.mid a8 oZr;replace b2:=b2.mid a8 oZr;replace a1:=aAb a1 a8 oZl;replace a5:=a5.trans a8;go_wp2_with fail;clear p0 p1 p2;have ad:((w2.alloc (.cells #[r,n,.slice A1 es.length c1] 35)).alloc (.cells #[] 3)).heap.size=w2.heap.size+2:=by simp
 generalize hw3:(w2.alloc (.cells #[r,n,.slice A1 es.length c1] 35)).alloc (.cells #[] 3)=w3 at Y3 O0 b0 b2 a1 a5 ad |-;obtain⟨G,hG⟩:∃ G,w2.heap.size=G:=⟨_,rfl⟩
 rw[hG] at Y3 O0 aJ ad aP aK |-;clear hw3 a8 aN ho hG;have bC:w.heap.size+2<=G:=by omega
 clear ad aP ak aO aK;go_loopw [5,6] (fun l i wr=>∃(k:Nat) (Al:OA) (nl cl:Nat),k<=n/\i=.int .i64 k/\l=.slice Al nl cl/\Hid ((aQV k).length=nl)/\wr.ownsRow (G+1) 3 1 (.slice Al nl cl) nl (aAe (aQV k)) /\
   Hid (wr.ownsRow (w.heap.size+2) 110 3 (.slice A1 es.length c1) es.length (aAe (edI es)))/\Box wr w [r,n,.slice A es.length c]/\Box wr (w.heap.size+1) [(0:Int),(0:Int),.slice none 0 0]/\Box wr G [r,n,.slice A1 es.length c1]/\Mid 0 0 w wr) (fun _ i _=>n - (intOf i).toNat)
 case atStart=>exact⟨0,_,0,0,oZ,rfl,rfl,oH rfl,O0,oH a1,b0,b2,Y3,a5⟩
 clear O0 a1 b0 b2 Y3 a5;obtain⟨wo,b9⟩:∃ wo,wo=wr:=⟨_,rfl⟩
 subst b9;obtain⟨k,Al,nl,cl,hk,rfl,rfl,HN,a0,HE,b0,b2,Y3,hm⟩:=hrel;obtain rfl:k=nl:=by rw[<- HN.out,aJx]
 obtain⟨p0,p1,p2⟩:=b0.c3 rfl;by_cases hlt:k<n
 .have bH:(k:Int)<(n:Int):=by omega
  go_wp2_with fail;with_reducible refine(aBa r n A es c _ _ _ (hr.mid hm oZl).rv oO true (oX rfl HG.out)).mono ?_
  rintro en w4 ⟨rfl,a3⟩;have aI:=aAb HE.out a3 oZl;replace b0:=b0.mid a3 oZr;replace b2:=b2.mid a3 oZr;replace Y3:=Y3.mid a3 oZr;replace a0:=aAb a0 a3 oZl;replace hm:=hm.trans a3;have aV:G+1<=w4.heap.size:=Y3.1;have HL:=oH a0;clear a0 HE;go_wp2_with (at_builtin;refine aBp rfl _ _ rfl (G+1) Al k cl (aQV k) rfl HL.out k rfl oO aV ?_;intro A9 c9 w9 ay aL aW)
  clear aW;have aF:=oF HL.out aL;have aq:=aI.kept aL (aBd aI HL.out oD);go_roundw
  case rel=>exact⟨k+1,A9,k+1,c9,oO,by go_num,rfl,oH (by rw[aJx]),by rw[aNY];exact ay,oH aq,b0.mid aF,b2.mid aF,Y3.mid aF,hm.transNew aF oL⟩
  simp[intOf];omega
 obtain rfl:k=n:=by omega
 go_wp2_with fail;clear p0 p1 p2;have aV:=Y3.1;go_loopw [5,7] (fun l iv wr=>∃(i m s:Nat) (a2:List Ed) (A2:OA) (c2:Nat) (Al:OA) (cl:Nat) (xs:LI),l=.slice Al s cl/\iv=.int .i64 i/\i+m=40/\Hid (trimA m ((s:Int),a2)=T)/\s<=m/\Hid (IsGr r s a2)/\wr.ownsRow (G+1) 3 1 (.slice Al s cl) s (aAe xs) /\
   Hid (wr.ownsRow (w.heap.size+2) 110 3 (.slice A2 a2.length c2) a2.length (aAe (edI a2)))/\Hid (Value.ownBlock (.slice A2 a2.length c2)≠some G)/\Box wr w [r,k,.slice A es.length c]/\Box wr (w.heap.size+1) [(0:Int),(0:Int),.slice none 0 0]/\Box wr G [r,s,.slice A2 a2.length c2]/\Mid 0 0 w wr) (fun _ iv _=>40 - (intOf iv).toNat)
 case atStart=>exact⟨0,40,k,es,A1,c1,Al,cl,aQV k,rfl,rfl,oO,HT,ab,HG,a0,HE,oH aJ,b0,b2,Y3,hm⟩
 clear a0 HE b0 b2 Y3 hm HN aV;obtain⟨wj,b7⟩:∃ wj,wj=wr:=⟨_,rfl⟩
 subst b7;obtain⟨i,m,s,a2,A2,c2,Al,cl,xs,rfl,rfl,bF,HTm,bN,HGs,a0,HE,HBK,b0,b2,Y3,hm⟩:=hrel;have bM:1<=s:=by have:=HGs.out.size;omega
 have b4:s<=40:=by have:=HGs.out.size;omega
 have bK:=HGs.out.len;have ax:(i:Int)<40:=by omega
 obtain⟨p0,p1,p2⟩:=b0.c3 rfl;go_wp2_with fail;with_reducible refine(aBa r k A es c _ _ _ (hr.mid hm oZl).rv oO true (oX rfl HG.out)).mono ?_
 rintro en w4 ⟨rfl,a3⟩;have aI:=aAb HE.out a3 oZl;replace HE:=oH aI;replace b0:=b0.mid a3 oZr;replace b2:=b2.mid a3 oZr;replace Y3:=Y3.mid a3 oZr;replace a0:=aAb a0 a3 oZl;replace hm:=hm.trans a3;clear p0 p1 p2 aI a3;obtain⟨y0,y1,y2⟩:=Y3.c3 rfl;go_wp2_with fail;with_reducible refine(aKx r s A2 a2 c2 _ _ _ (aAz HE.out).rg HGs.out).mono ?_
 rintro en w5 ⟨rfl,a6⟩;have ag:=aAb HE.out a6 oZl;replace HE:=oH ag;replace b0:=b0.mid a6 oZr;replace b2:=b2.mid a6 oZr;replace Y3:=Y3.mid a6 oZr;replace a0:=aAb a0 a6 oZl;replace hm:=hm.trans a6;clear y0 y1 y2 ag a6;obtain⟨y0,y1,y2⟩:=Y3.c3 rfl;cases hlf:leaf s a2 with
|none=>
  have aA:=HTm.out;rw[aCt hlf] at aA;have aH:=oH aA;rw[aIm hlf];obtain⟨z0,z1,z2⟩:=b2.c3 rfl;have zf:=b2.2.2;have aC:=b2.1;clear aA hlf;go_wp2_with fail;have bD:(w.heap.size+1 == G)=false:=by simp;omega
  refine oW (v:=.tuple #[.agg #[r,s,.slice A2 a2.length c2],.slice Al s cl]) (by simp[results,Tryz.results183,go_sem,z0,z1,z2,zf,y0,y1,y2]) rfl ⟨A2,c2,Al,s,cl,by rw[<- aH.out],?_,?_⟩
  .rw[<- aH.out]
   have h0:OG w5 (w.heap.size+2) w5.heap.size A2 c2 a2:=⟨oN,HE.out,fun g hg=>(HE.out.lt g hg).2⟩
   refine OG.wide (OG.mid h0 (a:=w.heap.size+1) (b:=w.heap.size+2) ?_ (Or.inl oN)) oO oM oN;repeat (first|exact Mid.refl _ _ _|refine Mid.stored ?_ _ (by simp;try omega) (by simp;try omega))
  repeat (first|exact hm|refine oQ ?_ (by simp;try omega) _)
|some g=>
  obtain⟨ar,aM, -⟩:=aDj hlf;have aw:g<s:=by omega
  obtain⟨m',rfl⟩:∃ m',m=m'+1:=⟨m - 1,oO⟩
  have aA:=HTm.out;rw[aCH hlf] at aA;have aH:=oH aA;have af:=oH (aOp (g:=((s:Int),a2)) HGs.out ar aM);rw[aGf hlf];have bB:decide ((g:Int)<0)=false:=by simp
  clear aA hlf aM;obtain⟨wk,b8⟩:∃ wk,wk=w5:=⟨_,rfl⟩
  subst b8;go_wp2_with fail;have a8:=(oE wk (.cells #[] 3)).trans (oE (wk.alloc (.cells #[] 3)) (.cells #[] 3));have T0:TwoI ((wk.alloc (.cells #[] 3)).alloc (.cells #[] 3)) wk (.slice (some ⟨wk,0,none⟩) 0 0) (.slice (some ⟨wk.heap.size+1,0,none⟩) 0 0) 0 0 [] []:=by
   refine⟨(aAd wk 3 1).alloc _,?_,?_⟩
   .have h:=aAd (wk.alloc (.cells #[] 3)) 3 1
    rw[World.size_alloc] at h;exact aAh h (Nat.le_succ _)
   simp[Value.ownBlock]
  clear y0 y1 y2;go_loopw [9,10,11] (fun o rs kv wr=>∃(kk:Nat) (Ao:OA) (co:Nat) (Ar:OA) (cr no:Nat) (ys:LI),kk<=s/\kv=.int .i64 kk/\o=.slice Ao no co/\rs=.slice Ar no cr/\Hid ((but g kk).length=no)/\Hid (TwoI wr wk.heap.size (.slice Ao no co) (.slice Ar no cr) no no (but g kk) ys)/\Mid 0 0 wk wr) (fun _ _ kv _=>s - (intOf kv).toNat)
  case atStart=>exact⟨0,_,0,_,0,0,[],oZ,rfl,rfl,rfl,oH rfl,oH T0,a8⟩
  clear T0 a8;obtain⟨kk,Ao,co,Ar,cr,no,ys,bJ,rfl,rfl,rfl,HNo,HT2,a9⟩:=hrel;have bL:no<=40:=by
   have h1:(but g kk).length<=kk:=by unfold but;rw[List.length_map];exact oV (List.length_filter_le _ _) oM
   have h2:=HNo.out;omega
  have Y4:=Y3.mid a9 oZr;obtain⟨y0,y1,y2⟩:=Y4.c3 rfl;by_cases hlt:kk<s
  .have aC:=aHj g kk
   have bI:(kk:Int)<(s:Int):=by omega
   have bG:(0:Int)<=(kk:Int):=by omega
   by_cases hkg:kk=g
   .have d3:((kk:Int) != (g:Int))=false:=by simp;omega
    rw[if_pos hkg] at aC;have aG:=oH aC;clear aC hkg;go_wp2_with fail;go_roundw
    case rel=>exact⟨kk+1,Ao,co,Ar,cr,no,ys,oO,by go_num,rfl,rfl,by rw[aG.out];exact HNo,by rw[aG.out];exact HT2,a9⟩
    simp[intOf];omega
   have d3:((kk:Int) != (g:Int))=true:=by simp;omega
   rw[if_neg hkg] at aC;have aG:=oH aC;have b5:=a9.size;obtain⟨gl,rfl,au,av⟩:=aAS a0 (show 0<s by omega);obtain⟨y,hy⟩:=aAy xs (show kk<xs.length by have h:=a0.1;simp[aAe] at h;omega);have bA:∀ W:World,Mid wk W wk W->True:=fun _ _=>trivial;have an:=oH a0;have HY:=oH hy;clear aC hkg hy bA;go_wp2_with (first|(at_builtin;refine aIP rfl _ _ rfl wk Ao no co (but g kk) _ _ _ rfl HT2.out kk rfl oO b5 ?_;intro A7 c7 w7 al az;have aa:=a9.transNew az (Or.inl oN);have bE:=((aAb an.out aa oZl).cellAt kk oO).trans (show(aAe xs)[kk]?=some (.int .i64 y) by simp[aAe,HY.out]);have ae:=aa.size;have ap:=oH al.swap;clear al)|(at_builtin;refine aIP rfl _ _ rfl wk Ar no cr ys _ _ _ rfl ap.out y rfl oO ae ?_;intro A9 c9 w9 b6 aF))
   go_roundw
   case rel=>exact⟨kk+1,A7,c7,A9,c9,no+1,ys++[y],oO,by go_num,rfl,rfl,oH (by rw[aG.out,List.length_append,HNo.out];rfl),oH (by rw[aG.out];exact b6.swap),aa.transNew aF (Or.inl oN)⟩
   simp[intOf];omega
  obtain rfl:kk=s:=by omega
  have aS:(but g kk).length=no:=HNo.out;have ai:no=kk - 1:=by rw[<- aS,aIb g aw]
  obtain⟨a7,aD⟩:∃ a7,aCN (but g kk) a2=a7:=⟨_,rfl⟩
  have aY:aOe ((kk:Int),a2) g=((no:Int),a7):=by unfold aOe;simp only[Int.toNat_natCast];rw[aS,aD]
  have ah:=aAb HE.out a9 oZl;have hP:=aEk r kk A2 a2 c2 Ao (but g kk) co wr _ _ _ _ (aAz ah).rg (aAz HT2.out.f) HGs.out (aHi g kk) (fun x hx=>aJJ hx) oO;have ao:=oH ai;rw[aS,aD] at hP;have HP:=oH hP;have aB:=aH.out;rw[aY] at aB;have aE:=af.out;rw[aY] at aE;have aU:=oH aB;have am:=oH aE;have aR:G+1<=wk.heap.size:=Y3.1;have aQ:=HT2.out.t;clear hP aB aE aY aD aS aH af HE ah ai;go_wp2_with fail;with_reducible refine HP.out.mono ?_
  rintro en w8 ⟨A3,c3,rfl,b1,aZ⟩;clear HP;have b3:wk.heap.size<=wr.heap.size:=a9.size;replace aQ:=aAb aQ aZ oZl;have a4:=a9.trans aZ;clear Y4 y0 y1 y2;replace b0:=b0.mid a4 oZr;replace b2:=b2.mid a4 oZr;replace Y3:=Y3.mid a4 oZr;replace hm:=hm.trans a4;clear a9 aZ a4;obtain⟨y0,y1,y2⟩:=Y3.c3 rfl;have yf:=Y3.2.2;go_wp2_with fail;have aT:=(oU w8 G 0 r).trans ((oU (w8.setCell ⟨G,0,none⟩ r) G 1 no).trans (oU ((w8.setCell ⟨G,0,none⟩ r).setCell ⟨G,1,none⟩ no) G 2 (.slice A3 a7.length c3)));have Y5:=Y3.s3 r no (.slice A3 a7.length c3);have a6:=hm.n3 G oO r no (.slice A3 a7.length c3);replace b0:=b0.mid aT;replace b2:=b2.mid aT;replace aQ:=aAh (aAb aQ aT (Or.inl aR)) aR;have aj:=(OG.mid b1 aT oL).ov.2.1;have aX:Value.ownBlock (.slice A3 a7.length c3)≠some G:=fun h=>by have:=(aj.lt _ h).1;omega
  go_roundw
  case rel=>exact⟨i+1,m',no,a7,A3,c3,Ar,cr,ys,rfl,by go_num,oO,aU,by have:=ao.out;omega,am,aQ,oH (aAh aj oO),oH aX,b0,b2,Y5,a6⟩
  simp[intOf];omega
theorem aFh{r:Int}{g:Int × List Ed}(h:IsGr r g.1 g.2):∃(n:Nat) (es:List Ed),g=((n:Int),es)/\IsGr r n es:=by
 obtain⟨s,es⟩:=g;have h1:1<=s:=h.size.1;obtain⟨n,rfl⟩:∃ n:Nat,s=n:=⟨s.toNat,oO⟩
 exact⟨n,es,rfl,h⟩
theorem aVm{w:World}{lo hi:Nat}{A:OA}{c:Nat}{es:List Ed}(h:OG w lo hi A c es):es.length<=c:=by
 obtain⟨A',c',a0,a2,a1⟩:=aAc h.ov.2.1;injection a0 with _ _ a0
 omega
theorem aDd(r n:Nat)(A:OA)(es:List Ed)(c:Nat)(w:World)(lo hi:Nat)(hr:RG w lo hi A es)(hg:IsGr r n es) :
  Calls Tryz.prog 104 #[aAJ r n A es.length c] w fun e w'=>∃ A1 c1,e=.returned (aAJ r (coreA r ((n:Int),es)).1 A1 (coreA r ((n:Int),es)).2.length c1)/\OG w' w.heap.size w'.heap.size A1 c1 (coreA r ((n:Int),es)).2/\Mid 0 0 w w':=by
 obtain⟨f,fs,hF,a9⟩:=aFh (aHr 40 (g:=((n:Int),es)) hg);obtain⟨t,ts,hT,aA⟩:=aFh (aHW 40 (g:=((f:Int),fs)) a9);obtain⟨q,qs,hQ, -⟩:=aFh (aFA (g:=((t:Int),ts)) aA);have a1:coreA r ((n:Int),es)=((q:Int),qs):=by rw[coreA,hF,hT,hQ]
 rw[a1];have a0:Mid 0 0 w ((w.alloc (.cells #[r,n,.slice A es.length c] 35)).alloc (.cells #[(0:Int),(0:Int),.slice none 0 0] 35)):=(oE _ _).trans (oE _ _);have b2:=oJ (w.alloc (.cells #[r,n,.slice A es.length c] 35)) #[(0:Int),(0:Int),.slice none 0 0] 35;simp only[World.size_alloc] at b2;have HG:=oH hg;have aF:=oH a9;have aG:=oH aA;have HF:=oH hF;have HT:=oH hT;have HQ:=oH hQ;clear hg a9 aA hF hT hQ a1;go_enter Tryz.func104,Tryz.ntmps104
 go_wp2_with fail;generalize ((w.alloc (.cells #[r,n,.slice A es.length c] 35)).alloc (.cells #[(0:Int),(0:Int),.slice none 0 0] 35))=w1 at a0 b2 |-;have a6:=aNP r n A es c w1 _ _ (hr.mid a0 oZl) HG.out;rw[HF.out] at a6;with_reducible refine a6.mono ?_
 rintro en w2 ⟨A1,c1,Al,nl,cl,rfl,a4,aB⟩;clear a6;have aI:w.heap.size+1<w1.heap.size:=b2.1;have aJ:=aB.size;have a2:=oE w2 (.cells #[r,f,.slice A1 fs.length c1] 35);have Y1:=oJ w2 #[r,f,.slice A1 fs.length c1] 35;replace b2:=b2.mid aB oZr;replace a0:=a0.trans aB;replace b2:=b2.mid a2 oZr;replace a4:=a4.mid a2 oZl;replace a0:=a0.trans a2;dsimp only;go_wp2_with fail;generalize w2.alloc (.cells #[r,f,.slice A1 fs.length c1] 35)=w3 at a0 b2 a4 Y1 a2 |-;have a7:=aKS r f A1 fs c1 w3 _ _ (OG.rg a4) aF.out;rw[HT.out] at a7;with_reducible refine a7.mono ?_
 rintro en w4 ⟨A3,c3,Al3,aN,aH,rfl,a5,aC⟩;clear a7;have aK:=a2.size;have aL:=aC.size;have a3:=oE w4 (.cells #[r,t,.slice A3 ts.length c3] 35);replace b2:=b2.mid aC oZr;replace a0:=a0.trans aC;replace b2:=b2.mid a3 oZr;replace a5:=a5.mid a3 oZl;replace a0:=a0.trans a3;dsimp only;go_wp2_with fail;generalize w4.alloc (.cells #[r,t,.slice A3 ts.length c3] 35)=w5 at a0 b2 a5 a3 |-;have a8:=aDS r t A3 ts c3 w5 _ _ (OG.rg a5) aG.out;rw[HQ.out] at a8;with_reducible refine a8.mono ?_
 rintro en w6 ⟨A5,c5,rfl,aE,aD⟩;clear a8;have aM:=a3.size;replace b2:=b2.mid aD oZr;replace a0:=a0.trans aD;obtain⟨z0,z1,z2⟩:=b2.c3 rfl;have zf:=b2.2.2;dsimp only at aE;dsimp only;go_wp2_with fail;refine oW (v:=.agg #[r,q,.slice A5 qs.length c5]) (by simp[results,Tryz.results104,go_sem,z0,z1,z2,zf]) rfl ⟨A5,c5,rfl,?_,?_⟩
 .refine OG.wide (OG.mid aE (a:=w.heap.size+1) (b:=w.heap.size+2) ?_ oL) oO oM oN
  repeat (first|exact Mid.refl _ _ _|refine Mid.stored ?_ _ (by simp;try omega) (by simp;try omega))
 repeat (first|exact a0|refine oQ ?_ (by simp;try omega) _)
theorem aEn(r n:Nat)(A:OA)(es:List Ed)(c:Nat)(w:World)(lo hi:Nat)(hr:RG w lo hi A es)(hg:IsGr r n es) :
  Calls Tryz.prog 119 #[aAJ r n A es.length c] w fun e w'=>∃ A1 c1,e=.returned (aAJ r (coreA r ((n:Int),es)).1 A1 (coreA r ((n:Int),es)).2.length c1)/\OG w' w.heap.size w'.heap.size A1 c1 (coreA r ((n:Int),es)).2/\Mid 0 0 w w':=by
 obtain⟨f,fs,hF,a9⟩:=aFh (aHr 40 (g:=((n:Int),es)) hg);obtain⟨t,ts,hT,aA⟩:=aFh (aHW 40 (g:=((f:Int),fs)) a9);obtain⟨q,qs,hQ, -⟩:=aFh (aFA (g:=((t:Int),ts)) aA);have a1:coreA r ((n:Int),es)=((q:Int),qs):=by rw[coreA,hF,hT,hQ]
 rw[a1];have a0:Mid 0 0 w ((w.alloc (.cells #[r,n,.slice A es.length c] 35)).alloc (.cells #[(0:Int),(0:Int),.slice none 0 0] 35)):=(oE _ _).trans (oE _ _);have b2:=oJ (w.alloc (.cells #[r,n,.slice A es.length c] 35)) #[(0:Int),(0:Int),.slice none 0 0] 35;simp only[World.size_alloc] at b2;have HG:=oH hg;have aF:=oH a9;have aG:=oH aA;have HF:=oH hF;have HT:=oH hT;have HQ:=oH hQ;clear hg a9 aA hF hT hQ a1;go_enter Tryz.func119,Tryz.ntmps119
 go_wp2_with fail;generalize ((w.alloc (.cells #[r,n,.slice A es.length c] 35)).alloc (.cells #[(0:Int),(0:Int),.slice none 0 0] 35))=w1 at a0 b2 |-;have a6:=aNl r n A es c w1 _ _ (hr.mid a0 oZl) HG.out;rw[HF.out] at a6;with_reducible refine a6.mono ?_
 rintro en w2 ⟨A1,c1,Al,nl,cl,rfl,a5,aB⟩;clear a6;have aI:w.heap.size+1<w1.heap.size:=b2.1;have aJ:=aB.size;have a2:=oE w2 (.cells #[r,f,.slice A1 fs.length c1] 35);have Y1:=oJ w2 #[r,f,.slice A1 fs.length c1] 35;replace b2:=b2.mid aB oZr;replace a0:=a0.trans aB;replace b2:=b2.mid a2 oZr;replace a5:=a5.mid a2 oZl;replace a0:=a0.trans a2;dsimp only;go_wp2_with fail;generalize w2.alloc (.cells #[r,f,.slice A1 fs.length c1] 35)=w3 at a0 b2 a5 Y1 a2 |-;have a7:=aGw r f A1 fs c1 w3 _ _ (OG.rg a5) aF.out;rw[HT.out] at a7;with_reducible refine a7.mono ?_
 rintro en w4 ⟨A3,c3,Al3,aN,aH,rfl,a4,aC⟩;clear a7;have aK:=a2.size;have aL:=aC.size;have a3:=oE w4 (.cells #[r,t,.slice A3 ts.length c3] 35);replace b2:=b2.mid aC oZr;replace a0:=a0.trans aC;replace b2:=b2.mid a3 oZr;replace a4:=a4.mid a3 oZl;replace a0:=a0.trans a3;dsimp only;go_wp2_with fail;generalize w4.alloc (.cells #[r,t,.slice A3 ts.length c3] 35)=w5 at a0 b2 a4 a3 |-;have a8:=aDH r t A3 ts c3 w5 _ _ (OG.rg a4) (aVm a4) aG.out;rw[HQ.out] at a8;with_reducible refine a8.mono ?_
 rintro en w6 ⟨A5,c5,rfl,aE,aD⟩;clear a8;have aM:=a3.size;replace b2:=b2.mid aD oZr;replace a0:=a0.trans aD;obtain⟨z0,z1,z2⟩:=b2.c3 rfl;have zf:=b2.2.2;dsimp only at aE;dsimp only;go_wp2_with fail;refine oW (v:=.agg #[r,q,.slice A5 qs.length c5]) (by simp[results,Tryz.results119,go_sem,z0,z1,z2,zf]) rfl ⟨A5,c5,rfl,?_,?_⟩
 .refine OG.wide (OG.mid aE (a:=w.heap.size+1) (b:=w.heap.size+2) ?_ oL) oO oM oN
  repeat (first|exact Mid.refl _ _ _|refine Mid.stored ?_ _ (by simp;try omega) (by simp;try omega))
 repeat (first|exact a0|refine oQ ?_ (by simp;try omega) _)
theorem aMj(w:World)(e:TypeId)(u:Value):(w.alloc (.cells #[u] e)).ownsRow w e 1 (.slice (some ⟨w,0,none⟩) 1 1) 1 [u]:=
 ⟨rfl,.inr ⟨w.heap.size,1,#[u],rfl,oN,heap_alloc_new w _,oN,by unfold maxLen;omega,rfl,rfl⟩⟩
end Go.Proofs.YtkimajabegojoaaGreat
