/- Lemmas. -/
import Derived.Test.YtkimajabegojoaaGreatMo8
import Derived.Test.YtkimajabegojoaaGreatMo7
import Derived.Test.YtkimajabegojoaaGreatMo9
import Derived.Test.YtkimajabegojoaaGreatMo2
import Derived.Test.YtkimajabegojoaaGreatMo6
import Derived.Test.YtkimajabegojoaaGreatMo3
import Derived.Test.YtkimajabegojoaaGreatMo1
import Derived.IntWalk
import Derived.Maps.OwnSet
import Derived.DeepKeys4
namespace Go.Proofs.YtkimajabegojoaaGreat
set_option linter.unusedVariables false
set_option linter.unusedSimpArgs false
set_option maxHeartbeats 40000000
set_option maxRecDepth 100000
open Go.RowKit
theorem RSS.lit{w:World}(rows:List Row)(a0:TypeId)(h:∀ r∈rows,Rs w w r.A (aAe r.xs)):RSS (w.alloc (.cells (aBi rows).toArray a0)) 0 (w.heap.size+1) (some ⟨w,0,none⟩) (aAt rows):=by
 refine⟨rows,rfl,⟨by simp,fun _=>⟨w.heap.size,0,rfl,oZ,oS,fun j u hu=>?_⟩⟩,fun r hr=>⟨by simp,fun hn=>?_⟩⟩
 .rw[Nat.zero_add,World.cell?_alloc_new]
  simpa using hu
 obtain⟨b,a1,e,hb,hc⟩:=(h r hr).alloc oN (.cells (aBi rows).toArray a0) hn;exact⟨b,a1,e,oZ,oO,hc⟩
theorem aPE{r s:Int}{es:List Ed}(h:IsFol r s es){wd:LI}:aLC es (red [] wd)↔InS es wd:=by
 rw[aUr h];unfold aLC;constructor
 .rintro⟨h1,h2⟩
  exact Prod.ext h2 h1
 intro e;rw[e];exact⟨rfl,rfl⟩
theorem aHy(A:OA)(xs:LI)(c:Nat)(w:World)(B:Nat)(hr:Rs w B A (aAe xs))(hB:B<=w.heap.size)(a0:OkI xs)(hl:xs.length<=268435456) :
  Calls Tryz.prog 131 #[.slice A xs.length c] w fun e w'=>∃ A2 c2,e=.returned (.slice A2 (red [] xs).length c2)/\w'.ownsRow w.heap.size 3 1 (.slice A2 (red [] xs).length c2) (red [] xs).length (aAe (red [] xs))/\Mid 0 0 w w':=by
 have h:=RSS.lit (w:=w) [⟨A,c,xs⟩] 44 (by intro r a1;simp at a1;rcases a1 with rfl;exact hr.more hB);have h2:=aEe (some ⟨w,0,none⟩) [xs] 1 _ _ _ h (by intro zs hz;simp at hz;rcases hz with rfl;exact a0) oM (by simp[aAK];omega);have e:[xs].flatten=xs:=by simp
 rw[e] at h2;have H2:Hid (Calls Tryz.prog 110 #[.slice (some ⟨w,0,none⟩) 1 1] (w.alloc (.cells #[.slice A xs.length c] 44)) fun e w'=>RetI 3 (red [] xs) (w.alloc (.cells #[.slice A xs.length c] 44)) e w'):=oH h2;have a2:=oE w (.cells #[.slice A xs.length c] 44);have a3:(w.alloc (.cells #[.slice A xs.length c] 44)).heap.size=w.heap.size+1:=by simp
 clear h h2 e a0;go_enter Tryz.func131,Tryz.ntmps131
 go_wp2_with fail;with_reducible refine H2.out.mono ?_
 rintro e w2 ⟨A2,c2,rfl,ho,hb⟩;go_wp2_with fail;go_ret;exact⟨A2,c2,rfl,aAh ho oO,a2.trans (Mid.of_below hb)⟩
theorem aLS(r s:Int)(A:OA)(es:List Ed)(c:Nat)(Aw:OA)(wd:LI)(cw:Nat)(w:World)(lo hi lo' hi':Nat)(hr:RG w lo hi A es)(hw:RV w lo' hi' Aw (aAe wd))(hl:es.length<=1048576)(aD:es.length<=c)(aK:wd.length<=1048576)(a7:OkI wd)(b:Bool)(hb:b=true↔IsCor r s es/\InS es wd) :
  Calls Tryz.prog 49 #[aAJ r s A es.length c,.slice Aw wd.length cw] w fun e w'=>e=.returned (.bool b)/\Mid 0 0 w w':=by
 have a0:Mid 0 0 w (w.alloc (.cells #[r,s,.slice A es.length c] 35)):=oE _ _;have b0:=oJ w #[r,s,.slice A es.length c] 35;have HB:=oH hb;have a9:=oH a7;have a5:=oH (fun W (h:RV W lo' hi' Aw (aAe wd))=>aHy Aw wd cw W hi' h.rs h.1 a7 oO);clear hb a7;by_cases h:IsCor r s es
 focus
  obtain⟨r,n,rfl,rfl⟩:=h.gr.nat;have HC:=oH h;clear h;have aH:(red [] wd).length<=1048576:=by have:=aBu wd;omega
  have aA:=oH (aNH a9.out);obtain⟨aI,a8⟩:∃ x,red [] wd=x:=⟨_,rfl⟩
  have hL:b=true↔aLC es aI:=by
   rw[<- a8,aPE HC.out.fol,HB.out];exact⟨fun h=>h.2,fun h=>⟨HC.out,h⟩⟩
  have HL:=oH hL;rw[a8] at a5 aH aA;clear HB a8 hL;go_enter Tryz.func49,Tryz.ntmps49
  go_wp2_with fail;generalize (w.alloc (.cells #[r,n,.slice A es.length c] 35))=w1 at a0 b0 |-;have a3:=Mid.drew1 w1;replace b0:=b0.mid a3 oZr;replace a0:=a0.trans a3;obtain⟨p0,p1,p2⟩:=b0.c3 rfl;clear a3;refine aAo (S:=(fun w'=>w'.cell? ⟨w,0,none⟩=some (.int .i64 r)/\w'.cell? ⟨w,1,none⟩=some (.int .i64 n)/\w'.cell? ⟨w,2,none⟩=some (.slice A es.length c))) [] oK ⟨p0,p1,p2⟩ ?_;generalize World.drew w1=wz at b0 a0 p0 p1 p2 |-;have hS:wz.cell? ⟨w,0,none⟩=some (.int .i64 r)/\wz.cell? ⟨w,1,none⟩=some (.int .i64 n)/\wz.cell? ⟨w,2,none⟩=some (.slice A es.length c):=⟨p0,p1,p2⟩
  refine tkZ [] 0 rfl hS ?_;try simp only[oP]
  refine rdZ 1 rfl (fun K hK=>?_)
  (go_simp;(with_reducible refine(aBl r n A es c _ _ _ (hr.mid a0 oZl) hl aD true (oX rfl HC.out)).mono ?_);rintro en w4 ⟨rfl,a4⟩;have a2:=b0.mid a4 oZr;go_wp2_with fail)
  refine hK.out _ _ (Or.inr (a2.c3 rfl)) (fun _=>?_);clear hK K;try simp only[oP]
  replace a0:=a0.trans a4;clear hS p0 p1 p2 b0;have a1:=a2.c3 rfl;refine tkZ [] 2 rfl a1 ?_;try simp only[oP]
  refine tkZ [] 3 rfl a1 ?_;try simp only[oP]
  refine tkZ [] 4 rfl a1 ?_;try simp only[oP]
  clear a1;refine rdZ 5 rfl (fun K hK=>?_)
  (go_simp;(with_reducible refine(a5.out _ (hw.mid a0 oZl)).mono ?_);rintro en w5 ⟨A5,c5,rfl,aG,aE⟩;have a6:=a2.mid aE oZr;go_wp2_with fail)
  refine hK.out _ _ (Or.inr (a6.c3 rfl)) (fun _=>?_);clear hK K;try simp only[oP]
  replace a0:=a0.trans aE;clear a2;refine rdZ 6 rfl (fun K hK=>?_)
  (go_simp;(with_reducible refine(aQA r n A es c A5 aI c5 _ _ _ _ _ (hr.mid a0 oZl) (RV.of_rs (Rs.of_own aG) oN) HC.out.gr aH aA.out b HL.out).mono ?_);rintro en w6 ⟨rfl,aF⟩;have aB:=a6.mid aF oZr;go_wp2_with fail)
  refine hK.out _ _ (Or.inr (aB.c3 rfl)) (fun _=>?_);clear hK K;try simp only[oP]
  replace a0:=a0.trans aF;clear a6 aG;have aC:=aB.c3 rfl;refine tkZ [] 7 rfl aC ?_;try simp only[oP]
  refine rdZ 8 rfl (fun K hK=>?_);go_simp;refine hK.out _ _ (Or.inr aC) (fun _=>?_)
 rotate_left
 focus
  have aJ:b=false:=by
   cases b
   .rfl
   exact absurd (HB.out.mp rfl).1 h
  subst aJ;have HN:=oH h;clear h HB a5 a9;go_enter Tryz.func49,Tryz.ntmps49
  go_wp2_with fail;generalize (w.alloc (.cells #[r,s,.slice A es.length c] 35))=w1 at a0 b0 |-;have a3:=Mid.drew1 w1;replace b0:=b0.mid a3 oZr;replace a0:=a0.trans a3;obtain⟨p0,p1,p2⟩:=b0.c3 rfl;clear a3;refine aAo (S:=(fun w'=>w'.cell? ⟨w,0,none⟩=some (.int .i64 r)/\w'.cell? ⟨w,1,none⟩=some (.int .i64 s)/\w'.cell? ⟨w,2,none⟩=some (.slice A es.length c))) [] oK ⟨p0,p1,p2⟩ ?_;generalize World.drew w1=wz at b0 a0 p0 p1 p2 |-;have hS:wz.cell? ⟨w,0,none⟩=some (.int .i64 r)/\wz.cell? ⟨w,1,none⟩=some (.int .i64 s)/\wz.cell? ⟨w,2,none⟩=some (.slice A es.length c):=⟨p0,p1,p2⟩
  refine tkZ [] 0 rfl hS ?_;try simp only[oP]
  refine rdZ 1 rfl (fun K hK=>?_)
  (go_simp;(with_reducible refine(aBl r s A es c _ _ _ (hr.mid a0 oZl) hl aD false (iff_of_false oM HN.out)).mono ?_);rintro en w4 ⟨rfl,a4⟩;have a2:=b0.mid a4 oZr;go_wp2_with fail)
  refine hK.out _ _ (Or.inr (a2.c3 rfl)) (fun _=>?_);clear hK K;try simp only[oP]
  replace a0:=a0.trans a4;clear hS p0 p1 p2 b0;have a1:=a2.c3 rfl;refine tkZ [] 2 rfl a1 ?_;try simp only[oP]
  refine aFU [] (i:=3) rfl oK oK oK oK (fun _ _ _ h=>h) (Or.inr ⟨by rfl,rfl⟩) a1 ?_;try simp only[oP]
  refine aFU [] (i:=4) rfl oK oK oK oK (fun _ _ _ h=>h) (Or.inr ⟨by rfl,rfl⟩) a1 ?_;try simp only[oP]
  refine rdZ 5 rfl (fun K hK=>?_);go_simp;refine hK.out _ _ (Or.inr a1) (fun _=>?_);clear hK K;try simp only[oP]
  refine rdZ 6 rfl (fun K hK=>?_);go_simp;refine hK.out _ _ (Or.inr a1) (fun _=>?_);clear hK K;try simp only[oP]
  refine tkZ [] 7 rfl a1 ?_;try simp only[oP]
  refine rdZ 8 rfl (fun K hK=>?_);go_simp;refine hK.out _ _ (Or.inr a1) (fun _=>?_)
 rotate_left
 all_goals
  clear hK K;try simp only[oP]
  refine aAj oK ?_ _;go_wp2_with fail;go_ret;exact⟨rfl,a0⟩
theorem aQb{r s:Int}{es:List Ed}(hf:IsFol r s es)(ht:Tot r s es):∀ {w:LI} {u:Int},(0<=u/\u<s)->(∀ x∈w,x≠0/\-r<=x/\x<=r)->∃ v,Pa es u w v
|[],u,_,_=>⟨u,rfl⟩
|x::w,u,hu,hw=>by
  obtain⟨h0,h1,h2⟩:=hw x List.mem_cons_self;obtain⟨t,a0⟩:=ht u hu.1 hu.2 x h0 h1 h2;obtain⟨v,hv⟩:=aQb hf ht (a0.rng hf.gr.all).2.1 fun y hy=>hw y (List.mem_cons_of_mem _ hy);exact⟨v,t,a0,hv⟩
theorem aUm{r s:Int}{es:List Ed}(h:IsFin r s es):Tot r s es:=fun v h0 h1 x hx h2 h3=>by
 have hr:=h.cor.gr.rank;have:=h.full v.toNat oO x (aAU.2 oO);rw[Int.toNat_of_nonneg h0] at this;exact⟨_,aCs this⟩
theorem aHR(rank:Int)(A:OA)(l:LL)(c:Nat)(w:World)(lo hi:Nat)(hr:RSS w lo hi A l)(hl:l.length+aAK l<=1048576)(bW:(Lit.int .i64 rank).wf=true)(rr rs:Int)(aO:List Ed)(b:Bool)(aJ:GActIs rank l rr rs aO b) :
  Calls Tryz.prog 162 #[.int .i64 rank,.slice A l.length c] w fun e w'=>∃ A1 c1,e=.returned (.tuple #[aAJ rr rs A1 aO.length c1,.bool b])/\OG w' w.heap.size w'.heap.size A1 c1 aO/\Mid 0 0 w w':=by
 have HR:=oH aJ;clear aJ;obtain⟨b1,aV⟩:=aAF (1<=rank/\rank<=3);have H1:=oH aV;have aq:=aJm aV;clear aV;have a6:Mid 0 0 w (w.alloc (.cells #[(0:Int),(0:Int),.slice none 0 0] 35)):=oE _ _;have B2:=oJ w #[(0:Int),(0:Int),.slice none 0 0] 35;go_enter Tryz.func162,Tryz.ntmps162
 go_wp2_with fail;generalize w.alloc (.cells #[(0:Int),(0:Int),.slice none 0 0] 35)=w1 at a6 B2 |-;have bC:w.heap.size<w1.heap.size:=B2.1;with_reducible refine(aBQ aq _).mono ?_
 rintro en w2 ⟨rfl,rfl⟩;cases b1 with
|false=>
  have a5:¬ GActOk rank l (n0L l):=fun h=>by have:=H1.out.2 h.rk;cases this
  obtain⟨rfl,rfl,rfl,rfl⟩:=HR.out.no a5;obtain⟨z0,z1,z2⟩:=B2.c3 rfl;have zf:=B2.2.2;go_wp2_with fail;refine oW (v:=.tuple #[.agg #[(0:Int),(0:Int),.slice none 0 0],.bool false]) (by simp[results,Tryz.results162,go_sem,z0,z1,z2,zf]) rfl ⟨none,0,rfl,OG.nil,?_⟩;repeat (first|exact a6|refine oQ ?_ (by simp;try omega) _)
|true=>
 have bB:=H1.out.1 rfl;clear H1 aq;by_cases hln:(l.length:Int)=rank
 .have dl:((l.length:Int) != rank)=false:=by simpa using hln
  obtain⟨B0,o0,Ap0,bG,p0,rfl, -,bH,af,aW, -⟩:=(hr.mid a6 oZl).row (k:=0) oO;have aR:B0<w1.heap.size:=by have:=(hr.mid a6 oZl).size;omega
  have ad:=aTQ af;have ag:p0.length<=1048576:=by have:=aBm (oG af);omega
  simp only[Nat.add_zero] at aW;generalize hnn:p0.length=n at aW ad ag;have aD:=oH ad;clear af ad hnn;have bZ:(0:Int)<(l.length:Int):=by omega
  have aL:=oH hln;clear hln;by_cases hz:n=0
  .have a5:¬ GActOk rank l n:=fun h=>by have:=h.n0;omega
   have dz:((n:Int) == 0)=true:=by rw[hz];rfl
   obtain⟨rfl,rfl,rfl,rfl⟩:=HR.out.no (by rw[aD.out];exact a5);obtain⟨z0,z1,z2⟩:=B2.c3 rfl;have zf:=B2.2.2;go_wp2_with fail;refine oW (v:=.tuple #[.agg #[(0:Int),(0:Int),.slice none 0 0],.bool false]) (by simp[results,Tryz.results162,go_sem,z0,z1,z2,zf]) rfl ⟨none,0,rfl,OG.nil,?_⟩;repeat (first|exact a6|refine oQ ?_ (by simp;try omega) _)
  have dz:((n:Int) == 0)=false:=by simp only[beq_eq_false_iff_ne];omega
  have aU:=oE w1 (.cells #[rank,n,.slice none 0 0] 35);have Y3:=oJ w1 #[rank,n,.slice none 0 0] 35;have Y2:=B2.mid aU oZr;have ab:=a6.trans aU;go_wp2_with fail;generalize w1.alloc (.cells #[rank,n,.slice none 0 0] 35)=w3 at Y2 Y3 ab |-;have bD:w1.heap.size<w3.heap.size:=Y3.1;clear aU a6 B2 aW;generalize hG:w1.heap.size=Gb at Y3 bC bD aR |-;clear hG;have bL:=hr.size;go_loopw [7] (fun i wr=>∃(k:Nat) (A2:OA) (c2 aX:Nat) (xs:List Ed),k<=l.length/\i=.int .i64 k/\Hid (xs=canon (aBM l k))/\Hid (∀ p∈l.take k,aID p/\p.length=n) /\
   OG wr (Gb+1) aX A2 c2 xs /\
   Box wr w [(0:Int),(0:Int),.slice none 0 0]/\Box wr Gb [rank,n,.slice A2 xs.length c2]/\Mid 0 0 w wr) (fun i _=>l.length - (intOf i).toNat)
  case atStart=>exact⟨0,none,0,_,[],oZ,rfl,oH rfl,oH oM,OG.nil,Y2,Y3,ab⟩
  clear Y2 Y3 ab;obtain⟨wo,bF⟩:∃ wo,wo=wr:=⟨_,rfl⟩
  subst bF;obtain⟨k,A2,c2,aX,xs,hk,rfl,HX,HALL,a2,Z2,Z3,hm⟩:=hrel;have bK:Gb<wo.heap.size:=Z3.1;have bP:(k:Int)<=rank:=by have:=aL.out;omega
  by_cases hlt:k<l.length
  .obtain⟨Bp,op,Ap,cp,p,he, -,bI,hp,aC,a9⟩:=(hr.mid hm oZl).row hlt
   injection he with he
   injection he with he1 he2
   subst he1 he2;have b9:p.length<=1048576:=by have:=aBm (oG hp);omega
   have bN:(k:Int)<(l.length:Int):=by omega
   have bO:(k:Int)<rank:=by have:=aL.out;omega
   have bM:(0:Int)<=(k:Int):=by omega
   have aG:B0<wo.heap.size:=by omega
   have HP:=oH hp;obtain⟨bp,ao⟩:=aAF (aID p);have aP:=oH ao;clear hp ao;have aB:∀(m:Nat) (os:Array Obj),Calls Tryz.prog 221 #[.slice Ap p.length cp] (wg wo m os) fun e w''=>e=.returned (.bool bp)/\∃ q:GB,w''=wg wo q.n q.os:=fun m os=>
    Calls.wg_of ((aHS Ap p cp _ (wg wo m os) (a9.mid (Mid.ofWg wo m os) oZl).rs b9 bp aP.out).mono (fun e w' ⟨h1,nd,h2⟩=>⟨h1,by rw[h2];exact(Mid.refl 0 0 (wg wo m os)).drewN nd⟩))
   have e0:=aAf aG aC;have e1:=aAf Z3.1 (Z3.cell 1 rfl);cases bp with
  |false=>
    have a5:¬ GActOk rank l n:=fun h=>by have:=aP.out.2 (h.all p (oG HP.out)).1;cases this
    go_wp2_with fail;refine wqg ?_;repeat
     (with_reducible refine wpQuiet_step (fun K hK=>?_))
     go_simp
     first|(with_reducible refine hK _ ?_)|(rw[if_neg oD];(with_reducible refine hK _ ?_))|(apply Exists.intro;refine⟨fun _=>?_,hK _ ?_⟩;((go_at_call 221;with_reducible exact aB _ _)))
     clear hK K
    with_reducible refine wpQuiet_nil ?_
    rintro _ ⟨⟨nq,osq⟩,rfl⟩;have a0:=Mid.ofWg wo nq osq;generalize wg wo nq osq=w5 at a0 |-;have a1:=hm.trans a0;have Q2:=Z2.mid a0 oZr;clear e0 e1 aB;obtain⟨rfl,rfl,rfl,rfl⟩:=HR.out.no (by rw[aD.out];exact a5);obtain⟨z0,z1,z2⟩:=Q2.c3 rfl;have zf:=Q2.2.2;go_wp2_with fail;refine oW (v:=.tuple #[.agg #[(0:Int),(0:Int),.slice none 0 0],.bool false]) (by simp[results,Tryz.results162,go_sem,z0,z1,z2,zf]) rfl ⟨none,0,rfl,OG.nil,?_⟩;repeat (first|exact a1|refine oQ ?_ (by simp;try omega) _)
  |true=>
   by_cases hpn:p.length=n
   .have dn:((p.length:Int) != (n:Int))=false:=by rw[hpn];simp
    have a3:=aP.out.1 rfl;have ah:=a3.1;have aE:=oH a3;have bA:p.length<=40/\(p.length:Int)<=n/\(n:Int)<=p.length:=⟨ah,oO,oO⟩
    have ak:=oH hpn;clear a3 hpn;go_wp2_with fail;refine wqg ?_;repeat
     (with_reducible refine wpQuiet_step (fun K hK=>?_))
     go_simp
     first|(with_reducible refine hK _ ?_)|(rw[if_neg oD];(with_reducible refine hK _ ?_))|(apply Exists.intro;refine⟨fun _=>?_,hK _ ?_⟩;((go_at_call 221;with_reducible exact aB _ _)))
     clear hK K
    with_reducible refine wpQuiet_nil ?_
    rintro _ ⟨⟨nq,osq⟩,rfl⟩;have a0:=Mid.ofWg wo nq osq;have aw:=a0.size;generalize wg wo nq osq=w5 at a0 aw |-;have Q2:=Z2.mid a0 oZr;have Q3:=Z3.mid a0 oZr;have a7:=a2.mid a0 oZl;have aK:=a9.mid a0 oZl;have aH:=aAa a0 aG oZr aC;have a1:=hm.trans a0;clear e0 e1 aB Z2 Z3 a2 a9 aC hm a0;go_wp2_with fail;go_loopw [8] (fun j wr=>∃(m:Nat) (A3:OA) (c3 aY:Nat) (ys:List Ed),m<=n/\j=.int .i64 m/\Hid (ys=canon (aBM l k++aGQ ((k:Int)+1) p m)) /\
     OG wr (Gb+1) aY A3 c3 ys /\
     Box wr w [(0:Int),(0:Int),.slice none 0 0]/\Box wr Gb [rank,n,.slice A3 ys.length c3]/\RV wr lo hi Ap (aAe p)/\wr.cell? ⟨B0,o0+k,none⟩=some (.slice Ap p.length cp)/\Mid 0 0 w wr) (fun j _=>n - (intOf j).toNat)
    case atStart=>exact⟨0,A2,c2,aX,xs,oZ,rfl,oH (by simpa [aGQ] using HX.out),a7,Q2,Q3,aK,aH,a1⟩
    clear a7 Q2 Q3 aK aH a1 aw;obtain⟨m,A3,c3,aY,ys,bS,rfl,HY,a2,Z2,Z3,a9,aC,hm⟩:=hrel;have bY:ys.length<=1000:=by
     have h1:=aDe (aBM l k++aGQ ((k:Int)+1) p m);rw[<- HY.out,List.length_append,aKi] at h1;have h4:∀ j,j<=k->(aBM l j).length<=j * 40:=by
      intro j
      induction j with
     |zero=>intro _;simp[aBM]
     |succ j ih=>
       intro hj;have hq:=List.getElem?_eq_getElem (l:=l) (i:=j) oO;rw[aDz hq,List.length_append,aKi,Nat.succ_mul];have h5:=ih oO;have h6:=(HALL.out (l[j]'(by omega)) (by rw[List.mem_take_iff_getElem];exact⟨j,oO,rfl⟩)).1.1;omega
     have h5:=h4 k oN;omega
    have z1:=Z3.cell 1 rfl;have aS:B0<wr.heap.size:=by have:=hm.size;have:=hr.size;omega
    by_cases hltm:m<n
    .obtain⟨Bx,ox,x,rfl,bJ,hx,ap⟩:=a9.at (k:=m) oO
     have bR:(m:Int)<(n:Int):=by omega
     have b6:(m:Int)<(p.length:Int):=by omega
     have b5:(0:Int)<=(m:Int):=by omega
     have av:=aLm (x:=(k:Int)+1) hx;have ay:=oH av;have bX:IntKind.i64.wrap ((k:Int)+1)=(k:Int)+1:=oI _;have aT:Bx<wr.heap.size:=by have:=a9.1;omega
     clear hx av;go_wp2_with fail;have a4:=Mid.drew1 wr;have U2:=Z2.mid a4 oZr;have U3:=Z3.mid a4 oZr;have a8:=a2.mid a4 oZl;have aA:=a9.mid a4 oZl;have aa:=hm.trans a4;have bE:=a4.size;have g2:=U3.cell 2 rfl;have f0:=aAa a4 aS oZr aC;have f1:=aAa a4 aT oZr ap;clear Z2 Z3 a2 a9 aC ap hm a4 z1;refine aAM (S:=(fun w'=>w'.cell? ⟨Gb,2,none⟩=some (.slice A3 ys.length c3)/\w'.cell? ⟨B0,o0+k,none⟩=some (.slice (some ⟨Bx,ox,none⟩) p.length cp)/\w'.cell? ⟨Bx,ox+m,none⟩=some (.int .i64 x))) 15 oK ⟨g2,f0,f1⟩ ?_;generalize World.drew wr=wz at U2 U3 a8 aA aa bE f0 f1 g2 |-;have hS:wz.cell? ⟨Gb,2,none⟩=some (.slice A3 ys.length c3)/\wz.cell? ⟨B0,o0+k,none⟩=some (.slice (some ⟨Bx,ox,none⟩) p.length cp)/\wz.cell? ⟨Bx,ox+m,none⟩=some (.int .i64 x):=⟨g2,f0,f1⟩
     refine tkT 0 rfl hS ?_;try simp only[oP]
     refine tkT 1 rfl hS ?_;try simp only[oP]
     refine tkT 2 rfl hS ?_;try simp only[oP]
     refine tkT 3 rfl hS ?_;try simp only[oP]
     refine tkT 4 rfl hS ?_;try simp only[oP]
     refine tkT 5 rfl hS ?_;try simp only[oP]
     refine tkT 6 rfl hS ?_;try simp only[oP]
     refine tkT 7 rfl hS ?_;try simp only[oP]
     refine tkT 8 rfl hS ?_;try simp only[oP]
     refine tkT 9 rfl hS ?_;try simp only[oP]
     refine tkT 10 rfl hS ?_;try simp only[oP]
     refine tkT 11 rfl hS ?_;try simp only[oP]
     refine tkT 12 rfl hS ?_;try simp only[oP]
     have hP:=aBz A3 ys c3 ⟨(m:Int),(k:Int)+1,x⟩ wz _ _ a8.rg oO;refine rdT 13 rfl (fun K hK=>?_)
     (go_simp;(with_reducible refine hP.mono ?_);rintro en w9 ⟨A9,c9,rfl,b8,a1⟩;have az:=U2.mid a1 oZr;have aF:=U3.mid a1 oZr;have aQ:=aAa a1 oO oZr f0;have am:=aAa a1 oO oZr f1;go_wp2_with fail)
     refine hK.out _ _ (Or.inr ⟨aF.cell 2 rfl,aQ,am⟩) (fun _=>?_);clear hK K;try simp only[oP]
     have aZ:=aa.trans a1;have aj:=aA.mid a1 oZl;have b2:Gb<wz.heap.size:=U3.1;have b3:=And.intro (aF.cell 2 rfl) (And.intro aQ am);have bT:=aF.cell 2 rfl;have bU:=aF.2.2;clear hS U2 U3 aa hP aA f0 f1 g2;refine tkT 14 rfl b3 ?_;try simp only[oP]
     refine rdT 15 rfl (fun K hK=>?_)
     (go_simp)
     refine hK.out _ _ (Or.inl rfl) (fun _=>?_);clear hK K;try simp only[oP]
     refine aAR oK ?_ _;go_wp2_with fail;go_roundw
     case rel=>
      have aN:=Mid.setCell w9 (lo:=Gb) (hi:=Gb+1) (p:=⟨Gb,2,none⟩) (.slice A9 (aCw ⟨(m:Int),(k:Int)+1,x⟩ ys).length c9) oN oS;have b4:B0<w9.heap.size:=by have:=a1.size;omega
      refine⟨m+1,A9,c9,_,aCw ⟨(m:Int),(k:Int)+1,x⟩ ys,oO,by go_num,oH ?_,(b8.wide (lo':=Gb+1) b2 oN oN).mid aN (Or.inl oN),az.mid aN,aF.set 2 _ oM rfl,aj.mid aN,aAa aN b4 oL aQ,aZ.storeNew (by show w.heap.size<=Gb;omega) _⟩;rw[ay.out,<- List.append_assoc,canon,aCC,HY.out]
      rfl
     simp[intOf];omega
    obtain rfl:m=n:=by omega
    have an:=aDz HP.out;rw[ak.out] at an;rw[<- an] at HY;go_wp2_with fail;go_roundw
    case rel=>
     refine⟨k+1,A3,c3,aY,ys,oO,by go_num,HY,oH (fun q hq=>?_),a2,Z2,Z3,hm⟩;rcases(aCM HP.out).1 hq with hq|hq
     .exact HALL.out q hq
     rw[hq];exact⟨aE.out,ak.out⟩
    simp[intOf];omega
   have dn:((p.length:Int) != (n:Int))=true:=by rw[bne_iff_ne];omega
   have a5:¬ GActOk rank l n:=fun h=>hpn (h.all p (oG HP.out)).2;go_wp2_with fail;refine wqg ?_;repeat
    (with_reducible refine wpQuiet_step (fun K hK=>?_))
    go_simp
    first|(with_reducible refine hK _ ?_)|(rw[if_neg oD];(with_reducible refine hK _ ?_))|(apply Exists.intro;refine⟨fun _=>?_,hK _ ?_⟩;((go_at_call 221;with_reducible exact aB _ _)))
    clear hK K
   with_reducible refine wpQuiet_nil ?_
   rintro _ ⟨⟨nq,osq⟩,rfl⟩;have a0:=Mid.ofWg wo nq osq;generalize wg wo nq osq=w5 at a0 |-;have a1:=hm.trans a0;have Q2:=Z2.mid a0 oZr;clear e0 e1 aB;obtain⟨rfl,rfl,rfl,rfl⟩:=HR.out.no (by rw[aD.out];exact a5);obtain⟨z0,z1,z2⟩:=Q2.c3 rfl;have zf:=Q2.2.2;go_wp2_with fail;refine oW (v:=.tuple #[.agg #[(0:Int),(0:Int),.slice none 0 0],.bool false]) (by simp[results,Tryz.results162,go_sem,z0,z1,z2,zf]) rfl ⟨none,0,rfl,OG.nil,?_⟩;repeat (first|exact a1|refine oQ ?_ (by simp;try omega) _)
  obtain rfl:k=l.length:=by omega
  rw[List.take_length] at HALL;have ae:GActOk rank l n:=⟨bB,aL.out,oO,HALL.out⟩
  obtain⟨rfl,rfl,aM,ai⟩:=HR.out.yes (by rw[aD.out];exact ae);rw[aD.out] at aM ai;have aI:=aKU ae;have bQ:¬ (l.length:Int)<rank:=by have:=aL.out;omega
  obtain⟨rn,rfl⟩:∃ rn:Nat,rank=rn:=⟨rank.toNat,oO⟩
  have au:canon (aBM l l.length)=xs:=HX.out.symm;rw[au] at aI aM ai;have ax:=aI.len;obtain⟨q,qs,hQ, -⟩:=aFh (aCJ (g:=((n:Int),xs)) aI);rw[hQ] at aM ai;subst aM;subst aO;have b0:decide (120<(xs.length:Int))=false:=by simp;omega
  obtain⟨r0,r1,r2⟩:=Z3.c3 rfl;have hP:=aDd rn n A2 xs c2 wo _ _ (OG.rg a2) aI;rw[hQ] at hP;dsimp only at hP;have al:=oH hP;clear ae HR aI hQ au hP;go_wp2_with fail;with_reducible refine al.out.mono ?_
  rintro en w8 ⟨A5,c5,rfl,b7,ar⟩;clear al;have S2:=Z2.mid ar oZr;have a1:=hm.trans ar;have bV:w.heap.size<wo.heap.size:=Z2.1;clear r0 r1 r2;obtain⟨z0,z1,z2⟩:=S2.c3 rfl;have zf:=S2.2.2;go_wp2_with fail;refine oW (v:=.tuple #[.agg #[rn,q,.slice A5 qs.length c5],.bool true]) (by simp[results,Tryz.results162,go_sem,z0,z1,z2,zf]) rfl ⟨A5,c5,rfl,?_,?_⟩
  .refine OG.wide (OG.mid b7 (a:=w.heap.size) (b:=w.heap.size+1) ?_ oL) oO oM oN
   repeat (first|exact Mid.refl _ _ _|refine Mid.stored ?_ _ (by simp;try omega) (by simp;try omega))
  repeat (first|exact a1|refine oQ ?_ (by simp;try omega) _)
 have dl:((l.length:Int) != rank)=true:=by simpa using hln
 have a5:¬ GActOk rank l (n0L l):=fun h=>hln h.ln;obtain⟨rfl,rfl,rfl,rfl⟩:=HR.out.no a5;obtain⟨z0,z1,z2⟩:=B2.c3 rfl;have zf:=B2.2.2;go_wp2_with fail;refine oW (v:=.tuple #[.agg #[(0:Int),(0:Int),.slice none 0 0],.bool false]) (by simp[results,Tryz.results162,go_sem,z0,z1,z2,zf]) rfl ⟨none,0,rfl,OG.nil,?_⟩;repeat (first|exact a6|refine oQ ?_ (by simp;try omega) _)
section
open Go.RowKit
theorem aOy{r s:Int}{es:List Ed}(h:IsFol r s es):∀ {w:LI} {u v:Int},goV es u w=some v↔Pa es u w v
|[],u,v=>⟨fun e=>Option.some.inj e,fun e=>congrArg some e⟩
|x::w,u,v=>by
  rw[goV];by_cases hn:aAr es u x<0
  .rw[if_pos hn]
   constructor
   .intro e;cases e
   .rintro⟨t,h1, -⟩
    exact absurd h1 (aJr hn h.gr.nn t)
  .rw[if_neg hn,aOy h]
   constructor
   .exact fun e=>⟨_,aCs oO,e⟩
   .rintro⟨t,h1,h2⟩
    rwa [aDb h h1]
def InL(r:Nat)(w:LI):Prop:=∀ x∈w,x∈aAg r
theorem InL.lt{r:Nat}{w:LI}(hr:r<=3)(h:InL r w):LtW w:=fun x hx=>by
 have:=aAU.1 (h x hx);unfold Lt3;omega
theorem InL.red{r:Nat}{w:LI}(h:InL r w):InL r (red [] w):=fun x hx=>by
 rcases aIu hx with hx|hx
 .cases hx
 .exact h x hx
section
variable {r n:Nat} {es:List Ed}
theorem aVi(h:IsFin r n es):r<=3:=by have:=h.cor.gr.rank;omega
theorem aPw(h:IsFin r n es){w:LI}(hw:InL r w){v:Int}(hv:0<=v/\v<n):∃ u:Int,(0<=u/\u<n)/\Pa es v w u:=by
 obtain⟨u,hu⟩:=aQb h.cor.fol (aUm h) (w:=w) hv fun x hx=>by
  have:=aAU.1 (hw x hx);omega
 exact⟨u,hu.rng h.cor.gr.all hv,hu⟩
theorem aGx(h:IsFin r n es){w:LI}(hw:InL r w){v:Nat}(hv:v<n){u:Int}:(aCa es w n)[v]?=some u↔Pa es v w u:=by
 obtain⟨t, -,ht⟩:=aPw h hw (v:=(v:Int)) oO;have e:=(aOy h.cor.fol).2 ht;unfold aCa;rw[List.getElem?_map,List.getElem?_range hv,Option.map_some,e];simp only[Option.getD_some,Option.some.injEq];constructor
 .rintro rfl;exact ht
 exact fun k=>ht.det h.cor.fol k
theorem aTr(h:IsFin r n es){w:LI}(hw:InL r w):wordP r n es w=aCa es w n:=aKA h fun v hv=>by
 obtain⟨t, -,ht⟩:=aPw h hw (v:=(v:Int)) oO;rw[(aOy h.cor.fol).2 ht];exact fun e=>by cases e
theorem aVu(h:IsFin r n es){a b:LI}(ha:InL r a)(hb:InL r b):aCa es a n=aCa es b n↔∀ v:Nat,v<n->∀ u,Pa es v a u↔Pa es v b u:=by
 constructor
 .intro e v hv u
  rw[<- aGx h ha hv,<- aGx h hb hv,e]
 intro hk;refine List.ext_getElem? fun v=>?_;by_cases hv:v<n
 .obtain⟨t, -,ht⟩:=aPw h ha (v:=(v:Int)) oO
  rw[(aGx h ha hv).2 ht,(aGx h hb hv).2 ((hk v hv t).1 ht)]
 rw[List.getElem?_eq_none (by rw[aCG];omega),List.getElem?_eq_none (by rw[aCG];omega)]
theorem aVv(h:IsFin r n es){w:LI}(hw:InL r w):aCa es (red [] w) n=aCa es w n:=by
 refine(aVu h hw.red hw).2 fun v hv u=>?_;obtain⟨t, -,ht⟩:=aPw h hw (v:=(v:Int)) oO;have h2:=ht.red h.cor.fol;constructor
 .intro k;rw[<- h2.det h.cor.fol k];exact ht
 intro k;rw[<- ht.det h.cor.fol k];exact h2
theorem aRa{e:Ed}:∀ {k:Nat} {l:LL},k<=l.length->(e∈aBM l k↔∃(i v:Nat) (p:LI),i<k/\l[i]?=some p/\v<p.length/\e=⟨v,(i:Int)+1,p.getD v 0⟩)
|0,l,_=>by simp[aBM]
|k+1,l,hk=>by
  have hp:=List.getElem?_eq_getElem (l:=l) (i:=k) oO;rw[aDz hp,List.mem_append,aRa (k:=k) oO];constructor
  .rintro(⟨i,v,p,h1,h2⟩|h1)
   .exact⟨i,v,p,oO,h2⟩
   .simp only[aGQ,List.mem_map,List.mem_range] at h1
    obtain⟨v,hv,rfl⟩:=h1;exact⟨k,v,_,oO,hp,hv,rfl⟩
  .rintro⟨i,v,p,h1,h2,h3,rfl⟩
   by_cases hi:i=k
   .subst hi
    rw[hp] at h2;obtain rfl:=Option.some.inj h2;right
    simp only[aGQ,List.mem_map,List.mem_range];exact⟨v,h3,rfl⟩
   .exact .inl ⟨i,v,p,oO,h2,h3,rfl⟩
theorem aTR{α:Type}[BEq α][LawfulBEq α]:∀ {l m:List α},l.Nodup->(∀ x∈l,x∈m)->m.Nodup->m.length<=l.length->∀ x∈m,x∈l
|[],m,_,_,_,h,x,hx=>by
  cases m with
 |nil=>exact hx
 |cons y t=>simp at h
|a::l,m,hl,hs,hm,h,x,hx=>by
  by_cases hxa:x=a
  .rw[hxa];exact List.mem_cons_self
  .have a0:=List.nodup_cons.1 hl
   have a1:=hs a List.mem_cons_self;have h1:=List.length_erase_of_mem a1;refine List.mem_cons_of_mem _ (aTR (m:=m.erase a) a0.2 (fun y hy=>?_) (hm.erase a) (by simp at h;omega) x ?_)
   .have a2:y≠a:=fun e=>a0.1 (e ▸ hy)
    exact(List.mem_erase_of_ne a2).2 (hs y (List.mem_cons_of_mem _ hy))
   .exact(List.mem_erase_of_ne hxa).2 hx
section
variable {L:LL}
end
end
end
section
open Go.RowKit
theorem aTq{p:LI}(h:aID p){v:Int}(h0:0<=v)(h1:v<p.length):v∈p:=by
 refine aTR (m:=(List.range p.length).map fun(k:Nat)=>(k:Int)) h.2.2 ?_ ?_ ?_ v ?_
 .intro x hx
  have:=h.2.1 x hx;exact List.mem_map.2 ⟨x.toNat,List.mem_range.2 oO,oO⟩
 .unfold List.Nodup
  rw[List.pairwise_map];exact(List.pairwise_lt_range (n:=p.length)).imp fun h=>by omega
 .simp
 exact List.mem_map.2 ⟨v.toNat,List.mem_range.2 oO,oO⟩
section
variable {rank:Int} {l:LL} {n:Nat}
theorem aFW{e:Ed}:e∈canon (aBM l l.length)↔∃(i v:Nat) (p:LI),l[i]?=some p/\v<p.length/\e=⟨v,(i:Int)+1,p.getD v 0⟩:=by
 rw[aAO,aRa oN];constructor
 .rintro⟨i,v,p, -,h2⟩;exact⟨i,v,p,h2⟩
 rintro⟨i,v,p,h2,h3⟩;exact⟨i,v,p,(List.getElem?_eq_some_iff.1 h2).1,h2,h3⟩
theorem aQZ(h:GActOk rank l n):IsFol rank n (canon (aBM l l.length)):=by
 refine⟨aKU h,?_⟩;have a0:(canon (aBM l l.length)).Nodup:=aRe (aCI _);refine List.Pairwise.imp_of_mem ?_ a0;rintro e f he hf a3 ⟨hl,hc⟩;obtain⟨i,v,p,h1,h2,rfl⟩:=aFW.1 he;obtain⟨j,u,q,h3,h4,rfl⟩:=aFW.1 hf;simp only at hl hc;obtain rfl:i=j:=by omega
 rw[h1] at h3;obtain rfl:=Option.some.inj h3;refine a3 ?_;obtain rfl:v=u:=by
  rcases hc with hc|hc
  .omega
  have hp:=(h.all p (oG h1)).1.2.2;rw[List.getD_eq_getElem?_getD,List.getD_eq_getElem?_getD,List.getElem?_eq_getElem h2,List.getElem?_eq_getElem h4] at hc;have e3:p[v]=p[u]:=by simpa using hc
  have a1:=hp.idxOf_getElem v h2;have a2:=hp.idxOf_getElem u h4;rw[e3] at a1;omega
 rfl
theorem aUa(h:GActOk rank l n):Tot rank n (canon (aBM l l.length)):=fun v h0 h1 x hx h2 h3=>by
 have a3:=h.ln;have hi:(x.natAbs - 1)<l.length:=by omega
 have hp:=List.getElem?_eq_getElem hi;obtain⟨a0,a2⟩:=h.all _ (List.getElem_mem hi);generalize l[x.natAbs - 1]=p at hp a0 a2;rcases Int.lt_or_gt_of_ne hx with hneg|hpos
 .obtain⟨k,hk⟩:=List.mem_iff_getElem?.1 (aTq a0 h0 oO)
  have a1:=(List.getElem?_eq_some_iff.1 hk).1;refine⟨k,.inr ⟨hneg,aFW.2 ⟨_,k,p,hp,a1,?_⟩⟩⟩;refine Ed.ext' rfl (by simp only;omega) ?_;simp only;rw[List.getD_eq_getElem?_getD,hk]
  rfl
 .refine⟨p.getD v.toNat 0,.inl ⟨hpos,aFW.2 ⟨_,v.toNat,p,hp,oO,?_⟩⟩⟩
  exact Ed.ext' (by simp only;omega) (by simp only;omega) rfl
end
def aUZ(r:Int)(es:List Ed):Prop:=∀ v w,Pa es 0 w v->∀ x,x≠0->-r<=x->x<=r->∃ t,Sp es v x t
theorem aNX{r:Int}:∀(n:Nat) {g:Int × List Ed},IsFol r g.1 g.2->aUZ r g.2->aUZ r (trimA n g).2
|0,g,_,h=>h
|n+1,g,hf,h=>by
  cases hl:leaf g.1 g.2 with
 |none=>rw[aCt hl];exact h
 |some v=>
   rw[aCH hl];obtain⟨h1,h2,h3⟩:=aDj hl;have a3:=hf.gr.rank;have hs:=hf.gr.size;have a0:∀ w,¬ Pa g.2 0 w v:=fun w hw=>by
    rcases h3 with h3|h3
    .obtain⟨t,ht⟩:=h v w hw 1 oD oO oO
     obtain⟨t',a1⟩:=h v w hw (-1) oD oO oO;have:Two g.2 v:=⟨1, -1,t,t',by decide,ht,a1⟩
     have:=this.deg;omega
    .exact h3 ((aLI hf.gr.all).2 ⟨w,hw⟩)
   refine aNX n (aRv hf h1 h2) fun u' w hw x hx hx1 hx2=>?_;have hz:=aPl h1 (show v<g.1.toNat by omega);obtain⟨u,hu,hi,hp⟩:=aGj (ord:=but v g.1.toNat) (es:=g.2) hw 0 (aHG.2 oO) hz;obtain⟨t,ht⟩:=h u w hp x hx hx1 hx2;have a2:=(ht.rng hf.gr.all).2.1;refine⟨aDn (but v g.1.toNat) t,aFO.2 ⟨u,t,hu,aHG.2 ⟨a2.1,oO,fun e=>?_⟩,hi,rfl,ht⟩⟩;rw[e] at ht;exact a0 _ (hp.snoc ht)
theorem aRu{r s:Int}{es:List Ed}(hf:IsFol r s es)(ht:aUZ r es):Tot r (coreA r (s,es)).1 (coreA r (s,es)).2:=by
 have e:coreA r (s,es)=canonG r (trimA 40 (s,es)):=by
  unfold coreA;rw[aEv (g:=(s,es)) (aNg.2 hf.fol)]
 have a0:IsFol r (trimA 40 (s,es)).1 (trimA 40 (s,es)).2:=aNW 40 (g:=(s,es)) hf;have a2:aUZ r (trimA 40 (s,es)).2:=aNX 40 (g:=(s,es)) hf ht;rw[e];generalize trimA 40 (s,es)=g at a0 a2;rw[aCV a0];have a6:=a0.gr.size;have a3:=(aEg a0.gr (v:=0) (Int.le_refl _) oO).2.2;refine fun i h0 hi x hx hx1 hx2=>?_;obtain⟨k,rfl⟩:=Int.eq_ofNat_of_zero_le h0;have hk:k<(aBS r g.2 0).length:=by simpa using hi
 have hm:(aBS r g.2 0)[k]∈aBS r g.2 0:=List.getElem_mem hk;have a1:aDn (aBS r g.2 0) ((aBS r g.2 0)[k])=k:=aIh a3.1 (List.getElem?_eq_getElem hk);generalize (aBS r g.2 0)[k]=u at hm a1;obtain⟨p,hp,a5⟩:=List.mem_map.1 hm;have a4:Pa g.2 0 p.2 u:=by
  have:=aTI g.2 (aAg r.toNat) 0 p hp
  rwa [a5] at this
 obtain⟨t,hs⟩:=a2 u _ a4 x hx hx1 hx2;exact⟨aDn (aBS r g.2 0) t,aFO.2 ⟨u,t,hm,aDG a0 (Int.le_refl _) oO hm (aDO.2 hs),a1,rfl,hs⟩⟩
theorem aTd{rank:Int}{l:LL}{rr rs:Int}{res:List Ed}(h:GActIs rank l rr rs res true):IsFin rr rs res:=by
 rcases h with⟨-,h,rfl,rfl,rfl⟩|⟨h, -⟩
 .have hf:=aQZ h
  have ht:aUZ rr (canon (aBM l l.length)):=fun v w hw x hx h1 h2=>by
   have hv:=hw.rng hf.gr.all (by have:=h.n0;omega);exact aUa h v hv.1 hv.2 x hx h1 h2
  have h2:=aRu hf ht;have hc:=aLJ (aKU h);obtain⟨a,n,ha,hn⟩:=hc.gr.nat;refine⟨hc,?_⟩;have a0:=hc.fol;rw[hn] at h2 a0 |-;have a1:rr=(a:Int):=ha;rw[a1] at h2 a0 |-;intro v hv x hx;have a2:=aAU.1 hx;exact h2.full a0 v oO oO x a2.1 oO oO
 cases h
end
section
open Go.RowKit
open Go.Maps (Keyed)
theorem aJy{x:Int}(h1:-1048577<=x)(h2:x<=1048577):(Lit.int .i64 x).wf=true:=by
 have e1:IntKind.min .i64 = -9223372036854775808:=by decide
 have e2:IntKind.max .i64=9223372036854775807:=by decide
 simp only[Lit.wf,e1,e2,Bool.and_eq_true,decide_eq_true_eq];omega
section
variable {w:World} {ops:Array Oper} {rest:List Oper} {o:Oper} {a:Act} {Q:Exit->Act->World->Prop} {b:Nat} {st:PS}
end
end
def aJE(r0:Int)(d:LL)(r s:Int)(es:List Ed):Prop:=IsMor r0 d/\IsFin r s es/\r=r0
def PreIs(r0:Int)(d:LL)(r s:Int)(es:List Ed)(rr rs:Int)(res:List Ed)(b:Bool):Prop:=
 (¬ aJE r0 d r s es/\b=false/\rr=0/\rs=0/\res=[]) \/ (aJE r0 d r s es/\GActIs r0 (d.map (wordP r s es)) rr rs res b)
theorem aSK(r0:Int)(d:LL)(r s:Int)(es:List Ed):∃ rr rs a0 b,PreIs r0 d r s es rr rs a0 b:=by
 by_cases h:aJE r0 d r s es
 .obtain⟨rr,rs,a0,b,hg⟩:=aQX r0 (d.map (wordP r s es))
  exact⟨rr,rs,a0,b,.inr ⟨h,hg⟩⟩
 exact⟨_,_,_,_,.inl ⟨h,rfl,rfl,rfl,rfl⟩⟩
theorem PreIs.no{r0:Int}{d:LL}{r s:Int}{es:List Ed}{rr rs:Int}{res:List Ed}{b:Bool}(h:PreIs r0 d r s es rr rs res b)(hn:¬ aJE r0 d r s es):b=false/\rr=0/\rs=0/\res=[]:=by
 rcases h with⟨-,h⟩|⟨h, -⟩
 .exact h
 exact absurd h hn
theorem PreIs.yes{r0:Int}{d:LL}{r s:Int}{es:List Ed}{rr rs:Int}{res:List Ed}{b:Bool}(h:PreIs r0 d r s es rr rs res b)(hn:aJE r0 d r s es):GActIs r0 (d.map (wordP r s es)) rr rs res b:=by
 rcases h with⟨h, -⟩|⟨-,h⟩
 .exact absurd hn h
 exact h
theorem PreIs.lens{r0:Int}{d:LL}{r s:Int}{es:List Ed}{rr rs:Int}{res:List Ed}{b:Bool}(h:PreIs r0 d r s es rr rs res b):res.length<=120:=by
 rcases h with⟨-, -, -, -,rfl⟩|⟨-,h⟩
 .simp
 exact h.lens
theorem aNZ{r s:Int}{es:List Ed}{wd:LI}(hs:s<=40):(wordP r s es wd).length<=40:=by
 unfold wordP;split
 .rw[aCG]
  omega
 simp
theorem aJX(r0:Int)(Ad:OA)(d:LL)(cd:Nat)(r s:Int)(A:OA)(es:List Ed)(c:Nat)(w:World)(lo hi aW aQ:Nat)(hd:RSS w lo hi Ad d)(aR:OkSS d)(ah:d.length+aAK d<=1048576)(hr:RG w aW aQ A es)(hl:es.length<=1048576)(aO:es.length<=c)(rr rs:Int)(aE:List Ed)(b:Bool)(aD:PreIs r0 d r s es rr rs aE b) :
  Calls Tryz.prog 75 #[.agg #[.int .i64 r0,.slice Ad d.length cd],aAJ r s A es.length c] w fun e w'=>∃ A1 c1,e=.returned (.tuple #[aAJ rr rs A1 aE.length c1,.bool b])/\OG w' w.heap.size w'.heap.size A1 c1 aE/\Mid 0 0 w w':=by
 have HR:=oH aD;have aJ:=oH aR;clear aD aR;have a1:Mid 0 0 w (((w.alloc (.cells #[r0,.slice Ad d.length cd] 76)).alloc (.cells #[r,s,.slice A es.length c] 35)).alloc (.cells #[(0:Int),(0:Int),.slice none 0 0] 35)):=((oE _ _).trans (oE _ _)).trans (oE _ _);have B0:=((oJ w #[r0,.slice Ad d.length cd] 76).mid (oE _ (.cells #[r,s,.slice A es.length c] 35)) oZr).mid (oE _ (.cells #[(0:Int),(0:Int),.slice none 0 0] 35)) oZr;have B1:=(oJ (w.alloc (.cells #[r0,.slice Ad d.length cd] 76)) #[r,s,.slice A es.length c] 35).mid (oE _ (.cells #[(0:Int),(0:Int),.slice none 0 0] 35)) oZr;have B2:=oJ ((w.alloc (.cells #[r0,.slice Ad d.length cd] 76)).alloc (.cells #[r,s,.slice A es.length c] 35)) #[(0:Int),(0:Int),.slice none 0 0] 35;simp only[World.size_alloc] at B1 B2;obtain⟨bm,aN⟩:=aAF (IsMor r0 d);have HM:=oH aN;obtain⟨bf,aM⟩:=aAF (IsFin r s es);have HF:=oH aM;clear aN aM;go_enter Tryz.func75,Tryz.ntmps75
 go_wp2_with fail;generalize hw1:((w.alloc (.cells #[r0,.slice Ad d.length cd] 76)).alloc (.cells #[r,s,.slice A es.length c] 35)).alloc (.cells #[(0:Int),(0:Int),.slice none 0 0] 35)=w1 at a1 B0 B1 B2 |-;have aV:w1.heap.size=w.heap.size+1+1+1:=by rw[<- hw1];simp
 have HS:=oH aV;clear hw1 aV;with_reducible refine(aAs r0 Ad d cd _ _ _ (hd.mid a1 oZl) aJ.out ah bm HM.out).mono ?_
 rintro en w2 ⟨rfl,a4⟩;replace B0:=B0.mid a4 oZr;replace B1:=B1.mid a4 oZr;replace B2:=B2.mid a4 oZr;replace a1:=a1.trans a4;have p0:=B0.cell 0 rfl;have p1:=B0.cell 1 rfl;obtain⟨q0,q1,q2⟩:=B1.c3 rfl;cases bm with
|false=>
  have aB:¬ aJE r0 d r s es:=fun h=>by have:=HM.out.2 h.1;cases this
  obtain⟨rfl,rfl,rfl,rfl⟩:=HR.out.no aB;obtain⟨z0,z1,z2⟩:=B2.c3 rfl;have zf:=B2.2.2;go_wp2_with fail;refine oW (v:=.tuple #[.agg #[(0:Int),(0:Int),.slice none 0 0],.bool false]) (by simp[results,Tryz.results75,go_sem,z0,z1,z2,zf]) rfl ⟨none,0,rfl,OG.nil,?_⟩;repeat (first|exact a1|refine oQ ?_ (by simp;try omega) _)
|true=>
 have a2:=HM.out.1 rfl;have aj:=a4.size;clear a4 HM;go_wp2_with fail;with_reducible refine(aEd r s A es c _ _ _ (hr.mid a1 oZl) hl aO bf HF.out).mono ?_
 rintro en w3 ⟨rfl,a5⟩;replace B0:=B0.mid a5 oZr;replace B1:=B1.mid a5 oZr;replace B2:=B2.mid a5 oZr;replace a1:=a1.trans a5;have ak:=a5.size;clear p0 p1 q0 q1 q2 a5;have p0:=B0.cell 0 rfl;have p1:=B0.cell 1 rfl;obtain⟨q0,q1,q2⟩:=B1.c3 rfl;cases bf with
|false=>
  have aB:¬ aJE r0 d r s es:=fun h=>by have:=HF.out.2 h.2.1;cases this
  obtain⟨rfl,rfl,rfl,rfl⟩:=HR.out.no aB;obtain⟨z0,z1,z2⟩:=B2.c3 rfl;have zf:=B2.2.2;go_wp2_with fail;refine oW (v:=.tuple #[.agg #[(0:Int),(0:Int),.slice none 0 0],.bool false]) (by simp[results,Tryz.results75,go_sem,z0,z1,z2,zf]) rfl ⟨none,0,rfl,OG.nil,?_⟩;repeat (first|exact a1|refine oQ ?_ (by simp;try omega) _)
|true=>
 have a0:=HF.out.1 rfl;clear HF;by_cases hrk:r=r0
 .have aK:=HR.out.yes ⟨a2,a0,hrk⟩
  subst hrk;obtain⟨r,n,rfl,rfl⟩:=a0.cor.gr.nat;have av:=a0.cor.gr.rank;have aw:=a0.cor.gr.size;have ax:=a0.cor.gr.len;have aP:d.length=r:=by have:=a2.2.2.1;omega
  have aF:=oH aP;clear aP;have am:w.heap.size<w3.heap.size:=B0.1;have aX:=oH a0;have ab:=oH a2.2.2.2;have aa:=oH aK;have ae:((r:Int) != (r:Int))=false:=by simp
  have O0:=aAd w3 44 1;have a7:=oE w3 (.cells #[] 44);have hL:w.heap.size+3<=w3.heap.size:=by have:=HS.out;omega
  have a6:Grp (w3.alloc (.cells #[] 44)) w3 (w3.heap.size+1) (w3.heap.size+1) (some ⟨w3,0,none⟩) 0 0 [] none []:=⟨O0,OwnRows.nil,⟨[],rfl,⟨by simp,fun h=>absurd rfl h⟩,by simp⟩,fun g _=>by omega,oO⟩
  clear aK a2 a0 HR O0;go_wp2_with fail;clear p0 p1 q0 q1 q2;replace B0:=B0.mid a7 oZr;replace B1:=B1.mid a7 oZr;replace B2:=B2.mid a7 oZr;replace a1:=a1.trans a7;generalize w3.alloc (.cells #[] 44)=w4 at a6 B0 B1 B2 a1 |-;generalize (some (⟨w3,0,none⟩:Addr))=A0 at a6 |-;generalize w3.heap.size=L at a6 hL;go_loopw [6,29] (fun out iv wr=>∃(k:Nat) (rows:List Row) (A1:OA) (c1:Nat),k<=d.length/\iv=.int .i64 k/\out=.slice A1 k c1/\Hid (aAt rows=(d.take k).map (wordP r n es))/\Hid (Grp wr L (L+1) (L+1) A1 k c1 rows none []) /\
   Box wr w [r,.slice Ad d.length cd]/\Box wr (w.heap.size+1) [r,n,.slice A es.length c]/\Box wr (w.heap.size+1+1) [(0:Int),(0:Int),.slice none 0 0]/\Mid 0 0 w wr) (fun _ iv _=>d.length - (intOf iv).toNat)
  case atStart=>exact⟨0,[],A0,0,oZ,rfl,rfl,oH rfl,oH a6,B0,B1,B2,a1⟩
  clear a6 B0 B1 B2 a1 a7;obtain⟨k,rows,A1,c1,hk,rfl,rfl,HD,HG,B0,B1,B2,hm⟩:=hrel;have p0:=B0.cell 0 rfl;have p1:=B0.cell 1 rfl;obtain⟨q0,q1,q2⟩:=B1.c3 rfl;by_cases hlt:k<d.length
  .obtain⟨Bd,od,Ak,ck,xs,ag,ar,aL,aI,a8,aU⟩:=(hd.mid hm oZl).row hlt
   subst ag;have aH:=oG aI;have an:xs.length<=24:=(ab.out xs aH).2.2.1;have aZ:=oH (aJ.out.2 xs aH);have ad:=oH aI;have ay:(0:Int)<=(k:Int):=by omega
   have az:(k:Int)<(d.length:Int):=by omega
   have b0:(k:Int)<(r:Int):=by have:=aF.out;omega
   clear aH aI;go_wp2_with fail;with_reducible refine(aEx r n A es c Ak xs ck _ aW aQ lo hi (hr.mid hm oZl) aU aO aX.out oO aZ.out).mono ?_
   rintro en w6 ⟨A7,c7,rfl,aS,a9⟩;have aC:=aS.2.1;replace B0:=B0.mid a9 oZr;replace B1:=B1.mid a9 oZr;replace B2:=B2.mid a9 oZr;replace hm:=hm.trans a9;have aY:=oH aC;have aL:=B2.1;clear p0 p1 q0 q1 q2 a8 aS aC aU;go_wp2_with (at_builtin;refine aFV rfl _ _ rfl rfl HG.out a9 ⟨A7,c7,wordP r n es xs⟩ aY.out rfl oO ?_;intro A10 af b2 aG a3)
   go_roundw
   case rel=>
    refine⟨k+1,rows++[⟨A7,c7,wordP r n es xs⟩],A10,af,oO,by go_num,rfl,oH ?_,oH aG,B0.mid a3,B1.mid a3,B2.mid a3,hm.transNew a3 oL⟩;rw[aAv,HD.out,aGm ad.out,List.map_append]
    rfl
   simp[intOf];omega
  obtain rfl:k=d.length:=by omega
  have b1:¬ (d.length:Int)<(r:Int):=by have:=aF.out;omega
  have au:d.length<=3:=by have:=aF.out;omega
  have hD:=HD.out;rw[List.take_length] at hD;have ai:aAK (d.map (wordP r n es))<=d.length * 40:=by
   have:=aKy (m:=40) (d.map (wordP r n es)) (fun x hx=>by obtain⟨y, -,rfl⟩:=List.mem_map.1 hx;exact aNZ oO)
   rwa [List.length_map] at this
  have aT:=HG.out.rss;rw[hD] at aT;have hC:=fun W lo hi h=>aHu r A1 (d.map (wordP r n es)) c1 W lo hi h (by rw[List.length_map];omega) (aJy oO oO) rr rs aE b aa.out;simp only[List.length_map] at hC;have HC:=oH hC;clear hC hD HD ai;go_wp2_with fail;with_reducible refine(HC.out _ _ _ aT).mono ?_
  rintro en w8 ⟨A8,c8,rfl,al,aA⟩;replace B0:=B0.mid aA oZr;replace B1:=B1.mid aA oZr;replace B2:=B2.mid aA oZr;replace hm:=hm.trans aA;have aL:=B2.1;have ap:=aA.size;have aq:L<=wr.heap.size:=oV (Nat.le_succ _) HG.out.act.size;obtain⟨z0,z1,z2⟩:=B2.c3 rfl;have zf:=B2.2.2;clear p0 p1 q0 q1 q2;go_wp2_with fail;refine oW (v:=.tuple #[.agg #[rr,rs,.slice A8 aE.length c8],.bool b]) (by simp[results,Tryz.results75,go_sem,z0,z1,z2,zf]) rfl ⟨A8,c8,rfl,?_,?_⟩
  .refine OG.wide (OG.mid al (a:=w.heap.size+2) (b:=w.heap.size+3) ?_ oL) oO oM oN
   repeat (first|exact Mid.refl _ _ _|refine Mid.stored ?_ _ (by simp;try omega) (by simp;try omega))
  repeat (first|exact hm|refine oQ ?_ (by simp;try omega) _)
 have aB:¬ aJE r0 d r s es:=fun h=>hrk h.2.2;obtain⟨rfl,rfl,rfl,rfl⟩:=HR.out.no aB;have ao:(r != r0)=true:=by simpa using hrk
 obtain⟨z0,z1,z2⟩:=B2.c3 rfl;have zf:=B2.2.2;clear hrk a2 a0;go_wp2_with fail;refine oW (v:=.tuple #[.agg #[(0:Int),(0:Int),.slice none 0 0],.bool false]) (by simp[results,Tryz.results75,go_sem,z0,z1,z2,zf]) rfl ⟨none,0,rfl,OG.nil,?_⟩;repeat (first|exact a1|refine oQ ?_ (by simp;try omega) _)
theorem aKu(r0:Int)(Ad:OA)(d:LL)(cd:Nat)(r s:Int)(A:OA)(es:List Ed)(c:Nat)(w:World)(lo hi ag aZ:Nat)(hd:RSS w lo hi Ad d)(aa:OkSS d)(ar:d.length+aAK d<=1048576)(hr:RG w ag aZ A es)(hl:es.length<=1048576)(rr rs:Int)(aC:List Ed)(b:Bool)(aI:PreIs r0 d r s es rr rs aC b) :
  Calls Tryz.prog 76 #[.agg #[.int .i64 r0,.slice Ad d.length cd],aAJ r s A es.length c] w fun e w'=>∃ A1 c1,e=.returned (.tuple #[aAJ rr rs A1 aC.length c1,.bool b])/\OG w' w.heap.size w'.heap.size A1 c1 aC/\Mid 0 0 w w':=by
 have HR:=oH aI;have aS:=oH aa;clear aI aa;have a3:Mid 0 0 w (((w.alloc (.cells #[r0,.slice Ad d.length cd] 76)).alloc (.cells #[r,s,.slice A es.length c] 35)).alloc (.cells #[(0:Int),(0:Int),.slice none 0 0] 35)):=((oE _ _).trans (oE _ _)).trans (oE _ _);have B0:=((oJ w #[r0,.slice Ad d.length cd] 76).mid (oE _ (.cells #[r,s,.slice A es.length c] 35)) oZr).mid (oE _ (.cells #[(0:Int),(0:Int),.slice none 0 0] 35)) oZr;have B1:=(oJ (w.alloc (.cells #[r0,.slice Ad d.length cd] 76)) #[r,s,.slice A es.length c] 35).mid (oE _ (.cells #[(0:Int),(0:Int),.slice none 0 0] 35)) oZr;have B2:=oJ ((w.alloc (.cells #[r0,.slice Ad d.length cd] 76)).alloc (.cells #[r,s,.slice A es.length c] 35)) #[(0:Int),(0:Int),.slice none 0 0] 35;simp only[World.size_alloc] at B1 B2;obtain⟨bm,aX⟩:=aAF (IsMor r0 d);have HM:=oH aX;obtain⟨bf,aW⟩:=aAF (IsFin r s es);have HF:=oH aW;clear aX aW;go_enter Tryz.func76,Tryz.ntmps76
 go_wp2_with fail;generalize hw1:((w.alloc (.cells #[r0,.slice Ad d.length cd] 76)).alloc (.cells #[r,s,.slice A es.length c] 35)).alloc (.cells #[(0:Int),(0:Int),.slice none 0 0] 35)=w1 at a3 B0 B1 B2 |-;have af:w1.heap.size=w.heap.size+1+1+1:=by rw[<- hw1];simp
 have HS:=oH af;clear hw1 af;with_reducible refine(aAq r0 Ad d cd _ _ _ (hd.mid a3 oZl) aS.out ar bm HM.out).mono ?_
 rintro en w2 ⟨rfl,aA⟩;replace B0:=B0.mid aA oZr;replace B1:=B1.mid aA oZr;replace B2:=B2.mid aA oZr;replace a3:=a3.trans aA;have p0:=B0.cell 0 rfl;have p1:=B0.cell 1 rfl;obtain⟨q0,q1,q2⟩:=B1.c3 rfl;cases bm with
|false=>
  have aG:¬ aJE r0 d r s es:=fun h=>by have:=HM.out.2 h.1;cases this
  obtain⟨rfl,rfl,rfl,rfl⟩:=HR.out.no aG;obtain⟨z0,z1,z2⟩:=B2.c3 rfl;have zf:=B2.2.2;go_wp2_with fail;refine oW (v:=.tuple #[.agg #[(0:Int),(0:Int),.slice none 0 0],.bool false]) (by simp[results,Tryz.results76,go_sem,z0,z1,z2,zf]) rfl ⟨none,0,rfl,OG.nil,?_⟩;repeat (first|exact a3|refine oQ ?_ (by simp;try omega) _)
|true=>
 have a4:=HM.out.1 rfl;have av:=aA.size;clear aA HM;go_wp2_with fail;with_reducible refine(aEj r s A es c _ _ _ (hr.mid a3 oZl) hl bf HF.out).mono ?_
 rintro en w3 ⟨rfl,aB⟩;replace B0:=B0.mid aB oZr;replace B1:=B1.mid aB oZr;replace B2:=B2.mid aB oZr;replace a3:=a3.trans aB;have aw:=aB.size;clear p0 p1 q0 q1 q2 aB;have p0:=B0.cell 0 rfl;have p1:=B0.cell 1 rfl;obtain⟨q0,q1,q2⟩:=B1.c3 rfl;cases bf with
|false=>
  have aG:¬ aJE r0 d r s es:=fun h=>by have:=HF.out.2 h.2.1;cases this
  obtain⟨rfl,rfl,rfl,rfl⟩:=HR.out.no aG;obtain⟨z0,z1,z2⟩:=B2.c3 rfl;have zf:=B2.2.2;go_wp2_with fail;refine oW (v:=.tuple #[.agg #[(0:Int),(0:Int),.slice none 0 0],.bool false]) (by simp[results,Tryz.results76,go_sem,z0,z1,z2,zf]) rfl ⟨none,0,rfl,OG.nil,?_⟩;repeat (first|exact a3|refine oQ ?_ (by simp;try omega) _)
|true=>
 have a1:=HF.out.1 rfl;clear HF;by_cases hrk:r=r0
 .have aV:=HR.out.yes ⟨a4,a1,hrk⟩
  subst hrk;obtain⟨r,n,rfl,rfl⟩:=a1.cor.gr.nat;have b5:=a1.cor.gr.rank;have b6:=a1.cor.gr.size;have b7:=a1.cor.gr.len;have aY:d.length=r:=by have:=a4.2.2.1;omega
  have aL:=oH aY;clear aY;have ay:w.heap.size<w3.heap.size:=B0.1;have ah:=oH a1;have al:=oH a4.2.2.2;have ak:=oH aV;have ao:((r:Int) != (r:Int))=false:=by simp
  have O0:=aAd w3 44 1;have aE:=oE w3 (.cells #[] 44);have hL:w.heap.size+3<=w3.heap.size:=by have:=HS.out;omega
  have aD:Grp (w3.alloc (.cells #[] 44)) w3 (w3.heap.size+1) (w3.heap.size+1) (some ⟨w3,0,none⟩) 0 0 [] none []:=⟨O0,OwnRows.nil,⟨[],rfl,⟨by simp,fun h=>absurd rfl h⟩,by simp⟩,fun g _=>by omega,oO⟩
  clear aV a4 a1 HR O0;go_wp2_with fail;clear p0 p1 q0 q1 q2;replace B0:=B0.mid aE oZr;replace B1:=B1.mid aE oZr;replace B2:=B2.mid aE oZr;replace a3:=a3.trans aE;generalize w3.alloc (.cells #[] 44)=w4 at aD B0 B1 B2 a3 |-;generalize (some (⟨w3,0,none⟩:Addr))=A0 at aD |-;generalize w3.heap.size=L at aD hL;go_loopw [6,7] (fun out iv wr=>∃(k:Nat) (rows:List Row) (A1:OA) (c1:Nat),k<=d.length/\iv=.int .i64 k/\out=.slice A1 k c1/\Hid (aAt rows=(d.take k).map (wordP r n es))/\Hid (Grp wr L (L+1) (L+1) A1 k c1 rows none []) /\
   Box wr w [r,.slice Ad d.length cd]/\Box wr (w.heap.size+1) [r,n,.slice A es.length c]/\Box wr (w.heap.size+1+1) [(0:Int),(0:Int),.slice none 0 0]/\Mid 0 0 w wr) (fun _ iv _=>d.length - (intOf iv).toNat)
  case atStart=>exact⟨0,[],A0,0,oZ,rfl,rfl,oH rfl,oH aD,B0,B1,B2,a3⟩
  clear aD B0 B1 B2 a3 aE;obtain⟨k,rows,A1,c1,hk,rfl,rfl,HD,HG,B0,B1,B2,hm⟩:=hrel;have p0:=B0.cell 0 rfl;have p1:=B0.cell 1 rfl;obtain⟨q0,q1,q2⟩:=B1.c3 rfl;by_cases hlt:k<d.length
  .obtain⟨Bd,od,Ak,ck,xs,aq,b3,aO,aR,a6,ae⟩:=(hd.mid hm oZl).row hlt
   subst aq;have aQ:=oG aR;have az:xs.length<=24:=(al.out xs aQ).2.2.1;have aj:=oH (aS.out.2 xs aQ);have am:=oH aR;have b8:(0:Int)<=(k:Int):=by omega
   have b9:(k:Int)<(d.length:Int):=by omega
   have bA:(k:Int)<(r:Int):=by have:=aL.out;omega
   clear aQ aR;go_wp2_with fail;have a8:=Mid.drew1 wr;have aT:Bd<wr.heap.size:=by have:=hd.size;have:=hm.size;omega
   have a0:=aAa a8 aT oZr a6;have a9:=ae.mid a8 oZl;have aN:=HG.out.mid a8;clear a6 ae HG p0 p1 q0 q1 q2;replace B0:=B0.mid a8 oZr;replace B1:=B1.mid a8 oZr;replace B2:=B2.mid a8 oZr;replace hm:=hm.trans a8;clear a8 aT;have p0:=B0.cell 0 rfl;have p1:=B0.cell 1 rfl;obtain⟨q0,q1,q2⟩:=B1.c3 rfl;refine aAo (S:=(fun w'=>(w'.cell? ⟨w.heap.size+1,0,none⟩=some (.int .i64 r)/\w'.cell? ⟨w.heap.size+1,1,none⟩=some (.int .i64 n)/\w'.cell? ⟨w.heap.size+1,2,none⟩=some (.slice A es.length c))/\w'.cell? ⟨w,1,none⟩=some (.slice (some ⟨Bd,od,none⟩) d.length cd)/\w'.cell? ⟨Bd,od+k,none⟩=some (.slice Ak xs.length ck))) [] oK ⟨⟨q0,q1,q2⟩,p1,a0⟩ ?_;generalize World.drew wr=wz at B0 B1 B2 hm aN a9 a0 p0 p1 q0 q1 q2 |-;have hS:(wz.cell? ⟨w.heap.size+1,0,none⟩=some (.int .i64 r)/\wz.cell? ⟨w.heap.size+1,1,none⟩=some (.int .i64 n)/\wz.cell? ⟨w.heap.size+1,2,none⟩=some (.slice A es.length c))/\wz.cell? ⟨w,1,none⟩=some (.slice (some ⟨Bd,od,none⟩) d.length cd)/\wz.cell? ⟨Bd,od+k,none⟩=some (.slice Ak xs.length ck):=⟨⟨q0,q1,q2⟩,p1,a0⟩
   refine tkZ [] 0 rfl hS ?_;try simp only[oP]
   refine tkZ [] 1 rfl hS ?_;try simp only[oP]
   refine tkZ [] 2 rfl hS ?_;try simp only[oP]
   refine tkZ [] 3 rfl hS ?_;try simp only[oP]
   refine tkZ [] 4 rfl hS ?_;try simp only[oP]
   refine tkZ [] 5 rfl hS ?_;try simp only[oP]
   have aU:Bd<wz.heap.size:=by have:=hd.size;have:=hm.size;omega
   refine rdZ 6 rfl (fun K hK=>?_)
   (go_simp;(with_reducible refine(aEI r n A es c Ak xs ck wz ag aZ lo hi (hr.mid hm oZl) a9 ah.out oO aj.out).mono ?_);rintro en w6 ⟨A7,c7,rfl,ab,a7⟩;have aJ:=B0.mid a7 oZr;have aK:=B1.mid a7 oZr;have a2:=aAa a7 aU oZr a0;go_wp2_with fail)
   refine hK.out _ _ (Or.inr ⟨aK.c3 rfl,aJ.cell 1 rfl,a2⟩) (fun _=>?_);clear hK K;try simp only[oP]
   refine rdZ 7 rfl (fun K hK=>?_);go_simp;refine hK.out _ _ (Or.inr ⟨aK.c3 rfl,aJ.cell 1 rfl,a2⟩) (fun _=>?_);clear hK K;try simp only[oP]
   refine aAj oK ?_ _;have aH:=ab.2.1;have HG:=oH aN;have ai:=oH aH;clear hS p0 p1 q0 q1 q2 a0 a2 aJ aK ab aH a9 aU aN;replace B0:=B0.mid a7 oZr;replace B1:=B1.mid a7 oZr;replace B2:=B2.mid a7 oZr;replace hm:=hm.trans a7;have aO:=B2.1;go_wp2_with (at_builtin;refine aFV rfl _ _ rfl rfl HG.out a7 ⟨A7,c7,wordP r n es xs⟩ ai.out rfl oO ?_;intro A10 ap bC aM a5)
   go_roundw
   case rel=>
    refine⟨k+1,rows++[⟨A7,c7,wordP r n es xs⟩],A10,ap,oO,by go_num,rfl,oH ?_,oH aM,B0.mid a5,B1.mid a5,B2.mid a5,hm.transNew a5 oL⟩;rw[aAv,HD.out,aGm am.out,List.map_append]
    rfl
   simp[intOf];omega
  obtain rfl:k=d.length:=by omega
  have bB:¬ (d.length:Int)<(r:Int):=by have:=aL.out;omega
  have b4:d.length<=3:=by have:=aL.out;omega
  have hD:=HD.out;rw[List.take_length] at hD;have au:aAK (d.map (wordP r n es))<=d.length * 40:=by
   have:=aKy (m:=40) (d.map (wordP r n es)) (fun x hx=>by obtain⟨y, -,rfl⟩:=List.mem_map.1 hx;exact aNZ oO)
   rwa [List.length_map] at this
  have ad:=HG.out.rss;rw[hD] at ad;have hC:=fun W lo hi h=>aHR r A1 (d.map (wordP r n es)) c1 W lo hi h (by rw[List.length_map];omega) (aJy oO oO) rr rs aC b ak.out;simp only[List.length_map] at hC;have HC:=oH hC;clear hC hD HD au;go_wp2_with fail;with_reducible refine(HC.out _ _ _ ad).mono ?_
  rintro en w8 ⟨A8,c8,rfl,ax,aF⟩;replace B0:=B0.mid aF oZr;replace B1:=B1.mid aF oZr;replace B2:=B2.mid aF oZr;replace hm:=hm.trans aF;have aO:=B2.1;have b1:=aF.size;have b2:L<=wr.heap.size:=oV (Nat.le_succ _) HG.out.act.size;obtain⟨z0,z1,z2⟩:=B2.c3 rfl;have zf:=B2.2.2;clear p0 p1 q0 q1 q2;have an:=oJ w8 #[rr,rs,.slice A8 aC.length c8] 35;have aP:w.heap.size+1+1<w8.heap.size:=aO;obtain⟨q0,q1,q2⟩:=an.c3 rfl;go_wp2_with fail;refine oW (v:=.tuple #[.agg #[rr,rs,.slice A8 aC.length c8],.bool b]) (by simp[results,Tryz.results76,go_sem,z0,z1,z2,zf,q0,q1,q2,aP,World.cell?_alloc_lt]) rfl ⟨A8,c8,rfl,?_,?_⟩
  .refine OG.wide (OG.mid ax (a:=w.heap.size+2) (b:=w.heap.size+3) ?_ oL) oO (by simp;try omega) oN
   repeat (first|exact Mid.refl _ _ _|refine Mid.trans ?_ (Mid.zero (oE _ _))|refine Mid.stored ?_ _ (by simp;try omega) (by simp;try omega))
  repeat (first|exact hm|refine Mid.trans ?_ (oE _ _)|refine oQ ?_ (by simp;try omega) _)
 have aG:¬ aJE r0 d r s es:=fun h=>hrk h.2.2;obtain⟨rfl,rfl,rfl,rfl⟩:=HR.out.no aG;have b0:(r != r0)=true:=by simpa using hrk
 obtain⟨z0,z1,z2⟩:=B2.c3 rfl;have zf:=B2.2.2;clear hrk a4 a1;go_wp2_with fail;refine oW (v:=.tuple #[.agg #[(0:Int),(0:Int),.slice none 0 0],.bool false]) (by simp[results,Tryz.results76,go_sem,z0,z1,z2,zf]) rfl ⟨none,0,rfl,OG.nil,?_⟩;repeat (first|exact a3|refine oQ ?_ (by simp;try omega) _)
end Go.Proofs.YtkimajabegojoaaGreat
