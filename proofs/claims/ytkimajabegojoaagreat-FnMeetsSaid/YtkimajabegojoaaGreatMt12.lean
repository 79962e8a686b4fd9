/- Lemmas. -/
import Derived.Test.YtkimajabegojoaaGreatMt11
import Derived.Test.YtkimajabegojoaaGreatMt5
import Derived.Test.YtkimajabegojoaaGreatMt2
import Derived.Test.YtkimajabegojoaaGreatMt7
import Derived.Test.YtkimajabegojoaaGreatMt1
import Derived.Test.YtkimajabegojoaaGreatMt8
import Derived.Laws.Bits128
import Derived.IntWalk
namespace Go.Proofs.YtkimajabegojoaaGreat
set_option linter.unusedVariables false
set_option linter.unusedSimpArgs false
set_option maxHeartbeats 40000000
set_option maxRecDepth 100000
open Go.RowKit
section
section
variable {r s s':Int} {ea eb:List Ed}
def aLn(ea eb:List Ed)(p0:Int × Int)(st:PS):Prop:=∀ q∈st,∃ w,Pa ea p0.1 w q.1/\Pa eb p0.2 w q.2
theorem aIU{p0 p:Int × Int}(hp:∃ w,Pa ea p0.1 w p.1/\Pa eb p0.2 w p.2):∀(K:List Int) {st:PS},aLn ea eb p0 st->aLn ea eb p0 (aBo ea eb K p st)
|[],st,h=>h
|x::K,st,h=>by
  rw[aHx];refine aIU hp K fun q hq=>?_;unfold aCo at hq;split at hq
  .exact h q hq
  .rename_i hcc
   rcases List.mem_append.1 hq with hq|hq
   .exact h q hq
   .rw[List.mem_singleton.1 hq]
    obtain⟨w,h1,h2⟩:=hp;have n1:¬ aAe ea p.1 x<0:=fun h=>hcc (.inl h);have n2:¬ aAe eb p.2 x<0:=fun h=>hcc (.inr (.inl h));exact⟨w++[x],h1.snoc (aBN (by omega)),h2.snoc (aBN (by omega))⟩
theorem aFz{L:List Int}{p0:Int × Int}:∀ i,aLn ea eb p0 (aAN ea eb L p0 i)
|0=>fun q hq=>by
  rw[List.mem_singleton.1 hq];exact⟨[],rfl,rfl⟩
|i+1=>by
  cases h:(aAN ea eb L p0 i)[i]? with
 |none=>
   have he:aAN ea eb L p0 (i+1)=aAN ea eb L p0 i:=by
    show(match (aAN ea eb L p0 i)[i]? with|none=>aAN ea eb L p0 i|some p=>aBo ea eb L p (aAN ea eb L p0 i))=_
    rw[h]
   rw[he];exact aFz i
 |some p=>
   rw[aCw h];exact aIU (aFz i p (List.mem_of_getElem? h)) L (aFz i)
theorem aNm(L:List Int)(p0:Int × Int):aLn ea eb p0 (aAf ea eb L p0):=aFz 1601
theorem aMg{P:PS}{G:List Ed}(hsp:∀ i x j,Sp G i x j↔∃(a b:Nat) (p q:Int × Int),i=a/\j=b/\P[a]?=some p/\P[b]?=some q/\Sp ea p.1 x q.1/\Sp eb p.2 x q.2)(hst:∀ p∈P,∀ x t1 t2,Sp ea p.1 x t1->Sp eb p.2 x t2->(t1,t2)∈P):∀ {w:List Int} {a:Nat} {p:Int × Int} {t1 t2:Int},P[a]?=some p->Pa ea p.1 w t1->Pa eb p.2 w t2->∃ b:Nat,P[b]?=some (t1,t2)/\Pa G a w b
|[],a,p,t1,t2,hp,h1,h2=>by
  cases h1
  cases h2
  exact⟨a,hp,rfl⟩
|x::w,a,p,t1,t2,hp,⟨q1,h1,h3⟩,⟨q2,h2,h4⟩=>by
  have hm:=hst p (List.mem_of_getElem? hp) x q1 q2 h1 h2;obtain⟨c,hc⟩:=List.mem_iff_getElem?.1 hm;obtain⟨b,h5,h6⟩:=aMg hsp hst hc h3 h4;exact⟨b,h5,c,(hsp _ _ _).2 ⟨a,c,p,(q1,q2),rfl,rfl,hp,hc,h1,h2⟩,h6⟩
theorem aUJ{P:PS}{G:List Ed}{p0:Int × Int}(hsp:∀ i x j,Sp G i x j↔∃(a b:Nat) (p q:Int × Int),i=a/\j=b/\P[a]?=some p/\P[b]?=some q/\Sp ea p.1 x q.1/\Sp eb p.2 x q.2)(hst:∀ p∈P,∀ x t1 t2,Sp ea p.1 x t1->Sp eb p.2 x t2->(t1,t2)∈P)(hrc:aLn ea eb p0 P)(hnd:P.Nodup)(hhd:P[0]?=some p0):Rch (P.length:Int) G:=by
 intro k k0 k1;obtain⟨k,rfl⟩:=Int.eq_ofNat_of_zero_le k0;have hk:k<P.length:=by omega
 have hq:=List.getElem?_eq_getElem hk;obtain⟨w,h1,h2⟩:=hrc P[k] (List.getElem_mem hk);obtain⟨b,h3,h4⟩:=aMg hsp hst (a:=0) hhd h1 h2;have e1:=aEB hnd hq;have e2:=aEB hnd (p:=P[k]) h3;refine⟨w,?_⟩;rw[<- e1,e2];exact h4
theorem aSC{u v:Int}(ha:IsFol r s ea)(hb:IsFol r s' eb)(h0:PIn s s' (u,v)):Rch ((aAf ea eb (lets r.toNat) (u,v)).length:Int) (aCV r ea eb u v):=
 aUJ (fun i x j=>aJb (i:=i) (x:=x) (j:=j) ha hb h0) (aKa ha hb h0) (aNm (ea:=ea) (eb:=eb) (lets r.toNat) (u,v)) (aDe (lets r.toNat) ha.gr.all hb.gr.all h0).nd (aJZ ea eb (lets r.toNat) (u,v))
end
theorem aNg:∀ l:List Int,0<=aIO l
|[]=>Int.le_refl _
|x::l=>by
  have:=aNg l
  show 0<=max 0 (x - 1)+aIO l
  omega
theorem aML(ea eb:List Ed)(r sb:Nat)(i:Nat):aIO (aAm ea eb r sb i).2<=aIO (aAm ea eb r sb (i+1)).2:=by
 by_cases h:aBd sb i∈(aAm ea eb r sb i).1
 .rw[aDn h]
  omega
 rw[aCi h];simp only;rw[aIP];omega
theorem aHE(ea eb:List Ed)(r sb:Nat):∀ i,aIO (aAm ea eb r sb 1).2<=aIO (aAm ea eb r sb (i+1)).2
|0=>Int.le_refl _
|i+1=>Int.le_trans (aHE ea eb r sb i) (aML ea eb r sb (i+1))
theorem aSg{r sa sb:Nat}{ea eb:List Ed}(ha:IsFol r sa ea)(hb:IsFol r sb eb):((aCV r ea eb 0 0).length:Int) - ((aAf ea eb (lets r) (0,0)).length:Int)<=aIO (aAm ea eb r sb (sa * sb)).2:=by
 have h1:=ha.gr.size;have h2:=hb.gr.size;have hpos:0<sa * sb:=Nat.mul_pos (by omega) (by omega);obtain⟨m,hm⟩:∃ m,sa * sb=m+1:=⟨sa * sb - 1,by omega⟩
 rw[hm];refine Int.le_trans ?_ (aHE ea eb r sb m);have e0:aBd sb 0=(0,0):=by
  unfold aBd;rw[Nat.zero_div,Nat.zero_mod]
  rfl
 have hn:aBd sb 0 ∉ (aAm ea eb r sb 0).1:=by simp[aAm]
 rw[aCi hn,e0];simp only;have hl:(aCV r ea eb 0 0).length<=(aAZ ea eb r (aAf ea eb (lets r) (0,0)) (aAf ea eb (lets r) (0,0)).length).length:=by
  unfold aCV;rw[Int.toNat_natCast];exact aDm _
 generalize aAf ea eb (lets r) (0,0)=P at hl |-;generalize aCV (r:Int) ea eb 0 0=G at hl |-
 show _<=aIO ((aAm ea eb r sb 0).2++[aDy ea eb r P])
 rw[aIP];unfold aDy;have:=aNg (aAm ea eb r sb 0).2;omega
end
theorem aNf:∀ l,aIO l=aIN l
|[]=>rfl
|x::t=>by
  show max 0 (x - 1)+aIO t=max 0 (x - 1)+aIN t
  rw[aNf t]
theorem aOg{r a b:Nat}{es es':List Ed}{n:Int}(h:aFP r a es r b es' n)(c1:IsCor r a es)(c2:IsCor r b es'):n=aIO (aAm es es' r b (a * b)).2:=by
 obtain⟨l,h1,h2⟩:=h;rw[h2,h1.yes ⟨c1,c2,rfl⟩,aNf]
 rfl
theorem aTG{r s:Int}{es:List Ed}{r' s':Int}{es':List Ed}{n:Int}(h:aFP r s es r' s' es' n):0<=n:=by
 obtain⟨l, -,h2⟩:=h;rw[h2,<- aNf];exact aNg l
theorem aPj{r s:Int}{es:List Ed}{r' s':Int}{es':List Ed}{n:Int}(h:aFP r s es r' s' es' n)(c1:IsCor r s es)(c2:IsCor r' s' es')(rk:r=r'):n<=max 0 (rankI r s es - 1) * max 0 (rankI r' s' es' - 1):=by
 subst rk;rw[aJd c1,aJd c2];obtain⟨k,a,rfl,rfl⟩:=c1.gr.nat;obtain⟨k2,b,e,rfl⟩:=c2.gr.nat;rw[aOg h c1 c2,Int.add_sub_cancel,Int.add_sub_cancel];exact aTH c1 c2
theorem aQI{r s:Int}{es:List Ed}{r' s':Int}{es':List Ed}{rr rs:Int}{res:List Ed}{n:Int}(hi:IntIs r s es r' s' es' rr rs res true)(h:aFP r s es r' s' es' n):max 0 (rankI rr rs res - 1)<=n:=by
 have hmf:=aJV hi;have hn0:=aTG h;rcases hi with⟨-,⟨hc,hc',hp⟩,e1,e2,e3⟩|⟨hb, -⟩
 .have hrk:=hp.rk
  subst hrk;have hf:=aKV hp.f1 hp.f2 hp;have hr:=aSC hp.f1 hp.f2 hp.pin;have hch:=aLx hf hr;have e:aEG r es es'=(((aAf es es' (lets r.toNat) (0,0)).length:Int),aCV r es es' 0 0):=by
   unfold aEG;dsimp only
  have e5:chi (aEG r es es')=((aCV r es es' 0 0).length:Int) - ((aAf es es' (lets r.toNat) (0,0)).length:Int):=by
   rw[e];unfold chi;dsimp only
  rw[<- e,e5] at hch;have h4:((res.length:Int) - rs)=((aCV r es es' 0 0).length:Int) - ((aAf es es' (lets r.toNat) (0,0)).length:Int):=by
   generalize coreA r (aEG r es es')=C at hch e2 e3;rw[e2,e3];exact hch
  clear hch e e5 e2 e3 hr hf;have hcor:=hmf.cor;subst e1;rw[aJd hcor];obtain⟨k,a,rfl,rfl⟩:=hc.gr.nat;obtain⟨k2,b,e,rfl⟩:=hc'.gr.nat;have h3:=aSg hc.fol hc'.fol;rw[aOg h hc hc'] at hn0 |-;rw[Int.toNat_natCast] at h4;generalize ((aAf es es' (lets k) (0,0)).length:Int)=P at h3 h4;generalize ((aCV (k:Int) es es' 0 0).length:Int)=G at h3 h4;omega
 cases hb
def aAA(es:List Ed)(w:List Int)(x:Int):Bool:=okB w x && decide (0<=aAe es (rdA es 0 w).1 x)
def aHW(es:List Ed)(w:List Int):Bool:=decide ((rdA es 0 w).1=0)
def aJv(es:List Ed)(r n:Nat):List (List Int):=(pre (aAA es) (lets r) (n+1)).filter (aHW es)
theorem aKK{r s:Int}{es:List Ed}(hf:IsFol r s es)(L:List Int):∀(n:Nat) {v:List Int},v∈lay (aAA es) L n->Pa es 0 v (rdA es 0 v).1
|0,v,h=>by simp[lay] at h;subst h;rfl
|n+1,v,h=>by
  obtain⟨w,hw,x,hx,hfx,rfl⟩:=aGl.1 h;have h1:=aKK hf L n hw;unfold aAA at hfx;rw[Bool.and_eq_true] at hfx;have h2:=h1.snoc (aBN (of_decide_eq_true hfx.2));rw[aIp hf h2];exact h2
theorem aUz{r s:Int}{es:List Ed}(hf:IsFol r s es){L:List Int}{n:Nat}{v:List Int}(h:v∈lay (aAA es) L n):goV es 0 v=some (rdA es 0 v).1:=(aRw es v 0 _).2 (aIp hf (aKK hf L n h))
theorem aSV{es:List Ed}{r:Nat}:∀(n:Nat) {v:List Int},v∈lay (aAA es) (lets r) n->Rd v
|0,v,h=>by simp[lay] at h;subst h;exact Rd.nil
|n+1,v,h=>by
  obtain⟨w,hw,x,hx,hfx,rfl⟩:=aGl.1 h;refine(aSV n hw).snoc fun t a e ha=>?_;unfold aAA at hfx;rw[Bool.and_eq_true,e,aOi] at hfx;have h1:=hfx.1;rw[ha] at h1;simp at h1
theorem aQJ{f:List Int->Int->Bool}{L:List Int}:∀ {n:Nat} {v:List Int},v∈pre f L n->∃ k,k<n/\v∈lay f L k
|0,v,h=>by simp[pre] at h
|n+1,v,h=>by
  rcases List.mem_append.1 h with h|h
  .obtain⟨k,hk,h⟩:=aQJ h
   exact⟨k,by omega,h⟩
  .exact⟨n,by omega,h⟩
theorem aSm{r:Nat}{s:Int}{es:List Ed}(hf:IsFol r s es){n:Nat}{w:List Int}(h:w∈aJv es r n):w.length<=n/\LtW w/\Rd w/\InS es w:=by
 obtain⟨h1,h2⟩:=List.mem_filter.1 h;obtain⟨k,hk,h3⟩:=aQJ h1;have h4:=aKK hf _ _ h3;have h5:=(aSZ h1).1;rw[of_decide_eq_true h2] at h4;exact⟨by omega,h4.lt hf.gr,aSV _ h3,InS.mk hf h4⟩
theorem aQE{r:Nat}(hr:r<=3)(es:List Ed){n:Nat}(hn:n<=4):(aJv es r n).length<=38880:=by
 have h1:=List.length_filter_le (aHW es) (pre (aAA es) (lets r) (n+1));have h2:=aTM (f:=aAA es) (L:=lets r) (by rw[aBL];omega) (n:=n+1) (by omega);unfold aJv;omega
theorem aJh(r n0 n:Nat)(A:Option Addr)(es:List Ed)(c:Nat)(w:World)(lo hi:Nat)(hr:RG w lo hi A es)(hfo:IsFol r n0 es)(hn:n<=4) :
  Calls Tryz.prog 48 #[aAw r n0 A es.length c,.int .i64 0,.int .i64 n] w fun e w'=>∃ A1 c1,e=.returned (.slice A1 (aJv es r n).length c1)/\OSS w' w.heap.size w'.heap.size 44 3 A1 c1 (aJv es r n)/\Mid 0 0 w w':=by
 have hr1:1<=r:=by have:=hfo.gr.rank;omega
 have hr3:r<=3:=by have:=hfo.gr.rank;omega
 have hn1:1<=(n0:Int)/\(n0:Int)<=40:=hfo.gr.size;have hel:=hfo.gr.len;have HGL:=oH (show ∀ e∈es,1<=e.l/\e.l<=3 from fun e he=>by have h1:=hfo.gr.all e he;simp only[InG] at h1;omega);have hLL:(lets r).length<=6:=by rw[aBL];omega
 have HLB:=oH (fun k (hk:k<=5)=>aUy (f:=aAA es) hLL hk);have HPB:=oH (fun k (hk:k<=6)=>aTM (f:=aAA es) hLL hk);have hm0:Mid 0 0 w ((w.alloc (.cells #[.int .i64 r,.int .i64 n0,.slice A es.length c] 35)).alloc (.cells #[] 44)):=(Mid.alloc _ _).trans (Mid.alloc _ _);have B0:=(Box.new w #[.int .i64 r,.int .i64 n0,.slice A es.length c] 35).mid (Mid.alloc _ (.cells #[] 44)) oZr;have O1:=Own1.empty (w.alloc (.cells #[.int .i64 r,.int .i64 n0,.slice A es.length c] 35));simp only[World.size_alloc] at O1;have hIF:=fun W h=>aAT r n0 A es c W lo hi h (by omega) true (iff_of_true rfl hfo);have HIF:=oH hIF;have HFO:=oH hfo;clear hIF hfo;have hib:inB 0 0 ((n0:Int) - 1)=true:=by unfold inB;simp;omega
 have hib4:inB (n:Int) 0 4=true:=by unfold inB;simp;omega
 go_enter Tryz.func48,Tryz.ntmps48
 go_wp2_with fail;generalize (w.alloc (.cells #[.int .i64 r,.int .i64 n0,.slice A es.length c] 35)).alloc (.cells #[] 44)=w1 at hm0 B0 O1 |-;have hs1:w.heap.size+1<w1.heap.size:=(O1.lt rfl).2;with_reducible refine(HIF.out _ (hr.mid hm0 oZl)).mono ?_
 rintro en w2 ⟨rfl,hm2⟩;have hs2:=hm2.size;replace O1:=O1.mid hm2;replace B0:=B0.mid hm2 oZr;replace hm0:=hm0.trans hm2;clear hm2;obtain⟨p0,p1,p2⟩:=B0.c3 rfl;have hw1:IntKind.i64.wrap ((n0:Int) - 1)=(n0:Int) - 1:=IntWalk.i64_in _ (by omega);go_wp2_with fail;with_reducible refine(aBJ hib _).mono ?_
 rintro en w3 ⟨rfl,rfl⟩;have hb1:w.heap.size<w2.heap.size:=B0.1;have hb1':w.heap.size<w2.heap.size+1:=by omega
 have P0:=(aAi w2 3 1).alloc (.cells #[.slice (some ⟨w2.heap.size,0,none⟩) 0 0] 44);have P1:=aGR (w2.alloc (.cells #[] 3)) 44 (.slice (some ⟨w2.heap.size,0,none⟩) 0 0);simp only[World.size_alloc] at P1;have hsw:(w2.alloc (.cells #[] 3)).heap.size<=((w2.alloc (.cells #[] 3)).alloc (.cells #[.slice (some ⟨w2.heap.size,0,none⟩) 0 0] 44)).heap.size:=by simp
 have hL0:Own1 ((w2.alloc (.cells #[] 3)).alloc (.cells #[.slice (some ⟨w2.heap.size,0,none⟩) 0 0] 44)) w2.heap.size (some ⟨w2.heap.size+1,0,none⟩) 1 1 [⟨some ⟨w2.heap.size,0,none⟩,0,[]⟩]:=
  ⟨aAp P1 (Nat.le_succ _),⟨fun r hr=>by rw[List.mem_singleton] at hr;subst hr;exact⟨oN,P0,fun g hg=>(P0.lt g hg).2⟩,by simp⟩⟩
 have hal:Mid 0 0 w2 ((w2.alloc (.cells #[] 3)).alloc (.cells #[.slice (some ⟨w2.heap.size,0,none⟩) 0 0] 44)):=(Mid.alloc _ _).trans (Mid.alloc _ _);go_wp2_with fail;with_reducible refine(aBJ hib4 _).mono ?_
 rintro en w3 ⟨rfl,rfl⟩;go_wp2_with fail;generalize (w2.alloc (.cells #[] 3)).alloc (.cells #[.slice (some ⟨w2.heap.size,0,none⟩) 0 0] 44)=w3 at hL0 hal |-;replace O1:=O1.mid hal;replace B0:=B0.mid hal oZr;replace hm0:=hm0.trans hal;have hs3:=hal.size;have hap0:Apart (some ⟨w.heap.size+1,0,none⟩) 0 0 (some ⟨w2.heap.size+1,0,none⟩) 1 1:=fun g hg e=>by
  injection hg with hg
  injection e with e
  simp only at hg e;omega
 have HL0:=oH (hL0.base (show w.heap.size+1<=w2.heap.size by omega));have HO0:=oH O1;have HAP0:=oH hap0;have HD0:Hid (aBe [(⟨some ⟨w2.heap.size,0,none⟩,0,[]⟩:Row)]=lay (aAA es) (lets r) 0):=oH rfl;generalize [(⟨some ⟨w2.heap.size,0,none⟩,0,[]⟩:Row)]=rowsL0 at HL0 HD0;clear O1 hL0 hap0 P0 P1 p0 p1 p2 hal hw1 hsw hb1';generalize (some (⟨w.heap.size+1,0,none⟩:Addr))=AO at HO0 HAP0 |-;generalize (some (⟨w2.heap.size+1,0,none⟩:Addr))=AL at HL0 HAP0 |-;with_reducible refine(aJl r _ (by omega)).mono ?_
 rintro en w4 ⟨A8,c8,rfl,hL8,hm4⟩;have hs4:=hm4.size;replace HO0:=oH (HO0.out.mid hm4);replace HL0:=oH (HL0.out.mid hm4);replace B0:=B0.mid hm4 oZr;replace hm0:=hm0.trans hm4;obtain⟨LL,hLe⟩:∃ LL,(lets r).length=LL:=⟨_,rfl⟩
 rw[hLe] at hL8 |-;have hLL6:LL<=6:=by omega
 have hLpl:w.heap.size<w3.heap.size:=by omega
 have HLe:=oH hLe;have HLT:=oH hL8;generalize w3.heap.size=Lp at HLT hLpl;clear hL8 hm4 hLe;go_wp2_with fail;go_loopw [7,8,10] (fun ov lv nv wr=>∃(k no nl:Nat) (rowsO rowsL:List Row) (A1 A2:Option Addr) (c1 c2:Nat),nv=.int .i64 k/\ov=.slice A1 no c1/\lv=.slice A2 nl c2/\Hid (k<=n+1)/\Hid (aBe rowsO=(pre (aAA es) (lets r) k).filter (aHW es))/\Hid (aBe rowsL=lay (aAA es) (lets r) k)/\Hid (Own1 wr (w.heap.size+1) A1 no c1 rowsO)/\Hid (Own1 wr (w.heap.size+1) A2 nl c2 rowsL)/\Hid (Apart A1 no c1 A2 nl c2)/\Hid (wr.ownsRow Lp 3 1 (.slice A8 LL c8) LL (aAd (lets r)))/\Box wr w.heap.size [.int .i64 r,.int .i64 n0,.slice A es.length c]/\Mid 0 0 w wr) (fun _ _ nv _=>n+1 - (intOf nv).toNat)
 case atStart=>exact⟨0,0,1,[],rowsL0,AO,AL,0,1,rfl,rfl,rfl,oH oZ,oH rfl,HD0,HO0,HL0,HAP0,HLT,B0,hm0⟩
 clear HD0 HO0 HL0 HAP0 HLT B0 hm0;obtain⟨wo,hwo⟩:∃ wo,wo=wr:=⟨_,rfl⟩
 subst hwo;obtain⟨k,no,nl,rowsO,rowsL,A1,A2,c1,c2,rfl,rfl,rfl,HK,HDO,HDL,HO,HL,HAP,HLT,B0,hm⟩:=hrel;have hkn:=HK.out;by_cases hlt:k<n+1
 .have d1:decide ((k:Int)<=(n:Int))=true:=by simp;omega
  have hk1:(k:Int)<=(n:Int):=by omega
  have hlb:nl<=7776:=by have h1:=HLB.out k (by omega);have h2:=HL.out.len;rw[<- HDL.out,aBs] at h1;omega
  have hob:no<=40000:=by have h1:=HPB.out k (by omega);have h2:=HO.out.len;have h3:=List.length_filter_le (aHW es) (pre (aAA es) (lets r) k);rw[<- HDO.out,aBs] at h3;omega
  have hws:w.heap.size+1<=wo.heap.size:=B0.1;have hal:=Mid.alloc wo (.cells #[] 44);have hN0:=(Own1.empty wo).base hws;have hapO:Apart A1 no c1 (some ⟨wo.heap.size,0,none⟩) 0 0:=fun g hg e=>by
   injection e with e
   have:=HO.out.lt hg;simp only at e;omega
  have hapL:Apart A2 nl c2 (some ⟨wo.heap.size,0,none⟩) 0 0:=fun g hg e=>by
   injection e with e
   have:=HL.out.lt hg;simp only at e;omega
  have HN1:=oH hN0;have HAPO:=oH hapO;have HAPL:=oH hapL;have HO1:=oH (HO.out.mid hal);have HL1:=oH (HL.out.mid hal);have HLT1:=oH (aAc HLT.out hal oZl);have B1:=B0.mid hal oZr;have hm1:=hm.trans hal;clear hN0 hapO hapL HO HL HLT B0;go_wp2_with fail;generalize wo.alloc (.cells #[] 44)=w5 at hal HN1 HO1 HL1 HLT1 B1 hm1 |-;generalize (some (⟨wo.heap.size,0,none⟩:Addr))=AN at HN1 HAPO HAPL |-;have HDN1:Hid (aBe ([]:List Row)=aBy (aAA es) (lets r) ((lay (aAA es) (lets r) k).take 0)):=oH rfl;have HDO1:Hid (aBe rowsO=(pre (aAA es) (lets r) k++(lay (aAA es) (lets r) k).take 0).filter (aHW es)):=oH (by rw[HDO.out];simp);clear hal HDO hm;go_loopw [7,11,12] (fun ov xv iv wr=>∃(i no1 nn:Nat) (rowsO1 rowsN:List Row) (A3 A4:Option Addr) (c3 c4:Nat),iv=.int .i64 i/\ov=.slice A3 no1 c3/\xv=.slice A4 nn c4/\Hid (i<=nl)/\Hid (aBe rowsO1=(pre (aAA es) (lets r) k++(lay (aAA es) (lets r) k).take i).filter (aHW es))/\Hid (aBe rowsN=aBy (aAA es) (lets r) ((lay (aAA es) (lets r) k).take i))/\Hid (Own1 wr (w.heap.size+1) A3 no1 c3 rowsO1)/\Hid (Own1 wr (w.heap.size+1) A2 nl c2 rowsL)/\Hid (Own1 wr (w.heap.size+1) A4 nn c4 rowsN)/\Hid (Apart A3 no1 c3 A2 nl c2)/\Hid (Apart A3 no1 c3 A4 nn c4)/\Hid (Apart A2 nl c2 A4 nn c4)/\Hid (wr.ownsRow Lp 3 1 (.slice A8 LL c8) LL (aAd (lets r)))/\Box wr w.heap.size [.int .i64 r,.int .i64 n0,.slice A es.length c]/\Mid 0 0 w wr) (fun _ _ iv _=>nl - (intOf iv).toNat)
  case atStart=>exact⟨0,no,0,rowsO,[],A1,AN,c1,0,rfl,rfl,rfl,oH oZ,HDO1,HDN1,HO1,HL1,HN1,HAP,HAPO,HAPL,HLT1,B1,hm1⟩
  clear HDO1 HDN1 HO1 HL1 HN1 HAP HAPO HAPL HLT1 B1 hm1 hws;obtain⟨wp,hwp⟩:∃ wp,wp=wr:=⟨_,rfl⟩
  subst hwp;obtain⟨i,no1,nn,rowsO1,rowsN,A3,A4,c3,c4,rfl,rfl,rfl,HI,HDO,HDN,HO,HL,HN,HAP,HAPO,HAPL,HLT,B0,hm⟩:=hrel;have hin:=HI.out;by_cases hlt2:i<nl
  .obtain⟨rr,hrr⟩:=aAs rowsL (show i<rowsL.length by rw[HL.out.len];exact hlt2)
   have hxs:(lay (aAA es) (lets r) k)[i]?=some rr.xs:=by rw[<- HDL.out];simp[aBe,hrr]
   obtain⟨b2,hA2,hb2l,hb2,hce,hrv,hcap⟩:=HL.out.row hrr;obtain⟨hwk,hwl⟩:=aQz (List.mem_of_getElem? hxs);have HRR:=oH hrr;have HXS:=oH hxs;have HWL:=oH hwl;obtain⟨Aw,cw,xw⟩:=rr;simp only[Row.v] at hce hrv hcap hwk hwl;simp only at HXS HWL;have hok:OkI xw:=fun x hx=>by have:=aBz.1 (hwl x hx);omega
   have hlay:=List.mem_of_getElem? hxs;have hgo:=aUz HFO.out hlay;obtain⟨u,hu⟩:∃ u,(rdA es 0 xw).1=u:=⟨_,rfl⟩
   rw[hu] at hgo;have HU:=oH hu;have hWW:Calls Tryz.prog 128 #[aAw r n0 A es.length c,.int .i64 0,.slice Aw xw.length cw] wp fun e w'=>e=.returned (.tuple #[.int .i64 u,.bool true])/\Mid 0 0 wp w':=by
    have h1:=aEI r n0 0 A es c Aw xw cw wp lo hi _ _ (hr.mid hm oZl) hrv HFO.out (by omega) (by omega) hok;refine Calls.mono h1 ?_;rintro e w' ⟨u2,b,rfl,h2,h3,h4⟩;have hgo':goV es ((0:Nat):Int) xw=some u:=hgo;cases b
    .have h5:=h3 rfl
     rw[hgo'] at h5;cases h5
    have h5:=h2 rfl;rw[hgo'] at h5;injection h5 with h5
    subst h5;exact⟨rfl,h4⟩
   clear hlay hu;rw[hwk] at hWW;have HWK:=oH hwk;have HRV:=oH hrv;have HGO:=oH hgo;obtain⟨p0,p1,p2⟩:=B0.c3 rfl;have hi0:(0:Int)<=(i:Int):=by omega
   have hi1:(i:Int)<(nl:Int):=by omega
   have hwc:w.heap.size<wp.heap.size:=B0.1;rw[hwk] at hce;have hHL:=HL;clear hrr hxs hwl hgo hok hrv;subst hA2;go_wp2_with fail;with_reducible refine hWW.mono ?_
   rintro en w6 ⟨rfl,hm6⟩;have hs6:=hm6.size;have HO6:=oH (HO.out.mid hm6);have HL6:=oH (HL.out.mid hm6);have HN6:=oH (HN.out.mid hm6);have HLT6:=oH (aAc HLT.out hm6 oZl);have hrv6:=HRV.out.mid hm6 oZl;have B6:=B0.mid hm6 oZr;replace hm:=hm.trans hm6;clear HO HL HN HLT HRV B0 hm6 p0 p1 p2 hHL hce hWW;obtain⟨lb,hlb1⟩:∃ lb,aHW es xw=lb:=⟨_,rfl⟩
   have HLB1:=oH hlb1;have hue:(u == 0)=lb:=by
    rw[<- hlb1];unfold aHW;rw[HU.out];by_cases h:u=0
    .rw[beq_iff_eq.2 h,decide_eq_true h]
    rw[beq_eq_false_iff_ne.2 h,decide_eq_false h]
   clear hlb1;cases lb
   focus
    have HO9:=HO6;have HL9:=HL6;have HN9:=HN6;have HLT9:=HLT6;have B9:=B6;have hm9:=hm;have HAP9:=HAP;have HAPO9:=HAPO;have HDO9:Hid (aBe rowsO1=(pre (aAA es) (lets r) k++(lay (aAA es) (lets r) k).take (i+1)).filter (aHW es)):=oH (by
     obtain⟨h1,h2⟩:=List.getElem?_eq_some_iff.1 HXS.out;rw[HDO.out,List.take_succ_eq_append_getElem h1,h2,<- List.append_assoc,List.filter_append (l₁:=pre (aAA es) (lets r) k++(lay (aAA es) (lets r) k).take i),List.filter_cons,if_neg (by rw[HLB1.out];simp)];simp)
    have HDN9:Hid (aBe rowsN=aBy (aAA es) (lets r) ((lay (aAA es) (lets r) k).take i)++aJY (aAA es) ((lets r).take 0) xw):=oH (by rw[HDN.out];simp[aJY]);have HLS:=oH (aHK (f:=aAA es) (L:=lets r) HXS.out);have hs9:=hm9.size;clear HO6 HL6 HN6 HLT6 B6 HAP HAPO HDO HDN hm hrv6;go_wp2_with fail;obtain⟨A9,rfl⟩:∃ x,x=A3:=⟨_,rfl⟩
    obtain⟨c9,rfl⟩:∃ x,x=c3:=⟨_,rfl⟩
    obtain⟨nO,rfl⟩:∃ x,x=no1:=⟨_,rfl⟩
    obtain⟨rowsO9,rfl⟩:∃ x,x=rowsO1:=⟨_,rfl⟩
   rotate_left
   focus
    have hoe:=aAi w6 3 1;have hal:=Mid.alloc w6 (.cells #[] 3);have hra:=(hrv6.mid hal oZl).rs;have hla:(aAd xw).length=k * 1:=by rw[aAG,hwk];omega
    go_wp2_with (at_builtin;refine aFH rfl _ _ 44 rfl w6.heap.size 3 (.int .i64 0) 1 8 aBZ aCg rfl (by decide) _ _ _ rfl hoe Aw k cw _ (aAd xw) rfl hra hla (aAu _) ?c4 ?c5 ?c6 ?next)
    case c4=>unfold maxLen;omega
    case c5=>omega
    case c6=>simp
    intro v7 w7 ho7 hgr7 hat7;obtain⟨A7,c7,rfl, -, -⟩:=aAg ho7;try rw[Nat.zero_add,List.nil_append] at ho7
    try rw[Nat.zero_add]
    have hm7:Mid 0 0 w6 w7:=hal.transNew (Mid.of_grownRow hoe hgr7) (Or.inl oN);have hs7:=hm7.size;have HR7:Hid (w7.ownsRow w6.heap.size 3 1 (Row.v ⟨A7,c7,xw⟩) xw.length (aAd xw)):=oH (by unfold Row.v;rw[hwk];exact ho7);have HU7:Hid (Row.v ⟨A7,c7,xw⟩=.slice A7 k c7):=oH (by unfold Row.v;rw[hwk]);clear ho7 hgr7 hat7 hoe hal hra hla;have hno1:no1<=50000:=by
     have h1:=HO6.out.len;have h2:=congrArg List.length HDO.out;have h3:=HPB.out k (by omega);have h4:=HLB.out k (by omega);rw[aBs] at h2;have h5:=List.length_filter_le (aHW es) (pre (aAA es) (lets r) k++(lay (aAA es) (lets r) k).take i);rw[List.length_append,List.length_take] at h5;omega
    go_wp2_with (at_builtin;refine MarkerX.to ?_)
    unfold MarkerX;refine aMB rfl _ _ rfl rfl HO6.out hm7 ⟨A7,c7,xw⟩ (.slice A7 k c7) HU7.out HR7.out rfl (by omega) (by omega) ?_;intro A9 c9 w9 hO9 hgr9 hat9;have hO7:=HO6.out.mid hm7;have hL7:=HL6.out.mid hm7;have hN7:=HN6.out.mid hm7;have hLT7:=aAc HLT6.out hm7 oZl;have B7:=B6.mid hm7 oZr;have hm7':=hm.trans hm7;have hlo:∀ g,obS A3 no1 c3=some g->w.heap.size+1<=g:=fun g hg=>(hO7.lt hg).1;have HO9:=oH hO9;have HL9:=oH (hL7.other hO7 HAP.out.symm hgr9);have HN9:=oH (hN7.other hO7 HAPO.out.symm hgr9);have HLT9:=oH (hLT7.kept hgr9 (aBP hLT7 hO7.out (by decide)));have B9:=B7.grown hgr9 (by intro h0;have:=hlo _ h0;omega);have hm9:=hm7'.grownNew hgr9 (fun g hg=>by have:=hlo g hg;omega);have HAP9:=oH (HAP.out.push hat9 hL7);have HAPO9:=oH (HAPO.out.push hat9 hN7);have HDO9:Hid (aBe (rowsO1++[(⟨A7,c7,xw⟩:Row)])=(pre (aAA es) (lets r) k++(lay (aAA es) (lets r) k).take (i+1)).filter (aHW es)):=oH (by
     obtain⟨h1,h2⟩:=List.getElem?_eq_some_iff.1 HXS.out;rw[aCW,HDO.out,List.take_succ_eq_append_getElem h1,h2,<- List.append_assoc,List.filter_append (l₁:=pre (aAA es) (lets r) k++(lay (aAA es) (lets r) k).take i),List.filter_cons,if_pos HLB1.out]
     rfl)
    have HDN9:Hid (aBe rowsN=aBy (aAA es) (lets r) ((lay (aAA es) (lets r) k).take i)++aJY (aAA es) ((lets r).take 0) xw):=oH (by rw[HDN.out];simp[aJY]);have HLS:=oH (aHK (f:=aAA es) (L:=lets r) HXS.out);have hs9:=hm9.size;clear hO9 hgr9 hat9 hO7 hL7 hN7 hLT7 B7 hm7' hlo HO6 HL6 HN6 HLT6 B6 HAP HAPO HDO HDN hm hm7 hrv6 HU7 HR7;go_wp2_with fail;generalize no1+1=nO at HO9 HAP9 HAPO9 |-;generalize rowsO1++[(⟨A7,c7,xw⟩:Row)]=rowsO9 at HO9 HDO9
   rotate_left
   all_goals
    go_loopw [11,16] (fun xv jv wr=>∃(j nn1:Nat) (rowsN1:List Row) (A5:Option Addr) (c5:Nat),jv=.int .i64 j/\xv=.slice A5 nn1 c5/\Hid (j<=LL)/\Hid (aBe rowsN1=aBy (aAA es) (lets r) ((lay (aAA es) (lets r) k).take i)++aJY (aAA es) ((lets r).take j) xw)/\Hid (Own1 wr (w.heap.size+1) A9 nO c9 rowsO9)/\Hid (Own1 wr (w.heap.size+1) (some ⟨b2,0,none⟩) nl c2 rowsL)/\Hid (Own1 wr (w.heap.size+1) A5 nn1 c5 rowsN1)/\Hid (Apart A9 nO c9 A5 nn1 c5)/\Hid (Apart (some ⟨b2,0,none⟩) nl c2 A5 nn1 c5)/\Hid (wr.ownsRow Lp 3 1 (.slice A8 LL c8) LL (aAd (lets r)))/\Box wr w.heap.size [.int .i64 r,.int .i64 n0,.slice A es.length c]/\Mid 0 0 w wr) (fun _ jv _=>LL - (intOf jv).toNat)
    case atStart=>exact⟨0,nn,rowsN,A4,c4,rfl,rfl,oH oZ,HDN9,HO9,HL9,HN9,HAPO9,HAPL,HLT9,B9,hm9⟩
    clear HDN9 HO9 HL9 HN9 HAPO9 HAPL HLT9 B9 hm9 hs9;obtain⟨wq,hwq⟩:∃ wq,wq=wr:=⟨_,rfl⟩
    subst hwq;obtain⟨j,nn1,rowsN1,A5,c5,rfl,rfl,HJ,HDN,HO,HL,HN,HAPO,HAPL,HLT,B0,hm⟩:=hrel;have hjl:=HJ.out;by_cases hlt3:j<LL
    .obtain⟨x,hx⟩:=aAs (lets r) (show j<(lets r).length by rw[HLe.out];exact hlt3)
     have hxm:=aBz.1 (List.mem_of_getElem? hx);obtain⟨nx,hnx⟩:∃ y,aAe es u x=y:=⟨_,rfl⟩
     have HNX:=oH hnx;have HX:=oH hx;obtain⟨g8,hA8,hg8,hg8s⟩:=aAU HLT.out (show 0<LL by omega);subst hA8;have hcx:wq.cell? ⟨g8,j,none⟩=some (.int .i64 x):=(HLT.out.cellAt j (by omega)).trans (by rw[aAF,hx];rfl);have hj0:(0:Int)<=(j:Int):=by omega
     have hj1:(j:Int)<(LL:Int):=by omega
     have hrd:=HL.out.row HRR.out;obtain⟨b2',hA2', -,hb2',hce',hrv',hcap'⟩:=hrd;simp only at hrv' hcap';have hA:=fun m os=>aAz r n0 A es c u x (wg wq m os) lo hi (hr.mid (hm.trans (Mid.ofWg wq m os)) oZl) (by omega) HGL.out (by omega) (by omega);rw[hnx] at hA;have k0:=aAb B0.1 (B0.cell 0 rfl);have k1:=aAb B0.1 (B0.cell 1 rfl);have k2:=aAb B0.1 (B0.cell 2 rfl);have k4:=aAb hg8s hcx;have HCX:=oH hcx;clear hx hcx hce' hA2' hb2' hnx;rcases List.eq_nil_or_concat xw with hnil|⟨ws,y,hcc⟩
     focus
      have hk0:k=0:=by have:=HWK.out;rw[hnil] at this;exact this.symm
      have hkb:((k:Int) == 0)=true:=by simp[hk0]
      have hokb:okB xw x=true:=by rw[hnil];rfl
      clear hnil hk0;obtain⟨dd,hdd⟩:∃ dd,decide (0<=nx)=dd:=⟨_,rfl⟩
      have hokF:aAA es xw x=dd:=by unfold aAA;rw[hokb,HU.out,HNX.out,hdd];rfl
      clear hokb;have k5:=HX
     rotate_left
     focus
      have hkm:k=ws.length+1:=by have:=HWK.out;rw[hcc,List.length_concat] at this;exact this.symm
      have hkb:((k:Int) == 0)=false:=by simp;omega
      obtain⟨m,hm'⟩:∃ m,ws.length=m:=⟨_,rfl⟩
      have hk1:(k:Int) - 1=(m:Int):=by omega
      have hym:y∈xw:=by rw[hcc];simp
      have hyl:=aBz.1 (HWL.out y hym);have hgx:xw[m]?=some y:=by rw[hcc,List.concat_eq_append,List.getElem?_append_right (by omega),<- hm'];simp
      obtain⟨bw,ow,y',hAw,hbw,hgy,hcy⟩:=hrv'.at (k:=m) (by rw[HWK.out];omega);subst hAw;rw[hgx] at hgy;injection hgy with hgy
      subst hgy;have hbws:bw<wq.heap.size:=Nat.lt_of_lt_of_le hbw hrv'.1;have hm0:(0:Int)<=(m:Int):=by omega
      have hm1:(m:Int)<(k:Int):=by omega
      have k5:=aAb hbws hcy;have hwk1:IntKind.i64.wrap (m:Int)=(m:Int):=IntWalk.i64_in _ (by omega);have hwn:IntKind.i64.wrap (-y) = -y:=IntWalk.i64_in _ (by omega);obtain⟨bb,hbb⟩:∃ bb,(x == -y)=bb:=⟨_,rfl⟩
      have hyx:(y == -x)=bb:=by
       rw[<- hbb];by_cases h:x = -y
       .have h2:y = -x:=by omega
        rw[beq_iff_eq.2 h,beq_iff_eq.2 h2]
       have h2:¬ y = -x:=by omega
       rw[beq_eq_false_iff_ne.2 h,beq_eq_false_iff_ne.2 h2]
      have hokb:okB xw x=!bb:=by rw[hcc,List.concat_eq_append,aOi,hyx]
      have hbn:(x != -y)=!bb:=by rw[<- hbb];rfl
      clear hcc hym hgx hm' hkm hcy hyx;cases bb
      rotate_left
      .have hokF:aAA es xw x=false:=by unfold aAA;rw[hokb];rfl
       have HDN4:Hid (aBe rowsN1=aBy (aAA es) (lets r) ((lay (aAA es) (lets r) k).take i)++aJY (aAA es) ((lets r).take (j+1)) xw):=oH (by rw[aQS HX.out hokF];exact HDN.out);clear hokF HDN;go_wp2_with fail;refine wqg ?_;repeat
        (with_reducible refine wpQuiet_step (fun K hK=>?_))
        go_simp
        first|(with_reducible refine hK _ ?_)|(rw[if_neg (by decide)];(with_reducible refine hK _ ?_))|(apply Exists.intro;refine⟨fun _=>?_,hK _ ?_⟩;((go_at_call 129;exact Calls.wg_of (hA _ _))))
        clear hK K
       with_reducible refine wpQuiet_nil ?_
       rintro _ ⟨⟨nq,osq⟩,rfl⟩;have hwg:=Mid.ofWg wq nq osq;generalize wg wq nq osq=wx at hwg |-;have HO2:=oH (HO.out.mid hwg);have HL2:=oH (HL.out.mid hwg);have HN2:=oH (HN.out.mid hwg);have HLT2:=oH (aAc HLT.out hwg oZl);have B2:=B0.mid hwg oZr;have hm2:=hm.trans hwg;clear HO HL HN HLT B0 hm hwg hrv' k0 k1 k2 k4 k5 hA;go_wp2_with fail;go_roundw
       case rel=>exact⟨j+1,nn1,rowsN1,A5,c5,by go_num,rfl,oH (by omega),HDN4,HO2,HL2,HN2,HAPO,HAPL,HLT2,B2,hm2⟩
       simp[intOf];omega
      obtain⟨dd,hdd⟩:∃ dd,decide (0<=nx)=dd:=⟨_,rfl⟩
      have hokF:aAA es xw x=dd:=by unfold aAA;rw[hokb,HU.out,HNX.out,hdd];rfl
      clear hokb
     rotate_left
     all_goals
      cases dd
      .have HDN4:Hid (aBe rowsN1=aBy (aAA es) (lets r) ((lay (aAA es) (lets r) k).take i)++aJY (aAA es) ((lets r).take (j+1)) xw):=oH (by rw[aQS HX.out hokF];exact HDN.out)
       clear hokF HDN;go_wp2_with fail;refine wqg ?_;repeat
        (with_reducible refine wpQuiet_step (fun K hK=>?_))
        go_simp
        first|(with_reducible refine hK _ ?_)|(rw[if_neg (by decide)];(with_reducible refine hK _ ?_))|(apply Exists.intro;refine⟨fun _=>?_,hK _ ?_⟩;((go_at_call 129;exact Calls.wg_of (hA _ _))))
        clear hK K
       with_reducible refine wpQuiet_nil ?_
       rintro _ ⟨⟨nq,osq⟩,rfl⟩;have hwg:=Mid.ofWg wq nq osq;generalize wg wq nq osq=wx at hwg |-;have HO2:=oH (HO.out.mid hwg);have HL2:=oH (HL.out.mid hwg);have HN2:=oH (HN.out.mid hwg);have HLT2:=oH (aAc HLT.out hwg oZl);have B2:=B0.mid hwg oZr;have hm2:=hm.trans hwg;clear HO HL HN HLT B0 hm hwg hrv' k0 k1 k2 k4 k5 hA;go_wp2_with fail;go_roundw
       case rel=>exact⟨j+1,nn1,rowsN1,A5,c5,by go_num,rfl,oH (by omega),HDN4,HO2,HL2,HN2,HAPO,HAPL,HLT2,B2,hm2⟩
       simp[intOf];omega
      have hokb:=hokF;clear hokF;go_wp2_with fail;refine wqg ?_;repeat
       (with_reducible refine wpQuiet_step (fun K hK=>?_))
       go_simp
       first|(with_reducible refine hK _ ?_)|(rw[if_neg (by decide)];(with_reducible refine hK _ ?_))|(apply Exists.intro;refine⟨fun _=>?_,hK _ ?_⟩;((go_at_call 129;exact Calls.wg_of (hA _ _))))
       clear hK K
      with_reducible refine wpQuiet_nil ?_
      rintro _ ⟨⟨nq,osq⟩,rfl⟩;have hwg:=Mid.ofWg wq nq osq;generalize wg wq nq osq=wx at hwg |-;have hmz:=hwg.trans (Mid.drew1 wx);have hsz:=hmz.size;have HO2:=oH (HO.out.mid hmz);have HL2:=oH (HL.out.mid hmz);have HN2:=oH (HN.out.mid hmz);have HLT2:=oH (aAc HLT.out hmz oZl);have B2:=B0.mid hmz oZr;have hm2:=hm.trans hmz;have hrv2:=hrv'.mid hmz oZl;have kz:=aAa hmz hg8s oZr HCX.out;have hg8z:g8<(World.drew wx).heap.size:=Nat.lt_of_lt_of_le hg8s hsz;have hlw:w.heap.size<wq.heap.size:=B0.1;have hlwz:w.heap.size+1<=(World.drew wx).heap.size:=Nat.le_trans hlw hsz;have hla:(aAd xw).length=k * 1:=by rw[aAG,HWK.out];omega
      have hnn:nn1<=1048576:=by
       have h1:=HN.out.len;have h2:=congrArg List.length HDN.out;have h4:=aIK (f:=aAA es) (L:=lets r) ((lay (aAA es) (lets r) k).take i);have h5:((lay (aAA es) (lets r) k).take i).length<=1296:=by
        have h6:=aNa (f:=aAA es) hLL k;have h7:6 ^ k<=6 ^ 4:=Nat.pow_le_pow_right (by omega) (by omega);rw[List.length_take];omega
       have h8:((lay (aAA es) (lets r) k).take i).length * (lets r).length<=1296 * 6:=Nat.mul_le_mul h5 hLL;have h9:=aOk (f:=aAA es) (L:=(lets r).take j) xw;have h10:((lets r).take j).length<=6:=by rw[List.length_take];omega
       rw[aBs,List.length_append] at h2;omega
      have hone1:∀ u∈[Value.int .i64 x],u.oneCell'=true:=by
       intro u hu;simp at hu;subst hu
       rfl
      have hmx:k+1<=maxLen:=by unfold maxLen;omega
      have hby:(k+1) * 8<=140737488355328:=by omega
      have hmx3:0+k<=maxLen:=by unfold maxLen;omega
      have hby3:(0+k) * 8<=140737488355328:=by omega
      have HDN4:Hid (∀ R:Row,R.xs=xw++[x]->aBe (rowsN1++[R])=aBy (aAA es) (lets r) ((lay (aAA es) (lets r) k).take i)++aJY (aAA es) ((lets r).take (j+1)) xw):=oH (by
       intro R hR;rw[aSy HX.out hokb,aCW,HDN.out];simp[aBe,hR])
      clear HO HL HN HLT B0 hm hrv' hwg hsz hlw hokb HDN k0 k1 k2 k4 k5 hA hg8s;go_wp2_with fail;refine aAl (S:=(fun w'=>w'.cell? ⟨g8,j,none⟩=some (.int .i64 x))) [11,12] (by kernel_rfl) kz ?_;generalize World.drew wx=wz at HO2 HL2 HN2 HLT2 B2 hm2 hrv2 kz hg8z hlwz hmz |-;refine tkZ [11,12] 0 rfl kz ?_;try simp only[oP]
      refine tkZ [3,9,10,11,12] 2 rfl kz ?_;try simp only[oP]
      refine tkZ [6,7,8,9,10,11,12] 4 rfl kz ?_;try simp only[oP]
      refine tkZ [6,7,8,9,10,11,12] 5 rfl kz ?_;try simp only[oP]
      refine tkZ [7,8,9,10,11,12] 6 rfl kz ?_;try simp only[oP]
      refine tkZ [8,9,10,11,12] 7 rfl kz ?_;try simp only[oP]
      refine aAW (rs:=[1,8]) (by kernel_rfl) (by simp) (AllReadyZ.cons rfl (fun K hK=>?_) (AllReadyZ.cons rfl (fun K hK=>?_) AllReadyZ.nil))
      .go_simp
       refine hK.out _ _ (Or.inr (aAa (Mid.alloc wz (.cells #[] 3)) hg8z oZr kz)) (fun _=>?_);clear hK K;try simp only[oP]
       have hal1:=Mid.alloc wz (.cells #[] 3);have e1:=aAi wz 3 1;have hr1:=hrv2.mid hal1 oZl;have k1:=aAa hal1 hg8z oZr kz;have hs1:(wz.alloc (.cells #[] 3)).heap.size=wz.heap.size+1:=by simp
       generalize wz.alloc (.cells #[] 3)=wa at hal1 e1 hr1 k1 hs1 |-;have hg8a:g8<wa.heap.size:=by omega
       have hbs3:wz.heap.size<=wa.heap.size:=by omega
       have hlt1:wz.heap.size<wa.heap.size:=by omega
       clear hs1;refine aAW (rs:=[3,8]) (by kernel_rfl) (by simp) (AllReadyZ.cons rfl (fun K hK=>?_) (AllReadyZ.cons rfl (fun K hK=>?_) AllReadyZ.nil))
       ·(refine aBh (by rfl) (.tmp 106) (.tmp 107) 44 (by rfl) wz.heap.size 3 (.int .i64 0) 1 8 aBZ aCg rfl (by decide) _ 0 _ (by rfl) e1 _ k cw _ (aAd xw) (by rfl) hr1.rs hla (aAu _) hmx3 hby3 hbs3 ?_;intro v3 w3 ho3 hgr3 hat3;obtain⟨A3x,c3x,rfl, -, -⟩:=aAg ho3)
        refine hK.out _ _ (Or.inr (aAa (Mid.of_grownRow e1 hgr3) hg8a (Or.inl hg8z) k1)) (fun _=>?_);clear hK K;try simp only[oP]
        try rw[Nat.zero_add,List.nil_append] at ho3
        try rw[Nat.zero_add]
        have k3:=aAa (Mid.of_grownRow e1 hgr3) hg8a (Or.inl hg8z) k1;have hm3:=hal1.transNew (Mid.of_grownRow e1 hgr3) (Or.inl oN);have hg83:g8<w3.heap.size:=Nat.lt_of_lt_of_le hg8z hm3.size;clear hal1 e1 hr1 k1 hgr3 hat3 hbs3;refine rdZ 8 rfl (fun K hK=>?_);go_simp;refine hK.out _ _ (Or.inr (aAa (Mid.alloc w3 (.cells #[.int .i64 x] 3)) hg83 oZr k3)) (fun _=>?_);clear hK K;try simp only[oP]
        have hal8:=Mid.alloc w3 (.cells #[.int .i64 x] 3);have kc:=aAa hal8 hg83 oZr k3;have hmc:=hm3.trans hal8;have hrow:=ho3.alloc (.cells #[.int .i64 x] 3);have hone:=aMo (w:=w3.alloc (.cells #[.int .i64 x] 3)) (p:=w3.heap.size) (v:=.int .i64 x) (World.cell?_alloc_at _ _ _ _ rfl);generalize w3.alloc (.cells #[.int .i64 x] 3)=wc at hal8 kc hmc hrow hone |-;clear hal8 ho3 hm3 k3;have hg8c:g8<wc.heap.size:=Nat.lt_of_lt_of_le hg8z hmc.size;refine rdZ 9 rfl (fun K hK=>?_)
        (refine aBh (by rfl) (.tmp 108) (.tmp 113) 44 (by rfl) wz.heap.size 3 (.int .i64 0) 1 8 aBZ aCg rfl (by decide) (.slice A3x k c3x) k _ (by rfl) hrow (some ⟨w3.heap.size,0,none⟩) 1 1 _ [.int .i64 x] (by rfl) hone rfl hone1 hmx hby hmc.size ?_;intro v9 w9 ho9 hgr9 hat9;obtain⟨A9x,c9x,rfl, -, -⟩:=aAg ho9)
        refine hK.out _ _ (Or.inr (aAa (Mid.of_grownRow hrow hgr9) hg8c (Or.inl hg8z) kc)) (fun _=>?_);clear hK K;try simp only[oP]
        have k9:=aAa (Mid.of_grownRow hrow hgr9) hg8c (Or.inl hg8z) kc;have hm9:=hmc.transNew (Mid.of_grownRow hrow hgr9) (Or.inl oN);have hg89:g8<w9.heap.size:=Nat.lt_of_lt_of_le hg8z hm9.size;have hrow9:w9.ownsRow wz.heap.size 3 1 (Row.v ⟨A9x,c9x,xw++[x]⟩) (xw++[x]).length (aAd (xw++[x])):=aTN (by rw[aAj];exact ho9) HWK.out;have hu9:Row.v ⟨A9x,c9x,xw++[x]⟩=.slice A9x (k+1) c9x:=by simp only[Row.v,List.length_append,HWK.out,List.length_singleton]
        clear ho9 hgr9 hat9 hrow hone hmc kc;refine rdZ 10 rfl (fun K hK=>?_);go_simp;refine hK.out _ _ (Or.inr (aAa (Mid.alloc w9 (.cells #[.slice A9x (k+1) c9x] 44)) hg89 oZr k9)) (fun _=>?_);clear hK K;try simp only[oP]
        refine rdZ 11 rfl (fun K hK=>?_)
        (refine aFF (by rfl) (.tmp 105) (.tmp 115) (by rfl) (by rfl) HN2.out hm9 ⟨A9x,c9x,xw++[x]⟩ (.slice A9x (k+1) c9x) hu9 hrow9 (by rfl) hnn hlwz ?_;intro A11 c11 w11 hN11 hgr11 hat11)
        refine hK.out _ _ (Or.inl (by simp)) (fun _=>?_);clear hK K;try simp only[oP]
        have hO9:=HO2.out.mid hm9;have hL9:=HL2.out.mid hm9;have hN9:=HN2.out.mid hm9;have hLT9:=aAc HLT2.out hm9 oZl;have B9:=B2.mid hm9 oZr;have hm9':=hm2.trans hm9;have hlo:∀ g,obS A5 nn1 c5=some g->w.heap.size+1<=g:=fun g hg=>(hN9.lt hg).1;have HO11:=oH (hO9.other hN9 HAPO.out hgr11);have HL11:=oH (hL9.other hN9 HAPL.out hgr11);have HN11:=oH hN11;have HLT11:=oH (hLT9.kept hgr11 (aBP hLT9 hN9.out (by decide)));have B11:=B9.grown hgr11 (by intro h0;have:=hlo _ h0;omega);have hm11:=hm9'.grownNew hgr11 (fun g hg=>by have:=hlo g hg;omega);have HAPO11:=oH ((HAPO.out.symm.push hat11 hO9).symm);have HAPL11:=oH ((HAPL.out.symm.push hat11 hL9).symm);have HDN11:=oH (HDN4.out ⟨A9x,c9x,xw++[x]⟩ rfl);clear hN11 hgr11 hat11 hO9 hL9 hN9 hLT9 B9 hm9' hlo HO2 HL2 HN2 HLT2 B2 hm2 hm9 hmz HAPO HAPL HDN4 hrow9 hu9 hrv2 kz k9;refine rdZ 12 rfl (fun K hK=>?_);go_simp;refine hK.out _ _ (Or.inl (by simp)) (fun _=>?_);clear hK K;try simp only[oP]
        refine aAh (by kernel_rfl) ?_ _;go_wp2_with fail;go_roundw
        case rel=>exact⟨j+1,nn1+1,_,A11,c11,by go_num,rfl,oH (by omega),HDN11,HO11,HL11,HN11,HAPO11,HAPL11,HLT11,B11,hm11⟩
        simp[intOf];omega
       go_simp;refine hK.out _ _ (Or.inr (aAa (Mid.alloc wa (.cells #[.int .i64 x] 3)) hg8a oZr k1)) (fun _=>?_);clear hK K;try simp only[oP]
       have hal8:=Mid.alloc wa (.cells #[.int .i64 x] 3);have k8:=aAa hal8 hg8a oZr k1;have hm8:=hal1.trans hal8;replace e1:=e1.alloc (.cells #[.int .i64 x] 3);replace hr1:=hr1.mid hal8 oZl;have c8:(wa.alloc (.cells #[.int .i64 x] 3)).cell? ⟨wa.heap.size,0,none⟩=some (.int .i64 x):=World.cell?_alloc_at _ _ _ _ rfl;have hs8:(wa.alloc (.cells #[.int .i64 x] 3)).heap.size=wa.heap.size+1:=by simp
       generalize wa.alloc (.cells #[.int .i64 x] 3)=w8 at hal8 k8 hm8 e1 hr1 c8 hs8 |-;have hg88:g8<w8.heap.size:=by omega
       replace hbs3:wz.heap.size<=w8.heap.size:=by omega
       have hlt8:wa.heap.size<w8.heap.size:=by omega
       clear k1 hal1 hal8 hs8;refine rdZ 3 rfl (fun K hK=>?_)
       (refine aBh (by rfl) (.tmp 106) (.tmp 107) 44 (by rfl) wz.heap.size 3 (.int .i64 0) 1 8 aBZ aCg rfl (by decide) _ 0 _ (by rfl) e1 _ k cw _ (aAd xw) (by rfl) hr1.rs hla (aAu _) hmx3 hby3 hbs3 ?_;intro v3 w3 ho3 hgr3 hat3;obtain⟨A3x,c3x,rfl, -, -⟩:=aAg ho3)
       refine hK.out _ _ (Or.inr (aAa (Mid.of_grownRow e1 hgr3) hg88 (Or.inl hg8z) k8)) (fun _=>?_);clear hK K;try simp only[oP]
       try rw[Nat.zero_add,List.nil_append] at ho3
       try rw[Nat.zero_add]
       have kc:=aAa (Mid.of_grownRow e1 hgr3) hg88 (Or.inl hg8z) k8;have hmc:=hm8.transNew (Mid.of_grownRow e1 hgr3) (Or.inl oN);have hrow:=ho3;have hone:=aMo (aJG hgr3 (show wa.heap.size<w8.heap.size by omega) (aSY (by omega)) c8);generalize w3=wc at kc hmc hrow hone |-;clear hm8 k8 e1 hr1 c8 hgr3 hat3 ho3;have hg8c:g8<wc.heap.size:=Nat.lt_of_lt_of_le hg8z hmc.size;refine rdZ 9 rfl (fun K hK=>?_)
       (refine aBh (by rfl) (.tmp 108) (.tmp 113) 44 (by rfl) wz.heap.size 3 (.int .i64 0) 1 8 aBZ aCg rfl (by decide) (.slice A3x k c3x) k _ (by rfl) hrow (some ⟨wa.heap.size,0,none⟩) 1 1 _ [.int .i64 x] (by rfl) hone rfl hone1 hmx hby hmc.size ?_;intro v9 w9 ho9 hgr9 hat9;obtain⟨A9x,c9x,rfl, -, -⟩:=aAg ho9)
       refine hK.out _ _ (Or.inr (aAa (Mid.of_grownRow hrow hgr9) hg8c (Or.inl hg8z) kc)) (fun _=>?_);clear hK K;try simp only[oP]
       have k9:=aAa (Mid.of_grownRow hrow hgr9) hg8c (Or.inl hg8z) kc;have hm9:=hmc.transNew (Mid.of_grownRow hrow hgr9) (Or.inl oN);have hg89:g8<w9.heap.size:=Nat.lt_of_lt_of_le hg8z hm9.size;have hrow9:w9.ownsRow wz.heap.size 3 1 (Row.v ⟨A9x,c9x,xw++[x]⟩) (xw++[x]).length (aAd (xw++[x])):=aTN (by rw[aAj];exact ho9) HWK.out;have hu9:Row.v ⟨A9x,c9x,xw++[x]⟩=.slice A9x (k+1) c9x:=by simp only[Row.v,List.length_append,HWK.out,List.length_singleton]
       clear ho9 hgr9 hat9 hrow hone hmc kc;refine rdZ 10 rfl (fun K hK=>?_);go_simp;refine hK.out _ _ (Or.inr (aAa (Mid.alloc w9 (.cells #[.slice A9x (k+1) c9x] 44)) hg89 oZr k9)) (fun _=>?_);clear hK K;try simp only[oP]
       refine rdZ 11 rfl (fun K hK=>?_)
       (refine aFF (by rfl) (.tmp 105) (.tmp 115) (by rfl) (by rfl) HN2.out hm9 ⟨A9x,c9x,xw++[x]⟩ (.slice A9x (k+1) c9x) hu9 hrow9 (by rfl) hnn hlwz ?_;intro A11 c11 w11 hN11 hgr11 hat11)
       refine hK.out _ _ (Or.inl (by simp)) (fun _=>?_);clear hK K;try simp only[oP]
       have hO9:=HO2.out.mid hm9;have hL9:=HL2.out.mid hm9;have hN9:=HN2.out.mid hm9;have hLT9:=aAc HLT2.out hm9 oZl;have B9:=B2.mid hm9 oZr;have hm9':=hm2.trans hm9;have hlo:∀ g,obS A5 nn1 c5=some g->w.heap.size+1<=g:=fun g hg=>(hN9.lt hg).1;have HO11:=oH (hO9.other hN9 HAPO.out hgr11);have HL11:=oH (hL9.other hN9 HAPL.out hgr11);have HN11:=oH hN11;have HLT11:=oH (hLT9.kept hgr11 (aBP hLT9 hN9.out (by decide)));have B11:=B9.grown hgr11 (by intro h0;have:=hlo _ h0;omega);have hm11:=hm9'.grownNew hgr11 (fun g hg=>by have:=hlo g hg;omega);have HAPO11:=oH ((HAPO.out.symm.push hat11 hO9).symm);have HAPL11:=oH ((HAPL.out.symm.push hat11 hL9).symm);have HDN11:=oH (HDN4.out ⟨A9x,c9x,xw++[x]⟩ rfl);clear hN11 hgr11 hat11 hO9 hL9 hN9 hLT9 B9 hm9' hlo HO2 HL2 HN2 HLT2 B2 hm2 hm9 hmz HAPO HAPL HDN4 hrow9 hu9 hrv2 kz k9;refine rdZ 12 rfl (fun K hK=>?_);go_simp;refine hK.out _ _ (Or.inl (by simp)) (fun _=>?_);clear hK K;try simp only[oP]
       refine aAh (by kernel_rfl) ?_ _;go_wp2_with fail;go_roundw
       case rel=>exact⟨j+1,nn1+1,_,A11,c11,by go_num,rfl,oH (by omega),HDN11,HO11,HL11,HN11,HAPO11,HAPL11,HLT11,B11,hm11⟩
       simp[intOf];omega
      go_simp;refine hK.out _ _ (Or.inr (aAa (Mid.alloc wz (.cells #[.int .i64 x] 3)) hg8z oZr kz)) (fun _=>?_);clear hK K;try simp only[oP]
      have hal8:=Mid.alloc wz (.cells #[.int .i64 x] 3);have k8:=aAa hal8 hg8z oZr kz;have hr8:=hrv2.mid hal8 oZl;have c8:(wz.alloc (.cells #[.int .i64 x] 3)).cell? ⟨wz.heap.size,0,none⟩=some (.int .i64 x):=World.cell?_alloc_at _ _ _ _ rfl;have hs8:(wz.alloc (.cells #[.int .i64 x] 3)).heap.size=wz.heap.size+1:=by simp
      generalize wz.alloc (.cells #[.int .i64 x] 3)=w8 at hal8 k8 hr8 c8 hs8 |-;have hg88:g8<w8.heap.size:=by omega
      have hlt8:wz.heap.size<w8.heap.size:=by omega
      clear hs8;refine rdZ 1 rfl (fun K hK=>?_);go_simp;refine hK.out _ _ (Or.inr (aAa (Mid.alloc w8 (.cells #[] 3)) hg88 oZr k8)) (fun _=>?_);clear hK K;try simp only[oP]
      have hal1:=Mid.alloc w8 (.cells #[] 3);have e1:=aAi w8 3 1;have hr1:=hr8.mid hal1 oZl;have c1:=aAa hal1 (show wz.heap.size<w8.heap.size by omega) oZr c8;have k1:=aAa hal1 hg88 oZr k8;have hm1':=hal8.trans hal1;have hs1:(w8.alloc (.cells #[] 3)).heap.size=w8.heap.size+1:=by simp
      generalize w8.alloc (.cells #[] 3)=wa at hal1 e1 hr1 c1 k1 hm1' hs1 |-;have hg8a:g8<wa.heap.size:=by omega
      have hbs3:w8.heap.size<=wa.heap.size:=by omega
      have hlt1:w8.heap.size<wa.heap.size:=by omega
      clear hal8 hal1 k8 hr8 c8 hs1;refine rdZ 3 rfl (fun K hK=>?_)
      (refine aBh (by rfl) (.tmp 106) (.tmp 107) 44 (by rfl) w8.heap.size 3 (.int .i64 0) 1 8 aBZ aCg rfl (by decide) _ 0 _ (by rfl) e1 _ k cw _ (aAd xw) (by rfl) hr1.rs hla (aAu _) hmx3 hby3 hbs3 ?_;intro v3 w3 ho3 hgr3 hat3;obtain⟨A3x,c3x,rfl, -, -⟩:=aAg ho3)
      refine hK.out _ _ (Or.inr (aAa (Mid.of_grownRow e1 hgr3) hg8a (Or.inl hg88) k1)) (fun _=>?_);clear hK K;try simp only[oP]
      try rw[Nat.zero_add,List.nil_append] at ho3
      try rw[Nat.zero_add]
      have kc:=aAa (Mid.of_grownRow e1 hgr3) hg8a (Or.inl hg88) k1;have hmc:=hm1'.transNew (Mid.of_grownRow e1 hgr3) (Or.inl (by omega));have hrow:=aAp ho3 (show wz.heap.size<=w8.heap.size by omega);have hone:=aMo (aJG hgr3 (show wz.heap.size<wa.heap.size by omega) (aSY (by omega)) c1);generalize w3=wc at kc hmc hrow hone |-;clear e1 hr1 c1 k1 hm1' hgr3 hat3 ho3;have hg8c:g8<wc.heap.size:=Nat.lt_of_lt_of_le hg8z hmc.size;refine rdZ 9 rfl (fun K hK=>?_)
      (refine aBh (by rfl) (.tmp 108) (.tmp 113) 44 (by rfl) wz.heap.size 3 (.int .i64 0) 1 8 aBZ aCg rfl (by decide) (.slice A3x k c3x) k _ (by rfl) hrow (some ⟨wz.heap.size,0,none⟩) 1 1 _ [.int .i64 x] (by rfl) hone rfl hone1 hmx hby hmc.size ?_;intro v9 w9 ho9 hgr9 hat9;obtain⟨A9x,c9x,rfl, -, -⟩:=aAg ho9)
      refine hK.out _ _ (Or.inr (aAa (Mid.of_grownRow hrow hgr9) hg8c (Or.inl hg8z) kc)) (fun _=>?_);clear hK K;try simp only[oP]
      have k9:=aAa (Mid.of_grownRow hrow hgr9) hg8c (Or.inl hg8z) kc;have hm9:=hmc.transNew (Mid.of_grownRow hrow hgr9) (Or.inl oN);have hg89:g8<w9.heap.size:=Nat.lt_of_lt_of_le hg8z hm9.size;have hrow9:w9.ownsRow wz.heap.size 3 1 (Row.v ⟨A9x,c9x,xw++[x]⟩) (xw++[x]).length (aAd (xw++[x])):=aTN (by rw[aAj];exact ho9) HWK.out;have hu9:Row.v ⟨A9x,c9x,xw++[x]⟩=.slice A9x (k+1) c9x:=by simp only[Row.v,List.length_append,HWK.out,List.length_singleton]
      clear ho9 hgr9 hat9 hrow hone hmc kc;refine rdZ 10 rfl (fun K hK=>?_);go_simp;refine hK.out _ _ (Or.inr (aAa (Mid.alloc w9 (.cells #[.slice A9x (k+1) c9x] 44)) hg89 oZr k9)) (fun _=>?_);clear hK K;try simp only[oP]
      refine rdZ 11 rfl (fun K hK=>?_)
      (refine aFF (by rfl) (.tmp 105) (.tmp 115) (by rfl) (by rfl) HN2.out hm9 ⟨A9x,c9x,xw++[x]⟩ (.slice A9x (k+1) c9x) hu9 hrow9 (by rfl) hnn hlwz ?_;intro A11 c11 w11 hN11 hgr11 hat11)
      refine hK.out _ _ (Or.inl (by simp)) (fun _=>?_);clear hK K;try simp only[oP]
      have hO9:=HO2.out.mid hm9;have hL9:=HL2.out.mid hm9;have hN9:=HN2.out.mid hm9;have hLT9:=aAc HLT2.out hm9 oZl;have B9:=B2.mid hm9 oZr;have hm9':=hm2.trans hm9;have hlo:∀ g,obS A5 nn1 c5=some g->w.heap.size+1<=g:=fun g hg=>(hN9.lt hg).1;have HO11:=oH (hO9.other hN9 HAPO.out hgr11);have HL11:=oH (hL9.other hN9 HAPL.out hgr11);have HN11:=oH hN11;have HLT11:=oH (hLT9.kept hgr11 (aBP hLT9 hN9.out (by decide)));have B11:=B9.grown hgr11 (by intro h0;have:=hlo _ h0;omega);have hm11:=hm9'.grownNew hgr11 (fun g hg=>by have:=hlo g hg;omega);have HAPO11:=oH ((HAPO.out.symm.push hat11 hO9).symm);have HAPL11:=oH ((HAPL.out.symm.push hat11 hL9).symm);have HDN11:=oH (HDN4.out ⟨A9x,c9x,xw++[x]⟩ rfl);clear hN11 hgr11 hat11 hO9 hL9 hN9 hLT9 B9 hm9' hlo HO2 HL2 HN2 HLT2 B2 hm2 hm9 hmz HAPO HAPL HDN4 hrow9 hu9 hrv2 kz k9;refine rdZ 12 rfl (fun K hK=>?_);go_simp;refine hK.out _ _ (Or.inl (by simp)) (fun _=>?_);clear hK K;try simp only[oP]
      refine aAh (by kernel_rfl) ?_ _;go_wp2_with fail;go_roundw
      case rel=>exact⟨j+1,nn1+1,_,A11,c11,by go_num,rfl,oH (by omega),HDN11,HO11,HL11,HN11,HAPO11,HAPL11,HLT11,B11,hm11⟩
      simp[intOf];omega
    obtain rfl:LL=j:=by omega
    have htk:(lets r).take LL=lets r:=List.take_of_length_le (by rw[HLe.out];exact oN);have HDN2:Hid (aBe rowsN1=aBy (aAA es) (lets r) ((lay (aAA es) (lets r) k).take (i+1))):=oH (by rw[HLS.out,HDN.out,htk]);have hw2:IntKind.i64.wrap ((i:Int)+1)=(i:Int)+1:=IntWalk.i64_in _ (by omega);clear htk HDN;go_wp2_with fail;go_roundw
    case rel=>
     exact⟨i+1,nO,nn1,_,rowsN1,A9,A5,c9,c5,by go_num,rfl,rfl,oH (by omega),HDO9,HDN2,HO,HL,HN,HAP9,HAPO,HAPL,HLT,B0,hm⟩
    simp[intOf];omega
  obtain rfl:nl=i:=by omega
  have htk:(lay (aAA es) (lets r) k).take nl=lay (aAA es) (lets r) k:=List.take_of_length_le (by rw[<- HDL.out,aBs,HL.out.len];exact oN);have HDO2:Hid (aBe rowsO1=(pre (aAA es) (lets r) (k+1)).filter (aHW es)):=oH (by rw[HDO.out,htk];rfl);have HDN2:Hid (aBe rowsN=lay (aAA es) (lets r) (k+1)):=oH (by rw[HDN.out,htk];rfl);have hw2:IntKind.i64.wrap ((k:Int)+1)=(k:Int)+1:=IntWalk.i64_in _ (by omega);clear htk HDO HDN;go_wp2_with fail;go_roundw
  case rel=>exact⟨k+1,no1,nn,rowsO1,rowsN,A3,A4,c3,c4,by go_num,rfl,rfl,oH (by omega),HDO2,HDN2,HO,HN,HAPO,HLT,B0,hm⟩
  simp[intOf];omega
 obtain rfl:k=n+1:=by omega
 have hk1:¬ (((n+1:Nat):Int)<=(n:Int)):=by omega
 have d1:decide (((n+1:Nat):Int)<=(n:Int))=false:=by simp;omega
 have hln:(aJv es r n).length=no:=by unfold aJv;rw[<- HDO.out,aBs];exact HO.out.len
 have HQ:Hid (OSS wo w.heap.size wo.heap.size 44 3 A1 c1 (aJv es r n)):=oH ((HO.out.base (Nat.le_succ _)).oss HDO.out);subst hln;clear HDO HDL HO HL HAP HLT HLB HPB HFO;go_wp2_with fail;go_ret;exact⟨_,_,rfl,HQ.out,hm⟩
theorem aNE(n:Int):bits .and .i64 n 255=n % 256:=by
 have h255:(BitVec.ofInt 64 255).toNat=2 ^ 8 - 1:=by decide
 have key:(BitVec.ofInt 64 n &&& BitVec.ofInt 64 255).toNat=(n % ((2 ^ 64:Nat):Int)).toNat % 2 ^ 8:=by
  rw[BitVec.toNat_and,BitVec.toNat_ofInt,h255,Nat.and_two_pow_sub_one_eq_mod]
 show IntKind.i64.wrap ((BitVec.ofInt 64 n &&& BitVec.ofInt 64 255).toNat:Nat)=n % 256
 rw[key,IntKind.wrap_i64];omega
theorem aUV(n:Int):bits .and .i64 n 1073741823=n % 1073741824:=by
 have h30:(BitVec.ofInt 64 1073741823).toNat=2 ^ 30 - 1:=by decide
 have key:(BitVec.ofInt 64 n &&& BitVec.ofInt 64 1073741823).toNat=(n % ((2 ^ 64:Nat):Int)).toNat % 2 ^ 30:=by
  rw[BitVec.toNat_and,BitVec.toNat_ofInt,h30,Nat.and_two_pow_sub_one_eq_mod]
 show IntKind.i64.wrap ((BitVec.ofInt 64 n &&& BitVec.ofInt 64 1073741823).toNat:Nat)=n % 1073741824
 rw[key,IntKind.wrap_i64];omega
def aIz(xs:List Int):List Value:=xs.map (Value.int .u8)
theorem aRR(xs:List Int):(aIz xs).length=xs.length:=by simp[aIz]
def OkB(xs:List Int):Prop:=∀ x∈xs,0<=x/\x<=255
theorem Rs.byte{w:World}{B:Nat}{A:Option Addr}{xs:List Int}(h:Rs w B A (aIz xs)){k:Nat}(hk:k<xs.length) :
  ∃ b off x,A=some ⟨b,off,none⟩/\b<B/\xs[k]?=some x/\w.cell? ⟨b,off+k,none⟩=some (.int .u8 x):=by
 obtain⟨b,off,u,e,hb,hu,hc⟩:=h.at (j:=k) (by rw[aRR];exact hk);obtain⟨x,hx⟩:=aAs xs hk;unfold aIz at hu;rw[List.getElem?_map,hx] at hu;simp at hu;subst hu;exact⟨b,off,x,e,hb,hx,hc⟩
def Cur(w:World)(p:Nat)(A:Option Addr)(bs:List Int)(c:Nat):Prop:=
 ∃(i:Nat) (h:Int),i<=bs.length/\(-9223372036854775808<=h/\h<=9223372036854775807)/\Box w p [.slice A bs.length c,.int .i64 i,.int .i64 h]/\RV w 0 p A (aIz bs)
theorem Cur.mid{w w':World}{p:Nat}{A:Option Addr}{bs:List Int}{c a b:Nat}(h:Cur w p A bs c)(m:Mid a b w w')(hd:p<a \/ b=0):Cur w' p A bs c:=by
 obtain⟨i,x,h1,h2,h3,h4⟩:=h;exact⟨i,x,h1,h2,h3.mid m (by omega),h4.mid m (by omega)⟩
theorem Cur.lt{w:World}{p:Nat}{A:Option Addr}{bs:List Int}{c:Nat}(h:Cur w p A bs c):p<w.heap.size:=by
 obtain⟨i,x,h1,h2,h3,h4⟩:=h;exact h3.1
theorem aEe(p:Nat)(A:Option Addr)(bs:List Int)(c:Nat)(w:World)(hb:OkB bs)(hl:bs.length<=1048576)(h:Cur w p A bs c) :
  Calls Tryz.prog 189 #[.pointer (some ⟨p,0,none⟩)] w fun e w'=>∃ x:Nat,e=.returned (.int .i64 x)/\x<256/\Cur w' p A bs c/\Mid p (p+1) w w':=by
 obtain⟨i,s,hi,hs,hbox,hrv⟩:=h;obtain⟨cc0,cc1,cc2⟩:=hbox.c3 rfl;have hfz:=hbox.2.2;have hpw:=hbox.1;go_enter Tryz.func189,Tryz.ntmps189
 go_wp2_with fail;obtain⟨s2,hs2⟩:∃ x,wrap64 (wrap64 (s * 6364136223846793005)+1442695040888963407)=x:=⟨_,rfl⟩
 have hs2b:-9223372036854775808<=s2/\s2<=9223372036854775807:=by rw[<- hs2];unfold wrap64;omega
 rw[hs2];clear hs2;have hbox1:=hbox.set 2 (.int .i64 s2) (by simp) rfl;have hm1:Mid p (p+1) w (w.setCell ⟨p,2,none⟩ (.int .i64 s2)):=Mid.setCell w _ oN oS;have hrv1:=hrv.mid hm1 (Or.inr oN);generalize w.setCell ⟨p,2,none⟩ (.int .i64 s2)=w1 at hbox1 hm1 hrv1 |-;clear cc0 cc1 cc2 hbox hrv hpw hfz;obtain⟨cc0,cc1,cc2⟩:=hbox1.c3 rfl;have hfz:=hbox1.2.2;have hpw:=hbox1.1;go_quiet (fail)
 go_wp2_with fail;obtain⟨x1,hx1⟩:∃ x:Nat,bits BinOp.and IntKind.i64 (bits BinOp.xor IntKind.i64 (s2 / 8589934592) (s2 / 35184372088832)) 255=x:=⟨_,(Int.toNat_of_nonneg (by rw[aNE];omega)).symm⟩
 have hx1b:x1<256:=by rw[aNE] at hx1;omega
 rw[hx1];clear hx1;have hm2:=hm1.drewN nq;have hbox2:=hbox1.drewN nq;have hrv2:RV (w1.drewN nq) 0 p A (aIz bs):=hrv1;generalize w1.drewN nq=w2 at hbox2 hm2 hrv2 |-;clear cc0 cc1 cc2 hbox1 hrv1 hpw hfz hm1;obtain⟨cc0,cc1,cc2⟩:=hbox2.c3 rfl;have hfz:=hbox2.2.2;have hpw:=hbox2.1;by_cases hlt:i<bs.length
 .go_quiet (fail)
  have hm3:=hm2.drewN nq;have hbox3:=hbox2.drewN nq;have hrv3:RV (w2.drewN nq) 0 p A (aIz bs):=hrv2;generalize w2.drewN nq=w3 at hbox3 hm3 hrv3 |-;clear cc0 cc1 cc2 hbox2 hrv2 hpw hfz hm2;obtain⟨cc0,cc1,cc2⟩:=hbox3.c3 rfl;have hfz:=hbox3.2.2;have hpw:=hbox3.1;go_wp2_with fail;obtain⟨B,off,y,rfl,hB,hy,hcy⟩:=hrv3.rs.byte hlt;have hyb:=hb y (List.mem_of_getElem? hy);clear hy;go_quiet (fail)
  go_wp2_with fail;obtain⟨x2,hx2⟩:∃ x:Nat,bits BinOp.and IntKind.i64 ((x1:Int)+y) 255=x:=⟨_,(Int.toNat_of_nonneg (by rw[aNE];omega)).symm⟩
  have hx2b:x2<256:=by rw[aNE] at hx2;omega
  rw[hx2];go_ret;have hm4:=(hm3.drewN nq).trans (Mid.setCell (w3.drewN nq) (p:=⟨p,1,none⟩) (.int .i64 ((i:Int)+1)) oN oS);refine⟨x2,rfl,hx2b,⟨i+1,s2,by omega,hs2b,?_,?_⟩,hm4⟩
  .simpa using(hbox3.drewN nq).set 1 (.int .i64 ((i:Int)+1)) (by simp) rfl
  exact RV.mid (w:=w3.drewN nq) hrv3 (Mid.setCell (w3.drewN nq) (p:=⟨p,1,none⟩) (.int .i64 ((i:Int)+1)) oN oS) (Or.inr oN)
 go_quiet (fail)
 go_wp2_with fail;go_ret;exact⟨x1,rfl,hx1b,⟨i,s2,hi,hs2b,hbox2.drewN _,hrv2⟩,hm2.drewN _⟩
theorem aCh(n:Nat)(hn:0<n)(hn2:n<=1048576)(p:Nat)(A:Option Addr)(bs:List Int)(c:Nat)(w:World)(hb:OkB bs)(hl:bs.length<=1048576)(h:Cur w p A bs c) :
  Calls Tryz.prog 111 #[.pointer (some ⟨p,0,none⟩),.int .i64 n] w fun e w'=>∃ x:Nat,e=.returned (.int .i64 x)/\x<n/\Cur w' p A bs c/\Mid p (p+1) w w':=by
 have hn0:¬ n=0:=by omega
 by_cases hs:n<=256
 .go_enter Tryz.func111,Tryz.ntmps111
  go_wp2_with fail;with_reducible refine(aEe p A bs c _ hb hl h).mono ?_
  rintro e w1 ⟨x,rfl,hx,h1,m1⟩;go_wp2_with fail;go_ret;exact⟨x % n,rfl,Nat.mod_lt _ hn,h1,m1⟩
 go_enter Tryz.func111,Tryz.ntmps111
 go_wp2_with fail;with_reducible refine(aEe p A bs c _ hb hl h).mono ?_
 rintro e w1 ⟨x,rfl,hx,h1,m1⟩;go_wp2_with fail;with_reducible refine(aEe p A bs c _ hb hl h1).mono ?_
 rintro e w2 ⟨y,rfl,hy,h2,m2⟩;go_wp2_with fail;with_reducible refine(aEe p A bs c _ hb hl h2).mono ?_
 rintro e w3 ⟨z,rfl,hz,h3,m3⟩;go_wp2_with fail;with_reducible refine(aEe p A bs c _ hb hl h3).mono ?_
 rintro e w4 ⟨t,rfl,ht,h4,m4⟩;go_wp2_with fail;go_ret;exact⟨(x * 16777216+y * 65536+z * 256+t) % n,by simp,Nat.mod_lt _ hn,h4,((m1.trans m2).trans m3).trans m4⟩
theorem aPf(n:Nat)(hn:0<n)(hn2:n<=1048576)(p:Nat)(A:Option Addr)(bs:List Int)(c:Nat)(w:World)(hb:OkB bs)(hl:bs.length<=1048576)(h:Cur w p A bs c) :
  Calls Tryz.prog 91 #[.pointer (some ⟨p,0,none⟩),.int .i64 n] w fun e w'=>∃ x:Bool,e=.returned (.bool x)/\Cur w' p A bs c/\Mid p (p+1) w w':=by
 go_enter Tryz.func91,Tryz.ntmps91
 go_wp2_with fail;with_reducible refine(aCh n hn hn2 p A bs c _ hb hl h).mono ?_
 rintro e w1 ⟨x,rfl,hx,h1,m1⟩;go_wp2_with fail;all_goals
  go_ret;exact⟨_,rfl,h1,m1⟩
theorem aKJ(B:Option Addr)(xs:List Int)(d:Nat)(hne:0<xs.length)(hln:xs.length<=1048576)(p:Nat)(A:Option Addr)(bs:List Int)(c:Nat)(w:World)(lo hi:Nat)(hx:RI w lo hi B xs)(hp:p<lo \/ hi<=p)(hb:OkB bs)(hl:bs.length<=1048576)(h:Cur w p A bs c) :
  Calls Tryz.prog 176 #[.pointer (some ⟨p,0,none⟩),.slice B xs.length d] w fun e w'=>∃ x:Int,e=.returned (.int .i64 x)/\x∈xs/\Cur w' p A bs c/\Mid p (p+1) w w':=by
 go_enter Tryz.func176,Tryz.ntmps176
 go_wp2_with fail;with_reducible refine(aCh xs.length hne hln p A bs c _ hb hl h).mono ?_
 rintro e w1 ⟨k,rfl,hk,h1,m1⟩;have hx1:=hx.mid m1 (by omega);obtain⟨b,off,x,rfl, -,hxx,hcx⟩:=hx1.rs.int hk;have hmem:=List.mem_of_getElem? hxx;clear hxx;go_wp2_with fail;go_ret;exact⟨x,rfl,hmem,h1,m1⟩
theorem aBg(n:Int)(hn:0<n)(hn2:n<=1048576)(p:Nat)(A:Option Addr)(bs:List Int)(c:Nat)(w:World)(hb:OkB bs)(hl:bs.length<=1048576)(h:Cur w p A bs c) :
  Calls Tryz.prog 111 #[.pointer (some ⟨p,0,none⟩),.int .i64 n] w fun e w'=>∃ x:Nat,e=.returned (.int .i64 x)/\(x:Int)<n/\Cur w' p A bs c/\Mid p (p+1) w w':=by
 obtain⟨m,rfl⟩:=Int.eq_ofNat_of_zero_le (by omega:0<=n);exact(aCh m (by omega) (by omega) p A bs c w hb hl h).mono fun _ _ ⟨x,he,hx,h⟩=>⟨x,he,by omega,h⟩
theorem aKI(n:Int)(hn:0<n)(hn2:n<=1048576)(p:Nat)(A:Option Addr)(bs:List Int)(c:Nat)(w:World)(hb:OkB bs)(hl:bs.length<=1048576)(h:Cur w p A bs c) :
  Calls Tryz.prog 91 #[.pointer (some ⟨p,0,none⟩),.int .i64 n] w fun e w'=>∃ x:Bool,e=.returned (.bool x)/\Cur w' p A bs c/\Mid p (p+1) w w':=by
 obtain⟨m,rfl⟩:=Int.eq_ofNat_of_zero_le (by omega:0<=n);exact aPf m (by omega) (by omega) p A bs c w hb hl h
theorem aDj(B:Option Addr)(xs:List Int)(n d:Nat)(hxn:xs.length=n)(hne:0<n)(hln:n<=1048576)(p:Nat)(A:Option Addr)(bs:List Int)(c:Nat)(w:World)(lo hi:Nat)(hx:RI w lo hi B xs)(hp:p<lo \/ hi<=p)(hb:OkB bs)(hl:bs.length<=1048576)(h:Cur w p A bs c) :
  Calls Tryz.prog 176 #[.pointer (some ⟨p,0,none⟩),.slice B n d] w fun e w'=>∃ x:Int,e=.returned (.int .i64 x)/\x∈xs/\Cur w' p A bs c/\Mid p (p+1) w w':=by
 subst hxn;exact aKJ B xs d hne hln p A bs c w lo hi hx hp hb hl h
theorem aGJ(A:Option Addr)(bs:List Int)(c:Nat)(w:World)(hi:Nat)(hb:OkB bs)(hl:bs.length<=1048576)(hr:RV w 0 hi A (aIz bs)) :
  Calls Tryz.prog 90 #[.slice A bs.length c] w fun e w'=>∃ p,e=.returned (.pointer (some ⟨p,0,none⟩))/\w.heap.size<=p/\Cur w' p A bs c/\Mid 0 0 w w':=by
 have hfin:∀ x:Int,(0<=x/\x<=1073741824)->Cur (w.alloc (.cells #[.slice A bs.length c,.int .i64 0,.int .i64 x] 149)) w.heap.size A bs c:=fun x hx=>
  ⟨0,x,oZ,by omega,by simpa using Box.new w #[.slice A bs.length c,.int .i64 0,.int .i64 x] 149,(hr.mid (Mid.alloc w _) oZl).wide oZ hr.1 (by simp)⟩
 have hfin:=oH hfin;go_enter Tryz.func90,Tryz.ntmps90
 go_wp2_with fail;go_loop [3,4] (fun hv i=>∃(k:Nat) (x:Int),k<=bs.length/\i=.int .i64 k/\hv=.int .i64 x/\(0<=x/\x<=1073741824)) (fun _ i=>bs.length - (intOf i).toNat)
 case atStart=>exact⟨0,_,oZ,rfl,rfl,by omega,by omega⟩
 obtain⟨k,x,hk,rfl,rfl,hx⟩:=hrel;by_cases hlt:k<bs.length
 .obtain⟨K,hK⟩:∃ x:Bool,decide ((k:Int)<4000)=x:=⟨_,rfl⟩
  cases K
  .go_wp2_with fail
   go_ret;exact⟨w.heap.size,rfl,oN,hfin.out x hx,Mid.alloc _ _⟩
  obtain⟨b,off,y,rfl, -,hy,hcy⟩:=hr.rs.byte hlt;have hyb:=hb y (List.mem_of_getElem? hy);clear hy;go_wp2_with fail;obtain⟨x2,hx2⟩:∃ z,bits BinOp.and IntKind.i64 (x * 131+y+7) 1073741823=z:=⟨_,rfl⟩
  have hx2b:0<=x2/\x2<=1073741824:=by rw[aUV] at hx2;omega
  rw[hx2];go_round
  case rel=>exact⟨k+1,x2,by omega,by go_num,rfl,hx2b⟩
  simp[intOf];omega
 go_wp2_with fail;go_ret;exact⟨w.heap.size,rfl,oN,hfin.out x hx,Mid.alloc _ _⟩
end Go.Proofs.YtkimajabegojoaaGreat
