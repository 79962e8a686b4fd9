/- Lemmas. -/
import Derived.Test.YtkimajabegojoaaGreatMt5
import Derived.Test.YtkimajabegojoaaGreatMt2
import Derived.Test.YtkimajabegojoaaGreatMt3
import Derived.Test.YtkimajabegojoaaGreatMt7
import Derived.Test.YtkimajabegojoaaGreatMt1
import Derived.Deep.RegionHeld3
import Derived.Test.YtkimajabegojoaaGreatMt6
namespace Go.Proofs.YtkimajabegojoaaGreat
set_option linter.unusedVariables false
set_option linter.unusedSimpArgs false
set_option maxHeartbeats 40000000
set_option maxRecDepth 100000
open Go.RowKit
def WordsAt(w:World)(H B:Nat)(vals:List Value)(st:BS):Prop:=∀ p∈st,p.2≠[]->∃ b cw,vals[p.1.toNat]?=some (.slice (some ⟨b,0,none⟩) p.2.length cw)/\b<H/\b≠B/\b<w.heap.size/\∀ j u,(aAd p.2)[j]?=some u->w.cell? ⟨b,j,none⟩=some u
theorem WordsAt.mid{w w':World}{H B:Nat}{vals:List Value}{st:BS}(h:WordsAt w H B vals st)(m:Mid 0 0 w w'):WordsAt w' H B vals st:=fun p hp hn=>by
 obtain⟨b,cw,h1,h2,h3,h4,h5⟩:=h p hp hn;exact⟨b,cw,h1,h2,h3,Nat.lt_of_lt_of_le h4 m.size,fun j u hu=>aAa m h4 oZr (h5 j u hu)⟩
theorem WordsAt.grown{w w':World}{H B:Nat}{vals:List Value}{st:BS}{row:Option Nat}(h:WordsAt w H B vals st)(hg:w.grownBy w' row)(hd:∀ g,row=some g->g=B \/ H<=g):WordsAt w' H B vals st:=fun p hp hn=>by
 obtain⟨b,cw,h1,h2,h3,h4,h5⟩:=h p hp hn;refine⟨b,cw,h1,h2,h3,Nat.lt_of_lt_of_le h4 hg.size,fun j u hu=>(World.cell?_of_block (hg.block b h4 (fun e=>?_))).trans (h5 j u hu)⟩;rcases hd b e.symm with h0|h0
 .exact h3 h0
 .omega
theorem TreeSt.wordsAt{w w1:World}{g n:Nat}{oB:Option Nat}{vals:List Value}{st:BS}{B:Nat}{e:TypeId}{size:Nat}{v:Value}(h:TreeSt w g oB n vals st)(hB:∀ j,w.cell? ⟨B,j,none⟩=none):WordsAt w w.heap.size B vals st:=fun p hp hn=>by
 obtain⟨b,c,h1,h2,h3,h4,h5⟩:=h.on p hp;refine⟨b,c,h1,h5,?_,h5,h2⟩;intro hb;subst hb;have hl:0<p.2.length:=List.length_pos_iff.2 hn;have:=h2 0 (.int .i64 p.2[0]) (by rw[aAF,List.getElem?_eq_getElem hl];rfl);rw[hB] at this;cases this
theorem aTJ{b g n c:Nat}(h:Value.ownBlock (.slice (some ⟨b,0,none⟩) n c)=some g):g=b:=(Option.some.inj (show some b=some g from h)).symm
theorem aRD{w:World}{lo hi b j:Nat}{cs:List Value}{u:Value}(h:RV w lo hi (some ⟨b,0,none⟩) cs)(hu:cs[j]?=some u):w.cell? ⟨b,j,none⟩=some u:=by
 obtain⟨b',off,e, -, -,hc⟩:=h.2 (by intro h0;subst h0;simp at hu);injection e with e
 injection e with e1 e2
 subst e1 e2;have:=hc j u hu;rw[Nat.zero_add] at this;exact this
theorem aJt(r n:Nat)(A:Option Addr)(es:List Ed)(c:Nat)(w:World)(lo hi:Nat)(hr:RG w lo hi A es)(hf:IsFol r n es) :
  Calls Tryz.prog 244 #[aAw r n A es.length c] w fun e w'=>∃ A1 c1,e=.returned (.slice A1 (canon (aDF es (bfs es (lets r) 0))).length c1)/\OG w' w.heap.size w'.heap.size A1 c1 (canon (aDF es (bfs es (lets r) 0)))/\Mid 0 0 w w':=by
 have hg:=hf.gr;have hn1:0<n:=by have:=hg.size;omega
 have hn40:n<=40:=by have:=hg.size;omega
 have hl:=hg.len;have hgl:∀ e∈es,1<=e.l/\e.l<=3:=fun e he=>by have:=hg.all e he;have:=hg.rank;unfold InG at *;omega
 have hr3:r<=3:=by have:=hg.rank;omega
 have hbok:=aHC (L:=lets r) (v:=0) hg.all (Int.le_refl _) (show(0:Int)<(n:Int) by omega);have hpar:=aPP es (lets r) 0;have hm0:Mid 0 0 w ((w.alloc (.cells #[.int .i64 r,.int .i64 n,.slice A es.length c] 35)).alloc (.cells #[] 110)):=(Mid.alloc _ _).trans (Mid.alloc _ _);have B0:=(Box.new w #[.int .i64 r,.int .i64 n,.slice A es.length c] 35).mid (Mid.alloc _ (.cells #[] 110)) oZr;have O0:=aAi (w.alloc (.cells #[.int .i64 r,.int .i64 n,.slice A es.length c] 35)) 110 3;have hB:∀ j,((w.alloc (.cells #[.int .i64 r,.int .i64 n,.slice A es.length c] 35)).alloc (.cells #[] 110)).cell? ⟨w.heap.size+1,j,none⟩=none:=fun j=>by
  have h:=World.cell?_alloc_new (w.alloc (.cells #[.int .i64 r,.int .i64 n,.slice A es.length c] 35)) #[] 110 j;rw[World.size_alloc] at h;rw[h]
  rfl
 simp only[World.size_alloc] at O0;obtain⟨p0,p1,p2⟩:=B0.c3 rfl;go_enter Tryz.func244,Tryz.ntmps244
 go_wp2_with fail;generalize (w.alloc (.cells #[.int .i64 r,.int .i64 n,.slice A es.length c] 35)).alloc (.cells #[] 110)=w1 at hm0 B0 O0 hB p0 p1 p2 |-;have hs1:w.heap.size+1<w1.heap.size:=(O0.lt _ rfl).2;have hrg1:=hr.mid hm0 oZl;have hT:=aIJ r n 0 A es c w1 lo hi hrg1 hg hn1;have h00:((0:Nat):Int)=0:=rfl;rw[h00] at hT;have hor:aBO r es 0=(bfs es (lets r) 0).map Prod.fst:=by unfold aBO;rw[Int.toNat_natCast]
 rw[hor] at hT;generalize hST:bfs es (lets r) 0=ST at hT hbok hpar |-;have HTL:=oH hT;have HSTE:=oH hST;clear hT h00 hor hST;with_reducible refine HTL.out.mono ?_
 rintro en w2 ⟨A1,c1,rfl,hm2,hord,vals,hval,hts⟩;have hlen:(ST.map Prod.fst).length=ST.length:=List.length_map ..;rw[hlen] at hord hts |-;have hM1:0<ST.length:=List.length_pos_iff.2 hpar.ne;have hM40:ST.length<=n:=by have:=hbok.len (by omega);omega
 obtain⟨m,hm⟩:∃ m,ST.length=m+1:=⟨ST.length - 1,by omega⟩
 have HM:=oH hm;rw[hm] at hord hts |-;obtain⟨g1,rfl,hg11,hg12⟩:=aAU hord (Nat.succ_pos m);have hcap:=aOo hord;have hs2:=hm2.size;have hWD:=hts.wordsAt (w1:=w2) (e:=110) (size:=3) (v:=undef) (B:=w.heap.size+1) (fun j=>(World.cell?_of_block (hm2.block _ (by simpa using hs1) (by omega))).trans (hB j));have hRO:=(aAy hord).wide (lo':=w.heap.size+2) (hi':=w2.heap.size) (by omega) oN oN;have hRV:=(aAy hval).wide (lo':=w.heap.size+2) (hi':=w2.heap.size) (by omega) oN oN;clear p0 p1 p2 hord hval hts hlen hB HTL;replace B0:=B0.mid hm2 oZr;replace O0:=aAc O0 hm2 oZl;replace hm0:=hm0.trans hm2;have HO0:Hid (w2.ownsRow (w.heap.size+1) 110 3 (.slice (some ⟨w.heap.size+1,0,none⟩) 0 0) 0 (aAd (edI ((aDF es ST).take 0)))):=oH O0;have HD0:Hid (∀ g,Value.ownBlock (.slice (some (⟨w.heap.size+1,0,none⟩:Addr)) 0 0)=some g->g=w.heap.size+1 \/ w2.heap.size<=g):=oH (fun g hg=>.inl (aTJ hg));have HRO:=oH hRO;have HRV:=oH hRV;have HWD:=oH hWD;have hH2:w.heap.size+2<=w2.heap.size:=by omega
 clear O0 hRO hRV hWD hm2;generalize (some (⟨w.heap.size+1,0,none⟩:Addr))=A0 at HO0 HD0 |-;generalize hH:w2.heap.size=H2 at HRO HRV HWD HD0 hH2 hg12;generalize w1.heap.size+1=gv at HRV |-;have hsz2:H2<=w2.heap.size:=Nat.le_of_eq hH.symm;clear hH;by_cases hc1:c1=1
 .subst hc1
  obtain rfl:m=0:=by omega
  have hT0:aDF es ST=[]:=by
   cases hST:ST with
  |nil=>rfl
  |cons p t=>
    have:=HM.out;rw[hST,List.length_cons] at this;have:t=[]:=List.eq_nil_of_length_eq_zero (by omega);subst this
    rfl
  have hnil:=HO0.out;rw[hT0] at hnil;have HT0:=oH hT0;clear hT0;go_wp2_with fail;go_loopw [3,20] (fun ov kv wr=>ov=.slice A0 0 0/\kv=.int .i64 0/\wr=w2) (fun _ _ _=>0)
  case atStart=>exact⟨rfl,rfl,rfl⟩
  obtain⟨rfl,rfl,rfl⟩:=hrel;have hrg:RG wr w.heap.size wr.heap.size A0 []:=(RV.wide (aAy hnil) (Nat.le_succ _) oN oN)
  have HS:=oH (aCk A0 [] 0 0 wr _ _ rfl hrg (by omega));clear hrg hnil;go_wp2_with fail;with_reducible refine HS.out.mono ?_
  rintro en w5 ⟨A5,c5,rfl,hO5,hm5⟩;go_wp2_with fail;go_ret;rw[HSTE.out,HT0.out];exact⟨A5,c5,rfl,hO5.wide hm0.size oN oN,hm0.trans hm5⟩
 go_wp2_with fail;go_loopw [3,20] (fun ov kv wr=>∃(k:Nat) (A2:Option Addr) (c2:Nat),kv=.int .i64 k/\ov=.slice A2 k c2/\k<=m/\Hid (wr.ownsRow (w.heap.size+1) 110 3 (.slice A2 k c2) k (aAd (edI ((aDF es ST).take k))))/\Hid (∀ g,Value.ownBlock (.slice A2 k c2)=some g->g=w.heap.size+1 \/ H2<=g)/\Hid (RV wr (w.heap.size+2) H2 (some ⟨g1,0,none⟩) (aAd (ST.map Prod.fst)))/\Hid (RV wr (w.heap.size+2) H2 (some ⟨gv,0,none⟩) vals)/\Hid (WordsAt wr H2 (w.heap.size+1) vals ST)/\Box wr w.heap.size [.int .i64 r,.int .i64 n,.slice A es.length c]/\H2<=wr.heap.size/\Mid 0 0 w wr) (fun _ kv _=>m - (intOf kv).toNat)
 case atStart=>exact⟨0,A0,0,rfl,rfl,oZ,HO0,HD0,HRO,HRV,HWD,B0,hsz2,hm0⟩
 clear HO0 HD0 HRO HRV HWD B0 hsz2 hm0 hrg1;obtain⟨wo,hwo⟩:∃ wo,wo=wr:=⟨_,rfl⟩
 subst hwo;obtain⟨k,A2,c2,rfl,rfl,hk,HO,HD,HRO,HRV,HWD,B0,hsz,hm0⟩:=hrel;by_cases hlt:k<m
 .obtain⟨p,hp⟩:=aAs ST (show k+1<ST.length by rw[HM.out];omega)
  have hpm:=List.mem_of_getElem? hp;have hpt:p∈ST.tail:=by
   have h:ST.tail[k]?=some p:=by
    cases hST:ST with
   |nil=>rw[hST] at hp;simp at hp
   |cons a t=>rw[hST] at hp;simpa using hp
   exact List.mem_of_getElem? h
  have hed:(aDF es ST)[k]?=some (aJK es p):=by
   unfold aDF;cases hST:ST with
  |nil=>rw[hST] at hp;simp at hp
  |cons a t=>rw[hST] at hp;simp at hp;simp[hp]
  obtain⟨p', -,x,hxL,hpe, -⟩:=hpar.par p hpt;have hx3:=aBz.1 hxL;have hp2:p.2=p'.2++[x]:=by rw[hpe]
  have hrng:=hbok.rng p hpm;obtain⟨pv,hpv⟩:∃ n:Nat,p.1=n:=⟨p.1.toNat,by omega⟩
  obtain⟨bw,cw,hvw,hbwH,hbwB,hbws,hcw⟩:=HWD.out p hpm (by rw[hp2];simp);obtain⟨q,hq⟩:∃ q,p'.2.length=q:=⟨_,rfl⟩
  have hpl:p.2.length=q+1:=by rw[hp2,List.length_append,hq];rfl
  have hcx:=hcw q (.int .i64 x) (by rw[aAF,hp2,List.getElem?_append_right (by omega),hq];simp);rw[hpv,Int.toNat_natCast,hpl] at hvw;have hcv:=aRD HRV.out hvw;have hco:=aRD HRO.out (show(aAd (ST.map Prod.fst))[k+1]?=some (.int .i64 (pv:Int)) by rw[aAF,List.getElem?_map,hp,<- hpv];rfl);have heo:aJK es p=aCA (aAe es (pv:Int) (-x)) x (pv:Int):=by unfold aJK;rw[hp2,aJU,hpv]
  have hql:q<=100:=by
   have h1:=hbok.wl (k+1) p hp;have h2:=HM.out;omega
  have hwq:IntKind.i64.wrap (((q+1:Nat):Int) - 1)=(q:Int):=by rw[IntWalk.i64_in _ (by omega)];omega
  have hwn:IntKind.i64.wrap (-x) = -x:=IntWalk.i64_in _ (by omega);have hgvs:gv<wo.heap.size:=by obtain⟨_,_,e, -,h, -⟩:=HRV.out.2 (by intro h0;rw[h0] at hvw;simp at hvw);injection e with e;injection e with e;have:=HRV.out.1;omega
  have hg1s:g1<wo.heap.size:=by omega
  have hpvn:(pv:Int)<(n:Int):=by omega
  have hpv0:(0:Int)<=(pv:Int):=by omega
  have hk0:(0:Int)<=(k:Int):=by omega
  have hkm:(k:Int)<(m:Int):=by omega
  have hq0:(0:Int)<=(q:Int):=by omega
  have hqq:(q:Int)<(((q+1:Nat)):Int):=by omega
  rw[show k+1=1+k by omega] at hco;have HED:=oH hed;have HEO:=oH heo;have hNV:=aBc r n A es c pv (-x) wo lo hi (hr.mid hm0 oZl) (by omega) hgl (by omega) (by omega);have hbb:w.heap.size<wo.heap.size:=B0.1;obtain⟨u,hu⟩:∃ u,aAe es (pv:Int) (-x)=u:=⟨_,rfl⟩
  rw[hu] at hNV;have HNU:=oH hu;obtain⟨z0,z1,z2⟩:=B0.c3 rfl;clear hp hpm hpt hed hpe hp2 hpv hcw hvw hpl heo hq hu;go_wp2_with fail;with_reducible refine hNV.mono ?_
  rintro en w3 ⟨rfl,hm3⟩;have hST:=aFe u x (pv:Int) w3 (by omega) (by omega);have HO3:=oH (aAc HO.out hm3 oZl);have HRO3:=oH (HRO.out.mid hm3 oZl);have HRV3:=oH (HRV.out.mid hm3 oZl);have HWD3:=oH (HWD.out.mid hm3);have B3:=B0.mid hm3 oZr;have hs3:=hm3.size;have hm03:=hm0.trans hm3;clear HO HRO HRV HWD B0 hm0 hm3 z0 z1 z2 hcx hcv hco hNV;go_wp2_with fail;with_reducible refine hST.mono ?_
  rintro en w4 ⟨rfl,hm4⟩;have HO4:=oH (aAc HO3.out hm4 oZl);have HRO4:=oH (HRO3.out.mid hm4 oZl);have HRV4:=oH (HRV3.out.mid hm4 oZl);have HWD4:=oH (HWD3.out.mid hm4);have B4:=B3.mid hm4 oZr;have hs4:=hm4.size;have hm04:=hm03.trans hm4;have HED2:Hid ((aDF es ST)[k]?=some (aCA u x (pv:Int))):=oH (by rw[HED.out,HEO.out,HNU.out]);clear HO3 HRO3 HRV3 HWD3 B3 hm03 hm4 hST HED HEO HNU;generalize aCA u x (pv:Int)=ed at HED2 |-;go_wp2_with (at_builtin;refine MarkerX.to ?_)
  unfold MarkerX;refine aHj rfl _ _ rfl (w.heap.size+1) A2 k c2 _ rfl HO4.out ed rfl (by omega) (by omega) ?_;intro A6 c6 w6 ho6 hgr6 hat6;have HO6:Hid (w6.ownsRow (w.heap.size+1) 110 3 (.slice A6 (k+1) c6) (k+1) (aAd (edI ((aDF es ST).take (k+1))))):=oH (by
   obtain⟨h1,h2⟩:=List.getElem?_eq_some_iff.1 HED2.out;rw[List.take_succ_eq_append_getElem h1,h2];exact ho6)
  have HRO6:=oH (HRO4.out.grown hgr6 (fun g hg=>by rcases HD.out g hg with h|h <;> omega));have HRV6:=oH (HRV4.out.grown hgr6 (fun g hg=>by rcases HD.out g hg with h|h <;> omega));have HWD6:=oH (HWD4.out.grown hgr6 HD.out);have B6:=B4.grown hgr6 (by intro h0;have:=HD.out _ h0;omega);have hm06:=hm04.grownNew hgr6 (fun g hg=>by have:=(HO4.out.lt g hg).1;omega);have hs6:=hgr6.size;have HD6:Hid (∀ g,Value.ownBlock (.slice A6 (k+1) c6)=some g->g=w.heap.size+1 \/ H2<=g):=oH (by
   intro g hg;rcases hat6 with h|h
   .exact HD.out g (h ▸ hg)
   .rw[h] at hg
    injection hg with hg
    omega)
  clear ho6 hgr6 hat6 HO4 HRO4 HRV4 HWD4 B4 hm04 HD HED2;go_wp2_with fail;go_roundw
  case rel=>exact⟨k+1,A6,c6,by go_num,rfl,by omega,HO6,HD6,HRO6,HRV6,HWD6,B6,by omega,hm06⟩
  simp[intOf];omega
 obtain rfl:k=m:=by omega
 have htl:(aDF es ST).length=k:=by unfold aDF;rw[List.length_map,List.length_tail,HM.out];rfl
 have ho:=HO.out;rw[List.take_of_length_le (by omega)] at ho;have hrg:RG wo w.heap.size wo.heap.size A2 (aDF es ST):=(RV.wide (aAy ho) (Nat.le_succ _) oN oN)
 have HS:=oH (aCk A2 (aDF es ST) k c2 wo _ _ htl hrg (by omega));clear hrg ho htl HO HD HRO HRV HWD B0;go_wp2_with fail;with_reducible refine HS.out.mono ?_
 rintro en w5 ⟨A5,c5,rfl,hO5,hm5⟩;go_wp2_with fail;go_ret;rw[HSTE.out];exact⟨A5,c5,rfl,hO5.wide hm0.size oN oN,hm0.trans hm5⟩
section
open Go.RowKit
section
variable {w w':World} {lo a b:Nat} {A:Option Addr} {n c:Nat} {rows:List Row} {Aa:Option Addr} {act:List (List Int)}
end
section
variable {W:World} {ops:Array Oper} {rest:List Oper} {o:Oper} {ac:Act} {Q:Exit->Act->World->Prop}
end
end
section
open Go.RowKit
section
variable {P:Program} (w:World)
end
section
variable {W:World} {ops:Array Oper} {rest:List Oper} {o:Oper} {a:Act} {Q:Exit->Act->World->Prop}
end
section
variable {W:World} {ops:Array Oper} {rest:List Oper} {o:Oper} {ac:Act} {Q:Exit->Act->World->Prop}
end
end
section
def aJY(f:List Int->Int->Bool)(L:List Int)(w:List Int):List (List Int):=(L.filter (f w)).map fun x=>w++[x]
def aBy(f:List Int->Int->Bool)(L:List Int)(l:List (List Int)):List (List Int):=l.flatMap (aJY f L)
def lay(f:List Int->Int->Bool)(L:List Int):Nat->List (List Int)
|0=>[[]]
|n+1=>aBy f L (lay f L n)
def pre(f:List Int->Int->Bool)(L:List Int):Nat->List (List Int)
|0=>[]
|n+1=>pre f L n++lay f L n
section
variable {f:List Int->Int->Bool} {L:List Int}
theorem aOk(w:List Int):(aJY f L w).length<=L.length:=by
 unfold aJY;rw[List.length_map];exact List.length_filter_le _ _
theorem aIK(l:List (List Int)):(aBy f L l).length<=l.length * L.length:=by
 induction l with
|nil=>simp[aBy]
|cons w t ih=>
  have h1:=aOk (f:=f) (L:=L) w;have h2:aBy f L (w::t)=aJY f L w++aBy f L t:=rfl;rw[h2,List.length_append,List.length_cons,Nat.succ_mul];omega
theorem aNa(hL:L.length<=6):∀ n,(lay f L n).length<=6 ^ n
|0=>by simp[lay]
|n+1=>by
  have h1:=aNa hL n;have h2:=aIK (f:=f) (L:=L) (lay f L n);have h3:(lay f L n).length * L.length<=6 ^ n * 6:=Nat.mul_le_mul h1 hL;rw[Nat.pow_succ];exact Nat.le_trans h2 h3
theorem aUy(hL:L.length<=6){n:Nat}(hn:n<=5):(lay f L n).length<=7776:=by
 have h1:=aNa (f:=f) hL n;have h2:6 ^ n<=6 ^ 5:=Nat.pow_le_pow_right (by omega) hn;omega
theorem aTM(hL:L.length<=6):∀ {n:Nat},n<=6->(pre f L n).length<=n * 7776
|0,_=>by simp[pre]
|n+1,hn=>by
  have h1:=aTM hL (n:=n) (by omega);have h2:=aUy (f:=f) hL (n:=n) (by omega);rw[pre,List.length_append];omega
theorem aGl{l:List (List Int)}{v:List Int}:v∈aBy f L l↔∃ w∈l,∃ x∈L,f w x=true/\v=w++[x]:=by
 unfold aBy aJY;simp only[List.mem_flatMap,List.mem_map,List.mem_filter];constructor
 .rintro⟨w,hw,x,⟨hx,hf⟩,rfl⟩
  exact⟨w,hw,x,hx,hf,rfl⟩
 rintro⟨w,hw,x,hx,hf,rfl⟩;exact⟨w,hw,x,⟨hx,hf⟩,rfl⟩
theorem aQz:∀ {n:Nat} {v:List Int},v∈lay f L n->v.length=n/\∀ x∈v,x∈L
|0,v,h=>by simp[lay] at h;subst h;simp
|n+1,v,h=>by
  obtain⟨w,hw,x,hx, -,rfl⟩:=aGl.1 h;obtain⟨h1,h2⟩:=aQz hw;refine⟨by simp[h1],fun y hy=>?_⟩;rcases List.mem_append.1 hy with hy|hy
  .exact h2 y hy
  .simp at hy
   subst hy;exact hx
theorem aSZ:∀ {n:Nat} {v:List Int},v∈pre f L n->v.length<n/\∀ x∈v,x∈L
|0,v,h=>by simp[pre] at h
|n+1,v,h=>by
  rcases List.mem_append.1 h with h|h
  .have:=aSZ h
   exact⟨by omega,this.2⟩
  .have:=aQz h
   exact⟨by omega,this.2⟩
theorem aHK{l:List (List Int)}{k:Nat}{w:List Int}(h:l[k]?=some w):aBy f L (l.take (k+1))=aBy f L (l.take k)++aJY f L w:=by
 obtain⟨hk,h'⟩:=List.getElem?_eq_some_iff.1 h;rw[List.take_succ_eq_append_getElem hk,h'];unfold aBy;rw[List.flatMap_append];simp
theorem aSy{w:List Int}{j:Nat}{x:Int}(h:L[j]?=some x)(hf:f w x=true):aJY f (L.take (j+1)) w=aJY f (L.take j) w++[w++[x]]:=by
 obtain⟨hk,h'⟩:=List.getElem?_eq_some_iff.1 h;rw[List.take_succ_eq_append_getElem hk,h'];unfold aJY;rw[List.filter_append,List.map_append];simp[hf]
theorem aQS{w:List Int}{j:Nat}{x:Int}(h:L[j]?=some x)(hf:f w x=false):aJY f (L.take (j+1)) w=aJY f (L.take j) w:=by
 obtain⟨hk,h'⟩:=List.getElem?_eq_some_iff.1 h;rw[List.take_succ_eq_append_getElem hk,h'];unfold aJY;rw[List.filter_append,List.map_append];simp[hf]
end
def okB(w:List Int)(x:Int):Bool:=!(w.getLast? == some (-x))
theorem aOi(w:List Int)(y x:Int):okB (w++[y]) x=!(y == -x):=by simp[okB]
end
theorem aFc(A:Option Addr)(xs:List Int)(c B:Nat)(w:World)(hr:Rs w B A (aAd xs))(hB:B<=w.heap.size)(hok:OkI xs)(hl:xs.length<=4194304) :
  Calls Tryz.prog 109 #[.slice A xs.length c] w fun e w'=>RetI 3 (aAx xs) w e w':=by
 have HOK:=oH hok;clear hok;have hmx:xs.length<=maxLen:=by unfold maxLen;omega
 obtain⟨i0,hi,hz0,hz1,hz2⟩:=info_parts aCg;have hby:i0.bytes * xs.length<=281474976710656:=by rw[hz2];omega
 go_enter Tryz.func109,Tryz.ntmps109
 go_wp2_with (at_make;refine wpList_make_own _ rfl _ _ 44 rfl w.heap.size 3 i0 (.int .i64 0) 1 aBZ hi hz0 hz1 .i64 .i64 _ xs.length rfl rfl rfl hby hmx oN ?_;intro w1 hown1 hgr1)
 have hb1:=aOL hgr1;clear hi hz0 hz1 hz2 hby;go_loopw [3,4] (fun v i wr=>∃ j:Nat,j<=xs.length/\i=.int .i64 ((j:Int) - 1)/\wr.ownsRow w.heap.size 3 1 v (xs.length - j) (aAd (aAx (xs.drop j)))/\Below w.heap.size w wr)
  (fun _ i _=>(intOf i+1).toNat)
 case atStart=>exact⟨xs.length,oN,rfl,by simpa [aAx,aAd] using hown1,hb1⟩
 obtain⟨j,hj,rfl,hown,hb⟩:=hrel;have hsz:=hb.size;cases j with
|zero=>
  go_wp2_with fail;go_ret;exact RetI.mk (by rw[aKH]) (by simpa using hown) hb
|succ m=>
  rw[show(((m+1:Nat):Int) - 1)=(m:Int) from by omega];obtain⟨b,off,x,rfl, -,hx,hc⟩:=((hr.more hB).below hb).int (show m<xs.length by omega);have hbx:=HOK.out x (List.mem_of_getElem? hx);have HW:=oH (aIs hbx.1 hbx.2);have HX:=oH hx;clear hx hbx;go_wp2_with (at_builtin;refine aAr rfl _ _ 44 rfl w.heap.size 3 (.int .i64 0) 1 8 aBZ aCg rfl (by decide) _ _ _ rfl hown 1 [.int .i64 (wrap64 (-x))] rfl rfl ?c1 ?c2 ?c3 hsz ?next)
  case c1=>exact aAu [wrap64 (-x)]
  case c2=>unfold maxLen;omega
  case c3=>omega
  intro v' w1 hown1 hgr _;go_wp2_with fail;go_roundw
  case rel=>
   refine⟨m,by omega,rfl,?_,hb.grown hgr hsz (fun g hg=>(hown.lt g hg).1)⟩;rw[aQe xs HX.out,aQw,aAj,show xs.length - m=xs.length - (m+1)+1 from by omega,<- HW.out];exact hown1
  simp[intOf]
def aUs(xs:List Int):Nat:=(xs.length+1) / 2
def aTx(xs:List Int):List Int:=xs.take (aUs xs)
def aTy(xs:List Int):List Int:=(aAx xs).take (aUs xs)
def aVo(xs:List Int):List Int × List Int:=if 0<aVr (aTx xs) (aTy xs) then(aTy xs,aTx xs) else(aTx xs,aTy xs)
theorem aOj{xs:List Int}(h:OkI xs):OkI (aAx xs):=by
 intro x hx;unfold aAx at hx;rw[List.mem_reverse,List.mem_map] at hx;obtain⟨y,hy,rfl⟩:=hx;have:=h y hy;unfold negI aLY;split <;> omega
theorem aTN{w':World}{lo:Nat}{A2:Option Addr}{n c2:Nat}{xs:List Int}{y:Int}(h:w'.ownsRow lo 3 1 (.slice A2 (n+1) c2) (n+1) (aAd (xs++[y])))(hl:xs.length=n):w'.ownsRow lo 3 1 (Row.v ⟨A2,c2,xs++[y]⟩) (xs++[y]).length (aAd (xs++[y])):=by
 have:(xs++[y]).length=n+1:=by rw[List.length_append,hl];rfl
 unfold Row.v;rw[this];exact h
def WordsTo(rk:Int)(d:List (List Int))(k:Nat):Prop:=∀ j xs,j<k->d[j]?=some xs->IsW rk xs
theorem WordsTo.zero(rk:Int)(d:List (List Int)):WordsTo rk d 0:=fun j x h=>absurd h (Nat.not_lt_zero j)
theorem WordsTo.succ{rk:Int}{d:List (List Int)}{k:Nat}{x:List Int}(h:WordsTo rk d k)(hx:d[k]?=some x)(hl:IsW rk x):WordsTo rk d (k+1):=by
 intro j z hj hz;rcases Nat.lt_or_eq_of_le (Nat.le_of_lt_succ hj) with h1|rfl
 .exact h j z h1 hz
 rw[hx] at hz;obtain rfl:=Option.some.inj hz;exact hl
theorem aNA{rk:Int}{d:List (List Int)}:WordsTo rk d d.length↔∀ xs∈d,IsW rk xs:=by
 constructor
 .intro h x hx
  obtain⟨j,hj⟩:=List.mem_iff_getElem?.1 hx;exact h j x (List.getElem?_eq_some_iff.1 hj).1 hj
 exact fun h j x _ hx=>h x (List.mem_of_getElem? hx)
theorem aNG(p:Prop):∃ r:Bool,r=true↔p:=by
 by_cases h:p
 .exact⟨true,by simp[h]⟩
 exact⟨false,by simp[h]⟩
theorem aTc{d:List (List Int)}{xs:List Int}(h:xs∈d)(hl:d.length+aDR d<=1048576):xs.length<=4194304:=by
 have:=aGk h;omega
def aUc(w wr:World)(v:Value)(out:List Int):Prop:=wr.ownsRow w.heap.size 3 1 v out.length (aAd out)/\Below w.heap.size w wr
theorem aHJ(A:Option Addr)(d:List (List Int))(c:Nat)(w:World)(lo hi:Nat)(hr:RSS w lo hi A d)(hok:∀ xs∈d,OkI xs)(hl:d.length<=4194304)(hs:aDR d<=268435456) :
  Calls Tryz.prog 110 #[.slice A d.length c] w fun e w'=>RetI 3 (red [] d.flatten) w e w':=by
 have HOK:=oH hok;clear hok;have hb0:=(Below.refl w.heap.size w).alloc oN (.cells #[] 3);have ho0:=aAi w 3 1;go_enter Tryz.func110,Tryz.ntmps110
 go_wp2_with fail;go_loopw [3,5,7,11] (fun v _ _ i wr=>∃ k:Nat,k<=d.length/\i=.int .i64 k/\aUc w wr v (red [] (d.take k).flatten)) (fun _ _ _ i _=>d.length - (intOf i).toNat)
 case atStart=>exact⟨0,oZ,rfl,by simpa [red,aAd] using ho0,hb0⟩
 obtain⟨k,hk,rfl,hown,hb⟩:=hrel;by_cases hlt:k<d.length
 .obtain⟨b,off,A',c',xs,rfl, -,hbh,hx,hc,hrx⟩:=hr.row hlt
  have hhi:=hr.size;have hcw:wr.cell? ⟨b,off+k,none⟩=some (.slice A' xs.length c'):=(hb.cell (by simp;omega)).trans hc;have hm:=List.mem_of_getElem? hx;have hox:=HOK.out xs hm;have hlx:=aGk hm;have hlx1:xs.length<=268435456:=by omega
  obtain⟨out0,hout0⟩:∃ o,o=red [] (d.take k).flatten:=⟨_,rfl⟩
  have hstep:=aHX d hx;rw[<- hout0] at hown hstep;have hok0:OkI out0:=by
   rw[hout0];exact aMm (aNj fun ys hy=>HOK.out ys (List.mem_of_mem_take hy))
  have hl0:out0.length+xs.length<=268435456:=by
   have h1:=aCH (d.take k).flatten;rw[<- hout0,aMu] at h1;have h2:=aBH hx;have h3:=aCX d (k+1);omega
  have HX:=oH hx;have HS:=oH hstep;have HO0:=oH hok0;have HOX:=oH hox;clear hx hm hox hout0 hstep hok0 hlx;go_wp2_with fail;go_loopw [3,7,17] (fun v _ j wr2=>∃ l:Nat,l<=xs.length/\j=.int .i64 l/\aUc w wr2 v (red out0 (xs.take l))) (fun _ _ j _=>xs.length - (intOf j).toNat)
  case atStart=>exact⟨0,oZ,rfl,hown,hb⟩
  clear hown hb hcw;obtain⟨l,hlk,rfl,hown,hb⟩:=hrel;have hsz:=hb.size;by_cases hl2:l<xs.length
  .obtain⟨b',off',x,rfl, -,hxx,hcx⟩:=((hrx.rs.more hhi).below hb).int hl2
   have hst:=aKZ xs hxx out0;have hbx:=HOX.out x (List.mem_of_getElem? hxx);have hlen:=aNq out0 (xs.take l);rw[List.length_take] at hlen;obtain⟨out1,ho1⟩:∃ o,o=red out0 (xs.take l):=⟨_,rfl⟩
   rw[<- ho1] at hown hst hlen;have hok1:OkI out1:=fun y hy=>by
    rw[ho1] at hy;rcases aNr hy with h1|h1
    .exact HO0.out y h1
    .exact HOX.out y (List.mem_of_mem_take h1)
   clear ho1 hxx;have HST:=oH hst;have HBX:=oH hbx;clear hst hbx;rcases Nat.eq_zero_or_pos out1.length with he|hp
   .obtain rfl:=List.eq_nil_of_length_eq_zero he
    clear he hok1 hlen;obtain⟨A1,c1,rfl, -, -⟩:=aAg hown;go_wp2_with (at_builtin;refine aAr rfl _ _ 44 rfl w.heap.size 3 (.int .i64 0) 1 8 aBZ aCg rfl (by decide) _ _ _ rfl hown 1 [.int .i64 x] rfl rfl (aAu [x]) (by unfold maxLen;simp) (by simp) hsz ?n1)
    case n1=>
     intro v' w1 hown1 hgr _;go_wp2_with fail;go_roundw
     case rel=>
      refine⟨l+1,by omega,by go_num,?_,hb.grown hgr hsz (fun g hg=>(hown.lt g hg).1)⟩;rw[HST.out,aBk];exact hown1
     simp[intOf];omega
   obtain⟨ys,a,rfl⟩:=aLA out1 hp;have hba:=hok1 a (by simp);rw[List.length_append] at hown hlen;simp only[List.length_cons,List.length_nil,Nat.zero_add] at hown hlen;clear hp hok1;obtain⟨A1,c1,rfl,hnc, -⟩:=aAg hown;obtain⟨g,rfl, -, -⟩:=aAU hown (Nat.succ_pos _);have hca:wr.cell? ⟨g,ys.length,none⟩=some (.int .i64 a):=by
    rw[hown.cellAt ys.length (by omega)];simp[aAd]
   have HA:=oH hba;obtain⟨ha1,ha2⟩:=hba;by_cases hI:aFf a x=true
   .have HI:=oH hI
    clear hI;have hys:ys.length<=c1:=by omega
    go_wp2_with fail;refine(aCs _ _ _ ha1 ha2).mono ?_;rintro e w' ⟨rfl,rfl⟩;rw[HI.out];go_wp2_with fail;go_roundw
    case rel=>
     refine⟨l+1,by omega,by go_num,?_,hb⟩;rw[HST.out,aBB HI.out];have h1:=aGQ hown (Nat.le_succ ys.length);rw[Nat.mul_one,aAj,List.take_left' (aAG ys)] at h1;exact h1
    simp[intOf];omega
   have hI':aFf a x=false:=by simpa using hI
   have HI:=oH hI';clear hI hI';go_wp2_with fail;refine(aCs _ _ _ ha1 ha2).mono ?_;rintro e w' ⟨rfl,rfl⟩;rw[HI.out];go_wp2_with (at_builtin;refine aAr rfl _ _ 44 rfl w.heap.size 3 (.int .i64 0) 1 8 aBZ aCg rfl (by decide) _ _ _ rfl hown 1 [.int .i64 x] rfl rfl (aAu [x]) (by unfold maxLen;omega) (by omega) hsz ?n2)
   case n2=>
    intro v' w1 hown1 hgr _;go_wp2_with fail;go_roundw
    case rel=>
     refine⟨l+1,by omega,by go_num,?_,hb.grown hgr hsz (fun g hg=>(hown.lt g hg).1)⟩;rw[HST.out,aAL HI.out,aAj,List.length_append,List.length_append];exact hown1
    simp[intOf];omega
  obtain rfl:l=xs.length:=by omega
  rw[List.take_length] at hown;go_wp2_with fail;go_roundw
  case rel=>
   refine⟨k+1,by omega,by go_num,?_,hb⟩;rw[HS.out];exact hown
  simp[intOf];omega
 obtain rfl:k=d.length:=by omega
 rw[List.take_length] at hown;go_wp2_with fail;go_ret;exact RetI.mk rfl hown hb
def aUG(d:List (List Int))(k:Int):List Int:=if 1<=k/\k<=d.length then d.getD (k - 1).toNat [] else if -(d.length:Int)<=k/\k<=-1 then aAx (d.getD (-k - 1).toNat []) else[]
def aVp(d:List (List Int))(l:List Int):List (List Int):=l.map (aUG d)
section
open Go.RowKit
section
variable {W:World} {ops:Array Oper} {rest:List Oper} {o:Oper} {ac:Act} {Q:Exit->Act->World->Prop}
end
theorem RetI.get{eI:TypeId}{xs:List Int}{w w':World}{e:Ending}(h:RetI eI xs w e w'):∃ A c,e=.returned (.slice A xs.length c)/\w'.ownsRow w.heap.size eI 1 (.slice A xs.length c) xs.length (aAd xs)/\Mid 0 0 w w':=by
 obtain⟨A,c,h1,h2,h3⟩:=h;exact⟨A,c,h1,h2,Mid.of_below h3⟩
end
section
open Go.RowKit
abbrev obS(A:Option Addr)(n c:Nat):Option Nat:=Value.ownBlock (.slice A n c)
structure Own1 (w:World) (lo:Nat) (A:Option Addr) (n c:Nat) (rows:List Row):Prop where
 out:w.ownsRow lo 44 1 (.slice A n c) n (aDV rows)
 rows:OwnRows w lo w.heap.size 3 rows
section
variable {w w':World} {lo:Nat} {A A2:Option Addr} {n c n2 c2:Nat} {rows rows2:List Row}
theorem Own1.mid(h:Own1 w lo A n c rows)(m:Mid 0 0 w w'):Own1 w' lo A n c rows:=
 ⟨aAc h.out m oZl,(h.rows.mid m oZl).wide oN m.size oN⟩
theorem Own1.len(h:Own1 w lo A n c rows):rows.length=n:=by
 have:=h.out.1;rw[aJf] at this;omega
theorem Own1.lt(h:Own1 w lo A n c rows){g:Nat}(hg:obS A n c=some g):lo<=g/\g<w.heap.size:=h.out.lt g hg
theorem Own1.oss(h:Own1 w lo A n c rows){xss:List (List Int)}(hd:aBe rows=xss):OSS w lo w.heap.size 44 3 A c xss:=OSS.mk' h.out h.rows hd
theorem Own1.base{lo':Nat}(h:Own1 w lo A n c rows)(hl:lo'<=lo):Own1 w lo' A n c rows:=⟨aAp h.out hl,h.rows.wide hl oN oN⟩
theorem Own1.other(h:Own1 w lo A n c rows)(h2:Own1 w lo A2 n2 c2 rows2)(hd:∀ g,obS A n c=some g->obS A2 n2 c2≠some g)(hg:w.grownBy w' (obS A2 n2 c2)):Own1 w' lo A n c rows:=by
 refine⟨h.out.kept hg ?_,(h.rows.grown h2.out (by decide) hg).wide oN hg.size oN⟩;cases hv:Value.ownBlock (.slice A n c) with
|none=>exact .inl rfl
|some j=>exact .inr fun e=>hd j hv e.symm
theorem Own1.row(h:Own1 w lo A n c rows){k:Nat}{r:Row}(hk:rows[k]?=some r):∃ b,A=some ⟨b,0,none⟩/\lo<=b/\b<w.heap.size/\w.cell? ⟨b,k,none⟩=some r.v/\RV w lo w.heap.size r.A (aAd r.xs)/\r.xs.length<=r.c:=by
 have hl:=(List.getElem?_eq_some_iff.1 hk).1;obtain⟨b,hA,h1,h2⟩:=aAU h.out (show 0<n by have:=h.len;omega);subst hA;have hm:=h.rows.1 r (List.mem_of_getElem? hk);exact⟨b,rfl,h1,h2,(h.out.cellAt k (by have:=h.len;omega)).trans (by simp[aDV,hk]),OV.rv hm,aOo hm.2.1⟩
theorem Own1.push{W W':World}{A':Option Addr}{c':Nat}{r:Row}(h:Own1 w lo A n c rows)(m:Mid 0 0 w W)(hl:lo<=w.heap.size)(hrow:W.ownsRow w.heap.size 3 1 r.v r.xs.length (aAd r.xs))(h1:W'.ownsRow lo 44 1 (.slice A' (n+1) c') (n+1) (aDV rows++[r.v]))(h2:W.grownBy W' (obS A n c)):Own1 W' lo A' (n+1) c' (rows++[r]):=by
 refine⟨by rw[aFm];exact h1,?_⟩;have k1:=(h.rows.mid m oZl).push (r:=r) (base:=w.heap.size) (hi':=W.heap.size) hrow oN hl m.size oN (fun g hg=>(hrow.lt g hg).2);exact(k1.grown (h.mid m).out (by decide) h2).wide oN h2.size oN
end
theorem Own1.empty(w:World):Own1 (w.alloc (.cells #[] 44)) w.heap.size (some ⟨w.heap.size,0,none⟩) 0 0 []:=⟨aAi w 44 1,OwnRows.nil⟩
def Apart(A:Option Addr)(n c:Nat)(A2:Option Addr)(n2 c2:Nat):Prop:=∀ g,obS A n c=some g->obS A2 n2 c2≠some g
theorem Apart.symm{A A2:Option Addr}{n c n2 c2:Nat}(h:Apart A n c A2 n2 c2):Apart A2 n2 c2 A n c:=fun g hg e=>h g e hg
theorem Apart.push{W:World}{lo:Nat}{A A' A2:Option Addr}{n c n' c' n2 c2:Nat}{rows2:List Row}(h:Apart A n c A2 n2 c2)(hat:obS A' n' c'=obS A n c \/ obS A' n' c'=some (W.heap.size+1))(h2:Own1 W lo A2 n2 c2 rows2):Apart A' n' c' A2 n2 c2:=by
 intro g hg e;rcases hat with hat|hat
 .exact h g (hat ▸ hg) e
 rw[hat] at hg;injection hg with hg
 have:=h2.lt e;omega
theorem aMo{w:World}{p:Nat}{v:Value}(h:w.cell? ⟨p,0,none⟩=some v):Rs w (p+1) (some ⟨p,0,none⟩) [v]:=fun _=>⟨p,0,rfl,oS,fun j u hu=>by
 rcases j with _|j
 .rw[<- hu];exact h
 .simp at hu⟩
theorem aJG{w w':World}{row:Option Nat}{b i:Nat}{v:Value}(hg:w.grownBy w' row)(hb:b<w.heap.size)(hn:some b≠row)(h:w.cell? ⟨b,i,none⟩=some v):w'.cell? ⟨b,i,none⟩=some v:=
 (World.cell?_of_block (hg.block b hb hn)).trans h
theorem aSY{b g n c:Nat}(h:b≠g):some b≠Value.ownBlock (.slice (some ⟨g,0,none⟩) n c):=fun e=>by
 have e':some b=some g:=e;injection e' with e'
 exact h e'
section
variable {W:World} {ops:Array Oper} {rest:List Oper} {o:Oper} {ac:Act} {Q:Exit->Act->World->Prop}
theorem aMB{w:World}{lo:Nat}{A:Option Addr}{n c:Nat}{rows:List Row}(hgd:o.guard=none)(s x:Operand)(ho:o.op=.call { callee:=.builtin .append,args:=#[s,x],argTypes:=#[24,24] })(hs:ac.eval s=.slice A n c)(h:Own1 w lo A n c rows)(m:Mid 0 0 w W)(r:Row)(u:Value)(hu:r.v=u)(hrow:W.ownsRow w.heap.size 3 1 r.v r.xs.length (aAd r.xs))(hx:ac.eval x=.slice (some ⟨W.heap.size,0,none⟩) 1 1)(hn:n<=1048576)(hb:lo<=w.heap.size)(hk:∀ A' c' w',Own1 w' lo A' (n+1) c' (rows++[r])->W.grownBy w' (obS A n c)->(obS A' (n+1) c'=obS A n c \/ obS A' (n+1) c'=some (W.heap.size+1))->wpList Tryz.prog ops Q rest (ac.put o.dst (.slice A' (n+1) c')) w') :
  wpList Tryz.prog ops Q (o::rest) ac (W.alloc (.cells #[u] 44)):=by
 subst hu;have hms:=m.size;refine aAr (news:=[r.v]) hgd s x 24 ho lo 44 (.slice none 0 0) 1 24 aKj aJQ rfl (by decide) (.slice A n c) n (aDV rows) hs (h.mid m).out 1 hx rfl ?_ (by unfold maxLen;omega) (by omega) (by omega) ?_
 .intro u hu
  simp at hu;subst hu
  rfl
 intro v' w' h1 h2 h3;obtain⟨A',c',rfl, -, -⟩:=aAg h1;exact hk A' c' w' (h.push m hb hrow h1 h2) h2 h3
theorem aFF{K:Act->World->Prop}{E:Prop}{w:World}{lo:Nat}{A:Option Addr}{n c:Nat}{rows:List Row}(hgd:o.guard=none)(s x:Operand)(ho:o.op=.call { callee:=.builtin .append,args:=#[s,x],argTypes:=#[24,24] })(hs:ac.eval s=.slice A n c)(h:Own1 w lo A n c rows)(m:Mid 0 0 w W)(r:Row)(u:Value)(hu:r.v=u)(hrow:W.ownsRow w.heap.size 3 1 r.v r.xs.length (aAd r.xs))(hx:ac.eval x=.slice (some ⟨W.heap.size,0,none⟩) 1 1)(hn:n<=1048576)(hb:lo<=w.heap.size)(hk:∀ A' c' w',Own1 w' lo A' (n+1) c' (rows++[r])->W.grownBy w' (obS A n c)->(obS A' (n+1) c'=obS A n c \/ obS A' (n+1) c'=some (W.heap.size+1))->K (ac.put o.dst (.slice A' (n+1) c')) w') :
  if Region.wanted o (yielded ops ac.tmps)=true then Oper.wp Tryz.prog o ac (W.alloc (.cells #[u] 44)) K Q else E:=by
 subst hu;have hms:=m.size;refine aBh (w:=W.alloc (.cells #[r.v] 44)) hgd s x 24 ho lo 44 (.slice none 0 0) 1 24 aKj aJQ rfl (by decide) (.slice A n c) n (aDV rows) hs ((h.mid m).out.alloc _) (some ⟨W.heap.size,0,none⟩) 1 1 (W.heap.size+1) [r.v] hx (fun _=>⟨W.heap.size,0,rfl,oS,fun j u hu=>(World.cell?_alloc_at _ _ _ _ rfl).trans (by simpa using hu)⟩) rfl ?_ (by unfold maxLen;omega) (by omega) (by simp;omega) ?_
 .intro u hu
  simp at hu;subst hu
  rfl
 intro v' w' h1 h2 h3;obtain⟨A',c',rfl, -, -⟩:=aAg h1;have h2':=aEx (World.grownBy_alloc W _ _) h2;exact hk A' c' w' (h.push m hb hrow h1 h2') h2' (by simpa using h3)
end
end
def aEg(T es:List Ed):List Ed:=es.filter fun e=>decide (e ∉ T)
theorem aFx{T es:List Ed}{k:Nat}{e:Ed}(h:es[k]?=some e):aEg T (es.take (k+1))=aEg T (es.take k)++(if e ∉ T then[e] else[]):=by
 obtain⟨hk,h'⟩:=List.getElem?_eq_some_iff.1 h;unfold aEg;rw[List.take_succ_eq_append_getElem hk,h',List.filter_append];by_cases h2:e ∉ T
 .simp[h2]
 simp[h2]
theorem aNh(T es:List Ed):aEg (canon T) es=aEg T es:=by
 unfold aEg
 congr 1
 funext e
 rw[decide_eq_decide,aBD]
theorem aIR(T es:List Ed):(aEg T es).length<=es.length:=List.length_filter_le _ _
theorem aIH(r n:Nat)(A:Option Addr)(es:List Ed)(c:Nat)(w:World)(lo hi:Nat)(hr:RG w lo hi A es)(hcl:es.length<=c)(hf:IsFol r n es)(T:List Ed)(hTl:T.length<=1000000)(hT:∀ W,RG W lo hi A es->Calls Tryz.prog 244 #[aAw r n A es.length c] W fun e w'=>∃ A1 c1,e=.returned (.slice A1 (canon T).length c1)/\OG w' W.heap.size w'.heap.size A1 c1 (canon T)/\Mid 0 0 W w') :
  Calls Tryz.prog 198 #[aAw r n A es.length c] w fun e w'=>∃ A1 c1,e=.returned (.slice A1 (aEg T es).length c1)/\OG w' w.heap.size w'.heap.size A1 c1 (aEg T es)/\Mid 0 0 w w':=by
 have hl:=hf.gr.len;have HF:=oH hf;have HT:=oH hT;clear hf hT;rw[<- aNh];have hcT:(canon T).length<=1048576:=by have:=aEn [] T;unfold canon;simp at this;omega
 obtain⟨TT,hTT⟩:∃ TT,canon T=TT:=⟨_,rfl⟩
 rw[hTT] at HT hcT |-;clear hTT hTl;have hm0:Mid 0 0 w ((w.alloc (.cells #[.int .i64 r,.int .i64 n,.slice A es.length c] 35)).alloc (.cells #[] 110)):=(Mid.alloc _ _).trans (Mid.alloc _ _);have B0:=(Box.new w #[.int .i64 r,.int .i64 n,.slice A es.length c] 35).mid (Mid.alloc _ (.cells #[] 110)) oZr;have O0:=aAi (w.alloc (.cells #[.int .i64 r,.int .i64 n,.slice A es.length c] 35)) 110 3;simp only[World.size_alloc] at O0;obtain⟨p0,p1,p2⟩:=B0.c3 rfl;go_enter Tryz.func198,Tryz.ntmps198
 go_wp2_with fail;generalize (w.alloc (.cells #[.int .i64 r,.int .i64 n,.slice A es.length c] 35)).alloc (.cells #[] 110)=w1 at hm0 B0 O0 p0 p1 p2 |-;have hs1:w.heap.size+1<w1.heap.size:=(O0.lt _ rfl).2;with_reducible refine(aAR r n A es c w1 lo hi (hr.mid hm0 oZl) (by omega) hcl true (iff_of_true rfl HF.out)).mono ?_
 rintro en w2 ⟨rfl,hm2⟩;have hs2:=hm2.size;clear p0 p1 p2;replace B0:=B0.mid hm2 oZr;replace O0:=aAc O0 hm2 oZl;replace hm0:=hm0.trans hm2;obtain⟨p0,p1,p2⟩:=B0.c3 rfl;clear hm2;go_wp2_with fail;with_reducible refine(HT.out w2 (hr.mid hm0 oZl)).mono ?_
 rintro en w3 ⟨AT,cT,rfl,hOT,hm3⟩;have hs3:=hm3.size;clear p0 p1 p2 HT;replace B0:=B0.mid hm3 oZr;replace O0:=aAc O0 hm3 oZl;replace hm0:=hm0.trans hm3;obtain⟨p0,p1,p2⟩:=B0.c3 rfl;clear hm3;have hRT:=hOT.rg;have HRT:=oH hRT;have HO0:Hid (w3.ownsRow (w.heap.size+1) 110 3 (.slice (some ⟨w.heap.size+1,0,none⟩) 0 0) 0 (aAd (edI (aEg TT (es.take 0))))):=oH O0;have HN0:Hid ((aEg TT (es.take 0)).length=0):=oH rfl;have HD0:Hid (∀ g,Value.ownBlock (.slice (some (⟨w.heap.size+1,0,none⟩:Addr)) 0 0)=some g->g=w.heap.size+1 \/ w3.heap.size<=g):=oH (fun g hg=>.inl (by injection hg with hg;exact hg.symm));have hL2:w.heap.size+2<=w2.heap.size:=by omega
 clear hOT hRT O0;generalize (some (⟨w.heap.size+1,0,none⟩:Addr))=A0 at HO0 HD0 |-;generalize w2.heap.size=L2 at HRT hL2 hs3;generalize hH:w3.heap.size=H3 at HRT HD0 hs3;have hsz3:H3<=w3.heap.size:=Nat.le_of_eq hH.symm;clear hH hs2;go_wp2_with fail;clear p0 p1 p2 B0;go_loopw [3,17] (fun ov kv wr=>∃(k n2:Nat) (A2:Option Addr) (c2:Nat),kv=.int .i64 k/\ov=.slice A2 n2 c2/\k<=es.length/\Hid ((aEg TT (es.take k)).length=n2)/\Hid (wr.ownsRow (w.heap.size+1) 110 3 (.slice A2 n2 c2) n2 (aAd (edI (aEg TT (es.take k)))))/\Hid (∀ g,Value.ownBlock (.slice A2 n2 c2)=some g->g=w.heap.size+1 \/ H3<=g)/\Hid (RG wr L2 H3 AT TT)/\H3<=wr.heap.size/\Mid 0 0 w wr) (fun _ kv _=>es.length - (intOf kv).toNat)
 case atStart=>exact⟨0,0,A0,0,rfl,rfl,oZ,HN0,HO0,HD0,HRT,hsz3,hm0⟩
 clear HN0 HO0 HD0 HRT hsz3 hm0;obtain⟨wo,hwo⟩:∃ wo,wo=wr:=⟨_,rfl⟩
 subst hwo;obtain⟨k,n2,A2,c2,rfl,rfl,hk,HN,HO,HD,HRT,hsz,hm0⟩:=hrel;have hn2:n2<=120:=by have h1:=aIR TT (es.take k);have h2:=HN.out;rw[List.length_take] at h1;omega
 by_cases hlt:k<es.length
 .obtain⟨b,off,e,hA, -,hbh,he,c0,c1,c2'⟩:=(hr.mid hm0 oZl).ed hlt
  subst hA;have hbs:b<wo.heap.size:=Nat.lt_of_lt_of_le hbh (Nat.le_trans hr.1 hm0.size);have hk0:(0:Int)<=(k:Int):=by omega
  have hkm:(k:Int)<(es.length:Int):=by omega
  have hal:=Mid.alloc wo (.cells #[.int .i64 e.a,.int .i64 e.l,.int .i64 e.b] 110);have B1:=Box.new wo #[.int .i64 e.a,.int .i64 e.l,.int .i64 e.b] 110;have HO1:=oH (aAc HO.out hal oZl);have HRT1:=oH (HRT.out.mid hal oZl);have hm1:=hm0.trans hal;have HE:=oH he;have hsal:=hal.size;obtain⟨q0,q1,q2⟩:=B1.c3 rfl;clear HO HRT hm0 he;go_wp2_with fail;generalize wo.alloc (.cells #[.int .i64 e.a,.int .i64 e.l,.int .i64 e.b] 110)=w4 at hal B1 HO1 HRT1 hm1 q0 q1 q2 hsal |-;with_reducible refine(aPW AT TT cT e w4 _ _ HRT1.out hcT).mono ?_
  rintro en w5 ⟨rfl,hm5⟩;have HO5:=oH (aAc HO1.out hm5 oZl);have HRT5:=oH (HRT1.out.mid hm5 oZl);have B5:=B1.mid hm5 oZr;have hs5:=hm5.size;have hm6:=hm1.trans hm5;clear HO1 HRT1 B1 hm1 hm5 q0 q1 q2 hal;obtain⟨q0,q1,q2⟩:=B5.c3 rfl;by_cases hin:e∈TT
  .have din:decide (e∈TT)=true:=by simpa using hin
   have HN2:Hid ((aEg TT (es.take (k+1))).length=n2):=oH (by rw[aFx HE.out,if_neg (by simpa using hin),List.append_nil];exact HN.out);have HO6:Hid (w5.ownsRow (w.heap.size+1) 110 3 (.slice A2 n2 c2) n2 (aAd (edI (aEg TT (es.take (k+1)))))):=oH (by rw[aFx HE.out,if_neg (by simpa using hin),List.append_nil];exact HO5.out);clear HN HO5;go_wp2_with fail;go_roundw
   case rel=>exact⟨k+1,n2,A2,c2,by go_num,rfl,by omega,HN2,HO6,HD,HRT5,by omega,hm6⟩
   simp[intOf];omega
  have din:decide (e∈TT)=false:=by simpa using hin
  go_wp2_with (at_builtin;refine MarkerX.to ?_)
  unfold MarkerX;refine aHj rfl _ _ rfl (w.heap.size+1) A2 n2 c2 _ rfl HO5.out e rfl (by omega) (by omega) ?_;intro A6 c6 w6 ho6 hgr6 hat6;have HN2:Hid ((aEg TT (es.take (k+1))).length=n2+1):=oH (by rw[aFx HE.out,if_pos hin,List.length_append,HN.out];rfl);have HO6:Hid (w6.ownsRow (w.heap.size+1) 110 3 (.slice A6 (n2+1) c6) (n2+1) (aAd (edI (aEg TT (es.take (k+1)))))):=oH (by rw[aFx HE.out,if_pos hin];exact ho6);have HRT6:=oH (RV.grown HRT5.out hgr6 (fun g hg=>by rcases HD.out g hg with h|h <;> omega));have hm7:=hm6.grownNew hgr6 (fun g hg=>by have:=(HO5.out.lt g hg).1;omega);have hs6:=hgr6.size;have HD6:Hid (∀ g,Value.ownBlock (.slice A6 (n2+1) c6)=some g->g=w.heap.size+1 \/ H3<=g):=oH (by
   intro g hg;rcases hat6 with h|h
   .exact HD.out g (h ▸ hg)
   .rw[h] at hg
    injection hg with hg
    omega)
  clear ho6 hgr6 hat6 HN HO5 HRT5 B5 hm6 HD q0 q1 q2;go_wp2_with fail;go_roundw
  case rel=>exact⟨k+1,n2+1,A6,c6,by go_num,rfl,by omega,HN2,HO6,HD6,HRT6,by omega,hm7⟩
  simp[intOf];omega
 obtain rfl:k=es.length:=by omega
 have hN:=HN.out;have hO:=HO.out;rw[List.take_length] at hN hO;subst hN;have hOG:OG wo w.heap.size wo.heap.size A2 c2 (aEg TT es):=⟨oN,aAp hO (Nat.le_succ _),fun g hg=>(hO.lt g hg).2⟩
 have HOG:=oH hOG;clear hO HO hOG HRT HN HD;go_wp2_with fail;go_ret;exact⟨A2,c2,rfl,HOG.out,hm0⟩
end Go.Proofs.YtkimajabegojoaaGreat
