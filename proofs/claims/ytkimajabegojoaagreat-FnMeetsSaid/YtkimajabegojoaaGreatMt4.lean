/- Lemmas. -/
import Derived.Test.YtkimajabegojoaaGreatMt3
import Derived.Test.YtkimajabegojoaaGreatMt1
import Derived.Test.YtkimajabegojoaaGreatMt2
namespace Go.Proofs.YtkimajabegojoaaGreat
set_option linter.unusedVariables false
set_option linter.unusedSimpArgs false
set_option maxHeartbeats 40000000
set_option maxRecDepth 100000
open Go.RowKit
theorem aJB(r na nb u v:Nat)(A B:Option Addr)(ea eb:List Ed)(c d:Nat)(w:World)(lo hi lo2 hi2:Nat)(hr:RG w lo hi A ea)(hr2:RG w lo2 hi2 B eb)(hg:IsGr r na ea)(hg2:IsGr r nb eb)(hu:u<na)(hv:v<nb) :
  Calls Tryz.prog 121 #[aAw r na A ea.length c,aAw r nb B eb.length d,.int .i64 u,.int .i64 v] w fun e w'=>∃ A1 c1,e=.returned (.slice A1 (aAf ea eb (lets r) (u,v)).length c1)/\RV w' w.heap.size w'.heap.size A1 (aAd ((aAf ea eb (lets r) (u,v)).map (aAJ nb)))/\Mid 0 0 w w':=by
 have hna:na<=40:=by have:=hg.size;omega
 have hnb:nb<=40:=by have:=hg2.size;omega
 have hnb1:(0:Int)<(nb:Int):=by have:=hg2.size;omega
 have hnb0:¬ nb=0:=by omega
 have hr3:r<=3:=by have:=hg.rank;omega
 have hl:=hg.len;have hl2:=hg2.len;have hgl:∀ e∈ea,1<=e.l/\e.l<=3:=fun e he=>by have:=hg.all e he;unfold InG at this;omega
 have hgl2:∀ e∈eb,1<=e.l/\e.l<=3:=fun e he=>by have:=hg2.all e he;unfold InG at this;omega
 have hp0:PIn na nb ((u:Int),(v:Int)):=⟨Int.natCast_nonneg _,Int.ofNat_lt.2 hu,Int.natCast_nonneg _,Int.ofNat_lt.2 hv⟩
 have hmulb:(na:Int) * (nb:Int)<=40 * 40:=Int.mul_le_mul (by omega) (by omega) (by omega) (by omega);obtain⟨N,hN⟩:∃ N:Nat,(na:Int) * (nb:Int)=(N:Int):=⟨na * nb,by simp⟩
 have hN16:N<=1600:=by rw[hN] at hmulb;omega
 obtain⟨q0,u',v',m0,hpq, -, -,hm0e,hq0e,hq0,hpc0,hmq0, -, -⟩:=aBE hN hp0;simp only[Prod.mk.injEq,Int.ofNat_inj] at hpq;obtain⟨rfl,rfl⟩:=hpq;have hmx:N<=maxLen:=by unfold maxLen;omega
 have HP0:=oH hp0;have HPC:=oH hpc0;have HG:=oH hg;have HG2:=oH hg2;have HGL:=oH hgl;have HGL2:=oH hgl2;have HNN:=oH hN;have hm0:Mid 0 0 w ((w.alloc (.cells #[.int .i64 r,.int .i64 na,.slice A ea.length c] 35)).alloc (.cells #[.int .i64 r,.int .i64 nb,.slice B eb.length d] 35)):=(Mid.alloc _ _).trans (Mid.alloc _ _);have B0:=(Box.new w #[.int .i64 r,.int .i64 na,.slice A ea.length c] 35).mid (Mid.alloc _ (.cells #[.int .i64 r,.int .i64 nb,.slice B eb.length d] 35)) oZr;have B1:=Box.new (w.alloc (.cells #[.int .i64 r,.int .i64 na,.slice A ea.length c] 35)) #[.int .i64 r,.int .i64 nb,.slice B eb.length d] 35;rw[World.size_alloc] at B1;clear hg hg2 hgl hgl2 hp0 hpc0 hmulb;go_enter Tryz.func121,Tryz.ntmps121
 obtain⟨p0,p1,p2⟩:=B0.c3 rfl;obtain⟨p'0,p'1,p'2⟩:=B1.c3 rfl;go_wp2_with (at_make;refine MarkerX.to ?_)
 unfold MarkerX;refine aCB rfl _ _ 121 rfl 4 (.bool false) 1 aSM aSj rfl .i64 .i64 _ _ N rfl rfl rfl rfl (by omega) hmx ?_;intro w2 hown2 hgr2 hsz2;simp only[World.size_alloc] at hown2 hsz2;have hm2:=hm0.trans (Mid.of_grown hgr2 (by intro g h;cases h));have hmg:=Mid.of_grown (lo:=0) (hi:=0) hgr2 (by intro g h;cases h);have hst2:=Mid.setAt w2 (w.heap.size+1+1) q0 (.bool true);replace B0:=B0.mid hmg oZr;replace B1:=B1.mid hmg oZr;clear hmg hm0 hgr2 p0 p1 p2 p'0 p'1 p'2;have B0s:=B0.mid hst2 (Or.inl (by omega));have B1s:=B1.mid hst2 (Or.inl (by omega));have hwa:w.heap.size<w2.heap.size:=by omega
 have hwb:w.heap.size+1<w2.heap.size:=by omega
 have p0:=B0s.cell 0 rfl;have p'0:=B1s.cell 0 rfl;have p'1:=B1.cell 1 rfl;have hal:=hown2.alloc (.cells #[.int .i64 q0] 3);have hfz:=hal.frozenAt q0;obtain⟨u0, -,hcs⟩:=aDv hal hq0;clear hal;have O0:=aGR (w2.setCell ⟨w.heap.size+1+1,q0,none⟩ (.bool true)) 3 (.int .i64 q0);have hset:=aBA (ys:=aBM N [(q0:Int)]) hown2 q0 (.bool true) (by rw[<- aFE,aBG hq0];rfl);have hms:=Mid.storeNew hm2 (p:=⟨w.heap.size+1+1,q0,none⟩) (Nat.le_succ_of_le (Nat.le_succ_of_le oN)) (.bool true);have hal:=Mid.alloc (w2.setCell ⟨w.heap.size+1+1,q0,none⟩ (.bool true)) (.cells #[.int .i64 q0] 3);simp only[World.size_setCell] at O0;go_wp2_with fail;with_reducible refine(aDW r _ (by omega)).mono ?_
 rintro en w4 ⟨A4,c4,rfl,hL4,hm4⟩;have hs4:w2.heap.size+1<=w4.heap.size:=by have:=hm4.size;simpa using this
 rw[World.size_alloc,World.size_setCell] at hL4;replace B0s:=B0s.mid hal oZr;replace B1s:=B1s.mid hal oZr;replace hset:=aAc hset hal oZl;replace hms:=hms.trans hal;replace B0s:=B0s.mid hm4 oZr;replace B1s:=B1s.mid hm4 oZr;replace hset:=aAc hset hm4 oZl;replace O0:=aAc O0 hm4 oZl;replace hms:=hms.trans hm4;have hst0:(aAN ea eb (lets r) ((u:Int),(v:Int)) 0).map (aAJ nb)=[(q0:Int)]:=by
  show[aAJ nb ((u:Int),(v:Int))]=_
  rw[HPC.out]
 have HST0:=oH hst0;clear p0 p'0 p'1 hal hm4 hm2 hst2 hcs hfz hown2 B0 B1 hst0 hm0e hq0e;have HLL:=oH (aBL r);obtain⟨LL,hLL⟩:∃ LL,(lets r).length=LL:=⟨_,rfl⟩
 have hLL6:LL<=6:=by have:=HLL.out;omega
 rw[hLL];have HLn:=oH hLL;clear hLL;go_wp2_with fail;go_loopw [10,12] (fun ord iv wr=>∃(i n1:Nat) (A1:Option Addr) (c1:Nat),i<=n1/\iv=.int .i64 i/\ord=.slice A1 n1 c1/\Hid ((aAN ea eb (lets r) (u,v) i).length=n1) /\
   wr.ownsRow w2.heap.size 3 1 (.slice A1 n1 c1) n1 (aAd ((aAN ea eb (lets r) (u,v) i).map (aAJ nb)))/\wr.ownsRow (w.heap.size+1+1) 4 1 (.slice (some ⟨w.heap.size+1+1,0,none⟩) N N) N (aBM N ((aAN ea eb (lets r) (u,v) i).map (aAJ nb))) /\
     Hid (RV wr (w2.heap.size+1) w4.heap.size A4 (aAd (lets r)))/\Hid (∀ g,Value.ownBlock (.slice A1 n1 c1)=some g->g<w2.heap.size+1 \/ w4.heap.size<=g)/\Box wr w.heap.size [.int .i64 r,.int .i64 na,.slice A ea.length c]/\Box wr (w.heap.size+1) [.int .i64 r,.int .i64 nb,.slice B eb.length d]/\Mid 0 0 w wr) (fun _ i _=>(1601 - intOf i).toNat)
 case atStart=>exact⟨0,1,_,1,oZ,rfl,rfl,oH rfl,by rw[HST0.out];exact O0,by rw[HST0.out];exact hset,oH hL4,oH (fun g hg=>by injection hg with hg;simp at hg;omega),B0s,B1s,hms⟩
 clear O0 hset hL4 B0s B1s hms;obtain⟨wo,hwo⟩:∃ wo,wo=wr:=⟨_,rfl⟩
 subst hwo;obtain⟨i,n1,A1,c1,hin,rfl,rfl,HN,hord,hsee,HL4,HD,bx,bz,hm⟩:=hrel;have hn1:n1<=1600:=by have h1:=aIW (lets r) HG.out HG2.out HP0.out i;have h2:=HN.out;omega
 have HOK:=oH (aFk (lets r) HG.out.all HG2.out.all HP0.out i);by_cases hlt:i<n1
 .obtain⟨p,hp⟩:=aAs (aAN ea eb (lets r) (u,v) i) (show i<(aAN ea eb (lets r) (u,v) i).length by rw[HN.out];exact hlt)
  have hpin:=HOK.out.rng p (List.mem_of_getElem? hp);obtain⟨q,a,b,m,rfl,ha,hb, -, -,hq,hpc, -,hqd,hqm⟩:=aBE HNN.out hpin;have HP:=oH hp;have HQ:=oH hpc;have hNX:=oH (aCw hp);have hi0:(0:Int)<=(i:Int):=by omega
  clear hp hpin hpc;go_wp2_with fail;go_loopw [10,13] (fun ord jv wr=>∃(j n1:Nat) (A1:Option Addr) (c1:Nat),j<=LL/\jv=.int .i64 j/\ord=.slice A1 n1 c1/\Hid ((aBo ea eb ((lets r).take j) (a,b) (aAN ea eb (lets r) (u,v) i)).length=n1) /\
    wr.ownsRow w2.heap.size 3 1 (.slice A1 n1 c1) n1 (aAd ((aBo ea eb ((lets r).take j) (a,b) (aAN ea eb (lets r) (u,v) i)).map (aAJ nb)))/\wr.ownsRow (w.heap.size+1+1) 4 1 (.slice (some ⟨w.heap.size+1+1,0,none⟩) N N) N (aBM N ((aBo ea eb ((lets r).take j) (a,b) (aAN ea eb (lets r) (u,v) i)).map (aAJ nb))) /\
    Hid (RV wr (w2.heap.size+1) w4.heap.size A4 (aAd (lets r)))/\Hid (∀ g,Value.ownBlock (.slice A1 n1 c1)=some g->g<w2.heap.size+1 \/ w4.heap.size<=g)/\Box wr w.heap.size [.int .i64 r,.int .i64 na,.slice A ea.length c]/\Box wr (w.heap.size+1) [.int .i64 r,.int .i64 nb,.slice B eb.length d]/\Mid 0 0 w wr) (fun _ j _=>LL - (intOf j).toNat)
  case atStart=>exact⟨0,n1,_,c1,oZ,rfl,rfl,by rw[List.take_zero];exact HN,hord,hsee,HL4,HD,bx,bz,hm⟩
  clear hord hsee HL4 HD bx bz hm;obtain⟨j,n1,A1,c1,hj,rfl,rfl,HN,hord,hsee,HL4,HD,bx,bz,hm⟩:=hrel;obtain⟨stj,hstj⟩:∃ st,aBo ea eb ((lets r).take j) (a,b) (aAN ea eb (lets r) (u,v) i)=st:=⟨_,rfl⟩
  have hokj:PbOk na nb stj:=by rw[<- hstj];exact PbOk.row HG.out.all HG2.out.all _ _ HOK.out
  have hpj:stj[i]?=some ((a:Int),(b:Int)):=by rw[<- hstj];exact aAO (aCU _ _ _ _ _) HP.out
  rw[hstj] at HN hord hsee;have hn1b:n1<=1600:=by
   have h1:=hokj.len (Int.natCast_nonneg _) (Int.natCast_nonneg _);have h2:=HN.out;rw[HNN.out] at h1;omega
  by_cases hlt2:j<LL
  .obtain⟨B4,o4,x,rfl,hB4,hx,hcx⟩:=HL4.out.at (k:=j) (by rw[HLn.out];exact hlt2)
   have hxm:=aHt (List.mem_of_getElem? hx);have hnx:=aFy (ea:=ea) (eb:=eb) (p:=((a:Int),(b:Int))) (st:=aAN ea eb (lets r) (u,v) i) hx;rw[hstj] at hnx;have hj0:(0:Int)<=(j:Int):=by omega
   have hj1:(j:Int)<(LL:Int):=by omega
   have hil:i<n1:=by have h1:=(List.getElem?_eq_some_iff.1 hpj).1;have h2:=HN.out;omega
   have hi1:(i:Int)<(n1:Int):=by omega
   obtain⟨g1,rfl,hg1,hg1s⟩:=aAU hord (show 0<n1 by omega);have hcu:wr.cell? ⟨g1,i,none⟩=some (.int .i64 q):=(hord.cellAt i (by omega)).trans (by rw[aAF,List.getElem?_map,hpj];show some (Value.int .i64 (aAJ nb ((a:Int),(b:Int))))=_;rw[HQ.out]);have hB4s:B4<wr.heap.size:=Nat.lt_of_lt_of_le hB4 HL4.out.1;have hcs1:=aBm HG.out.all (a:Int) x;have hcs2:=aBm HG2.out.all (b:Int) x;have HOJ:=oH hokj;have HNX0:=oH hnx;have HX:=oH hx;have HPJ:=oH hpj;have HCS1:=oH hcs1;have HCS2:=oH hcs2;have hwa:IntKind.i64.wrap (a:Int)=(a:Int):=IntWalk.i64_in _ (by omega);have hwb:IntKind.i64.wrap (b:Int)=(b:Int):=IntWalk.i64_in _ (by omega);have k0:=aAb bx.1 (bx.cell 0 rfl);have k1:=aAb bx.1 (bx.cell 1 rfl);have k2:=aAb bx.1 (bx.cell 2 rfl);have k3:=aAb hg1s hcu;have k4:=aAb hB4s hcx;have k5:=aAb bz.1 (bz.cell 1 rfl);have hA:=fun m os=>aAz r na A ea c a x (wg wr m os) lo hi (hr.mid (hm.trans (Mid.ofWg wr m os)) oZl) (by omega) HGL.out (by omega) (by omega);clear hx hokj hpj hstj hcu hcx hnx hcs1 hcs2;go_wp2_with fail;refine wqg ?_;repeat
    (with_reducible refine wpQuiet_step (fun K hK=>?_))
    go_simp
    first|(with_reducible refine hK _ ?_)|(rw[if_neg (by decide)];(with_reducible refine hK _ ?_))|(apply Exists.intro;refine⟨fun _=>?_,hK _ ?_⟩;((go_at_call 129;exact Calls.wg_of (hA _ _))))
    clear hK K
   with_reducible refine wpQuiet_nil ?_
   rintro _ ⟨⟨nq,osq⟩,rfl⟩;have hwg:=Mid.ofWg wr nq osq;generalize wg wr nq osq=w6 at hwg |-;replace bx:=bx.mid hwg oZr;replace bz:=bz.mid hwg oZr;replace hord:=aAc hord hwg oZl;replace hsee:=aAc hsee hwg oZl;replace hm:=hm.trans hwg;replace HL4:=oH (HL4.out.mid hwg oZl);have hg1s6:=Nat.lt_of_lt_of_le hg1s hwg.size;have hB4s6:B4<w6.heap.size:=Nat.lt_of_lt_of_le hB4 HL4.out.1;obtain⟨B5,o5,x5,hBe,hB5,hx5,hcx5⟩:=HL4.out.at (k:=j) (by rw[HLn.out];exact hlt2);injection hBe with hBe
   injection hBe with hBe1 hBe2
   subst hBe1;subst hBe2;have hxx:x5=x:=by have h:=HX.out;rw[hx5] at h;injection h
   subst hxx;have hcu6:w6.cell? ⟨g1,i,none⟩=some (.int .i64 q):=(hord.cellAt i (by omega)).trans (by rw[aAF,List.getElem?_map,HPJ.out];show some (Value.int .i64 (aAJ nb ((a:Int),(b:Int))))=_;rw[HQ.out]);clear k0 k1 k2 k3 k4 k5 hA;have k0:=aAb bz.1 (bz.cell 0 rfl);have k1:=aAb bz.1 (bz.cell 1 rfl);have k2:=aAb bz.1 (bz.cell 2 rfl);have k3:=aAb hg1s6 hcu6;have k4:=aAb hB4s6 hcx5;have hA:=fun m os=>aAz r nb B eb d b x5 (wg w6 m os) lo2 hi2 (hr2.mid (hm.trans (Mid.ofWg w6 m os)) oZl) (by omega) HGL2.out (by omega) (by omega);clear hx5 hcx5 hcu6;go_wp2_with fail;refine wqg ?_;repeat
    (with_reducible refine wpQuiet_step (fun K hK=>?_))
    go_simp
    first|(with_reducible refine hK _ ?_)|(rw[if_neg (by decide)];(with_reducible refine hK _ ?_))|(apply Exists.intro;refine⟨fun _=>?_,hK _ ?_⟩;((go_at_call 129;exact Calls.wg_of (hA _ _))))
    clear hK K
   with_reducible refine wpQuiet_nil ?_
   rintro _ ⟨⟨nq,osq⟩,rfl⟩;have hwg2:=Mid.ofWg w6 nq osq;generalize wg w6 nq osq=w7 at hwg2 |-;replace bx:=bx.mid hwg2 oZr;replace bz:=bz.mid hwg2 oZr;replace hord:=aAc hord hwg2 oZl;replace hsee:=aAc hsee hwg2 oZl;replace hm:=hm.trans hwg2;replace HL4:=oH (HL4.out.mid hwg2 oZl);clear k0 k1 k2 k3 k4 hA hwg hwg2 hg1s6 hB4s6 hB4s hg1s;have k1:=bz.cell 1 rfl;by_cases ht1:aAe ea a x5<0
   .have b1:decide (0<=aAe ea a x5)=false:=by simp;omega
    have HNX:=oH (HNX0.out.trans (aFA ht1));clear ht1;go_wp2_with fail;go_roundw
    case rel=>exact⟨j+1,n1,_,c1,by omega,by go_num,rfl,by rw[HNX.out];exact HN,by rw[HNX.out];exact hord,by rw[HNX.out];exact hsee,HL4,HD,bx,bz,hm⟩
    simp[intOf];omega
   have b1:decide (0<=aAe ea a x5)=true:=by simp;omega
   by_cases ht2:aAe eb b x5<0
   .have b2:decide (0<=aAe eb b x5)=false:=by simp;omega
    have HNX:=oH (HNX0.out.trans (aFB ht2));clear ht1 ht2;go_wp2_with fail;go_roundw
    case rel=>exact⟨j+1,n1,_,c1,by omega,by go_num,rfl,by rw[HNX.out];exact HN,by rw[HNX.out];exact hord,by rw[HNX.out];exact hsee,HL4,HD,bx,bz,hm⟩
    simp[intOf];omega
   have hpin2:=aEk HG.out.all HG2.out.all ((a:Int),(b:Int)) ht1 ht2;obtain⟨q',x',y',m',hpe,hx',hy',hme',hqe',hq',hpc',hmq', -, -⟩:=aBE HNN.out hpin2;have htx:aAe ea a x5=(x':Int):=congrArg Prod.fst hpe;have hty:aAe eb b x5=(y':Int):=congrArg Prod.snd hpe;have HMEM:=oH (HOJ.out.mem hpin2);have HQ':=oH hpc';have HT1:=oH ht1;have HT2:=oH ht2;simp only[htx,hty];clear b1 ht1 ht2 hpe htx hty hpin2 hpc';have c1':decide ((0:Int)<=(x':Int))=true:=by simp
   have c2':decide ((0:Int)<=(y':Int))=true:=by simp
   obtain⟨bb,hbb⟩:∃ bb:Bool,decide ((q':Int)∈stj.map (aAJ nb))=bb:=⟨_,rfl⟩
   have hcs:=(hsee.cellAt q' (by omega)).trans (aCI hq');rw[hbb] at hcs;cases bb
   rotate_left
   .have hin':=HMEM.out.1 (by rw[HQ'.out];exact of_decide_eq_true hbb)
    have HNX:=oH (HNX0.out.trans (aFC hin'));clear hbb hin';go_wp2_with fail;go_roundw
    case rel=>exact⟨j+1,n1,_,c1,by omega,by go_num,rfl,by rw[HNX.out];exact HN,by rw[HNX.out];exact hord,by rw[HNX.out];exact hsee,HL4,HD,bx,bz,hm⟩
    simp[intOf];omega
   have hnin:aAI ea eb ((a:Int),(b:Int)) x5 ∉ stj:=fun h=>by
    have:=HMEM.out.2 h;rw[HQ'.out] at this;exact absurd this (of_decide_eq_false hbb)
   have HNX:=oH (HNX0.out.trans (aFD HT1.out HT2.out hnin));have HMAP:Hid ((stj++[aAI ea eb ((a:Int),(b:Int)) x5]).map (aAJ nb)=stj.map (aAJ nb)++[(q':Int)]):=oH (by rw[List.map_append,<- HQ'.out];rfl);have hst7:=Mid.setAt w7 (w.heap.size+1+1) q' (.bool true);have hfz:=hsee.frozenAt q';have hse8:=aBA hsee q' (.bool true) (aBG hq');have hord8:=aAc hord hst7 (Or.inl (by omega));have bx8:=bx.mid hst7 (Or.inl (by omega));have bz8:=bz.mid hst7 (Or.inl (by omega));have hm8:=hm.transNew hst7 (Or.inl (by omega));have HL8:=oH (HL4.out.mid hst7 (Or.inl (by omega)));have HO9:=oH hord8;have HS9:=oH hse8;have hsz7:w2.heap.size<=w7.heap.size:=by have:=HL4.out.1;omega
   have k1':=bz8.cell 1 rfl;clear hbb hnin hord hord8 hsee hse8 hst7;go_wp2_with (at_builtin;refine aBl rfl _ _ rfl w2.heap.size _ n1 c1 (stj.map (aAJ nb)) rfl HO9.out q' (by rw[World.size_setCell];rfl) (by omega) (by rw[World.size_setCell];exact hsz7) ?_;intro A10 c10 w10 hord10 hgr10 hat10)
   rw[World.size_setCell] at hat10;have hm10:=Mid.of_grownRow HO9.out hgr10;have bx10:=bx8.mid hm10 (Or.inl (by omega));have bz10:=bz8.mid hm10 (Or.inl (by omega));have hsee10:=aCm HS9.out hgr10 (fun h=>by simp[Value.ownBlock] at h;omega);have hL10:=HL8.out.grown hgr10 HD.out;have hmm10:=hm8.transNew hm10 (Or.inl (by omega));have hw47:w4.heap.size<=w7.heap.size:=HL4.out.1;have HD10:Hid (∀ g,Value.ownBlock (.slice A10 (n1+1) c10)=some g->g<w2.heap.size+1 \/ w4.heap.size<=g):=oH (by
    intro g hg;rcases hat10 with h|h
    .exact HD.out g (h.symm.trans hg)
    .rw[h] at hg
     injection hg with hg
     omega)
   have HL10:=oH hL10;clear hL10 hat10 hgr10;go_roundw
   case rel=>exact⟨j+1,n1+1,A10,c10,by omega,by go_num,rfl,oH (by rw[HNX.out,List.length_append,HN.out];rfl),by rw[HNX.out,HMAP.out];exact hord10,by rw[HNX.out,HMAP.out];exact hsee10,HL10,HD10,bx10,bz10,hmm10⟩
   simp[intOf];omega
  obtain rfl:j=LL:=by omega
  have htk:(lets r).take j=lets r:=List.take_of_length_le (by rw[HLn.out];exact oN);rw[htk] at hstj;have hnx:=hNX.out;rw[hstj] at hnx;have HNX:=oH hnx;have hin1:i+1<=n1:=by have h1:=(List.getElem?_eq_some_iff.1 hpj).1;have h2:=HN.out;omega
  clear hnx hstj hpj;go_wp2_with fail;go_roundw
  case rel=>exact⟨i+1,n1,A1,c1,hin1,by go_num,rfl,by rw[HNX.out];exact HN,by rw[HNX.out];exact hord,by rw[HNX.out];exact hsee,HL4,HD,bx,bz,hm⟩
  simp[intOf];omega
 obtain rfl:i=n1:=by omega
 have HPE:=oH (aIm HG.out HG2.out HP0.out HN.out);go_wp2_with fail;go_ret;exact⟨A1,c1,by rw[HPE.out,HN.out];rfl,by rw[HPE.out];exact(aAy hord).wide (Nat.le_of_lt hwa) oN oN,hm⟩
theorem aSf{n k:Nat}(h:k<n):(aAd (List.replicate k (-1))++(List.replicate n (Value.int .i64 0)).drop k).set k (.int .i64 (-1))=aAd (List.replicate (k+1) (-1))++(List.replicate n (Value.int .i64 0)).drop (k+1):=by
 rw[aSH _ _ _ (by rw[aAG,List.length_replicate]) (by simpa using h),List.replicate_succ',aAj]
 rfl
theorem aGH(r:Int)(n:Nat)(A:Option Addr)(es:List Ed)(c:Nat)(Ao:Option Addr)(ord:List Int)(co:Nat)(w:World)(lo hi lo' hi':Nat)(hr:RG w lo hi A es)(hro:RV w lo' hi' Ao (aAd ord))(hg:IsGr r n es)(hnd:ord.Nodup)(hin:∀ x∈ord,0<=x/\x<(n:Int)) :
  Calls Tryz.prog 235 #[aAw r n A es.length c,.slice Ao ord.length co] w fun e w'=>∃ A1 c1,e=.returned (aAw r ord.length A1 (aBn ord es).length c1)/\OG w' w.heap.size w'.heap.size A1 c1 (aBn ord es)/\Mid 0 0 w w':=by
 have hn40:n<=40:=by have:=hg.size;omega
 have hl:=hg.len;have hol:ord.length<=n:=aGO n ord hnd hin;have hmx:n<=maxLen:=by unfold maxLen;omega
 have HG:=oH hg;have HND:=oH hnd;have HIN:=oH hin;have hm0:Mid 0 0 w ((w.alloc (.cells #[.int .i64 r,.int .i64 n,.slice A es.length c] 35)).alloc (.cells #[.int .i64 0,.int .i64 0,.slice none 0 0] 35)):=(Mid.alloc _ _).trans (Mid.alloc _ _);have B0:=(Box.new w #[.int .i64 r,.int .i64 n,.slice A es.length c] 35).mid (Mid.alloc _ (.cells #[.int .i64 0,.int .i64 0,.slice none 0 0] 35)) oZr;have B2:=Box.new (w.alloc (.cells #[.int .i64 r,.int .i64 n,.slice A es.length c] 35)) #[.int .i64 0,.int .i64 0,.slice none 0 0] 35;simp only[World.size_alloc] at B2;clear hg hnd hin;go_enter Tryz.func235,Tryz.ntmps235
 go_wp2_with (at_make;refine aCB rfl _ _ 44 rfl 3 (.int .i64 0) 8 aBZ aCg rfl .i64 .i64 _ _ n rfl rfl rfl rfl (by omega) hmx ?_;intro w2 hown2 hgr2 hsz2)
 simp only[World.size_alloc,Nat.add_assoc,Nat.reduceAdd] at hown2 hsz2;have hm2:=Mid.of_grown (lo:=0) (hi:=0) hgr2 (by intro g h;cases h);replace B0:=B0.mid hm2 oZr;replace B2:=B2.mid hm2 oZr;replace hm0:=hm0.trans hm2;clear hgr2 hm2;go_loopw [17] (fun i wr=>∃ k:Nat,k<=n/\i=.int .i64 k/\wr.ownsRow (w.heap.size+2) 3 1 (.slice (some ⟨w.heap.size+2,0,none⟩) n n) n (aAd (List.replicate k (-1))++(List.replicate n (Value.int .i64 0)).drop k) /\
   Box wr w.heap.size [.int .i64 r,.int .i64 n,.slice A es.length c]/\Box wr (w.heap.size+1) [.int .i64 0,.int .i64 0,.slice none 0 0]/\Mid 0 0 w wr) (fun i _=>n - (intOf i).toNat)
 case atStart=>exact⟨0,oZ,rfl,by simpa [aAd] using hown2,B0,B2,hm0⟩
 clear hown2 B0 B2 hm0 hsz2;obtain⟨wo,hwo⟩:∃ wo,wo=wr:=⟨_,rfl⟩
 subst hwo;obtain⟨k,hk,rfl,hown,b0,b2,hm⟩:=hrel;by_cases hlt:k<n
 .obtain⟨u, -,hcs⟩:=aDv hown hlt
  have hfz:=hown.frozenAt k;have hset:=aBA hown k (.int .i64 (-1)) (aSf hlt);have hst:=Mid.setAt wo (w.heap.size+2) k (.int .i64 (-1));have hms:=hm.storeNew (p:=⟨w.heap.size+2,k,none⟩) (by show w.heap.size<=w.heap.size+2;omega) (.int .i64 (-1));have c0:=b0.mid hst (Or.inl (by omega));have c2:=b2.mid hst (Or.inl (by omega));have hk1:(k:Int)<(n:Int):=by omega
  have hk0:(0:Int)<=(k:Int):=by omega
  clear hown b0 b2 hm hst;go_wp2_with fail;go_roundw
  case rel=>exact⟨k+1,by omega,by go_num,hset,c0,c2,hms⟩
  simp[intOf];omega
 obtain rfl:k=n:=by omega
 rw[List.drop_of_length_le (by simp),List.append_nil,<- aKd] at hown;go_wp2_with fail;go_loopw [26] (fun i wr=>∃ j:Nat,j<=ord.length/\i=.int .i64 j/\wr.ownsRow (w.heap.size+2) 3 1 (.slice (some ⟨w.heap.size+2,0,none⟩) k k) k (aAd (aDP k (ord.take j))) /\
   Box wr w.heap.size [.int .i64 r,.int .i64 k,.slice A es.length c]/\Box wr (w.heap.size+1) [.int .i64 0,.int .i64 0,.slice none 0 0]/\Mid 0 0 w wr) (fun i _=>ord.length - (intOf i).toNat)
 case atStart=>exact⟨0,oZ,rfl,by rw[List.take_zero];exact hown,b0,b2,hm⟩
 clear hown b0 b2 hm;obtain⟨wi,hwi⟩:∃ wi,wi=wr:=⟨_,rfl⟩
 subst hwi;obtain⟨j,hj,rfl,hown,b0,b2,hm⟩:=hrel;by_cases hlt2:j<ord.length
 .obtain⟨B,off,x,rfl,hbh,hx,hcx⟩:=(hro.mid hm oZl).at hlt2
  have hxr:=HIN.out x (List.mem_of_getElem? hx);obtain⟨m,rfl⟩:∃ m:Nat,x=m:=⟨x.toNat,by omega⟩
  have hmk:m<k:=by omega
  obtain⟨u, -,hcs⟩:=aDv hown hmk;have hfz:=hown.frozenAt m;have hset:=aBA (ys:=aAd (aDP k (ord.take (j+1)))) hown m (.int .i64 j) (by rw[<- aKe HND.out hx hmk];simp[aAd]);have hst:=Mid.setAt wi (w.heap.size+2) m (.int .i64 j);have hms:=hm.storeNew (p:=⟨w.heap.size+2,m,none⟩) (by show w.heap.size<=w.heap.size+2;omega) (.int .i64 j);have c0:=b0.mid hst (Or.inl (by omega));have c2:=b2.mid hst (Or.inl (by omega));have hm1:(m:Int)<(k:Int):=by omega
  have hm0:(0:Int)<=(m:Int):=by omega
  have hj1:(j:Int)<(ord.length:Int):=by omega
  have hj0:(0:Int)<=(j:Int):=by omega
  clear hown b0 b2 hm hst hx;go_wp2_with fail;go_roundw
  case rel=>exact⟨j+1,by omega,by go_num,hset,c0,c2,hms⟩
  simp[intOf];omega
 obtain rfl:j=ord.length:=by omega
 rw[List.take_length] at hown;obtain⟨p0,p1,p2⟩:=b0.c3 rfl;have hws:=b2.1;have hws0:=b0.1;have hal:=Mid.alloc wi (.cells #[.int .i64 r,.int .i64 ord.length,.slice none 0 0] 35);have Y3:=Box.new wi #[.int .i64 r,.int .i64 ord.length,.slice none 0 0] 35;go_wp2_with fail;have hpl:w.heap.size+2<wi.heap.size:=(hown.lt _ rfl).2;obtain⟨G,hG⟩:∃ G,wi.heap.size=G:=⟨_,rfl⟩
 have O0:(wi.alloc (.cells #[.int .i64 r,.int .i64 ord.length,.slice none 0 0] 35)).ownsRow (G+1) 110 3 (.slice none 0 0) 0 []:=⟨rfl,.inl ⟨rfl,rfl⟩⟩
 have hownP:=hown.alloc (.cells #[.int .i64 r,.int .i64 ord.length,.slice none 0 0] 35);replace b0:=b0.mid hal oZr;replace b2:=b2.mid hal oZr;replace hm:=hm.trans hal;have hw5s:(wi.alloc (.cells #[.int .i64 r,.int .i64 ord.length,.slice none 0 0] 35)).heap.size=G+1:=by rw[World.size_alloc,hG]
 generalize wi.alloc (.cells #[.int .i64 r,.int .i64 ord.length,.slice none 0 0] 35)=w5 at O0 hownP Y3 b0 b2 hm hw5s |-;rw[hG] at Y3 hpl hws hws0 |-;clear hown hG hal p0 p1 p2;go_loopw [44] (fun i wr=>∃(q:Nat) (A2:Option Addr) (n2 c2:Nat),q<=es.length/\i=.int .i64 q/\Hid (((es.take q).filterMap (aAK ord)).length=n2) /\
   wr.ownsRow (G+1) 110 3 (.slice A2 n2 c2) n2 (aAd (edI ((es.take q).filterMap (aAK ord))))/\wr.ownsRow (w.heap.size+2) 3 1 (.slice (some ⟨w.heap.size+2,0,none⟩) k k) k (aAd (aDP k ord)) /\
   Box wr w.heap.size [.int .i64 r,.int .i64 k,.slice A es.length c]/\Box wr (w.heap.size+1) [.int .i64 0,.int .i64 0,.slice none 0 0]/\Box wr G [.int .i64 r,.int .i64 ord.length,.slice A2 n2 c2]/\Mid 0 0 w wr) (fun i _=>es.length - (intOf i).toNat)
 case atStart=>exact⟨0,none,0,0,oZ,rfl,oH rfl,by simpa [edI,aAd] using O0,hownP,b0,b2,Y3,hm⟩
 clear O0 hownP b0 b2 Y3 hm hw5s;obtain⟨q,A2,n2,c2,hq,rfl,HN,hown,hownP,b0,b2,Y3,hm⟩:=hrel;have hn2:n2<=120:=by have h1:=List.length_filterMap_le (aAK ord) (es.take q);have h2:=HN.out;simp at h1;omega
 by_cases hlt3:q<es.length
 .obtain⟨B,off,e,rfl, -,hbh,he,e0,e1,e2⟩:=(hr.mid hm oZl).ed hlt3
  have hin:=HG.out.all e (List.mem_of_getElem? he);have htk:(es.take (q+1)).filterMap (aAK ord)=(es.take q).filterMap (aAK ord)++(aAK ord e).toList:=by
   rw[aAV he,List.filterMap_append];cases hd:aAK ord e <;> simp[hd]
  obtain⟨i1,i2,i3,i4,i5,i6⟩:=hin;obtain⟨x,l,y⟩:=e;simp only at i1 i2 i3 i4 i5 i6 e0 e1 e2 htk;obtain⟨ia,rfl⟩:∃ ia:Nat,x=ia:=⟨x.toNat,by omega⟩
  obtain⟨ib,rfl⟩:∃ ib:Nat,y=ib:=⟨y.toNat,by omega⟩
  have hia:ia<k:=by omega
  have hib:ib<k:=by omega
  have hq0:(0:Int)<=(q:Int):=by omega
  have hq1:(q:Int)<(es.length:Int):=by omega
  have hal:=Mid.alloc wr (.cells #[.int .i64 ia,.int .i64 l,.int .i64 ib] 110);have ZE:=Box.new wr #[.int .i64 ia,.int .i64 l,.int .i64 ib] 110;have hgs:w.heap.size+2<wr.heap.size:=(hownP.lt _ rfl).2;have hGr:G<wr.heap.size:=Y3.1;have hbE:Value.ownBlock (.slice A2 n2 c2)≠some wr.heap.size:=fun h=>by have:=(hown.lt _ h).2;omega
  have hbk:Value.ownBlock (.slice A2 n2 c2)≠some G:=fun h=>by have:=(hown.lt _ h).1;omega
  have hownV:=hown.alloc (.cells #[.int .i64 ia,.int .i64 l,.int .i64 ib] 110);replace b0:=b0.mid hal oZr;replace b2:=b2.mid hal oZr;replace Y3:=Y3.mid hal oZr;replace hownP:=aAc hownP hal oZl;replace hm:=hm.trans hal;obtain⟨pa,hpa⟩:∃ pa,aDa ord ia=pa:=⟨_,rfl⟩
  obtain⟨pb,hpb⟩:∃ pb,aDa ord ib=pb:=⟨_,rfl⟩
  have hga:(aAd (aDP k ord))[ia]?=some (.int .i64 pa):=by rw[aAF,aEl ord hia,hpa];rfl
  have hgb:(aAd (aDP k ord))[ib]?=some (.int .i64 pb):=by rw[aAF,aEl ord hib,hpb];rfl
  have hca:=(hownP.cellAt ia (by omega)).trans hga;have hcb:=(hownP.cellAt ib (by omega)).trans hgb;have HTK:=oH htk;have HPA:=oH hpa;have HPB:=oH hpb;have HGA:=oH hga;have HGB:=oH hgb;clear he htk hpa hpb hown hga hgb;by_cases hok:0<=pa/\0<=pb
  .have hpo:aAK ord ⟨(ia:Int),l,(ib:Int)⟩=some ⟨pa,l,pb⟩:=by
    unfold aAK;simp only[HPA.out,HPB.out];rw[if_pos hok]
   have HT:Hid ((es.take (q+1)).filterMap (aAK ord)=(es.take q).filterMap (aAK ord)++[⟨pa,l,pb⟩]):=oH (by rw[HTK.out,hpo];rfl);have d1:decide (0<=pa)=true:=by simpa using hok.1
   have d2:decide (0<=pb)=true:=by simpa using hok.2
   clear hpo hok;go_wp2_with fail;clear e0 e1 e2 hca hcb d1 d2;generalize hwx:wr.alloc (.cells #[.int .i64 ia,.int .i64 l,.int .i64 ib] 110)=wx at ZE b0 b2 Y3 hownV hownP hm |-;generalize hgE:wr.heap.size=E at ZE hgs hGr hbE |-;clear hgE hwx hal;have hmd:=Mid.drew1 wx;replace b0:=b0.mid hmd oZr;replace b2:=b2.mid hmd oZr;replace Y3:=Y3.mid hmd oZr;replace ZE:=ZE.mid hmd oZr;replace hownV:=aAc hownV hmd oZl;replace hownP:=aAc hownP hmd oZl;replace hm:=hm.trans hmd;have hca:=(hownP.cellAt ia (by omega)).trans HGA.out;have hcb:=(hownP.cellAt ib (by omega)).trans HGB.out;obtain⟨f0,f1,f2⟩:=ZE.c3 rfl;have g2:=Y3.cell 2 rfl;clear hmd;refine aAB (S:=(fun w'=>w'.cell? ⟨E,0,none⟩=some (.int .i64 ia)/\w'.cell? ⟨E,1,none⟩=some (.int .i64 l)/\w'.cell? ⟨E,2,none⟩=some (.int .i64 ib)/\w'.cell? ⟨G,2,none⟩=some (.slice A2 n2 c2)/\w'.cell? ⟨w.heap.size+2,ia,none⟩=some (.int .i64 pa)/\w'.cell? ⟨w.heap.size+2,ib,none⟩=some (.int .i64 pb))) 18 (by kernel_rfl) ⟨f0,f1,f2,g2,hca,hcb⟩ ?_;generalize World.drew wx=wz at b0 b2 Y3 ZE hownV hownP hm f0 f1 f2 g2 hca hcb |-;have hS:wz.cell? ⟨E,0,none⟩=some (.int .i64 ia)/\wz.cell? ⟨E,1,none⟩=some (.int .i64 l)/\wz.cell? ⟨E,2,none⟩=some (.int .i64 ib)/\wz.cell? ⟨G,2,none⟩=some (.slice A2 n2 c2)/\wz.cell? ⟨w.heap.size+2,ia,none⟩=some (.int .i64 pa)/\wz.cell? ⟨w.heap.size+2,ib,none⟩=some (.int .i64 pb):=⟨f0,f1,f2,g2,hca,hcb⟩
   refine tkT 0 rfl hS ?_;try simp only[oP]
   refine tkT 1 rfl hS ?_;try simp only[oP]
   refine tkT 2 rfl hS ?_;try simp only[oP]
   refine tkT 3 rfl hS ?_;try simp only[oP]
   refine tkT 4 rfl hS ?_;try simp only[oP]
   refine tkT 5 rfl hS ?_;try simp only[oP]
   refine tkT 6 rfl hS ?_;try simp only[oP]
   refine tkT 7 rfl hS ?_;try simp only[oP]
   refine tkT 8 rfl hS ?_;try simp only[oP]
   refine tkT 9 rfl hS ?_;try simp only[oP]
   refine tkT 10 rfl hS ?_;try simp only[oP]
   refine tkT 11 rfl hS ?_;try simp only[oP]
   refine tkT 12 rfl hS ?_;try simp only[oP]
   refine tkT 13 rfl hS ?_;try simp only[oP]
   refine tkT 14 rfl hS ?_;try simp only[oP]
   have haz:=Mid.alloc wz (.cells #[.int .i64 pa,.int .i64 l,.int .i64 pb] 110);have hGz:G<wz.heap.size:=Y3.1;have hownT:=hownV.alloc (.cells #[.int .i64 pa,.int .i64 l,.int .i64 pb] 110);replace b0:=b0.mid haz oZr;replace b2:=b2.mid haz oZr;replace Y3:=Y3.mid haz oZr;replace ZE:=ZE.mid haz oZr;replace hownP:=aAc hownP haz oZl;replace hm:=hm.trans haz;have hS2:=And.intro (ZE.cell 0 rfl) (And.intro (ZE.cell 1 rfl) (And.intro (ZE.cell 2 rfl) (And.intro (Y3.cell 2 rfl) (And.intro ((hownP.cellAt ia (by omega)).trans HGA.out) ((hownP.cellAt ib (by omega)).trans HGB.out)))));have hrs:Rs (wz.alloc (.cells #[.int .i64 pa,.int .i64 l,.int .i64 pb] 110)) (wz.heap.size+1) (some ⟨wz.heap.size,0,none⟩) [.int .i64 pa,.int .i64 l,.int .i64 pb]:=fun _=>⟨wz.heap.size,0,rfl,oS,fun j u hu=>(World.cell?_alloc_at _ _ _ _ rfl).trans (by simpa using hu)⟩
   have hone:∀ u∈[Value.int .i64 pa,.int .i64 l,.int .i64 pb],u.oneCell'=true:=by
    intro u hu;simp at hu;rcases hu with rfl|rfl|rfl <;> rfl
   have hmxl:n2+1<=maxLen:=by unfold maxLen;omega
   have hbyt:(n2+1) * 24<=140737488355328:=by omega
   have hbas:G+1<=(wz.alloc (.cells #[.int .i64 pa,.int .i64 l,.int .i64 pb] 110)).heap.size:=by have h1:=Y3.1;omega
   have HO:=oH hone;have HB0:=oH (fun(g:Nat) (h:Value.ownBlock (.slice A2 n2 c2)=some g)=>(hownT.lt g h).1);have HBk:=oH hbk;have HBe:=oH hbE;clear hone hbk hbE hownV f0 f1 f2 g2 hca hcb hS haz;refine rdT 15 rfl (fun K hK=>?_);go_simp;refine hK.out _ _ (Or.inr hS2) (fun _=>?_);clear hK K;try simp only[oP]
   generalize hwt:wz.alloc (.cells #[.int .i64 pa,.int .i64 l,.int .i64 pb] 110)=wt at b0 b2 Y3 ZE hownT hownP hm hS2 hrs hbas |-;have hszt:wt.heap.size=wz.heap.size+1:=by rw[<- hwt];simp
   have HZT:=oH hszt;have HP:=oH hownP;clear hwt hszt hownP;refine rdT 16 rfl (fun K hK=>?_)
   (refine aBh (by rfl) (.tmp 63) (.tmp 77) 33 (by rfl) (G+1) 110 (.agg #[.int .i64 0,.int .i64 0,.int .i64 0]) 3 24 aJo aJu rfl (by decide) (.slice A2 n2 c2) n2 _ (by rfl) hownT (some ⟨wz.heap.size,0,none⟩) 1 1 _ [.int .i64 pa,.int .i64 l,.int .i64 pb] (by rfl) hrs rfl HO.out hmxl hbyt hbas ?_;intro v9 w9 ho9 hgr9 hat9;obtain⟨A9,c9,rfl, -, -⟩:=aAg ho9;have hP9:=HP.out.kept hgr9 (aBP HP.out hownT (by decide)))
   refine hK.out _ _ (Or.inr ⟨(ZE.grown hgr9 HBe.out).cell 0 rfl,(ZE.grown hgr9 HBe.out).cell 1 rfl,(ZE.grown hgr9 HBe.out).cell 2 rfl,(Y3.grown hgr9 HBk.out).cell 2 rfl,(hP9.cellAt ia (by omega)).trans HGA.out,(hP9.cellAt ib (by omega)).trans HGB.out⟩) (fun _=>?_);clear hK K;try simp only[oP]
   replace Y3:=Y3.grown hgr9 HBk.out;replace ZE:=ZE.grown hgr9 HBe.out;replace b0:=b0.grown hgr9 (fun h=>by have:=HB0.out _ h;omega);replace b2:=b2.grown hgr9 (fun h=>by have:=HB0.out _ h;omega);replace hm:Mid 0 0 w w9:=hm.transNew (Mid.of_grownRow hownT hgr9) (Or.inl (by omega));have hS3:=And.intro (ZE.cell 0 rfl) (And.intro (ZE.cell 1 rfl) (And.intro (ZE.cell 2 rfl) (And.intro (Y3.cell 2 rfl) (And.intro ((hP9.cellAt ia (by omega)).trans HGA.out) ((hP9.cellAt ib (by omega)).trans HGB.out)))));have hne:Value.ownBlock (.slice A9 (n2+1) c9)≠some G:=by
    rcases hat9 with h|h
    .rw[h];exact HBk.out
    rw[h];intro he;injection he with he
    have:=HZT.out;omega
   have HNE:=oH hne;have hr2:=Y3.cell 2 rfl;have hrf:=Y3.2.2;clear hne hat9 hS2 hrs hownT;refine tkT 17 rfl hS3 ?_;try simp only[oP]
   refine rdT 18 rfl (fun K hK=>?_)
   (go_simp)
   refine hK.out _ _ (Or.inl rfl) (fun _=>?_);clear hK K;try simp only[oP]
   refine aAE (by kernel_rfl) ?_ _;go_wp2_with fail;go_roundw
   case rel=>
    have hst:=Mid.setAt w9 G 2 (.slice A9 (n2+1) c9);refine⟨q+1,A9,n2+1,c9,by omega,by go_num,oH (by rw[HT.out,List.length_append,HN.out];rfl),?_,hP9.kept (aCZ w9 G 2 (.slice A9 (n2+1) c9)) (.inr ?_),b0.mid hst (Or.inl (by omega)),b2.mid hst (Or.inl (by omega)),Y3.set 2 _ (by simp) rfl,hm.storeNew (by show w.heap.size<=G;omega) _⟩
    .have h1:=aCm ho9 (k:=G) (aAQ (World.grownBy.refl _ (some G)) 2 (.slice A9 (n2+1) c9)) HNE.out
     rw[HT.out,aBT,aAj,aEY];exact h1
    intro h;injection h with h
    simp at h;omega
   simp[intOf];omega
  have hpo:aAK ord ⟨(ia:Int),l,(ib:Int)⟩=none:=by
   unfold aAK;simp only[HPA.out,HPB.out];rw[if_neg hok]
  have HT:Hid ((es.take (q+1)).filterMap (aAK ord)=(es.take q).filterMap (aAK ord)):=oH (by rw[HTK.out,hpo];simp);by_cases h1:0<=pa
  focus
   have d1:decide (0<=pa)=true:=by simpa using h1
   have d2:decide (0<=pb)=false:=by simp;omega
  rotate_left
  focus
   have d1:decide (0<=pa)=false:=by simp;omega
  rotate_left
  all_goals
   clear hpo hok h1;go_wp2_with fail;go_roundw
   case rel=>exact⟨q+1,A2,n2,c2,by omega,by go_num,by rw[HT.out];exact HN,by rw[HT.out];exact hownV,hownP,b0,b2,Y3,hm⟩
   simp[intOf];omega
 obtain rfl:q=es.length:=by omega
 rw[List.take_length] at hown HN;have hGr:G<wr.heap.size:=Y3.1;have hrg:RG wr (G+1) wr.heap.size A2 (es.filterMap (aAK ord)):=OV.rv (e:=110) (size:=3) (c:=c2) (n:=n2) ⟨oN,hown,fun g hg=>(hown.lt g hg).2⟩;have z2:=Y3.cell 2 rfl;go_wp2_with fail;with_reducible refine(aCk A2 (es.filterMap (aAK ord)) n2 c2 _ _ _ HN.out hrg (by omega)).mono ?_
 rintro en w6 ⟨A4,c4,rfl,ho6,hm6⟩;replace b2:=b2.mid hm6 oZr;replace Y3:=Y3.mid hm6 oZr;replace hm:=hm.trans hm6;have hsz6:=hm6.size;clear z2;obtain⟨a0,a1,a2⟩:=b2.c3 rfl;obtain⟨x0,x1,x2⟩:=Y3.c3 rfl;have af:=b2.2.2;have bf:=Y3.2.2;go_wp2_with fail;have hcl:(w.heap.size+1 == G)=false:=by simp;omega
 refine bodyPost_ret (v:=.agg #[.int .i64 r,.int .i64 ord.length,.slice A4 (canon (es.filterMap (aAK ord))).length c4]) (by simp[results,Tryz.results235,go_sem,a0,a1,a2,x0,x1,x2,af,bf]) rfl ⟨A4,c4,rfl,?_,?_⟩
 .refine OG.wide (OG.mid ho6 (a:=w.heap.size) (b:=G+1) ?_ (Or.inl hGr)) (by omega) (by simp) oN
  repeat (first|exact Mid.refl _ _ _|refine Mid.stored ?_ _ (by simp;try omega) (by simp;try omega))
 repeat (first|exact hm|refine Mid.storeNew ?_ (by simp;try omega) _)
theorem aCz(r:Int)(n:Nat)(A:Option Addr)(es:List Ed)(c:Nat)(Ao:Option Addr)(ord:List Int)(co:Nat)(w:World)(lo hi lo' hi':Nat)(hr:RG w lo hi A es)(hro:RV w lo' hi' Ao (aAd ord))(hg:IsGr r n es)(hnd:ord.Nodup)(hin:∀ x∈ord,0<=x/\x<(n:Int))(hne:0<ord.length) :
  Calls Tryz.prog 231 #[aAw r n A es.length c,.slice Ao ord.length co] w fun e w'=>∃ A1 c1,e=.returned (.tuple #[aAw r ord.length A1 (aBn ord es).length c1,.bool true])/\OG w' w.heap.size w'.heap.size A1 c1 (aBn ord es)/\Mid 0 0 w w':=by
 have hn40:n<=40:=by have:=hg.size;omega
 have hl:=hg.len;have hol:ord.length<=n:=aGO n ord hnd hin;have hmx:n<=maxLen:=by unfold maxLen;omega
 have HG:=oH hg;have HND:=oH hnd;have HIN:=oH hin;have hm0:Mid 0 0 w (((w.alloc (.cells #[.int .i64 r,.int .i64 n,.slice A es.length c] 35)).alloc (.cells #[.int .i64 0,.int .i64 0,.slice none 0 0] 35)).alloc (.cells #[.int .i64 r,.int .i64 ord.length,.slice none 0 0] 35)):=((Mid.alloc _ _).trans (Mid.alloc _ _)).trans (Mid.alloc _ _);have b0:=((Box.new w #[.int .i64 r,.int .i64 n,.slice A es.length c] 35).mid (Mid.alloc _ (.cells #[.int .i64 0,.int .i64 0,.slice none 0 0] 35)) oZr).mid (Mid.alloc _ (.cells #[.int .i64 r,.int .i64 ord.length,.slice none 0 0] 35)) oZr;have b2:=(Box.new (w.alloc (.cells #[.int .i64 r,.int .i64 n,.slice A es.length c] 35)) #[.int .i64 0,.int .i64 0,.slice none 0 0] 35).mid (Mid.alloc _ (.cells #[.int .i64 r,.int .i64 ord.length,.slice none 0 0] 35)) oZr;have Y3:=Box.new ((w.alloc (.cells #[.int .i64 r,.int .i64 n,.slice A es.length c] 35)).alloc (.cells #[.int .i64 0,.int .i64 0,.slice none 0 0] 35)) #[.int .i64 r,.int .i64 ord.length,.slice none 0 0] 35;simp only[World.size_alloc,Nat.add_assoc,Nat.reduceAdd] at b2 Y3;have e1:((ord.length:Int) == 0)=false:=by simp only[beq_eq_false_iff_ne];omega
 have e2:decide ((n:Int)<(ord.length:Int))=false:=by simp;omega
 clear hg hnd hin;go_enter Tryz.func231,Tryz.ntmps231
 go_wp2_with fail;generalize hw1:(((w.alloc (.cells #[.int .i64 r,.int .i64 n,.slice A es.length c] 35)).alloc (.cells #[.int .i64 0,.int .i64 0,.slice none 0 0] 35)).alloc (.cells #[.int .i64 r,.int .i64 ord.length,.slice none 0 0] 35))=w1 at hm0 b0 b2 Y3 |-;clear hw1;with_reducible refine(aAM r n A es c _ _ _ (hr.mid hm0 oZl).rv (by omega) true (iff_of_true rfl HG.out)).mono ?_
 rintro en w2 ⟨rfl,hm2⟩;replace b0:=b0.mid hm2 oZr;replace b2:=b2.mid hm2 oZr;replace Y3:=Y3.mid hm2 oZr;replace hm0:=hm0.trans hm2;obtain⟨p0,p1,p2⟩:=b0.c3 rfl;clear hm2;go_wp2_with (at_make;refine aCB rfl _ _ 44 rfl 3 (.int .i64 0) 8 aBZ aCg rfl .i64 .i64 _ _ n rfl rfl rfl rfl (by omega) hmx ?_;intro w3 hown3 hgr3 hsz3)
 have hm3:=Mid.of_grown (lo:=0) (hi:=0) hgr3 (by intro g h;cases h);have hP3:w.heap.size+3<=w2.heap.size:=Y3.1;replace b0:=b0.mid hm3 oZr;replace b2:=b2.mid hm3 oZr;replace Y3:=Y3.mid hm3 oZr;replace hm0:=hm0.trans hm3;obtain⟨P,hP⟩:∃ P,w2.heap.size=P:=⟨_,rfl⟩
 rw[hP] at hown3 hsz3 hP3 |-;clear hgr3 hm3 p0 p1 p2 hP;go_loopw [8] (fun i wr=>∃ j:Nat,j<=ord.length/\i=.int .i64 j/\wr.ownsRow P 3 1 (.slice (some ⟨P,0,none⟩) n n) n (aAd (aEm n (ord.take j))) /\
   Box wr w.heap.size [.int .i64 r,.int .i64 n,.slice A es.length c]/\Box wr (w.heap.size+1) [.int .i64 0,.int .i64 0,.slice none 0 0]/\Box wr (w.heap.size+2) [.int .i64 r,.int .i64 ord.length,.slice none 0 0]/\Mid 0 0 w wr) (fun i _=>ord.length - (intOf i).toNat)
 case atStart=>exact⟨0,oZ,rfl,by rw[List.take_zero,aPr];simpa [aAd] using hown3,b0,b2,Y3,hm0⟩
 clear hown3 b0 b2 Y3 hm0 hsz3;obtain⟨wi,hwi⟩:∃ wi,wi=wr:=⟨_,rfl⟩
 subst hwi;obtain⟨j,hj,rfl,hown,b0,b2,Y3,hm⟩:=hrel;by_cases hlt2:j<ord.length
 .obtain⟨B,off,x,rfl,hbh,hx,hcx⟩:=(hro.mid hm oZl).at hlt2
  have hxr:=HIN.out x (List.mem_of_getElem? hx);obtain⟨m,rfl⟩:∃ m:Nat,x=m:=⟨x.toNat,by omega⟩
  have hmk:m<n:=by omega
  have hxn:=aNi HND.out hx;have hcs:wi.cell? ⟨P,m,none⟩=some (.int .i64 0):=(hown.cellAt m (by omega)).trans (by rw[aAF,aHz _ hmk,aNX hxn];rfl);have hfz:=hown.frozenAt m;have HX:=oH hx;have hPs:P<wi.heap.size:=(hown.lt _ rfl).2;have hBs:B<wi.heap.size:=by have:=hro.1;have:=hm.size;omega
  have hib:inB (m:Int) 0 ((n:Int) - 1)=true:=by unfold inB;simp;omega
  have hwr:IntKind.i64.wrap ((n:Int) - 1)=(n:Int) - 1:=IntWalk.i64_in _ (by omega);have u0:=aAb b0.1 (b0.cell 0 rfl);have u1:=aAb b0.1 (b0.cell 1 rfl);have u2:=aAb b0.1 (b0.cell 2 rfl);have u3:=aAb hBs hcx;have u4:=aAb hPs hcs;have hm1:(m:Int)<(n:Int):=by omega
  have hm0:(0:Int)<=(m:Int):=by omega
  have hj1:(j:Int)<(ord.length:Int):=by omega
  have hj0:(0:Int)<=(j:Int):=by omega
  clear hx hxn;go_wp2_with fail;refine wqg ?_;repeat
   (with_reducible refine wpQuiet_step (fun K hK=>?_))
   go_simp
   first|(with_reducible refine hK _ ?_)|(rw[if_neg (by decide)];(with_reducible refine hK _ ?_))|(apply Exists.intro;refine⟨fun _=>?_,hK _ ?_⟩;((go_at_call 102;exact Calls.wg_same (aBJ hib _))))
   clear hK K
  with_reducible refine wpQuiet_nil ?_
  rintro _ ⟨⟨nq,osq⟩,rfl⟩;have hwg:=Mid.ofWg wi nq osq;have hown2:=aAc hown hwg oZl;have v4:=u4 nq osq;have v3:=u3 nq osq;have hfz2:=hown2.frozenAt m;have hsv:(aAd (aEm n (ord.take j))).set m (.int .i64 ((j:Int)+1))=aAd (aEm n (ord.take (j+1))):=by rw[<- aPs HND.out HX.out hmk];simp[aAd]
  have hset2:=aBA hown2 m (.int .i64 ((j:Int)+1)) hsv;have hst:=Mid.setAt (wg wi nq osq) P m (.int .i64 ((j:Int)+1));have hms:=(hm.trans hwg).storeNew (p:=⟨P,m,none⟩) (by show w.heap.size<=P;omega) (.int .i64 ((j:Int)+1));replace b0:=b0.mid hwg oZr;replace b2:=b2.mid hwg oZr;replace Y3:=Y3.mid hwg oZr;replace b0:=b0.mid hst (Or.inl (by omega));replace b2:=b2.mid hst (Or.inl (by omega));replace Y3:=Y3.mid hst (Or.inl (by omega));clear hown hown2 hm u0 u1 u2 u3 u4 hwg hst hsv;go_wp2_with fail;go_roundw
  case rel=>exact⟨j+1,by omega,by go_num,hset2,b0,b2,Y3,hms⟩
  simp[intOf];omega
 obtain rfl:j=ord.length:=by omega
 rw[List.take_length] at hown;obtain⟨p0,p1,p2⟩:=b0.c3 rfl;go_wp2_with fail;clear p0 p1 p2;go_loopw [9] (fun i wr=>∃(q:Nat) (A2:Option Addr) (c2 lo2 hi2:Nat) (xs:List Ed),q<=es.length/\i=.int .i64 q/\Hid (xs=aCx [] ((es.take q).filterMap (aAK ord))) /\
   OG wr lo2 hi2 A2 c2 xs/\P<=lo2/\wr.ownsRow P 3 1 (.slice (some ⟨P,0,none⟩) n n) n (aAd (aEm n ord)) /\
   Box wr w.heap.size [.int .i64 r,.int .i64 n,.slice A es.length c]/\Box wr (w.heap.size+1) [.int .i64 0,.int .i64 0,.slice none 0 0]/\Box wr (w.heap.size+2) [.int .i64 r,.int .i64 ord.length,.slice A2 xs.length c2]/\Mid 0 0 w wr) (fun i _=>es.length - (intOf i).toNat)
 case atStart=>exact⟨0,none,0,P,_,[],oZ,rfl,oH rfl,⟨Nat.le_of_lt (show P<wi.heap.size from(hown.lt _ rfl).2),⟨rfl,.inl ⟨rfl,rfl⟩⟩,fun g hg=>by simp[Value.ownBlock] at hg⟩,oN,hown,b0,b2,Y3,hm⟩
 clear hown b0 b2 Y3 hm;obtain⟨q,A2,c2,lo2,hi2,xs,hq,rfl,HX,hown,hlo2,hownP,b0,b2,Y3,hm⟩:=hrel;have hxl:xs.length<=120:=by
  have h1:=aEn [] ((es.take q).filterMap (aAK ord));have h2:=List.length_filterMap_le (aAK ord) (es.take q);rw[<- HX.out] at h1;simp at h1 h2;omega
 by_cases hlt3:q<es.length
 .obtain⟨B,off,e,rfl, -,hbh,he,e0,e1,e2⟩:=(hr.mid hm oZl).ed hlt3
  have hin:=HG.out.all e (List.mem_of_getElem? he);have htk:(es.take (q+1)).filterMap (aAK ord)=(es.take q).filterMap (aAK ord)++(aAK ord e).toList:=by
   rw[aAV he,List.filterMap_append];cases hd:aAK ord e <;> simp[hd]
  obtain⟨i1,i2,i3,i4,i5,i6⟩:=hin;obtain⟨x,l,y⟩:=e;simp only at i1 i2 i3 i4 i5 i6 e0 e1 e2 htk;obtain⟨ia,rfl⟩:∃ ia:Nat,x=ia:=⟨x.toNat,by omega⟩
  obtain⟨ib,rfl⟩:∃ ib:Nat,y=ib:=⟨y.toNat,by omega⟩
  have hia:ia<n:=by omega
  have hib:ib<n:=by omega
  have hq0:(0:Int)<=(q:Int):=by omega
  have hq1:(q:Int)<(es.length:Int):=by omega
  have hal:=Mid.alloc wr (.cells #[.int .i64 ia,.int .i64 l,.int .i64 ib] 110);have ZE:=Box.new wr #[.int .i64 ia,.int .i64 l,.int .i64 ib] 110;have hgs:P<wr.heap.size:=(hownP.lt _ rfl).2;obtain⟨p0,p1,p2⟩:=b0.c3 rfl;replace b0:=b0.mid hal oZr;replace b2:=b2.mid hal oZr;replace Y3:=Y3.mid hal oZr;replace hownP:=aAc hownP hal oZl;replace hown:=hown.mid hal oZl;replace hm:=hm.trans hal;obtain⟨pa,hpa⟩:∃ pa,aDa ord ia+1=pa:=⟨_,rfl⟩
  obtain⟨pb,hpb⟩:∃ pb,aDa ord ib+1=pb:=⟨_,rfl⟩
  have hpa0:pa<=41:=by
   by_cases h:0<=aDa ord ia
   .have:=aKB h;omega
   omega
  have hpb0:pb<=41:=by
   by_cases h:0<=aDa ord ib
   .have:=aKB h;omega
   omega
  have hga:(aAd (aEm n ord))[ia]?=some (.int .i64 pa):=by rw[aAF,aHz ord hia,hpa];rfl
  have hgb:(aAd (aEm n ord))[ib]?=some (.int .i64 pb):=by rw[aAF,aHz ord hib,hpb];rfl
  have hca:=(hownP.cellAt ia (by omega)).trans hga;have hcb:=(hownP.cellAt ib (by omega)).trans hgb;have HTK:=oH htk;have HPA:=oH hpa;have HPB:=oH hpb;have HGA:=oH hga;have HGB:=oH hgb;clear he htk hpa hpb hga hgb;by_cases hok:0<pa/\0<pb
  .have hpo:aAK ord ⟨(ia:Int),l,(ib:Int)⟩=some ⟨pa - 1,l,pb - 1⟩:=by
    have h1:=HPA.out;have h2:=HPB.out;unfold aAK;simp only;rw[if_pos ⟨by omega,by omega⟩,<- h1,<- h2,Int.add_sub_cancel,Int.add_sub_cancel]
   have HT:Hid ((es.take (q+1)).filterMap (aAK ord)=(es.take q).filterMap (aAK ord)++[⟨pa - 1,l,pb - 1⟩]):=oH (by rw[HTK.out,hpo];rfl);have d1:decide (0<pa)=true:=by simpa using hok.1
   have d2:decide (0<pb)=true:=by simpa using hok.2
   have hpa1:=hok.1;have hpb1:=hok.2;clear hpo hok;go_wp2_with fail;clear e0 e1 e2 hca hcb d1 d2 p0 p1 p2;generalize hwx:wr.alloc (.cells #[.int .i64 ia,.int .i64 l,.int .i64 ib] 110)=wx at ZE b0 b2 Y3 hown hownP hm |-;generalize hgE:wr.heap.size=E at ZE hgs |-;clear hgE hwx hal;have hmd:=Mid.drew1 wx;replace b0:=b0.mid hmd oZr;replace b2:=b2.mid hmd oZr;replace Y3:=Y3.mid hmd oZr;replace ZE:=ZE.mid hmd oZr;replace hownP:=aAc hownP hmd oZl;replace hown:=hown.mid hmd oZl;replace hm:=hm.trans hmd;have hca:=(hownP.cellAt ia (by omega)).trans HGA.out;have hcb:=(hownP.cellAt ib (by omega)).trans HGB.out;obtain⟨f0,f1,f2⟩:=ZE.c3 rfl;have g2:=Y3.cell 2 rfl;have hw1:IntKind.i64.wrap (pa - 1)=pa - 1:=IntWalk.i64_in _ (by omega);have hw2:IntKind.i64.wrap (pb - 1)=pb - 1:=IntWalk.i64_in _ (by omega);clear hmd;refine aAB (S:=(fun w'=>w'.cell? ⟨E,0,none⟩=some (.int .i64 ia)/\w'.cell? ⟨E,1,none⟩=some (.int .i64 l)/\w'.cell? ⟨E,2,none⟩=some (.int .i64 ib)/\w'.cell? ⟨w.heap.size+2,2,none⟩=some (.slice A2 xs.length c2)/\w'.cell? ⟨P,ia,none⟩=some (.int .i64 pa)/\w'.cell? ⟨P,ib,none⟩=some (.int .i64 pb))) 19 (by kernel_rfl) ⟨f0,f1,f2,g2,hca,hcb⟩ ?_;generalize World.drew wx=wz at b0 b2 Y3 ZE hown hownP hm f0 f1 f2 g2 hca hcb |-;have hS:wz.cell? ⟨E,0,none⟩=some (.int .i64 ia)/\wz.cell? ⟨E,1,none⟩=some (.int .i64 l)/\wz.cell? ⟨E,2,none⟩=some (.int .i64 ib)/\wz.cell? ⟨w.heap.size+2,2,none⟩=some (.slice A2 xs.length c2)/\wz.cell? ⟨P,ia,none⟩=some (.int .i64 pa)/\wz.cell? ⟨P,ib,none⟩=some (.int .i64 pb):=⟨f0,f1,f2,g2,hca,hcb⟩
   refine tkT 0 rfl hS ?_;try simp only[oP]
   refine tkT 1 rfl hS ?_;try simp only[oP]
   refine tkT 2 rfl hS ?_;try simp only[oP]
   refine tkT 3 rfl hS ?_;try simp only[oP]
   refine tkT 4 rfl hS ?_;try simp only[oP]
   refine tkT 5 rfl hS ?_;try simp only[oP]
   refine tkT 6 rfl hS ?_;try simp only[oP]
   refine tkT 7 rfl hS ?_;try simp only[oP]
   refine tkT 8 rfl hS ?_;try simp only[oP]
   refine tkT 9 rfl hS ?_;try simp only[oP]
   refine tkT 10 rfl hS ?_;try simp only[oP]
   refine tkT 11 rfl hS ?_;try simp only[oP]
   refine tkT 12 rfl hS ?_;try simp only[oP]
   refine tkT 13 rfl hS ?_;try simp only[oP]
   refine tkT 14 rfl hS ?_;try simp only[oP]
   refine tkT 15 rfl hS ?_;try simp only[oP]
   refine tkT 16 rfl hS ?_;try simp only[oP]
   have hQ:=aBW A2 xs c2 ⟨pa - 1,l,pb - 1⟩ wz _ _ hown.rg (by omega);refine rdT 17 rfl (fun K hK=>?_)
   (go_simp;refine hQ.mono ?_;rintro en w9 ⟨A9,c9,rfl,ho9,hm9⟩;have b0':=b0.mid hm9 oZr;have b2':=b2.mid hm9 oZr;have Y3':=Y3.mid hm9 oZr;have ZE':=ZE.mid hm9 oZr;have hP9:=aAc hownP hm9 oZl;go_wp2_with fail)
   refine hK.out _ _ (Or.inr ⟨ZE'.cell 0 rfl,ZE'.cell 1 rfl,ZE'.cell 2 rfl,Y3'.cell 2 rfl,(hP9.cellAt ia (by omega)).trans HGA.out,(hP9.cellAt ib (by omega)).trans HGB.out⟩) (fun _=>?_);clear hK K;try simp only[oP]
   have hmr9:=hm.trans hm9;have hPz:P<=wz.heap.size:=Nat.le_of_lt (show P<wz.heap.size from(hownP.lt _ rfl).2);have hS3:=And.intro (ZE'.cell 0 rfl) (And.intro (ZE'.cell 1 rfl) (And.intro (ZE'.cell 2 rfl) (And.intro (Y3'.cell 2 rfl) (And.intro ((hP9.cellAt ia (by omega)).trans HGA.out) ((hP9.cellAt ib (by omega)).trans HGB.out)))));have hr2:=Y3'.cell 2 rfl;have hrf:=Y3'.2.2;clear hS b0 b2 Y3 ZE hm hown hownP f0 f1 f2 g2 hca hcb hQ;refine tkT 18 rfl hS3 ?_;try simp only[oP]
   refine rdT 19 rfl (fun K hK=>?_)
   (go_simp)
   refine hK.out _ _ (Or.inl rfl) (fun _=>?_);clear hK K;try simp only[oP]
   refine aAE (by kernel_rfl) ?_ _;go_wp2_with fail;go_roundw
   case rel=>
    have hst:=Mid.setAt w9 (w.heap.size+2) 2 (.slice A9 (aCy ⟨pa - 1,l,pb - 1⟩ xs).length c9);refine⟨q+1,A9,c9,_,_,_,by omega,by go_num,oH ?_,ho9.mid hst (Or.inl (by omega)),hPz,aAc hP9 hst (Or.inl (by omega)),b0'.mid hst (Or.inl (by omega)),b2'.mid hst (Or.inl (by omega)),Y3'.set 2 _ (by simp) rfl,hmr9.storeNew (by show w.heap.size<=w.heap.size+2;omega) _⟩;rw[HT.out,aCG,<- HX.out]
   simp[intOf];omega
  have hpo:aAK ord ⟨(ia:Int),l,(ib:Int)⟩=none:=by
   have h1:=HPA.out;have h2:=HPB.out;unfold aAK;simp only;rw[if_neg (fun h=>hok ⟨by omega,by omega⟩)]
  have HT:Hid ((es.take (q+1)).filterMap (aAK ord)=(es.take q).filterMap (aAK ord)):=oH (by rw[HTK.out,hpo];simp);by_cases h1:0<pa
  focus
   have d1:decide (0<pa)=true:=by simpa using h1
   have d2:decide (0<pb)=false:=by simp;omega
  rotate_left
  focus
   have d1:decide (0<pa)=false:=by simp;omega
  rotate_left
  all_goals
   clear hpo hok h1;go_wp2_with fail;go_roundw
   case rel=>exact⟨q+1,A2,c2,lo2,hi2,xs,by omega,by go_num,by rw[HT.out];exact HX,hown,hlo2,hownP,b0,b2,Y3,hm⟩
   simp[intOf];omega
 obtain rfl:q=es.length:=by omega
 have hxx:=HX.out;rw[List.take_length] at hxx;have HXX:=oH (show xs=aBn ord es from hxx);clear hxx;obtain⟨p0,p1,p2⟩:=b0.c3 rfl;obtain⟨a0,a1,a2⟩:=b2.c3 rfl;obtain⟨x0,x1,x2⟩:=Y3.c3 rfl;have af:=b2.2.2;have bf:=Y3.2.2;go_wp2_with fail;refine bodyPost_ret (v:=.tuple #[.agg #[.int .i64 r,.int .i64 ord.length,.slice A2 xs.length c2],.bool true]) (by simp[results,Tryz.results231,go_sem,a0,a1,a2,x0,x1,x2,af,bf]) rfl ⟨A2,c2,by rw[HXX.out],?_,?_⟩
 .rw[<- HXX.out]
  refine OG.wide (OG.mid hown (a:=w.heap.size) (b:=w.heap.size+3) ?_ (Or.inl (by omega))) (by omega) (by have:=hown.size;simpa using this) oN;repeat (first|exact Mid.refl _ _ _|refine Mid.stored ?_ _ (by simp;try omega) (by simp;try omega))
 repeat (first|exact hm|refine Mid.storeNew ?_ (by simp;try omega) _)
theorem aHU(r s:Int)(A:Option Addr)(es:List Ed)(c:Nat)(r' s':Int)(A':Option Addr)(es':List Ed)(c':Nat)(w:World)(lo hi lo' hi':Nat)(hr:RG w lo hi A es)(hr':RG w lo' hi' A' es')(hl:es.length<=1048576)(hl':es'.length<=1048576)(b:Bool)(hb:b=true↔r=r'/\s=s'/\es=es') :
  Calls Tryz.prog 186 #[aAw r s A es.length c,aAw r' s' A' es'.length c'] w fun e w'=>e=.returned (.bool b)/\Mid 0 0 w w':=by
 have HB:=oH hb;clear hb;have hm0:Mid 0 0 w ((w.alloc (.cells #[.int .i64 r,.int .i64 s,.slice A es.length c] 35)).alloc (.cells #[.int .i64 r',.int .i64 s',.slice A' es'.length c'] 35)):=(Mid.alloc _ _).trans (Mid.alloc _ _);by_cases h1:r=r'
 .by_cases h2:s=s'
  .subst h1 h2
   have hbd:decide (es=es')=b:=by rw[Bool.eq_iff_iff,HB.out];simp
   have HBD:=oH hbd;clear hbd;clear HB;go_enter Tryz.func186,Tryz.ntmps186
   go_wp2_with fail;with_reducible refine(aUn A A' es es' c c' _ _ _ _ _ (hr.mid hm0 oZl) (hr'.mid hm0 oZl) hl hl').mono ?_
   rintro en w1 ⟨rfl,hm1⟩;have hmm:=hm0.trans hm1;rw[HBD.out];clear HBD;cases b
   .go_wp2_with fail
    go_ret;exact⟨rfl,hmm⟩
   go_wp2_with fail;go_ret;exact⟨rfl,hmm⟩
  have b2:(s == s')=false:=by simpa only[beq_eq_false_iff_ne] using h2
  obtain rfl:b=false:=aBq HB.out fun h=>h2 h.2.1;subst h1;clear HB h2;go_enter Tryz.func186,Tryz.ntmps186
  go_wp2_with fail;go_ret;exact⟨rfl,hm0⟩
 have b2:(r == r')=false:=by simpa only[beq_eq_false_iff_ne] using h1
 obtain rfl:b=false:=aBq HB.out fun h=>h1 h.1;clear HB h1;go_enter Tryz.func186,Tryz.ntmps186
 go_wp2_with fail;go_ret;exact⟨rfl,hm0⟩
theorem aBi(r s:Int)(A:Option Addr)(es:List Ed)(c:Nat)(r' s':Int)(A':Option Addr)(es':List Ed)(c':Nat)(w:World)(lo hi lo' hi':Nat)(hr:RG w lo hi A es)(hr':RG w lo' hi' A' es')(hl:es.length<=1048576)(hl':es'.length<=1048576)(b:Bool)(hb:b=true↔r=r'/\s=s'/\es=es') :
  Calls Tryz.prog 18 #[aAw r s A es.length c,aAw r' s' A' es'.length c'] w fun e w'=>e=.returned (.bool b)/\Mid 0 0 w w':=by
 have HB:=oH hb;clear hb;have hm0:Mid 0 0 w ((w.alloc (.cells #[.int .i64 r,.int .i64 s,.slice A es.length c] 35)).alloc (.cells #[.int .i64 r',.int .i64 s',.slice A' es'.length c'] 35)):=(Mid.alloc _ _).trans (Mid.alloc _ _);by_cases h1:r=r'
 .by_cases h2:s=s'
  .by_cases h3:es.length=es'.length
   .subst h1 h2
    have HL:=oH h3;have b0:(r != r)=false:=by simp
    have b1:(s != s)=false:=by simp
    have b2:((es.length:Int) != (es'.length:Int))=false:=by simp;omega
    have B0:=(Box.new w #[.int .i64 r,.int .i64 s,.slice A es.length c] 35).mid (Mid.alloc _ (.cells #[.int .i64 r,.int .i64 s,.slice A' es'.length c'] 35)) oZr;have B1:=Box.new (w.alloc (.cells #[.int .i64 r,.int .i64 s,.slice A es.length c] 35)) #[.int .i64 r,.int .i64 s,.slice A' es'.length c'] 35;rw[World.size_alloc] at B1;have hle1:es.length<=es'.length:=by omega
    have hle2:es'.length<=es.length:=by omega
    clear h3;go_enter Tryz.func18,Tryz.ntmps18
    go_wp2_with fail;go_loopw [5] (fun i wr=>∃(k:Nat),k<=es.length/\i=.int .i64 k/\Hid (∀ j,j<k->es[j]?=es'[j]?)/\Box wr w.heap.size [.int .i64 r,.int .i64 s,.slice A es.length c]/\Box wr (w.heap.size+1) [.int .i64 r,.int .i64 s,.slice A' es'.length c']/\Mid 0 0 w wr) (fun i _=>es.length - (intOf i).toNat)
    case atStart=>exact⟨0,oZ,rfl,oH (fun j h=>absurd h (Nat.not_lt_zero _)),B0,B1,hm0⟩
    clear B0 B1 hm0;obtain⟨k,hk,rfl,HE,bx,by1,hm⟩:=hrel;obtain⟨p0,p1,p2⟩:=bx.c3 rfl;obtain⟨q0,q1,q2⟩:=by1.c3 rfl;by_cases hlt:k<es.length
    .obtain⟨B,off,e,rfl, -,hbh,he,e0,e1,e2⟩:=(hr.mid hm oZl).ed hlt
     obtain⟨B',off',f,rfl, -,hbh',hf,f0,f1,f2⟩:=(hr'.mid hm oZl).ed (k:=k) (by omega);have hs1:B<wr.heap.size:=Nat.lt_of_lt_of_le hbh (Nat.le_trans hr.1 hm.size);have hs2:B'<wr.heap.size:=Nat.lt_of_lt_of_le hbh' (Nat.le_trans hr'.1 hm.size);have x0:=aAb hs1 e0;have x1:=aAb hs1 e1;have x2:=aAb hs1 e2;have y0:=aAb hs2 f0;have y1:=aAb hs2 f1;have y2:=aAb hs2 f2;have u2:=aAb bx.1 p2;have v2:=aAb by1.1 q2;have hk0:(0:Int)<=(k:Int):=by omega
     have hkn:(k:Int)<(es.length:Int):=by omega
     have hkm:(k:Int)<(es'.length:Int):=by omega
     have hgd:=aMS e f;have HE1:=oH he;have HF1:=oH hf;clear he hf;by_cases hef:e=f
     .have hq:=aGN e f (show decide (e≠f)=false by simp[hef])
      have HEF:=oH hef;clear hef;go_wp2_with fail;refine wqg ?_;repeat
       (with_reducible refine wpQuiet_step (fun K hK=>?_))
       go_simp
       first|(with_reducible refine hK _ ?_)|(rw[if_neg (by decide)];(with_reducible refine hK _ ?_))|(apply Exists.intro;refine⟨fun _=>?_,hK _ ?_⟩;(fail))
       clear hK K
      with_reducible refine wpQuiet_nil ?_
      rintro _ ⟨⟨nq,osq⟩,rfl⟩;go_wp2_with fail;go_roundw
      case rel=>
       have hwg:=Mid.ofWg wr nq osq;refine⟨k+1,by omega,by go_num,oH fun j hj=>?_,bx.mid hwg oZr,by1.mid hwg oZr,hm.trans hwg⟩;by_cases h:j<k
       .exact HE.out j h
       obtain rfl:j=k:=by omega
       rw[HE1.out,HF1.out,HEF.out]
      simp[intOf];omega
     have hq:=aGN e f (show decide (e≠f)=true by simp[hef]);obtain rfl:b=false:=aBq HB.out fun h=>hef (by
      have h1:=HE1.out;rw[h.2.2,HF1.out] at h1;injection h1 with h1
      exact h1.symm)
     clear hef;go_wp2_with fail;refine wqg ?_;repeat
      (with_reducible refine wpQuiet_step (fun K hK=>?_))
      go_simp
      first|(with_reducible refine hK _ ?_)|(rw[if_neg (by decide)];(with_reducible refine hK _ ?_))|(apply Exists.intro;refine⟨fun _=>?_,hK _ ?_⟩;(fail))
      clear hK K
     with_reducible refine wpQuiet_nil ?_
     rintro _ ⟨⟨nq,osq⟩,rfl⟩;go_wp2_with fail;go_ret;exact⟨rfl,hm.trans (Mid.ofWg wr nq osq)⟩
    obtain rfl:k=es.length:=by omega
    obtain rfl:b=true:=HB.out.2 ⟨by trivial,by trivial,List.ext_getElem? fun j=>by
     by_cases h:j<es.length
     .exact HE.out j h
     .rw[List.getElem?_eq_none (by omega),List.getElem?_eq_none (by omega)]⟩
    go_wp2_with fail;go_ret;exact⟨rfl,hm⟩
   subst h1 h2;have b0:(r != r)=false:=by simp
   have b1:(s != s)=false:=by simp
   have b2:((es.length:Int) != (es'.length:Int))=true:=by simp;omega
   obtain rfl:b=false:=aBq HB.out fun h=>h3 (by rw[h.2.2]);clear HB h3;go_enter Tryz.func18,Tryz.ntmps18
   go_wp2_with fail;go_ret;exact⟨rfl,hm0⟩
  have b2:(s != s')=true:=by simpa using h2
  have b0:(r != r')=false:=by simpa using h1
  obtain rfl:b=false:=aBq HB.out fun h=>h2 h.2.1;clear HB h2 h1;go_enter Tryz.func18,Tryz.ntmps18
  go_wp2_with fail;go_ret;exact⟨rfl,hm0⟩
 have b2:(r != r')=true:=by simpa using h1
 obtain rfl:b=false:=aBq HB.out fun h=>h1 h.1;clear HB h1;go_enter Tryz.func18,Tryz.ntmps18
 go_wp2_with fail;go_ret;exact⟨rfl,hm0⟩
theorem aGh(r n:Nat)(A:Option Addr)(es:List Ed)(c:Nat)(w:World)(lo hi:Nat)(hr:RG w lo hi A es)(hcl:es.length<=c)(hf:IsFol r n es) :
  Calls Tryz.prog 237 #[aAw r n A es.length c] w fun e w'=>∃ A1 c1,e=.returned (.slice A1 (aBO r es 0).length c1)/\RV w' 0 w'.heap.size A1 (aAd (aBO r es 0))/\Mid 0 0 w w':=by
 have hl:=hf.gr.len;have hn1:0<n:=by have:=hf.gr.size;omega
 have hm0:Mid 0 0 w (w.alloc (.cells #[.int .i64 r,.int .i64 n,.slice A es.length c] 35)):=Mid.alloc _ _;have B0:=Box.new w #[.int .i64 r,.int .i64 n,.slice A es.length c] 35;have HF:=oH hf;clear hf;go_enter Tryz.func237,Tryz.ntmps237
 go_wp2_with fail;with_reducible refine(aAR r n A es c _ _ _ (hr.mid hm0 oZl) (by omega) hcl true (iff_of_true rfl HF.out)).mono ?_
 rintro en w1 ⟨rfl,hm1⟩;replace B0:=B0.mid hm1 oZr;replace hm0:=hm0.trans hm1;obtain⟨p0,p1,p2⟩:=B0.c3 rfl;have hT:=aIJ r n 0 A es c w1 lo hi (hr.mid hm0 oZl) HF.out.gr hn1;have h00:((0:Nat):Int)=0:=rfl;rw[h00] at hT;go_wp2_with fail;with_reducible refine(hT).mono ?_
 rintro en w2 ⟨A1,c1,rfl,hm2,hord, -⟩;have hx:=(aAy hord).wide oZ oN oN;go_wp2_with fail;go_ret;exact⟨A1,c1,rfl,hx,hm0.trans hm2⟩
theorem aJF{r n:Nat}{es:List Ed}(h:IsFol r n es):canonG r ((n:Int),es)=(((aBO r es 0).length:Int),aBn (aBO r es 0) es):=if_pos h
theorem aLq{r s:Int}{es:List Ed}(h:¬ IsFol r s es):canonG r (s,es)=(s,es):=if_neg h
theorem aQU{r n:Nat}{es:List Ed}(h:IsFol r n es):0<(aBO r es 0).length/\(aBO r es 0).Nodup/\∀ x∈aBO r es 0,0<=x/\x<(n:Int):=by
 have hs:=h.gr.size;obtain⟨h1, -,h2,h3⟩:=aDN h.gr (v:=0) (Int.le_refl _) (by omega);exact⟨h1,h2,h3⟩
theorem aDq(r n:Nat)(A:Option Addr)(es:List Ed)(c:Nat)(w:World)(lo hi:Nat)(hr:RG w lo hi A es)(hcl:es.length<=c)(hg:IsGr r n es) :
  Calls Tryz.prog 187 #[aAw r n A es.length c] w fun e w'=>∃ A1 c1,e=.returned (aAw r (canonG r ((n:Int),es)).1 A1 (canonG r ((n:Int),es)).2.length c1)/\OG w' w.heap.size w'.heap.size A1 c1 (canonG r ((n:Int),es)).2/\Mid 0 0 w w':=by
 have hl:=hg.len;have hm0:Mid 0 0 w ((w.alloc (.cells #[.int .i64 r,.int .i64 n,.slice A es.length c] 35)).alloc (.cells #[.int .i64 0,.int .i64 0,.slice none 0 0] 35)):=(Mid.alloc _ _).trans (Mid.alloc _ _);have b0:=(Box.new w #[.int .i64 r,.int .i64 n,.slice A es.length c] 35).mid (Mid.alloc _ (.cells #[.int .i64 0,.int .i64 0,.slice none 0 0] 35)) oZr;have b2:=Box.new (w.alloc (.cells #[.int .i64 r,.int .i64 n,.slice A es.length c] 35)) #[.int .i64 0,.int .i64 0,.slice none 0 0] 35;simp only[World.size_alloc] at b2;have HG:=oH hg;clear hg;by_cases hf:IsFol r n es
 .rw[aJF hf]
  have HF:=oH hf;clear hf;go_enter Tryz.func187,Tryz.ntmps187
  go_wp2_with fail;with_reducible refine(aAR r n A es c _ _ _ (hr.mid hm0 oZl) (by omega) hcl true (iff_of_true rfl HF.out)).mono ?_
  rintro en w1 ⟨rfl,hm1⟩;replace b0:=b0.mid hm1 oZr;replace b2:=b2.mid hm1 oZr;replace hm0:=hm0.trans hm1;go_wp2_with fail;have hmd:=Mid.drew1 w1;replace b0:=b0.mid hmd oZr;replace b2:=b2.mid hmd oZr;replace hm0:=hm0.trans hmd;obtain⟨p0,p1,p2⟩:=b0.c3 rfl;refine aAB (S:=(fun w'=>w'.cell? ⟨w.heap.size,0,none⟩=some (.int .i64 r)/\w'.cell? ⟨w.heap.size,1,none⟩=some (.int .i64 n)/\w'.cell? ⟨w.heap.size,2,none⟩=some (.slice A es.length c))) 4 (by kernel_rfl) ⟨p0,p1,p2⟩ ?_;generalize World.drew w1=wz at b0 b2 hm0 p0 p1 p2 |-;have hS:wz.cell? ⟨w.heap.size,0,none⟩=some (.int .i64 r)/\wz.cell? ⟨w.heap.size,1,none⟩=some (.int .i64 n)/\wz.cell? ⟨w.heap.size,2,none⟩=some (.slice A es.length c):=⟨p0,p1,p2⟩
  refine tkT 0 rfl hS ?_;try simp only[oP]
  refine tkT 1 rfl hS ?_;try simp only[oP]
  have hQ:=aGh r n A es c wz lo hi (hr.mid hm0 oZl) hcl HF.out;refine rdT 2 rfl (fun K hK=>?_)
  (go_simp;refine hQ.mono ?_;rintro en w2 ⟨A2,c2,rfl,hord,hm2⟩;have b0':=b0.mid hm2 oZr;have b2':=b2.mid hm2 oZr;go_wp2_with fail)
  refine hK.out _ _ (Or.inr (b0'.c3 rfl)) (fun _=>?_);clear hK K;try simp only[oP]
  replace hm0:=hm0.trans hm2;obtain⟨ho1,ho2,ho3⟩:=aQU HF.out;have hR:=aGH r n A es c A2 (aBO r es 0) c2 w2 lo hi _ _ (hr.mid hm0 oZl) hord HG.out ho2 ho3;have HR:=oH hR;clear hS hQ b0 b2 hm2 p0 p1 p2 hR ho1 ho2 ho3;refine rdT 3 rfl (fun K hK=>?_)
  (go_simp;refine HR.out.mono ?_;rintro en w3 ⟨A3,c3,rfl,hog,hm3⟩;have b0:=b0'.mid hm3 oZr;have b2:=b2'.mid hm3 oZr;go_wp2_with fail)
  refine hK.out _ _ (Or.inr (b0.c3 rfl)) (fun _=>?_);clear hK K;try simp only[oP]
  have hsz2:=hm0.size;have hb2s:=b2'.1;replace hm0:=hm0.trans hm3;obtain⟨z0,z1,z2⟩:=b2.c3 rfl;have zf:=b2.2.2;clear b0' b2' hm3 HR hord;refine rdT 4 rfl (fun K hK=>?_)
  (go_simp)
  refine hK.out _ _ (Or.inl rfl) (fun _=>?_);clear hK K;try simp only[oP]
  refine aAE (by kernel_rfl) ?_ _;go_wp2_with fail;refine bodyPost_ret (v:=.agg #[.int .i64 r,.int .i64 (aBO r es 0).length,.slice A3 (aBn (aBO r es 0) es).length c3]) (by simp[results,Tryz.results187,go_sem,z0,z1,z2,zf]) rfl ⟨A3,c3,rfl,?_,?_⟩
  .refine OG.wide (OG.mid hog (a:=w.heap.size+1) (b:=w.heap.size+2) ?_ (Or.inl (by omega))) (by omega) (by simp) oN
   repeat (first|exact Mid.refl _ _ _|refine Mid.stored ?_ _ (by simp;try omega) (by simp;try omega))
  repeat (first|exact hm0|refine Mid.storeNew ?_ (by simp;try omega) _)
 rw[aLq hf];have HF:=oH hf;clear hf;go_enter Tryz.func187,Tryz.ntmps187
 go_wp2_with fail;with_reducible refine(aAR r n A es c _ _ _ (hr.mid hm0 oZl) (by omega) hcl false (iff_of_false Bool.false_ne_true HF.out)).mono ?_
 rintro en w1 ⟨rfl,hm1⟩;have hsz1:w.heap.size+2<=w1.heap.size:=by have:=hm1.size;simpa using this
 replace b0:=b0.mid hm1 oZr;replace b2:=b2.mid hm1 oZr;replace hm0:=hm0.trans hm1;obtain⟨p0,p1,p2⟩:=b0.c3 rfl;go_wp2_with fail;with_reducible refine(aAS r n A es c _ _ _ (hr.mid hm0 oZl) (by omega)).mono ?_
 rintro en w2 ⟨A2,c2,rfl,hog,hm2⟩;have hsz2:=hm0.size;replace b2:=b2.mid hm2 oZr;replace hm0:=hm0.trans hm2;obtain⟨z0,z1,z2⟩:=b2.c3 rfl;have zf:=b2.2.2;clear p0 p1 p2;go_wp2_with fail;refine bodyPost_ret (v:=.agg #[.int .i64 r,.int .i64 n,.slice A2 es.length c2]) (by simp[results,Tryz.results187,go_sem,z0,z1,z2,zf]) rfl ⟨A2,c2,rfl,?_,?_⟩
 .refine OG.wide (OG.mid hog (a:=w.heap.size+1) (b:=w.heap.size+2) ?_ (Or.inl (by omega))) (by omega) (by simp) oN
  repeat (first|exact Mid.refl _ _ _|refine Mid.stored ?_ _ (by simp;try omega) (by simp;try omega))
 repeat (first|exact hm0|refine Mid.storeNew ?_ (by simp;try omega) _)
theorem aDA(r n:Nat)(A:Option Addr)(es:List Ed)(c:Nat)(w:World)(lo hi:Nat)(hr:RG w lo hi A es)(hg:IsGr r n es) :
  Calls Tryz.prog 184 #[aAw r n A es.length c] w fun e w'=>∃ A1 c1,e=.returned (aAw r (canonG r ((n:Int),es)).1 A1 (canonG r ((n:Int),es)).2.length c1)/\OG w' w.heap.size w'.heap.size A1 c1 (canonG r ((n:Int),es)).2/\Mid 0 0 w w':=by
 have hl:=hg.len;have hm0:Mid 0 0 w ((w.alloc (.cells #[.int .i64 r,.int .i64 n,.slice A es.length c] 35)).alloc (.cells #[.int .i64 0,.int .i64 0,.slice none 0 0] 35)):=(Mid.alloc _ _).trans (Mid.alloc _ _);have b0:=(Box.new w #[.int .i64 r,.int .i64 n,.slice A es.length c] 35).mid (Mid.alloc _ (.cells #[.int .i64 0,.int .i64 0,.slice none 0 0] 35)) oZr;have b2:=Box.new (w.alloc (.cells #[.int .i64 r,.int .i64 n,.slice A es.length c] 35)) #[.int .i64 0,.int .i64 0,.slice none 0 0] 35;simp only[World.size_alloc] at b2;have HG:=oH hg;clear hg;by_cases hf:IsFol r n es
 .rw[aJF hf]
  have HF:=oH hf;clear hf;go_enter Tryz.func184,Tryz.ntmps184
  go_wp2_with fail;with_reducible refine(aGr r n A es c _ _ _ (hr.mid hm0 oZl) HF.out).mono ?_
  rintro en w1 ⟨A1,c1,rfl,hord,hm1⟩;replace b0:=b0.mid hm1 oZr;replace b2:=b2.mid hm1 oZr;replace hm0:=hm0.trans hm1;obtain⟨p0,p1,p2⟩:=b0.c3 rfl;obtain⟨ho1,ho2,ho3⟩:=aQU HF.out;have e1:(((aBO r es 0).length:Int) == 0)=false:=by simp only[beq_eq_false_iff_ne];omega
  have HR0:=oH (aCz r n A es c A1 (aBO r es 0) c1 w1 lo hi _ _ (hr.mid hm0 oZl) hord HG.out ho2 ho3 ho1);have hsz1:w.heap.size+2<=w1.heap.size:=by have:=hm1.size;simpa using this
  obtain⟨os,hos⟩:∃ os,aBO r es 0=os:=⟨_,rfl⟩
  obtain⟨ps,hps⟩:∃ ps,aBn os es=ps:=⟨_,rfl⟩
  rw[hos] at HR0 e1 |-;rw[hps] at HR0;have HOS:=oH hos;have HPS:=oH hps;have HR:=HR0;clear ho1 ho2 ho3 hord hm1 hos hps HR0;go_wp2_with fail;with_reducible refine(HR.out).mono ?_
  rintro en w2 ⟨A2,c2,rfl,hog,hm2⟩;clear HR;have hsz2:=hm2.size;have hal:=Mid.alloc w2 (.cells #[.int .i64 r,.int .i64 os.length,.slice A2 ps.length c2] 35);have Y3:=Box.new w2 #[.int .i64 r,.int .i64 os.length,.slice A2 ps.length c2] 35;replace b2:=b2.mid hm2 oZr;replace hm0:=hm0.trans hm2;clear p0 p1 p2;obtain⟨z0,z1,z2⟩:=b2.c3 rfl;have zf:=b2.2.2;have hb22:w.heap.size+1<w2.heap.size:=b2.1;go_wp2_with fail;refine bodyPost_ret (v:=.agg #[.int .i64 r,.int .i64 os.length,.slice A2 ps.length c2]) (by simp[results,Tryz.results184,go_sem,z0,z1,z2,zf,hb22,World.cell?_alloc_lt]) rfl ⟨A2,c2,by rw[HOS.out,HPS.out],?_,?_⟩
  .rw[HOS.out,HPS.out]
   refine OG.wide (OG.mid (OG.mid hog (a:=w.heap.size+1) (b:=w.heap.size+2) ?_ (Or.inl (by omega))) (Mid.alloc _ _) oZl) (by omega) (by simp) oN;repeat (first|exact Mid.refl _ _ _|refine Mid.stored ?_ _ (by simp;try omega) (by simp;try omega))
  refine Mid.trans ?_ (Mid.alloc _ _);repeat (first|exact hm0|refine Mid.storeNew ?_ (by simp;try omega) _)
 rw[aLq hf];have HF:=oH hf;clear hf;go_enter Tryz.func184,Tryz.ntmps184
 go_wp2_with fail;with_reducible refine(aEN r n A es c _ _ _ (hr.mid hm0 oZl) (by omega) HF.out).mono ?_
 rintro en w1 ⟨A1,c1,rfl,hm1⟩;have hsz1:w.heap.size+2<=w1.heap.size:=by have:=hm1.size;simpa using this
 replace b0:=b0.mid hm1 oZr;replace b2:=b2.mid hm1 oZr;replace hm0:=hm0.trans hm1;obtain⟨p0,p1,p2⟩:=b0.c3 rfl;go_wp2_with fail;with_reducible refine(aBp r n A es c _ _ _ (hr.mid hm0 oZl) (by omega)).mono ?_
 rintro en w2 ⟨A2,c2,rfl,hog,hm2⟩;have hsz2:=hm0.size;replace b2:=b2.mid hm2 oZr;replace hm0:=hm0.trans hm2;obtain⟨z0,z1,z2⟩:=b2.c3 rfl;have zf:=b2.2.2;clear p0 p1 p2;go_wp2_with fail;refine bodyPost_ret (v:=.agg #[.int .i64 r,.int .i64 n,.slice A2 es.length c2]) (by simp[results,Tryz.results184,go_sem,z0,z1,z2,zf]) rfl ⟨A2,c2,rfl,?_,?_⟩
 .refine OG.wide (OG.mid hog (a:=w.heap.size+1) (b:=w.heap.size+2) ?_ (Or.inl (by omega))) (by omega) (by simp) oN
  repeat (first|exact Mid.refl _ _ _|refine Mid.stored ?_ _ (by simp;try omega) (by simp;try omega))
 repeat (first|exact hm0|refine Mid.storeNew ?_ (by simp;try omega) _)
def aMq(w:World)(G:Nat):Nat:=match w.cell? ⟨G,1,none⟩ with|some (.int _ s)=>s.toNat|_=>0
theorem aCJ{w:World}{G:Nat}{r:Value}{n:Nat}{v:Value}(h:Box w G [r,.int .i64 n,v]):aMq w G=n:=by
 unfold aMq;rw[h.cell 1 rfl];simp
theorem aFU(r:Int)(n:Nat)(A:Option Addr)(es:List Ed)(c:Nat)(w:World)(lo hi:Nat)(hr:RG w lo hi A es)(hg:IsGr r n es) :
  Calls Tryz.prog 185 #[aAw r n A es.length c] w fun e w'=>∃ A1 c1 Al nl cl,e=.returned (.tuple #[aAw r (trimA 40 ((n:Int),es)).1 A1 (trimA 40 ((n:Int),es)).2.length c1,.slice Al nl cl])/\OG w' w.heap.size w'.heap.size A1 c1 (trimA 40 ((n:Int),es)).2/\Mid 0 0 w w':=by
 have hn40:n<=40:=by have:=hg.size;omega
 have hl:=hg.len;have hm0:Mid 0 0 w ((w.alloc (.cells #[.int .i64 r,.int .i64 n,.slice A es.length c] 35)).alloc (.cells #[.int .i64 0,.int .i64 0,.slice none 0 0] 35)):=(Mid.alloc _ _).trans (Mid.alloc _ _);have b0:=(Box.new w #[.int .i64 r,.int .i64 n,.slice A es.length c] 35).mid (Mid.alloc _ (.cells #[.int .i64 0,.int .i64 0,.slice none 0 0] 35)) oZr;have b2:=Box.new (w.alloc (.cells #[.int .i64 r,.int .i64 n,.slice A es.length c] 35)) #[.int .i64 0,.int .i64 0,.slice none 0 0] 35;simp only[World.size_alloc] at b2;have HG:=oH hg;obtain⟨T,hT⟩:∃ T,trimA 40 ((n:Int),es)=T:=⟨_,rfl⟩
 rw[hT];have HT:=oH hT;clear hg hT;go_enter Tryz.func185,Tryz.ntmps185
 go_wp2_with fail;generalize hw1:((w.alloc (.cells #[.int .i64 r,.int .i64 n,.slice A es.length c] 35)).alloc (.cells #[.int .i64 0,.int .i64 0,.slice none 0 0] 35))=w1 at hm0 b0 b2 |-;clear hw1;with_reducible refine(aAS r n A es c _ _ _ (hr.mid hm0 oZl) (by omega)).mono ?_
 rintro en w2 ⟨A1,c1,rfl,ho,hm2⟩;have hsz12:=hm0.size;have hs2:w.heap.size+1<w1.heap.size:=b2.1;replace b0:=b0.mid hm2 oZr;replace b2:=b2.mid hm2 oZr;replace hm0:=hm0.trans hm2;have hsz2:=hm2.size;have hown0:=aAp (base':=w.heap.size+2) ho.ov.2.1 hs2;have hbk0:Value.ownBlock (.slice A1 es.length c1)≠some w2.heap.size:=fun h=>by have:=ho.ov.2.2 _ h;omega
 have hal:=(Mid.alloc w2 (.cells #[.int .i64 r,.int .i64 n,.slice A1 es.length c1] 35)).trans (Mid.alloc (w2.alloc (.cells #[.int .i64 r,.int .i64 n,.slice A1 es.length c1] 35)) (.cells #[] 3));have Y3:=(Box.new w2 #[.int .i64 r,.int .i64 n,.slice A1 es.length c1] 35).mid (Mid.alloc (w2.alloc (.cells #[.int .i64 r,.int .i64 n,.slice A1 es.length c1] 35)) (.cells #[] 3)) oZr;have O0:=aAi (w2.alloc (.cells #[.int .i64 r,.int .i64 n,.slice A1 es.length c1] 35)) 3 1;rw[World.size_alloc] at O0;have hbs0:=b0.1;obtain⟨p0,p1,p2⟩:=b0.c3 rfl;replace b0:=b0.mid hal oZr;replace b2:=b2.mid hal oZr;replace hown0:=aAc hown0 hal oZl;replace hm0:=hm0.trans hal;go_wp2_with fail;clear p0 p1 p2;have hsA:((w2.alloc (.cells #[.int .i64 r,.int .i64 n,.slice A1 es.length c1] 35)).alloc (.cells #[] 3)).heap.size=w2.heap.size+2:=by simp
 generalize hw3:(w2.alloc (.cells #[.int .i64 r,.int .i64 n,.slice A1 es.length c1] 35)).alloc (.cells #[] 3)=w3 at Y3 O0 b0 b2 hown0 hm0 hsA |-;obtain⟨G,hG⟩:∃ G,w2.heap.size=G:=⟨_,rfl⟩
 rw[hG] at Y3 O0 hbk0 hsA hsz2 hbs0 |-;clear hw3 hal hm2 ho hG;with_reducible refine(aCj r n A es c _ _ _ (hr.mid hm0 oZl).rv (by omega) true (iff_of_true rfl HG.out)).mono ?_
 rintro en w4 ⟨rfl,hm4⟩;have hs4:=hm4.size;replace b0:=b0.mid hm4 oZr;replace b2:=b2.mid hm4 oZr;replace Y3:=Y3.mid hm4 oZr;replace hown0:=aAc hown0 hm4 oZl;replace O0:=aAc O0 hm4 oZl;replace hm0:=hm0.trans hm4;have hGw:w.heap.size+2<=G:=by omega
 have hG4:G+1<=w4.heap.size:=by omega
 clear hm4 hs4 hsA hsz2 hs2 hsz12 hbs0;go_wp2_with fail;go_loopw [5,6] (fun l i wr=>∃(k:Nat) (Al:Option Addr) (nl cl:Nat),k<=n/\i=.int .i64 k/\l=.slice Al nl cl/\Hid ((aPB k).length=nl)/\wr.ownsRow (G+1) 3 1 (.slice Al nl cl) nl (aAd (aPB k)) /\
   Hid (wr.ownsRow (w.heap.size+2) 110 3 (.slice A1 es.length c1) es.length (aAd (edI es)))/\Box wr w.heap.size [.int .i64 r,.int .i64 n,.slice A es.length c]/\Box wr (w.heap.size+1) [.int .i64 0,.int .i64 0,.slice none 0 0]/\Box wr G [.int .i64 r,.int .i64 n,.slice A1 es.length c1]/\Mid 0 0 w wr) (fun _ i _=>n - (intOf i).toNat)
 case atStart=>exact⟨0,_,0,0,oZ,rfl,rfl,oH rfl,O0,oH hown0,b0,b2,Y3,hm0⟩
 clear O0 hown0 b0 b2 Y3 hm0;obtain⟨wo,hwo⟩:∃ wo,wo=wr:=⟨_,rfl⟩
 subst hwo;obtain⟨k,Al,nl,cl,hk,rfl,rfl,HN,hleft,HE,b0,b2,Y3,hm⟩:=hrel;obtain rfl:k=nl:=by rw[<- HN.out,aIq]
 obtain⟨p0,p1,p2⟩:=b0.c3 rfl;by_cases hlt:k<n
 .have hk1:(k:Int)<(n:Int):=by omega
  have hGo:G+1<=wo.heap.size:=Y3.1;have HL:=oH hleft;clear hleft;go_wp2_with (at_builtin;refine aBl rfl _ _ rfl (G+1) Al k cl (aPB k) rfl HL.out k rfl (by omega) hGo ?_;intro A9 c9 w9 hl9 hgr9 hat9)
  clear hat9;have hm9:=Mid.of_grownRow HL.out hgr9;have hE9:=HE.out.kept hgr9 (aBP HE.out HL.out (by decide));go_roundw
  case rel=>exact⟨k+1,A9,k+1,c9,by omega,by go_num,rfl,oH (by rw[aIq]),by rw[aMx];exact hl9,oH hE9,b0.mid hm9 (Or.inl (by omega)),b2.mid hm9 (Or.inl (by omega)),Y3.mid hm9 (Or.inl (by omega)),hm.transNew hm9 (Or.inl (by omega))⟩
  simp[intOf];omega
 obtain rfl:k=n:=by omega
 go_wp2_with fail;clear p0 p1 p2;have hGo:=Y3.1;go_loopw [5] (fun l wr=>∃(m s:Nat) (es1:List Ed) (A2:Option Addr) (c2:Nat) (Al:Option Addr) (cl:Nat) (xs:List Int),l=.slice Al s cl/\Hid (trimA m ((s:Int),es1)=T)/\s<=m/\Hid (IsGr r s es1)/\wr.ownsRow (G+1) 3 1 (.slice Al s cl) s (aAd xs) /\
   Hid (wr.ownsRow (w.heap.size+2) 110 3 (.slice A2 es1.length c2) es1.length (aAd (edI es1)))/\Hid (Value.ownBlock (.slice A2 es1.length c2)≠some G)/\Box wr (w.heap.size+1) [.int .i64 0,.int .i64 0,.slice none 0 0]/\Box wr G [.int .i64 r,.int .i64 s,.slice A2 es1.length c2]/\Mid 0 0 w wr) (fun _ wr=>aMq wr G)
 case atStart=>exact⟨40,k,es,A1,c1,Al,cl,aPB k,rfl,HT,hn40,HG,hleft,HE,oH hbk0,b2,Y3,hm⟩
 clear hleft HE b0 b2 Y3 hm HN hGo;obtain⟨wj,hwj⟩:∃ wj,wj=wr:=⟨_,rfl⟩
 subst hwj;obtain⟨m,s,es1,A2,c2,Al,cl,xs,rfl,HTm,hsm,HGs,hleft,HE,HBK,b2,Y3,hm⟩:=hrel;have hs1:1<=s:=by have:=HGs.out.size;omega
 have hs40:s<=40:=by have:=HGs.out.size;omega
 have hl1:=HGs.out.len;have hlsz:=oH (aCJ Y3);obtain⟨y0,y1,y2⟩:=Y3.c3 rfl;have hJ:=aMW r s 0 A2 es1 c2 wj _ _ (aAy HE.out) HGs.out hs1;rw[show((0:Nat):Int)=0 from rfl] at hJ;have HJ:=oH hJ;clear hJ;go_wp2_with fail;with_reducible refine(HJ.out).mono ?_
 rintro en w5 ⟨rfl,vis,hvis,hmem,hm5⟩;clear HJ;have hGj:G<wj.heap.size:=Y3.1;have HM:=oH hmem;obtain⟨jb,hjb⟩:∃ jb,wj.heap.size+1=jb:=⟨_,rfl⟩
 rw[hjb] at hvis |-;have hE5:=aAc HE.out hm5 oZl;replace HE:=oH hE5;replace b2:=b2.mid hm5 oZr;replace Y3:=Y3.mid hm5 oZr;replace hleft:=aAc hleft hm5 oZl;replace hm:=hm.trans hm5;clear y0 y1 y2 hmem hjb hm5 hE5;obtain⟨y0,y1,y2⟩:=Y3.c3 rfl;go_wp2_with fail;clear y0 y1 y2;go_loopw [8,9] (fun gv kv wr=>∃(q g:Nat),1<=q/\q<=s/\kv=.int .i64 q/\gv=.int .i64 g/\Hid ((g=0/\∀ u:Nat,1<=u->u<q->¬ Bad es1 u) \/ (leaf s es1=some g/\0<g/\g<s))/\Mid 0 0 w5 wr) (fun _ q _=>s - (intOf q).toNat)
 case atStart=>exact⟨1,0,oN,hs1,rfl,rfl,oH (.inl ⟨rfl,fun u h1 h2=>absurd h2 (by omega)⟩),Mid.refl _ _ _⟩
 obtain⟨q,g,hq1,hq,rfl,rfl,HQ,hmx⟩:=hrel;replace b2:=b2.mid hmx oZr;replace Y3:=Y3.mid hmx oZr;replace hleft:=aAc hleft hmx oZl;replace hvis:=aAc hvis hmx oZl;replace hm:=hm.trans hmx;have hE5:=aAc HE.out hmx oZl;replace HE:=oH hE5;clear hE5;obtain⟨y0,y1,y2⟩:=Y3.c3 rfl;by_cases hgo:q<s/\g=0
 .obtain⟨hqs,rfl⟩:=hgo
  have hq3:(q:Int)<(s:Int):=by omega
  have hq0:(0:Int)<=(q:Int):=by omega
  have hno:∀ u:Nat,1<=u->u<q->¬ Bad es1 u:=by
   rcases HQ.out with h|h
   .exact h.2
   omega
  have HNO:=oH hno;have hdl:=aNQ es1 q;clear hno;go_wp2_with fail;with_reducible refine(aKD r s A2 es1 c2 q _ _ _ (aAy HE.out).rg (by omega)).mono ?_
  rintro en w7 ⟨rfl,hm7⟩;have hv7:=aAc hvis hm7 oZl;have hcv:=(hv7.cellAt q (by omega)).trans (aCI hqs);by_cases hd:deg es1 q<2
  .have d1:decide ((deg es1 q:Int)<2)=true:=by simp;omega
   have HLF:=oH (aFg (s:=(s:Int)) hq1 hq3 (.inl hd) HNO.out);clear hd hcv;go_wp2_with fail;go_roundw
   case rel=>exact⟨q+1,q,by omega,by omega,by go_num,rfl,oH (.inr ⟨HLF.out,by omega,hqs⟩),hmx.trans hm7⟩
   simp[intOf];omega
  have d1:decide ((deg es1 q:Int)<2)=false:=by simp;omega
  by_cases hv:(q:Int)∈vis
  .rw[decide_eq_true hv] at hcv
   have HNB:Hid (¬ Bad es1 q):=oH (by
    rintro(h|h)
    .exact hd h
    .exact h ((HM.out _).1 hv))
   clear hd hv;go_wp2_with fail;go_roundw
   case rel=>
    refine⟨q+1,0,by omega,by omega,by go_num,rfl,oH (.inl ⟨rfl,fun u h1 h2=>?_⟩),hmx.trans hm7⟩;by_cases h:u=q
    .subst h;exact HNB.out
    exact HNO.out u h1 (by omega)
   simp[intOf];omega
  rw[decide_eq_false hv] at hcv;have HLF:=oH (aFg (s:=(s:Int)) hq1 hq3 (.inr fun h=>hv ((HM.out _).2 h)) HNO.out);clear hd hv;go_wp2_with fail;go_roundw
  case rel=>exact⟨q+1,q,by omega,by omega,by go_num,rfl,oH (.inr ⟨HLF.out,by omega,hqs⟩),hmx.trans hm7⟩
  simp[intOf];omega
 clear hvis;obtain⟨wk,hwk⟩:∃ wk,wk=wr:=⟨_,rfl⟩
 subst hwk;have hqg:decide ((q:Int)<(s:Int))=true/\((g:Int) == 0)=false \/ decide ((q:Int)<(s:Int))=false:=by
  by_cases h:q<s
  .left
   refine⟨by simp;omega,?_⟩;simp only[beq_eq_false_iff_ne];intro h2;exact hgo ⟨h,by omega⟩
  right
  simp;omega
 by_cases hg0:g=0
 .subst hg0
  have hqs:q=s:=by
   refine Classical.byContradiction fun h=>hgo ⟨by omega,rfl⟩
  subst hqs;have hln:leaf q es1=none:=aGK fun u h1 h2=>by
   rcases HQ.out with h|h
   .exact h.2 u h1 (by omega)
   .omega
  have hTT:=HTm.out;rw[aBX hln] at hTT;have HTT:=oH hTT;have d0:decide ((q:Int)<(q:Int))=false:=by simp
  obtain⟨z0,z1,z2⟩:=b2.c3 rfl;have zf:=b2.2.2;have hbs:=b2.1;clear hqg hln hTT hgo;go_wp2_with fail;have hcl:(w.heap.size+1 == G)=false:=by simp;omega
  refine bodyPost_ret (v:=.tuple #[.agg #[.int .i64 r,.int .i64 q,.slice A2 es1.length c2],.slice Al q cl]) (by simp[results,Tryz.results185,go_sem,z0,z1,z2,zf,y0,y1,y2]) rfl ⟨A2,c2,⟨Al,q,cl,by rw[<- HTT.out]⟩,?_,?_⟩
  .rw[<- HTT.out]
   have h0:OG wk (w.heap.size+2) wk.heap.size A2 c2 es1:=⟨oN,HE.out,fun g hg=>(HE.out.lt g hg).2⟩
   refine OG.wide (OG.mid h0 (a:=w.heap.size+1) (b:=w.heap.size+2) ?_ (Or.inl oN)) (by omega) (by simp) oN;repeat (first|exact Mid.refl _ _ _|refine Mid.stored ?_ _ (by simp;try omega) (by simp;try omega))
  repeat (first|exact hm|refine Mid.storeNew ?_ (by simp;try omega) _)
 obtain⟨hlf,hg1,hgs⟩:leaf s es1=some g/\0<g/\g<s:=by
  rcases HQ.out with h|h
  .exact absurd h.1 hg0
  exact h
 obtain⟨m',rfl⟩:∃ m',m=m'+1:=⟨m - 1,by omega⟩
 have hTT:=HTm.out;rw[aCp hlf] at hTT;have HTT:=oH hTT;have HCG:=oH (aMN (g:=((s:Int),es1)) HGs.out hg1 (by simpa using hgs));have dg:((g:Int) == 0)=false:=by simp only[beq_eq_false_iff_ne];omega
 have HGO:=oH hgo;clear hTT hlf hgo hqg;rcases Nat.lt_or_ge q s with hqn|hqn
 .go_wp2_with fail
  have O10:=aAi wk 3 1;have hal:=Mid.alloc wk (.cells #[] 3);clear y0 y1 y2;go_loopw [10,11] (fun o kv wr=>∃(kk:Nat) (Ao:Option Addr) (no co:Nat),kk<=s/\kv=.int .i64 kk/\o=.slice Ao no co/\Hid ((but g kk).length=no)/\wr.ownsRow wk.heap.size 3 1 (.slice Ao no co) no (aAd (but g kk))/\Mid 0 0 wk wr) (fun _ kv _=>s - (intOf kv).toNat)
  case atStart=>exact⟨0,_,0,0,oZ,rfl,rfl,oH rfl,O10,hal⟩
  clear O10 hal;obtain⟨kk,Ao,no,co,hkk,rfl,rfl,HNo,hord,hmy⟩:=hrel;have hno:no<=40:=by
   have h1:(but g kk).length<=kk:=by unfold but;rw[List.length_map];exact Nat.le_trans (List.length_filter_le _ _) (by simp)
   have h2:=HNo.out;omega
  have Y4:=Y3.mid hmy oZr;obtain⟨y0,y1,y2⟩:=Y4.c3 rfl;by_cases hlt:kk<s
  .have hbs:=aEu g kk
   have hk3:(kk:Int)<(s:Int):=by omega
   by_cases hkg:kk=g
   .have d3:((kk:Int) != (g:Int))=false:=by simp;omega
    rw[if_pos hkg] at hbs;have HBS:=oH hbs;clear hbs hkg;go_wp2_with fail;go_roundw
    case rel=>exact⟨kk+1,Ao,no,co,by omega,by go_num,rfl,by rw[HBS.out];exact HNo,by rw[HBS.out];exact hord,hmy⟩
    simp[intOf];omega
   have d3:((kk:Int) != (g:Int))=true:=by simp;omega
   rw[if_neg hkg] at hbs;have HBS:=oH hbs;have HO:=oH hord;have hsz:=hmy.size;clear hbs hkg hord;go_wp2_with (at_builtin;refine aAv rfl _ _ rfl wk.heap.size Ao no co (but g kk) rfl HO.out kk rfl (by omega) hsz ?_;intro A9 c9 w9 ho9 hm9)
   go_roundw
   case rel=>exact⟨kk+1,A9,no+1,c9,by omega,by go_num,rfl,oH (by rw[HBS.out,List.length_append,HNo.out];rfl),by rw[HBS.out];exact ho9,hmy.transNew hm9 (Or.inl oN)⟩
   simp[intOf];omega
  obtain rfl:kk=s:=by omega
  have hln:(but g kk).length=no:=HNo.out;have HL0:Hid (no=kk - 1):=oH (by rw[<- hln,aET g hgs]);obtain⟨es2,hes2⟩:∃ es2,aBn (but g kk) es1=es2:=⟨_,rfl⟩
  have hcv:aJJ ((kk:Int),es1) g=((no:Int),es2):=by unfold aJJ;simp only[Int.toNat_natCast];rw[hln,hes2]
  have hE6:=aAc HE.out hmy oZl;have hP:=aGH r kk A2 es1 c2 Ao (but g kk) co wr _ _ _ _ (aAy hE6).rg (aAy hord) HGs.out (aDZ g kk) (fun x hx=>aGy hx);rw[hln,hes2] at hP;have HP:=oH hP;have hTT2:=HTT.out;rw[hcv] at hTT2;have hgr2:=HCG.out;rw[hcv] at hgr2;have HTT2:=oH hTT2;have HG2:=oH hgr2;have hwks:G+1<=wk.heap.size:=Y3.1;clear hP hTT2 hgr2 hcv hes2 hln hord HTT HCG HE hE6;go_wp2_with fail;with_reducible refine HP.out.mono ?_
  rintro en w8 ⟨A3,c3,rfl,hog,hm8⟩;clear HP;replace hog:=hog.wide (lo':=wk.heap.size) hmy.size oN oN;have hm28:=hmy.trans hm8;clear Y4 y0 y1 y2;replace b2:=b2.mid hm28 oZr;replace Y3:=Y3.mid hm28 oZr;replace hleft:=aAc hleft hm28 oZl;replace hm:=hm.trans hm28;clear hmy hm8 hm28;obtain⟨y0,y1,y2⟩:=Y3.c3 rfl;have yf:=Y3.2.2;go_wp2_with fail;have hst:=(Mid.setAt w8 G 0 (.int .i64 r)).trans ((Mid.setAt (w8.setCell ⟨G,0,none⟩ (.int .i64 r)) G 1 (.int .i64 no)).trans (Mid.setAt ((w8.setCell ⟨G,0,none⟩ (.int .i64 r)).setCell ⟨G,1,none⟩ (.int .i64 no)) G 2 (.slice A3 es2.length c3)));have Y5:=Y3.s3 (.int .i64 r) (.int .i64 no) (.slice A3 es2.length c3);have hm5:=hm.n3 G (by omega) (.int .i64 r) (.int .i64 no) (.slice A3 es2.length c3);replace b2:=b2.mid hst (Or.inl (by omega));replace hleft:=aAc hleft hst (Or.inl oN);replace hog:=hog.mid hst (Or.inl hwks);clear Y3 hm y0 y1 y2 yf hst;generalize ((w8.setCell ⟨G,0,none⟩ (.int .i64 r)).setCell ⟨G,1,none⟩ (.int .i64 no)).setCell ⟨G,2,none⟩ (.slice A3 es2.length c3)=ws at Y5 hm5 b2 hleft hog |-;have hmd:=Mid.drew1 ws;replace b2:=b2.mid hmd oZr;replace Y5:=Y5.mid hmd oZr;replace hleft:=aAc hleft hmd oZl;replace hog:=hog.mid hmd oZl;replace hm5:=hm5.trans hmd;clear hmd;obtain⟨gl,rfl,hgl1,hgl2⟩:=aAU hleft (show 0<kk by omega);have hsc:kk<=cl:=by
   obtain⟨A',c',hv0,hsc,hcm⟩:=aAg hleft;injection hv0 with _ _ hv0
   omega
  have hcut2:=aGQ hleft (m:=g) (by omega);have hxl:(aAd xs).length=kk * 1:=hleft.1;have hsrc:=(Rs.of_own hleft).drop (k:=g+1) (n:=kk) (cap:=cl) 1 hxl hsc;have hdl:((aAd xs).drop ((g+1) * 1)).length=(kk - (g+1)) * 1:=by rw[List.length_drop,hxl];omega
  have hone:∀ u∈(aAd xs).drop ((g+1) * 1),u.oneCell'=true:=fun u hu=>aAu xs u (List.mem_of_mem_drop hu);have hml:g+(kk - (g+1))<=maxLen:=by unfold maxLen;omega
  have hby:(g+(kk - (g+1))) * 8<=140737488355328:=by omega
  have hGs:G+1<=ws.drew.heap.size:=Y5.1;have HCU:=oH hcut2;have HSR:=oH hsrc;have HDL:=oH hdl;have HON:=oH hone;have HXL:=oH hxl;have hgi:(0:Int)<=(g:Int):=by omega
  have hgi1:(0:Int)<=(g:Int)+1:=by omega
  have hgk:(g:Int)<(kk:Int):=by omega
  have hgk2:(g:Int)+1<=(kk:Int):=by omega
  have hgn:g<=cl:=by omega
  have hgn1:g+1<=kk:=by omega
  have hgn2:g+1<=cl:=by omega
  have hgc:(g:Int)<=(cl:Int):=by omega
  have hgc2:(g:Int)+1<=(cl:Int):=by omega
  have hwrp:IntKind.i64.wrap ((g:Int)+1)=(g:Int)+1:=IntWalk.i64_in _ (by omega);clear hcut2 hsrc hdl hone hxl;by_cases hcg:cl=g+1
  focus
   rw[if_pos hcg] at HSR;have hcgF:(cl=g+1)=True:=eq_true hcg;clear hcg
  rotate_left
  focus
   rw[if_neg hcg] at HSR;have hcgF:(cl=g+1)=False:=eq_false hcg;clear hcg;replace HSR:Hid (Rs ws.drew ws.drew.heap.size (some ⟨gl,g+1,none⟩) ((aAd xs).drop ((g+1) * 1))):=oH (by
    have h:=HSR.out;rw[show Option.map (fun x=>x.add ((g+1) * 1)) (some (⟨gl,0,none⟩:Addr))=some ⟨gl,g+1,none⟩ by simp[Addr.add]] at h;exact h)
  rotate_left
  all_goals
   refine aAB (S:=(fun _=>True)) 8 (by kernel_rfl) trivial ?_;generalize World.drew ws=wz at b2 Y5 hleft hog hm5 HCU HSR hGs |-;refine tkT 0 rfl trivial ?_;try simp only[oP]
   refine tkT 1 rfl trivial ?_;try simp only[oP]
   refine tkT 2 rfl trivial ?_;try simp only[oP]
   refine tkT 3 rfl trivial ?_;try simp only[oP]
   refine tkT 4 rfl trivial ?_;try simp only[oP]
   refine tkT 5 rfl trivial ?_;try simp only[oP]
   refine tkT 6 rfl trivial ?_;try simp only[oP]
   refine rdT 7 rfl (fun K hK=>?_)
   (refine aBh (by rfl) (.tmp 77) (.tmp 81) 44 (by rfl) (G+1) 3 (.int .i64 0) 1 8 aBZ aCg rfl (by decide) (.slice (some ⟨gl,0,none⟩) g cl) g _ (by rfl) HCU.out _ (kk - (g+1)) _ _ ((aAd xs).drop ((g+1) * 1)) (by rfl) HSR.out HDL.out HON.out hml hby hGs ?_;intro v9 w9 ho9 hgr9 hat9;obtain⟨A9,c9,rfl, -, -⟩:=aAg ho9)
   refine hK.out _ _ (Or.inr trivial) (fun _=>?_);clear hK K;try simp only[oP]
   refine rdT 8 rfl (fun K hK=>?_)
   (go_simp)
   refine hK.out _ _ (Or.inl rfl) (fun _=>?_);clear hK K;try simp only[oP]
   refine aAE (by kernel_rfl) ?_ _;go_wp2_with fail;go_roundw
   case rel=>
    have hm9:=Mid.of_grownRow HCU.out hgr9;have h0:=hog.ov.2.1.kept hgr9 (aBP hog.ov.2.1 HCU.out (by decide));have hnl2:g+(kk - (g+1))=no:=by have:=HL0.out;omega
    have hb9:Value.ownBlock (.slice A3 es2.length c3)≠some G:=fun h=>by have:=(hog.ov.2.1.lt _ h).1;omega
    have hxe:(aAd xs).take (g * 1)++(aAd xs).drop ((g+1) * 1)=aAd (xs.take g++xs.drop (g+1)):=by simp[aAd]
    rw[hxe,hnl2] at ho9;exact⟨m',no,es2,A3,c3,A9,c9,xs.take g++xs.drop (g+1),by rw[hnl2],HTT2,by have:=HL0.out;omega,HG2,ho9,oH (aAp h0 (by omega)),oH hb9,b2.mid hm9 (Or.inl (by omega)),Y5.mid hm9 (Or.inl (by omega)),hm5.transNew hm9 (Or.inl (by omega))⟩
   have h1:=aCJ (Y5.mid (Mid.of_grownRow HCU.out hgr9) (Or.inl (by omega)));have h2:=hlsz.out;have h3:=HL0.out;simp only[h1,h2];omega
 obtain rfl:q=s:=by omega
 go_wp2_with fail;have O10:=aAi wk 3 1;have hal:=Mid.alloc wk (.cells #[] 3);clear y0 y1 y2;go_loopw [10,11] (fun o kv wr=>∃(kk:Nat) (Ao:Option Addr) (no co:Nat),kk<=q/\kv=.int .i64 kk/\o=.slice Ao no co/\Hid ((but g kk).length=no)/\wr.ownsRow wk.heap.size 3 1 (.slice Ao no co) no (aAd (but g kk))/\Mid 0 0 wk wr) (fun _ kv _=>q - (intOf kv).toNat)
 case atStart=>exact⟨0,_,0,0,oZ,rfl,rfl,oH rfl,O10,hal⟩
 clear O10 hal;obtain⟨kk,Ao,no,co,hkk,rfl,rfl,HNo,hord,hmy⟩:=hrel;have hno:no<=40:=by
  have h1:(but g kk).length<=kk:=by unfold but;rw[List.length_map];exact Nat.le_trans (List.length_filter_le _ _) (by simp)
  have h2:=HNo.out;omega
 have Y4:=Y3.mid hmy oZr;obtain⟨y0,y1,y2⟩:=Y4.c3 rfl;by_cases hlt:kk<q
 .have hbs:=aEu g kk
  have hk3:(kk:Int)<(q:Int):=by omega
  by_cases hkg:kk=g
  .have d3:((kk:Int) != (g:Int))=false:=by simp;omega
   rw[if_pos hkg] at hbs;have HBS:=oH hbs;clear hbs hkg;go_wp2_with fail;go_roundw
   case rel=>exact⟨kk+1,Ao,no,co,by omega,by go_num,rfl,by rw[HBS.out];exact HNo,by rw[HBS.out];exact hord,hmy⟩
   simp[intOf];omega
  have d3:((kk:Int) != (g:Int))=true:=by simp;omega
  rw[if_neg hkg] at hbs;have HBS:=oH hbs;have HO:=oH hord;have hsz:=hmy.size;clear hbs hkg hord;go_wp2_with (at_builtin;refine aAv rfl _ _ rfl wk.heap.size Ao no co (but g kk) rfl HO.out kk rfl (by omega) hsz ?_;intro A9 c9 w9 ho9 hm9)
  go_roundw
  case rel=>exact⟨kk+1,A9,no+1,c9,by omega,by go_num,rfl,oH (by rw[HBS.out,List.length_append,HNo.out];rfl),by rw[HBS.out];exact ho9,hmy.transNew hm9 (Or.inl oN)⟩
  simp[intOf];omega
 obtain rfl:kk=q:=by omega
 have hln:(but g kk).length=no:=HNo.out;have HL0:Hid (no=kk - 1):=oH (by rw[<- hln,aET g hgs]);obtain⟨es2,hes2⟩:∃ es2,aBn (but g kk) es1=es2:=⟨_,rfl⟩
 have hcv:aJJ ((kk:Int),es1) g=((no:Int),es2):=by unfold aJJ;simp only[Int.toNat_natCast];rw[hln,hes2]
 have hE6:=aAc HE.out hmy oZl;have hP:=aGH r kk A2 es1 c2 Ao (but g kk) co wr _ _ _ _ (aAy hE6).rg (aAy hord) HGs.out (aDZ g kk) (fun x hx=>aGy hx);rw[hln,hes2] at hP;have HP:=oH hP;have hTT2:=HTT.out;rw[hcv] at hTT2;have hgr2:=HCG.out;rw[hcv] at hgr2;have HTT2:=oH hTT2;have HG2:=oH hgr2;have hwks:G+1<=wk.heap.size:=Y3.1;clear hP hTT2 hgr2 hcv hes2 hln hord HTT HCG HE hE6;go_wp2_with fail;with_reducible refine HP.out.mono ?_
 rintro en w8 ⟨A3,c3,rfl,hog,hm8⟩;clear HP;replace hog:=hog.wide (lo':=wk.heap.size) hmy.size oN oN;have hm28:=hmy.trans hm8;clear Y4 y0 y1 y2;replace b2:=b2.mid hm28 oZr;replace Y3:=Y3.mid hm28 oZr;replace hleft:=aAc hleft hm28 oZl;replace hm:=hm.trans hm28;clear hmy hm8 hm28;obtain⟨y0,y1,y2⟩:=Y3.c3 rfl;have yf:=Y3.2.2;go_wp2_with fail;have hst:=(Mid.setAt w8 G 0 (.int .i64 r)).trans ((Mid.setAt (w8.setCell ⟨G,0,none⟩ (.int .i64 r)) G 1 (.int .i64 no)).trans (Mid.setAt ((w8.setCell ⟨G,0,none⟩ (.int .i64 r)).setCell ⟨G,1,none⟩ (.int .i64 no)) G 2 (.slice A3 es2.length c3)));have Y5:=Y3.s3 (.int .i64 r) (.int .i64 no) (.slice A3 es2.length c3);have hm5:=hm.n3 G (by omega) (.int .i64 r) (.int .i64 no) (.slice A3 es2.length c3);replace b2:=b2.mid hst (Or.inl (by omega));replace hleft:=aAc hleft hst (Or.inl oN);replace hog:=hog.mid hst (Or.inl hwks);clear Y3 hm y0 y1 y2 yf hst;generalize ((w8.setCell ⟨G,0,none⟩ (.int .i64 r)).setCell ⟨G,1,none⟩ (.int .i64 no)).setCell ⟨G,2,none⟩ (.slice A3 es2.length c3)=ws at Y5 hm5 b2 hleft hog |-;have hmd:=Mid.drew1 ws;replace b2:=b2.mid hmd oZr;replace Y5:=Y5.mid hmd oZr;replace hleft:=aAc hleft hmd oZl;replace hog:=hog.mid hmd oZl;replace hm5:=hm5.trans hmd;clear hmd;obtain⟨gl,rfl,hgl1,hgl2⟩:=aAU hleft (show 0<kk by omega);have hsc:kk<=cl:=by
  obtain⟨A',c',hv0,hsc,hcm⟩:=aAg hleft;injection hv0 with _ _ hv0
  omega
 have hcut2:=aGQ hleft (m:=g) (by omega);have hxl:(aAd xs).length=kk * 1:=hleft.1;have hsrc:=(Rs.of_own hleft).drop (k:=g+1) (n:=kk) (cap:=cl) 1 hxl hsc;have hdl:((aAd xs).drop ((g+1) * 1)).length=(kk - (g+1)) * 1:=by rw[List.length_drop,hxl];omega
 have hone:∀ u∈(aAd xs).drop ((g+1) * 1),u.oneCell'=true:=fun u hu=>aAu xs u (List.mem_of_mem_drop hu);have hml:g+(kk - (g+1))<=maxLen:=by unfold maxLen;omega
 have hby:(g+(kk - (g+1))) * 8<=140737488355328:=by omega
 have hGs:G+1<=ws.drew.heap.size:=Y5.1;have HCU:=oH hcut2;have HSR:=oH hsrc;have HDL:=oH hdl;have HON:=oH hone;have HXL:=oH hxl;have hgi:(0:Int)<=(g:Int):=by omega
 have hgi1:(0:Int)<=(g:Int)+1:=by omega
 have hgk:(g:Int)<(kk:Int):=by omega
 have hgk2:(g:Int)+1<=(kk:Int):=by omega
 have hgn:g<=cl:=by omega
 have hgn1:g+1<=kk:=by omega
 have hgn2:g+1<=cl:=by omega
 have hgc:(g:Int)<=(cl:Int):=by omega
 have hgc2:(g:Int)+1<=(cl:Int):=by omega
 have hwrp:IntKind.i64.wrap ((g:Int)+1)=(g:Int)+1:=IntWalk.i64_in _ (by omega);clear hcut2 hsrc hdl hone hxl;by_cases hcg:cl=g+1
 focus
  rw[if_pos hcg] at HSR;have hcgF:(cl=g+1)=True:=eq_true hcg;clear hcg
 rotate_left
 focus
  rw[if_neg hcg] at HSR;have hcgF:(cl=g+1)=False:=eq_false hcg;clear hcg;replace HSR:Hid (Rs ws.drew ws.drew.heap.size (some ⟨gl,g+1,none⟩) ((aAd xs).drop ((g+1) * 1))):=oH (by
   have h:=HSR.out;rw[show Option.map (fun x=>x.add ((g+1) * 1)) (some (⟨gl,0,none⟩:Addr))=some ⟨gl,g+1,none⟩ by simp[Addr.add]] at h;exact h)
 rotate_left
 all_goals
  refine aAB (S:=(fun _=>True)) 8 (by kernel_rfl) trivial ?_;generalize World.drew ws=wz at b2 Y5 hleft hog hm5 HCU HSR hGs |-;refine tkT 0 rfl trivial ?_;try simp only[oP]
  refine tkT 1 rfl trivial ?_;try simp only[oP]
  refine tkT 2 rfl trivial ?_;try simp only[oP]
  refine tkT 3 rfl trivial ?_;try simp only[oP]
  refine tkT 4 rfl trivial ?_;try simp only[oP]
  refine tkT 5 rfl trivial ?_;try simp only[oP]
  refine tkT 6 rfl trivial ?_;try simp only[oP]
  refine rdT 7 rfl (fun K hK=>?_)
  (refine aBh (by rfl) (.tmp 77) (.tmp 81) 44 (by rfl) (G+1) 3 (.int .i64 0) 1 8 aBZ aCg rfl (by decide) (.slice (some ⟨gl,0,none⟩) g cl) g _ (by rfl) HCU.out _ (kk - (g+1)) _ _ ((aAd xs).drop ((g+1) * 1)) (by rfl) HSR.out HDL.out HON.out hml hby hGs ?_;intro v9 w9 ho9 hgr9 hat9;obtain⟨A9,c9,rfl, -, -⟩:=aAg ho9)
  refine hK.out _ _ (Or.inr trivial) (fun _=>?_);clear hK K;try simp only[oP]
  refine rdT 8 rfl (fun K hK=>?_)
  (go_simp)
  refine hK.out _ _ (Or.inl rfl) (fun _=>?_);clear hK K;try simp only[oP]
  refine aAE (by kernel_rfl) ?_ _;go_wp2_with fail;go_roundw
  case rel=>
   have hm9:=Mid.of_grownRow HCU.out hgr9;have h0:=hog.ov.2.1.kept hgr9 (aBP hog.ov.2.1 HCU.out (by decide));have hnl2:g+(kk - (g+1))=no:=by have:=HL0.out;omega
   have hb9:Value.ownBlock (.slice A3 es2.length c3)≠some G:=fun h=>by have:=(hog.ov.2.1.lt _ h).1;omega
   have hxe:(aAd xs).take (g * 1)++(aAd xs).drop ((g+1) * 1)=aAd (xs.take g++xs.drop (g+1)):=by simp[aAd]
   rw[hxe,hnl2] at ho9;exact⟨m',no,es2,A3,c3,A9,c9,xs.take g++xs.drop (g+1),by rw[hnl2],HTT2,by have:=HL0.out;omega,HG2,ho9,oH (aAp h0 (by omega)),oH hb9,b2.mid hm9 (Or.inl (by omega)),Y5.mid hm9 (Or.inl (by omega)),hm5.transNew hm9 (Or.inl (by omega))⟩
  have h1:=aCJ (Y5.mid (Mid.of_grownRow HCU.out hgr9) (Or.inl (by omega)));have h2:=hlsz.out;have h3:=HL0.out;simp only[h1,h2];omega
theorem IsGr.nat{r s:Int}{es:List Ed}(h:IsGr r s es):∃ k n:Nat,r=k/\s=n:=by
 have h1:=h.rank;have h2:=h.size;exact⟨r.toNat,s.toNat,by omega,by omega⟩
theorem aAt(r s:Int)(A:Option Addr)(es:List Ed)(c:Nat)(w:World)(lo hi:Nat)(hr:RG w lo hi A es)(hl:es.length<=1048576)(hcl:es.length<=c)(b:Bool)(hb:b=true↔IsCor r s es) :
  Calls Tryz.prog 105 #[aAw r s A es.length c] w fun e w'=>e=.returned (.bool b)/\Mid 0 0 w w':=by
 have HB:=oH hb;clear hb;have hm0:Mid 0 0 w (w.alloc (.cells #[.int .i64 r,.int .i64 s,.slice A es.length c] 35)):=Mid.alloc _ _;have b0:=Box.new w #[.int .i64 r,.int .i64 s,.slice A es.length c] 35;by_cases hf:IsFol r s es
 .obtain⟨r,n,rfl,rfl⟩:=hf.gr.nat
  have hn1:0<n:=by have:=hf.gr.size;omega
  have HF:=oH hf;obtain⟨T,hT⟩:∃ T,trimA 40 ((n:Int),es)=T:=⟨_,rfl⟩
  have HTS:Hid (T.1=n↔leaf n es=none):=oH (by rw[<- hT];exact aPy (g:=((n:Int),es)) (by omega));have hTg:IsGr r T.1 T.2:=by rw[<- hT];exact aHg 40 (g:=((n:Int),es)) hf.gr
  obtain⟨tr,tn, -,htn⟩:=hTg.nat;obtain⟨ts,te⟩:=T;simp only at htn HTS;subst htn;have htl:=hTg.len;have HTR:=oH hT;clear hf hT hTg;have hTRIM:=fun W h=>aFU r n A es c W lo hi h HF.out.gr;simp only[HTR.out] at hTRIM;have HTRIM:=oH hTRIM;clear hTRIM HTR;go_enter Tryz.func105,Tryz.ntmps105
  go_wp2_with fail;with_reducible refine(aAR r n A es c _ _ _ (hr.mid hm0 oZl) hl hcl true (iff_of_true rfl HF.out)).mono ?_
  rintro en w1 ⟨rfl,hm1⟩;replace b0:=b0.mid hm1 oZr;replace hm0:=hm0.trans hm1;obtain⟨p0,p1,p2⟩:=b0.c3 rfl;go_wp2_with fail;with_reducible refine(HTRIM.out _ (hr.mid hm0 oZl)).mono ?_
  rintro en w2 ⟨A1,c1,Al,nl,cl,rfl,hog,hm2⟩;replace b0:=b0.mid hm2 oZr;replace hm0:=hm0.trans hm2;have hal:=Mid.alloc w2 (.cells #[.int .i64 r,.int .i64 tn,.slice A1 te.length c1] 35);have bt:=Box.new w2 #[.int .i64 r,.int .i64 tn,.slice A1 te.length c1] 35;replace b0:=b0.mid hal oZr;replace hm0:=hm0.trans hal;clear p0 p1 p2 HTRIM;go_wp2_with fail;generalize w2.alloc (.cells #[.int .i64 r,.int .i64 tn,.slice A1 te.length c1] 35)=w3 at b0 bt hm0 |-;by_cases hts:(tn:Int)=n
  .have hlf:=HTS.out.1 hts
   obtain rfl:tn=n:=by omega
   obtain⟨C,hC⟩:∃ C,canonG r ((tn:Int),es)=C:=⟨_,rfl⟩
   have hCg:IsGr r C.1 C.2:=by rw[<- hC];exact aEU (g:=((tn:Int),es)) HF.out.gr
   have HB2:Hid (b=true↔(r:Int)=r/\C.1=tn/\C.2=es):=oH (by
    rw[HB.out];constructor
    .intro h
     have h1:=h.canon;rw[hC] at h1;exact⟨rfl,by rw[h1],by rw[h1]⟩
    .rintro⟨-,h1,h2⟩
     exact⟨HF.out,hlf,by rw[hC];exact Prod.ext h1 h2⟩)
   have hcl2:=hCg.len;have hmd:=Mid.drew1 w3;replace b0:=b0.mid hmd oZr;replace bt:=bt.mid hmd oZr;replace hm0:=hm0.trans hmd;obtain⟨p0,p1,p2⟩:=b0.c3 rfl;have q1:=bt.cell 1 rfl;have hCAN:=fun W h=>aDq r tn A es c W lo hi h hcl HF.out.gr;simp only[hC] at hCAN;have HCAN:=oH hCAN;clear hCAN hC hCg HB hlf HTS hts hmd;refine aAB (S:=(fun w'=>w'.cell? ⟨w.heap.size,0,none⟩=some (.int .i64 r)/\w'.cell? ⟨w.heap.size,1,none⟩=some (.int .i64 tn)/\w'.cell? ⟨w.heap.size,2,none⟩=some (.slice A es.length c)/\w'.cell? ⟨w2.heap.size,1,none⟩=some (.int .i64 tn))) 11 (by kernel_rfl) ⟨p0,p1,p2,q1⟩ ?_;generalize World.drew w3=wz at b0 bt hm0 p0 p1 p2 q1 |-;have hS:wz.cell? ⟨w.heap.size,0,none⟩=some (.int .i64 r)/\wz.cell? ⟨w.heap.size,1,none⟩=some (.int .i64 tn)/\wz.cell? ⟨w.heap.size,2,none⟩=some (.slice A es.length c)/\wz.cell? ⟨w2.heap.size,1,none⟩=some (.int .i64 tn):=⟨p0,p1,p2,q1⟩
   refine tkT 0 rfl hS ?_;try simp only[oP]
   refine tkT 1 rfl hS ?_;try simp only[oP]
   refine tkT 2 rfl hS ?_;try simp only[oP]
   refine tkT 3 rfl hS ?_;try simp only[oP]
   refine tkT 4 rfl hS ?_;try simp only[oP]
   refine tkT 5 rfl hS ?_;try simp only[oP]
   refine tkT 6 rfl hS ?_;try simp only[oP]
   refine tkT 8 rfl hS ?_;try simp only[oP]
   refine rdT 7 rfl (fun K hK=>?_)
   (go_simp;refine(HCAN.out _ (hr.mid hm0 oZl)).mono ?_;rintro en w4 ⟨A4,c4,rfl,hog4,hm4⟩;have b0':=b0.mid hm4 oZr;have bt':=bt.mid hm4 oZr;go_wp2_with fail)
   refine hK.out _ _ (Or.inr ⟨b0'.cell 0 rfl,b0'.cell 1 rfl,b0'.cell 2 rfl,bt'.cell 1 rfl⟩) (fun _=>?_);clear hK K;try simp only[oP]
   replace hm0:=hm0.trans hm4;have hE:=aHU r C.1 A4 C.2 c4 r tn A es c w4 _ _ _ _ hog4.rg (hr.mid hm0 oZl) (by omega) hl b (by have h:=HB2.out;simpa using h);have HE:=oH hE;clear hS p0 p1 p2 q1 b0 bt HCAN HB2 hE hm4;refine rdT 9 rfl (fun K hK=>?_)
   (go_simp;refine HE.out.mono ?_;rintro en w5 ⟨rfl,hm5⟩;have b0:=b0'.mid hm5 oZr;have bt:=bt'.mid hm5 oZr;go_wp2_with fail)
   refine hK.out _ _ (Or.inr ⟨b0.cell 0 rfl,b0.cell 1 rfl,b0.cell 2 rfl,bt.cell 1 rfl⟩) (fun _=>?_);clear hK K;try simp only[oP]
   have hS2:w5.cell? ⟨w.heap.size,0,none⟩=some (.int .i64 r)/\w5.cell? ⟨w.heap.size,1,none⟩=some (.int .i64 tn)/\w5.cell? ⟨w.heap.size,2,none⟩=some (.slice A es.length c)/\w5.cell? ⟨w2.heap.size,1,none⟩=some (.int .i64 tn):=⟨b0.cell 0 rfl,b0.cell 1 rfl,b0.cell 2 rfl,bt.cell 1 rfl⟩
   have hmm:=hm0.trans hm5;clear HE b0' bt';refine tkT 10 rfl hS2 ?_;try simp only[oP]
   refine rdT 11 rfl (fun K hK=>?_)
   (go_simp)
   refine hK.out _ _ (Or.inl rfl) (fun _=>?_);clear hK K;try simp only[oP]
   refine aAE (by kernel_rfl) ?_ _;go_wp2_with fail;go_ret;exact⟨rfl,hmm⟩
  obtain rfl:b=false:=aBq HB.out fun h=>hts (HTS.out.2 h.leaf);have d1:((tn:Int) == (n:Int))=false:=by simpa only[beq_eq_false_iff_ne] using hts
  have d2:¬ tn=n:=fun h=>hts (by rw[h]);have u0:=aAb b0.1 (b0.cell 0 rfl);have u1:=aAb b0.1 (b0.cell 1 rfl);have u2:=aAb b0.1 (b0.cell 2 rfl);have v1:=aAb bt.1 (bt.cell 1 rfl);clear HB HTS hts;refine wqg ?_;repeat
   (with_reducible refine wpQuiet_step (fun K hK=>?_))
   go_simp
   first|(with_reducible refine hK _ ?_)|(rw[if_neg (by decide)];(with_reducible refine hK _ ?_))|(apply Exists.intro;refine⟨fun _=>?_,hK _ ?_⟩;(fail))
   clear hK K
  with_reducible refine wpQuiet_nil ?_
  rintro _ ⟨⟨nq,osq⟩,rfl⟩;go_wp2_with fail;go_ret;exact⟨rfl,hm0.trans (Mid.ofWg w3 nq osq)⟩
 obtain rfl:b=false:=aBq HB.out fun h=>hf h.fol;have HF:=oH hf;clear hf HB;go_enter Tryz.func105,Tryz.ntmps105
 go_wp2_with fail;with_reducible refine(aAR r s A es c _ _ _ (hr.mid hm0 oZl) hl hcl false (iff_of_false Bool.false_ne_true HF.out)).mono ?_
 rintro en w1 ⟨rfl,hm1⟩;go_wp2_with fail;go_ret;exact⟨rfl,hm0.trans hm1⟩
theorem aNx(r s:Int)(A:Option Addr)(es:List Ed)(c:Nat)(w:World)(lo hi:Nat)(hr:RG w lo hi A es)(hl:es.length<=1048576)(b:Bool)(hb:b=true↔IsCor r s es) :
  Calls Tryz.prog 123 #[aAw r s A es.length c] w fun e w'=>e=.returned (.bool b)/\Mid 0 0 w w':=by
 have HB:=oH hb;clear hb;have hm0:Mid 0 0 w (w.alloc (.cells #[.int .i64 r,.int .i64 s,.slice A es.length c] 35)):=Mid.alloc _ _;have b0:=Box.new w #[.int .i64 r,.int .i64 s,.slice A es.length c] 35;by_cases hf:IsFol r s es
 .obtain⟨r,n,rfl,rfl⟩:=hf.gr.nat
  have HF:=oH hf;clear hf;have hFol:=fun W h=>aAT r n A es c W lo hi h hl true (iff_of_true rfl HF.out);have hLeaf:=fun W h=>aJm r n A es c W lo hi h HF.out.gr;obtain⟨lf,hlf⟩:∃ lf,leafI n es=lf:=⟨_,rfl⟩
  have HLF:=oH hlf;simp only[hlf] at hLeaf;clear hlf;have HFol:=oH hFol;have HLeaf:=oH hLeaf;clear hFol hLeaf;by_cases hln:leaf n es=none
  .have hlf0:lf = -1:=by rw[<- HLF.out,aHs hln]
   subst hlf0;obtain⟨C,hC⟩:∃ C,canonG r ((n:Int),es)=C:=⟨_,rfl⟩
   have hCg:IsGr r C.1 C.2:=by rw[<- hC];exact aEU (g:=((n:Int),es)) HF.out.gr
   have HB2:Hid (b=true↔(r:Int)=r/\C.1=n/\C.2=es):=oH (by
    rw[HB.out];constructor
    .intro h
     have h1:=h.canon;rw[hC] at h1;exact⟨rfl,by rw[h1],by rw[h1]⟩
    .rintro⟨-,h1,h2⟩
     exact⟨HF.out,hln,by rw[hC];exact Prod.ext h1 h2⟩)
   have hcl2:=hCg.len;have hCAN:=fun W h=>aDA r n A es c W lo hi h HF.out.gr;simp only[hC] at hCAN;have HCAN:=oH hCAN;clear hCAN hC hCg HB hln HLF;go_enter Tryz.func123,Tryz.ntmps123
   go_wp2_with fail;generalize w.alloc (.cells #[.int .i64 r,.int .i64 n,.slice A es.length c] 35)=w3 at b0 hm0 |-;have hmd:=Mid.drew1 w3;replace b0:=b0.mid hmd oZr;replace hm0:=hm0.trans hmd;obtain⟨p0,p1,p2⟩:=b0.c3 rfl;clear hmd;refine aAB (S:=(fun w'=>w'.cell? ⟨w.heap.size,0,none⟩=some (.int .i64 r)/\w'.cell? ⟨w.heap.size,1,none⟩=some (.int .i64 n)/\w'.cell? ⟨w.heap.size,2,none⟩=some (.slice A es.length c))) 13 (by kernel_rfl) ⟨p0,p1,p2⟩ ?_;generalize World.drew w3=wz at b0 hm0 p0 p1 p2 |-;have hS:wz.cell? ⟨w.heap.size,0,none⟩=some (.int .i64 r)/\wz.cell? ⟨w.heap.size,1,none⟩=some (.int .i64 n)/\wz.cell? ⟨w.heap.size,2,none⟩=some (.slice A es.length c):=⟨p0,p1,p2⟩
   refine tkT 0 rfl hS ?_;try simp only[oP]
   refine rdT 1 rfl (fun K hK=>?_)
   (go_simp;refine(HFol.out _ (hr.mid hm0 oZl)).mono ?_;rintro en w4 ⟨rfl,hm4⟩;have b1:=b0.mid hm4 oZr;go_wp2_with fail)
   refine hK.out _ _ (Or.inr (b1.c3 rfl)) (fun _=>?_);clear hK K;try simp only[oP]
   replace hm0:=hm0.trans hm4;have hS4:w4.cell? ⟨w.heap.size,0,none⟩=some (.int .i64 r)/\w4.cell? ⟨w.heap.size,1,none⟩=some (.int .i64 n)/\w4.cell? ⟨w.heap.size,2,none⟩=some (.slice A es.length c):=b1.c3 rfl
   clear b0 hS p0 p1 p2 hm4 HFol;refine tkT 2 rfl hS4 ?_;try simp only[oP]
   refine tkT 3 rfl hS4 ?_;try simp only[oP]
   refine rdT 4 rfl (fun K hK=>?_)
   (go_simp;refine(HLeaf.out _ (hr.mid hm0 oZl)).mono ?_;rintro en w5 ⟨rfl,hm5⟩;have b2:=b1.mid hm5 oZr;go_wp2_with fail)
   refine hK.out _ _ (Or.inr (b2.c3 rfl)) (fun _=>?_);clear hK K;try simp only[oP]
   replace hm0:=hm0.trans hm5;have hS5:w5.cell? ⟨w.heap.size,0,none⟩=some (.int .i64 r)/\w5.cell? ⟨w.heap.size,1,none⟩=some (.int .i64 n)/\w5.cell? ⟨w.heap.size,2,none⟩=some (.slice A es.length c):=b2.c3 rfl
   clear b1 hS4 hm5 HLeaf;refine tkT 5 rfl hS5 ?_;try simp only[oP]
   refine tkT 6 rfl hS5 ?_;try simp only[oP]
   refine tkT 7 rfl hS5 ?_;try simp only[oP]
   refine tkT 8 rfl hS5 ?_;try simp only[oP]
   refine tkT 10 rfl hS5 ?_;try simp only[oP]
   refine rdT 9 rfl (fun K hK=>?_)
   (go_simp;refine(HCAN.out _ (hr.mid hm0 oZl)).mono ?_;rintro en w6 ⟨A6,c6,rfl,hog6,hm6⟩;have b3:=b2.mid hm6 oZr;go_wp2_with fail)
   refine hK.out _ _ (Or.inr (b3.c3 rfl)) (fun _=>?_);clear hK K;try simp only[oP]
   replace hm0:=hm0.trans hm6;have hE:=aBi r C.1 A6 C.2 c6 r n A es c w6 _ _ _ _ hog6.rg (hr.mid hm0 oZl) (by omega) hl b (by have h:=HB2.out;simpa using h);have HE:=oH hE;clear hS5 b2 HCAN HB2 hE hm6;refine rdT 11 rfl (fun K hK=>?_)
   (go_simp;refine HE.out.mono ?_;rintro en w7 ⟨rfl,hm7⟩;have b4:=b3.mid hm7 oZr;go_wp2_with fail)
   refine hK.out _ _ (Or.inr (b4.c3 rfl)) (fun _=>?_);clear hK K;try simp only[oP]
   have hS7:w7.cell? ⟨w.heap.size,0,none⟩=some (.int .i64 r)/\w7.cell? ⟨w.heap.size,1,none⟩=some (.int .i64 n)/\w7.cell? ⟨w.heap.size,2,none⟩=some (.slice A es.length c):=b4.c3 rfl
   have hmm:=hm0.trans hm7;clear HE b3;refine tkT 12 rfl hS7 ?_;try simp only[oP]
   refine rdT 13 rfl (fun K hK=>?_)
   (go_simp)
   refine hK.out _ _ (Or.inl rfl) (fun _=>?_);clear hK K;try simp only[oP]
   refine aAE (by kernel_rfl) ?_ _;go_wp2_with fail;go_ret;exact⟨rfl,hmm⟩
  obtain rfl:b=false:=aBq HB.out fun h=>hln h.leaf;obtain⟨v,hv⟩:∃ v:Nat,leaf n es=some v:=by
   cases h:leaf n es with
  |none=>exact absurd h hln
  |some v=>exact⟨v,rfl⟩
  have hlf0:lf=v:=by rw[<- HLF.out,aFt hv]
  subst hlf0;have d1:decide ((v:Int)<0)=false:=by simp
  clear HB hln hv HLF;go_enter Tryz.func123,Tryz.ntmps123
  go_wp2_with fail;generalize w.alloc (.cells #[.int .i64 r,.int .i64 n,.slice A es.length c] 35)=w3 at b0 hm0 |-;have u0:=aAb b0.1 (b0.cell 0 rfl);have u1:=aAb b0.1 (b0.cell 1 rfl);have u2:=aAb b0.1 (b0.cell 2 rfl);have hA1:=fun m os=>HFol.out (wg w3 m os) (hr.mid (hm0.trans (Mid.ofWg w3 m os)) oZl);have hA2:=fun m os=>HLeaf.out (wg w3 m os) (hr.mid (hm0.trans (Mid.ofWg w3 m os)) oZl);refine wqg ?_;repeat
   (with_reducible refine wpQuiet_step (fun K hK=>?_))
   go_simp
   first|(with_reducible refine hK _ ?_)|(rw[if_neg (by decide)];(with_reducible refine hK _ ?_))|(apply Exists.intro;refine⟨fun _=>?_,hK _ ?_⟩;((first|(go_at_call 126;exact Calls.wg_of (hA1 _ _))|(go_at_call 196;exact Calls.wg_of (hA2 _ _)))))
   clear hK K
  with_reducible refine wpQuiet_nil ?_
  rintro _ ⟨⟨nq,osq⟩,rfl⟩;go_wp2_with fail;go_ret;exact⟨rfl,hm0.trans (Mid.ofWg w3 nq osq)⟩
 obtain rfl:b=false:=aBq HB.out fun h=>hf h.fol;have hFol:=fun W h=>aAT r s A es c W lo hi h hl false (iff_of_false Bool.false_ne_true hf);have HFol:=oH hFol;clear hf HB hFol;go_enter Tryz.func123,Tryz.ntmps123
 go_wp2_with fail;generalize w.alloc (.cells #[.int .i64 r,.int .i64 s,.slice A es.length c] 35)=w3 at b0 hm0 |-;have u0:=aAb b0.1 (b0.cell 0 rfl);have u1:=aAb b0.1 (b0.cell 1 rfl);have u2:=aAb b0.1 (b0.cell 2 rfl);have hA1:=fun m os=>HFol.out (wg w3 m os) (hr.mid (hm0.trans (Mid.ofWg w3 m os)) oZl);refine wqg ?_;repeat
  (with_reducible refine wpQuiet_step (fun K hK=>?_))
  go_simp
  first|(with_reducible refine hK _ ?_)|(rw[if_neg (by decide)];(with_reducible refine hK _ ?_))|(apply Exists.intro;refine⟨fun _=>?_,hK _ ?_⟩;((go_at_call 126;exact Calls.wg_of (hA1 _ _))))
  clear hK K
 with_reducible refine wpQuiet_nil ?_
 rintro _ ⟨⟨nq,osq⟩,rfl⟩;go_wp2_with fail;go_ret;exact⟨rfl,hm0.trans (Mid.ofWg w3 nq osq)⟩
theorem aAn(r s:Int)(A:Option Addr)(es:List Ed)(c:Nat)(w:World)(lo hi:Nat)(hr:RG w lo hi A es)(hl:es.length<=1048576)(b:Bool)(hb:b=true↔IsCor r s es) :
  Calls Tryz.prog 45 #[aAw r s A es.length c] w fun e w'=>e=.returned (.bool b)/\Mid 0 0 w w':=by
 have hm0:Mid 0 0 w (w.alloc (.cells #[.int .i64 r,.int .i64 s,.slice A es.length c] 35)):=Mid.alloc _ _;have HB:=oH hb;clear hb;go_enter Tryz.func45,Tryz.ntmps45
 go_wp2_with fail;with_reducible refine(aNx r s A es c _ _ _ (hr.mid hm0 oZl) hl b HB.out).mono ?_
 rintro en w1 ⟨rfl,hm1⟩;go_wp2_with fail;go_ret;exact⟨rfl,hm0.trans hm1⟩
open Classical in
noncomputable def rankI (r s:Int) (es:List Ed):Int:=if IsCor r s es then(es.length:Int) - s+1 else -1
theorem aMU(r s:Int)(A:Option Addr)(es:List Ed)(c:Nat)(w:World)(lo hi:Nat)(hr:RG w lo hi A es)(hl:es.length<=1048576)(hcl:es.length<=c) :
  Calls Tryz.prog 19 #[aAw r s A es.length c] w fun e w'=>e=.returned (.int .i64 (rankI r s es))/\Mid 0 0 w w':=by
 have hm0:Mid 0 0 w (w.alloc (.cells #[.int .i64 r,.int .i64 s,.slice A es.length c] 35)):=Mid.alloc _ _;have b0:=Box.new w #[.int .i64 r,.int .i64 s,.slice A es.length c] 35;by_cases h:IsCor r s es
 .have HR:Hid (rankI r s es=(es.length:Int) - s+1):=oH (by rw[rankI,if_pos h])
  have hsz:=h.fol.gr.size;have HC:=oH h;clear h;go_enter Tryz.func19,Tryz.ntmps19
  go_wp2_with fail;with_reducible refine(aAt r s A es c _ _ _ (hr.mid hm0 oZl) hl hcl true (iff_of_true rfl HC.out)).mono ?_
  rintro en w1 ⟨rfl,hm1⟩;replace b0:=b0.mid hm1 oZr;replace hm0:=hm0.trans hm1;obtain⟨p0,p1,p2⟩:=b0.c3 rfl;go_wp2_with fail;go_ret;exact⟨by rw[HR.out];rfl,hm0⟩
 have HR:Hid (rankI r s es = -1):=oH (by rw[rankI,if_neg h]);have HC:=oH h;clear h;go_enter Tryz.func19,Tryz.ntmps19
 go_wp2_with fail;with_reducible refine(aAt r s A es c _ _ _ (hr.mid hm0 oZl) hl hcl false (iff_of_false Bool.false_ne_true HC.out)).mono ?_
 rintro en w1 ⟨rfl,hm1⟩;go_wp2_with fail;go_ret;exact⟨by rw[HR.out];rfl,hm0.trans hm1⟩
theorem aNy(r s:Int)(A:Option Addr)(es:List Ed)(c:Nat)(w:World)(lo hi:Nat)(hr:RG w lo hi A es)(hl:es.length<=1048576) :
  Calls Tryz.prog 143 #[aAw r s A es.length c] w fun e w'=>e=.returned (.int .i64 (rankI r s es))/\Mid 0 0 w w':=by
 have hm0:Mid 0 0 w (w.alloc (.cells #[.int .i64 r,.int .i64 s,.slice A es.length c] 35)):=Mid.alloc _ _;have b0:=Box.new w #[.int .i64 r,.int .i64 s,.slice A es.length c] 35;by_cases h:IsCor r s es
 .have HR:Hid (rankI r s es=(es.length:Int) - s+1):=oH (by rw[rankI,if_pos h])
  have hsz:=h.fol.gr.size;have HC:=oH h;clear h;go_enter Tryz.func143,Tryz.ntmps143
  go_wp2_with fail;with_reducible refine(aAn r s A es c _ _ _ (hr.mid hm0 oZl) hl true (iff_of_true rfl HC.out)).mono ?_
  rintro en w1 ⟨rfl,hm1⟩;replace b0:=b0.mid hm1 oZr;replace hm0:=hm0.trans hm1;obtain⟨p0,p1,p2⟩:=b0.c3 rfl;go_wp2_with fail;go_ret;exact⟨by rw[HR.out];rfl,hm0⟩
 have HR:Hid (rankI r s es = -1):=oH (by rw[rankI,if_neg h]);have HC:=oH h;clear h;go_enter Tryz.func143,Tryz.ntmps143
 go_wp2_with fail;with_reducible refine(aAn r s A es c _ _ _ (hr.mid hm0 oZl) hl false (iff_of_false Bool.false_ne_true HC.out)).mono ?_
 rintro en w1 ⟨rfl,hm1⟩;go_wp2_with fail;go_ret;exact⟨by rw[HR.out];rfl,hm0.trans hm1⟩
def aEP(r s:Int)(es:List Ed)(r' s':Int)(es':List Ed):Prop:=IsCor r s es/\IsCor r' s' es'/\r=r'
def CompIs(r s:Int)(es:List Ed)(r' s':Int)(es':List Ed)(res:List Int):Prop:=
 (aEP r s es r' s' es'/\res=(aAm es es' r.toNat s'.toNat (s.toNat * s'.toNat)).2) \/ (¬ aEP r s es r' s' es'/\res=[])
theorem aLm(r s:Int)(es:List Ed)(r' s':Int)(es':List Ed):∃ res,CompIs r s es r' s' es' res:=by
 by_cases h:aEP r s es r' s' es'
 .exact⟨_,.inl ⟨h,rfl⟩⟩
 exact⟨_,.inr ⟨h,rfl⟩⟩
theorem CompIs.no{r s:Int}{es:List Ed}{r' s':Int}{es':List Ed}{res:List Int}(h:CompIs r s es r' s' es' res)(hn:¬ aEP r s es r' s' es'):res=[]:=by
 rcases h with⟨h, -⟩|⟨-,h⟩
 .exact absurd h hn
 exact h
theorem CompIs.yes{r s:Int}{es:List Ed}{r' s':Int}{es':List Ed}{res:List Int}(h:CompIs r s es r' s' es' res)(hn:aEP r s es r' s' es'):res=(aAm es es' r.toNat s'.toNat (s.toNat * s'.toNat)).2:=by
 rcases h with⟨-,h⟩|⟨h, -⟩
 .exact h
 exact absurd hn h
theorem CompIs.lens{r s:Int}{es:List Ed}{r' s':Int}{es':List Ed}{res:List Int}(h:CompIs r s es r' s' es' res):res.length<=1600:=by
 rcases h with⟨h,e⟩|⟨-,e⟩
 .rw[e]
  have h1:=aFp es es' r.toNat s'.toNat (s.toNat * s'.toNat);have h2:=h.1.gr.size;have h3:=h.2.1.gr.size;have h4:s.toNat * s'.toNat<=40 * 40:=Nat.mul_le_mul (by omega) (by omega);omega
 rw[e];simp
theorem aRh{ea eb:List Ed}{r:Nat}{P:PS}(hr:r<=3)(hP:P.length<=1600):-1600<=aDy ea eb r P/\aDy ea eb r P<=4801:=by
 have h1:=aCv ea eb r P P.length;have h2:P.length * r<=1600 * 3:=Nat.mul_le_mul hP hr;unfold aDy;omega
theorem RV.pc{w:World}{lo hi:Nat}{A:Option Addr}{ps:List Pc}{k:Nat}(h:RV w lo hi A (pcV ps))(hk:k<ps.length) :
  ∃ b off p,A=some ⟨b,off,none⟩/\b<hi/\ps[k]?=some p/\w.cell? ⟨b,off+k * 5,none⟩=some (.int .i64 p.u)/\w.cell? ⟨b,off+k * 5+1,none⟩=some (.int .i64 p.v)/\w.cell? ⟨b,off+k * 5+2,none⟩=some (.int .i64 p.n)/\w.cell? ⟨b,off+k * 5+3,none⟩=some (.int .i64 p.m)/\w.cell? ⟨b,off+k * 5+4,none⟩=some (.bool p.e):=by
 obtain⟨p,hp⟩:=aAs ps hk;obtain⟨b,off,e, -,hb,hc⟩:=h.2 (by intro h0;have:=congrArg List.length h0;rw[aRl] at this;simp at this;omega);refine⟨b,off,p,e,hb,hp,hc (k * 5) _ (aKc (i:=0) hp rfl),hc (k * 5+1) _ (aKc (i:=1) hp rfl),hc (k * 5+2) _ (aKc (i:=2) hp rfl),hc (k * 5+3) _ (aKc (i:=3) hp rfl),hc (k * 5+4) _ (aKc (i:=4) hp rfl)⟩
theorem aDr(r s:Int)(A:Option Addr)(es:List Ed)(c:Nat)(r' s':Int)(B:Option Addr)(es':List Ed)(d:Nat)(w:World)(lo hi lo2 hi2:Nat)(hr:RG w lo hi A es)(hr2:RG w lo2 hi2 B es')(hl:es.length<=1048576)(hl2:es'.length<=1048576)(hcl:es.length<=c)(hcl2:es'.length<=d)(res:List Int)(hres:CompIs r s es r' s' es' res) :
  Calls Tryz.prog 43 #[aAw r s A es.length c,aAw r' s' B es'.length d] w fun e w'=>∃ A1 c1,e=.returned (.slice A1 res.length c1)/\OI w' w.heap.size w'.heap.size A1 c1 res/\Mid 0 0 w w':=by
 have HR:=oH hres;clear hres;obtain⟨b1,hb1⟩:=aAC (IsCor r s es);have H1:=oH hb1;obtain⟨b2,hb2⟩:=aAC (IsCor r' s' es');have H2:=oH hb2;clear hb1 hb2;have hm0:Mid 0 0 w (((w.alloc (.cells #[.int .i64 r,.int .i64 s,.slice A es.length c] 35)).alloc (.cells #[.int .i64 r',.int .i64 s',.slice B es'.length d] 35)).alloc (.cells #[] 3)):=((Mid.alloc _ _).trans (Mid.alloc _ _)).trans (Mid.alloc _ _);have B0:=((Box.new w #[.int .i64 r,.int .i64 s,.slice A es.length c] 35).mid (Mid.alloc _ (.cells #[.int .i64 r',.int .i64 s',.slice B es'.length d] 35)) oZr).mid (Mid.alloc _ (.cells #[] 3)) oZr;have B1:=(Box.new (w.alloc (.cells #[.int .i64 r,.int .i64 s,.slice A es.length c] 35)) #[.int .i64 r',.int .i64 s',.slice B es'.length d] 35).mid (Mid.alloc _ (.cells #[] 3)) oZr;have O0:=aAi ((w.alloc (.cells #[.int .i64 r,.int .i64 s,.slice A es.length c] 35)).alloc (.cells #[.int .i64 r',.int .i64 s',.slice B es'.length d] 35)) 3 1;simp only[World.size_alloc] at B1 O0;go_enter Tryz.func43,Tryz.ntmps43
 go_wp2_with fail;generalize hw1:((w.alloc (.cells #[.int .i64 r,.int .i64 s,.slice A es.length c] 35)).alloc (.cells #[.int .i64 r',.int .i64 s',.slice B es'.length d] 35)).alloc (.cells #[] 3)=w1 at hm0 B0 B1 O0 |-;have hs1:w.heap.size+1+1<w1.heap.size:=by rw[<- hw1];simp
 clear hw1;with_reducible refine(aAt r s A es c _ _ _ (hr.mid hm0 oZl) hl hcl b1 H1.out).mono ?_
 rintro en w2 ⟨rfl,hm2⟩;replace B0:=B0.mid hm2 oZr;replace B1:=B1.mid hm2 oZr;replace O0:=aAc O0 hm2 oZl;replace hm0:=hm0.trans hm2;have hs2:=hm2.size;obtain⟨p0,p1,p2⟩:=B0.c3 rfl;obtain⟨k0,k1,k2⟩:=B1.c3 rfl;cases b1 with
|false=>
  have hno:¬ aEP r s es r' s' es':=fun h=>by
   have:=H1.out.2 h.1;cases this
  obtain rfl:=HR.out.no hno;go_wp2_with fail;go_ret;exact⟨_,_,rfl,⟨oN,aAp O0 (by omega),fun g hg=>(O0.lt g hg).2⟩,hm0⟩
|true=>
 have F1:=oH (H1.out.1 rfl);clear H1;go_wp2_with fail;with_reducible refine(aAt r' s' B es' d _ _ _ (hr2.mid hm0 oZl) hl2 hcl2 b2 H2.out).mono ?_
 rintro en w3 ⟨rfl,hm3⟩;replace B0:=B0.mid hm3 oZr;replace B1:=B1.mid hm3 oZr;replace O0:=aAc O0 hm3 oZl;replace hm0:=hm0.trans hm3;have hs3:=hm3.size;clear p0 p1 p2 k0 k1 k2;obtain⟨p0,p1,p2⟩:=B0.c3 rfl;obtain⟨k0,k1,k2⟩:=B1.c3 rfl;cases b2 with
|false=>
  have hno:¬ aEP r s es r' s' es':=fun h=>by
   have:=H2.out.2 h.2.1;cases this
  obtain rfl:=HR.out.no hno;go_wp2_with fail;go_ret;exact⟨_,_,rfl,⟨oN,aAp O0 (by omega),fun g hg=>(O0.lt g hg).2⟩,hm0⟩
|true=>
 have F2:=oH (H2.out.1 rfl);have g1:=F1.out.gr.rank;have g2:=F1.out.gr.size;have g3:=F2.out.gr.size;have g4:=F1.out.gr.len;have g5:=F2.out.gr.len;clear H2;rcases(Decidable.em (r=r')).symm with hrk|hrk
 .have h1a:(r != r')=true:=by simpa using hrk
  have hrk':=oH hrk;have hno:¬ aEP r s es r' s' es':=fun h=>by
   exact hrk'.out h.2.2
  obtain rfl:=HR.out.no hno;go_wp2_with fail;go_ret;exact⟨_,_,rfl,⟨oN,aAp O0 (by omega),fun g hg=>(O0.lt g hg).2⟩,hm0⟩
 subst hrk;obtain⟨rn,rfl⟩:∃ n:Nat,r=n:=⟨r.toNat,by omega⟩
 obtain⟨sn,rfl⟩:∃ n:Nat,s=n:=⟨s.toNat,by omega⟩
 obtain⟨tn,rfl⟩:∃ n:Nat,s'=n:=⟨s'.toNat,by omega⟩
 have hre:=HR.out.yes ⟨F1.out,F2.out,rfl⟩;rw[Int.toNat_natCast,Int.toNat_natCast,Int.toNat_natCast] at hre;have HRE:Sec (res=(aAm es es' rn tn (sn * tn)).2):=⟨hre⟩
 have hst16:sn * tn<=40 * 40:=Nat.mul_le_mul (by omega) (by omega);have HST:=oH hst16;have HSW:Hid (w.heap.size+1+1<w3.heap.size):=oH (by omega);clear hre HR hst16;go_wp2_with fail;with_reducible refine(aMX rn sn tn A es c B es' d _ _ _ _ _ (hr.mid hm0 oZl) (hr2.mid hm0 oZl) F1.out.fol F2.out.fol).mono ?_
 rintro en w5 ⟨A5,c5,ps,V,rfl,hps,hrv,hm5⟩;have O0':=O0;replace B0:=B0.mid hm5 oZr;replace B1:=B1.mid hm5 oZr;replace O0:=aAc O0 hm5 oZl;replace hm0:=hm0.trans hm5;have hs5:=hm5.size;have HRV:=oH hrv;have HPS:=oH hps;have hpl:=hps.len;have HRK:Sec (ps.map (fun p=>p.m - p.n+1)=(aAm es es' rn tn (sn * tn)).2):=⟨hps.rk⟩
 have HBD:=oH hps.bd;have hpl16:ps.length<=1600:=by have:=HST.out;omega
 generalize (some (⟨w.heap.size+1+1,0,none⟩:Addr))=AO at O0 O0' |-;clear hm5 hrv hps hpl p0 p1 p2 k0 k1 k2 HPS;obtain⟨L,hL⟩:∃ L,ps.length=L:=⟨_,rfl⟩
 have HL:=oH hL;rw[hL] at hpl16 |-;clear hL;go_wp2_with fail;have hd1:∀ g,Value.ownBlock (.slice AO 0 0)=some g->g<w3.heap.size \/ w5.heap.size<=g:=fun g hg=>Or.inl (O0'.lt g hg).2;have HD0:=oH hd1;have HO0:=oH O0;generalize w3.heap.size=Lq at HRV HD0 hs5 HSW;generalize w5.heap.size=Hq at HRV HD0 hs5;clear O0 O0' hd1 B0 B1;go_loopw [5,35] (fun ov iv wr=>∃(k:Nat) (A1:Option Addr) (c1:Nat),Hid (k<=L)/\iv=.int .i64 k/\ov=.slice A1 k c1/\Hid (wr.ownsRow (w.heap.size+1+1) 3 1 (.slice A1 k c1) k (aAd ((ps.map (fun p=>p.m - p.n+1)).take k)))/\Hid (RV wr Lq Hq A5 (pcV ps))/\Hid (∀ g,Value.ownBlock (.slice A1 k c1)=some g->g<Lq \/ Hq<=g)/\Mid 0 0 w wr) (fun _ iv _=>L - (intOf iv).toNat)
 case atStart=>exact⟨0,AO,0,oH oZ,rfl,rfl,HO0,HRV,HD0,hm0⟩
 clear HO0 HRV HD0 hm0;obtain⟨wo,hwo⟩:∃ wo,wo=wr:=⟨_,rfl⟩
 subst hwo;obtain⟨k,A1,c1,HK,rfl,rfl,HO,HRV,HD,hm⟩:=hrel;have hkL:=HK.out;by_cases hlt:k<L
 .obtain⟨B5,off,p,hA5,hB5,hp,e0,e1,e2,e3,e4⟩:=HRV.out.pc (k:=k) (by rw[HL.out];exact hlt)
  subst hA5;have hbd:=HBD.out p (List.mem_of_getElem? hp);have HP:=oH hp;obtain⟨pu,pv,pn,pm,pe⟩:=p;simp only at e0 e1 e2 e3 e4 hbd;have hk0:(0:Int)<=(k:Int):=by omega
  have hk1:(k:Int)<(L:Int):=by omega
  have hb5:B5<wo.heap.size:=Nat.lt_of_lt_of_le hB5 HRV.out.1;have hal:=Mid.alloc wo (.cells #[.int .i64 pu,.int .i64 pv,.int .i64 pn,.int .i64 pm,.bool pe] 120);have ZE:=Box.new wo #[.int .i64 pu,.int .i64 pv,.int .i64 pn,.int .i64 pm,.bool pe] 120;have HO1:=oH (HO.out.alloc (.cells #[.int .i64 pu,.int .i64 pv,.int .i64 pn,.int .i64 pm,.bool pe] 120));have HRV1:=oH (HRV.out.mid hal oZl);have hm1:=hm.trans hal;have z2:=ZE.cell 2 rfl;have z3:=ZE.cell 3 rfl;clear hp HO HRV hm hal ZE;go_wp2_with (at_builtin;refine MarkerX.to ?_)
  unfold MarkerX;generalize hw8:wo.alloc (.cells #[.int .i64 pu,.int .i64 pv,.int .i64 pn,.int .i64 pm,.bool pe] 120)=w8 at HO1 HRV1 hm1 |-;have hs8:wo.heap.size+1=w8.heap.size:=by rw[<- hw8];simp
  rw[hs8];have hwo2:=hm1.size;have hb8:w.heap.size+1+1<=w8.heap.size:=by have h1:=HSW.out;have h2:=HRV1.out.1;omega
  clear hw8 z2 z3 e0 e1 e2 e3 e4;refine aBl rfl _ _ rfl (w.heap.size+1+1) _ k _ _ rfl HO1.out (pm - pn+1) rfl (by omega) hb8 ?_;intro A2 c2 w12 ho12 hgr12 hat12;have hm12:=Mid.of_grownRow HO1.out hgr12;have hs12:=hm12.size;have HRV2:=oH (HRV1.out.grown hgr12 HD.out);have hHq:Hq<=w8.heap.size:=HRV1.out.1;have HD2:Hid (∀ g,Value.ownBlock (.slice A2 (k+1) c2)=some g->g<Lq \/ Hq<=g):=oH (by
   intro g hg;rcases hat12 with h|h
   .exact HD.out g (h.symm.trans hg)
   .rw[h] at hg
    injection hg with hg
    omega)
  have htk:(ps.map (fun p=>p.m - p.n+1)).take (k+1)=(ps.map (fun p=>p.m - p.n+1)).take k++[pm - pn+1]:=by
   refine aBv _ ?_;rw[List.getElem?_map,HP.out]
   rfl
  rw[<- htk] at ho12;have HO2:=oH ho12;have hm2':=hm1.transNew hm12 (Or.inl (by omega));clear ho12 hgr12 hat12 hm12 htk HRV1 HO1 HD hm1;go_wp2_with fail;go_roundw
  case rel=>exact⟨k+1,A2,c2,oH (by omega),by go_num,rfl,HO2,HRV2,HD2,hm2'⟩
  simp[intOf];omega
 obtain rfl:L=k:=by omega
 have htk:(ps.map (fun p=>p.m - p.n+1)).take L=res:=by rw[HRE.out,<- HRK.out];exact List.take_of_length_le (by rw[List.length_map,HL.out];exact oN)
 have hlen:res.length=L:=by rw[<- htk,List.length_take,List.length_map,HL.out];omega
 rw[htk] at HO;have HLEN:=oH hlen;clear htk hlen HRE HRK;go_wp2_with fail;go_ret;exact⟨A1,c1,by rw[HLEN.out];rfl,⟨oN,by rw[HLEN.out];exact aAp HO.out (by omega),fun g hg=>by rw[HLEN.out] at hg;exact(HO.out.lt g hg).2⟩,hm⟩
theorem aDB(r s:Int)(A:Option Addr)(es:List Ed)(c:Nat)(r' s':Int)(B:Option Addr)(es':List Ed)(d:Nat)(w:World)(lo hi lo2 hi2:Nat)(hr:RG w lo hi A es)(hr2:RG w lo2 hi2 B es')(hl:es.length<=1048576)(hl2:es'.length<=1048576)(res:List Int)(hres:CompIs r s es r' s' es' res) :
  Calls Tryz.prog 44 #[aAw r s A es.length c,aAw r' s' B es'.length d] w fun e w'=>∃ A1 c1,e=.returned (.slice A1 res.length c1)/\OI w' w.heap.size w'.heap.size A1 c1 res/\Mid 0 0 w w':=by
 have HR:=oH hres;clear hres;obtain⟨b1,hb1⟩:=aAC (IsCor r s es);have H1:=oH hb1;obtain⟨b2,hb2⟩:=aAC (IsCor r' s' es');have H2:=oH hb2;clear hb1 hb2;have hm0:Mid 0 0 w (((w.alloc (.cells #[.int .i64 r,.int .i64 s,.slice A es.length c] 35)).alloc (.cells #[.int .i64 r',.int .i64 s',.slice B es'.length d] 35)).alloc (.cells #[] 3)):=((Mid.alloc _ _).trans (Mid.alloc _ _)).trans (Mid.alloc _ _);have B0:=((Box.new w #[.int .i64 r,.int .i64 s,.slice A es.length c] 35).mid (Mid.alloc _ (.cells #[.int .i64 r',.int .i64 s',.slice B es'.length d] 35)) oZr).mid (Mid.alloc _ (.cells #[] 3)) oZr;have B1:=(Box.new (w.alloc (.cells #[.int .i64 r,.int .i64 s,.slice A es.length c] 35)) #[.int .i64 r',.int .i64 s',.slice B es'.length d] 35).mid (Mid.alloc _ (.cells #[] 3)) oZr;have O0:=aAi ((w.alloc (.cells #[.int .i64 r,.int .i64 s,.slice A es.length c] 35)).alloc (.cells #[.int .i64 r',.int .i64 s',.slice B es'.length d] 35)) 3 1;simp only[World.size_alloc] at B1 O0;go_enter Tryz.func44,Tryz.ntmps44
 go_wp2_with fail;generalize hw1:((w.alloc (.cells #[.int .i64 r,.int .i64 s,.slice A es.length c] 35)).alloc (.cells #[.int .i64 r',.int .i64 s',.slice B es'.length d] 35)).alloc (.cells #[] 3)=w1 at hm0 B0 B1 O0 |-;have hs1:w.heap.size+1+1<w1.heap.size:=by rw[<- hw1];simp
 clear hw1;with_reducible refine(aAn r s A es c _ _ _ (hr.mid hm0 oZl) hl b1 H1.out).mono ?_
 rintro en w2 ⟨rfl,hm2⟩;replace B0:=B0.mid hm2 oZr;replace B1:=B1.mid hm2 oZr;replace O0:=aAc O0 hm2 oZl;replace hm0:=hm0.trans hm2;have hs2:=hm2.size;obtain⟨p0,p1,p2⟩:=B0.c3 rfl;obtain⟨k0,k1,k2⟩:=B1.c3 rfl;cases b1 with
|false=>
  have hno:¬ aEP r s es r' s' es':=fun h=>by
   have:=H1.out.2 h.1;cases this
  obtain rfl:=HR.out.no hno;go_wp2_with fail;go_ret;exact⟨_,_,rfl,⟨oN,aAp O0 (by omega),fun g hg=>(O0.lt g hg).2⟩,hm0⟩
|true=>
 have F1:=oH (H1.out.1 rfl);clear H1;go_wp2_with fail;with_reducible refine(aAn r' s' B es' d _ _ _ (hr2.mid hm0 oZl) hl2 b2 H2.out).mono ?_
 rintro en w3 ⟨rfl,hm3⟩;replace B0:=B0.mid hm3 oZr;replace B1:=B1.mid hm3 oZr;replace O0:=aAc O0 hm3 oZl;replace hm0:=hm0.trans hm3;have hs3:=hm3.size;clear p0 p1 p2 k0 k1 k2;obtain⟨p0,p1,p2⟩:=B0.c3 rfl;obtain⟨k0,k1,k2⟩:=B1.c3 rfl;cases b2 with
|false=>
  have hno:¬ aEP r s es r' s' es':=fun h=>by
   have:=H2.out.2 h.2.1;cases this
  obtain rfl:=HR.out.no hno;go_wp2_with fail;go_ret;exact⟨_,_,rfl,⟨oN,aAp O0 (by omega),fun g hg=>(O0.lt g hg).2⟩,hm0⟩
|true=>
 have F2:=oH (H2.out.1 rfl);have g1:=F1.out.gr.rank;have g2:=F1.out.gr.size;have g3:=F2.out.gr.size;have g4:=F1.out.gr.len;have g5:=F2.out.gr.len;clear H2;rcases(Decidable.em (r=r')).symm with hrk|hrk
 .have h1a:(r != r')=true:=by simpa using hrk
  have hrk':=oH hrk;have hno:¬ aEP r s es r' s' es':=fun h=>by
   exact hrk'.out h.2.2
  obtain rfl:=HR.out.no hno;go_wp2_with fail;go_ret;exact⟨_,_,rfl,⟨oN,aAp O0 (by omega),fun g hg=>(O0.lt g hg).2⟩,hm0⟩
 subst hrk;obtain⟨rn,rfl⟩:∃ n:Nat,r=n:=⟨r.toNat,by omega⟩
 obtain⟨sn,rfl⟩:∃ n:Nat,s=n:=⟨s.toNat,by omega⟩
 obtain⟨tn,rfl⟩:∃ n:Nat,s'=n:=⟨s'.toNat,by omega⟩
 have hre:=HR.out.yes ⟨F1.out,F2.out,rfl⟩;rw[Int.toNat_natCast,Int.toNat_natCast,Int.toNat_natCast] at hre;have HRE:Sec (res=(aAm es es' rn tn (sn * tn)).2):=⟨hre⟩
 have hst16:sn * tn<=40 * 40:=Nat.mul_le_mul (by omega) (by omega);have HST:=oH hst16;have HSW:Hid (w.heap.size+1+1<w3.heap.size):=oH (by omega);clear hre HR hst16;obtain⟨N,hN⟩:∃ N:Nat,(sn:Int) * (tn:Int)=(N:Int):=⟨sn * tn,by simp⟩
 have hNN:sn * tn=N:=by exact_mod_cast hN
 have hN16:N<=1600:=by have:=HST.out;omega
 have hmx:N<=maxLen:=by unfold maxLen;omega
 have HNN:=oH hN;have HNM:=oH hNN;rw[hNN] at HRE;have htn0:¬ tn=0:=by omega
 clear hNN p0 p1 p2 k0 k1 k2;obtain⟨p0,p1,p2⟩:=B0.c3 rfl;obtain⟨k0,k1,k2⟩:=B1.c3 rfl;go_wp2_with (at_make;refine MarkerX.to ?_)
 unfold MarkerX;refine aCB rfl _ _ 121 rfl 4 (.bool false) 1 aSM aSj rfl .i64 .i64 _ _ N rfl rfl rfl rfl (by omega) hmx ?_;intro w5 hown5 hgr5 hsz5;have hmg:=Mid.of_grown (lo:=0) (hi:=0) hgr5 (by intro g h;cases h);replace hm0:=hm0.trans hmg;replace B0:=B0.mid hmg oZr;replace B1:=B1.mid hmg oZr;have O1:=aAc O0 hmg oZl;have hO3:∀ g,Value.ownBlock (.slice (some (⟨w.heap.size+1+1,0,none⟩:Addr)) 0 0)=some g->g≠w3.heap.size:=fun g hg=>Nat.ne_of_lt (O0.lt g hg).2;have hsb:w.heap.size+1+1<w3.heap.size:=HSW.out;obtain⟨Sb,hSb⟩:∃ Sb,w3.heap.size=Sb:=⟨_,rfl⟩
 rw[hSb] at hown5 hsz5 hO3 hsb |-;rw[<- aFE] at hown5;have HO1:=oH O1;have HS1:=oH hown5;have HD1:=oH hO3;generalize (some (⟨w.heap.size+1+1,0,none⟩:Addr))=AO at HO1 HD1 |-;clear hown5 hgr5 hmg O0 O1 hO3 hSb hN p0 p1 p2 k0 k1 k2 hm2 hm3 hs2 hs3 hs1 HSW;have hc0:(aAm es es' rn tn 0).1.map (aAJ tn)=[]:=rfl;rw[<- hc0] at HS1;have hlen0:Hid ((aAm es es' rn tn 0).2.length=0):=oH rfl;have hres0:aAd (aAm es es' rn tn 0).2=[]:=rfl;rw[<- hres0] at HO1;clear hc0 hres0;go_wp2_with fail;go_loopw [5,7] (fun ov iv wr=>∃(i n1:Nat) (A1:Option Addr) (c1:Nat),Hid (i<=N)/\iv=.int .i64 i/\ov=.slice A1 n1 c1/\Hid ((aAm es es' rn tn i).2.length=n1)/\Hid (wr.ownsRow (w.heap.size+1+1) 3 1 (.slice A1 n1 c1) n1 (aAd (aAm es es' rn tn i).2))/\Hid (∀ g,Value.ownBlock (.slice A1 n1 c1)=some g->g≠Sb)/\Hid (wr.ownsRow Sb 4 1 (.slice (some ⟨Sb,0,none⟩) N N) N (aBM N ((aAm es es' rn tn i).1.map (aAJ tn))))/\Box wr w.heap.size [.int .i64 rn,.int .i64 sn,.slice A es.length c]/\Box wr (w.heap.size+1) [.int .i64 rn,.int .i64 tn,.slice B es'.length d]/\Mid 0 0 w wr) (fun _ iv _=>N - (intOf iv).toNat)
 case atStart=>exact⟨0,0,AO,0,oH oZ,rfl,rfl,hlen0,HO1,HD1,HS1,B0,B1,hm0⟩
 clear HO1 HD1 HS1 B0 B1 hm0 hlen0;obtain⟨wo,hwo⟩:∃ wo,wo=wr:=⟨_,rfl⟩
 subst hwo;obtain⟨i,n1,A1,c1,HI,rfl,rfl,HN1,HO,HD,HS,B0,B1,hm⟩:=hrel;have hiN:=HI.out;have hn1:n1<=1600:=by have h1:=aFp es es' rn tn i;have h2:=HN1.out;omega
 by_cases hlt:i<N
 .have hi0:(0:Int)<=(i:Int):=by omega
  have hi1:(i:Int)<(N:Int):=by omega
  have hpin:PIn sn tn (aBd tn i):=aGU (by rw[HNM.out];exact hlt);have hpc:=aNl tn i;obtain⟨q,a,b,mm,hpab,ha,hb, -, -,hq,hpcq, -,hqd,hqm⟩:=aBE HNN.out hpin;have hqi:q=i:=by rw[hpc] at hpcq;omega
  subst hqi;have HPAB:=oH hpab;have HPIN:=oH hpin;obtain⟨S0,hS0⟩:∃ S0,(aAm es es' rn tn q).1=S0:=⟨_,rfl⟩
  have hSok:=aEW (r:=rn) F1.out.gr F2.out.gr q (by rw[HNM.out];exact Nat.le_of_lt hlt);rw[hS0] at hSok HS;have HS0:Sec ((aAm es es' rn tn q).1=S0):=⟨hS0⟩
  have hPB:((q:Int)∈S0.map (aAJ tn))↔aBd tn q∈S0:=by
   constructor
   .intro h
    obtain⟨p,hp,he⟩:=List.mem_map.1 h;have h2:=aGZ (hSok.rng p hp) hpin (he.trans hpc.symm);rw[<- h2];exact hp
   exact fun h=>List.mem_map.2 ⟨_,h,hpc⟩
  have HPB:=oH hPB;have HSO:=oH hSok;clear hPB hSok hS0 hpc hpcq hpab hpin;have hcs:=(HS.out.cellAt q (by omega)).trans (aCI hq);obtain⟨bb,hbb⟩:∃ bb:Bool,decide ((q:Int)∈S0.map (aAJ tn))=bb:=⟨_,rfl⟩
  rw[hbb] at hcs;have HBB:=oH hbb;clear hbb;cases bb
  rotate_left
  .have hin:aBd tn q∈(aAm es es' rn tn q).1:=by rw[HS0.out];exact HPB.out.1 (of_decide_eq_true HBB.out)
   have hc:=aDn hin;rw[<- HS0.out,<- hc] at HS;rw[<- hc] at HO HN1;clear hin hc;go_wp2_with fail;go_roundw
   case rel=>exact⟨q+1,n1,A1,c1,oH (by omega),by go_num,rfl,HN1,HO,HD,HS,B0,B1,hm⟩
   simp[intOf];omega
  have hnin:aBd tn q ∉ (aAm es es' rn tn q).1:=by
   rw[HS0.out];exact fun h=>absurd (HPB.out.2 h) (of_decide_eq_false HBB.out)
  have hcx:=aCi (ea:=es) (eb:=es') (r:=rn) (sb:=tn) (i:=q) hnin;have HCX:Sec (aAm es es' rn tn (q+1)=((aAm es es' rn tn q).1++aAf es es' (lets rn) (aBd tn q),(aAm es es' rn tn q).2++[aDy es es' rn (aAf es es' (lets rn) (aBd tn q))])):=⟨hcx⟩
  have p1:=B0.cell 1 rfl;have p0:=B0.cell 0 rfl;have p2:=B0.cell 2 rfl;obtain⟨k0,k1,k2⟩:=B1.c3 rfl;clear hnin hcx HBB;have hwa:IntKind.i64.wrap (a:Int)=(a:Int):=IntWalk.i64_in _ (by omega);have hwb:IntKind.i64.wrap (b:Int)=(b:Int):=IntWalk.i64_in _ (by omega);go_wp2_with fail;have hmd:=Mid.drew1 wo;replace HO:=oH (aAc HO.out hmd oZl);replace HS:=oH (aAc HS.out hmd oZl);replace B0:=B0.mid hmd oZr;replace B1:=B1.mid hmd oZr;replace hm:=hm.trans hmd;clear p0 p1 p2 k0 k1 k2 hmd;obtain⟨p0,p1,p2⟩:=B0.c3 rfl;obtain⟨k0,k1,k2⟩:=B1.c3 rfl;refine wp_region_still_tail 10 (by kernel_rfl) (by kernel_rfl) ?_;simp only[List.take_succ_cons,List.take_zero,List.drop_succ_cons,List.drop_zero];change wpStill _ _ (World.drew wo) (fun a'=>wpList _ _ _ _ a' (World.drew wo)) _ _;generalize World.drew wo=wz at HO HS B0 B1 hm p0 p1 p2 k0 k1 k2 |-;repeat
   (with_reducible refine wpStill_step (fun K hK=>?_))
   go_simp
   first|(with_reducible refine hK _ ?_)
   clear hK K
  with_reducible refine wpStill_nil ?_
  go_wp2_with fail;with_reducible refine(aJB rn sn tn a b A B es es' c d _ _ _ _ _ (hr.mid hm oZl) (hr2.mid hm oZl) F1.out.gr F2.out.gr ha hb).mono ?_
  rintro en w6 ⟨A6,c6,rfl,hP6,hm6⟩;have hO6:∀ g,Value.ownBlock (.slice A1 n1 c1)=some g->g<wz.heap.size:=fun g hg=>(HO.out.lt g hg).2;have hSbz:Sb<wz.heap.size:=(HS.out.lt Sb rfl).2;replace HO:=oH (aAc HO.out hm6 oZl);replace HS:=oH (aAc HS.out hm6 oZl);replace B0:=B0.mid hm6 oZr;replace B1:=B1.mid hm6 oZr;replace hm:=hm.trans hm6;rw[HPAB.out] at HCX;obtain⟨P,hPP⟩:∃ P,aAf es es' (lets rn) ((a:Int),(b:Int))=P:=⟨_,rfl⟩
  obtain⟨PL,hPL⟩:∃ n,P.length=n:=⟨_,rfl⟩
  have hp0:PIn sn tn ((a:Int),(b:Int)):=by rw[<- HPAB.out];exact HPIN.out
  have hPok:=aDe (lets rn) F1.out.gr.all F2.out.gr.all hp0;have hPle:=aEi (lets rn) F1.out.gr F2.out.gr hp0;rw[hPP] at hPok hPle hP6 HCX |-;rw[hPL] at hPle |-;have HPL:=oH hPL;have HPK:=oH hPok;have HP6:=oH hP6;have HO6:=oH hO6;have hz6:=hm6.size;clear hPP hPL hPok hP6 hO6 p0 p1 p2 k0 k1 k2 hp0 hm6;generalize wz.heap.size=Lz at HP6 HO6 hSbz hz6;have HS':Hid (w6.ownsRow Sb 4 1 (.slice (some ⟨Sb,0,none⟩) N N) N (aBM N ((S0++P.take 0).map (aAJ tn)))):=by rw[List.take_zero,List.append_nil];exact HS
  clear HS;go_wp2_with fail;go_loopw [9] (fun kv wr=>∃ k:Nat,Hid (k<=PL)/\kv=.int .i64 k/\Hid (wr.ownsRow Sb 4 1 (.slice (some ⟨Sb,0,none⟩) N N) N (aBM N ((S0++P.take k).map (aAJ tn))))/\Hid (RV wr Lz w6.heap.size A6 (aAd (P.map (aAJ tn))))/\Hid (wr.ownsRow (w.heap.size+1+1) 3 1 (.slice A1 n1 c1) n1 (aAd (aAm es es' rn tn q).2))/\Box wr w.heap.size [.int .i64 rn,.int .i64 sn,.slice A es.length c]/\Box wr (w.heap.size+1) [.int .i64 rn,.int .i64 tn,.slice B es'.length d]/\Mid 0 0 w wr) (fun kv _=>PL - (intOf kv).toNat)
  case atStart=>exact⟨0,oH oZ,rfl,HS',HP6,HO,B0,B1,hm⟩
  clear HS' HP6 HO B0 B1 hm;obtain⟨wp,hwp⟩:∃ wp,wp=wr:=⟨_,rfl⟩
  subst hwp;obtain⟨k,HK,rfl,HS,HP6,HO,B0,B1,hm⟩:=hrel;have hkP:=HK.out;by_cases hlt2:k<PL
  .obtain⟨pk,hpk⟩:=aAs P (show k<P.length by rw[HPL.out];exact hlt2)
   obtain⟨qk,ak,bk,mk, -, -, -, -, -,hqk,hck, -, -, -⟩:=aBE HNN.out (HPK.out.rng pk (List.mem_of_getElem? hpk));obtain⟨B6,o6,x,hA6,hB6,hx,hcx⟩:=HP6.out.at (k:=k) (by rw[List.length_map,HPL.out];exact hlt2);subst hA6;have hxq:x=(qk:Int):=by
    rw[List.getElem?_map,hpk] at hx;injection hx with hx
    exact hx.symm.trans hck
   subst hxq;have hk0:(0:Int)<=(k:Int):=by omega
   have hk1:(k:Int)<(PL:Int):=by omega
   have hb6:B6<wp.heap.size:=Nat.lt_of_lt_of_le hB6 HP6.out.1;obtain⟨u0, -,hcs⟩:=aDv HS.out hqk;have hfz:=HS.out.frozenAt qk;have hst:=Mid.setAt wp Sb qk (.bool true);have hse:=aBA HS.out qk (.bool true) (aBG hqk);have hmap:(S0++P.take k).map (aAJ tn)++[(qk:Int)]=(S0++P.take (k+1)).map (aAJ tn):=by
    simp[aBv P hpk,hck]
   rw[hmap] at hse;have HS2:=oH hse;have HP2:=oH (HP6.out.mid hst (Or.inl (by omega)));have HO2:=oH (aCm HO.out (aCZ wp Sb qk (.bool true)) (fun h=>HD.out Sb h rfl));have C0:=B0.mid hst (Or.inl (by omega));have C1:=B1.mid hst (Or.inl (by omega));have hm2:=hm.transNew hst (Or.inl (by omega));have hq0:(0:Int)<=(qk:Int):=by omega
   have hq1:(qk:Int)<(N:Int):=by omega
   clear hpk hx hck hst hse hmap HS HP6 HO B0 B1 hm;go_wp2_with fail;go_roundw
   case rel=>exact⟨k+1,oH (by omega),by go_num,HS2,HP2,HO2,C0,C1,hm2⟩
   simp[intOf];omega
  obtain rfl:PL=k:=by omega
  rw[List.take_of_length_le (by rw[HPL.out];exact oN)] at HS;obtain⟨p0,p1,p2⟩:=B0.c3 rfl;obtain⟨k0,k1,k2⟩:=B1.c3 rfl;go_wp2_with fail;with_reducible refine(aHf rn sn tn A B A6 es es' P c d c6 PL _ _ _ _ _ _ _ (hr.mid hm oZl) (hr2.mid hm oZl) HP6.out F1.out.gr F2.out.gr HPK.out.rng HPL.out hPle).mono ?_
  rintro en w7 ⟨rfl,hm7⟩;have hpal:=aCv es es' rn P PL;have hpl3:PL * rn<=1600 * 3:=Nat.mul_le_mul hPle (by omega);obtain⟨m,hmE⟩:∃ n,(aAZ es es' rn P PL).length=n:=⟨_,rfl⟩
  rw[hmE] at hpal |-;have HME:Sec ((aAZ es es' rn P PL).length=m):=⟨hmE⟩
  have hm48:m<=4800:=by omega
  replace HO:=oH (aAc HO.out hm7 oZl);replace HS:=oH (aAc HS.out hm7 oZl);replace B0:=B0.mid hm7 oZr;replace B1:=B1.mid hm7 oZr;replace hm:=hm.trans hm7;have hSb7:Sb<w7.heap.size:=(HS.out.lt Sb rfl).2;have hb7:w.heap.size+1+1<=w7.heap.size:=by omega
  clear hmE hpal hpl3 p0 p1 p2 k0 k1 k2 hm7 HP6;go_wp2_with (at_builtin;refine MarkerX.to ?_)
  unfold MarkerX;refine aBl rfl _ _ rfl (w.heap.size+1+1) _ n1 _ _ rfl HO.out ((m:Int) - (PL:Int)+1) rfl (by omega) hb7 ?_;intro A2 c2 w12 ho12 hgr12 hat12;have hm12:=Mid.of_grownRow HO.out hgr12;have HS2:=oH (HS.out.kept hgr12 (aBP HS.out HO.out (by decide)));have HD2:Hid (∀ g,Value.ownBlock (.slice A2 (n1+1) c2)=some g->g≠Sb):=oH (by
   intro g hg;rcases hat12 with h|h
   .exact HD.out g (h.symm.trans hg)
   .rw[h] at hg
    injection hg with hg
    omega)
  have h2:(aAm es es' rn tn (q+1)).2=(aAm es es' rn tn q).2++[(m:Int) - (PL:Int)+1]:=by
   rw[HCX.out]
   show _++[aDy es es' rn P]=_
   unfold aDy;rw[HPL.out,HME.out]
  have h1:(aAm es es' rn tn (q+1)).1=S0++P:=by rw[HCX.out,HS0.out]
  rw[<- h2] at ho12;rw[<- h1] at HS2;have HO2:=oH ho12;have HN2:Hid ((aAm es es' rn tn (q+1)).2.length=n1+1):=oH (by rw[h2,List.length_append,HN1.out];rfl);replace B0:=B0.mid hm12 (Or.inl (by omega));replace B1:=B1.mid hm12 (Or.inl (by omega));replace hm:=hm.transNew hm12 (Or.inl (by omega));clear ho12 hgr12 hat12 hm12 h1 h2 HO HS HD HCX HS0 HME;go_wp2_with fail;go_roundw
  case rel=>exact⟨q+1,n1+1,A2,c2,oH (by omega),by go_num,rfl,HN2,HO2,HD2,HS2,B0,B1,hm⟩
  simp[intOf];omega
 obtain rfl:N=i:=by omega
 rw[<- HRE.out] at HO HN1;have HLEN:=HN1;go_wp2_with fail;go_ret;exact⟨A1,c1,by rw[HLEN.out];rfl,⟨oN,by rw[HLEN.out];exact aAp HO.out (by omega),fun g hg=>by rw[HLEN.out] at hg;exact(HO.out.lt g hg).2⟩,hm⟩
end Go.Proofs.YtkimajabegojoaaGreat
