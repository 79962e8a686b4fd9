/- Lemmas. -/
import Derived.Test.YtkimajabegojoaaGreatMt3
import Derived.Test.YtkimajabegojoaaGreatMt7
import Derived.Test.YtkimajabegojoaaGreatMt2
import Derived.Test.YtkimajabegojoaaGreatMt6
import Derived.Test.YtkimajabegojoaaGreatMt5
import Derived.Test.YtkimajabegojoaaGreatMt10
namespace Go.Proofs.YtkimajabegojoaaGreat
set_option linter.unusedVariables false
set_option linter.unusedSimpArgs false
set_option maxHeartbeats 40000000
set_option maxRecDepth 100000
open Go.RowKit
theorem aDE(r s:Int)(A:Option Addr)(es:List Ed)(c:Nat)(r' s':Int)(B:Option Addr)(es':List Ed)(d:Nat)(u v:Int)(w:World)(lo hi lo2 hi2:Nat)(hr:RG w lo hi A es)(hr2:RG w lo2 hi2 B es')(hl:es.length<=1048576)(hl2:es'.length<=1048576)(rr rs:Int)(res:List Ed)(b:Bool)(hres:PullIs r s es r' s' es' u v rr rs res b) :
  Calls Tryz.prog 53 #[aAw r s A es.length c,aAw r' s' B es'.length d,.int .i64 u,.int .i64 v] w fun e w'=>∃ A1 c1,e=.returned (.tuple #[aAw rr rs A1 res.length c1,.bool b])/\OG w' w.heap.size w'.heap.size A1 c1 res/\Mid 0 0 w w':=by
 have HR:=oH hres;clear hres;obtain⟨b1,hb1⟩:=aAC (IsFol r s es);have H1:=oH hb1;obtain⟨b2,hb2⟩:=aAC (IsFol r' s' es');have H2:=oH hb2;clear hb1 hb2;have hm0:Mid 0 0 w (((w.alloc (.cells #[.int .i64 r,.int .i64 s,.slice A es.length c] 35)).alloc (.cells #[.int .i64 r',.int .i64 s',.slice B es'.length d] 35)).alloc (.cells #[.int .i64 0,.int .i64 0,.slice none 0 0] 35)):=((Mid.alloc _ _).trans (Mid.alloc _ _)).trans (Mid.alloc _ _);have B0:=((Box.new w #[.int .i64 r,.int .i64 s,.slice A es.length c] 35).mid (Mid.alloc _ (.cells #[.int .i64 r',.int .i64 s',.slice B es'.length d] 35)) oZr).mid (Mid.alloc _ (.cells #[.int .i64 0,.int .i64 0,.slice none 0 0] 35)) oZr;have B1:=(Box.new (w.alloc (.cells #[.int .i64 r,.int .i64 s,.slice A es.length c] 35)) #[.int .i64 r',.int .i64 s',.slice B es'.length d] 35).mid (Mid.alloc _ (.cells #[.int .i64 0,.int .i64 0,.slice none 0 0] 35)) oZr;have B2:=Box.new ((w.alloc (.cells #[.int .i64 r,.int .i64 s,.slice A es.length c] 35)).alloc (.cells #[.int .i64 r',.int .i64 s',.slice B es'.length d] 35)) #[.int .i64 0,.int .i64 0,.slice none 0 0] 35;simp only[World.size_alloc] at B1 B2;go_enter Tryz.func53,Tryz.ntmps53
 go_wp2_with fail;generalize hw1:((w.alloc (.cells #[.int .i64 r,.int .i64 s,.slice A es.length c] 35)).alloc (.cells #[.int .i64 r',.int .i64 s',.slice B es'.length d] 35)).alloc (.cells #[.int .i64 0,.int .i64 0,.slice none 0 0] 35)=w1 at hm0 B0 B1 B2 |-;have hs1:w1.heap.size=w.heap.size+1+1+1:=by rw[<- hw1];simp
 have HS:=oH hs1;clear hw1 hs1;with_reducible refine(aAT r s A es c _ _ _ (hr.mid hm0 oZl) hl b1 H1.out).mono ?_
 rintro en w2 ⟨rfl,hm2⟩;replace B0:=B0.mid hm2 oZr;replace B1:=B1.mid hm2 oZr;replace B2:=B2.mid hm2 oZr;replace hm0:=hm0.trans hm2;obtain⟨p0,p1,p2⟩:=B0.c3 rfl;obtain⟨k0,k1,k2⟩:=B1.c3 rfl;obtain⟨z0,z1,z2⟩:=B2.c3 rfl;have zf:=B2.2.2;cases b1 with
|false=>
  have hno:¬ PullOk r s es r' s' es' u v:=fun h=>by
   have:=H1.out.2 h.f1;cases this
  obtain⟨rfl,rfl,rfl,rfl⟩:=HR.out.no hno;go_wp2_with fail;refine bodyPost_ret (v:=.tuple #[.agg #[.int .i64 0,.int .i64 0,.slice none 0 0],.bool false]) (by simp[results,Tryz.results53,go_sem,z0,z1,z2,zf]) rfl ⟨none,0,rfl,OG.nil,?_⟩;repeat (first|exact hm0|refine Mid.storeNew ?_ (by simp;try omega) _)
|true=>
 have F1:=oH (H1.out.1 rfl);clear H1;go_wp2_with fail;with_reducible refine(aAT r' s' B es' d _ _ _ (hr2.mid hm0 oZl) hl2 b2 H2.out).mono ?_
 rintro en w3 ⟨rfl,hm3⟩;replace B0:=B0.mid hm3 oZr;replace B1:=B1.mid hm3 oZr;replace B2:=B2.mid hm3 oZr;replace hm0:=hm0.trans hm3;clear p0 p1 p2 k0 k1 k2 z0 z1 z2 zf;obtain⟨p0,p1,p2⟩:=B0.c3 rfl;obtain⟨k0,k1,k2⟩:=B1.c3 rfl;obtain⟨z0,z1,z2⟩:=B2.c3 rfl;have zf:=B2.2.2;cases b2 with
|false=>
  have hno:¬ PullOk r s es r' s' es' u v:=fun h=>by
   have:=H2.out.2 h.f2;cases this
  obtain⟨rfl,rfl,rfl,rfl⟩:=HR.out.no hno;go_wp2_with fail;refine bodyPost_ret (v:=.tuple #[.agg #[.int .i64 0,.int .i64 0,.slice none 0 0],.bool false]) (by simp[results,Tryz.results53,go_sem,z0,z1,z2,zf]) rfl ⟨none,0,rfl,OG.nil,?_⟩;repeat (first|exact hm0|refine Mid.storeNew ?_ (by simp;try omega) _)
|true=>
 have F2:=oH (H2.out.1 rfl);have g1:=F1.out.gr.rank;have g2:=F1.out.gr.size;have g3:=F2.out.gr.size;have g4:=F1.out.gr.len;have g5:=F2.out.gr.len;clear H2;rcases(Decidable.em (r=r')).symm with hrk|hrk
 .have h1a:(r != r')=true:=by simpa using hrk
  have hrk':=oH hrk;have hno:¬ PullOk r s es r' s' es' u v:=fun h=>by
   exact hrk'.out h.rk
  obtain⟨rfl,rfl,rfl,rfl⟩:=HR.out.no hno;go_wp2_with fail;refine bodyPost_ret (v:=.tuple #[.agg #[.int .i64 0,.int .i64 0,.slice none 0 0],.bool false]) (by simp[results,Tryz.results53,go_sem,z0,z1,z2,zf]) rfl ⟨none,0,rfl,OG.nil,?_⟩;repeat (first|exact hm0|refine Mid.storeNew ?_ (by simp;try omega) _)
 subst hrk;rcases(Decidable.em (0<=u/\u<s)).symm with hu|hu
 .have hib:inB u 0 (s - 1)=false:=by unfold inB;simp;omega
  have HU:=oH hu;clear hu;go_wp2_with fail;with_reducible refine(aBJ hib _).mono ?_
  rintro en w4 ⟨rfl,rfl⟩;have hno:¬ PullOk r s es r s' es' u v:=fun h=>by
   exact HU.out h.u0
  obtain⟨rfl,rfl,rfl,rfl⟩:=HR.out.no hno;go_wp2_with fail;refine bodyPost_ret (v:=.tuple #[.agg #[.int .i64 0,.int .i64 0,.slice none 0 0],.bool false]) (by simp[results,Tryz.results53,go_sem,z0,z1,z2,zf]) rfl ⟨none,0,rfl,OG.nil,?_⟩;repeat (first|exact hm0|refine Mid.storeNew ?_ (by simp;try omega) _)
 have hib:inB u 0 (s - 1)=true:=by unfold inB;simp;omega
 go_wp2_with fail;with_reducible refine(aBJ hib _).mono ?_
 rintro en w4 ⟨rfl,rfl⟩;rcases(Decidable.em (0<=v/\v<s')).symm with hv|hv
 .have hib2:inB v 0 (s' - 1)=false:=by unfold inB;simp;omega
  have HV:=oH hv;clear hv;go_wp2_with fail;with_reducible refine(aBJ hib2 _).mono ?_
  rintro en w4 ⟨rfl,rfl⟩;have hno:¬ PullOk r s es r s' es' u v:=fun h=>by
   exact HV.out h.v0
  obtain⟨rfl,rfl,rfl,rfl⟩:=HR.out.no hno;go_wp2_with fail;refine bodyPost_ret (v:=.tuple #[.agg #[.int .i64 0,.int .i64 0,.slice none 0 0],.bool false]) (by simp[results,Tryz.results53,go_sem,z0,z1,z2,zf]) rfl ⟨none,0,rfl,OG.nil,?_⟩;repeat (first|exact hm0|refine Mid.storeNew ?_ (by simp;try omega) _)
 have hib2:inB v 0 (s' - 1)=true:=by unfold inB;simp;omega
 go_wp2_with fail;with_reducible refine(aBJ hib2 _).mono ?_
 rintro en w4 ⟨rfl,rfl⟩;clear hib hib2;obtain⟨rn,rfl⟩:∃ n:Nat,r=n:=⟨r.toNat,by omega⟩
 obtain⟨sn,rfl⟩:∃ n:Nat,s=n:=⟨s.toNat,by omega⟩
 obtain⟨tn,rfl⟩:∃ n:Nat,s'=n:=⟨s'.toNat,by omega⟩
 obtain⟨un,rfl⟩:∃ n:Nat,u=n:=⟨u.toNat,by omega⟩
 obtain⟨vn,rfl⟩:∃ n:Nat,v=n:=⟨v.toNat,by omega⟩
 have hun:un<sn:=by omega
 have hvn:vn<tn:=by omega
 have hp0:PIn sn tn ((un:Int),(vn:Int)):=⟨Int.natCast_nonneg _,Int.ofNat_lt.2 hun,Int.natCast_nonneg _,Int.ofNat_lt.2 hvn⟩
 go_wp2_with fail;with_reducible refine(aLh rn sn tn un vn A B es es' c d _ _ _ _ _ (hr.mid hm0 oZl) (hr2.mid hm0 oZl) F1.out.gr F2.out.gr hun hvn).mono ?_
 rintro en w5 ⟨A5,c5,rfl,hP5,hm5⟩;obtain⟨P,hPP⟩:∃ P,aAf es es' (lets rn) ((un:Int),(vn:Int))=P:=⟨_,rfl⟩
 obtain⟨PL,hPL⟩:∃ n,P.length=n:=⟨_,rfl⟩
 rw[hPP] at hP5 |-;rw[hPL];have hPlen:0<P.length:=by rw[<- hPP];exact aOs _ _ _ _ 1601
 obtain⟨B5,o5,x0,hA5, -, -, -⟩:=hP5.at (k:=0) (by rw[List.length_map];exact hPlen);subst hA5;clear hPlen;have hPok:=aDe (lets rn) F1.out.gr.all F2.out.gr.all hp0;have hPle:=aEi (lets rn) F1.out.gr F2.out.gr hp0;have hPcl:=aCn (lets rn) F1.out.gr F2.out.gr hp0;rw[hPP] at hPok hPle hPcl;rw[hPL] at hPle;have HPP:=oH hPP;have HPL:=oH hPL;have HPK:=oH hPok;have HPC:=oH hPcl;clear hPP hPL hPok hPcl;replace B0:=B0.mid hm5 oZr;replace B1:=B1.mid hm5 oZr;replace B2:=B2.mid hm5 oZr;replace hm0:=hm0.trans hm5;clear p0 p1 p2 k0 k1 k2 z0 z1 z2 zf;obtain⟨p0,p1,p2⟩:=B0.c3 rfl;obtain⟨k0,k1,k2⟩:=B1.c3 rfl;obtain⟨z0,z1,z2⟩:=B2.c3 rfl;have zf:=B2.2.2;go_wp2_with fail;with_reducible refine(aHf rn sn tn A B (some ⟨B5,o5,none⟩) es es' P c d c5 PL _ _ _ _ _ _ _ (hr.mid hm0 oZl) (hr2.mid hm0 oZl) hP5 F1.out.gr F2.out.gr HPK.out.rng HPL.out hPle).mono ?_
 rintro en w6 ⟨rfl,hm6⟩;obtain⟨m,hmE⟩:∃ n,(aAZ es es' rn P PL).length=n:=⟨_,rfl⟩
 rw[hmE];have hm48:m<=4800:=by
  have h1:=aCv es es' rn P PL;have h2:PL * rn<=1600 * 3:=Nat.mul_le_mul hPle (by omega);omega
 have HME:=oH hmE;clear hmE;replace B0:=B0.mid hm6 oZr;replace B1:=B1.mid hm6 oZr;replace B2:=B2.mid hm6 oZr;replace hm0:=hm0.trans hm6;replace hP5:=hP5.mid hm6 oZl;clear p0 p1 p2 k0 k1 k2 z0 z1 z2 zf;obtain⟨p0,p1,p2⟩:=B0.c3 rfl;obtain⟨k0,k1,k2⟩:=B1.c3 rfl;obtain⟨z0,z1,z2⟩:=B2.c3 rfl;have zf:=B2.2.2;rcases(Decidable.em (PL<=40)).symm with hsz|hsz
 .have b3:decide (40<(PL:Int))=true:=by simp;omega
  have hno:¬ PullOk (rn:Int) (sn:Int) es (rn:Int) (tn:Int) es' (un:Int) (vn:Int):=fun h=>by
   have h1:=h.sz;rw[Int.toNat_natCast,HPP.out,HPL.out] at h1;omega
  obtain⟨rfl,rfl,rfl,rfl⟩:=HR.out.no hno;go_wp2_with fail;refine bodyPost_ret (v:=.tuple #[.agg #[.int .i64 0,.int .i64 0,.slice none 0 0],.bool false]) (by simp[results,Tryz.results53,go_sem,z0,z1,z2,zf]) rfl ⟨none,0,rfl,OG.nil,?_⟩;repeat (first|exact hm0|refine Mid.storeNew ?_ (by simp;try omega) _)
 have b3:decide (40<(PL:Int))=false:=by simp;omega
 rcases(Decidable.em (m<=120)).symm with hln|hln
 .have b4:decide (120<(m:Int))=true:=by simp;omega
  have hno:¬ PullOk (rn:Int) (sn:Int) es (rn:Int) (tn:Int) es' (un:Int) (vn:Int):=fun h=>by
   have h1:=h.ln;rw[Int.toNat_natCast,HPP.out,HPL.out,HME.out] at h1;omega
  obtain⟨rfl,rfl,rfl,rfl⟩:=HR.out.no hno;go_wp2_with fail;refine bodyPost_ret (v:=.tuple #[.agg #[.int .i64 0,.int .i64 0,.slice none 0 0],.bool false]) (by simp[results,Tryz.results53,go_sem,z0,z1,z2,zf]) rfl ⟨none,0,rfl,OG.nil,?_⟩;repeat (first|exact hm0|refine Mid.storeNew ?_ (by simp;try omega) _)
 have b4:decide (120<(m:Int))=false:=by simp;omega
 have hok:PullOk (rn:Int) (sn:Int) es (rn:Int) (tn:Int) es' (un:Int) (vn:Int):=⟨F1.out,F2.out,rfl,⟨hp0.1,hp0.2.1⟩,⟨hp0.2.2.1,hp0.2.2.2⟩,by rw[Int.toNat_natCast,HPP.out,HPL.out];exact hsz,by rw[Int.toNat_natCast,HPP.out,HPL.out,HME.out];exact hln⟩
 obtain⟨rfl,hrr,hrs,hre⟩:=HR.out.yes hok;rw[Int.toNat_natCast,HPP.out,HPL.out] at hrs;unfold aCV at hre;rw[Int.toNat_natCast,HPP.out,HPL.out] at hre;have HRR:=oH hrr;have HRS:=oH hrs;have HRE:=oH hre;clear hrr hrs hre HR;have hnb0:¬ tn=0:=by omega
 have hmulb:(sn:Int) * (tn:Int)<=40 * 40:=Int.mul_le_mul (by omega) (by omega) (by omega) (by omega);obtain⟨N,hN⟩:∃ N:Nat,(sn:Int) * (tn:Int)=(N:Int):=⟨sn * tn,by simp⟩
 have hN16:N<=1600:=by rw[hN] at hmulb;omega
 have HNN:=oH hN;have HGL:Hid (∀ e∈es,1<=e.l/\e.l<=3):=oH (fun e he=>by have:=F1.out.gr.all e he;unfold InG at this;omega);have HGL2:Hid (∀ e∈es',1<=e.l/\e.l<=3):=oH (fun e he=>by have:=F2.out.gr.all e he;unfold InG at this;omega);have hrn3:rn<=3:=by omega
 have hal:=Mid.alloc w6 (.cells #[.int .i64 rn,.int .i64 PL,.slice none 0 0] 35);have B3:=Box.new w6 #[.int .i64 rn,.int .i64 PL,.slice none 0 0] 35;have hG6:=B2.1;have hGP:=hm6.size;clear hmulb hN;go_wp2_with fail;replace B0:=B0.mid hal oZr;replace B1:=B1.mid hal oZr;replace B2:=B2.mid hal oZr;replace hm0:=hm0.trans hal;replace hP5:=hP5.mid hal oZl;clear p0 p1 p2 k0 k1 k2 z0 z1 z2 zf hm2 hm3 hm5 hm6 HS;generalize hw7:w6.alloc (.cells #[.int .i64 rn,.int .i64 PL,.slice none 0 0] 35)=w7 at B0 B1 B2 B3 hm0 hP5 |-;have hs7:w7.heap.size=w6.heap.size+1:=by rw[<- hw7];simp
 clear hw7 hal;generalize hG:w6.heap.size=G at B3 hs7 hG6 hGP |-;generalize hGPe:w5.heap.size=GP at hP5 hGP;clear hG hGPe;have O3:OG w7 (G+1) w7.heap.size none 0 []:=OG.nil;go_loopw [13] (fun iv wr=>∃(i:Nat) (A3:Option Addr) (c3 lo3 hi3:Nat) (xs:List Ed),i<=PL/\iv=.int .i64 i/\Hid (xs=canon (aAZ es es' rn P i))/\OG wr lo3 hi3 A3 c3 xs/\(hi3<=G \/ G+1<=lo3)/\w.heap.size+3<=lo3/\Box wr w.heap.size [.int .i64 rn,.int .i64 sn,.slice A es.length c]/\Box wr (w.heap.size+1) [.int .i64 rn,.int .i64 tn,.slice B es'.length d]/\Box wr (w.heap.size+1+1) [.int .i64 0,.int .i64 0,.slice none 0 0] /\
    Box wr G [.int .i64 rn,.int .i64 PL,.slice A3 xs.length c3]/\Hid (RV wr 0 GP (some ⟨B5,o5,none⟩) (aAd (P.map (aAJ tn))))/\Mid 0 0 w wr) (fun iv _=>PL - (intOf iv).toNat)
 case atStart=>exact⟨0,none,0,_,_,[],oZ,rfl,oH (by simp[aAZ,canon,aCx]),O3,.inr oN,by omega,B0,B1,B2,B3,oH hP5,hm0⟩
 clear O3 B0 B1 B2 B3 hP5 hm0;obtain⟨wo,hwo⟩:∃ wo,wo=wr:=⟨_,rfl⟩
 subst hwo;obtain⟨i,A3,c3,lo3,hi3,xs,hi,rfl,HX,ho,hdis,hlo3,B0,B1,B2,B3,HP5,hm⟩:=hrel;by_cases hlt:i<PL
 .obtain⟨p,hp⟩:=aAs P (show i<P.length by rw[HPL.out];exact hlt)
  obtain⟨q,a,b,mm,rfl,ha,hb, -, -,hq,hpc, -,hqd,hqm⟩:=aBE HNN.out (HPK.out.rng p (List.mem_of_getElem? hp));have HP:=oH hp;have HPQ:=oH (aRj hp hpc);have HSU:=oH (aCF (ea:=es) (eb:=es') (r:=rn) hp);have hi0:(0:Int)<=(i:Int):=by omega
  have hi1:(i:Int)<(PL:Int):=by omega
  clear hp hpc;go_wp2_with fail;go_loopw [14] (fun xv wr=>∃(k:Nat) (A3:Option Addr) (c3 lo3 hi3:Nat) (xs:List Ed),k<=rn/\xv=.int .i64 ((k:Int)+1)/\Hid (xs=canon (aAZ es es' rn P i++aCD es es' P i ((a:Int),(b:Int)) k))/\OG wr lo3 hi3 A3 c3 xs/\(hi3<=G \/ G+1<=lo3)/\w.heap.size+3<=lo3/\Box wr w.heap.size [.int .i64 rn,.int .i64 sn,.slice A es.length c]/\Box wr (w.heap.size+1) [.int .i64 rn,.int .i64 tn,.slice B es'.length d]/\Box wr (w.heap.size+1+1) [.int .i64 0,.int .i64 0,.slice none 0 0] /\
   Box wr G [.int .i64 rn,.int .i64 PL,.slice A3 xs.length c3]/\Hid (RV wr 0 GP (some ⟨B5,o5,none⟩) (aAd (P.map (aAJ tn))))/\Mid 0 0 w wr) (fun xv _=>(rn+1 - intOf xv).toNat)
  case atStart=>exact⟨0,A3,c3,lo3,hi3,xs,oZ,by go_num,oH (by rw[HX.out];simp[aCD]),ho,hdis,hlo3,B0,B1,B2,B3,HP5,hm⟩
  clear ho hdis hlo3 B0 B1 B2 B3 HP5 hm HX;obtain⟨k,A3,c3,lo3,hi3,xs,hk,rfl,HX,ho,hdis,hlo3,B0,B1,B2,B3,HP5,hm⟩:=hrel;have p0:=B0.cell 0 rfl;by_cases hlt2:k<rn
  .have hkr:(k:Int)+1<=(rn:Int):=by omega
   have hc5:=HP5.out.atI HPQ.out;have hB4s:B5<wr.heap.size:=hc5.1;have hwa:IntKind.i64.wrap (a:Int)=(a:Int):=IntWalk.i64_in _ (by omega);have hwb:IntKind.i64.wrap (b:Int)=(b:Int):=IntWalk.i64_in _ (by omega);have k0:=aAb B0.1 (B0.cell 0 rfl);have k1:=aAb B0.1 (B0.cell 1 rfl);have k2:=aAb B0.1 (B0.cell 2 rfl);have k3:=aAb hB4s hc5.2;have k5:=aAb B1.1 (B1.cell 1 rfl);have hA:=fun m os=>aAz rn sn A es c a ((k:Int)+1) (wg wr m os) _ _ (hr.mid (hm.trans (Mid.ofWg wr m os)) oZl) (by omega) HGL.out (by omega) (by omega);clear hc5;go_wp2_with fail;refine wqg ?_;repeat
    (with_reducible refine wpQuiet_step (fun K hK=>?_))
    go_simp
    first|(with_reducible refine hK _ ?_)|(rw[if_neg (by decide)];(with_reducible refine hK _ ?_))|(apply Exists.intro;refine⟨fun _=>?_,hK _ ?_⟩;((go_at_call 129;exact Calls.wg_of (hA _ _))))
    clear hK K
   with_reducible refine wpQuiet_nil ?_
   rintro _ ⟨⟨nq,osq⟩,rfl⟩;have hwg:=Mid.ofWg wr nq osq;generalize wg wr nq osq=w8 at hwg |-;replace B0:=B0.mid hwg oZr;replace B1:=B1.mid hwg oZr;replace B2:=B2.mid hwg oZr;replace B3:=B3.mid hwg oZr;replace hm:=hm.trans hwg;replace ho:=ho.mid hwg oZl;replace HP5:=oH (HP5.out.mid hwg oZl);have hc6:=HP5.out.atI HPQ.out;have hB4s8:B5<w8.heap.size:=hc6.1;clear k0 k1 k2 k3 k5 hA p0 hB4s;have k0:=aAb B1.1 (B1.cell 0 rfl);have k1:=aAb B1.1 (B1.cell 1 rfl);have k2:=aAb B1.1 (B1.cell 2 rfl);have k3:=aAb hB4s8 hc6.2;have hA:=fun m os=>aAz rn tn B es' d b ((k:Int)+1) (wg w8 m os) lo2 hi2 (hr2.mid (hm.trans (Mid.ofWg w8 m os)) oZl) (by omega) HGL2.out (by omega) (by omega);clear hc6;go_wp2_with fail;refine wqg ?_;repeat
    (with_reducible refine wpQuiet_step (fun K hK=>?_))
    go_simp
    first|(with_reducible refine hK _ ?_)|(rw[if_neg (by decide)];(with_reducible refine hK _ ?_))|(apply Exists.intro;refine⟨fun _=>?_,hK _ ?_⟩;((go_at_call 129;exact Calls.wg_of (hA _ _))))
    clear hK K
   with_reducible refine wpQuiet_nil ?_
   rintro _ ⟨⟨nq,osq⟩,rfl⟩;have hwg2:=Mid.ofWg w8 nq osq;generalize wg w8 nq osq=w9 at hwg2 |-;replace B0:=B0.mid hwg2 oZr;replace B1:=B1.mid hwg2 oZr;replace B2:=B2.mid hwg2 oZr;replace B3:=B3.mid hwg2 oZr;replace hm:=hm.trans hwg2;replace ho:=ho.mid hwg2 oZl;replace HP5:=oH (HP5.out.mid hwg2 oZl);clear k0 k1 k2 k3 hA hwg hwg2 hB4s8;by_cases ht1:aAe es a ((k:Int)+1)<0
   .have b1:decide (0<=aAe es a ((k:Int)+1))=false:=by simp;omega
    have HE:=oH (aIS (ea:=es) (eb:=es') (P:=P) (i:=i) (p:=((a:Int),(b:Int))) (Or.inl ht1));clear ht1;have hPL0:0<PL:=by omega
    have dPL:decide ((0:Int)<(PL:Int))=true:=by simp;omega
    go_wp2_with fail;go_loopw [17] (fun kv wr=>kv=.int .i64 0/\wr=w9) (fun _ _=>0)
    case atStart=>exact⟨rfl,rfl⟩
    obtain⟨rfl,rfl⟩:=hrel;go_wp2_with fail;go_roundw
    case rel=>exact⟨k+1,A3,c3,lo3,hi3,xs,by omega,by go_num,by rw[HE.out];exact HX,ho,hdis,hlo3,B0,B1,B2,B3,HP5,hm⟩
    simp[intOf];omega
   have b1:decide (0<=aAe es a ((k:Int)+1))=true:=by simp;omega
   by_cases ht2:aAe es' b ((k:Int)+1)<0
   .have b2:decide (0<=aAe es' b ((k:Int)+1))=false:=by simp;omega
    have HE:=oH (aIS (ea:=es) (eb:=es') (P:=P) (i:=i) (p:=((a:Int),(b:Int))) (Or.inr ht2));clear ht1 ht2;have hPL0:0<PL:=by omega
    have dPL:decide ((0:Int)<(PL:Int))=true:=by simp;omega
    go_wp2_with fail;go_loopw [17] (fun kv wr=>kv=.int .i64 0/\wr=w9) (fun _ _=>0)
    case atStart=>exact⟨rfl,rfl⟩
    obtain⟨rfl,rfl⟩:=hrel;go_wp2_with fail;go_roundw
    case rel=>exact⟨k+1,A3,c3,lo3,hi3,xs,by omega,by go_num,by rw[HE.out];exact HX,ho,hdis,hlo3,B0,B1,B2,B3,HP5,hm⟩
    simp[intOf];omega
   have hpin2:=aEk F1.out.gr.all F2.out.gr.all ((a:Int),(b:Int)) ht1 ht2;obtain⟨q',x',y',m',hpe,hx',hy',hme',hqe',hq',hpc',hmq', -, -⟩:=aBE HNN.out hpin2;have hmemP:=HPC.out _ (List.mem_of_getElem? HP.out) ((k:Int)+1) (aBz.2 ⟨by omega,by omega,by omega⟩) ht1 ht2;have hes:=aKT (ea:=es) (eb:=es') (P:=P) (i:=i) (p:=((a:Int),(b:Int))) ht1 ht2;have htx:aAe es a ((k:Int)+1)=(x':Int):=congrArg Prod.fst hpe;have hty:aAe es' b ((k:Int)+1)=(y':Int):=congrArg Prod.snd hpe;obtain⟨idx,hidx⟩:∃ n,P.idxOf (aAI es es' ((a:Int),(b:Int)) ((k:Int)+1))=n:=⟨_,rfl⟩
   have hidl:idx<PL:=by rw[<- hidx,<- HPL.out];exact List.idxOf_lt_length_of_mem hmemP
   rw[hidx] at hes;have HE:=oH hes;have HID:=oH hidx;have HMP:=oH hmemP;have HQ':=oH hpc';simp only[htx,hty];clear b1 ht1 ht2 hpe htx hty hpin2 hpc' hidx hmemP hes;have c1':decide ((0:Int)<=(x':Int))=true:=by simp
   have c2':decide ((0:Int)<=(y':Int))=true:=by simp
   have hxl:xs.length<=4900:=by
    rw[HX.out];have h1:=aDm (aAZ es es' rn P i++aCD es es' P i ((a:Int),(b:Int)) k);have h2:=aCv es es' rn P i;have h3:=aGY es es' P i ((a:Int),(b:Int)) k;have h4:i * rn<=1600 * 3:=Nat.mul_le_mul (by omega) (by omega);rw[List.length_append] at h1;omega
   obtain⟨wi,hwi⟩:∃ wi,wi=wr:=⟨_,rfl⟩
   subst hwi;go_wp2_with fail;go_loopw [17] (fun kv wr=>∃(kk:Nat) (A3:Option Addr) (c3 lo3 hi3:Nat) (ys:List Ed),kk<=PL/\kv=.int .i64 kk/\Hid (ys=if kk<=idx then xs else aCy ⟨i,(k:Int)+1,(idx:Nat)⟩ xs)/\OG wr lo3 hi3 A3 c3 ys/\(hi3<=G \/ G+1<=lo3)/\w.heap.size+3<=lo3/\Box wr w.heap.size [.int .i64 rn,.int .i64 sn,.slice A es.length c]/\Box wr (w.heap.size+1) [.int .i64 rn,.int .i64 tn,.slice B es'.length d]/\Box wr (w.heap.size+1+1) [.int .i64 0,.int .i64 0,.slice none 0 0] /\
    Box wr G [.int .i64 rn,.int .i64 PL,.slice A3 ys.length c3]/\Hid (RV wr 0 GP (some ⟨B5,o5,none⟩) (aAd (P.map (aAJ tn))))/\Mid 0 0 w wr) (fun kv _=>PL - (intOf kv).toNat)
   case atStart=>exact⟨0,A3,c3,lo3,hi3,xs,oZ,rfl,oH (if_pos oZ).symm,ho,hdis,hlo3,B0,B1,B2,B3,HP5,hm⟩
   clear ho hdis hlo3 B0 B1 B2 B3 HP5 hm;obtain⟨kk,A4,c4,lo4,hi4,ys,hkk,rfl,HY,ho,hdis,hlo3,B0,B1,B2,B3,HP5,hm⟩:=hrel;by_cases hlt3:kk<PL
   .obtain⟨t,ht⟩:=aAs P (show kk<P.length by rw[HPL.out];exact hlt3)
    obtain⟨qk,ak,bk,mk, -, -, -, -, -,hqk,hpk, -, -, -⟩:=aBE HNN.out (HPK.out.rng t (List.mem_of_getElem? ht));have hck:=HP5.out.atI (aRj ht hpk);have hI:(qk:Int)=(q':Int)↔kk=idx:=by rw[<- hpk,<- HQ'.out,<- HID.out];exact aUF HPK.out HMP.out ht
    have hkk0:(0:Int)<=(kk:Int):=by omega
    have hkk1:(kk:Int)<(PL:Int):=by omega
    have hyl:ys.length<=5000:=by
     rw[HY.out];split
     .omega
     have:=aDf ⟨i,(k:Int)+1,(idx:Nat)⟩ xs;omega
    have hwm:IntKind.i64.wrap (m':Int)=(m':Int):=IntWalk.i64_in _ (by omega);have hwq:IntKind.i64.wrap (q':Int)=(q':Int):=IntWalk.i64_in _ (by omega);have k3:=aAb hck.1 hck.2;have k5:=aAb B1.1 (B1.cell 1 rfl);by_cases hki:kk=idx
    .have hqq:((qk:Int) == (q':Int))=true:=beq_iff_eq.2 (hI.2 hki)
     have HKI:=oH hki;clear ht hpk hck hI hki;go_wp2_with fail;refine wqg ?_;repeat
      (with_reducible refine wpQuiet_step (fun K hK=>?_))
      go_simp
      first|(with_reducible refine hK _ ?_)|(rw[if_neg (by decide)];(with_reducible refine hK _ ?_))|(apply Exists.intro;refine⟨fun _=>?_,hK _ ?_⟩;(fail))
      clear hK K
     with_reducible refine wpQuiet_nil ?_
     rintro _ ⟨⟨nq,osq⟩,rfl⟩;have hwg:=Mid.ofWg wr nq osq;generalize wg wr nq osq=wz at hwg |-;replace B0:=B0.mid hwg oZr;replace B1:=B1.mid hwg oZr;replace B2:=B2.mid hwg oZr;replace B3:=B3.mid hwg oZr;replace hm:=hm.trans hwg;replace ho:=ho.mid hwg oZl;replace HP5:=oH (HP5.out.mid hwg oZl);clear k3 k5 hwg;have g2:=B3.cell 2 rfl;have B3z:=B3.1;go_wp2_with fail;with_reducible refine(aBW A4 ys c4 ⟨i,(k:Int)+1,kk⟩ wz _ _ ho.rg (by omega)).mono ?_
     rintro en w10 ⟨A9,c9,rfl,ho9,hm9⟩;replace B0:=B0.mid hm9 oZr;replace B1:=B1.mid hm9 oZr;replace B2:=B2.mid hm9 oZr;replace B3:=B3.mid hm9 oZr;replace hm:=hm.trans hm9;have HP9:=oH (HP5.out.mid hm9 oZl);have hGz:G<w10.heap.size:=B3.1;clear g2 ho HP5;have hsz9:=hm9.size;have hloz:G<wz.heap.size:=B3z;have g2:=B3.cell 2 rfl;have gf:=B3.2.2;go_wp2_with fail;go_roundw
     case rel=>
      have hst:=Mid.setCell w10 (lo:=G) (hi:=G+1) (p:=⟨G,2,none⟩) (.slice A9 (aCy ⟨i,(k:Int)+1,kk⟩ ys).length c9) oN oS;refine⟨kk+1,A9,c9,_,_,_,by omega,by go_num,oH ?_,ho9.mid hst (Or.inl (by omega)),.inr (by omega),by omega,B0.mid hst (Or.inl (by omega)),B1.mid hst (Or.inl (by omega)),B2.mid hst (Or.inl (by omega)),B3.set 2 _ (by simp) rfl,oH (HP9.out.mid hst (Or.inr (by omega))),hm.storeNew (by show w.heap.size<=G;omega) _⟩;rw[HY.out,HKI.out,if_pos oN,if_neg (Nat.not_succ_le_self _)]
     simp[intOf];omega
    have hqq:((qk:Int) == (q':Int))=false:=beq_eq_false_iff_ne.2 fun h=>hki (hI.1 h);have HKI:=oH hki;clear ht hpk hck hI hki;go_wp2_with fail;refine wqg ?_;repeat
     (with_reducible refine wpQuiet_step (fun K hK=>?_))
     go_simp
     first|(with_reducible refine hK _ ?_)|(rw[if_neg (by decide)];(with_reducible refine hK _ ?_))|(apply Exists.intro;refine⟨fun _=>?_,hK _ ?_⟩;(fail))
     clear hK K
    with_reducible refine wpQuiet_nil ?_
    rintro _ ⟨⟨nq,osq⟩,rfl⟩;have hwg:=Mid.ofWg wr nq osq;generalize wg wr nq osq=wz at hwg |-;replace B0:=B0.mid hwg oZr;replace B1:=B1.mid hwg oZr;replace B2:=B2.mid hwg oZr;replace B3:=B3.mid hwg oZr;replace hm:=hm.trans hwg;replace ho:=ho.mid hwg oZl;replace HP5:=oH (HP5.out.mid hwg oZl);clear k3 k5 hwg;go_wp2_with fail;go_roundw
    case rel=>
     refine⟨kk+1,A4,c4,lo4,hi4,ys,by omega,by go_num,oH ?_,ho,hdis,hlo3,B0,B1,B2,B3,HP5,hm⟩;rw[HY.out];have:=HKI.out;by_cases h1:kk<=idx
     .rw[if_pos h1,if_pos (by omega)]
     rw[if_neg h1,if_neg (by omega)]
    simp[intOf];omega
   obtain rfl:kk=PL:=by omega
   have HY2:Hid (ys=aCy ⟨i,(k:Int)+1,(idx:Nat)⟩ xs):=oH (by rw[HY.out,if_neg (by omega)]);go_wp2_with fail;go_roundw
   case rel=>exact⟨k+1,A4,c4,lo4,hi4,ys,by omega,by go_num,oH (by rw[HE.out,<- List.append_assoc,aPR,<- HX.out];exact HY2.out),ho,hdis,hlo3,B0,B1,B2,B3,HP5,hm⟩
   simp[intOf];omega
  obtain rfl:k=rn:=by omega
  rw[<- HSU.out] at HX;have dk:decide ((k:Int)+1<=(k:Int))=false:=by simp;omega
  clear HPP HPL HPK HPC HME HRE HRR HRS hok HSU HP HPQ hqd hqm;go_wp2_with fail;go_roundw
  case rel=>exact⟨i+1,A3,c3,lo3,hi3,xs,by omega,by go_num,HX,ho,hdis,hlo3,B0,B1,B2,B3,HP5,hm⟩
  simp[intOf];omega
 obtain rfl:i=PL:=by omega
 obtain⟨z0,z1,z2⟩:=B2.c3 rfl;obtain⟨g0,g1,g2⟩:=B3.c3 rfl;have zf:=B2.2.2;have gf:=B3.2.2;go_wp2_with fail;have hcl:(w.heap.size+1+1 == G)=false:=by simp;omega
 have hxx:=HX.out;refine bodyPost_ret (v:=.tuple #[.agg #[.int .i64 rn,.int .i64 i,.slice A3 xs.length c3],.bool true]) (by simp[results,Tryz.results53,go_sem,z0,z1,z2,g0,g1,g2,zf,gf]) rfl ⟨A3,c3,?_,?_,?_⟩
 .rw[HRR.out,HRS.out,HRE.out,hxx]
 .rw[HRE.out,<- hxx]
  refine OG.wide (OG.mid ho (a:=w.heap.size) (b:=w.heap.size+3) ?_ (Or.inl (by omega))) (by omega) (by have:=ho.size;simpa using this) oN;repeat (first|exact Mid.refl _ _ _|refine Mid.stored ?_ _ (by simp;try omega) (by simp;try omega))
 repeat (first|exact hm|refine Mid.storeNew ?_ (by simp;try omega) _)
theorem aDt(r s:Int)(A:Option Addr)(es:List Ed)(c:Nat)(r' s':Int)(B:Option Addr)(es':List Ed)(d:Nat)(u v:Int)(w:World)(lo hi lo2 hi2:Nat)(hr:RG w lo hi A es)(hr2:RG w lo2 hi2 B es')(hl:es.length<=1048576)(hl2:es'.length<=1048576)(hcl:es.length<=c)(hcl2:es'.length<=d)(rr rs:Int)(res:List Ed)(b:Bool)(hres:PullIs r s es r' s' es' u v rr rs res b) :
  Calls Tryz.prog 52 #[aAw r s A es.length c,aAw r' s' B es'.length d,.int .i64 u,.int .i64 v] w fun e w'=>∃ A1 c1,e=.returned (.tuple #[aAw rr rs A1 res.length c1,.bool b])/\OG w' w.heap.size w'.heap.size A1 c1 res/\Mid 0 0 w w':=by
 have HR:=oH hres;clear hres;obtain⟨b1,hb1⟩:=aAC (IsFol r s es);have H1:=oH hb1;obtain⟨b2,hb2⟩:=aAC (IsFol r' s' es');have H2:=oH hb2;clear hb1 hb2;have hm0:Mid 0 0 w (((w.alloc (.cells #[.int .i64 r,.int .i64 s,.slice A es.length c] 35)).alloc (.cells #[.int .i64 r',.int .i64 s',.slice B es'.length d] 35)).alloc (.cells #[.int .i64 0,.int .i64 0,.slice none 0 0] 35)):=((Mid.alloc _ _).trans (Mid.alloc _ _)).trans (Mid.alloc _ _);have B0:=((Box.new w #[.int .i64 r,.int .i64 s,.slice A es.length c] 35).mid (Mid.alloc _ (.cells #[.int .i64 r',.int .i64 s',.slice B es'.length d] 35)) oZr).mid (Mid.alloc _ (.cells #[.int .i64 0,.int .i64 0,.slice none 0 0] 35)) oZr;have B1:=(Box.new (w.alloc (.cells #[.int .i64 r,.int .i64 s,.slice A es.length c] 35)) #[.int .i64 r',.int .i64 s',.slice B es'.length d] 35).mid (Mid.alloc _ (.cells #[.int .i64 0,.int .i64 0,.slice none 0 0] 35)) oZr;have B2:=Box.new ((w.alloc (.cells #[.int .i64 r,.int .i64 s,.slice A es.length c] 35)).alloc (.cells #[.int .i64 r',.int .i64 s',.slice B es'.length d] 35)) #[.int .i64 0,.int .i64 0,.slice none 0 0] 35;simp only[World.size_alloc] at B1 B2;go_enter Tryz.func52,Tryz.ntmps52
 go_wp2_with fail;generalize hw1:((w.alloc (.cells #[.int .i64 r,.int .i64 s,.slice A es.length c] 35)).alloc (.cells #[.int .i64 r',.int .i64 s',.slice B es'.length d] 35)).alloc (.cells #[.int .i64 0,.int .i64 0,.slice none 0 0] 35)=w1 at hm0 B0 B1 B2 |-;have hs1:w1.heap.size=w.heap.size+1+1+1:=by rw[<- hw1];simp
 have HS:=oH hs1;clear hw1 hs1;with_reducible refine(aAR r s A es c _ _ _ (hr.mid hm0 oZl) hl hcl b1 H1.out).mono ?_
 rintro en w2 ⟨rfl,hm2⟩;replace B0:=B0.mid hm2 oZr;replace B1:=B1.mid hm2 oZr;replace B2:=B2.mid hm2 oZr;replace hm0:=hm0.trans hm2;obtain⟨p0,p1,p2⟩:=B0.c3 rfl;obtain⟨k0,k1,k2⟩:=B1.c3 rfl;obtain⟨z0,z1,z2⟩:=B2.c3 rfl;have zf:=B2.2.2;cases b1 with
|false=>
  have hno:¬ PullOk r s es r' s' es' u v:=fun h=>by
   have:=H1.out.2 h.f1;cases this
  obtain⟨rfl,rfl,rfl,rfl⟩:=HR.out.no hno;go_wp2_with fail;refine bodyPost_ret (v:=.tuple #[.agg #[.int .i64 0,.int .i64 0,.slice none 0 0],.bool false]) (by simp[results,Tryz.results52,go_sem,z0,z1,z2,zf]) rfl ⟨none,0,rfl,OG.nil,?_⟩;repeat (first|exact hm0|refine Mid.storeNew ?_ (by simp;try omega) _)
|true=>
 have F1:=oH (H1.out.1 rfl);clear H1;go_wp2_with fail;with_reducible refine(aAR r' s' B es' d _ _ _ (hr2.mid hm0 oZl) hl2 hcl2 b2 H2.out).mono ?_
 rintro en w3 ⟨rfl,hm3⟩;replace B0:=B0.mid hm3 oZr;replace B1:=B1.mid hm3 oZr;replace B2:=B2.mid hm3 oZr;replace hm0:=hm0.trans hm3;clear p0 p1 p2 k0 k1 k2 z0 z1 z2 zf;obtain⟨p0,p1,p2⟩:=B0.c3 rfl;obtain⟨k0,k1,k2⟩:=B1.c3 rfl;obtain⟨z0,z1,z2⟩:=B2.c3 rfl;have zf:=B2.2.2;cases b2 with
|false=>
  have hno:¬ PullOk r s es r' s' es' u v:=fun h=>by
   have:=H2.out.2 h.f2;cases this
  obtain⟨rfl,rfl,rfl,rfl⟩:=HR.out.no hno;go_wp2_with fail;refine bodyPost_ret (v:=.tuple #[.agg #[.int .i64 0,.int .i64 0,.slice none 0 0],.bool false]) (by simp[results,Tryz.results52,go_sem,z0,z1,z2,zf]) rfl ⟨none,0,rfl,OG.nil,?_⟩;repeat (first|exact hm0|refine Mid.storeNew ?_ (by simp;try omega) _)
|true=>
 have F2:=oH (H2.out.1 rfl);have g1:=F1.out.gr.rank;have g2:=F1.out.gr.size;have g3:=F2.out.gr.size;have g4:=F1.out.gr.len;have g5:=F2.out.gr.len;clear H2;have hws:wrap64 (s - 1)=s - 1:=by unfold wrap64;omega
 have hwt:wrap64 (s' - 1)=s' - 1:=by unfold wrap64;omega
 rcases(Decidable.em (r=r')).symm with hrk|hrk
 .have h1a:(r != r')=true:=by simpa using hrk
  have hrk':=oH hrk;have hno:¬ PullOk r s es r' s' es' u v:=fun h=>by
   exact hrk'.out h.rk
  obtain⟨rfl,rfl,rfl,rfl⟩:=HR.out.no hno;go_wp2_with fail;refine bodyPost_ret (v:=.tuple #[.agg #[.int .i64 0,.int .i64 0,.slice none 0 0],.bool false]) (by simp[results,Tryz.results52,go_sem,z0,z1,z2,zf]) rfl ⟨none,0,rfl,OG.nil,?_⟩;repeat (first|exact hm0|refine Mid.storeNew ?_ (by simp;try omega) _)
 subst hrk;rcases(Decidable.em (0<=u/\u<s)).symm with hu|hu
 .have hib:inB u 0 (wrap64 (s - 1))=false:=by rw[hws];unfold inB;simp;omega
  have HU:=oH hu;clear hu;go_wp2_with fail;with_reducible refine(aCe r s A es.length c u _ false hib).mono ?_
  rintro en w4 ⟨rfl,hm4⟩;replace B2:=B2.mid hm4 oZr;replace hm0:=hm0.trans hm4;clear p0 p1 p2 k0 k1 k2 z0 z1 z2 zf;obtain⟨z0,z1,z2⟩:=B2.c3 rfl;have zf:=B2.2.2;have hno:¬ PullOk r s es r s' es' u v:=fun h=>by
   exact HU.out h.u0
  obtain⟨rfl,rfl,rfl,rfl⟩:=HR.out.no hno;go_wp2_with fail;refine bodyPost_ret (v:=.tuple #[.agg #[.int .i64 0,.int .i64 0,.slice none 0 0],.bool false]) (by simp[results,Tryz.results52,go_sem,z0,z1,z2,zf]) rfl ⟨none,0,rfl,OG.nil,?_⟩;repeat (first|exact hm0|refine Mid.storeNew ?_ (by simp;try omega) _)
 have hib:inB u 0 (wrap64 (s - 1))=true:=by rw[hws];unfold inB;simp;omega
 go_wp2_with fail;with_reducible refine(aCe r s A es.length c u _ true hib).mono ?_
 rintro en w4 ⟨rfl,hm4⟩;replace B0:=B0.mid hm4 oZr;replace B1:=B1.mid hm4 oZr;replace B2:=B2.mid hm4 oZr;replace hm0:=hm0.trans hm4;clear p0 p1 p2 k0 k1 k2 z0 z1 z2 zf;obtain⟨p0,p1,p2⟩:=B0.c3 rfl;obtain⟨k0,k1,k2⟩:=B1.c3 rfl;rcases(Decidable.em (0<=v/\v<s')).symm with hv|hv
 .have hib2:inB v 0 (wrap64 (s' - 1))=false:=by rw[hwt];unfold inB;simp;omega
  have HV:=oH hv;clear hv;go_wp2_with fail;with_reducible refine(aCe r s' B es'.length d v _ false hib2).mono ?_
  rintro en w5 ⟨rfl,hm5⟩;replace B2:=B2.mid hm5 oZr;replace hm0:=hm0.trans hm5;clear p0 p1 p2 k0 k1 k2;obtain⟨z0,z1,z2⟩:=B2.c3 rfl;have zf:=B2.2.2;have hno:¬ PullOk r s es r s' es' u v:=fun h=>by
   exact HV.out h.v0
  obtain⟨rfl,rfl,rfl,rfl⟩:=HR.out.no hno;go_wp2_with fail;refine bodyPost_ret (v:=.tuple #[.agg #[.int .i64 0,.int .i64 0,.slice none 0 0],.bool false]) (by simp[results,Tryz.results52,go_sem,z0,z1,z2,zf]) rfl ⟨none,0,rfl,OG.nil,?_⟩;repeat (first|exact hm0|refine Mid.storeNew ?_ (by simp;try omega) _)
 have hib2:inB v 0 (wrap64 (s' - 1))=true:=by rw[hwt];unfold inB;simp;omega
 go_wp2_with fail;with_reducible refine(aCe r s' B es'.length d v _ true hib2).mono ?_
 rintro en w5 ⟨rfl,hm5⟩;replace B0:=B0.mid hm5 oZr;replace B1:=B1.mid hm5 oZr;replace B2:=B2.mid hm5 oZr;replace hm0:=hm0.trans hm5;clear p0 p1 p2 k0 k1 k2;clear hib hib2 hws hwt;obtain⟨rn,rfl⟩:∃ n:Nat,r=n:=⟨r.toNat,by omega⟩
 obtain⟨sn,rfl⟩:∃ n:Nat,s=n:=⟨s.toNat,by omega⟩
 obtain⟨tn,rfl⟩:∃ n:Nat,s'=n:=⟨s'.toNat,by omega⟩
 obtain⟨un,rfl⟩:∃ n:Nat,u=n:=⟨u.toNat,by omega⟩
 obtain⟨vn,rfl⟩:∃ n:Nat,v=n:=⟨v.toNat,by omega⟩
 have hun:un<sn:=by omega
 have hvn:vn<tn:=by omega
 have hp0:PIn sn tn ((un:Int),(vn:Int)):=⟨Int.natCast_nonneg _,Int.ofNat_lt.2 hun,Int.natCast_nonneg _,Int.ofNat_lt.2 hvn⟩
 have hpk0:=aRc (by omega) (by omega) hp0;have HP0:=oH hp0;have hs5:w.heap.size+3<=w5.heap.size:=by have h1:=HS.out;have h2:=hm2.size;have h3:=hm3.size;have h4:=hm4.size;have h5:=hm5.size;omega
 clear hm2 hm3 hm4 hm5 HS hp0;obtain⟨p0,p1,p2⟩:=B0.c3 rfl;have hmm:=@run_makeMap Tryz.prog;have hM0:=PMap.made w5;have haM:=Mid.alloc w5 (.map #[] 0);have hW0:w.heap.size+1+1<w5.heap.size:=B2.1;go_wp2_with (first|(refine aMA rfl _ _ _ rfl rfl hM0 ((un:Int),(vn:Int)) hpk0 (by simp) 0 rfl (by omega) rfl rfl ?_;intro w6 hM1 hm6;have hs6:=hm6.size;have B06:=(B0.mid haM oZr).mid hm6 (Or.inl (by omega));have p06:=B06.cell 0 rfl;have hb6:=B06.1))
 have hord:=aMe w6 ((un:Int),(vn:Int));have hsM:=haM.size;have hm7:=((hm0.trans haM).transNew hm6 (Or.inl (by omega))).trans ((Mid.alloc w6 (.cells #[.int .i64 un,.int .i64 vn] 133)).trans (Mid.alloc _ (.cells #[.int .i64 rn,.int .i64 0,.slice none 0 0] 35)));have hmB:=(Mid.alloc w6 (.cells #[.int .i64 un,.int .i64 vn] 133)).trans (Mid.alloc _ (.cells #[.int .i64 rn,.int .i64 0,.slice none 0 0] 35));have C0:=B06.mid hmB oZr;have C1:=((B1.mid haM oZr).mid hm6 (Or.inl (by omega))).mid hmB oZr;have C2:=((B2.mid haM oZr).mid hm6 (Or.inl (by omega))).mid hmB oZr;have hGbox:=Box.new (w6.alloc (.cells #[.int .i64 un,.int .i64 vn] 133)) #[.int .i64 rn,.int .i64 0,.slice none 0 0] 35;have hPB0:PB ((w6.alloc (.cells #[.int .i64 un,.int .i64 vn] 133)).alloc (.cells #[.int .i64 rn,.int .i64 0,.slice none 0 0] 35)) rn w6.heap.size w5.heap.size (w6.alloc (.cells #[.int .i64 un,.int .i64 vn] 133)).heap.size (some ⟨w6.heap.size,0,none⟩) 1 1 [((un:Int),(vn:Int))] [((un:Int),(vn:Int))] none 0 0 []:=
  ⟨aAc hord (Mid.alloc _ _) oZl,hM1.mid hmB oZr,⟨rfl,.inl ⟨rfl,rfl⟩⟩,hGbox,by simp[Value.ownBlock],hM1.lt,by simp⟩
 generalize hw7:(w6.alloc (.cells #[.int .i64 un,.int .i64 vn] 133)).alloc (.cells #[.int .i64 rn,.int .i64 0,.slice none 0 0] 35)=w7 at hm7 C0 C1 C2 hPB0 |-;simp only[World.size_alloc] at hPB0;generalize hG:w6.heap.size+1=G at hPB0 |-;generalize hBo:w6.heap.size=Bo at hPB0 |-;generalize hMM:w5.heap.size=M at hPB0 |-;have hMw:w.heap.size+3<=M:=by omega
 have hG1:M<G:=by omega
 clear hGbox hord hmB hw7 hG hBo hMM B06 p06 hb6 hs6 hsM haM hm6 hM1 hM0 hmm hW0 hs5 B0 B1 B2 hm0 p0 p1 p2;obtain⟨P,hPP⟩:∃ P,aAf es es' (lets rn) ((un:Int),(vn:Int))=P:=⟨_,rfl⟩
 have HPP:Sec (aAf es es' (lets rn) ((un:Int),(vn:Int))=P):=⟨hPP⟩
 have hs0:aAN es es' (lets rn) ((un:Int),(vn:Int)) 0=[((un:Int),(vn:Int))]:=rfl;have HGL:Hid (∀ e∈es,1<=e.l/\e.l<=3):=oH (fun e he=>by have:=F1.out.gr.all e he;unfold InG at this;omega);have HGL2:Hid (∀ e∈es',1<=e.l/\e.l<=3):=oH (fun e he=>by have:=F2.out.gr.all e he;unfold InG at this;omega);clear hPP;rw[<- hs0] at hPB0;clear hs0;generalize (some (⟨Bo,0,none⟩:Addr))=A0 at hPB0 |-;go_loopw [11,13] (fun ov iv wr=>∃(i n1:Nat) (A1:Option Addr) (c1 n2:Nat) (A2:Option Addr) (c2:Nat) (xs:List Ed),iv=.int .i64 i/\ov=.slice A1 n1 c1/\Hid (i<=n1)/\Hid (xs=aAZ es es' rn P i)/\Hid (PB wr rn Bo M G A1 n1 c1 (aAN es es' (lets rn) ((un:Int),(vn:Int)) i) (aAN es es' (lets rn) ((un:Int),(vn:Int)) i) A2 n2 c2 xs)/\Box wr w.heap.size [.int .i64 rn,.int .i64 sn,.slice A es.length c]/\Box wr (w.heap.size+1) [.int .i64 rn,.int .i64 tn,.slice B es'.length d]/\Box wr (w.heap.size+1+1) [.int .i64 0,.int .i64 0,.slice none 0 0]/\Mid 0 0 w wr) (fun _ iv _=>1601 - (intOf iv).toNat)
 case atStart=>exact⟨0,1,A0,1,0,none,0,[],rfl,rfl,oH oZ,oH rfl,oH hPB0,C0,C1,C2,hm7⟩
 case round=>
  clear hPB0 C0 C1 C2 hm7;obtain⟨wo,hwo⟩:∃ wo,wo=wr:=⟨_,rfl⟩
  subst hwo;obtain⟨i,n1,A1,c1,n2,A2,c2,xs,rfl,rfl,HI,HX,HPB,B0,B1,B2,hm⟩:=hrel;have hn1:=HPB.out.ln1;have hn16:n1<=1600:=by rw[<- hn1];exact aIW (lets rn) F1.out.gr F2.out.gr HP0.out i
  have hin1:=HI.out;by_cases hlt:i<n1
  .obtain⟨p,hp⟩:=aAs (aAN es es' (lets rn) ((un:Int),(vn:Int)) i) (show i<_ by rw[hn1];exact hlt)
   obtain⟨a,b',rfl,ha,hb⟩:∃ a b':Nat,p=((a:Int),(b':Int))/\a<sn/\b'<tn:=by
    obtain⟨x,y⟩:=p;obtain⟨i1,i2,i3,i4⟩:=(aFk (lets rn) F1.out.gr.all F2.out.gr.all HP0.out i).rng _ (List.mem_of_getElem? hp);simp only at i1 i2 i3 i4;exact⟨x.toNat,y.toNat,Prod.ext (by simp only;omega) (by simp only;omega),by omega,by omega⟩
   have HPT:=oH hp;have hPi:P[i]?=some ((a:Int),(b':Int)):=by rw[<- HPP.out];exact aAO (aGp F1.out.gr F2.out.gr HP0.out (by rw[hn1];exact hin1)) hp
   have HSU:=oH (aCF (ea:=es) (eb:=es') (r:=rn) hPi);have HSS:=oH (aCw hp);have hi1:(i:Int)<(n1:Int):=by omega
   clear hp hPi hn1;obtain⟨p0,p1,p2⟩:=B0.c3 rfl;go_wp2_with fail;with_reducible refine(aFd rn _ (by omega)).mono ?_
   rintro en w8 ⟨A8,c8,rfl,hL8,hm8⟩;have hs8:=hm8.size;have hd1:∀ g,Value.ownBlock (.slice A1 n1 c1)=some g->g<wo.heap.size \/ w8.heap.size<=g:=fun g hg=>Or.inl (HPB.out.ord.lt g hg).2;have hd2:∀ g,Value.ownBlock (.slice A2 n2 c2)=some g->g<wo.heap.size \/ w8.heap.size<=g:=fun g hg=>Or.inl (HPB.out.edg.lt g hg).2;have hGw:G<wo.heap.size:=HPB.out.box.1;have HPB8:=oH (HPB.out.mid hm8);replace B0:=B0.mid hm8 oZr;replace B1:=B1.mid hm8 oZr;replace B2:=B2.mid hm8 oZr;replace hm:=hm.trans hm8;have HL8:=oH hL8;have HD1:=oH hd1;have HD2:=oH hd2;obtain⟨LL,hLL⟩:∃ n,(lets rn).length=n:=⟨_,rfl⟩
   have hL6:LL<=6:=by rw[<- hLL,aBL];omega
   have HLL:=oH hLL;have hst0:aBo es es' ((lets rn).take 0) ((a:Int),(b':Int)) (aAN es es' (lets rn) ((un:Int),(vn:Int)) i)=aAN es es' (lets rn) ((un:Int),(vn:Int)) i:=rfl;rw[<- hst0] at HPB8;rw[hLL];clear p0 p1 p2 hm8 hL8 hd1 hd2 hLL hst0 HPB;generalize wo.heap.size=L8 at HL8 HD1 HD2 hGw hs8;generalize w8.heap.size=H8 at HL8 HD1 HD2 hs8;go_wp2_with fail;go_loopw [11,70] (fun ov jv wr=>∃(j n1:Nat) (A1:Option Addr) (c1 n2:Nat) (A2:Option Addr) (c2:Nat) (xs:List Ed),jv=.int .i64 j/\ov=.slice A1 n1 c1/\j<=LL/\Hid (xs=aAZ es es' rn P i++aCD es es' P i ((a:Int),(b':Int)) ((j+1) / 2)) /\
     Hid (PB wr rn Bo M G A1 n1 c1 (aBo es es' ((lets rn).take j) ((a:Int),(b':Int)) (aAN es es' (lets rn) ((un:Int),(vn:Int)) i)) (aBo es es' ((lets rn).take j) ((a:Int),(b':Int)) (aAN es es' (lets rn) ((un:Int),(vn:Int)) i)) A2 n2 c2 xs) /\
     Hid (RV wr L8 H8 A8 (aAd (lets rn)))/\Hid (∀ g,Value.ownBlock (.slice A1 n1 c1)=some g->g<L8 \/ H8<=g)/\Hid (∀ g,Value.ownBlock (.slice A2 n2 c2)=some g->g<L8 \/ H8<=g)/\Box wr w.heap.size [.int .i64 rn,.int .i64 sn,.slice A es.length c]/\Box wr (w.heap.size+1) [.int .i64 rn,.int .i64 tn,.slice B es'.length d]/\Box wr (w.heap.size+1+1) [.int .i64 0,.int .i64 0,.slice none 0 0]/\Mid 0 0 w wr) (fun _ jv _=>LL - (intOf jv).toNat)
   case atStart=>exact⟨0,n1,A1,c1,n2,A2,c2,xs,rfl,rfl,oZ,oH (by rw[HX.out];simp[aCD]),HPB8,HL8,HD1,HD2,B0,B1,B2,hm⟩
   clear HPB8 HL8 HD1 HD2 B0 B1 B2 hm HX;obtain⟨wp,hwp⟩:∃ wp,wp=wr:=⟨_,rfl⟩
   subst hwp;obtain⟨j,n1,A1,c1,n2,A2,c2,xs,rfl,rfl,hj,HX,HPB,HL8,HD1,HD2,B0,B1,B2,hm⟩:=hrel;obtain⟨stj,hstj⟩:∃ st,aBo es es' ((lets rn).take j) ((a:Int),(b':Int)) (aAN es es' (lets rn) ((un:Int),(vn:Int)) i)=st:=⟨_,rfl⟩
   have hokj:PbOk sn tn stj:=by rw[<- hstj];exact PbOk.row F1.out.gr.all F2.out.gr.all _ _ (aFk (lets rn) F1.out.gr.all F2.out.gr.all HP0.out i)
   have hpj:stj[i]?=some ((a:Int),(b':Int)):=by rw[<- hstj];exact aAO (aCU _ _ _ _ _) HPT.out
   rw[hstj] at HPB;have hn1:=HPB.out.ln1;have hn2:=HPB.out.ln2;have hn1b:n1<=1600:=by
    rw[<- hn1,<- hstj];have h1:=(aDU F1.out.gr F2.out.gr HP0.out (j:=j) HPT.out).length_le;have h2:=aEi (lets rn) F1.out.gr F2.out.gr HP0.out;omega
   have hn2b:n2<=4900:=by
    rw[<- hn2,HX.out,List.length_append];have h2:=aCv es es' rn P i;have h3:=aGY es es' P i ((a:Int),(b':Int)) ((j+1) / 2);have h4:i * rn<=1600 * 3:=Nat.mul_le_mul (by omega) (by omega);omega
   by_cases hlt2:j<LL
   .obtain⟨B4,o4,x,hA8,hB4,hx,hcx⟩:=HL8.out.at (k:=j) (by rw[HLL.out];exact hlt2)
    subst hA8;have hxm:=aHt (List.mem_of_getElem? hx);have hnx:=aFy (ea:=es) (eb:=es') (p:=((a:Int),(b':Int))) (st:=aAN es es' (lets rn) ((un:Int),(vn:Int)) i) hx;rw[hstj] at hnx;have hpar:=aQD hx;have hpfx:aBo es es' ((lets rn).take (j+1)) ((a:Int),(b':Int)) (aAN es es' (lets rn) ((un:Int),(vn:Int)) i) <+: P:=by rw[<- HPP.out];exact aDU F1.out.gr F2.out.gr HP0.out HPT.out
    rw[hnx] at hpfx;have HPFX:=oH hpfx;have HNX:=oH hnx;have HPAR:=oH hpar;have HOJ:=oH hokj;have hj0:(0:Int)<=(j:Int):=by omega
    have hj1:(j:Int)<(LL:Int):=by omega
    have hi1':(i:Int)<(n1:Int):=by have h1:=(List.getElem?_eq_some_iff.1 hpj).1;omega
    have hi0:(0:Int)<=(i:Int):=by omega
    obtain⟨g1,hA1,hg1,hg1s⟩:=aAU HPB.out.ord (show 0<n1 by omega);subst hA1;have hrvo:=aAy HPB.out.ord;have hc0:=hrvo.atI (aIZ hpj).1;have hc1:=hrvo.atI (aIZ hpj).2;rw[Nat.zero_add] at hc0 hc1;have hB4s:B4<wp.heap.size:=Nat.lt_of_lt_of_le hB4 HL8.out.1;have hGp:G<wp.heap.size:=HPB.out.box.1;clear hx hnx hpar hpfx hokj hpj hrvo;have k0:=aAb B0.1 (B0.cell 0 rfl);have k1:=aAb B0.1 (B0.cell 1 rfl);have k2:=aAb B0.1 (B0.cell 2 rfl);have k3:=aAb hc0.1 hc0.2;have k4:=aAb hc1.1 hc1.2;have l0:=aAb B1.1 (B1.cell 0 rfl);have l1:=aAb B1.1 (B1.cell 1 rfl);have l2:=aAb B1.1 (B1.cell 2 rfl);have hA:=fun m os=>aBc rn sn A es c a x (wg wp m os) lo hi (hr.mid (hm.trans (Mid.ofWg wp m os)) oZl) (by omega) HGL.out (by omega) (by omega);have hB:=fun m os=>aBc rn tn B es' d b' x (wg wp m os) lo2 hi2 (hr2.mid (hm.trans (Mid.ofWg wp m os)) oZl) (by omega) HGL2.out (by omega) (by omega);go_wp2_with fail;refine wqg ?_;repeat
     (with_reducible refine wpQuiet_step (fun K hK=>?_))
     go_simp
     first|(with_reducible refine hK _ ?_)|(rw[if_neg (by decide)];(with_reducible refine hK _ ?_))|(apply Exists.intro;refine⟨fun _=>?_,hK _ ?_⟩;((first|(go_at_call 135;with_reducible exact Calls.wg_of (hA _ _))|(go_at_call 135;with_reducible exact Calls.wg_of (hB _ _)))))
     clear hK K
    with_reducible refine wpQuiet_nil ?_
    rintro _ ⟨⟨nq,osq⟩,rfl⟩;have hwg:=Mid.ofWg wp nq osq;generalize wg wp nq osq=w9 at hwg |-;replace HPB:=oH (HPB.out.mid hwg);replace HL8:=oH (HL8.out.mid hwg oZl);replace B0:=B0.mid hwg oZr;replace B1:=B1.mid hwg oZr;replace B2:=B2.mid hwg oZr;replace hm:=hm.trans hwg;have hG9:G<w9.heap.size:=HPB.out.box.1;clear k0 k1 k2 k3 k4 l0 l1 l2 hA hB hc0 hc1 hcx hwg hB4 hB4s hg1 hg1s hGp;by_cases ht1:aAe es a x<0
    .have d1:decide (aAe es a x<0)=true:=by simpa using ht1
     have HNS:=oH (aFA (ea:=es) (eb:=es') (p:=((a:Int),(b':Int))) (st:=stj) ht1);have HPE:Hid (aCD es es' P i ((a:Int),(b':Int)) ((j+1) / 2)=aCD es es' P i ((a:Int),(b':Int)) ((j+1+1) / 2)):=oH (aDO HPAR.out (Or.inl ht1)).symm;clear ht1;go_wp2_with fail;go_roundw
     case rel=>exact⟨j+1,n1,_,c1,n2,A2,c2,xs,by go_num,rfl,by omega,oH (by rw[HX.out,HPE.out]),by rw[HNX.out,HNS.out];exact HPB,HL8,HD1,HD2,B0,B1,B2,hm⟩
     simp[intOf];omega
    have d1:decide (aAe es a x<0)=false:=by simpa using ht1
    by_cases ht2:aAe es' b' x<0
    .have d2:decide (aAe es' b' x<0)=true:=by simpa using ht2
     have HNS:=oH (aFB (ea:=es) (eb:=es') (p:=((a:Int),(b':Int))) (st:=stj) ht2);have HPE:Hid (aCD es es' P i ((a:Int),(b':Int)) ((j+1) / 2)=aCD es es' P i ((a:Int),(b':Int)) ((j+1+1) / 2)):=oH (aDO HPAR.out (Or.inr ht2)).symm;clear ht1 ht2;go_wp2_with fail;go_roundw
     case rel=>exact⟨j+1,n1,_,c1,n2,A2,c2,xs,by go_num,rfl,by omega,oH (by rw[HX.out,HPE.out]),by rw[HNX.out,HNS.out];exact HPB,HL8,HD1,HD2,B0,B1,B2,hm⟩
     simp[intOf];omega
    have d2:decide (aAe es' b' x<0)=false:=by simpa using ht2
    have hpin2:=aEk F1.out.gr.all F2.out.gr.all ((a:Int),(b':Int)) ht1 ht2;obtain⟨x',y',hpe⟩:∃ x' y':Nat,aAI es es' ((a:Int),(b':Int)) x=((x':Int),(y':Int)):=by
     obtain⟨i1,i2,i3,i4⟩:=hpin2;exact⟨(aAe es a x).toNat,(aAe es' b' x).toNat,Prod.ext (by simp only[aAI] at i1 |-;omega) (by simp only[aAI] at i3 |-;omega)⟩
    have hpok:aBa ((x':Int),(y':Int)):=aRc (sa:=sn) (sb:=tn) (by omega) (by omega) (by rw[<- hpe];exact hpin2);have htx:aAe es a x=(x':Int):=congrArg Prod.fst hpe;have hty:aAe es' b' x=(y':Int):=congrArg Prod.snd hpe;have HT1:=oH ht1;have HT2:=oH ht2;have HPN:=oH hpe;simp only[htx,hty] at d1 d2 |-;clear ht1 ht2 htx hty hpe hpin2;by_cases hmem:((x':Int),(y':Int))∈stj
    .obtain⟨kI,hkI⟩:∃ n:Nat,stj.idxOf ((x':Int),(y':Int))=n:=⟨_,rfl⟩
     have HNS:=oH (aFC (ea:=es) (eb:=es') (p:=((a:Int),(b':Int))) (st:=stj) (x:=x) (by rw[HPN.out];exact hmem));have HKI:Hid (P.idxOf (aAI es es' ((a:Int),(b':Int)) x)=kI):=oH (by
      rw[HPN.out,<- hkI];have h1:=HPFX.out;rw[HNS.out] at h1;exact aJO hmem h1)
     rcases HPAR.out with⟨hev,hxv⟩|⟨hod,hxv⟩
     .have d3:decide (0<x)=true:=by simp;omega
      have HPE:Hid (aCD es es' P i ((a:Int),(b':Int)) ((j+1) / 2)++[⟨i,x,kI⟩]=aCD es es' P i ((a:Int),(b':Int)) ((j+1+1) / 2)):=oH (aEF hev hxv HT1.out HT2.out HKI.out).symm;clear hev hxv;go_wp2_with (first|(at_lookup;refine aFY rfl _ _ rfl rfl HPB.out.map ((x':Int),(y':Int)) hpok hmem kI hkI rfl ?_))
      clear hmem hkI hpok;have hmd:=Mid.drew1 w9;have hPBu:=HPB.out.mid hmd;replace HL8:=oH (HL8.out.mid hmd oZl);replace B0:=B0.mid hmd oZr;replace B1:=B1.mid hmd oZr;replace B2:=B2.mid hmd oZr;replace hm:=hm.trans hmd;have g2:=hPBu.box.cell 2 rfl;have hP1:=fun W=>aFe (i:Int) x kI W (by omega) (by omega);clear HPB hmd;refine aAB (S:=(fun w'=>w'.cell? ⟨G,2,none⟩=some (.slice A2 n2 c2))) 9 (by kernel_rfl) g2 ?_;generalize World.drew w9=wz at hPBu HL8 B0 B1 B2 hm g2 |-;refine tkT 0 rfl g2 ?_;try simp only[oP]
      refine tkT 1 rfl g2 ?_;try simp only[oP]
      refine tkT 2 rfl g2 ?_;try simp only[oP]
      refine tkT 3 rfl g2 ?_;try simp only[oP]
      refine tkT 4 rfl g2 ?_;try simp only[oP]
      refine rdT 5 rfl (fun K hK=>?_)
      (go_simp;(with_reducible refine(hP1 _).mono ?_);rintro en w15 ⟨rfl,hm15⟩;have U3':=hPBu.box.mid hm15 oZr;go_wp2_with fail)
      refine hK.out _ _ (Or.inr (U3'.cell 2 rfl)) (fun _=>?_);clear hK K;try simp only[oP]
      have hPB15:=hPBu.mid hm15;replace HL8:=oH (HL8.out.mid hm15 oZl);have hH15:H8<=w15.heap.size:=HL8.out.1;replace B0:=B0.mid hm15 oZr;replace B1:=B1.mid hm15 oZr;replace B2:=B2.mid hm15 oZr;replace hm:=hm.trans hm15;clear hPBu g2 hP1 hm15 U3';have hse:aCA (i:Int) x kI=⟨i,x,kI⟩:=by unfold aCA;rw[if_neg (by have:=of_decide_eq_true d3;omega)]
      have HSE:=oH hse;generalize aCA (i:Int) x kI=ed at HSE |-;clear hse;have haz:=Mid.alloc w15 (.cells #[.int .i64 ed.a,.int .i64 ed.l,.int .i64 ed.b] 110);have hPBt:=hPB15.mid haz;replace HL8:=oH (HL8.out.mid haz oZl);replace B0:=B0.mid haz oZr;replace B1:=B1.mid haz oZr;replace B2:=B2.mid haz oZr;replace hm:=hm.trans haz;have hS2:=hPBt.box.cell 2 rfl;have hrs:Rs (w15.alloc (.cells #[.int .i64 ed.a,.int .i64 ed.l,.int .i64 ed.b] 110)) (w15.heap.size+1) (some ⟨w15.heap.size,0,none⟩) [.int .i64 ed.a,.int .i64 ed.l,.int .i64 ed.b]:=fun _=>⟨w15.heap.size,0,rfl,oS,fun j u hu=>(World.cell?_alloc_at _ _ _ _ rfl).trans (by simpa using hu)⟩
      have hone:∀ u∈[Value.int .i64 ed.a,.int .i64 ed.l,.int .i64 ed.b],u.oneCell'=true:=by
       intro u hu;simp at hu;rcases hu with rfl|rfl|rfl <;> rfl
      have hmxl:n2+1<=maxLen:=by unfold maxLen;omega
      have hbyt:(n2+1) * 24<=140737488355328:=by omega
      have hG15:G<w15.heap.size:=hPB15.box.1;have hbas:G+1<=(w15.alloc (.cells #[.int .i64 ed.a,.int .i64 ed.l,.int .i64 ed.b] 110)).heap.size:=by simp;omega
      have HO:=oH hone;clear hone hPB15 haz;refine rdT 6 rfl (fun K hK=>?_);go_simp;refine hK.out _ _ (Or.inr hS2) (fun _=>?_);clear hK K;try simp only[oP]
      generalize hwt:w15.alloc (.cells #[.int .i64 ed.a,.int .i64 ed.l,.int .i64 ed.b] 110)=wt at hPBt HL8 B0 B1 B2 hm hS2 hrs hbas |-;have hszt:wt.heap.size=w15.heap.size+1:=by rw[<- hwt];simp
      have HZT:=oH hszt;have hnG:Value.ownBlock (.slice A2 n2 c2)≠some G:=fun e=>by have:=(hPBt.edg.lt G e).1;omega
      have HNG:=oH hnG;clear hwt hszt hnG;refine rdT 7 rfl (fun K hK=>?_)
      (refine aBh (by rfl) (.tmp 122) (.tmp 127) 33 (by rfl) (G+1) 110 (.agg #[.int .i64 0,.int .i64 0,.int .i64 0]) 3 24 aJo aJu rfl (by decide) (.slice A2 n2 c2) n2 _ (by rfl) hPBt.edg (some ⟨w15.heap.size,0,none⟩) 1 1 _ [.int .i64 ed.a,.int .i64 ed.l,.int .i64 ed.b] (by rfl) hrs rfl HO.out hmxl hbyt hbas ?_;intro v2 w16 ho8 hgr8 hat8;obtain⟨A3,c3,rfl, -, -⟩:=aAg ho8)
      refine hK.out _ _ (Or.inr ((hPBt.box.grown hgr8 HNG.out).cell 2 rfl)) (fun _=>?_);clear hK K;try simp only[oP]
      have hm16:=Mid.of_grownRow hPBt.edg hgr8;have hS3:=(hPBt.box.grown hgr8 HNG.out).cell 2 rfl;have hrf:=(hPBt.box.grown hgr8 HNG.out).2.2;have ho8':w16.ownsRow (G+1) 110 3 (.slice A3 (n2+1) c3) (n2+1) (aAd (edI (xs++[ed]))):=by
       rw[aBT,aAj,aEY];exact ho8
      have hPBn:=hPBt.edge ho8' hgr8;have hst:=Mid.setCell w16 (lo:=G) (hi:=G+1) (p:=⟨G,2,none⟩) (.slice A3 (n2+1) c3) oN oS;have HL9:=oH ((HL8.out.grown hgr8 HD2.out).mid hst (Or.inl (by omega)));have HD9:Hid (∀ g,Value.ownBlock (.slice A3 (n2+1) c3)=some g->g<L8 \/ H8<=g):=oH (by
       intro g hg;rcases hat8 with h|h
       .exact HD2.out g (h.symm.trans hg)
       .rw[h] at hg
        injection hg with hg
        have:=HZT.out;omega)
      have HPB9:=oH hPBn;have R0:=(B0.mid hm16 (Or.inl (by omega))).mid hst (Or.inl (by omega));have R1:=(B1.mid hm16 (Or.inl (by omega))).mid hst (Or.inl (by omega));have R2:=(B2.mid hm16 (Or.inl (by omega))).mid hst (Or.inl (by omega));have hm17:=(hm.transNew hm16 (Or.inl (by omega))).storeNew (p:=⟨G,2,none⟩) (by show w.heap.size<=G;omega) (.slice A3 (n2+1) c3);clear hat8 hS2 hrs hPBt hPBn ho8 ho8' hst hm16 hgr8 HL8 B0 B1 B2 hm;refine tkT 8 rfl hS3 ?_;try simp only[oP]
      refine rdT 9 rfl (fun K hK=>?_)
      (go_simp)
      refine hK.out _ _ (Or.inl rfl) (fun _=>?_);clear hK K;try simp only[oP]
      refine aAE (by kernel_rfl) ?_ _;go_wp2_with fail;go_roundw
      case rel=>exact⟨j+1,n1,_,c1,n2+1,A3,c3,xs++[ed],by go_num,rfl,by omega,oH (by rw[HX.out,List.append_assoc,HSE.out,HPE.out]),by rw[HNX.out,HNS.out];exact HPB9,HL9,HD1,HD9,R0,R1,R2,hm17⟩
      simp[intOf];omega
     have d3:decide (0<x)=false:=by simp;omega
     have HPE:Hid (aCD es es' P i ((a:Int),(b':Int)) ((j+1) / 2)=aCD es es' P i ((a:Int),(b':Int)) ((j+1+1) / 2)):=oH (by rw[show(j+1+1) / 2=(j+1) / 2 by omega]);clear hod hxv;go_wp2_with (first|(at_lookup;refine aFY rfl _ _ rfl rfl HPB.out.map ((x':Int),(y':Int)) hpok hmem kI hkI rfl ?_))
     go_roundw
     case rel=>exact⟨j+1,n1,_,c1,n2,A2,c2,xs,by go_num,rfl,by omega,oH (by rw[HX.out,HPE.out]),by rw[HNX.out,HNS.out];exact HPB,HL8,HD1,HD2,B0,B1,B2,hm⟩
     simp[intOf];omega
    have HNS:Hid (aCo es es' ((a:Int),(b':Int)) stj x=stj++[((x':Int),(y':Int))]):=oH (by rw[aFD HT1.out HT2.out (by rw[HPN.out];exact hmem),HPN.out]);have HKI:Hid (P.idxOf (aAI es es' ((a:Int),(b':Int)) x)=n1):=oH (by
     rw[HPN.out,<- hn1,<- aLK hmem];have h1:=HPFX.out;rw[HNS.out] at h1;exact aJO (by simp) h1)
    have HMEM:=oH hmem;have hn1m:n1<=1048576:=by omega
    rcases HPAR.out with⟨hev,hxv⟩|⟨hod,hxv⟩
    .have d3:decide (0<x)=true:=by simp;omega
     have HPE:Hid (aCD es es' P i ((a:Int),(b':Int)) ((j+1) / 2)++[⟨i,x,n1⟩]=aCD es es' P i ((a:Int),(b':Int)) ((j+1+1) / 2)):=oH (aEF hev hxv HT1.out HT2.out HKI.out).symm;clear hev hxv;go_wp2_with (first|(at_lookup;refine aFX rfl _ _ rfl rfl HPB.out.map ((x':Int),(y':Int)) hpok HMEM.out rfl ?_;intro c0)|(at_mapUpdate;refine aHQ rfl _ _ _ rfl rfl HPB.out.map ((x':Int),(y':Int)) hpok HMEM.out n1 hn1 hn1m rfl rfl ?_;intro w11 hM11 hm11;have HPB11:=oH (HPB.out.put hM11 hm11);have hBo11:Bo<=w11.heap.size:=by(have h1:=HPB11.out.le;have h2:=HPB11.out.box.1;omega))|(at_builtin;refine aDS rfl _ _ rfl _ _ n1 _ stj rfl HPB11.out.ord ((x':Int),(y':Int)) rfl hn1m hBo11 ?_;intro A12 c12 w12 ho12 hgr12 hat12))
     have hm12:=Mid.of_grownRow HPB11.out.ord hgr12;have HPB12:=oH (HPB11.out.push ho12 hgr12 hat12);have hs11:=hm11.size;have hs12:=hm12.size;have hH8:H8<=w9.heap.size:=HL8.out.1;have hMB:=HPB.out.lt;have HL12:=oH ((HL8.out.mid hm11 (Or.inl (by omega))).grown hgr12 HD1.out);have HD12:Hid (∀ g,Value.ownBlock (.slice A12 (n1+1) c12)=some g->g<L8 \/ H8<=g):=oH (by
      intro g hg;rcases hat12 with h|h
      .exact HD1.out g (h.symm.trans hg)
      .rw[h] at hg
       injection hg with hg
       omega)
     replace B0:=(B0.mid hm11 (Or.inl (by omega))).mid hm12 (Or.inl (by omega));replace B1:=(B1.mid hm11 (Or.inl (by omega))).mid hm12 (Or.inl (by omega));replace B2:=(B2.mid hm11 (Or.inl (by omega))).mid hm12 (Or.inl (by omega));replace hm:=(hm.transNew hm11 (Or.inl (by omega))).transNew hm12 (Or.inl (by omega));clear HPB HPB11 HL8 hm11 hm12 hM11 ho12 hgr12 hat12;have HPB:=HPB12;have HL8:=HL12;clear HPB12 HL12;have hmd:=Mid.drew1 w12;have hPBu:=HPB.out.mid hmd;replace HL8:=oH (HL8.out.mid hmd oZl);replace B0:=B0.mid hmd oZr;replace B1:=B1.mid hmd oZr;replace B2:=B2.mid hmd oZr;replace hm:=hm.trans hmd;have g2:=hPBu.box.cell 2 rfl;have hP1:=fun W=>aFe (i:Int) x n1 W (by omega) (by omega);clear HPB hmd;refine aAB (S:=(fun w'=>w'.cell? ⟨G,2,none⟩=some (.slice A2 n2 c2))) 9 (by kernel_rfl) g2 ?_;generalize World.drew w12=wz at hPBu HL8 B0 B1 B2 hm g2 |-;refine tkT 0 rfl g2 ?_;try simp only[oP]
     refine tkT 1 rfl g2 ?_;try simp only[oP]
     refine tkT 2 rfl g2 ?_;try simp only[oP]
     refine tkT 3 rfl g2 ?_;try simp only[oP]
     refine tkT 4 rfl g2 ?_;try simp only[oP]
     refine rdT 5 rfl (fun K hK=>?_)
     (go_simp;(with_reducible refine(hP1 _).mono ?_);rintro en w15 ⟨rfl,hm15⟩;have U3':=hPBu.box.mid hm15 oZr;go_wp2_with fail)
     refine hK.out _ _ (Or.inr (U3'.cell 2 rfl)) (fun _=>?_);clear hK K;try simp only[oP]
     have hPB15:=hPBu.mid hm15;replace HL8:=oH (HL8.out.mid hm15 oZl);have hH15:H8<=w15.heap.size:=HL8.out.1;replace B0:=B0.mid hm15 oZr;replace B1:=B1.mid hm15 oZr;replace B2:=B2.mid hm15 oZr;replace hm:=hm.trans hm15;clear hPBu g2 hP1 hm15 U3';have hse:aCA (i:Int) x n1=⟨i,x,n1⟩:=by unfold aCA;rw[if_neg (by have:=of_decide_eq_true d3;omega)]
     have HSE:=oH hse;generalize aCA (i:Int) x n1=ed at HSE |-;clear hse;have haz:=Mid.alloc w15 (.cells #[.int .i64 ed.a,.int .i64 ed.l,.int .i64 ed.b] 110);have hPBt:=hPB15.mid haz;replace HL8:=oH (HL8.out.mid haz oZl);replace B0:=B0.mid haz oZr;replace B1:=B1.mid haz oZr;replace B2:=B2.mid haz oZr;replace hm:=hm.trans haz;have hS2:=hPBt.box.cell 2 rfl;have hrs:Rs (w15.alloc (.cells #[.int .i64 ed.a,.int .i64 ed.l,.int .i64 ed.b] 110)) (w15.heap.size+1) (some ⟨w15.heap.size,0,none⟩) [.int .i64 ed.a,.int .i64 ed.l,.int .i64 ed.b]:=fun _=>⟨w15.heap.size,0,rfl,oS,fun j u hu=>(World.cell?_alloc_at _ _ _ _ rfl).trans (by simpa using hu)⟩
     have hone:∀ u∈[Value.int .i64 ed.a,.int .i64 ed.l,.int .i64 ed.b],u.oneCell'=true:=by
      intro u hu;simp at hu;rcases hu with rfl|rfl|rfl <;> rfl
     have hmxl:n2+1<=maxLen:=by unfold maxLen;omega
     have hbyt:(n2+1) * 24<=140737488355328:=by omega
     have hG15:G<w15.heap.size:=hPB15.box.1;have hbas:G+1<=(w15.alloc (.cells #[.int .i64 ed.a,.int .i64 ed.l,.int .i64 ed.b] 110)).heap.size:=by simp;omega
     have HO:=oH hone;clear hone hPB15 haz;refine rdT 6 rfl (fun K hK=>?_);go_simp;refine hK.out _ _ (Or.inr hS2) (fun _=>?_);clear hK K;try simp only[oP]
     generalize hwt:w15.alloc (.cells #[.int .i64 ed.a,.int .i64 ed.l,.int .i64 ed.b] 110)=wt at hPBt HL8 B0 B1 B2 hm hS2 hrs hbas |-;have hszt:wt.heap.size=w15.heap.size+1:=by rw[<- hwt];simp
     have HZT:=oH hszt;have hnG:Value.ownBlock (.slice A2 n2 c2)≠some G:=fun e=>by have:=(hPBt.edg.lt G e).1;omega
     have HNG:=oH hnG;clear hwt hszt hnG;refine rdT 7 rfl (fun K hK=>?_)
     (refine aBh (by rfl) (.tmp 122) (.tmp 127) 33 (by rfl) (G+1) 110 (.agg #[.int .i64 0,.int .i64 0,.int .i64 0]) 3 24 aJo aJu rfl (by decide) (.slice A2 n2 c2) n2 _ (by rfl) hPBt.edg (some ⟨w15.heap.size,0,none⟩) 1 1 _ [.int .i64 ed.a,.int .i64 ed.l,.int .i64 ed.b] (by rfl) hrs rfl HO.out hmxl hbyt hbas ?_;intro v2 w16 ho8 hgr8 hat8;obtain⟨A3,c3,rfl, -, -⟩:=aAg ho8)
     refine hK.out _ _ (Or.inr ((hPBt.box.grown hgr8 HNG.out).cell 2 rfl)) (fun _=>?_);clear hK K;try simp only[oP]
     have hm16:=Mid.of_grownRow hPBt.edg hgr8;have hS3:=(hPBt.box.grown hgr8 HNG.out).cell 2 rfl;have hrf:=(hPBt.box.grown hgr8 HNG.out).2.2;have ho8':w16.ownsRow (G+1) 110 3 (.slice A3 (n2+1) c3) (n2+1) (aAd (edI (xs++[ed]))):=by
      rw[aBT,aAj,aEY];exact ho8
     have hPBn:=hPBt.edge ho8' hgr8;have hst:=Mid.setCell w16 (lo:=G) (hi:=G+1) (p:=⟨G,2,none⟩) (.slice A3 (n2+1) c3) oN oS;have HL9:=oH ((HL8.out.grown hgr8 HD2.out).mid hst (Or.inl (by omega)));have HD9:Hid (∀ g,Value.ownBlock (.slice A3 (n2+1) c3)=some g->g<L8 \/ H8<=g):=oH (by
      intro g hg;rcases hat8 with h|h
      .exact HD2.out g (h.symm.trans hg)
      .rw[h] at hg
       injection hg with hg
       have:=HZT.out;omega)
     have HPB9:=oH hPBn;have R0:=(B0.mid hm16 (Or.inl (by omega))).mid hst (Or.inl (by omega));have R1:=(B1.mid hm16 (Or.inl (by omega))).mid hst (Or.inl (by omega));have R2:=(B2.mid hm16 (Or.inl (by omega))).mid hst (Or.inl (by omega));have hm17:=(hm.transNew hm16 (Or.inl (by omega))).storeNew (p:=⟨G,2,none⟩) (by show w.heap.size<=G;omega) (.slice A3 (n2+1) c3);clear hat8 hS2 hrs hPBt hPBn ho8 ho8' hst hm16 hgr8 HL8 B0 B1 B2 hm;refine tkT 8 rfl hS3 ?_;try simp only[oP]
     refine rdT 9 rfl (fun K hK=>?_)
     (go_simp)
     refine hK.out _ _ (Or.inl rfl) (fun _=>?_);clear hK K;try simp only[oP]
     refine aAE (by kernel_rfl) ?_ _;go_wp2_with fail;go_roundw
     case rel=>exact⟨j+1,n1+1,A12,c12,n2+1,A3,c3,xs++[ed],by go_num,rfl,by omega,oH (by rw[HX.out,List.append_assoc,HSE.out,HPE.out]),by rw[HNX.out,HNS.out];exact HPB9,HL9,HD12,HD9,R0,R1,R2,hm17⟩
     simp[intOf];omega
    have d3:decide (0<x)=false:=by simp;omega
    have HPE:Hid (aCD es es' P i ((a:Int),(b':Int)) ((j+1) / 2)=aCD es es' P i ((a:Int),(b':Int)) ((j+1+1) / 2)):=oH (by rw[show(j+1+1) / 2=(j+1) / 2 by omega]);clear hod hxv;go_wp2_with (first|(at_lookup;refine aFX rfl _ _ rfl rfl HPB.out.map ((x':Int),(y':Int)) hpok HMEM.out rfl ?_;intro c0)|(at_mapUpdate;refine aHQ rfl _ _ _ rfl rfl HPB.out.map ((x':Int),(y':Int)) hpok HMEM.out n1 hn1 hn1m rfl rfl ?_;intro w11 hM11 hm11;have HPB11:=oH (HPB.out.put hM11 hm11);have hBo11:Bo<=w11.heap.size:=by(have h1:=HPB11.out.le;have h2:=HPB11.out.box.1;omega))|(at_builtin;refine aDS rfl _ _ rfl _ _ n1 _ stj rfl HPB11.out.ord ((x':Int),(y':Int)) rfl hn1m hBo11 ?_;intro A12 c12 w12 ho12 hgr12 hat12))
    have hm12:=Mid.of_grownRow HPB11.out.ord hgr12;have HPB12:=oH (HPB11.out.push ho12 hgr12 hat12);have hs11:=hm11.size;have hs12:=hm12.size;have hH8:H8<=w9.heap.size:=HL8.out.1;have hMB:=HPB.out.lt;have HL12:=oH ((HL8.out.mid hm11 (Or.inl (by omega))).grown hgr12 HD1.out);have HD12:Hid (∀ g,Value.ownBlock (.slice A12 (n1+1) c12)=some g->g<L8 \/ H8<=g):=oH (by
     intro g hg;rcases hat12 with h|h
     .exact HD1.out g (h.symm.trans hg)
     .rw[h] at hg
      injection hg with hg
      omega)
    replace B0:=(B0.mid hm11 (Or.inl (by omega))).mid hm12 (Or.inl (by omega));replace B1:=(B1.mid hm11 (Or.inl (by omega))).mid hm12 (Or.inl (by omega));replace B2:=(B2.mid hm11 (Or.inl (by omega))).mid hm12 (Or.inl (by omega));replace hm:=(hm.transNew hm11 (Or.inl (by omega))).transNew hm12 (Or.inl (by omega));clear HPB HPB11 HL8 hm11 hm12 hM11 ho12 hgr12 hat12;have HPB:=HPB12;have HL8:=HL12;clear HPB12 HL12;go_roundw
    case rel=>exact⟨j+1,n1+1,A12,c12,n2,A2,c2,xs,by go_num,rfl,by omega,oH (by rw[HX.out,HPE.out]),by rw[HNX.out,HNS.out];exact HPB,HL8,HD12,HD2,B0,B1,B2,hm⟩
    simp[intOf];omega
   obtain rfl:j=LL:=by omega
   have htk:(lets rn).take j=lets rn:=List.take_of_length_le (by rw[HLL.out];exact oN);rw[htk] at hstj;have hj2:(j+1) / 2=rn:=by have h1:=HLL.out;rw[aBL] at h1;omega
   rw[hj2,<- HSU.out] at HX;have hst2:aAN es es' (lets rn) ((un:Int),(vn:Int)) (i+1)=stj:=HSS.out.trans hstj;have HST:=oH hst2;have hi1':i<n1:=by have h1:=(List.getElem?_eq_some_iff.1 hpj).1;omega
   clear hst2 hstj htk hpj hokj;go_wp2_with fail;go_roundw
   case rel=>exact⟨i+1,n1,A1,c1,n2,A2,c2,xs,by go_num,rfl,oH hi1',HX,by rw[HST.out];exact HPB,B0,B1,B2,hm⟩
   simp[intOf];omega
  obtain rfl:i=n1:=by omega
  have hPeq:=aIm F1.out.gr F2.out.gr HP0.out hn1;rw[HPP.out] at hPeq;have hPL:P.length=i:=by rw[hPeq];exact hn1
  have HPL:=oH hPL;clear hPeq hn1;have hGs:G<wo.heap.size:=HPB.out.box.1;have hln2:=HPB.out.ln2;have hn2:n2<=4900:=by
   have h2:=aCv es es' rn P i;have h3:=congrArg List.length HX.out;have h4:i * rn<=1600 * 3:=Nat.mul_le_mul hn16 (by omega);omega
  have HLN2:=oH hln2;have hcl:(w.heap.size+1+1 == G)=false:=by simp;omega
  have hcl2:(G == w.heap.size+1+1)=false:=by simp;omega
  have hst:=Mid.setCell wo (lo:=G) (hi:=G+1) (p:=⟨G,1,none⟩) (.int .i64 (i:Int)) oN oS;have hrg:RG (wo.setCell ⟨G,1,none⟩ (.int .i64 (i:Int))) (G+1) wo.heap.size A2 xs:=RG.mid (OV.rv (e:=110) (size:=3) (c:=c2) (n:=n2) ⟨oN,HPB.out.edg,fun g hg=>(HPB.out.edg.lt g hg).2⟩) hst (Or.inl oN);have Z3:=HPB.out.box.set 1 (.int .i64 (i:Int)) (by simp) rfl;have Z2:=B2.mid hst (Or.inl (by omega));have hmz:=hm.storeNew (p:=⟨G,1,none⟩) (by show w.heap.size<=G;omega) (.int .i64 (i:Int));have g1:=HPB.out.box.cell 1 rfl;have g2:=HPB.out.box.cell 2 rfl;have gf:=HPB.out.box.2.2;have y2:=Z3.cell 2 rfl;have y1:=Z3.cell 1 rfl;clear hln2;rcases(Decidable.em (i<=40)).symm with hsz|hsz
  .have b3:decide (40<(i:Int))=true:=by simp;omega
   have hno:¬ PullOk (rn:Int) (sn:Int) es (rn:Int) (tn:Int) es' (un:Int) (vn:Int):=fun h=>by
    have h1:=h.sz;rw[Int.toNat_natCast,HPP.out,HPL.out] at h1;omega
   obtain⟨rfl,rfl,rfl,rfl⟩:=HR.out.no hno;obtain⟨z0,z1,z2⟩:=Z2.c3 rfl;have zf:=Z2.2.2;clear HPB hno;go_wp2_with fail;refine bodyPost_ret (v:=.tuple #[.agg #[.int .i64 0,.int .i64 0,.slice none 0 0],.bool false]) (by simp[results,Tryz.results52,go_sem,z0,z1,z2,zf]) rfl ⟨none,0,rfl,OG.nil,?_⟩;repeat (first|exact hmz|refine Mid.storeNew ?_ (by simp;try omega) _)
  have b3:decide (40<(i:Int))=false:=by simp;omega
  rcases(Decidable.em (n2<=120)).symm with hln|hln
  .have b4:decide (120<(n2:Int))=true:=by simp;omega
   have hno:¬ PullOk (rn:Int) (sn:Int) es (rn:Int) (tn:Int) es' (un:Int) (vn:Int):=fun h=>by
    have h1:=h.ln;rw[Int.toNat_natCast,HPP.out,HPL.out] at h1;have h2:=congrArg List.length HX.out;have h3:=HLN2.out;omega
   obtain⟨rfl,rfl,rfl,rfl⟩:=HR.out.no hno;obtain⟨z0,z1,z2⟩:=Z2.c3 rfl;have zf:=Z2.2.2;clear HPB hno;go_wp2_with fail;refine bodyPost_ret (v:=.tuple #[.agg #[.int .i64 0,.int .i64 0,.slice none 0 0],.bool false]) (by simp[results,Tryz.results52,go_sem,z0,z1,z2,zf]) rfl ⟨none,0,rfl,OG.nil,?_⟩;repeat (first|exact hmz|refine Mid.storeNew ?_ (by simp;try omega) _)
  have b4:decide (120<(n2:Int))=false:=by simp;omega
  have hok:PullOk (rn:Int) (sn:Int) es (rn:Int) (tn:Int) es' (un:Int) (vn:Int):=⟨F1.out,F2.out,rfl,⟨HP0.out.1,HP0.out.2.1⟩,⟨HP0.out.2.2.1,HP0.out.2.2.2⟩,by rw[Int.toNat_natCast,HPP.out,HPL.out];exact hsz,by rw[Int.toNat_natCast,HPP.out,HPL.out];have h2:=congrArg List.length HX.out;have h3:=HLN2.out;omega⟩
  obtain⟨rfl,hrr,hrs,hre⟩:=HR.out.yes hok;rw[Int.toNat_natCast,HPP.out,HPL.out] at hrs;unfold aCV at hre;rw[Int.toNat_natCast,HPP.out,HPL.out,<- HX.out] at hre;have HRR:=oH hrr;have HRS:=oH hrs;have HRE:=oH hre;clear hrr hrs hre HR HPB hok;go_wp2_with fail;have HRG:=hrg;generalize wo.setCell ⟨G,1,none⟩ (.int .i64 (i:Int))=ws at HRG hrg Z2 Z3 hmz y1 y2 hst |-;with_reducible refine(aCk A2 xs n2 c2 _ _ _ HLN2.out HRG (by omega)).mono ?_
  rintro en w6 ⟨A4,c4,rfl,ho6,hm6⟩;have Q2:=Z2.mid hm6 oZr;have Q3:=Z3.mid hm6 oZr;have hsz6:=hm6.size;have hszs:=hst.size;clear g1 g2 gf y1 y2 hst hrg HRG Z2 Z3;obtain⟨a0,a1,a2⟩:=Q2.c3 rfl;obtain⟨b0,b1,b2⟩:=Q3.c3 rfl;have af:=Q2.2.2;have bf:=Q3.2.2;go_wp2_with fail;refine bodyPost_ret (v:=.tuple #[.agg #[.int .i64 rn,.int .i64 i,.slice A4 (canon xs).length c4],.bool true]) (by simp[results,Tryz.results52,go_sem,a0,a1,a2,b0,b1,b2,af,bf]) rfl ⟨A4,c4,?_,?_,?_⟩
  .rw[HRR.out,HRS.out,HRE.out]
  .rw[HRE.out]
   refine OG.wide (OG.mid ho6 (a:=w.heap.size) (b:=G+1) ?_ (Or.inl (by omega))) (by have:=hmz.size;omega) (by simp) oN;repeat (first|exact Mid.refl _ _ _|refine Mid.stored ?_ _ (by simp;try omega) (by simp;try omega))
  have h:=hmz.trans hm6;repeat (first|exact h|refine Mid.storeNew ?_ (by simp;try omega) _)
theorem aPG(r s:Int)(es:List Ed)(r' s':Int)(es':List Ed)(u v:Int):∃ rr rs res b,PullIs r s es r' s' es' u v rr rs res b:=by
 by_cases h:PullOk r s es r' s' es' u v
 .exact⟨_,_,_,_,.inl ⟨rfl,h,rfl,rfl,rfl⟩⟩
 exact⟨_,_,_,_,.inr ⟨rfl,h,rfl,rfl,rfl⟩⟩
theorem PullIs.lens{r s:Int}{es:List Ed}{r' s':Int}{es':List Ed}{u v:Int}{rr rs:Int}{res:List Ed}{b:Bool}(h:PullIs r s es r' s' es' u v rr rs res b):res.length<=120:=by
 rcases h with⟨-,h, -, -,e⟩|⟨-, -, -, -,e⟩
 .rw[e]
  exact(aJa h).len
 rw[e];simp
def aIt(r s:Int)(es:List Ed)(r' s':Int)(es':List Ed):Prop:=IsCor r s es/\IsCor r' s' es'/\PullOk r s es r' s' es' 0 0
def aEG(r:Int)(es es':List Ed):Int × List Ed:=(((aAf es es' (lets r.toNat) (0,0)).length:Int),aCV r es es' 0 0)
def IntIs(r s:Int)(es:List Ed)(r' s':Int)(es':List Ed)(rr rs:Int)(res:List Ed)(b:Bool):Prop:=
 (b=true/\aIt r s es r' s' es'/\rr=r/\rs=(coreA r (aEG r es es')).1/\res=(coreA r (aEG r es es')).2) \/ (b=false/\¬ aIt r s es r' s' es'/\rr=0/\rs=0/\res=[])
theorem aND(r s:Int)(es:List Ed)(r' s':Int)(es':List Ed):∃ rr rs res b,IntIs r s es r' s' es' rr rs res b:=by
 by_cases h:aIt r s es r' s' es'
 .exact⟨_,_,_,_,.inl ⟨rfl,h,rfl,rfl,rfl⟩⟩
 exact⟨_,_,_,_,.inr ⟨rfl,h,rfl,rfl,rfl⟩⟩
theorem IntIs.no{r s:Int}{es:List Ed}{r' s':Int}{es':List Ed}{rr rs:Int}{res:List Ed}{b:Bool}(h:IntIs r s es r' s' es' rr rs res b)(hn:¬ aIt r s es r' s' es'):b=false/\rr=0/\rs=0/\res=[]:=by
 rcases h with⟨-,h, -⟩|⟨h1, -,h2⟩
 .exact absurd h hn
 exact⟨h1,h2⟩
theorem IntIs.yes{r s:Int}{es:List Ed}{r' s':Int}{es':List Ed}{rr rs:Int}{res:List Ed}{b:Bool}(h:IntIs r s es r' s' es' rr rs res b)(hn:aIt r s es r' s' es'):b=true/\r=rr/\rs=(coreA r (aEG r es es')).1/\res=(coreA r (aEG r es es')).2:=by
 rcases h with⟨h1, -,h2,h3⟩|⟨-,h, -⟩
 .exact⟨h1,h2.symm,h3⟩
 exact absurd hn h
theorem aOt{r s:Int}{es:List Ed}{r' s':Int}{es':List Ed}(h:PullOk r s es r' s' es' 0 0):IsGr r (aEG r es es').1 (aEG r es es').2:=by
 unfold aEG;dsimp only;exact aJa h
theorem IntIs.lens{r s:Int}{es:List Ed}{r' s':Int}{es':List Ed}{rr rs:Int}{res:List Ed}{b:Bool}(h:IntIs r s es r' s' es' rr rs res b):res.length<=120:=by
 rcases h with⟨-,h, -, -,e⟩|⟨-, -, -, -,e⟩
 .rw[e]
  exact(aDb (aOt h.2.2)).len
 rw[e];simp
theorem aDC(r s:Int)(A:Option Addr)(es:List Ed)(c:Nat)(r' s':Int)(B:Option Addr)(es':List Ed)(d:Nat)(w:World)(lo hi lo2 hi2:Nat)(hr:RG w lo hi A es)(hr2:RG w lo2 hi2 B es')(hl:es.length<=1048576)(hl2:es'.length<=1048576)(rr rs:Int)(res:List Ed)(b:Bool)(hres:IntIs r s es r' s' es' rr rs res b) :
  Calls Tryz.prog 39 #[aAw r s A es.length c,aAw r' s' B es'.length d] w fun e w'=>∃ A1 c1,e=.returned (.tuple #[aAw rr rs A1 res.length c1,.bool b])/\OG w' w.heap.size w'.heap.size A1 c1 res/\Mid 0 0 w w':=by
 have hm0:Mid 0 0 w (((w.alloc (.cells #[.int .i64 r,.int .i64 s,.slice A es.length c] 35)).alloc (.cells #[.int .i64 r',.int .i64 s',.slice B es'.length d] 35)).alloc (.cells #[.int .i64 0,.int .i64 0,.slice none 0 0] 35)):=((Mid.alloc _ _).trans (Mid.alloc _ _)).trans (Mid.alloc _ _);have B0:=((Box.new w #[.int .i64 r,.int .i64 s,.slice A es.length c] 35).mid (Mid.alloc _ (.cells #[.int .i64 r',.int .i64 s',.slice B es'.length d] 35)) oZr).mid (Mid.alloc _ (.cells #[.int .i64 0,.int .i64 0,.slice none 0 0] 35)) oZr;have B1:=(Box.new (w.alloc (.cells #[.int .i64 r,.int .i64 s,.slice A es.length c] 35)) #[.int .i64 r',.int .i64 s',.slice B es'.length d] 35).mid (Mid.alloc _ (.cells #[.int .i64 0,.int .i64 0,.slice none 0 0] 35)) oZr;have B2:=Box.new ((w.alloc (.cells #[.int .i64 r,.int .i64 s,.slice A es.length c] 35)).alloc (.cells #[.int .i64 r',.int .i64 s',.slice B es'.length d] 35)) #[.int .i64 0,.int .i64 0,.slice none 0 0] 35;simp only[World.size_alloc] at B1 B2;have HR:=oH hres;clear hres;go_enter Tryz.func39,Tryz.ntmps39
 go_wp2_with fail;generalize ((w.alloc (.cells #[.int .i64 r,.int .i64 s,.slice A es.length c] 35)).alloc (.cells #[.int .i64 r',.int .i64 s',.slice B es'.length d] 35)).alloc (.cells #[.int .i64 0,.int .i64 0,.slice none 0 0] 35)=w1 at hm0 B0 B1 B2 |-;have hs1:w.heap.size+1+1<w1.heap.size:=B2.1;obtain⟨b1,hb1⟩:=aAC (IsCor r s es);have H1:=oH hb1;obtain⟨b2,hb2⟩:=aAC (IsCor r' s' es');have H2:=oH hb2;clear hb1 hb2;with_reducible refine(aAn r s A es c _ _ _ (hr.mid hm0 oZl) hl b1 H1.out).mono ?_
 rintro en w2 ⟨rfl,hm2⟩;replace B0:=B0.mid hm2 oZr;replace B1:=B1.mid hm2 oZr;replace B2:=B2.mid hm2 oZr;replace hm0:=hm0.trans hm2;have hs2:=hm2.size;obtain⟨p0,p1,p2⟩:=B0.c3 rfl;obtain⟨k0,k1,k2⟩:=B1.c3 rfl;cases b1 with
|false=>
  have hno:¬ aIt r s es r' s' es':=fun h=>by have:=H1.out.2 h.1;cases this
  obtain⟨rfl,rfl,rfl,rfl⟩:=HR.out.no hno;obtain⟨z0,z1,z2⟩:=B2.c3 rfl;have zf:=B2.2.2;clear p0 p1 p2 k0 k1 k2;go_wp2_with fail;refine bodyPost_ret (v:=.tuple #[.agg #[.int .i64 0,.int .i64 0,.slice none 0 0],.bool false]) (by simp[results,Tryz.results39,go_sem,z0,z1,z2,zf]) rfl ⟨none,0,rfl,OG.nil,?_⟩;repeat (first|exact hm0|refine Mid.trans ?_ (Mid.alloc _ _)|refine Mid.storeNew ?_ (by simp;try omega) _)
|true=>
 have C1:=oH (H1.out.1 rfl);clear H1;go_wp2_with fail;with_reducible refine(aAn r' s' B es' d _ _ _ (hr2.mid hm0 oZl) hl2 b2 H2.out).mono ?_
 rintro en w3 ⟨rfl,hm3⟩;replace B0:=B0.mid hm3 oZr;replace B1:=B1.mid hm3 oZr;replace B2:=B2.mid hm3 oZr;replace hm0:=hm0.trans hm3;have hs3:=hm3.size;clear p0 p1 p2 k0 k1 k2;obtain⟨p0,p1,p2⟩:=B0.c3 rfl;obtain⟨k0,k1,k2⟩:=B1.c3 rfl;cases b2 with
|false=>
  have hno:¬ aIt r s es r' s' es':=fun h=>by have:=H2.out.2 h.2.1;cases this
  obtain⟨rfl,rfl,rfl,rfl⟩:=HR.out.no hno;obtain⟨z0,z1,z2⟩:=B2.c3 rfl;have zf:=B2.2.2;clear p0 p1 p2 k0 k1 k2;go_wp2_with fail;refine bodyPost_ret (v:=.tuple #[.agg #[.int .i64 0,.int .i64 0,.slice none 0 0],.bool false]) (by simp[results,Tryz.results39,go_sem,z0,z1,z2,zf]) rfl ⟨none,0,rfl,OG.nil,?_⟩;repeat (first|exact hm0|refine Mid.trans ?_ (Mid.alloc _ _)|refine Mid.storeNew ?_ (by simp;try omega) _)
|true=>
 have C2:=oH (H2.out.1 rfl);clear H2;by_cases hp:PullOk r s es r' s' es' 0 0
 .obtain⟨hb,hrr,hrs,hre⟩:=HR.out.yes ⟨C1.out,C2.out,hp⟩
  have hgp:=aJa hp;have hPI:PullIs r s es r' s' es' 0 0 r ((aAf es es' (lets r.toNat) (0,0)).length:Int) (aCV r es es' 0 0) true:=.inl ⟨rfl,hp,rfl,rfl,rfl⟩;unfold aEG at hrs hre;obtain⟨n,hn⟩:∃ n:Nat,(aAf es es' (lets r.toNat) (0,0)).length=n:=⟨_,rfl⟩
  obtain⟨ms,hms⟩:∃ ms,aCV r es es' 0 0=ms:=⟨_,rfl⟩
  rw[hn,hms] at hgp hPI hrs hre;have HPI:=oH hPI;have HGP:=oH hgp;obtain⟨rn,rfl⟩:∃ rn:Nat,r=rn:=⟨r.toNat,by have:=hgp.rank;omega⟩
  obtain⟨q,qs,hQ, -⟩:=aFj (aDb (g:=((n:Int),ms)) hgp);have hP:=fun W lo hi A c h=>aCO rn n A ms c W lo hi h HGP.out;have hml:=hgp.len;rw[hQ] at hP hrs hre;dsimp only at hP hrs hre;have HP:=oH hP;have HALL:=oH (And.intro hb (And.intro hrr (And.intro hrs hre)));clear hP hQ hb hrr hrs hre hp hgp hn hms hPI HR;go_wp2_with fail;with_reducible refine(aDE rn s A es c r' s' B es' d 0 0 _ _ _ _ _ (hr.mid hm0 oZl) (hr2.mid hm0 oZl) hl hl2 rn n ms true HPI.out).mono ?_
  rintro en w4 ⟨A4,c4,rfl,ho4,hm4⟩;have hs4:=hm4.size;have ha4:=Mid.alloc w4 (.cells #[.int .i64 rn,.int .i64 n,.slice A4 ms.length c4] 35);have Y4:=Box.new w4 #[.int .i64 rn,.int .i64 n,.slice A4 ms.length c4] 35;replace B2:=B2.mid hm4 oZr;replace hm0:=hm0.trans hm4;replace B2:=B2.mid ha4 oZr;replace ho4:=ho4.mid ha4 oZl;replace hm0:=hm0.trans ha4;clear p0 p1 p2 k0 k1 k2;obtain⟨y0,y1,y2⟩:=Y4.c3 rfl;go_wp2_with fail;with_reducible refine(HP.out _ _ _ _ _ (OG.rg ho4)).mono ?_
  rintro en w5 ⟨A5,c5,rfl,ho5,hm5⟩;clear HP y0 y1 y2;have hs5:=hm5.size;replace B2:=B2.mid hm5 oZr;replace hm0:=hm0.trans hm5;have hb5:=B2.1;obtain⟨z0,z1,z2⟩:=B2.c3 rfl;have zf:=B2.2.2;go_wp2_with fail;refine bodyPost_ret (v:=.tuple #[.agg #[.int .i64 rn,.int .i64 q,.slice A5 qs.length c5],.bool true]) (by simp[results,Tryz.results39,go_sem,z0,z1,z2,zf]) rfl ⟨A5,c5,by rw[HALL.out.1,<- HALL.out.2.1,HALL.out.2.2.1,HALL.out.2.2.2],?_,?_⟩
  .rw[HALL.out.2.2.2]
   refine OG.wide (OG.mid ho5 (a:=w.heap.size+2) (b:=w.heap.size+3) ?_ (Or.inl (by simp;omega))) (by simp;omega) (by simp) oN;repeat (first|exact Mid.refl _ _ _|refine Mid.stored ?_ _ (by simp;try omega) (by simp;try omega))
  repeat (first|exact hm0|refine Mid.storeNew ?_ (by simp;try omega) _)
 have hno:¬ aIt r s es r' s' es':=fun h=>hp h.2.2;obtain⟨rfl,rfl,rfl,rfl⟩:=HR.out.no hno;have HPI:Hid (PullIs r s es r' s' es' 0 0 0 0 [] false):=oH (.inr ⟨rfl,hp,rfl,rfl,rfl⟩);clear hno hp HR;go_wp2_with fail;with_reducible refine(aDE r s A es c r' s' B es' d 0 0 _ _ _ _ _ (hr.mid hm0 oZl) (hr2.mid hm0 oZl) hl hl2 0 0 [] false HPI.out).mono ?_
 rintro en w4 ⟨A4,c4,rfl,ho4,hm4⟩;replace B2:=B2.mid hm4 oZr;replace hm0:=hm0.trans hm4;have hb22:w.heap.size+1+1<w4.heap.size:=B2.1;obtain⟨z0,z1,z2⟩:=B2.c3 rfl;have zf:=B2.2.2;clear p0 p1 p2 k0 k1 k2;go_wp2_with fail;refine bodyPost_ret (v:=.tuple #[.agg #[.int .i64 0,.int .i64 0,.slice none 0 0],.bool false]) (by simp[results,Tryz.results39,go_sem,z0,z1,z2,zf,hb22,World.cell?_alloc_lt]) rfl ⟨none,0,rfl,OG.nil,?_⟩;repeat (first|exact hm0|refine Mid.trans ?_ (Mid.alloc _ _)|refine Mid.storeNew ?_ (by simp;try omega) _)
theorem aDs(r s:Int)(A:Option Addr)(es:List Ed)(c:Nat)(r' s':Int)(B:Option Addr)(es':List Ed)(d:Nat)(w:World)(lo hi lo2 hi2:Nat)(hr:RG w lo hi A es)(hr2:RG w lo2 hi2 B es')(hl:es.length<=1048576)(hl2:es'.length<=1048576)(hcl:es.length<=c)(hcl2:es'.length<=d)(rr rs:Int)(res:List Ed)(b:Bool)(hres:IntIs r s es r' s' es' rr rs res b) :
  Calls Tryz.prog 38 #[aAw r s A es.length c,aAw r' s' B es'.length d] w fun e w'=>∃ A1 c1,e=.returned (.tuple #[aAw rr rs A1 res.length c1,.bool b])/\OG w' w.heap.size w'.heap.size A1 c1 res/\Mid 0 0 w w':=by
 have hm0:Mid 0 0 w (((w.alloc (.cells #[.int .i64 r,.int .i64 s,.slice A es.length c] 35)).alloc (.cells #[.int .i64 r',.int .i64 s',.slice B es'.length d] 35)).alloc (.cells #[.int .i64 0,.int .i64 0,.slice none 0 0] 35)):=((Mid.alloc _ _).trans (Mid.alloc _ _)).trans (Mid.alloc _ _);have B0:=((Box.new w #[.int .i64 r,.int .i64 s,.slice A es.length c] 35).mid (Mid.alloc _ (.cells #[.int .i64 r',.int .i64 s',.slice B es'.length d] 35)) oZr).mid (Mid.alloc _ (.cells #[.int .i64 0,.int .i64 0,.slice none 0 0] 35)) oZr;have B1:=(Box.new (w.alloc (.cells #[.int .i64 r,.int .i64 s,.slice A es.length c] 35)) #[.int .i64 r',.int .i64 s',.slice B es'.length d] 35).mid (Mid.alloc _ (.cells #[.int .i64 0,.int .i64 0,.slice none 0 0] 35)) oZr;have B2:=Box.new ((w.alloc (.cells #[.int .i64 r,.int .i64 s,.slice A es.length c] 35)).alloc (.cells #[.int .i64 r',.int .i64 s',.slice B es'.length d] 35)) #[.int .i64 0,.int .i64 0,.slice none 0 0] 35;simp only[World.size_alloc] at B1 B2;have HR:=oH hres;clear hres;go_enter Tryz.func38,Tryz.ntmps38
 go_wp2_with fail;generalize ((w.alloc (.cells #[.int .i64 r,.int .i64 s,.slice A es.length c] 35)).alloc (.cells #[.int .i64 r',.int .i64 s',.slice B es'.length d] 35)).alloc (.cells #[.int .i64 0,.int .i64 0,.slice none 0 0] 35)=w1 at hm0 B0 B1 B2 |-;have hs1:w.heap.size+1+1<w1.heap.size:=B2.1;obtain⟨b1,hb1⟩:=aAC (IsCor r s es);have H1:=oH hb1;obtain⟨b2,hb2⟩:=aAC (IsCor r' s' es');have H2:=oH hb2;clear hb1 hb2;with_reducible refine(aAt r s A es c _ _ _ (hr.mid hm0 oZl) hl hcl b1 H1.out).mono ?_
 rintro en w2 ⟨rfl,hm2⟩;replace B0:=B0.mid hm2 oZr;replace B1:=B1.mid hm2 oZr;replace B2:=B2.mid hm2 oZr;replace hm0:=hm0.trans hm2;have hs2:=hm2.size;obtain⟨p0,p1,p2⟩:=B0.c3 rfl;obtain⟨k0,k1,k2⟩:=B1.c3 rfl;cases b1 with
|false=>
  have hno:¬ aIt r s es r' s' es':=fun h=>by have:=H1.out.2 h.1;cases this
  obtain⟨rfl,rfl,rfl,rfl⟩:=HR.out.no hno;obtain⟨z0,z1,z2⟩:=B2.c3 rfl;have zf:=B2.2.2;clear p0 p1 p2 k0 k1 k2;go_wp2_with fail;refine bodyPost_ret (v:=.tuple #[.agg #[.int .i64 0,.int .i64 0,.slice none 0 0],.bool false]) (by simp[results,Tryz.results38,go_sem,z0,z1,z2,zf]) rfl ⟨none,0,rfl,OG.nil,?_⟩;repeat (first|exact hm0|refine Mid.trans ?_ (Mid.alloc _ _)|refine Mid.storeNew ?_ (by simp;try omega) _)
|true=>
 have C1:=oH (H1.out.1 rfl);clear H1;go_wp2_with fail;with_reducible refine(aAt r' s' B es' d _ _ _ (hr2.mid hm0 oZl) hl2 hcl2 b2 H2.out).mono ?_
 rintro en w3 ⟨rfl,hm3⟩;replace B0:=B0.mid hm3 oZr;replace B1:=B1.mid hm3 oZr;replace B2:=B2.mid hm3 oZr;replace hm0:=hm0.trans hm3;have hs3:=hm3.size;clear p0 p1 p2 k0 k1 k2;obtain⟨p0,p1,p2⟩:=B0.c3 rfl;obtain⟨k0,k1,k2⟩:=B1.c3 rfl;cases b2 with
|false=>
  have hno:¬ aIt r s es r' s' es':=fun h=>by have:=H2.out.2 h.2.1;cases this
  obtain⟨rfl,rfl,rfl,rfl⟩:=HR.out.no hno;obtain⟨z0,z1,z2⟩:=B2.c3 rfl;have zf:=B2.2.2;clear p0 p1 p2 k0 k1 k2;go_wp2_with fail;refine bodyPost_ret (v:=.tuple #[.agg #[.int .i64 0,.int .i64 0,.slice none 0 0],.bool false]) (by simp[results,Tryz.results38,go_sem,z0,z1,z2,zf]) rfl ⟨none,0,rfl,OG.nil,?_⟩;repeat (first|exact hm0|refine Mid.trans ?_ (Mid.alloc _ _)|refine Mid.storeNew ?_ (by simp;try omega) _)
|true=>
 have C2:=oH (H2.out.1 rfl);clear H2;by_cases hp:PullOk r s es r' s' es' 0 0
 .obtain⟨hb,hrr,hrs,hre⟩:=HR.out.yes ⟨C1.out,C2.out,hp⟩
  have hgp:=aJa hp;have hPI:PullIs r s es r' s' es' 0 0 r ((aAf es es' (lets r.toNat) (0,0)).length:Int) (aCV r es es' 0 0) true:=.inl ⟨rfl,hp,rfl,rfl,rfl⟩;unfold aEG at hrs hre;obtain⟨n,hn⟩:∃ n:Nat,(aAf es es' (lets r.toNat) (0,0)).length=n:=⟨_,rfl⟩
  obtain⟨ms,hms⟩:∃ ms,aCV r es es' 0 0=ms:=⟨_,rfl⟩
  rw[hn,hms] at hgp hPI hrs hre;have HPI:=oH hPI;have HGP:=oH hgp;obtain⟨rn,rfl⟩:∃ rn:Nat,r=rn:=⟨r.toNat,by have:=hgp.rank;omega⟩
  obtain⟨q,qs,hQ, -⟩:=aFj (aDb (g:=((n:Int),ms)) hgp);have hP:=fun W lo hi A c h=>aFS rn n A ms c W lo hi h HGP.out;have hml:=hgp.len;rw[hQ] at hP hrs hre;dsimp only at hP hrs hre;have HP:=oH hP;have HALL:=oH (And.intro hb (And.intro hrr (And.intro hrs hre)));clear hP hQ hb hrr hrs hre hp hgp hn hms hPI HR;go_wp2_with fail;with_reducible refine(aDt rn s A es c r' s' B es' d 0 0 _ _ _ _ _ (hr.mid hm0 oZl) (hr2.mid hm0 oZl) hl hl2 hcl hcl2 rn n ms true HPI.out).mono ?_
  rintro en w4 ⟨A4,c4,rfl,ho4,hm4⟩;have hs4:=hm4.size;have ha4:=Mid.alloc w4 (.cells #[.int .i64 rn,.int .i64 n,.slice A4 ms.length c4] 35);have Y4:=Box.new w4 #[.int .i64 rn,.int .i64 n,.slice A4 ms.length c4] 35;replace B2:=B2.mid hm4 oZr;replace hm0:=hm0.trans hm4;replace B2:=B2.mid ha4 oZr;replace ho4:=ho4.mid ha4 oZl;replace hm0:=hm0.trans ha4;clear p0 p1 p2 k0 k1 k2;obtain⟨y0,y1,y2⟩:=Y4.c3 rfl;go_wp2_with fail;with_reducible refine(HP.out _ _ _ _ _ (OG.rg ho4)).mono ?_
  rintro en w5 ⟨A5,c5,rfl,ho5,hm5⟩;clear HP y0 y1 y2;have hs5:=hm5.size;replace B2:=B2.mid hm5 oZr;replace hm0:=hm0.trans hm5;have hb5:=B2.1;obtain⟨z0,z1,z2⟩:=B2.c3 rfl;have zf:=B2.2.2;go_wp2_with fail;refine bodyPost_ret (v:=.tuple #[.agg #[.int .i64 rn,.int .i64 q,.slice A5 qs.length c5],.bool true]) (by simp[results,Tryz.results38,go_sem,z0,z1,z2,zf]) rfl ⟨A5,c5,by rw[HALL.out.1,<- HALL.out.2.1,HALL.out.2.2.1,HALL.out.2.2.2],?_,?_⟩
  .rw[HALL.out.2.2.2]
   refine OG.wide (OG.mid ho5 (a:=w.heap.size+2) (b:=w.heap.size+3) ?_ (Or.inl (by simp;omega))) (by simp;omega) (by simp) oN;repeat (first|exact Mid.refl _ _ _|refine Mid.stored ?_ _ (by simp;try omega) (by simp;try omega))
  repeat (first|exact hm0|refine Mid.storeNew ?_ (by simp;try omega) _)
 have hno:¬ aIt r s es r' s' es':=fun h=>hp h.2.2;obtain⟨rfl,rfl,rfl,rfl⟩:=HR.out.no hno;have HPI:Hid (PullIs r s es r' s' es' 0 0 0 0 [] false):=oH (.inr ⟨rfl,hp,rfl,rfl,rfl⟩);clear hno hp HR;go_wp2_with fail;with_reducible refine(aDt r s A es c r' s' B es' d 0 0 _ _ _ _ _ (hr.mid hm0 oZl) (hr2.mid hm0 oZl) hl hl2 hcl hcl2 0 0 [] false HPI.out).mono ?_
 rintro en w4 ⟨A4,c4,rfl,ho4,hm4⟩;replace B2:=B2.mid hm4 oZr;replace hm0:=hm0.trans hm4;have hb22:w.heap.size+1+1<w4.heap.size:=B2.1;obtain⟨z0,z1,z2⟩:=B2.c3 rfl;have zf:=B2.2.2;clear p0 p1 p2 k0 k1 k2;go_wp2_with fail;refine bodyPost_ret (v:=.tuple #[.agg #[.int .i64 0,.int .i64 0,.slice none 0 0],.bool false]) (by simp[results,Tryz.results38,go_sem,z0,z1,z2,zf,hb22,World.cell?_alloc_lt]) rfl ⟨none,0,rfl,OG.nil,?_⟩;repeat (first|exact hm0|refine Mid.trans ?_ (Mid.alloc _ _)|refine Mid.storeNew ?_ (by simp;try omega) _)
structure MeetFacts (r s:Int) (es:List Ed) (r' s':Int) (es':List Ed) (rr rs:Int) (res:List Ed):Prop where
 c1:IsCor r s es
 c2:IsCor r' s' es'
 rk:r'=r
 rr':rr=r
 cor:IsCor r rs res
 lang:∀ w,LtW w->(InS res w↔InS es w/\InS es' w)
theorem aJV{r s:Int}{es:List Ed}{r' s':Int}{es':List Ed}{rr rs:Int}{res:List Ed}(h:IntIs r s es r' s' es' rr rs res true):MeetFacts r s es r' s' es' rr rs res:=by
 rcases h with⟨-,⟨hc,hc',hp⟩,e1,e2,e3⟩|⟨h, -⟩
 .have hrk:=hp.rk
  subst hrk;have hg:=aOt hp;have hf:IsFol r (aEG r es es').1 (aEG r es es').2:=by
   unfold aEG;dsimp only;exact aKV hp.f1 hp.f2 hp
  have hpi:=fun w=>aSB hp.f1 hp.f2 hp.pin w;have e0:(aEG r es es').2=aCV r es es' 0 0:=by
   unfold aEG;dsimp only
  rw[<- e0] at hpi;have hcr:=aRY hg;have hcl:=fun w (lw:LtW w)=>aQb hg lw;generalize aEG r es es'=G at hg hf hpi hcr hcl e2 e3;obtain⟨gs,ge⟩:=G;simp only at hg hf hpi hcr hcl;rw[<- e2,<- e3] at hcr;rw[<- e3] at hcl;exact⟨hc,hc',rfl,e1,hcr,fun w lw=>(hcl w lw).trans ((aNU hf lw).trans (hpi w))⟩
 cases h
abbrev Ser:=List Int->Int
def aMd:Ser:=fun m=>if m=[] then 1 else 0
def aLZ(y:Int)(B:Ser):Ser
|[]=>B []
|z::m=>if z=y then B (z::m)+B m else B (z::m)
def aKM(y:Int)(B:Ser):Ser
|[]=>B []
|z::m=>if z=y then B (z::m) - aKM y B m else B (z::m)
def aPm(x:Int)(B:Ser):Ser:=if 0<x then aLZ x B else aKM (-x) B
def co:List Int->Ser
|[]=>aMd
|x::w=>aPm x (co w)
theorem aUC(y:Int)(B:Ser):aLZ y (aKM y B)=B:=by
 funext m
 cases m with
|nil=>rfl
|cons z m=>
  rw[aLZ];split
  .rename_i h
   rw[aKM,if_pos h];omega
  rename_i h;rw[aKM,if_neg h]
theorem aUB(y:Int)(B:Ser):aKM y (aLZ y B)=B:=by
 funext m
 induction m with
|nil=>rfl
|cons z m ih=>
  rw[aKM];split
  .rename_i h
   rw[ih,aLZ,if_pos h];omega
  rename_i h;rw[aLZ,if_neg h]
theorem aSs{x:Int}(hx:x≠0)(B:Ser):aPm x (aPm (-x) B)=B:=by
 unfold aPm;by_cases h:0<x
 .rw[if_pos h,if_neg (by omega),Int.neg_neg,aUC]
 rw[if_neg h,if_pos (by omega),aUB]
def aRM(w:List Int)(B:Ser):Ser:=w.foldr aPm B
theorem aSS(w:List Int):co w=aRM w aMd:=by
 induction w with
|nil=>rfl
|cons x w ih=>rw[co,ih];rfl
theorem aKq(a b:List Int)(B:Ser):aRM (a++b) B=aRM a (aRM b B):=by simp[aRM]
theorem aRN{w:List Int}:∀ {out:List Int},LtW out->LtW w->Rd out->∀ B,aRM (red out w) B=aRM (out++w) B:=by
 induction w with
|nil=>intro out _ _ _ B;rw[List.append_nil];rfl
|cons x w ih=>
  intro out ho hw hr B;have hx:=hw.head;have hs:=hr.step ho hx;have hl:LtW (aAX out x):=by
   have:=LtW.red ho (LtW.one hx)
   simpa [red] using this
  have e:red out (x::w)=red (aAX out x) w:=rfl;rw[e,ih hl hw.tail hs,aKq,show out++x::w=(out++[x])++w by simp,aKq (out++[x])];generalize aRM w B=C;rcases aAP out with rfl|⟨t,a,rfl⟩
  .rfl
  unfold aAX;simp only[List.getLast?_append,List.getLast?_singleton,Option.some_or];by_cases hi:aFf a x=true
  .have ha:Lt3 a:=ho a (by simp)
   have hax:=(aDT ha hx).1 hi;simp only[hi,if_true];rw[List.dropLast_concat,show t++[a]++[x]=t++[a,x] by simp,aKq t];have:aRM [a,x] C=C:=by
    show aPm a (aPm x C)=C
    have hx0:=ha.1;rw[show x = -a by omega];exact aSs hx0 C
   rw[this]
  simp only[hi]
  rfl
theorem aPT{w:List Int}(hw:LtW w):co (red [] w)=co w:=by
 rw[aSS,aSS,aRN LtW.nil hw Rd.nil]
 rfl
theorem aNK{a b:List Int}(ha:LtW a)(hb:LtW b)(h:Eqv a b):co a=co b:=by
 rw[<- aPT ha,<- aPT hb,h]
def conv(A B:Ser):Ser
|[]=>A [] * B []
|z::m=>A [] * B (z::m)+conv (fun t=>A (z::t)) B m
theorem aRX(A A' B:Ser):∀ m,conv (fun t=>A t+A' t) B m=conv A B m+conv A' B m:=by
 intro m
 induction m generalizing A A' with
|nil=>simp only[conv];rw[Int.add_mul]
|cons z m ih=>simp only[conv];rw[ih,Int.add_mul];omega
theorem aNP(A A' B:Ser):∀ m,conv (fun t=>A t - A' t) B m=conv A B m - conv A' B m:=by
 intro m
 induction m generalizing A A' with
|nil=>simp only[conv];rw[Int.sub_mul]
|cons z m ih=>simp only[conv];rw[ih,Int.sub_mul];omega
theorem aPX(A B B':Ser):∀ m,conv A (fun t=>B t+B' t) m=conv A B m+conv A B' m:=by
 intro m
 induction m generalizing A with
|nil=>simp only[conv];rw[Int.mul_add]
|cons z m ih=>simp only[conv];rw[ih,Int.mul_add];omega
theorem aPY(B:Ser):∀ m,conv (fun _=>0) B m=0:=by
 intro m
 induction m with
|nil=>simp[conv]
|cons z m ih=>simp only[conv];rw[ih];simp
theorem aNO(B:Ser):conv aMd B=B:=by
 funext m
 cases m with
|nil=>simp[conv,aMd]
|cons z m=>
  simp only[conv];rw[show(fun t=>aMd (z::t))=fun _=>0 from funext fun t=>by simp[aMd],aPY];simp[aMd]
theorem aQL(y:Int)(A B:Ser):aLZ y (conv A B)=conv (aLZ y A) B:=by
 funext m
 cases m with
|nil=>rfl
|cons z m=>
  rw[aLZ];simp only[conv];split
  .rename_i h
   rw[show(fun t=>aLZ y A (z::t))=fun t=>A (z::t)+A t from funext fun t=>by rw[aLZ,if_pos h],aRX];have:aLZ y A []=A []:=rfl;rw[this];omega
  rename_i h;rw[show(fun t=>aLZ y A (z::t))=fun t=>A (z::t) from funext fun t=>by rw[aLZ,if_neg h]]
  rfl
theorem aQK(y:Int)(A B:Ser):aKM y (conv A B)=conv (aKM y A) B:=by
 funext m
 induction m with
|nil=>rfl
|cons z m ih=>
  rw[aKM];simp only[conv];split
  .rename_i h
   rw[ih,show(fun t=>aKM y A (z::t))=fun t=>A (z::t) - aKM y A t from funext fun t=>by rw[aKM,if_pos h],aNP];have:aKM y A []=A []:=rfl;rw[this];omega
  rename_i h;rw[show(fun t=>aKM y A (z::t))=fun t=>A (z::t) from funext fun t=>by rw[aKM,if_neg h]]
  rfl
theorem aLt(u v:List Int):co (u++v)=conv (co u) (co v):=by
 induction u with
|nil=>rw[List.nil_append,co,aNO]
|cons x u ih=>
  rw[List.cons_append,co,ih,co];unfold aPm;split
  .exact aQL _ _ _
  exact aQK _ _ _
theorem aHD(w:List Int):co w []=1:=by
 induction w with
|nil=>rfl
|cons x w ih=>
  rw[co];unfold aPm;split <;> exact ih
def Mon(m:List Int):Prop:=∀ z∈m,1<=z/\z<=3
def num:List Int->Nat
|[]=>0
|z::m=>z.toNat * 4 ^ m.length+num m
theorem aOh:∀ {m:List Int},Mon m->num m<4 ^ m.length
|[],_=>by simp[num]
|z::m,h=>by
  have h1:=aOh (m:=m) fun y hy=>h y (List.mem_cons_of_mem _ hy);have h2:=h z List.mem_cons_self;rw[num,List.length_cons,Nat.pow_succ];have h3:z.toNat<=3:=by omega
  have:=Nat.mul_le_mul_right (4 ^ m.length) h3;omega
theorem aHu{t m:List Int}(ht:Mon t)(hm:Mon m)(h:t.length<m.length):num t<num m:=by
 have h1:=aOh ht;cases m with
|nil=>simp at h
|cons z m=>
  have h2:=hm z List.mem_cons_self;rw[num];simp only[List.length_cons] at h;have h3:4 ^ t.length<=4 ^ m.length:=Nat.pow_le_pow_right (by omega) (by omega);have h4:=Nat.mul_le_mul_right (4 ^ m.length) (show 1<=z.toNat by omega);omega
theorem aQR:∀ {t m:List Int},Mon t->Mon m->t.length=m.length->num t=num m->t=m
|[],[],_,_,_,_=>rfl
|[],_::_,_,_,h,_=>by simp at h
|_::_,[],_,_,h,_=>by simp at h
|y::t,z::m,ht,hm,hl,h=>by
  have hl2:t.length=m.length:=by simpa using hl
  have ht2:Mon t:=fun q hq=>ht q (List.mem_cons_of_mem _ hq);have hm2:Mon m:=fun q hq=>hm q (List.mem_cons_of_mem _ hq);have h1:=aOh ht2;have h2:=aOh hm2;rw[num,num,hl2] at h;rw[hl2] at h1;have hy:=ht y List.mem_cons_self;have hz:=hm z List.mem_cons_self;have h3:y.toNat=z.toNat:=by
   rcases Nat.lt_trichotomy y.toNat z.toNat with h4|h4|h4
   .have:=Nat.mul_le_mul_right (4 ^ m.length) (show y.toNat+1<=z.toNat by omega)
    rw[Nat.add_mul] at this;omega
   .exact h4
   .have:=Nat.mul_le_mul_right (4 ^ m.length) (show z.toNat+1<=y.toNat by omega)
    rw[Nat.add_mul] at this;omega
  rw[h3] at h;rw[aQR ht2 hm2 hl2 (by omega),show y=z by omega]
def Low(A:Ser)(k:Nat):Prop:=∀ t,Mon t->t≠[]->num t<k->A t=0
def PosS(A:Ser):Prop:=∃ m,Mon m/\m≠[]/\0<A m/\Low A (num m)
theorem Low.len{A:Ser}{m t:List Int}(h:Low A (num m))(hm:Mon m)(ht:Mon t)(hne:t≠[])(hl:t.length<m.length):A t=0:=h t ht hne (aHu ht hm hl)
theorem aGz{A B:Ser}:∀ {m:List Int},Mon m->(∀ t,Mon t->t.length<m.length->A t=0)->conv A B m=A m * B []
|[],_,_=>rfl
|z::m,hm,h=>by
  have hz:=hm z List.mem_cons_self;have hm2:Mon m:=fun q hq=>hm q (List.mem_cons_of_mem _ hq);simp only[conv];rw[h [] (by intro q hq;cases hq) (by simp),aGz (A:=fun t=>A (z::t)) hm2 fun t ht hl=>h (z::t) (fun q hq=>by
   rcases List.mem_cons.1 hq with rfl|hq
   .exact hz
   .exact ht q hq) (by simp;omega)]
  simp
theorem aJI{A B:Ser}:∀ {m:List Int},Mon m->(∀ t,Mon t->t.length<m.length->B t=0)->conv A B m=A [] * B m
|[],_,_=>rfl
|z::m,hm,h=>by
  have hm2:Mon m:=fun q hq=>hm q (List.mem_cons_of_mem _ hq);simp only[conv];rw[aJI (A:=fun t=>A (z::t)) (B:=B) hm2 fun t ht hl=>h t ht (by simp;omega),h m hm2 (by simp)];simp
theorem aNN{A B:Ser}(hA:A []=1)(hB:B []=1){m:List Int}(hm:Mon m)(hne:m≠[])(h:∀ t,Mon t->t≠[]->t.length<m.length->A t=0):conv A B m=A m+B m:=by
 cases m with
|nil=>exact absurd rfl hne
|cons z m=>
  have hz:=hm z List.mem_cons_self;have hm2:Mon m:=fun q hq=>hm q (List.mem_cons_of_mem _ hq);simp only[conv];rw[aGz (A:=fun t=>A (z::t)) hm2 fun t ht hl=>h (z::t) (fun q hq=>by
   rcases List.mem_cons.1 hq with rfl|hq
   .exact hz
   .exact ht q hq) (by simp) (by simp;omega),hA,hB]
  omega
theorem PosS.mul{A B:Ser}(hA:A []=1)(hB:B []=1)(h:PosS A)(k:PosS B):PosS (conv A B):=by
 obtain⟨m,hm,hne,hp,hl⟩:=h;obtain⟨n,hn,hne2,hp2,hl2⟩:=k;have key:∀ t,Mon t->t≠[]->num t<=num m->conv A B t=A t+B t:=fun t ht h1 h2=>aNN hA hB ht h1 fun q hq h3 h4=>hl q hq h3 (by have:=aHu hq ht h4;omega)
 rcases Nat.lt_trichotomy (num m) (num n) with h1|h1|h1
 .refine⟨m,hm,hne,?_,fun t ht h2 h3=>?_⟩
  .rw[key m hm hne oN,hl2 m hm hne h1];omega
  rw[key t ht h2 (by omega),hl t ht h2 h3,hl2 t ht h2 (by omega)];rfl
 .refine⟨m,hm,hne,?_,fun t ht h2 h3=>?_⟩
  .have hlen:m.length=n.length:=by
    rcases Nat.lt_trichotomy m.length n.length with h4|h4|h4
    .have:=aHu hm hn h4;omega
    .exact h4
    have:=aHu hn hm h4;omega
   obtain rfl:=aQR hm hn hlen h1;rw[key m hm hne oN];omega
  rw[key t ht h2 (by omega),hl t ht h2 h3,hl2 t ht h2 (by omega)];rfl
 refine⟨n,hn,hne2,?_,fun t ht h2 h3=>?_⟩
 .rw[key n hn hne2 (by omega),hl n hn hne2 h1];omega
 rw[key t ht h2 (by omega),hl t ht h2 (by omega),hl2 t ht h2 h3];rfl
theorem PosS.conj{A U V:Ser}(hA:A []=1)(hU:U []=1)(hV:V []=1)(hUV:conv U V=aMd)(h:PosS A):PosS (conv U (conv A V)):=by
 obtain⟨m,hm,hne,hp,hl⟩:=h;have e1:conv A V=fun t=>V t+conv (fun t=>A t - aMd t) V t:=funext fun t=>by
  rw[aNP,aNO];omega
 have e2:∀ t,conv U (conv A V) t=aMd t+conv U (conv (fun t=>A t - aMd t) V) t:=fun t=>by
  rw[e1,aPX,hUV]
 have hD:∀ t,Mon t->t.length<m.length->A t - aMd t=0:=fun t ht h1=>by
  by_cases h2:t=[]
  .subst h2;rw[hA];rfl
  .rw[hl.len hm ht h2 h1];simp[aMd,h2]
 have key:∀ t,Mon t->t≠[]->t.length<=m.length->conv U (conv A V) t=A t:=fun t ht h1 h2=>by
  rw[e2,aJI (A:=U) (B:=conv (fun t=>A t - aMd t) V) ht fun q hq h3=>?_,aGz ht fun q hq h3=>hD q hq (by omega),hU,hV]
  .simp[aMd,h1]
  .rw[aGz hq fun p hp' h4=>hD p hp' (by omega),hD q hq (by omega)];simp
 refine⟨m,hm,hne,by rw[key m hm hne oN];exact hp,fun t ht h1 h2=>?_⟩;have h3:t.length<=m.length:=Nat.not_lt.1 fun h4=>by have:=aHu hm ht h4;omega
 rw[key t ht h1 h3];exact hl t ht h1 h2
def Alt:List Int->Prop
|[]=>True
|[_]=>True
|y::z::m=>y≠z/\Alt (z::m)
theorem Alt.tail{y:Int}{m:List Int}(h:Alt (y::m)):Alt m:=by
 cases m with
|nil=>trivial
|cons z m=>exact h.2
theorem Alt.head{y:Int}{m:List Int}(h:Alt (y::m)):∀ z t,m=z::t->z≠y:=by
 rintro z t rfl;exact fun e=>h.1 e.symm
theorem Alt.mk{y:Int}{m:List Int}(h:Alt m)(hh:∀ z t,m=z::t->z≠y):Alt (y::m):=by
 cases m with
|nil=>trivial
|cons z m=>exact⟨fun e=>hh z m rfl e.symm,h⟩
def aTW(x:Int):Int:=if 0<x then 1 else -1
theorem aOf{a:Int}{B:Ser}{m:List Int}(hh:∀ z t,m=z::t->z≠a):aKM a B m=B m:=by
 cases m with
|nil=>rfl
|cons z t=>rw[aKM,if_neg (hh z t rfl)]
theorem aSt{a:Int}{B:Ser}{m:List Int}(hh:∀ z t,m=z::t->z≠a):aLZ a B m=B m:=by
 cases m with
|nil=>rfl
|cons z t=>rw[aLZ,if_neg (hh z t rfl)]
def abM(x:Int):Int:=if 0<x then x else -x
theorem aCl{x:Int}{B:Ser}{m:List Int}(hh:∀ z t,m=z::t->z≠abM x):aPm x B m=B m:=by
 unfold aPm;unfold abM at hh;split
 .rename_i h;rw[if_pos h] at hh;exact aSt hh
 rename_i h;rw[if_neg h] at hh;exact aOf hh
theorem aEf{x:Int}{B:Ser}{m:List Int}(hm:Alt (abM x::m)):aPm x B (abM x::m)=B (abM x::m)+aTW x * B m:=by
 have hh:=hm.head;unfold aPm aTW;unfold abM at hm hh |-;split
 .rename_i h
  rw[aLZ,if_pos rfl];omega
 rename_i h;rw[if_neg h] at hh;rw[aKM,if_pos rfl,aOf hh];omega
structure Lead (x:Int) (w:List Int) (t:List Int) (c e:Int):Prop where
 alt:Alt (abM x::t)
 mon:Mon (abM x::t)
 c0:c≠0
 e0:1<=e
 low:co w t=c
 top:co w (abM x::t)=aTW x * e * c
 v1:∀ m,Alt m->t.length+1<m.length->co w m=0
 v2:∀ m,Alt m->m.length=t.length+1->(∀ z q,m=z::q->z≠abM x)->co w m=0
theorem aTd(x:Int):aTW x≠0:=by unfold aTW;split <;> omega
theorem aPI{x:Int}(hx:Lt3 x):1<=abM x/\abM x<=3:=by
 unfold Lt3 at hx;unfold abM;split <;> omega
theorem aUe{x y:Int}(hx:Lt3 x)(hy:Lt3 y)(h:abM x=abM y)(hn:y≠-x):y=x:=by
 unfold abM at h;split at h <;> split at h <;> omega
theorem aGm{m:List Int}(h:m≠[]):aMd m=0:=if_neg h
theorem aQB:∀ {w:List Int} {x:Int},LtW (x::w)->Rd (x::w)->∃ t c e,Lead x (x::w) t c e
|[],x,hl,_=>by
  have hx:=hl.head;have ha:=aPI hx;refine⟨[],1,1,trivial,fun z hz=>by rw[List.mem_singleton.1 hz];exact ha,by omega,Int.le_refl _,aHD _,?_,?_,?_⟩
  .rw[co,aEf (m:=[]) trivial,co,aGm (by simp)]
   simp[aMd]
  .intro m hm hlen
   cases m with
  |nil=>simp at hlen
  |cons z q=>
    have hq:q≠[]:=by rintro rfl;simp at hlen
    rw[co,co];by_cases hz:z=abM x
    .subst hz
     rw[aEf hm,aGm (by simp),aGm hq];simp
    .rw[aCl (by rintro z' q' e;injection e with e1 e2;rw[<- e1];exact hz),aGm (by simp)]
  .intro m hm hlen hh
   cases m with
  |nil=>simp at hlen
  |cons z q=>rw[co,co,aCl hh,aGm (by simp)]
|y::w,x,hl,hr=>by
  have hx:=hl.head;have hy:=hl.tail.head;have hrd:Rd (y::w):=hr.right (a:=[x]);obtain⟨t,c,e,L⟩:=aQB hl.tail hrd;have hyx:y≠-x:=fun h=>hr [] w x (by rw[h];rfl);by_cases hab:abM x=abM y
  .obtain rfl:y=x:=aUe hx hy hab hyx
   refine⟨t,c,e+1,L.alt,L.mon,L.c0,by have:=L.e0;omega,?_,?_,?_,?_⟩
   .rw[co,aCl L.alt.head,L.low]
   .rw[co,aEf L.alt,L.top,L.low,Int.mul_add,Int.add_mul,Int.mul_one]
   .intro m hm hlen
    cases m with
   |nil=>simp at hlen
   |cons z q=>
     rw[co];by_cases hz:z=abM y
     .subst hz
      rw[aEf hm,L.v1 _ hm hlen];have:co (y::w) q=0:=by
       simp only[List.length_cons] at hlen;rcases Nat.lt_or_ge (t.length+1) q.length with h1|h1
       .exact L.v1 q hm.tail h1
       .exact L.v2 q hm.tail (by omega) hm.head
      rw[this];simp
     .rw[aCl (by rintro z' q' e;injection e with e1 e2;rw[<- e1];exact hz),L.v1 _ hm hlen]
   .intro m hm hlen hh
    rw[co,aCl hh];exact L.v2 m hm hlen hh
  .have hha:∀ z q,abM y::t=z::q->z≠abM x:=by
    intro z q e;injection e with e1 e2
    rw[<- e1];exact fun e=>hab e.symm
   have hc:aTW y * e * c≠0:=Int.mul_ne_zero (Int.mul_ne_zero (aTd y) (by have:=L.e0;omega)) L.c0;refine⟨abM y::t,aTW y * e * c,1,L.alt.mk hha,fun z hz=>?_,hc,Int.le_refl _,?_,?_,?_,?_⟩
   .rcases List.mem_cons.1 hz with rfl|hz
    .exact aPI hx
    .exact L.mon z hz
   .rw[co,aCl hha,L.top]
   .rw[co,aEf (L.alt.mk hha),L.v1 _ (L.alt.mk hha) (by simp),L.top]
    simp
   .intro m hm hlen
    cases m with
   |nil=>simp at hlen
   |cons z q=>
     simp only[List.length_cons] at hlen;rw[co];by_cases hz:z=abM x
     .subst hz
      rw[aEf hm,L.v1 _ hm (by simp only[List.length_cons];omega),L.v1 _ hm.tail (by omega)];simp
     .rw[aCl (by rintro z' q' e;injection e with e1 e2;rw[<- e1];exact hz),L.v1 _ hm (by simp only[List.length_cons];omega)]
   .intro m hm hlen hh
    rw[co,aCl hh];exact L.v1 m hm (by simp only[List.length_cons] at hlen;omega)
theorem aUW{w:List Int}(hl:LtW w)(hr:Rd w)(hne:w≠[]):∃ m,Mon m/\m≠[]/\co w m≠0:=by
 cases w with
|nil=>exact absurd rfl hne
|cons x w=>
  obtain⟨t,c,e,L⟩:=aQB hl hr;refine⟨_,L.mon,by simp,?_⟩;rw[L.top];exact Int.mul_ne_zero (Int.mul_ne_zero (aTd x) (by have:=L.e0;omega)) L.c0
def Pos(w:List Int):Prop:=PosS (co w)
theorem Pos.eqv{a b:List Int}(ha:LtW a)(hb:LtW b)(h:Eqv a b)(k:Pos a):Pos b:=by
 unfold Pos at *
 rwa [<- aNK ha hb h]
theorem Pos.mul{a b:List Int}(h:Pos a)(k:Pos b):Pos (a++b):=by
 unfold Pos at *;rw[aLt];exact PosS.mul (aHD a) (aHD b) h k
theorem Pos.conj{a u:List Int}(lu:LtW u)(h:Pos a):Pos (u++(a++aAx u)):=by
 unfold Pos at *;rw[aLt,aLt];refine PosS.conj (aHD a) (aHD u) (aHD _) ?_ h;rw[<- aLt,aNK (lu.app lu.inv) LtW.nil (Eqv.inv_right lu)]
 rfl
theorem Pos.ne{a:List Int}(h:Pos a):red [] a≠[] \/ ¬ LtW a:=by
 by_cases hl:LtW a
 .left
  intro e;obtain⟨m,hm,hne,hp, -⟩:=h;rw[aNK hl LtW.nil (show Eqv a [] from e)] at hp;rw[show co [] m=0 from aGm hne] at hp;omega
 exact .inr hl
theorem aOb{P:Nat->Prop}:∀(n:Nat),P n->∃ k,P k/\∀ j,j<k->¬ P j:=by
 intro n
 induction n using Nat.strongRecOn with
|_ n ih=>
  intro hn;by_cases h:∃ j,j<n/\P j
  .obtain⟨j,h1,h2⟩:=h
   exact ih j h1 h2
  exact⟨n,hn,fun j hj hp=>h ⟨j,hj,hp⟩⟩
theorem aRm{w:List Int}(hl:LtW w)(hne:red [] w≠[]):Pos w \/ Pos (aAx w):=by
 obtain⟨m0,h1,h2,h3⟩:=aUW (aHL hl) (aHN hl) hne;rw[aPT hl] at h3;obtain⟨k,⟨m,hm,hm0,hmn,rfl⟩,hmin⟩:=aOb (P:=fun k=>∃ m,Mon m/\m≠[]/\co w m≠0/\num m=k) _ ⟨m0,h1,h2,h3,rfl⟩;have hlow:Low (co w) (num m):=fun t ht h4 h5=>Classical.byContradiction fun h6=>hmin _ h5 ⟨t,ht,h4,h6,rfl⟩;have hz:∀ t,Mon t->t≠[]->num t<=num m->co w t+co (aAx w) t=0:=fun t ht h4 h5=>by
  rw[<- aNN (aHD w) (aHD (aAx w)) ht h4 fun q hq h6 h7=>hlow q hq h6 (by have:=aHu hq ht h7;omega),<- aLt,aNK (hl.app hl.inv) LtW.nil (Eqv.inv_right hl)];exact aGm h4
 rcases Int.lt_or_gt_of_ne hmn with h4|h4
 .right
  refine⟨m,hm,hm0,by have:=hz m hm hm0 oN;omega,fun t ht h5 h6=>?_⟩;have:=hz t ht h5 (by omega);rw[hlow t ht h5 h6] at this;omega
 exact .inl ⟨m,hm,hm0,h4,hlow⟩
section
structure Gd (s:Int) (es:List Ed):Prop where
 rng:∀ e∈es,InG 3 s e
 det:∀ {u x v v':Int},Sp es u x v->Sp es u x v'->v=v'
 nd:es.Nodup
section
variable {s:Int} {es:List Ed}
theorem Gd.lt3(h:Gd s es){u x v:Int}(k:Sp es u x v):Lt3 x:=by
 have:=(k.rng h.rng).2.2;unfold Lt3;omega
theorem Gd.lt(h:Gd s es):∀ {w:List Int} {u v:Int},Pa es u w v->LtW w
|[],_,_,_=>LtW.nil
|_::_,_,_,⟨t,h1,h2⟩=>LtW.cons (h.lt3 h1) (h.lt h2)
theorem aHr{x:Int}(hx:Lt3 x)(w:List Int):aAx (x::w)=aAx w++[-x]:=by
 rw[show x::w=[x]++w from rfl,aBK];simp[aAx,hx.negI]
theorem Gd.inv(h:Gd s es):∀ {w:List Int} {u v:Int},Pa es u w v->Pa es v (aAx w) u
|[],_,_,k=>by cases k;rfl
|x::w,u,v,⟨t,h1,h2⟩=>by
  rw[aHr (h.lt3 h1)];exact(h.inv h2).snoc h1.neg
theorem Gd.pdet(h:Gd s es):∀ {w:List Int} {u v v':Int},Pa es u w v->Pa es u w v'->v=v'
|[],_,_,_,h1,h2=>h1.symm.trans h2
|_::_,_,_,_,⟨t,a1,b1⟩,⟨t',a2,b2⟩=>by
  cases h.det a1 a2
  exact h.pdet b1 b2
theorem Gd.pa_red(h:Gd s es):∀ {w:List Int} {out:List Int} {u t v:Int},Pa es u out t->Pa es t w v->Pa es u (red out w) v
|[],out,u,t,v,h1,h2=>by cases h2;exact h1
|x::w,out,u,t,v,h1,⟨t2,h2,h3⟩=>by
  rw[aCf];refine h.pa_red ?_ h3;rcases aAP out with rfl|⟨o,a,rfl⟩
  .cases h1
   rw[aBk];exact aBQ.2 h2
  .obtain⟨p,h4,h5⟩:=aCC.1 h1
   have h5:=aBQ.1 h5;cases hb:aFf a x with
  |false=>rw[aAL hb];exact h1.snoc h2
  |true=>
    rw[aBB hb];have e:=(aDT (h.lt3 h5) (h.lt3 h2)).1 hb;have e2:x = -a:=by omega
    rw[e2] at h2;rw[h.det h2 h5.neg];exact h4
theorem Gd.red(h:Gd s es){w:List Int}{u v:Int}(hp:Pa es u w v):Pa es u (red [] w) v:=h.pa_red (Pa.nil es u) hp
theorem Gd.sub(h:Gd s es){fs:List Ed}(hs:∀ e∈fs,e∈es)(hn:fs.Nodup):Gd s fs:=
 ⟨fun e he=>h.rng e (hs e he),fun a b=>h.det (a.mono hs) (b.mono hs),hn⟩
end
theorem aMl{a b:List Int}(ha:Rd a)(hb:Rd b)(h:∀ t x y q,a=t++[x]->b=y::q->x≠-y):Rd (a++b):=by
 rcases aAP a with rfl|⟨t,x,rfl⟩
 .exact hb
 rw[List.append_assoc,List.singleton_append];refine Rd.join ha (Rd.cons hb fun y q e hy=>?_);exact h t x y q rfl e (by omega)
theorem aRy{a b:List Int}(h:Rd (a++b)):∀ t x y q,a=t++[x]->b=y::q->x≠-y:=by
 rintro t x y q rfl rfl e;exact h t q x (by rw[List.append_assoc,show y = -x by omega];rfl)
theorem aUK{a:List Int}(hl:LtW a)(h:Rd a)(e:Eqv a []):a=[]:=by
 have:=aEH h hl;rw[<- this];exact e
theorem aQd:∀(n:Nat) {z:List Int},z.length<=n->LtW z->Rd z->z≠[]->∃ t c,z=t++(c++aAx t)/\c≠[]/\Rd (c++c)
|0,z,hn,_,_,hne=>absurd (List.length_eq_zero_iff.1 (Nat.le_zero.1 hn)) hne
|n+1,z,hn,hl,hr,hne=>by
  cases z with
 |nil=>exact absurd rfl hne
 |cons x m=>
   rcases aAP m with rfl|⟨m,y,rfl⟩
   .refine⟨[],[x],rfl,by simp,?_⟩
    refine aMl hr hr ?_;rintro t a b q e1 e2 h;have h1:=hl x (by simp);have e3:x=a:=by
     have:=congrArg List.getLast? e1
     simpa using this
    have e4:x=b:=(List.cons.inj e2).1;have:=h1.1;omega
   .by_cases hy:y = -x
    .subst hy
     have hx:=hl.head;have hmr:Rd m:=(hr.right (a:=[x])).left;have hm:m≠[]:=by
      rintro rfl;exact hr [] [] x rfl
     obtain⟨t,c,e,hc,hcc⟩:=aQd n (z:=m) (by simp at hn;omega) (hl.tail.left) hmr hm;refine⟨x::t,c,?_,hc,hcc⟩;rw[aHr hx,e];simp
    .refine⟨[],x::(m++[y]),by simp[aNY],by simp,?_⟩
     refine aMl hr hr ?_;intro t a b q e1 e2 h;have e3:y=a:=by
      have:=congrArg List.getLast? e1
      simpa [List.getLast?_append,List.getLast?_cons] using this
     have e4:x=b:=(List.cons.inj e2).1;omega
def pw(c:List Int):Nat->List Int
|0=>[]
|k+1=>c++pw c k
theorem aRu(c:List Int):∀ k,pw c (k+1)=pw c k++c
|0=>by simp[pw]
|k+1=>by
  have h:=aRu c k
  show c++pw c (k+1)=(c++pw c k)++c
  rw[h,List.append_assoc]
theorem aOv(c:List Int):∀ k,(pw c k).length=k * c.length
|0=>by simp[pw]
|k+1=>by rw[pw,List.length_append,aOv c k,Nat.succ_mul];omega
theorem aTR{c:List Int}(h:LtW c):∀ k,LtW (pw c k)
|0=>LtW.nil
|k+1=>h.app (aTR h k)
theorem aUH{es:List Ed}{c:List Int}{p:Int}(h:Pa es p c p):∀ k,Pa es p (pw c k) p
|0=>Pa.nil es p
|k+1=>h.app (aUH h k)
theorem aRs{c:List Int}(hc:c≠[]):∀ k y q,pw c k=y::q->∃ q',c=y::q'
|0,y,q,h=>by cases h
|k+1,y,q,h=>by
  cases c with
 |nil=>exact absurd rfl hc
 |cons x c=>exact⟨c,by rw[pw] at h;rw[(List.cons.inj h).1]⟩
theorem aUI{c:List Int}(hc:c≠[])(h:Rd (c++c)):∀ k,Rd (pw c k)
|0=>Rd.nil
|k+1=>aMl h.left (aUI hc h k) fun t x y q e1 e2=>by
  obtain⟨q',e3⟩:=aRs hc k y q e2;exact aRy h t x y q' e1 e3
abbrev Key:=List Int × Int
def eg(p:List Int)(y:Int):Key:=if 0<y then(p,y) else(p++[y], -y)
def LtG(a b:Key):Prop:=Pos (aAx a.1++b.1) \/ (Eqv a.1 b.1/\a.2<b.2)
def EqG(a b:Key):Prop:=Eqv a.1 b.1/\a.2=b.2
def tr(u:List Int)(a:Key):Key:=(u++a.1,a.2)
theorem aLy{p:List Int}{y:Int}(hp:LtW p)(hy:Lt3 y):LtW (eg p y).1:=by
 unfold eg;split
 .exact hp
 exact hp.app (LtW.one hy)
theorem aSc(u p:List Int)(y:Int):eg (u++p) y=tr u (eg p y):=by
 unfold eg tr;split
 .rfl
 simp
theorem aNT{p q:List Int}{y:Int}(hp:LtW p)(hq:LtW q)(hy:Lt3 y)(h:Eqv p q):EqG (eg p y) (eg q y):=by
 unfold eg;split
 .exact⟨h,rfl⟩
 exact⟨Eqv.app hp hq (LtW.one hy) (LtW.one hy) h rfl,rfl⟩
theorem aST{p:List Int}{y:Int}(hp:LtW p)(hy:Lt3 y):EqG (eg (p++[y]) (-y)) (eg p y):=by
 have h0:=hy.1;unfold eg;by_cases h:0<y
 .rw[if_neg (by omega),if_pos h]
  refine⟨?_,by simp⟩;simp only;rw[List.append_assoc];have h1:=Eqv.inv_right (LtW.one hy);rw[show aAx [y]=[-y] by simp[aAx,hy.negI]] at h1;have:=Eqv.app hp hp ((LtW.one hy).app (LtW.one hy.neg)) LtW.nil rfl h1
  rwa [List.append_nil] at this
 rw[if_pos (by omega),if_neg h];exact⟨rfl,rfl⟩
theorem LtG.irr{a:Key}(ha:LtW a.1)(h:LtG a a):False:=by
 rcases h with h|⟨-,h⟩
 .rcases h.ne with h1|h1
  .exact h1 (Eqv.inv_left ha)
  exact h1 (ha.inv.app ha)
 omega
theorem LtG.trans{a b c:Key}(ha:LtW a.1)(hb:LtW b.1)(hc:LtW c.1)(h:LtG a b)(k:LtG b c):LtG a c:=by
 have canc:Eqv ((aAx a.1++b.1)++(aAx b.1++c.1)) (aAx a.1++c.1):=by
  have h1:=Eqv.app (hb.app hb.inv) LtW.nil hc hc (Eqv.inv_right hb) (Eqv.refl c.1);rw[List.append_assoc,List.nil_append] at h1;rw[List.append_assoc];exact Eqv.app ha.inv ha.inv (hb.app (hb.inv.app hc)) hc rfl h1
 rcases h with h|⟨h1,h2⟩
 .rcases k with k|⟨k1,k2⟩
  .exact .inl ((h.mul k).eqv ((ha.inv.app hb).app (hb.inv.app hc)) (ha.inv.app hc) canc)
  exact .inl (h.eqv (ha.inv.app hb) (ha.inv.app hc) (Eqv.app ha.inv ha.inv hb hc rfl k1))
 rcases k with k|⟨k1,k2⟩
 .exact .inl (k.eqv (hb.inv.app hc) (ha.inv.app hc) (Eqv.app hb.inv ha.inv hc hc (Eqv.inv hb ha h1.symm) rfl))
 exact .inr ⟨h1.trans k1,by omega⟩
theorem LtG.congr{a b a' b':Key}(ha:LtW a.1)(hb:LtW b.1)(ha':LtW a'.1)(hb':LtW b'.1)(e:EqG a a')(e':EqG b b')(h:LtG a b):LtG a' b':=by
 rcases h with h|⟨h1,h2⟩
 .exact .inl (h.eqv (ha.inv.app hb) (ha'.inv.app hb') (Eqv.app ha.inv ha'.inv hb hb' (Eqv.inv ha ha' e.1) e'.1))
 exact .inr ⟨e.1.symm.trans (h1.trans e'.1),by have:=e.2;have:=e'.2;omega⟩
theorem LtG.tri{a b:Key}(ha:LtW a.1)(hb:LtW b.1):LtG a b \/ EqG a b \/ LtG b a:=by
 by_cases h:red [] (aAx a.1++b.1)=[]
 .have e:Eqv a.1 b.1:=by
   have h1:=Eqv.app ha ha (ha.inv.app hb) LtW.nil (Eqv.refl a.1) (show Eqv (aAx a.1++b.1) [] from h);rw[List.append_nil] at h1;have h2:=Eqv.app (ha.app ha.inv) LtW.nil hb hb (Eqv.inv_right ha) (Eqv.refl b.1);rw[List.append_assoc,List.nil_append] at h2;exact h1.symm.trans h2
  rcases Int.lt_trichotomy a.2 b.2 with h1|h1|h1
  .exact .inl (.inr ⟨e,h1⟩)
  .exact .inr (.inl ⟨e,h1⟩)
  exact .inr (.inr (.inr ⟨e.symm,h1⟩))
 rcases aRm (ha.inv.app hb) h with h1|h1
 .exact .inl (.inl h1)
 rw[aBK,aCt ha] at h1;exact .inr (.inr (.inl h1))
theorem EqG.symm{a b:Key}(h:EqG a b):EqG b a:=⟨h.1.symm,h.2.symm⟩
theorem EqG.trans{a b c:Key}(h:EqG a b)(k:EqG b c):EqG a c:=⟨h.1.trans k.1,h.2.trans k.2⟩
theorem aRG{u:List Int}{a:Key}(hu:LtW u)(ha:LtW a.1):LtW (tr u a).1:=hu.app ha
theorem LtG.left{u:List Int}{a b:Key}(hu:LtW u)(ha:LtW a.1)(hb:LtW b.1):LtG (tr u a) (tr u b)↔LtG a b:=by
 have canc:Eqv (aAx (u++a.1)++(u++b.1)) (aAx a.1++b.1):=by
  rw[aBK,List.append_assoc];have h1:=Eqv.app (hu.inv.app hu) LtW.nil hb hb (Eqv.inv_left hu) (Eqv.refl b.1);rw[List.append_assoc,List.nil_append] at h1;exact Eqv.app ha.inv ha.inv (hu.inv.app (hu.app hb)) hb rfl h1
 have l1:LtW (aAx (u++a.1)++(u++b.1)):=(hu.app ha).inv.app (hu.app hb);have l2:=ha.inv.app hb;have can2:Eqv (u++a.1) (u++b.1)↔Eqv a.1 b.1:=by
  constructor
  .intro h
   have c1:=fun{c:List Int} (hc:LtW c)=>show Eqv (aAx u++(u++c)) c by
    have h1:=Eqv.app (hu.inv.app hu) LtW.nil hc hc (Eqv.inv_left hu) (Eqv.refl c)
    rwa [List.append_assoc,List.nil_append] at h1
   exact(c1 ha).symm.trans ((Eqv.app hu.inv hu.inv (hu.app ha) (hu.app hb) rfl h).trans (c1 hb))
  exact fun h=>Eqv.app hu hu ha hb rfl h
 constructor
 .rintro(h|⟨h1,h2⟩)
  .exact .inl (Pos.eqv l1 l2 canc h)
  exact .inr ⟨can2.1 h1,h2⟩
 rintro(h|⟨h1,h2⟩)
 .exact .inl (Pos.eqv l2 l1 canc.symm h)
 exact .inr ⟨can2.2 h1,h2⟩
theorem LtG.down{g:List Int}{a:Key}(hg:LtW g)(ha:LtW a.1)(h:Pos (aAx g)):LtG (tr g a) a:=by
 refine .inl ?_;have:=h.conj (u:=aAx a.1) ha.inv;rw[aCt ha] at this;simp only[tr];rw[aBK,List.append_assoc];exact this
def ke(W:List Int)(i:Nat):Key:=eg (W.take i) (W.getD i 0)
theorem aDp{W:List Int}{i:Nat}{y:Int}(h:W[i]?=some y):W.getD i 0=y:=by rw[List.getD_eq_getElem?_getD,h];rfl
theorem aLJ{A B:List Int}{j:Nat}(h:j<A.length):(A++B).getD j 0=A.getD j 0:=by
 rw[List.getD_eq_getElem?_getD,List.getD_eq_getElem?_getD,List.getElem?_append_left h]
theorem aQm(A B:List Int)(j:Nat):(A++B).getD (A.length+j) 0=B.getD j 0:=by
 rw[List.getD_eq_getElem?_getD,List.getD_eq_getElem?_getD,List.getElem?_append_right (by omega),show A.length+j - A.length=j by omega]
theorem aNV{W:List Int}(hl:LtW W){i:Nat}(hi:i<W.length):Lt3 (W.getD i 0):=by
 rw[aDp (List.getElem?_eq_getElem hi)];exact hl _ (List.getElem_mem hi)
theorem aGt{W:List Int}(hl:LtW W)(i:Nat):LtW (W.take i):=fun x hx=>hl x (List.mem_of_mem_take hx)
theorem aGe{W:List Int}(hl:LtW W)(i:Nat):LtW (W.drop i):=fun x hx=>hl x (List.mem_of_mem_drop hx)
theorem aDI{W:List Int}(hl:LtW W){i:Nat}(hi:i<W.length):LtW (ke W i).1:=aLy (aGt hl i) (aNV hl hi)
theorem aDX{W:List Int}{i:Nat}(hi:i<W.length):W.take (i+1)=W.take i++[W.getD i 0]:=by
 rw[List.take_succ_eq_append_getElem hi,aDp (List.getElem?_eq_getElem hi)]
theorem aLX{W:List Int}(hl:LtW W)(hr:Rd W){i j:Nat}(hij:i<j)(hj:j<=W.length):¬ Eqv (W.take i) (W.take j):=fun h=>by
 have e:W.take j=W.take i++(W.drop i).take (j - i):=by
  rw[show j=i+(j - i) by omega,List.take_add];simp
 have l1:=aGt hl i;have l2:LtW ((W.drop i).take (j - i)):=aGt (aGe hl i) _;rw[e] at h;have h1:=Eqv.app l1.inv l1.inv l1 (l1.app l2) rfl h;have h2:=Eqv.app (l1.inv.app l1) LtW.nil l2 l2 (Eqv.inv_left l1) (Eqv.refl _);rw[List.append_assoc,List.nil_append] at h2;have h3:Eqv ((W.drop i).take (j - i)) []:=h2.symm.trans (h1.symm.trans (Eqv.inv_left l1));have r1:Rd ((W.drop i).take (j - i)):=by
  have:Rd (W.drop i):=Rd.right (a:=W.take i) (by rw[List.take_append_drop];exact hr);exact Rd.left (b:=(W.drop i).drop (j - i)) (by rw[List.take_append_drop];exact this)
 have:=congrArg List.length (aUK l2 r1 h3);simp at this;omega
theorem aVa{W:List Int}(hl:LtW W)(hr:Rd W){i j:Nat}(hij:i<j)(hj:j<W.length):¬ EqG (ke W i) (ke W j):=by
 rintro⟨h1,h2⟩;have ti:=aDX (W:=W) (i:=i) (by omega);have tj:=aDX (W:=W) (i:=j) hj;unfold ke eg at h1 h2;by_cases hx:0<W.getD i 0
 .rw[if_pos hx] at h1 h2
  by_cases hy:0<W.getD j 0
  .rw[if_pos hy] at h1
   exact aLX hl hr hij (by omega) h1
  rw[if_neg hy,<- tj] at h1;exact aLX hl hr (show i<j+1 by omega) (by omega) h1
 rw[if_neg hx,<- ti] at h1;rw[if_neg hx] at h2;by_cases hy:0<W.getD j 0
 .rw[if_pos hy] at h1 h2
  simp only at h2;rcases Nat.lt_or_ge (i+1) j with h3|h3
  .exact aLX hl hr h3 (by omega) h1
  obtain rfl:j=i+1:=by omega
  refine hr (W.take i) (W.drop (i+2)) (W.getD i 0) ?_
  conv=>lhs;rw[<- List.take_append_drop (i+1+1) W,tj,ti,<- h2]
  simp
 rw[if_neg hy,<- tj] at h1;exact aLX hl hr (show i+1<j+1 by omega) (by omega) h1
theorem aJS(A B:List Int)(j:Nat):ke (A++B) (A.length+j)=tr A (ke B j):=by
 unfold ke;rw[List.take_append,List.take_of_length_le (by omega),show A.length+j - A.length=j by omega,aSc,aQm]
theorem aNZ{W:List Int}(hl:LtW W){i:Nat}(hi:i<W.length):EqG (tr W (ke (aAx W) (W.length - 1 - i))) (ke W i):=by
 have hil:(aAx W).length=W.length:=by rw[aCu hl];simp
 have e1:(aAx W).take (W.length - 1 - i)=aAx (W.drop (i+1)):=by
  have h1:aAx W=aAx (W.drop (i+1))++aAx (W.take (i+1)):=by rw[<- aBK,List.take_append_drop]
  rw[h1,List.take_append,List.take_of_length_le (by rw[aCu (aGe hl _)];simp;omega)];rw[aCu (aGe hl _)];simp;omega
 have e2:(aAx W).getD (W.length - 1 - i) 0 = -(W.getD i 0):=by
  rw[aCu hl,List.getD_eq_getElem?_getD,List.getElem?_reverse (by simp;omega),List.getElem?_map,aDp (List.getElem?_eq_getElem hi)];simp only[List.length_map];rw[show W.length - 1 - (W.length - 1 - i)=i by omega,List.getElem?_eq_getElem hi]
  rfl
 have hy:=aNV hl hi;have l1:=aGt hl (i+1);have l2:=aGe hl (i+1);unfold ke;rw[e1,e2,<- aSc];have h1:Eqv (W++aAx (W.drop (i+1))) (W.take i++[W.getD i 0]):=by
  rw[<- aDX hi]
  conv=>lhs;rw[show W++aAx (W.drop (i+1))=(W.take (i+1)++W.drop (i+1))++aAx (W.drop (i+1)) by rw[List.take_append_drop]]
  rw[List.append_assoc];have:=Eqv.app l1 l1 (l2.app l2.inv) LtW.nil rfl (Eqv.inv_right l2)
  rwa [List.append_nil] at this
 exact(aNT (hl.app l2.inv) ((aGt hl i).app (LtW.one hy)) hy.neg h1).trans (aST (aGt hl i) hy)
theorem aLQ{W:List Int}(hl:LtW W){i j:Nat}(hi:i<W.length)(hj:j<W.length):LtG (ke (aAx W) (W.length - 1 - i)) (ke (aAx W) (W.length - 1 - j))↔LtG (ke W i) (ke W j):=by
 have hil:(aAx W).length=W.length:=by rw[aCu hl];simp
 have li:=aDI hl.inv (i:=W.length - 1 - i) (by omega);have lj:=aDI hl.inv (i:=W.length - 1 - j) (by omega);have ki:=aDI hl hi;have kj:=aDI hl hj;rw[<- LtG.left hl li lj];exact⟨LtG.congr (aRG hl li) (aRG hl lj) ki kj (aNZ hl hi) (aNZ hl hj),LtG.congr ki kj (aRG hl li) (aRG hl lj) (aNZ hl hi).symm (aNZ hl hj).symm⟩
theorem aSU{W:List Int}(hl:LtW W)(hr:Rd W):∀ n,0<n->n<=W.length->∃ i,i<n/\∀ j,j<n->j≠i->LtG (ke W j) (ke W i)
|0,h,_=>absurd h (by omega)
|1,_,_=>⟨0,by omega,fun j hj hne=>by omega⟩
|n+2,_,hn=>by
  obtain⟨i,hi,hm⟩:=aSU hl hr (n+1) (by omega) (by omega);have ki:=aDI hl (show i<W.length by omega);have kn:=aDI hl (show n+1<W.length by omega);rcases LtG.tri ki kn with h|h|h
  .refine⟨n+1,by omega,fun j hj hne=>?_⟩
   by_cases hji:j=i
   .rw[hji];exact h
   .exact(hm j (by omega) hji).trans (aDI hl (by omega)) ki kn h
  .exact absurd h (aVa hl hr (by omega) (by omega))
  .refine⟨i,by omega,fun j hj hne=>?_⟩
   by_cases hjn:j=n+1
   .rw[hjn];exact h
   .exact hm j (by omega) hne
def Good(es:List Ed)(N:Nat)(u x:Int):Prop:=∃ w v,w.length=N/\Rd (x::w)/\Pa es u (x::w) v/\∀ i,1<=i->i<=N->LtG (ke (x::w) i) (ke (x::w) 0)
def Brg(es:List Ed)(N:Nat)(e:Ed):Prop:=Good es N e.a e.l/\Good es N e.b (-e.l)
theorem Good.map{es es':List Ed}{f:Int->Int}(hf:∀ u x v,Sp es u x v->Sp es' (f u) x (f v)){N:Nat}{u x:Int}(h:Good es N u x):Good es' N (f u) x:=by
 obtain⟨w,v,h1,h2,h3,h4⟩:=h;have key:∀ {w:List Int} {u v:Int},Pa es u w v->Pa es' (f u) w (f v):=by
  intro w
  induction w with
 |nil=>intro u v h;cases h;rfl
 |cons x w ih=>
   rintro u v ⟨t,a,b⟩;exact⟨f t,hf _ _ _ a,ih b⟩
 exact⟨w,f v,h1,h2,key h3,h4⟩
theorem aQp{s:Int}{es:List Ed}(h:Gd s es){W:List Int}{u v:Int}(hp:Pa es u W v)(hr:Rd W){i N:Nat}(hi:i+N<W.length)(hm:∀ j,j<W.length->j≠i->LtG (ke W j) (ke W i)){p:Int}(hpi:Pa es u (W.take i) p):Good es N p (W.getD i 0):=by
 have hl:=h.lt hp;have hd:W.drop i=W.getD i 0::W.drop (i+1):=by
  rw[List.drop_eq_getElem_cons (by omega),aDp (List.getElem?_eq_getElem (by omega))]
 have hW:W=W.take i++W.drop i:=(List.take_append_drop i W).symm;have hil:(W.take i).length=i:=by rw[List.length_take];omega
 obtain⟨q,h1,h2⟩:=aCC.1 (show Pa es u (W.take i++W.drop i) v by rw[List.take_append_drop];exact hp);obtain rfl:=h.pdet hpi h1;rw[hd] at h2;have h3:Pa es p ((W.getD i 0::(W.drop (i+1)).take N)++(W.drop (i+1)).drop N) v:=by
  rw[List.cons_append,List.take_append_drop];exact h2
 obtain⟨q2,h4, -⟩:=aCC.1 h3;have hrd:Rd (W.drop i):=Rd.right (a:=W.take i) (by rw[List.take_append_drop];exact hr);have hrd2:Rd (W.getD i 0::(W.drop (i+1)).take N):=by
  rw[hd] at hrd;exact Rd.left (b:=(W.drop (i+1)).drop N) (by rw[List.cons_append,List.take_append_drop];exact hrd)
 refine⟨_,q2,by rw[List.length_take,List.length_drop];omega,hrd2,h4,fun j h5 h6=>?_⟩;have ek:∀ j,j<=N->ke (W.getD i 0::(W.drop (i+1)).take N) j=ke (W.drop i) j:=by
  intro j hj;have e:W.drop i=(W.getD i 0::(W.drop (i+1)).take N)++(W.drop (i+1)).drop N:=by
   rw[List.cons_append,List.take_append_drop,hd]
  have hlen:(W.getD i 0::(W.drop (i+1)).take N).length=N+1:=by
   rw[List.length_cons,List.length_take,List.length_drop];omega
  rw[e];unfold ke;rw[List.take_append_of_le_length (by omega),aLJ (by omega)]
 have et:∀ j,tr (W.take i) (ke (W.drop i) j)=ke W (i+j):=by
  intro j;have:=aJS (W.take i) (W.drop i) j;rw[List.take_append_drop,hil] at this;exact this.symm
 have ld:=aGe hl i;rw[ek j h6,ek 0 oZ,<- LtG.left (aGt hl i) (aDI ld (by rw[List.length_drop];omega)) (aDI ld (by rw[List.length_drop];omega)),et,et];exact hm (i+j) (by omega) (by omega)
theorem aUi{s:Int}{es:List Ed}(h:Gd s es){W:List Int}{u v:Int}(hp:Pa es u W v)(hr:Rd W){i N:Nat}(hN:N<=i)(hi:i+N<W.length)(hm:∀ j,j<W.length->j≠i->LtG (ke W j) (ke W i)) :
  ∃ p q,Pa es u (W.take i) p/\Sp es p (W.getD i 0) q/\Good es N p (W.getD i 0)/\Good es N q (-(W.getD i 0)):=by
 have hl:=h.lt hp;have hil:(aAx W).length=W.length:=by rw[aCu hl];simp
 obtain⟨p,h1,h2⟩:=aCC.1 (show Pa es u (W.take i++W.drop i) v by rw[List.take_append_drop];exact hp);have hd:W.drop i=W.getD i 0::W.drop (i+1):=by
  rw[List.drop_eq_getElem_cons (by omega),aDp (List.getElem?_eq_getElem (by omega))]
 rw[hd] at h2;obtain⟨q,h3,h4⟩:=h2;refine⟨p,q,h1,h3,aQp h hp hr hi hm h1,?_⟩;have hpi:=h.inv hp;have hri:=hr.inv hl;have e2:(aAx W).getD (W.length - 1 - i) 0 = -(W.getD i 0):=by
  rw[aCu hl,List.getD_eq_getElem?_getD,List.getElem?_reverse (by simp;omega),List.getElem?_map,aDp (List.getElem?_eq_getElem (show i<W.length by omega))];simp only[List.length_map];rw[show W.length - 1 - (W.length - 1 - i)=i by omega,List.getElem?_eq_getElem (by omega)]
  rfl
 have e1:(aAx W).take (W.length - 1 - i)=aAx (W.drop (i+1)):=by
  have h1:aAx W=aAx (W.drop (i+1))++aAx (W.take (i+1)):=by rw[<- aBK,List.take_append_drop]
  rw[h1,List.take_append,List.take_of_length_le (by rw[aCu (aGe hl _)];simp;omega)];rw[aCu (aGe hl _)];simp;omega
 have:=aQp h hpi hri (i:=W.length - 1 - i) (N:=N) (by omega) (fun j hj hne=>by
  have h5:=(aLQ hl (i:=W.length - 1 - j) (j:=i) (by omega) (by omega)).2 (hm (W.length - 1 - j) (by omega) (by omega))
  rwa [show W.length - 1 - (W.length - 1 - j)=j by omega] at h5) (p:=q) (by rw[e1];exact h.inv h4)
 rwa [e2] at this
structure Ray (F:List Ed) (a:Int) (t c:List Int) (g:List Int):Prop where
 lt:LtW t
 lc:LtW c
 ne:c≠[]
 rd:∀ k,Rd (t++pw c k)
 pa:∀ k,∃ p,Pa F a (t++pw c k) p
 lg:LtW g
 g':Eqv g (t++(c++aAx t))
 pos:Pos (aAx g)
theorem aTa{s:Int}{F:List Ed}(h:Gd s F){a:Int}{z:List Int}(hz:Pa F a z a)(hr:Rd z)(hne:z≠[]):∃ t c g,Ray F a t c g:=by
 have key:∀ {z:List Int},Pa F a z a->Rd z->z≠[]->Pos (aAx z)->∃ t c g,Ray F a t c g:=by
  intro z hz hr hne hp;have hl:=h.lt hz;obtain⟨t,c,e,hc,hcc⟩:=aQd _ oN hl hr hne;rw[e] at hz hr hl;obtain⟨p,h1,h2⟩:=aCC.1 hz;obtain⟨q,h3,h4⟩:=aCC.1 h2;have h5:=h.inv h4;rw[aCt hl.left] at h5;obtain rfl:=h.pdet h1 h5;refine⟨t,c,z,hl.left,hl.right.left,hc,fun k=>?_,fun k=>⟨p,h1.app (aUH h3 k)⟩,by rw[e];exact hl,by rw[e];rfl,hp⟩;refine aMl hr.left (aUI hc hcc k) fun t' x y q e1 e2=>?_;obtain⟨q',e3⟩:=aRs hc k y q e2;exact aRy hr t' x y (q'++aAx t) e1 (by rw[e3];rfl)
 have hl:=h.lt hz;rcases aRm hl (by rw[aEH hr hl];exact hne) with h1|h1
 .refine key (h.inv hz) (hr.inv hl) (fun e=>hne ?_) (by rw[aCt hl];exact h1)
  rw[<- aCt hl,e]
  rfl
 exact key hz hr hne h1
theorem Ray.step{F:List Ed}{a:Int}{t c g:List Int}(R:Ray F a t c g){k j:Nat}(hj:t.length+c.length<=j)(hk:j<(t++pw c k).length):LtG (ke (t++pw c k) j) (ke (t++pw c k) (j - c.length)):=by
 have hlen:=aOv c k;cases k with
|zero=>
  rw[List.length_append] at hk;have:(pw c 0).length=0:=rfl;omega
|succ k=>
  obtain⟨m,rfl⟩:∃ m,j=t.length+(c.length+m):=⟨j - t.length - c.length,by omega⟩
  have lp:=aTR R.lc k;have lp1:=aTR R.lc (k+1);have hm:m<(pw c k).length:=by
   rw[pw,List.length_append,List.length_append] at hk;omega
  have hm1:m<(pw c (k+1)).length:=by rw[pw,List.length_append];omega
  rw[show t.length+(c.length+m) - c.length=t.length+m by omega,aJS,aJS];have e1:ke (pw c (k+1)) (c.length+m)=tr c (ke (pw c k) m):=by rw[pw,aJS]
  have e2:ke (pw c (k+1)) m=ke (pw c k) m:=by
   rw[aRu];unfold ke;rw[List.take_append_of_le_length (by omega),aLJ hm]
  rw[e1,e2];have lk:=aDI lp hm;generalize ke (pw c k) m=K at lk
  -- t c K is g (t K)
  have h1:EqG (tr g (tr t K)) (tr t (tr c K)):=by
   refine⟨?_,rfl⟩;simp only[tr];have h2:=Eqv.app R.lg (R.lt.app (R.lc.app R.lt.inv)) (R.lt.app lk) (R.lt.app lk) R.g' (Eqv.refl (t++K.1));refine h2.trans ?_;rw[List.append_assoc,List.append_assoc];refine Eqv.app R.lt R.lt (R.lc.app (R.lt.inv.app (R.lt.app lk))) (R.lc.app lk) rfl ?_;refine Eqv.app R.lc R.lc (R.lt.inv.app (R.lt.app lk)) lk rfl ?_;have h3:=Eqv.app (R.lt.inv.app R.lt) LtW.nil lk lk (Eqv.inv_left R.lt) (Eqv.refl K.1)
   rwa [List.append_assoc,List.nil_append] at h3
  exact LtG.congr (R.lg.app (R.lt.app lk)) (R.lt.app lk) (R.lt.app (R.lc.app lk)) (R.lt.app lk) h1 ⟨rfl,rfl⟩ (LtG.down R.lg (aRG R.lt lk) R.pos)
theorem aTl{s:Int}{es:List Ed}(h:Gd s es){F:List Ed}(hF:∀ e∈F,e∈es)(hn:F.Nodup){f:Ed}(hf:f∈es)(hfF:f ∉ F){za zb:List Int}(ha:Pa F f.a za f.a)(ra:Rd za)(na:za≠[])(hb:Pa F f.b zb f.b)(rb:Rd zb)(nb:zb≠[])(N:Nat) :
  ∃ e,(e=f \/ e∈F)/\Brg es N e:=by
 have hg:=h.sub hF hn;have hfl:=h.rng f hf;unfold InG at hfl;have hl3:Lt3 f.l:=by unfold Lt3;omega
 have hsf:Sp es f.a f.l f.b:=aBC hf (by omega);obtain⟨ta,ca,ga,Ra⟩:=aTa hg ha ra na;obtain⟨tb,cb,gb,Rb⟩:=aTa hg hb rb nb;obtain⟨k,hk⟩:∃ k,k=N+2:=⟨_,rfl⟩
 obtain⟨pa,hpa⟩:=Ra.pa k;obtain⟨pb,hpb⟩:=Rb.pa k;have rA:=Ra.rd k;have rB:=Rb.rd k;have hca:1<=ca.length:=List.length_pos_iff.2 Ra.ne;have hcb:1<=cb.length:=List.length_pos_iff.2 Rb.ne;have lenA:(ta++pw ca k).length=ta.length+k * ca.length:=by rw[List.length_append,aOv]
 have lenB:(tb++pw cb k).length=tb.length+k * cb.length:=by rw[List.length_append,aOv]
 have kA:ca.length+N+1<=k * ca.length:=by
  rw[hk,Nat.add_mul];have:=Nat.le_mul_of_pos_right N (show 0<ca.length by omega);omega
 have kB:cb.length+N+1<=k * cb.length:=by
  rw[hk,Nat.add_mul];have:=Nat.le_mul_of_pos_right N (show 0<cb.length by omega);omega
 have sA:=fun j=>Ra.step (k:=k) (j:=j);have sB:=fun j=>Rb.step (k:=k) (j:=j);have lA:=hg.lt hpa;have lB:=hg.lt hpb;generalize ta++pw ca k=A at hpa rA lenA sA lA;generalize tb++pw cb k=B at hpb rB lenB sB lB
 -- the long path
 have l0A:∀ y q,A=y::q->y≠f.l:=by
  rintro y q rfl hy;obtain⟨t,h1, -⟩:=hpa;rw[hy] at h1;rcases h1 with⟨-,h2⟩|⟨h2, -⟩
  .refine hfF ?_
   have:=h.det hsf (.inl ⟨by omega,hF _ h2⟩);rw[<- this] at h2;exact h2
  omega
 have l0B:∀ y q,B=y::q->y≠-f.l:=by
  rintro y q rfl hy;obtain⟨t,h1, -⟩:=hpb;rw[hy] at h1;rcases h1 with⟨h2, -⟩|⟨-,h2⟩
  .omega
  rw[Int.neg_neg] at h2;refine hfF ?_;have:=h.det hsf.neg (.inr ⟨by omega,by rw[Int.neg_neg];exact hF _ h2⟩);rw[<- this] at h2;exact h2
 have lAi:=lA.inv;have hr1:Rd (f.l::B):=Rd.cons rB fun y q e=>l0B y q e;have hW:Rd (aAx A++(f.l::B)):=by
  refine aMl (rA.inv lA) hr1 fun t x y q e1 e2 hx=>?_;have e3:A = -x::aAx t:=by
   rw[<- aCt lA,e1,aBK];have:Lt3 x:=lAi x (by rw[e1];simp);simp[aAx,this.negI]
  have e4:=(List.cons.inj e2).1;exact l0A _ _ e3 (by omega)
 have hlW:LtW (aAx A++(f.l::B)):=lAi.app (LtW.cons hl3 lB);have lenI:(aAx A).length=A.length:=by rw[aCu lA];simp
 have hlen:(aAx A++(f.l::B)).length=A.length+1+B.length:=by rw[List.length_append,List.length_cons,lenI];omega
 have hpW:Pa es pa (aAx A++(f.l::B)) pb:=(h.inv (hpa.mono hF)).app ⟨_,hsf,hpb.mono hF⟩;obtain⟨i,hi,hm⟩:=aSU hlW hW _ (by rw[hlen];omega) oN
 -- down the ray of b
 have keB:∀ j,ke (aAx A++(f.l::B)) (A.length+1+j)=tr (aAx A++[f.l]) (ke B j):=fun j=>by
  rw[show aAx A++f.l::B=(aAx A++[f.l])++B by simp];have:=aJS (aAx A++[f.l]) B j
  rwa [show(aAx A++[f.l]).length=A.length+1 by simp[lenI]] at this
 have iB:i<A.length+1+(tb.length+cb.length):=by
  rcases Nat.lt_or_ge i (A.length+1+(tb.length+cb.length)) with h1|h1
  .exact h1
  exfalso
  obtain⟨j,rfl⟩:∃ j,i=A.length+1+j:=⟨i - (A.length+1),by omega⟩
  have hjB:j<B.length:=by omega
  have h2:=sB j (by omega) hjB;have h3:=hm (A.length+1+(j - cb.length)) (by omega) (by omega);rw[keB,keB,LtG.left (lAi.app (LtW.one hl3)) (aDI lB (by omega)) (aDI lB hjB)] at h3;exact LtG.irr (aDI lB hjB) (h2.trans (aDI lB hjB) (aDI lB (by omega)) (aDI lB hjB) h3)
 -- down the ray of a
 have eW:aAx (aAx A++(f.l::B))=(aAx B++[-f.l])++A:=by
  rw[aBK,aCt lA,aHr hl3]
 have keA:∀ j,ke (aAx (aAx A++(f.l::B))) (B.length+1+j)=tr (aAx B++[-f.l]) (ke A j):=fun j=>by
  rw[eW];have:=aJS (aAx B++[-f.l]) A j;have lB2:(aAx B).length=B.length:=by rw[aCu lB];simp
  rwa [show(aAx B++[-f.l]).length=B.length+1 by simp[lB2]] at this
 have iA:A.length<i+1+(ta.length+ca.length):=by
  rcases Nat.lt_or_ge A.length (i+1+(ta.length+ca.length)) with h1|h1
  .exact h1
  exfalso
  obtain⟨j,hj⟩:∃ j,j=A.length - 1 - i:=⟨_,rfl⟩
  have hjA:j<A.length:=by omega
  have h2:=sA j (by omega) hjA;have h3:=hm (i+ca.length) (by omega) (by omega);rw[<- aLQ hlW (by omega) hi,hlen,show A.length+1+B.length - 1 - (i+ca.length)=B.length+1+(j - ca.length) by omega,show A.length+1+B.length - 1 - i=B.length+1+j by omega,keA,keA,
   LtG.left (lB.inv.app (LtW.one hl3.neg)) (aDI lA (by omega)) (aDI lA hjA)] at h3
  exact LtG.irr (aDI lA hjA) (h2.trans (aDI lA hjA) (aDI lA (by omega)) (aDI lA hjA) h3)
 obtain⟨p,q,hpi,hs,g1,g2⟩:=aUi h hpW hW (i:=i) (N:=N) (by omega) (by omega) hm
 -- the edge lies on the path
 have hL:∀ e∈f::F,e∈es:=fun e he=>by
  rcases List.mem_cons.1 he with rfl|he
  .exact hf
  .exact hF e he
 have hpL:Pa (f::F) pa (aAx A++(f.l::B)) pb:=by
  refine((hg.inv hpa).mono fun e he=>List.mem_cons_of_mem _ he).app ⟨_,aBC (e:=f) List.mem_cons_self (by omega),hpb.mono fun e he=>List.mem_cons_of_mem _ he⟩
 generalize aAx A++(f.l::B)=W at hi hpi hs g1 g2 hpL;have hd:W.drop i=W.getD i 0::W.drop (i+1):=by
  rw[List.drop_eq_getElem_cons hi,aDp (List.getElem?_eq_getElem hi)]
 obtain⟨q0,h1,h2⟩:=aCC.1 (show Pa (f::F) pa (W.take i++W.drop i) pb by rw[List.take_append_drop];exact hpL);rw[hd] at h2;obtain⟨q1,h3, -⟩:=h2;obtain rfl:=h.pdet (h1.mono hL) hpi;obtain rfl:=h.det (h3.mono hL) hs;rcases h3 with⟨h4,h5⟩|⟨h4,h5⟩
 .exact⟨_,List.mem_cons.1 h5,g1,g2⟩
 refine⟨_,List.mem_cons.1 h5,g2,?_⟩;simp only[Int.neg_neg];exact g1
end
section
theorem aMa{α:Type}[BEq α][LawfulBEq α]:∀ {l m:List α},l.Nodup->(∀ x∈l,x∈m)->l.length<=m.length
|[],m,_,_=>oZ
|a::l,m,hl,hs=>by
  have hl2:=List.nodup_cons.1 hl;have ham:=hs a List.mem_cons_self;have h1:=List.length_erase_of_mem ham;have h2:=aMa (m:=m.erase a) hl2.2 fun y hy=>(List.mem_erase_of_ne (by rintro rfl;exact hl2.1 hy)).2 (hs y (List.mem_cons_of_mem _ hy));have h3:0<m.length:=List.length_pos_of_mem ham;rw[List.length_cons];omega
noncomputable def cntN (P:Nat->Prop) (n:Nat):Nat:=by
 classical
 exact((List.range n).filter fun v=>decide (P v)).length
theorem aNJ{P Q:Nat->Prop}{n v0:Nat}(h:∀ v,v<n->v≠v0->P v->Q v):cntN P n<=cntN Q n+1:=by
 classical
 unfold cntN;have hn:((List.range n).filter fun v=>decide (P v)).Nodup:=List.nodup_range.filter _;have:=aMa (l:=(List.range n).filter fun v=>decide (P v)) (m:=v0::(List.range n).filter fun v=>decide (Q v)) hn fun v hv=>by
  obtain⟨h1,h2⟩:=List.mem_filter.1 hv;by_cases h3:v=v0
  .rw[h3];exact List.mem_cons_self
  .exact List.mem_cons_of_mem _ (List.mem_filter.2 ⟨h1,by simpa using h v (List.mem_range.1 h1) h3 (by simpa using h2)⟩)
 simpa using this
theorem aLs{P Q:Nat->Prop}{n v0:Nat}(h:∀ v,v<n->Q v->P v)(h0:v0<n)(hp:P v0)(hq:¬ Q v0):cntN Q n+1<=cntN P n:=by
 classical
 unfold cntN;have hn:(v0::(List.range n).filter fun v=>decide (Q v)).Nodup:=List.nodup_cons.2 ⟨fun hm=>hq (by simpa using(List.mem_filter.1 hm).2),List.nodup_range.filter _⟩;have:=aMa (m:=(List.range n).filter fun v=>decide (P v)) hn fun v hv=>by
  rcases List.mem_cons.1 hv with rfl|hv
  .exact List.mem_filter.2 ⟨List.mem_range.2 h0,by simpa using hp⟩
  .obtain⟨h1,h2⟩:=List.mem_filter.1 hv
   exact List.mem_filter.2 ⟨h1,by simpa using h v (List.mem_range.1 h1) (by simpa using h2)⟩
 simpa using this
theorem aTp{P:Nat->Prop}{n:Nat}(h:∀ v,v<n->P v):cntN P n=n:=by
 classical
 unfold cntN;rw[List.filter_eq_self.2 fun v hv=>by simpa using h v (List.mem_range.1 hv),List.length_range]
theorem aRT{P:Nat->Prop}{n:Nat}(h:∀ v,v<n->¬ P v):cntN P n=0:=by
 classical
 unfold cntN;rw[List.filter_eq_nil_iff.2 fun v hv=>by simpa using h v (List.mem_range.1 hv)]
 rfl
def Cn(F:List Ed)(u v:Int):Prop:=∃ w,Pa F u w v
def Flat(F:List Ed)(v:Int):Prop:=∀ w,Pa F v w v->red [] w=[]
def aRK(F:List Ed)(v:Nat):Prop:=(∀ u:Nat,u<v->¬ Cn F v u)/\Flat F v
noncomputable def tau (F:List Ed) (n:Nat):Nat:=cntN (aRK F) n
section
variable {n:Nat} {F:List Ed}
theorem Cn.refl(F:List Ed)(u:Int):Cn F u u:=⟨[],Pa.nil F u⟩
theorem Cn.symm{s:Int}(h:Gd s F){u v:Int}(k:Cn F u v):Cn F v u:=by
 obtain⟨w,hw⟩:=k;exact⟨_,h.inv hw⟩
theorem Cn.trans{u v t:Int}(h:Cn F u v)(k:Cn F v t):Cn F u t:=by
 obtain⟨a,ha⟩:=h;obtain⟨b,hb⟩:=k;exact⟨_,ha.app hb⟩
theorem Cn.mono{G:List Ed}(hs:∀ e∈F,e∈G){u v:Int}(h:Cn F u v):Cn G u v:=by
 obtain⟨w,hw⟩:=h;exact⟨w,hw.mono hs⟩
theorem Flat.eqv{s:Int}(h:Gd s F){v u:Int}(hf:Flat F v){a b:List Int}(ha:Pa F v a u)(hb:Pa F v b u):Eqv a b:=by
 have la:=h.lt ha;have lb:=h.lt hb;have h1:Eqv (a++aAx b) []:=hf _ (ha.app (h.inv hb));have h2:=Eqv.app (la.app lb.inv) LtW.nil lb lb h1 (Eqv.refl b);rw[List.append_assoc,List.nil_append] at h2;have h3:=Eqv.app la la (lb.inv.app lb) LtW.nil rfl (Eqv.inv_left lb);rw[List.append_nil] at h3;exact h3.symm.trans h2
theorem Flat.move{s:Int}(h:Gd s F){v u:Int}(hf:Flat F v)(hc:Cn F v u):Flat F u:=fun w hw=>by
 obtain⟨p,hp⟩:=hc;have lp:=h.lt hp;have lw:=h.lt hw;have h1:=hf.eqv h (hp.app hw) hp;have h2:=Eqv.app lp.inv lp.inv (lp.app lw) lp rfl h1;have h3:=Eqv.app (lp.inv.app lp) LtW.nil lw lw (Eqv.inv_left lp) (Eqv.refl w);rw[List.append_assoc,List.nil_append] at h3;exact h3.symm.trans (h2.trans (Eqv.inv_left lp))
theorem Flat.mono{G:List Ed}(hs:∀ e∈F,e∈G){v:Int}(h:Flat G v):Flat F v:=fun w hw=>h w (hw.mono hs)
theorem aOA(F:List Ed){a:Int}(h0:0<=a)(h1:a<n):∃ ρ:Nat,ρ<n/\Cn F a ρ/\∀ u:Nat,u<ρ->¬ Cn F a u:=by
 obtain⟨m,rfl⟩:=Int.eq_ofNat_of_zero_le h0;obtain⟨k,hk,hm⟩:=aOb (P:=fun k=>Cn F m (k:Int)) m (Cn.refl F m);refine⟨k,?_,hk,hm⟩;rcases Nat.lt_or_ge m k with h|h
 .exact absurd (Cn.refl F m) (hm m h)
 omega
theorem aNw{f:Ed}{u x v:Int}(h:Sp (f::F) u x v):Sp F u x v \/ (u=f.a/\x=f.l/\v=f.b) \/ (u=f.b/\x = -f.l/\v=f.a):=by
 rcases h with⟨h1,h2⟩|⟨h1,h2⟩
 .rcases List.mem_cons.1 h2 with rfl|h2
  .exact .inr (.inl ⟨rfl,rfl,rfl⟩)
  exact .inl (.inl ⟨h1,h2⟩)
 rcases List.mem_cons.1 h2 with rfl|h2
 .exact .inr (.inr ⟨rfl,by simp,rfl⟩)
 exact .inl (.inr ⟨h1,h2⟩)
theorem aVh{f:Ed}:∀ {w:List Int} {v u:Int},¬ Cn F v f.a->¬ Cn F v f.b->Pa (f::F) v w u->Pa F v w u
|[],_,_,_,_,h=>h
|x::w,v,u,ha,hb,⟨t,h1,h2⟩=>by
  rcases aNw h1 with h3|⟨h3, -⟩|⟨h3, -⟩
  .have hvt:Cn F v t:=⟨[x],aBQ.2 h3⟩
   exact⟨t,h3,aVh (fun k=>ha (hvt.trans k)) (fun k=>hb (hvt.trans k)) h2⟩
  .rw[h3] at ha;exact absurd (Cn.refl F _) ha
  .rw[h3] at hb;exact absurd (Cn.refl F _) hb
theorem aJR{s:Int}{f:Ed}(h:Gd s F):∀ {w:List Int} {v u:Int},(Cn F f.a v \/ Cn F f.b v)->Pa (f::F) v w u->Cn F f.a u \/ Cn F f.b u
|[],_,_,hv,e=>by cases e;exact hv
|x::w,v,u,hv,⟨t,h1,h2⟩=>by
  refine aJR h ?_ h2;rcases aNw h1 with h3|⟨-, -,h3⟩|⟨-, -,h3⟩
  .have hvt:Cn F v t:=⟨[x],aBQ.2 h3⟩
   exact hv.imp (fun k=>k.trans hvt) (fun k=>k.trans hvt)
  .rw[h3];exact .inr (Cn.refl F _)
  .rw[h3];exact .inl (Cn.refl F _)
theorem aRH{s:Int}{f:Ed}(h:Gd s (f::F))(hF:Gd s F)(fa:Flat F f.a)(fb:Flat F f.b)(hn:¬ Cn F f.a f.b):∀(k:Nat) (w:List Int) (u:Int),w.length=k->Pa (f::F) f.a w u->(∀ t,Pa F f.a t u->Eqv w t)/\(∀ t,Pa F f.b t u->Eqv w (f.l::t)):=by
 have hl:=h.rng f List.mem_cons_self;unfold InG at hl;have l3:Lt3 f.l:=by unfold Lt3;omega
 intro k
 induction k with
|zero=>
  intro w u hk hp;obtain rfl:=List.length_eq_zero_iff.1 hk;have e:f.a=u:=hp;subst e;exact⟨fun t ht=>(fa t ht).symm,fun t ht=>absurd (Cn.symm hF ⟨t,ht⟩) hn⟩
|succ k ih=>
  intro w u hk hp;rcases aAP w with rfl|⟨w,x,rfl⟩
  .simp at hk
  obtain⟨q,h1,h2⟩:=aCC.1 hp;have h2:=aBQ.1 h2;obtain⟨i1,i2⟩:=ih w q (by simpa using hk) h1;have lw:=h.lt h1;have lx:Lt3 x:=h.lt3 h2;rcases aNw h2 with h3|⟨rfl,rfl,rfl⟩|⟨rfl,rfl,rfl⟩
  .have back:∀ {o t:List Int} {c:Int},LtW o->Pa F c t u->Eqv w (o++(t++[-x]))->Eqv (w++[x]) (o++t):=fun{o t c} lo ht e=>by
    have lt:=hF.lt ht;have h4:=Eqv.app lw (lo.app (lt.app (LtW.one lx.neg))) (LtW.one lx) (LtW.one lx) e (Eqv.refl [x]);have h5:Eqv ((o++(t++[-x]))++[x]) (o++t):=by
     have h6:=Eqv.inv_left (LtW.one lx);rw[show aAx [x]=[-x] by simp[aAx,lx.negI]] at h6;have h7:=Eqv.app (lo.app lt) (lo.app lt) ((LtW.one lx.neg).app (LtW.one lx)) LtW.nil rfl h6;rw[List.append_nil] at h7
     simpa using h7
    exact h4.trans h5
   refine⟨fun t ht=>?_,fun t ht=>?_⟩
   .have:=i1 (t++[-x]) (ht.app (aBQ.2 h3.neg))
    exact back (o:=[]) LtW.nil ht this
   have:=i2 (t++[-x]) (ht.app (aBQ.2 h3.neg));exact back (o:=[f.l]) (LtW.one l3) ht this
  .have e:=i1 [] (Pa.nil F _)
   have e2:Eqv (w++[f.l]) [f.l]:=Eqv.app lw LtW.nil (LtW.one l3) (LtW.one l3) e (Eqv.refl _);refine⟨fun t ht=>absurd ⟨t,ht⟩ hn,fun t ht=>e2.trans ?_⟩;have lt:=hF.lt ht;have:=Eqv.app (LtW.one l3) (LtW.one l3) LtW.nil lt rfl (show Eqv [] t from(fb t ht).symm)
   simpa using this
  have e:=i2 [] (Pa.nil F _);have e2:Eqv (w++[-f.l]) []:=by
   have h6:=Eqv.inv_right (LtW.one l3);rw[show aAx [f.l]=[-f.l] by simp[aAx,l3.negI]] at h6;exact(Eqv.app lw (LtW.one l3) (LtW.one l3.neg) (LtW.one l3.neg) e (Eqv.refl _)).trans h6
  exact⟨fun t ht=>e2.trans (fa t ht).symm,fun t ht=>absurd (Cn.symm hF ⟨t,ht⟩) hn⟩
theorem aRF(n:Nat):tau [] n=n:=aTp fun v hv=>by
 have key:∀ {w:List Int} {a b:Int},Pa [] a w b->w=[]/\a=b:=by
  intro w a b h;cases w with
 |nil=>exact⟨rfl,h⟩
 |cons x w=>
   obtain⟨t,h1, -⟩:=h;rcases h1 with⟨-,h⟩|⟨-,h⟩ <;> cases h
 refine⟨fun u hu hc=>?_,fun w hw=>by rw[(key hw).1];rfl⟩;obtain⟨w,hw⟩:=hc;have:=(key hw).2;omega
theorem aUM{f:Ed}(h:Gd n (f::F)):tau F n<=tau (f::F) n+1:=by
 have hF:Gd n F:=h.sub (fun e he=>List.mem_cons_of_mem _ he) (List.nodup_cons.1 h.nd).2;have hfl:=h.rng f List.mem_cons_self;unfold InG at hfl;obtain⟨ra,ha,ca,ma⟩:=aOA (n:=n) F (a:=f.a) (by omega) (by omega);obtain⟨rb,hb,cb,mb⟩:=aOA (n:=n) F (a:=f.b) (by omega) (by omega);have eqA:∀ v:Nat,v<n->aRK F v->Cn F v f.a->v=ra:=fun v hv ht hc=>by
  rcases Nat.lt_trichotomy v ra with h1|h1|h1
  .exact absurd (Cn.symm hF hc) (ma v h1)
  .exact h1
  .exact absurd (hc.trans ca) (ht.1 ra h1)
 have eqB:∀ v:Nat,v<n->aRK F v->Cn F v f.b->v=rb:=fun v hv ht hc=>by
  rcases Nat.lt_trichotomy v rb with h1|h1|h1
  .exact absurd (Cn.symm hF hc) (mb v h1)
  .exact h1
  .exact absurd (hc.trans cb) (ht.1 rb h1)
 have out:∀ v:Nat,aRK F v->¬ Cn F v f.a->¬ Cn F v f.b->aRK (f::F) v:=fun v ht h1 h2=>
  ⟨fun u hu hc=>by
   obtain⟨w,hw⟩:=hc;exact ht.1 u hu ⟨w,aVh h1 h2 hw⟩,fun w hw=>ht.2 w (aVh h1 h2 hw)⟩
 unfold tau;by_cases hab:Cn F f.a f.b
 .refine aNJ (v0:=ra) fun v hv hne ht=>?_
  have h1:¬ Cn F v f.a:=fun hc=>hne (eqA v hv ht hc);exact out v ht h1 fun hc=>h1 (hc.trans (Cn.symm hF hab))
 by_cases fa:Flat F f.a
 .by_cases fb:Flat F f.b
  .have hab2:ra≠rb:=fun e=>hab (ca.trans (Cn.symm hF (by rw[e];exact cb)))
   refine aNJ (v0:=max ra rb) fun v hv hne ht=>?_;by_cases h1:Cn F v f.a \/ Cn F v f.b
   .have hvc:Cn F f.a v \/ Cn F f.b v:=h1.imp (Cn.symm hF) (Cn.symm hF)
    have hvm:v<=ra/\v<=rb:=by
     rcases h1 with h1|h1
     .have:=eqA v hv ht h1;omega
     have:=eqB v hv ht h1;omega
    refine⟨fun u hu hc=>?_,?_⟩
    .obtain⟨w,hw⟩:=hc
     rcases aJR hF hvc hw with h2|h2
     .exact ma u (by omega) h2
     exact mb u (by omega) h2
    have hfa:Flat (f::F) f.a:=fun w hw=>((aRH h hF fa fb hab _ w f.a rfl hw).1 [] (Pa.nil F _))
    refine hfa.move h ?_;rcases hvc with h2|h2
    .exact h2.mono fun e he=>List.mem_cons_of_mem _ he
    exact Cn.trans ⟨[f.l],aBQ.2 (aBC List.mem_cons_self (by omega))⟩ (h2.mono fun e he=>List.mem_cons_of_mem _ he)
   exact out v ht (fun k=>h1 (.inl k)) (fun k=>h1 (.inr k))
  refine aNJ (v0:=ra) fun v hv hne ht=>?_;exact out v ht (fun hc=>hne (eqA v hv ht hc)) fun hc=>fb (ht.2.move hF hc)
 refine aNJ (v0:=rb) fun v hv hne ht=>?_;exact out v ht (fun hc=>fa (ht.2.move hF hc)) fun hc=>hne (eqB v hv ht hc)
theorem aSK{f:Ed}(h:Gd n (f::F))(hfl2:Flat F f.a \/ Flat F f.b):tau (f::F) n+1<=tau F n:=by
 have hnd:=List.nodup_cons.1 h.nd;have hs:∀ e∈F,e∈f::F:=fun e he=>List.mem_cons_of_mem _ he;have hF:Gd n F:=h.sub hs hnd.2;have hfl:=h.rng f List.mem_cons_self;unfold InG at hfl;obtain⟨ra,ha,ca,ma⟩:=aOA (n:=n) F (a:=f.a) (by omega) (by omega);obtain⟨rb,hb,cb,mb⟩:=aOA (n:=n) F (a:=f.b) (by omega) (by omega);have l3:Lt3 f.l:=by unfold Lt3;omega
 have hsp:Sp (f::F) f.a f.l f.b:=aBC List.mem_cons_self (by omega);have hmono:∀ v,v<n->aRK (f::F) v->aRK F v:=fun v hv ht=>⟨fun u hu hc=>ht.1 u hu (hc.mono hs),ht.2.mono hs⟩
 have tA:Flat F f.a->aRK F ra:=fun fa=>⟨fun u hu hc=>ma u hu (ca.trans hc),fa.move hF ca⟩
 have tB:Flat F f.b->aRK F rb:=fun fb=>⟨fun u hu hc=>mb u hu (cb.trans hc),fb.move hF cb⟩
 have cab:Cn (f::F) ra rb:=(Cn.symm h (ca.mono hs)).trans (Cn.trans ⟨[f.l],aBQ.2 hsp⟩ (cb.mono hs));unfold tau;by_cases hab:Cn F f.a f.b
 .have fa:Flat F f.a:=hfl2.elim id fun k=>k.move hF (Cn.symm hF hab)
  refine aLs (v0:=ra) hmono ha (tA fa) fun ht=>?_;have hfa:Flat (f::F) f.a:=ht.2.move h (Cn.symm h (ca.mono hs));obtain⟨w,hw⟩:=hab;have h1:=hfa.eqv h (aBQ.2 hsp) (hw.mono hs);have h2:=hF.red hw;have h4:red [] w=[f.l]:=by
   have h5:red [] w=red [] [f.l]:=h1.symm;rw[h5];exact aEH (Rd.one f.l) (LtW.one l3)
  rw[h4] at h2;rcases aBQ.1 h2 with⟨-,h3⟩|⟨h3, -⟩
  .exact hnd.1 h3
  omega
 by_cases fa:Flat F f.a
 .by_cases fb:Flat F f.b
  .rcases Nat.lt_trichotomy ra rb with h1|h1|h1
   .exact aLs (v0:=rb) hmono hb (tB fb) fun ht=>ht.1 ra h1 (Cn.symm h cab)
   .exact absurd (ca.trans (Cn.symm hF (by rw[h1];exact cb))) hab
   exact aLs (v0:=ra) hmono ha (tA fa) fun ht=>ht.1 rb h1 cab
  exact aLs (v0:=ra) hmono ha (tA fa) fun ht=>fb ((ht.2.move h (cab.trans (Cn.symm h (cb.mono hs)))).mono hs)
 have fb:=hfl2.resolve_left fa;exact aLs (v0:=rb) hmono hb (tB fb) fun ht=>fa ((ht.2.move h ((Cn.symm h cab).trans (Cn.symm h (ca.mono hs)))).mono hs)
theorem aTe:∀ {F:List Ed},Gd n F->n<=F.length+tau F n
|[],_=>by rw[aRF];omega
|f::F,h=>by
  have hF:Gd n F:=h.sub (fun e he=>List.mem_cons_of_mem _ he) (List.nodup_cons.1 h.nd).2;have h1:=aTe hF;have h2:=aUM h;rw[List.length_cons];omega
theorem aTf:∀ {F:List Ed},Gd n F->(∀ f F',(f::F') <:+ F->Flat F' f.a \/ Flat F' f.b)->F.length+tau F n<=n
|[],_,_=>by rw[aRF];simp
|f::F,h,hb=>by
  have hF:Gd n F:=h.sub (fun e he=>List.mem_cons_of_mem _ he) (List.nodup_cons.1 h.nd).2;have h1:=aTf hF fun g F' hs=>hb g F' (hs.trans (List.suffix_cons f F));have h2:=aSK h (hb f F (List.suffix_refl _));rw[List.length_cons];omega
end
open Classical in
noncomputable def brgs (es:List Ed) (N:Nat):List Ed:=es.filter fun e=>decide (Brg es N e)
open Classical in
noncomputable def rest (es:List Ed) (N:Nat):List Ed:=es.filter fun e=>!decide (Brg es N e)
theorem aLp(es:List Ed)(N:Nat):(brgs es N).length+(rest es N).length=es.length:=by
 classical
 unfold brgs rest
 induction es with
|nil=>rfl
|cons e t ih=>
  have key:∀(p:Ed->Bool) (l:List Ed),(l.filter p).length+(l.filter fun e=>!p e).length=l.length:=aHo;exact key _ _
theorem aDM{es:List Ed}{N:Nat}{e:Ed}:e∈rest es N↔e∈es/\¬ Brg es N e:=by
 classical
 unfold rest;rw[List.mem_filter];simp
theorem aEz{es:List Ed}{N:Nat}{e:Ed}:e∈brgs es N↔e∈es/\Brg es N e:=by
 classical
 unfold brgs;rw[List.mem_filter];simp
theorem aNt{s:Int}{es:List Ed}(h:Gd s es)(N:Nat):Gd s (rest es N):=h.sub (fun e he=>(aDM.1 he).1) (by
 classical
 unfold rest;exact h.nd.filter _)
theorem aUj{n:Nat}{es:List Ed}(h:Gd n es)(N:Nat):es.length<=(brgs es N).length+n:=by
 have h1:=aTf (aNt h N) fun f F' hs=>by
  have hsub:∀ e∈f::F',e∈rest es N:=fun e he=>hs.subset he;have hes:∀ e∈F',e∈es:=fun e he=>(aDM.1 (hsub e (List.mem_cons_of_mem _ he))).1;have hf:=(aDM.1 (hsub f List.mem_cons_self)).1;have hnd:(f::F').Nodup:=hs.sublist.nodup (aNt h N).nd;have hnd2:=List.nodup_cons.1 hnd;have hg:=h.sub hes hnd2.2;by_cases fa:Flat F' f.a
  .exact .inl fa
  by_cases fb:Flat F' f.b
  .exact .inr fb
  exfalso
  have ex:∀ {v:Int},¬ Flat F' v->∃ z,Pa F' v z v/\Rd z/\z≠[]:=fun{v} hn=>by
   unfold Flat at hn;obtain⟨w,hw⟩:=Classical.not_forall.1 hn;obtain⟨hp,hr⟩:=Classical.not_imp.1 hw;exact⟨red [] w,hg.red hp,aHN (hg.lt hp),hr⟩
  obtain⟨za,a1,a2,a3⟩:=ex fa;obtain⟨zb,b1,b2,b3⟩:=ex fb;obtain⟨e,he,hB⟩:=aTl h hes hnd2.2 hf hnd2.1 a1 a2 a3 b1 b2 b3 N;have:e∈rest es N:=hsub e (List.mem_cons.2 he);exact(aDM.1 this).2 hB
 have h2:=aLp es N;omega
theorem aIE{F:List Ed}:∀ {es:List Ed} {w:List Int} {u v:Int},Pa es u w v->Pa F u w v \/ ∃ p y q t t',w=p++y::q/\Pa F u p t/\Sp es t y t'/\¬ Sp F t y t'
|es,[],u,v,h=>.inl h
|es,x::w,u,v,⟨t,h1,h2⟩=>by
  by_cases hs:Sp F u x t
  .rcases aIE (F:=F) h2 with h3|⟨p,y,q,a,b,e,h3,h4,h5⟩
   .exact .inl ⟨t,hs,h3⟩
   .exact .inr ⟨x::p,y,q,a,b,by rw[e];rfl,⟨t,hs,h3⟩,h4,h5⟩
  .exact .inr ⟨[],x,w,u,t,rfl,rfl,h1,hs⟩
theorem aSW{α:Type}{R:α->α->Prop}(ht:∀ a b c,R a b->R b c->R a c)(hi:∀ a,¬ R a a):∀(l:List α),l≠[]->∃ a∈l,∀ b∈l,¬ R b a
|[],h=>absurd rfl h
|[a],_=>⟨a,by simp,fun b hb=>by rw[List.mem_singleton.1 hb];exact hi a⟩
|a::b::l,_=>by
  obtain⟨m,hm,h1⟩:=aSW ht hi (b::l) (by simp);by_cases h2:R a m
  .refine⟨a,List.mem_cons_self,fun c hc=>?_⟩
   rcases List.mem_cons.1 hc with rfl|hc
   .exact hi c
   .exact fun h3=>h1 c hc (ht _ _ _ h3 h2)
  .refine⟨m,List.mem_cons_of_mem _ hm,fun c hc=>?_⟩
   rcases List.mem_cons.1 hc with rfl|hc
   .exact h2
   .exact h1 c hc
theorem pig{n:Nat}{f:Nat->Int}(h:∀ k,k<=n->0<=f k/\f k<n):∃ i j,i<j/\j<=n/\f i=f j:=by
 refine Classical.byContradiction fun hc=>?_;have hinj:∀ i j,i<j->j<=n->f i≠f j:=fun i j h1 h2 h3=>hc ⟨i,j,h1,h2,h3⟩;have hnd:((List.range (n+1)).map f).Nodup:=by
  refine List.pairwise_map.2 (List.pairwise_lt_range.imp_of_mem fun{i j} _ hj hij=>hinj i j hij ?_);have:=List.mem_range.1 hj;omega
 have:=aMa (m:=(List.range n).map fun(k:Nat)=>(k:Int)) hnd fun x hx=>by
  obtain⟨k,hk,rfl⟩:=List.mem_map.1 hx;have h1:=h k (by have:=List.mem_range.1 hk;omega);exact List.mem_map.2 ⟨(f k).toNat,List.mem_range.2 (by omega),by omega⟩
 simp at this;omega
theorem aPa{n:Nat}{F:List Ed}(h:Gd n F){u v:Int}(hu:0<=u/\u<n)(hf:Flat F u){w:List Int}(hp:Pa F u w v)(hr:Rd w):w.length<n:=by
 rcases Nat.lt_or_ge w.length n with h1|h1
 .exact h1
 exfalso
 have hex:∀ k,∃ t,k<=w.length->Pa F u (w.take k) t:=fun k=>by
  obtain⟨t,h2, -⟩:=aCC.1 (show Pa F u (w.take k++w.drop k) v by rw[List.take_append_drop];exact hp);exact⟨t,fun _=>h2⟩
 obtain⟨i,j,hij,hj,e⟩:=pig (n:=n) (f:=fun k=>(hex k).choose) fun k hk=>((hex k).choose_spec (by omega)).rng h.rng hu;have hi:=(hex i).choose_spec (by omega);have hjp:=(hex j).choose_spec (by omega);rw[<- e] at hjp;exact aLX (h.lt hp) hr hij (by omega) (hf.eqv h hi hjp)
theorem aUk{n:Nat}{es:List Ed}(h:Gd n es)(hr:Rch n es){N:Nat}(hN:n<=N)(hne:brgs es N≠[]):(brgs es N).length+n<=es.length:=by
 have hg:=aNt h N;have hsub:∀ e∈rest es N,e∈es:=fun e he=>(aDM.1 he).1;have hz:tau (rest es N) n=0:=by
  refine aRT fun v0 hv0 ht=>?_;have hfl:=ht.2
  -- words tz the vertices of the part
  have hv:(0:Int)<=(v0:Int)/\(v0:Int)<n:=by omega
  generalize (v0:Int)=v at hfl hv;clear ht;obtain⟨tw,htw⟩:∃ tw:Int->List Int,∀ u,Cn (rest es N) v u->Pa (rest es N) v (tw u) u:=⟨fun u=>by
   classical
   exact if h:Cn (rest es N) v u then h.choose else[],fun u hu=>by
   simp only[dif_pos hu];exact hu.choose_spec⟩
  -- the bridges that leave it
  have hD:∃ u x u',Cn (rest es N) v u/\Sp es u x u'/\¬ Sp (rest es N) u x u':=by
   obtain⟨e,he⟩:=List.exists_mem_of_ne_nil _ hne;obtain⟨he1,he2⟩:=aEz.1 he;have hi:=h.rng e he1;unfold InG at hi;obtain⟨a,ha⟩:=hr v hv.1 hv.2;obtain⟨b,hb⟩:=hr e.a (by omega) (by omega);rcases aIE (F:=rest es N) ((h.inv ha).app hb) with h1|⟨p,y,q,t,t', -,h1,h2,h3⟩
   .refine⟨e.a,e.l,e.b,⟨_,h1⟩,aBC he1 (by omega),fun hs=>?_⟩
    rcases hs with⟨-,hs⟩|⟨hs, -⟩
    .exact(aDM.1 hs).2 he2
    omega
   exact⟨t,y,t',⟨_,h1⟩,h2,h3⟩
  -- a least one
  let L:List (Int × Int):=((List.range n).map fun(k:Nat)=>(k:Int)).flatMap fun u=>[((u:Int),(1:Int)),(u,2),(u,3),(u, -1),(u, -2),(u, -3)]
  let D:Int × Int->Prop:=fun d=>Cn (rest es N) v d.1/\∃ u',Sp es d.1 d.2 u'/\¬ Sp (rest es N) d.1 d.2 u'
  have hmemL:∀ d,D d->d∈L:=fun d hd=>by
   obtain⟨u',h1, -⟩:=hd.2;have h2:=h1.rng h.rng;refine List.mem_flatMap.2 ⟨d.1,List.mem_map.2 ⟨d.1.toNat,List.mem_range.2 (by omega),by omega⟩,?_⟩;obtain⟨a,b⟩:=d;simp only at h2 |-;simp only[List.mem_cons,Prod.mk.injEq,true_and,List.not_mem_nil,or_false];omega
  let R:Int × Int->Int × Int->Prop:=fun d d'=>D d/\D d'/\LtG (eg (tw d.1) d.2) (eg (tw d'.1) d'.2)
  have hlt:∀ d,D d->LtW (eg (tw d.1) d.2).1:=fun d hd=>by
   obtain⟨u',h1, -⟩:=hd.2;exact aLy (hg.lt (htw _ hd.1)) (h.lt3 h1)
  have hRt:∀ a b c,R a b->R b c->R a c:=fun a b c h1 h2=>⟨h1.1,h2.2.1,h1.2.2.trans (hlt a h1.1) (hlt b h1.2.1) (hlt c h2.2.1) h2.2.2⟩
  have hRi:∀ a,¬ R a a:=fun a h1=>LtG.irr (hlt a h1.1) h1.2.2;obtain⟨d0,hd0,hmin⟩:∃ d,D d/\∀ d',D d'->¬ R d' d:=by
   classical
   obtain⟨u,x,u',h1,h2,h3⟩:=hD;obtain⟨m,hm,hmin⟩:=aSW hRt hRi (L.filter fun d=>decide (D d)) (fun e=>by
    have:(u,x)∈L.filter fun d=>decide (D d):=List.mem_filter.2 ⟨hmemL _ ⟨h1,u',h2,h3⟩,by simpa using⟨h1,u',h2,h3⟩⟩;rw[e] at this;cases this)
   obtain⟨h4,h5⟩:=List.mem_filter.1 hm;refine⟨m,by simpa using h5,fun d' hd'=>hmin d' (List.mem_filter.2 ⟨hmemL _ hd',by simpa using hd'⟩)⟩
  obtain⟨u,x⟩:=d0;obtain⟨hcu,u',hs,hns⟩:=hd0;simp only at hcu hs hns;have lx:=h.lt3 hs
  -- it is a bridge
  have hgood:Good es N u' (-x):=by
   rcases hs with⟨h1,h2⟩|⟨h1,h2⟩
   .have hB:Brg es N ⟨u,x,u'⟩:=Classical.byContradiction fun hB=>hns (.inl ⟨h1,aDM.2 ⟨h2,hB⟩⟩)
    exact hB.2
   have hB:Brg es N ⟨u', -x,u⟩:=Classical.byContradiction fun hB=>hns (.inr ⟨h1,aDM.2 ⟨h2,hB⟩⟩);exact hB.1
  obtain⟨w,v',hw,hrd,⟨t,hs2,hp⟩,hless⟩:=hgood;obtain rfl:=h.det hs2 hs.neg;have hpu:=htw _ hcu;have lu:=hg.lt hpu;have htn:=hpu.rng hg.rng hv;rcases aIE (F:=rest es N) hp with h1|⟨p,y,q,a,b,e,h1,h2,h3⟩
  .have:=aPa hg htn (hfl.move hg hcu) h1 (hrd.right (a:=[-x]))
   omega
  have hca:Cn (rest es N) v a:=hcu.trans ⟨p,h1⟩;refine hmin (a,y) ⟨hca,b,h2,h3⟩ ⟨⟨hca,b,h2,h3⟩,⟨hcu,u',hs,hns⟩,?_⟩;have lp:=hg.lt h1;have ly:=h.lt3 h2;have hlen:p.length+1<=N:=by
   rw[<- hw,e];simp
  have h4:=hless (p.length+1) (by omega) hlen;have k1:ke (-x::w) (p.length+1)=eg (-x::p) y:=by
   unfold ke;rw[e];simp
  have k0:ke (-x::w) 0=eg [] (-x):=rfl;rw[k1,k0] at h4;have l1:LtW (-x::p):=LtW.cons lx.neg lp;have h5:=(LtG.left (u:=tw t++[x]) (lu.app (LtW.one lx)) (aLy l1 ly) (aLy LtW.nil lx.neg)).2 h4;rw[<- aSc,<- aSc,List.append_nil] at h5;have e1:Eqv ((tw t++[x])++(-x::p)) (tw a):=by
   have h6:=Eqv.inv_right (LtW.one lx);rw[show aAx [x]=[-x] by simp[aAx,lx.negI]] at h6;have h7:=Eqv.app lu lu (((LtW.one lx).app (LtW.one lx.neg)).app lp) (LtW.nil.app lp) rfl (Eqv.app ((LtW.one lx).app (LtW.one lx.neg)) LtW.nil lp lp h6 (Eqv.refl p));have h8:=hfl.eqv hg (hpu.app h1) (htw a hca);refine Eqv.trans ?_ h8
   simpa using h7
  exact LtG.congr (aLy ((lu.app (LtW.one lx)).app l1) ly) (aLy (lu.app (LtW.one lx)) lx.neg) (aLy (hg.lt (htw a hca)) ly) (aLy lu lx) (aNT ((lu.app (LtW.one lx)).app l1) (hg.lt (htw a hca)) ly e1) (aST lu lx) h5
 have h1:=aTe hg;have h2:=aLp es N;omega
end
section
def aIO:List Int->Int
|[]=>0
|x::t=>max 0 (x - 1)+aIO t
theorem aIP(l:List Int)(x:Int):aIO (l++[x])=aIO l+max 0 (x - 1):=by
 induction l with
|nil=>simp[aIO]
|cons y t ih=>
  show max 0 (y - 1)+aIO (t++[x])=max 0 (y - 1)+aIO t+max 0 (x - 1)
  rw[ih];omega
theorem aRg(ea eb:List Ed)(P:PS)(i:Nat)(p:Int × Int):∀ k,(aCD ea eb P i p k).Nodup/\∀ e∈aCD ea eb P i p k,e.a=i/\e.l<=k
|0=>by simp[aCD]
|k+1=>by
  obtain⟨h1,h2⟩:=aRg ea eb P i p k;rw[aIT];cases h:aRf ea eb P i p ((k:Int)+1) with
 |none=>exact⟨by simpa using h1,fun e he=>by have:=h2 e (by simpa using he);omega⟩
 |some f=>
   have hf:f.a=i/\f.l=(k:Int)+1:=by
    unfold aRf at h;split at h
    .cases h
    .rw[<- Option.some.inj h]
     exact⟨rfl,rfl⟩
   refine⟨?_,fun e he=>?_⟩
   .refine List.nodup_append.2 ⟨h1,by simp,fun e he g hg heq=>?_⟩
    have hg2:g=f:=by simpa using hg
    have:=h2 e he;rw[heq,hg2] at this;omega
   .rcases List.mem_append.1 he with he|he
    .have:=h2 e he
     omega
    .have he2:e=f:=by simpa using he
     rw[he2];omega
theorem aOr(ea eb:List Ed)(r:Nat)(P:PS):∀ n,n<=P.length->(aAZ ea eb r P n).Nodup/\∀ e∈aAZ ea eb r P n,e.a<n
|0,_=>by simp[aAZ]
|n+1,hn=>by
  obtain⟨h1,h2⟩:=aOr ea eb r P n (by omega);have hp:P[n]?=some P[n]:=List.getElem?_eq_getElem (by omega);obtain⟨h3,h4⟩:=aRg ea eb P n P[n] r;rw[aCF hp];refine⟨List.nodup_append.2 ⟨h1,h3,fun e he g hg heq=>?_⟩,fun e he=>?_⟩
  .have h5:=h2 e he
   have h6:=(h4 g hg).1;rw[heq] at h5;omega
  .rcases List.mem_append.1 he with he|he
   .have:=h2 e he
    omega
   .have:=(h4 e he).1
    omega
section
variable {r sa sb:Nat} {ea eb:List Ed}
def pAt(P:PS)(i:Int):Int × Int:=(P[i.toNat]?).getD (0,0)
theorem aEE{P:PS}{i:Nat}{p:Int × Int}(h:P[i]?=some p):pAt P (i:Int)=p:=by
 unfold pAt;rw[Int.toNat_natCast,h]
 rfl
theorem aHn(ha:IsFol r sa ea)(hb:IsFol r sb eb){p0:Int × Int}(h0:PIn sa sb p0){i x j:Int} :
  Sp (aAZ ea eb r (aAf ea eb (lets r) p0) (aAf ea eb (lets r) p0).length) i x j↔∃(a b:Nat) (p q:Int × Int),i=a/\j=b/\(aAf ea eb (lets r) p0)[a]?=some p/\(aAf ea eb (lets r) p0)[b]?=some q/\Sp ea p.1 x q.1/\Sp eb p.2 x q.2:=by
 have h:=aJb (u:=p0.1) (v:=p0.2) (i:=i) (x:=x) (j:=j) ha hb h0;unfold aCV at h;rw[Int.toNat_natCast] at h;rw[<- h];exact⟨fun k=>k.mono fun e he=>aBD.2 he,fun k=>k.mono fun e he=>aBD.1 he⟩
theorem aMM(ha:IsFol r sa ea)(hb:IsFol r sb eb){p0:Int × Int}(h0:PIn sa sb p0) :
  Gd ((aAf ea eb (lets r) p0).length:Nat) (aAZ ea eb r (aAf ea eb (lets r) p0) (aAf ea eb (lets r) p0).length):=by
 have hok:=aDe (lets r) ha.gr.all hb.gr.all h0;have hcl:=aCn (lets r) ha.gr hb.gr h0;have hrk:=ha.gr.rank;refine⟨fun e he=>?_,fun{u x v v'} h1 h2=>?_,(aOr ea eb r _ _ oN).1⟩
 .have:=aKS hcl _ he oN
  unfold InG at this |-;omega
 obtain⟨a,b,p,q,rfl,rfl,h5,h6,h7,h8⟩:=(aHn ha hb h0).1 h1;obtain⟨a',b',p',q',e1,rfl,h5',h6',h7',h8'⟩:=(aHn ha hb h0).1 h2;obtain rfl:a=a':=by omega
 rw[h5] at h5';obtain rfl:=Option.some.inj h5';have e1:=ha.det h7 h7';have e2:=hb.det h8 h8';have e3:q=q':=Prod.ext e1 e2;subst e3;have:=(aEB hok.nd h6).symm.trans (aEB hok.nd h6');omega
def two(P:PS)(e:Ed):Ed × Ed:=(⟨(pAt P e.a).1,e.l,(pAt P e.b).1⟩,⟨(pAt P e.a).2,e.l,(pAt P e.b).2⟩)
theorem aPV(ha:IsFol r sa ea)(hb:IsFol r sb eb){p0:Int × Int}(h0:PIn sa sb p0){i x j:Int}(h:Sp (aAZ ea eb r (aAf ea eb (lets r) p0) (aAf ea eb (lets r) p0).length) i x j) :
  Sp ea (pAt (aAf ea eb (lets r) p0) i).1 x (pAt (aAf ea eb (lets r) p0) j).1/\Sp eb (pAt (aAf ea eb (lets r) p0) i).2 x (pAt (aAf ea eb (lets r) p0) j).2:=by
 obtain⟨a,b,p,q,rfl,rfl,h5,h6,h7,h8⟩:=(aHn ha hb h0).1 h;rw[aEE h5,aEE h6];exact⟨h7,h8⟩
theorem aUN{P:PS}{E:List Ed}{N:Nat}{e:Ed}(f1:∀ i x j,Sp E i x j->Sp ea (pAt P i).1 x (pAt P j).1)(f2:∀ i x j,Sp E i x j->Sp eb (pAt P i).2 x (pAt P j).2)(hl:0<e.l)(he:e∈brgs E N):(two P e).1∈brgs ea N/\(two P e).2∈brgs eb N:=by
 obtain⟨hm,hg1,hg2⟩:=aEz.1 he;have hs:=aBC hm hl;have k1:=f1 _ _ _ hs;have k2:=f2 _ _ _ hs;have edge:∀ {es:List Ed} {u v:Int},Sp es u e.l v->(⟨u,e.l,v⟩:Ed)∈es:=fun{es u v} h=>by
  rcases h with⟨-,h⟩|⟨h, -⟩
  .exact h
  .omega
 have g1:=Good.map (f:=fun i=>(pAt P i).1) f1 hg1;have g2:=Good.map (f:=fun i=>(pAt P i).1) f1 hg2;have g3:=Good.map (f:=fun i=>(pAt P i).2) f2 hg1;have g4:=Good.map (f:=fun i=>(pAt P i).2) f2 hg2;exact⟨aEz.2 ⟨edge k1,g1,g2⟩,aEz.2 ⟨edge k2,g3,g4⟩⟩
theorem aTq(ha:IsFol r sa ea)(hb:IsFol r sb eb){p0:Int × Int}(h0:PIn sa sb p0){i x j:Int}(h:Sp (aAZ ea eb r (aAf ea eb (lets r) p0) (aAf ea eb (lets r) p0).length) i x j):pAt (aAf ea eb (lets r) p0) i∈aAf ea eb (lets r) p0:=by
 obtain⟨a,b,p,q,rfl,rfl,h5,h6,h7,h8⟩:=(aHn ha hb h0).1 h;rw[aEE h5];exact List.mem_of_getElem? h5
theorem aTY(ha:IsFol r sa ea)(hb:IsFol r sb eb){p0:Int × Int}(h0:PIn sa sb p0){e f:Ed}(he:e∈aAZ ea eb r (aAf ea eb (lets r) p0) (aAf ea eb (lets r) p0).length)(hf:f∈aAZ ea eb r (aAf ea eb (lets r) p0) (aAf ea eb (lets r) p0).length)(h:two (aAf ea eb (lets r) p0) e=two (aAf ea eb (lets r) p0) f):e=f:=by
 have hok:=aDe (lets r) ha.gr.all hb.gr.all h0;have hle:=(aMM ha hb h0).rng e he;have hlf:=(aMM ha hb h0).rng f hf;unfold InG at hle hlf;obtain⟨a,b,p,q,e1,e2,h5,h6, -⟩:=(aHn ha hb h0).1 (aBC he (by omega));obtain⟨a',b',p',q',f1,f2,h5',h6', -⟩:=(aHn ha hb h0).1 (aBC hf (by omega));unfold two at h;rw[e1,e2,f1,f2,aEE h5,aEE h6,aEE h5',aEE h6'] at h;simp only[Prod.mk.injEq,Ed.mk.injEq] at h;obtain⟨⟨x1,x2,x3⟩,x4, -,x5⟩:=h;have ep:p=p':=Prod.ext x1 x4;have eq:q=q':=Prod.ext x3 x5;rw[<- ep] at h5';rw[<- eq] at h6';have ea':=(aEB hok.nd h5).symm.trans (aEB hok.nd h5');have eb':=(aEB hok.nd h6).symm.trans (aEB hok.nd h6');exact Ed.ext' (by omega) x2 (by omega)
structure CP (r:Nat) (ea eb:List Ed) (N:Nat) (P:PS):Prop where
 gd:Gd (P.length:Nat) (aAZ ea eb r P P.length)
 two:∀ e∈brgs (aAZ ea eb r P P.length) N,(two P e).1∈brgs ea N/\(two P e).2∈brgs eb N/\pAt P e.a∈P
 inj:∀ e f,e∈aAZ ea eb r P P.length->f∈aAZ ea eb r P P.length->Go.Proofs.YtkimajabegojoaaGreat.two P e=Go.Proofs.YtkimajabegojoaaGreat.two P f->e=f
theorem aUX(ha:IsFol r sa ea)(hb:IsFol r sb eb){p0:Int × Int}(h0:PIn sa sb p0)(N:Nat):CP r ea eb N (aAf ea eb (lets r) p0):=by
 have h1:=aMM ha hb h0;have h2:=fun e f he hf h=>aTY ha hb h0 (e:=e) (f:=f) he hf h;have h3:=fun i x j h=>aPV ha hb h0 (i:=i) (x:=x) (j:=j) h;have h4:=fun i x j h=>aTq ha hb h0 (i:=i) (x:=x) (j:=j) h;generalize aAf ea eb (lets r) p0=P at h1 h2 h3 h4 |-;refine⟨h1,fun e he=>?_,h2⟩;have hm:=(aEz.1 he).1;have hl:=h1.rng e hm;unfold InG at hl;have hl0:0<e.l:=by omega
 have h5:=aUN (fun i x j h=>(h3 i x j h).1) (fun i x j h=>(h3 i x j h).2) hl0 he;exact⟨h5.1,h5.2,h4 _ _ _ (aBC hm hl0)⟩
theorem CP.add{N:Nat}{P seen:PS}(h:CP r ea eb N P)(hout:∀ q∈P,q ∉ seen){G:List (Ed × Ed)}(h1:G.Nodup)(h2:∀ g∈G,g.1∈brgs ea N/\g.2∈brgs eb N/\(g.1.a,g.2.a)∈seen){l:List Int}(h3:aIO l<=G.length) :
  ∃ G:List (Ed × Ed),G.Nodup/\(∀ g∈G,g.1∈brgs ea N/\g.2∈brgs eb N/\(g.1.a,g.2.a)∈seen++P)/\aIO (l++[aDy ea eb r P])<=G.length:=by
 have hge:=aUj h.gd N;refine⟨G++(brgs (aAZ ea eb r P P.length) N).map (Go.Proofs.YtkimajabegojoaaGreat.two P),?_,?_,?_⟩
 .refine List.nodup_append.2 ⟨h1,?_,fun g hg k hk heq=>?_⟩
  .unfold List.Nodup
   rw[List.pairwise_map];have hnd:(brgs (aAZ ea eb r P P.length) N).Nodup:=by
    classical
    unfold brgs;exact h.gd.nd.filter _
   refine List.Pairwise.imp_of_mem ?_ hnd;intro e f he hf hne heq;exact hne (h.inj e f (aEz.1 he).1 (aEz.1 hf).1 heq)
  obtain⟨e,he,rfl⟩:=List.mem_map.1 hk;have h4:=(h2 g hg).2.2;rw[heq] at h4;exact hout _ (h.two e he).2.2 h4
 .intro g hg
  rcases List.mem_append.1 hg with hg|hg
  .have:=h2 g hg
   exact⟨this.1,this.2.1,List.mem_append_left _ this.2.2⟩
  obtain⟨e,he,rfl⟩:=List.mem_map.1 hg;have:=h.two e he;exact⟨this.1,this.2.1,List.mem_append_right _ this.2.2⟩
 rw[aIP,List.length_append,List.length_map];unfold aDy;omega
theorem aNL(ha:IsFol r sa ea)(hb:IsFol r sb eb)(N:Nat):∀ i,i<=sa * sb->∃ G:List (Ed × Ed),G.Nodup/\(∀ g∈G,g.1∈brgs ea N/\g.2∈brgs eb N/\(g.1.a,g.2.a)∈(aAm ea eb r sb i).1)/\aIO (aAm ea eb r sb i).2<=G.length
|0,_=>⟨[],by simp,by simp,by simp[aAm,aIO]⟩
|i+1,hi=>by
  obtain⟨G,h1,h2,h3⟩:=aNL ha hb N i (by omega);by_cases h:aBd sb i∈(aAm ea eb r sb i).1
  .rw[aDn h]
   exact⟨G,h1,h2,h3⟩
  .rw[aCi h]
   have h0:PIn sa sb (aBd sb i):=aGU (by omega);have hcl:=(aEW (r:=r) ha.gr hb.gr i (by omega)).cl;have hout:∀ q∈aAf ea eb (lets r) (aBd sb i),q ∉ (aAm ea eb r sb i).1:=aSX ha hb hcl h h0 1601;have hcp:=aUX ha hb h0 N;generalize aAf ea eb (lets r) (aBd sb i)=P at hout hcp |-;exact hcp.add hout h1 h2 h3
theorem aQj{α β:Type}(l:List α)(m:List β):(l.flatMap fun a=>m.map fun b=>(a,b)).length=l.length * m.length:=by
 induction l with
|nil=>simp
|cons a l ih=>rw[List.flatMap_cons,List.length_append,ih,List.length_map,List.length_cons,Nat.succ_mul];omega
instance:DecidableEq Ed:=fun a b=>decidable_of_iff (a.a=b.a/\a.l=b.l/\a.b=b.b) ⟨fun h=>Ed.ext' h.1 h.2.1 h.2.2,fun h=>by subst h;exact⟨rfl,rfl,rfl⟩⟩
theorem aTF(ha:IsFol r sa ea)(hb:IsFol r sb eb)(N:Nat):aIO (aAm ea eb r sb (sa * sb)).2<=((brgs ea N).length:Int) * ((brgs eb N).length:Int):=by
 obtain⟨G,h1,h2,h3⟩:=aNL ha hb N (sa * sb) oN;have:=aMa (l:=G) (m:=(brgs ea N).flatMap fun a=>(brgs eb N).map fun b=>(a,b)) h1 fun g hg=>by
  have:=h2 g hg;exact List.mem_flatMap.2 ⟨g.1,this.1,List.mem_map.2 ⟨g.2,this.2.1,rfl⟩⟩
 rw[aQj] at this;have h4:((brgs ea N).length:Int) * ((brgs eb N).length:Int)=(((brgs ea N).length * (brgs eb N).length:Nat):Int):=by simp
 omega
theorem aUr(ha:IsFol r sa ea):Gd sa ea:=by
 have hrk:=ha.gr.rank;refine⟨fun e he=>?_,fun h1 h2=>ha.det h1 h2,aIw ha.gr.asc⟩;have:=ha.gr.all e he;unfold InG at this |-;omega
theorem aQa(ha:IsCor r sa ea):((brgs ea 40).length:Int)<=max 0 ((ea.length:Int) - sa):=by
 have hs:=ha.gr.size;by_cases hn:brgs ea 40=[]
 .rw[hn]
  simp;omega
 have:=aUk (aUr ha.fol) ha.rch (N:=40) (by omega) hn;omega
theorem aTH(ha:IsCor r sa ea)(hb:IsCor r sb eb):aIO (aAm ea eb r sb (sa * sb)).2<=max 0 ((ea.length:Int) - sa) * max 0 ((eb.length:Int) - sb):=by
 have h1:=aTF ha.fol hb.fol 40;have h2:=aQa ha;have h3:=aQa hb;refine Int.le_trans h1 (Int.mul_le_mul h2 h3 (Int.natCast_nonneg _) (by omega))
end
end
end Go.Proofs.YtkimajabegojoaaGreat
