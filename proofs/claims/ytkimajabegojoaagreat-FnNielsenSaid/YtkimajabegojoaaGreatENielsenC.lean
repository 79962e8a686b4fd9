
import Derived.Test.YtkimajabegojoaaGreatNi11
import Derived.Test.YtkimajabegojoaaGreatNi10
import Derived.Test.YtkimajabegojoaaGreatNi4
import Derived.Test.YtkimajabegojoaaGreatNi3
import Derived.Test.YtkimajabegojoaaGreatNi1
import Derived.Deep.DeepCutAuto
import Derived.Deep.CutRange
namespace Go.Proofs.YtkimajabegojoaaGreat
set_option maxHeartbeats 40000000
set_option maxRecDepth 100000
open Go.RowKit
set_option linter.unusedVariables false
set_option linter.unusedSimpArgs false
theorem walk_Nielsen (A0:Option Addr) (d0:List Int) (c0:Nat) (w:World) (r0:RV w 0 w.heap.size A0 (byts d0)) (_o0:OkB d0) (_l0:d0.length≤9223372036854775807) :
  Calls Tryz.prog 3 #[.slice A0 d0.length c0] w fun e w'=>e=.returned (.bool true)∧Below w.heap.size w w':=by
 by_cases hbig:decide ((d0.length:Int) > 1048576)=true
 ·go_enter Tryz.func3,Tryz.ntmps3
  go_wp2_with fail;with_reducible refine (big_any A0 d0.length c0 w).mono ?_
  rintro e w1 ⟨rfl,rfl⟩;rw [hbig];go_wp2_with fail;go_ret;exact ⟨rfl,Below.refl _ _⟩
 have hl0:d0.length≤1048576:=by simp at hbig;omega
 have hbig2:decide ((d0.length:Int) > 1048576)=false:=by simpa using hbig
 clear hbig _l0;obtain ⟨L0,hL0⟩:∃ n,n=w.heap.size:=⟨_,rfl⟩
 rw [← hL0];have hm:=Mid.refl 0 0 w;go_enter Tryz.func3,Tryz.ntmps3
 go_wp2_with fail;with_reducible refine (big_any A0 d0.length c0 w).mono ?_
 rintro e w1 ⟨rfl,rfl⟩;rw [hbig2];go_wp2_with fail;with_reducible refine (DrawReduceNielsen_any A0 d0 c0 _ _ _o0 hl0 r0).mono ?_
 rintro e wa1 ⟨A1,c1,l,rfl,hok,o1,m⟩;replace r0:=r0.mid m oZl;replace hm:=hm.trans m;clear m;have HOK:=Lib.hid hok;have HLS:Hid (l.length+sumL l≤1048576):=Lib.hid (by have:=hok.len;have:=hok.sum;omega);obtain ⟨y,ms,hrun⟩:∃ y ms,runN 400 l=(y,ms):=⟨_,_,rfl⟩
 have HRUN:=Lib.hid hrun;have HRR:Hid (runR l true=(y,ms)):=Lib.hid (by unfold runR;rw [if_pos rfl];exact hrun);have hry:(runN 400 l).1=y:=by rw [hrun]
 have HOY:Hid (OkL y):=Lib.hid (hry ▸ (run_400 hok).2);have HNY:Hid (nextM y=none):=Lib.hid (hry ▸ (run_400 hok).1);have HSY:Hid (y.length+sumL y≤1048576):=Lib.hid (by have:=HOY.out.len;have:=HOY.out.sum;omega);have HML:Hid (ms.length≤400):=Lib.hid (by have:=(runN_less 400 l).2;rw [hrun] at this;exact this);have HMO:Hid (∀ m∈ms,OkMv m):=Lib.hid (by have:=run_okMv 400 hok;rw [hrun] at this;exact this);clear hok hrun hry;go_wp2_with fail;with_reducible refine (impl_ReduceNielsen A1 l c1 _ _ _ o1.rss HOK.out.oki HLS.out true (iff_of_true rfl HOK.out.areW) y ms HRR.out).mono ?_
 rintro e wa2 ⟨A2,c2,A3,c3,lo2,hi2,lo3,hi3,rfl,o2,v3, -,m⟩;replace r0:=r0.mid m oZl;replace o1:=o1.mid m oZl;replace hm:=hm.trans m;clear m;replace v3:=OV.rv v3;go_wp2_with fail;with_reducible refine (spec_ReduceNielsen A1 l c1 _ _ _ o1.rss HOK.out.oki HLS.out true (iff_of_true rfl HOK.out.areW) y ms HRR.out).mono ?_
 rintro e wa3 ⟨A4,c4,A5,c5,lo4,hi4,lo5,hi5,rfl,o4,v5, -,m⟩;replace r0:=r0.mid m oZl;replace o1:=o1.mid m oZl;replace o2:=o2.mid m oZl;replace v3:=v3.mid m oZl;replace hm:=hm.trans m;clear m;replace v5:=OV.rv v5;have hyl:y.length≤1048576:=by have:=HOY.out.len;omega
 have HYX:Hid (∀ x∈y,x.length≤1048576):=Lib.hid (fun x hx=>by have:=(HOY.out.ok x hx).2.2;omega);have hml:ms.length≤1048576:=by have:=HML.out;omega
 go_wp2_with fail;with_reducible refine (sameWords_eq A2 y c2 A4 c4 _ _ _ _ _ o2.rss o4.rss hyl HYX.out).mono ?_
 rintro e wa4 ⟨rfl,m⟩;replace r0:=r0.mid m oZl;replace o1:=o1.mid m oZl;replace o2:=o2.mid m oZl;replace v3:=v3.mid m oZl;replace o4:=o4.mid m oZl;replace v5:=v5.mid m oZl;replace hm:=hm.trans m;clear m;go_wp2_with fail;with_reducible refine (sameMoves_eq A3 ms c3 A5 c5 _ _ _ _ _ v3 v5 hml).mono ?_
 rintro e wa5 ⟨rfl,m⟩;replace r0:=r0.mid m oZl;replace o1:=o1.mid m oZl;replace o2:=o2.mid m oZl;replace v3:=v3.mid m oZl;replace o4:=o4.mid m oZl;replace v5:=v5.mid m oZl;replace hm:=hm.trans m;clear m;go_wp2_with fail;with_reducible refine (impl_FormatMoves A3 ms c3 _ _ _ v3 hml HMO.out).mono ?_
 rintro e wa6 ⟨rfl,m⟩;replace r0:=r0.mid m oZl;replace o1:=o1.mid m oZl;replace o2:=o2.mid m oZl;replace v3:=v3.mid m oZl;replace o4:=o4.mid m oZl;replace v5:=v5.mid m oZl;replace hm:=hm.trans m;clear m;go_wp2_with fail;with_reducible refine (spec_FormatMoves A5 ms c5 _ _ _ v5 hml HMO.out).mono ?_
 rintro e wa7 ⟨rfl,m⟩;replace r0:=r0.mid m oZl;replace o1:=o1.mid m oZl;replace o2:=o2.mid m oZl;replace v3:=v3.mid m oZl;replace o4:=o4.mid m oZl;replace v5:=v5.mid m oZl;replace hm:=hm.trans m;clear m;go_wp2_with fail;with_reducible refine ((spec_AreWordsM 3 A1 l c1 _ _ _ o1.rss HOK.out.oki HLS.out true (iff_of_true rfl HOK.out.areW))).mono ?_
 rintro e wa8 ⟨rfl,m⟩;replace r0:=r0.mid m oZl;replace o1:=o1.mid m oZl;replace o2:=o2.mid m oZl;replace v3:=v3.mid m oZl;replace o4:=o4.mid m oZl;replace v5:=v5.mid m oZl;replace hm:=hm.trans m;clear m;obtain ⟨s,es,hse⟩:∃ s es,subA 3 l=(s,es):=⟨_,_,rfl⟩
 have hsl:=sub_yes HOK.out.areW;have hsy:=sub_yes HOY.out.areW;have hsa:=run_same HOK.out;have hrk:=run_rank HOK.out;rw [HRUN.out] at hsa hrk;rw [hsa,hse] at hrk hsy;rw [hse] at hsl;have HSL:=Lib.hid hsl;have HSY2:=Lib.hid hsy;have HRK:=Lib.hid hrk;have hel:es.length≤1048576:=by have:=SubIs.lens hsl;simp only at this;omega
 clear hse hsl hsy hsa hrk;go_wp2_with fail;with_reducible refine (spec_SubgroupOf 3 A1 l c1 _ _ _ o1.rss HOK.out.oki HLS.out 3 s es true HSL.out).mono ?_
 rintro e wa9 ⟨A6,c6,rfl,o6,m⟩;replace r0:=r0.mid m oZl;replace o1:=o1.mid m oZl;replace o2:=o2.mid m oZl;replace v3:=v3.mid m oZl;replace o4:=o4.mid m oZl;replace v5:=v5.mid m oZl;replace hm:=hm.trans m;clear m;have al:=Mid.alloc wa9 (.cells #[.int .i64 3,.int .i64 s,.slice A6 es.length c6] 35);have B6:=Box.new wa9 #[.int .i64 3,.int .i64 s,.slice A6 es.length c6] 35;obtain ⟨nB6,hnB6⟩:∃ g,wa9.heap.size=g:=⟨_,rfl⟩
 replace r0:=r0.mid al oZl;replace o1:=o1.mid al oZl;replace o2:=o2.mid al oZl;replace v3:=v3.mid al oZl;replace o4:=o4.mid al oZl;replace v5:=v5.mid al oZl;replace o6:=o6.mid al oZl;replace hm:=hm.trans al;rw [hnB6] at B6;obtain ⟨wB6,hwB6⟩:∃ x,wa9.alloc (.cells #[.int .i64 3,.int .i64 s,.slice A6 es.length c6] 35)=x:=⟨_,rfl⟩
 rw [hwB6] at r0 o1 o2 v3 o4 v5 o6 B6 hm;clear al;go_wp2_with fail;clear hnB6 hwB6;with_reducible refine (spec_SubgroupOf 3 A4 y c4 _ _ _ o4.rss HOY.out.oki HSY.out 3 s es true HSY2.out).mono ?_
 rintro e wa10 ⟨A7,c7,rfl,o7,m⟩;replace r0:=r0.mid m oZl;replace o1:=o1.mid m oZl;replace o2:=o2.mid m oZl;replace v3:=v3.mid m oZl;replace o4:=o4.mid m oZl;replace v5:=v5.mid m oZl;replace o6:=o6.mid m oZl;replace B6:=B6.mid m oZr;replace hm:=hm.trans m;clear m;have al:=Mid.alloc wa10 (.cells #[.int .i64 3,.int .i64 s,.slice A7 es.length c7] 35);have B7:=Box.new wa10 #[.int .i64 3,.int .i64 s,.slice A7 es.length c7] 35;obtain ⟨nB7,hnB7⟩:∃ g,wa10.heap.size=g:=⟨_,rfl⟩
 replace r0:=r0.mid al oZl;replace o1:=o1.mid al oZl;replace o2:=o2.mid al oZl;replace v3:=v3.mid al oZl;replace o4:=o4.mid al oZl;replace v5:=v5.mid al oZl;replace o6:=o6.mid al oZl;replace o7:=o7.mid al oZl;replace B6:=B6.mid al oZr;replace hm:=hm.trans al;rw [hnB7] at B7;obtain ⟨wB7,hwB7⟩:∃ x,wa10.alloc (.cells #[.int .i64 3,.int .i64 s,.slice A7 es.length c7] 35)=x:=⟨_,rfl⟩
 rw [hwB7] at r0 o1 o2 v3 o4 v5 o6 o7 B6 B7 hm;clear al;have HRP:=Lib.hid (show replayM l ms l=(y,true) from by have:=replay_run l 400 l;rw [HRUN.out] at this;exact this);have HFT:Hid (FitM ms l):=Lib.hid (by have:=fit_run 400 HOK.out;rw [HRUN.out] at this;exact this);go_wp2_with fail;clear hnB7 hwB7;with_reducible refine (impl_ReplayMoves A1 l c1 A3 ms c3 _ _ _ _ _ o1.rss v3 hml HOK.out.oks HLS.out HFT.out y true HRP.out).mono ?_
 rintro e wa11 ⟨A8,c8,rfl,o8,m⟩;replace r0:=r0.mid m oZl;replace o1:=o1.mid m oZl;replace o2:=o2.mid m oZl;replace v3:=v3.mid m oZl;replace o4:=o4.mid m oZl;replace v5:=v5.mid m oZl;replace o6:=o6.mid m oZl;replace o7:=o7.mid m oZl;replace B6:=B6.mid m oZr;replace B7:=B7.mid m oZr;replace hm:=hm.trans m;clear m;go_wp2_with fail;with_reducible refine (simpl_IsNielsenReduced A4 y c4 _ _ _ o4 HOY.out.oks HSY.out true (nrIs HOY.out HNY.out)).mono ?_
 rintro e wa12 ⟨rfl,m⟩;replace r0:=r0.mid m oZl;replace o1:=o1.mid m oZl;replace o2:=o2.mid m oZl;replace v3:=v3.mid m oZl;replace o4:=o4.mid m oZl;replace v5:=v5.mid m oZl;replace o6:=o6.mid m oZl;replace o7:=o7.mid m oZl;replace o8:=o8.mid m oZl;replace B6:=B6.mid m oZr;replace B7:=B7.mid m oZr;replace hm:=hm.trans m;clear m;have hc7:=o7.cnt.1;obtain ⟨tl,htl⟩:∃ t:Int,((sumL l:Nat):Int)=t:=⟨_,rfl⟩
 obtain ⟨ty,hty⟩:∃ t:Int,((sumL y:Nat):Int)=t:=⟨_,rfl⟩
 have hsum:¬ tl < ty:=by have:=run_sum l;rw [HRUN.out] at this;simp only at this;omega
 have hsum2:decide (tl < ty)=false:=decide_eq_false hsum;have HTL:=Lib.hid htl;have HTY:=Lib.hid hty;clear htl hty;have B6l:=B6.1;have B60:=B6.cell 0 rfl;have B61:=B6.cell 1 rfl;have B62:=B6.cell 2 rfl;have B7l:=B7.1;have B70:=B7.cell 0 rfl;have B71:=B7.cell 1 rfl;have B72:=B7.cell 2 rfl;go_wp2_with fail;clear B6l B60 B61 B62 B7l B70 B71 B72;with_reducible refine (spec_EqualGraphs 3 s A6 es c6 3 s A7 es c7 _ _ _ _ _ (OG.rg o6) (OG.rg o7) hel hel true (by simp)).mono ?_
 rintro e wa13 ⟨rfl,m⟩;replace r0:=r0.mid m oZl;replace o1:=o1.mid m oZl;replace o2:=o2.mid m oZl;replace v3:=v3.mid m oZl;replace o4:=o4.mid m oZl;replace v5:=v5.mid m oZl;replace o6:=o6.mid m oZl;replace o7:=o7.mid m oZl;replace o8:=o8.mid m oZl;replace B6:=B6.mid m oZr;replace B7:=B7.mid m oZr;replace hm:=hm.trans m;clear m;have B7l:=B7.1;have B70:=B7.cell 0 rfl;have B71:=B7.cell 1 rfl;have B72:=B7.cell 2 rfl;go_wp2_with fail;clear B7l B70 B71 B72;with_reducible refine (impl_RankOfN 3 s A7 es c7 _ _ _ (OG.rg o7) hel hc7 (y.length:Int) HRK.out).mono ?_
 rintro e wa14 ⟨rfl,m⟩;replace r0:=r0.mid m oZl;replace o1:=o1.mid m oZl;replace o2:=o2.mid m oZl;replace v3:=v3.mid m oZl;replace o4:=o4.mid m oZl;replace v5:=v5.mid m oZl;replace o6:=o6.mid m oZl;replace o7:=o7.mid m oZl;replace o8:=o8.mid m oZl;replace B6:=B6.mid m oZr;replace B7:=B7.mid m oZr;replace hm:=hm.trans m;clear m;go_wp2_with fail;with_reducible refine (sameWords_eq A8 y c8 A4 c4 _ _ _ _ _ o8.rss o4.rss hyl HYX.out).mono ?_
 rintro e wa15 ⟨rfl,m⟩;replace r0:=r0.mid m oZl;replace o1:=o1.mid m oZl;replace o2:=o2.mid m oZl;replace v3:=v3.mid m oZl;replace o4:=o4.mid m oZl;replace v5:=v5.mid m oZl;replace o6:=o6.mid m oZl;replace o7:=o7.mid m oZl;replace o8:=o8.mid m oZl;replace B6:=B6.mid m oZr;replace B7:=B7.mid m oZr;replace hm:=hm.trans m;clear m;go_wp2_with fail;with_reducible refine (spec_TotalLengthN A4 y c4 _ _ _ o4.rss HSY.out ty HTY.out).mono ?_
 rintro e wa16 ⟨rfl,m⟩;replace r0:=r0.mid m oZl;replace o1:=o1.mid m oZl;replace o2:=o2.mid m oZl;replace v3:=v3.mid m oZl;replace o4:=o4.mid m oZl;replace v5:=v5.mid m oZl;replace o6:=o6.mid m oZl;replace o7:=o7.mid m oZl;replace o8:=o8.mid m oZl;replace B6:=B6.mid m oZr;replace B7:=B7.mid m oZr;replace hm:=hm.trans m;clear m;go_wp2_with fail;with_reducible refine (spec_TotalLengthN A1 l c1 _ _ _ o1.rss HLS.out tl HTL.out).mono ?_
 rintro e wa17 ⟨rfl,m⟩;replace r0:=r0.mid m oZl;replace o1:=o1.mid m oZl;replace o2:=o2.mid m oZl;replace v3:=v3.mid m oZl;replace o4:=o4.mid m oZl;replace v5:=v5.mid m oZl;replace o6:=o6.mid m oZl;replace o7:=o7.mid m oZl;replace o8:=o8.mid m oZl;replace B6:=B6.mid m oZr;replace B7:=B7.mid m oZr;replace hm:=hm.trans m;clear m;go_wp2_with fail;clear B6 B7 o1 v3 o2 v5 o6 o7 o8 hsum hsum2;obtain ⟨wl,hwl⟩:∃ x,x=wa17:=⟨_,rfl⟩
 rw [← hwl] at o4 r0 hm ⊢;clear hwl;go_loopw [14] (fun iv wr=>∃ i:Nat,iv=.int .i64 i∧i≤y.length∧OSS wr lo4 hi4 44 3 A4 c4 y∧RV wr 0 w.heap.size A0 (byts d0)∧Mid 0 0 w wr) (fun iv _=>y.length - (intOf iv).toNat)
 case atStart=>exact ⟨0,by go_num,Nat.zero_le _,o4,r0,hm⟩
 case round =>
  clear o4 r0 hm;obtain ⟨i,rfl,hi,o4,r0,hm⟩:=hrel;have hi0:(0:Int)≤(i:Int):=by omega
  by_cases hlt:i < y.length
  ·have hlt2:(i:Int) < (y.length:Int):=by omega
   obtain ⟨wo,hwo⟩:∃ x,x=wr:=⟨_,rfl⟩
   subst hwo;go_wp2_with fail;go_loopw [15] (fun kv wr=>∃ k:Nat,kv=.int .i64 k∧k≤y.length∧OSS wr lo4 hi4 44 3 A4 c4 y∧RV wr 0 w.heap.size A0 (byts d0)∧Mid 0 0 w wr) (fun kv _=>y.length - (intOf kv).toNat)
   case atStart=>exact ⟨0,by go_num,Nat.zero_le _,o4,r0,hm⟩
   case round =>
    clear o4 r0 hm;obtain ⟨k,rfl,hk,o4,r0,hm⟩:=hrel;have hk0:(0:Int)≤(k:Int):=by omega
    by_cases hltk:k < y.length
    ·have hltk2:(k:Int) < (y.length:Int):=by omega
     go_upto_region 20 with fail
     obtain ⟨bq,off,Ai,ci,a,hAy, -,hbq,ha,hca,hra⟩:=o4.rss.row hlt;obtain ⟨bk,offk,Ak,ck,b,hAk, -,hbk,hbb,hcb,hrb⟩:=o4.rss.row hltk;subst hAy;injection hAk with hAk
     injection hAk with hAk1 hAk2
     subst hAk1;subst hAk2;have hab:=HOY.out.ok a (List.mem_of_getElem? ha);have hbb2:=HOY.out.ok b (List.mem_of_getElem? hbb);have HAB:=Lib.hid hab;have HBB:=Lib.hid hbb2;have HPR:Hid (i≠k→(a.length≤(red [] (a++b)).length∧b.length≤(red [] (a++b)).length)∧(a.length≤(red [] (a++invW b)).length∧b.length≤(red [] (a++invW b)).length)):=Lib.hid (fun h=>run_prod HOY.out HNY.out h ha hbb);clear hab hbb2 ha hbb;have hbw:bq < wr.heap.size:=Nat.lt_of_lt_of_le hbq o4.rss.size;have hmd:=Mid.drew1 wr;replace o4:=o4.mid hmd oZl;replace r0:=r0.mid hmd oZl;replace hm:=hm.trans hmd;replace hra:=hra.mid hmd oZl;replace hrb:=hrb.mid hmd oZl;have hbz:bq < (World.drew wr).heap.size:=hbw;have hS:(World.drew wr).cell? ⟨bq,off+i,none⟩=some (.slice Ai a.length ci)∧(World.drew wr).cell? ⟨bq,off+k,none⟩=some (.slice Ak b.length ck):=⟨hca,hcb⟩
     clear hca hcb hmd hbw;refine wp_region_Z (S:=(fun w'=>w'.cell? ⟨bq,off+i,none⟩=some (.slice Ai a.length ci)∧w'.cell? ⟨bq,off+k,none⟩=some (.slice Ak b.length ck))) [] (by kernel_rfl) hS ?_;generalize World.drew wr=wz at hS o4 r0 hm hra hrb hbz ⊢;by_cases hik:i=k
     ·have dik:((i:Int) != (k:Int))=false:=by simp [hik]
      clear hra hrb HPR HAB HBB;refine tkZ [] 0 rfl hS ?_;try simp only [Act.put,zs1,zs2,zs3,zs4,zs5,zs6]
      refine tkZ [] 1 rfl hS ?_;try simp only [Act.put,zs1,zs2,zs3,zs4,zs5,zs6]
      refine tkZ [] 2 rfl hS ?_;try simp only [Act.put,zs1,zs2,zs3,zs4,zs5,zs6]
      refine tkZ [] 3 rfl hS ?_;try simp only [Act.put,zs1,zs2,zs3,zs4,zs5,zs6]
      refine wpAnyZ_takeC [] (i:=4) rfl (by kernel_rfl) (by kernel_rfl) (by kernel_rfl) (by kernel_rfl) (fun _ _ _ h=>h) (Or.inr ⟨by rfl,rfl⟩) hS ?_;try simp only [Act.put,zs1,zs2,zs3,zs4,zs5,zs6]
      refine wpAnyZ_takeC [] (i:=5) rfl (by kernel_rfl) (by kernel_rfl) (by kernel_rfl) (by kernel_rfl) (fun _ _ _ h=>h) (Or.inr ⟨by rfl,rfl⟩) hS ?_;try simp only [Act.put,zs1,zs2,zs3,zs4,zs5,zs6]
      refine wpAnyZ_takeC [] (i:=6) rfl (by kernel_rfl) (by kernel_rfl) (by kernel_rfl) (by kernel_rfl) (fun _ _ _ h=>h) (Or.inr ⟨by rfl,rfl⟩) hS ?_;try simp only [Act.put,zs1,zs2,zs3,zs4,zs5,zs6]
      refine wpAnyZ_takeC [] (i:=7) rfl (by kernel_rfl) (by kernel_rfl) (by kernel_rfl) (by kernel_rfl) (fun _ _ _ h=>h) (Or.inr ⟨by rfl,rfl⟩) hS ?_;try simp only [Act.put,zs1,zs2,zs3,zs4,zs5,zs6]
      refine wpAnyZ_takeC [] (i:=8) rfl (by kernel_rfl) (by kernel_rfl) (by kernel_rfl) (by kernel_rfl) (fun _ _ _ h=>h) (Or.inr ⟨by rfl,rfl⟩) hS ?_;try simp only [Act.put,zs1,zs2,zs3,zs4,zs5,zs6]
      refine wpAnyZ_takeC [] (i:=9) rfl (by kernel_rfl) (by kernel_rfl) (by kernel_rfl) (by kernel_rfl) (fun _ _ _ h=>h) (Or.inr ⟨by rfl,rfl⟩) hS ?_;try simp only [Act.put,zs1,zs2,zs3,zs4,zs5,zs6]
      refine wpAnyZ_takeC [] (i:=10) rfl (by kernel_rfl) (by kernel_rfl) (by kernel_rfl) (by kernel_rfl) (fun _ _ _ h=>h) (Or.inr ⟨by rfl,rfl⟩) hS ?_;try simp only [Act.put,zs1,zs2,zs3,zs4,zs5,zs6]
      refine wpAnyZ_takeC [] (i:=11) rfl (by kernel_rfl) (by kernel_rfl) (by kernel_rfl) (by kernel_rfl) (fun _ _ _ h=>h) (Or.inr ⟨by rfl,rfl⟩) hS ?_;try simp only [Act.put,zs1,zs2,zs3,zs4,zs5,zs6]
      refine wpAnyZ_takeC [] (i:=12) rfl (by kernel_rfl) (by kernel_rfl) (by kernel_rfl) (by kernel_rfl) (fun _ _ _ h=>h) (Or.inr ⟨by rfl,rfl⟩) hS ?_;try simp only [Act.put,zs1,zs2,zs3,zs4,zs5,zs6]
      refine wpAnyZ_takeC [] (i:=13) rfl (by kernel_rfl) (by kernel_rfl) (by kernel_rfl) (by kernel_rfl) (fun _ _ _ h=>h) (Or.inr ⟨by rfl,rfl⟩) hS ?_;try simp only [Act.put,zs1,zs2,zs3,zs4,zs5,zs6]
      refine wpAnyZ_takeC [] (i:=14) rfl (by kernel_rfl) (by kernel_rfl) (by kernel_rfl) (by kernel_rfl) (fun _ _ _ h=>h) (Or.inr ⟨by rfl,rfl⟩) hS ?_;try simp only [Act.put,zs1,zs2,zs3,zs4,zs5,zs6]
      refine wpAnyZ_takeC [] (i:=15) rfl (by kernel_rfl) (by kernel_rfl) (by kernel_rfl) (by kernel_rfl) (fun _ _ _ h=>h) (Or.inr ⟨by rfl,rfl⟩) hS ?_;try simp only [Act.put,zs1,zs2,zs3,zs4,zs5,zs6]
      refine wpAnyZ_takeC [] (i:=16) rfl (by kernel_rfl) (by kernel_rfl) (by kernel_rfl) (by kernel_rfl) (fun _ _ _ h=>h) (Or.inr ⟨by rfl,rfl⟩) hS ?_;try simp only [Act.put,zs1,zs2,zs3,zs4,zs5,zs6]
      refine wpAnyZ_takeC [] (i:=17) rfl (by kernel_rfl) (by kernel_rfl) (by kernel_rfl) (by kernel_rfl) (fun _ _ _ h=>h) (Or.inr ⟨by rfl,rfl⟩) hS ?_;try simp only [Act.put,zs1,zs2,zs3,zs4,zs5,zs6]
      refine wpAnyZ_takeC [] (i:=18) rfl (by kernel_rfl) (by kernel_rfl) (by kernel_rfl) (by kernel_rfl) (fun _ _ _ h=>h) (Or.inr ⟨by rfl,rfl⟩) hS ?_;try simp only [Act.put,zs1,zs2,zs3,zs4,zs5,zs6]
      refine wpAnyZ_takeC [] (i:=19) rfl (by kernel_rfl) (by kernel_rfl) (by kernel_rfl) (by kernel_rfl) (fun _ _ _ h=>h) (Or.inr ⟨by rfl,rfl⟩) hS ?_;try simp only [Act.put,zs1,zs2,zs3,zs4,zs5,zs6]
      refine wpAnyZ_takeC [] (i:=20) rfl (by kernel_rfl) (by kernel_rfl) (by kernel_rfl) (by kernel_rfl) (fun _ _ _ h=>h) (Or.inr ⟨by rfl,rfl⟩) hS ?_;try simp only [Act.put,zs1,zs2,zs3,zs4,zs5,zs6]
      refine wpAnyZ_takeC [] (i:=21) rfl (by kernel_rfl) (by kernel_rfl) (by kernel_rfl) (by kernel_rfl) (fun _ _ _ h=>h) (Or.inr ⟨by rfl,rfl⟩) hS ?_;try simp only [Act.put,zs1,zs2,zs3,zs4,zs5,zs6]
      refine wpAnyZ_takeC [] (i:=22) rfl (by kernel_rfl) (by kernel_rfl) (by kernel_rfl) (by kernel_rfl) (fun _ _ _ h=>h) (Or.inr ⟨by rfl,rfl⟩) hS ?_;try simp only [Act.put,zs1,zs2,zs3,zs4,zs5,zs6]
      refine wpAnyZ_takeC [] (i:=23) rfl (by kernel_rfl) (by kernel_rfl) (by kernel_rfl) (by kernel_rfl) (fun _ _ _ h=>h) (Or.inr ⟨by rfl,rfl⟩) hS ?_;try simp only [Act.put,zs1,zs2,zs3,zs4,zs5,zs6]
      refine wpAnyZ_takeC [] (i:=24) rfl (by kernel_rfl) (by kernel_rfl) (by kernel_rfl) (by kernel_rfl) (fun _ _ _ h=>h) (Or.inr ⟨by rfl,rfl⟩) hS ?_;try simp only [Act.put,zs1,zs2,zs3,zs4,zs5,zs6]
      refine wpAnyZ_takeC [] (i:=25) rfl (by kernel_rfl) (by kernel_rfl) (by kernel_rfl) (by kernel_rfl) (fun _ _ _ h=>h) (Or.inr ⟨by rfl,rfl⟩) hS ?_;try simp only [Act.put,zs1,zs2,zs3,zs4,zs5,zs6]
      refine wpAnyZ_takeC [] (i:=26) rfl (by kernel_rfl) (by kernel_rfl) (by kernel_rfl) (by kernel_rfl) (fun _ _ _ h=>h) (Or.inr ⟨by rfl,rfl⟩) hS ?_;try simp only [Act.put,zs1,zs2,zs3,zs4,zs5,zs6]
      refine wpAnyZ_takeC [] (i:=27) rfl (by kernel_rfl) (by kernel_rfl) (by kernel_rfl) (by kernel_rfl) (fun _ _ _ h=>h) (Or.inr ⟨by rfl,rfl⟩) hS ?_;try simp only [Act.put,zs1,zs2,zs3,zs4,zs5,zs6]
      refine wpAnyZ_takeC [] (i:=28) rfl (by kernel_rfl) (by kernel_rfl) (by kernel_rfl) (by kernel_rfl) (fun _ _ _ h=>h) (Or.inr ⟨by rfl,rfl⟩) hS ?_;try simp only [Act.put,zs1,zs2,zs3,zs4,zs5,zs6]
      refine wpAnyZ_takeC [] (i:=29) rfl (by kernel_rfl) (by kernel_rfl) (by kernel_rfl) (by kernel_rfl) (fun _ _ _ h=>h) (Or.inr ⟨by rfl,rfl⟩) hS ?_;try simp only [Act.put,zs1,zs2,zs3,zs4,zs5,zs6]
      refine wpAnyZ_takeC [] (i:=30) rfl (by kernel_rfl) (by kernel_rfl) (by kernel_rfl) (by kernel_rfl) (fun _ _ _ h=>h) (Or.inr ⟨by rfl,rfl⟩) hS ?_;try simp only [Act.put,zs1,zs2,zs3,zs4,zs5,zs6]
      refine wpAnyZ_takeC [] (i:=31) rfl (by kernel_rfl) (by kernel_rfl) (by kernel_rfl) (by kernel_rfl) (fun _ _ _ h=>h) (Or.inr ⟨by rfl,rfl⟩) hS ?_;try simp only [Act.put,zs1,zs2,zs3,zs4,zs5,zs6]
      refine wpAnyZ_takeC [] (i:=32) rfl (by kernel_rfl) (by kernel_rfl) (by kernel_rfl) (by kernel_rfl) (fun _ _ _ h=>h) (Or.inr ⟨by rfl,rfl⟩) hS ?_;try simp only [Act.put,zs1,zs2,zs3,zs4,zs5,zs6]
      refine wpAnyZ_takeC [] (i:=33) rfl (by kernel_rfl) (by kernel_rfl) (by kernel_rfl) (by kernel_rfl) (fun _ _ _ h=>h) (Or.inr ⟨by rfl,rfl⟩) hS ?_;try simp only [Act.put,zs1,zs2,zs3,zs4,zs5,zs6]
      refine wpAnyZ_takeC [] (i:=34) rfl (by kernel_rfl) (by kernel_rfl) (by kernel_rfl) (by kernel_rfl) (fun _ _ _ h=>h) (Or.inr ⟨by rfl,rfl⟩) hS ?_;try simp only [Act.put,zs1,zs2,zs3,zs4,zs5,zs6]
      refine wpAnyZ_takeC [] (i:=35) rfl (by kernel_rfl) (by kernel_rfl) (by kernel_rfl) (by kernel_rfl) (fun _ _ _ h=>h) (Or.inr ⟨by rfl,rfl⟩) hS ?_;try simp only [Act.put,zs1,zs2,zs3,zs4,zs5,zs6]
      refine wpAnyZ_takeC [] (i:=36) rfl (by kernel_rfl) (by kernel_rfl) (by kernel_rfl) (by kernel_rfl) (fun _ _ _ h=>h) (Or.inr ⟨by rfl,rfl⟩) hS ?_;try simp only [Act.put,zs1,zs2,zs3,zs4,zs5,zs6]
      refine wpAnyZ_takeC [] (i:=37) rfl (by kernel_rfl) (by kernel_rfl) (by kernel_rfl) (by kernel_rfl) (fun _ _ _ h=>h) (Or.inr ⟨by rfl,rfl⟩) hS ?_;try simp only [Act.put,zs1,zs2,zs3,zs4,zs5,zs6]
      refine wpAnyZ_takeC [] (i:=38) rfl (by kernel_rfl) (by kernel_rfl) (by kernel_rfl) (by kernel_rfl) (fun _ _ _ h=>h) (Or.inr ⟨by rfl,rfl⟩) hS ?_;try simp only [Act.put,zs1,zs2,zs3,zs4,zs5,zs6]
      refine wpAnyZ_takeC [] (i:=39) rfl (by kernel_rfl) (by kernel_rfl) (by kernel_rfl) (by kernel_rfl) (fun _ _ _ h=>h) (Or.inr ⟨by rfl,rfl⟩) hS ?_;try simp only [Act.put,zs1,zs2,zs3,zs4,zs5,zs6]
      refine wpAnyZ_takeC [] (i:=40) rfl (by kernel_rfl) (by kernel_rfl) (by kernel_rfl) (by kernel_rfl) (fun _ _ _ h=>h) (Or.inr ⟨by rfl,rfl⟩) hS ?_;try simp only [Act.put,zs1,zs2,zs3,zs4,zs5,zs6]
      refine wpAnyZ_takeC [] (i:=41) rfl (by kernel_rfl) (by kernel_rfl) (by kernel_rfl) (by kernel_rfl) (fun _ _ _ h=>h) (Or.inr ⟨by rfl,rfl⟩) hS ?_;try simp only [Act.put,zs1,zs2,zs3,zs4,zs5,zs6]
      refine wpAnyZ_takeC [] (i:=42) rfl (by kernel_rfl) (by kernel_rfl) (by kernel_rfl) (by kernel_rfl) (fun _ _ _ h=>h) (Or.inr ⟨by rfl,rfl⟩) hS ?_;try simp only [Act.put,zs1,zs2,zs3,zs4,zs5,zs6]
      refine wpAnyZ_takeC [] (i:=43) rfl (by kernel_rfl) (by kernel_rfl) (by kernel_rfl) (by kernel_rfl) (fun _ _ _ h=>h) (Or.inr ⟨by rfl,rfl⟩) hS ?_;try simp only [Act.put,zs1,zs2,zs3,zs4,zs5,zs6]
      refine wpAnyZ_takeC [] (i:=44) rfl (by kernel_rfl) (by kernel_rfl) (by kernel_rfl) (by kernel_rfl) (fun _ _ _ h=>h) (Or.inr ⟨by rfl,rfl⟩) hS ?_;try simp only [Act.put,zs1,zs2,zs3,zs4,zs5,zs6]
      refine wpAnyZ_takeC [] (i:=45) rfl (by kernel_rfl) (by kernel_rfl) (by kernel_rfl) (by kernel_rfl) (fun _ _ _ h=>h) (Or.inr ⟨by rfl,rfl⟩) hS ?_;try simp only [Act.put,zs1,zs2,zs3,zs4,zs5,zs6]
      refine wpAnyZ_takeC [] (i:=46) rfl (by kernel_rfl) (by kernel_rfl) (by kernel_rfl) (by kernel_rfl) (fun _ _ _ h=>h) (Or.inr ⟨by rfl,rfl⟩) hS ?_;try simp only [Act.put,zs1,zs2,zs3,zs4,zs5,zs6]
      refine wpAnyZ_takeC [] (i:=47) rfl (by kernel_rfl) (by kernel_rfl) (by kernel_rfl) (by kernel_rfl) (fun _ _ _ h=>h) (Or.inr ⟨by rfl,rfl⟩) hS ?_;try simp only [Act.put,zs1,zs2,zs3,zs4,zs5,zs6]
      refine wpAnyZ_takeC [] (i:=48) rfl (by kernel_rfl) (by kernel_rfl) (by kernel_rfl) (by kernel_rfl) (fun _ _ _ h=>h) (Or.inr ⟨by rfl,rfl⟩) hS ?_;try simp only [Act.put,zs1,zs2,zs3,zs4,zs5,zs6]
      refine wpAnyZ_takeC [] (i:=49) rfl (by kernel_rfl) (by kernel_rfl) (by kernel_rfl) (by kernel_rfl) (fun _ _ _ h=>h) (Or.inr ⟨by rfl,rfl⟩) hS ?_;try simp only [Act.put,zs1,zs2,zs3,zs4,zs5,zs6]
      refine wpAnyZ_takeC [] (i:=50) rfl (by kernel_rfl) (by kernel_rfl) (by kernel_rfl) (by kernel_rfl) (fun _ _ _ h=>h) (Or.inr ⟨by rfl,rfl⟩) hS ?_;try simp only [Act.put,zs1,zs2,zs3,zs4,zs5,zs6]
      refine tkZ [] 51 rfl hS ?_;try simp only [Act.put,zs1,zs2,zs3,zs4,zs5,zs6]
      refine wpAnyZ_done (by kernel_rfl) ?_ _;clear hS;go_wp2_with fail;go_roundw
      case rel=>exact ⟨k+1,by go_num,by omega,o4,r0,hm⟩
      case measure=>simp [intOf];omega
     ·have dik:((i:Int) != (k:Int))=true:=by simp;omega
      have hpr:=HPR.out hik;obtain ⟨P1,hP1⟩:∃ n,(red [] (a++b)).length=n:=⟨_,rfl⟩
      obtain ⟨P2,hP2⟩:∃ n,(red [] (a++invW b)).length=n:=⟨_,rfl⟩
      rw [hP1,hP2] at hpr;have dp1:decide ((P1:Int) < max (a.length:Int) (b.length:Int))=false:=decide_eq_false (by omega);have dp2:decide ((P2:Int) < max (a.length:Int) (b.length:Int))=false:=decide_eq_false (by omega);have HP1:=Lib.hid hP1;have HP2:=Lib.hid hP2;clear hpr hP1 hP2 HPR;refine tkZ [] 0 rfl hS ?_;try simp only [Act.put,zs1,zs2,zs3,zs4,zs5,zs6]
      refine tkZ [] 1 rfl hS ?_;try simp only [Act.put,zs1,zs2,zs3,zs4,zs5,zs6]
      refine tkZ [] 2 rfl hS ?_;try simp only [Act.put,zs1,zs2,zs3,zs4,zs5,zs6]
      refine tkZ [] 3 rfl hS ?_;try simp only [Act.put,zs1,zs2,zs3,zs4,zs5,zs6]
      refine tkZ [] 4 rfl hS ?_;try simp only [Act.put,zs1,zs2,zs3,zs4,zs5,zs6]
      refine tkZ [] 5 rfl hS ?_;try simp only [Act.put,zs1,zs2,zs3,zs4,zs5,zs6]
      refine tkZ [] 6 rfl hS ?_;try simp only [Act.put,zs1,zs2,zs3,zs4,zs5,zs6]
      refine tkZ [] 7 rfl hS ?_;try simp only [Act.put,zs1,zs2,zs3,zs4,zs5,zs6]
      refine tkZ [] 8 rfl hS ?_;try simp only [Act.put,zs1,zs2,zs3,zs4,zs5,zs6]
      refine tkZ [] 9 rfl hS ?_;try simp only [Act.put,zs1,zs2,zs3,zs4,zs5,zs6]
      refine tkZ [] 10 rfl hS ?_;try simp only [Act.put,zs1,zs2,zs3,zs4,zs5,zs6]
      refine tkZ [] 11 rfl hS ?_;try simp only [Act.put,zs1,zs2,zs3,zs4,zs5,zs6]
      refine tkZ [] 14 rfl hS ?_;try simp only [Act.put,zs1,zs2,zs3,zs4,zs5,zs6]
      refine tkZ [] 15 rfl hS ?_;try simp only [Act.put,zs1,zs2,zs3,zs4,zs5,zs6]
      refine tkZ [] 16 rfl hS ?_;try simp only [Act.put,zs1,zs2,zs3,zs4,zs5,zs6]
      refine tkZ [] 17 rfl hS ?_;try simp only [Act.put,zs1,zs2,zs3,zs4,zs5,zs6]
      refine tkZ [] 18 rfl hS ?_;try simp only [Act.put,zs1,zs2,zs3,zs4,zs5,zs6]
      refine tkZ [] 19 rfl hS ?_;try simp only [Act.put,zs1,zs2,zs3,zs4,zs5,zs6]
      refine tkZ [] 20 rfl hS ?_;try simp only [Act.put,zs1,zs2,zs3,zs4,zs5,zs6]
      refine tkZ [] 21 rfl hS ?_;try simp only [Act.put,zs1,zs2,zs3,zs4,zs5,zs6]
      refine tkZ [] 22 rfl hS ?_;try simp only [Act.put,zs1,zs2,zs3,zs4,zs5,zs6]
      refine tkZ [] 23 rfl hS ?_;try simp only [Act.put,zs1,zs2,zs3,zs4,zs5,zs6]
      refine tkZ [] 24 rfl hS ?_;try simp only [Act.put,zs1,zs2,zs3,zs4,zs5,zs6]
      have HZ:=Lib.hid (show Calls Tryz.prog 21 #[.slice Ai a.length ci,.slice Ak b.length ck] wz fun e w'=>∃ A2 c2,e=.returned (.slice A2 P1 c2)∧Mid 0 0 wz w' from (spec_MultiplyWordsE Ai Ak a b ci ck wz hra.rsS hrb.rsS HAB.out.1.ok HBB.out.1.ok (by have:=HAB.out.2.2;have:=HBB.out.2.2;omega)).mono fun e w' ⟨A2,c2,h1,h2,h3⟩=>⟨A2,c2,by rw [h1,HP1.out],Mid.of_below h3⟩);refine rdZ 12 rfl (fun K hK=>?_)
      (go_simp;(with_reducible refine (HZ.out).mono ?_);rintro en wz1 ⟨A12,c12,rfl,m12⟩;go_wp2_with fail)
      refine hK.out _ _ (Or.inr ⟨cell_keep m12 hbz oZr hS.1,cell_keep m12 hbz oZr hS.2⟩) (fun _=>?_);clear hK K;try simp only [Act.put,zs1,zs2,zs3,zs4,zs5,zs6]
      have hS1:wz1.cell? ⟨bq,off+i,none⟩=some (.slice Ai a.length ci)∧wz1.cell? ⟨bq,off+k,none⟩=some (.slice Ak b.length ck):=⟨cell_keep m12 hbz oZr hS.1,cell_keep m12 hbz oZr hS.2⟩
      have hbz1:bq < wz1.heap.size:=Nat.lt_of_lt_of_le hbz m12.size;replace o4:=o4.mid m12 oZl;replace r0:=r0.mid m12 oZl;replace hm:=hm.trans m12;replace hra:=hra.mid m12 oZl;replace hrb:=hrb.mid m12 oZl;clear m12 HZ hS;refine tkZ [] 13 rfl hS1 ?_;try simp only [Act.put,zs1,zs2,zs3,zs4,zs5,zs6]
      refine tkZ [] 25 rfl hS1 ?_;try simp only [Act.put,zs1,zs2,zs3,zs4,zs5,zs6]
      refine tkZ [] 26 rfl hS1 ?_;try simp only [Act.put,zs1,zs2,zs3,zs4,zs5,zs6]
      refine tkZ [] 27 rfl hS1 ?_;try simp only [Act.put,zs1,zs2,zs3,zs4,zs5,zs6]
      refine tkZ [] 28 rfl hS1 ?_;try simp only [Act.put,zs1,zs2,zs3,zs4,zs5,zs6]
      refine tkZ [] 29 rfl hS1 ?_;try simp only [Act.put,zs1,zs2,zs3,zs4,zs5,zs6]
      refine tkZ [] 30 rfl hS1 ?_;try simp only [Act.put,zs1,zs2,zs3,zs4,zs5,zs6]
      refine tkZ [] 31 rfl hS1 ?_;try simp only [Act.put,zs1,zs2,zs3,zs4,zs5,zs6]
      refine tkZ [] 32 rfl hS1 ?_;try simp only [Act.put,zs1,zs2,zs3,zs4,zs5,zs6]
      refine tkZ [] 33 rfl hS1 ?_;try simp only [Act.put,zs1,zs2,zs3,zs4,zs5,zs6]
      refine tkZ [] 34 rfl hS1 ?_;try simp only [Act.put,zs1,zs2,zs3,zs4,zs5,zs6]
      refine tkZ [] 38 rfl hS1 ?_;try simp only [Act.put,zs1,zs2,zs3,zs4,zs5,zs6]
      refine tkZ [] 39 rfl hS1 ?_;try simp only [Act.put,zs1,zs2,zs3,zs4,zs5,zs6]
      refine tkZ [] 40 rfl hS1 ?_;try simp only [Act.put,zs1,zs2,zs3,zs4,zs5,zs6]
      refine tkZ [] 41 rfl hS1 ?_;try simp only [Act.put,zs1,zs2,zs3,zs4,zs5,zs6]
      refine tkZ [] 42 rfl hS1 ?_;try simp only [Act.put,zs1,zs2,zs3,zs4,zs5,zs6]
      refine tkZ [] 43 rfl hS1 ?_;try simp only [Act.put,zs1,zs2,zs3,zs4,zs5,zs6]
      refine tkZ [] 44 rfl hS1 ?_;try simp only [Act.put,zs1,zs2,zs3,zs4,zs5,zs6]
      refine tkZ [] 45 rfl hS1 ?_;try simp only [Act.put,zs1,zs2,zs3,zs4,zs5,zs6]
      refine tkZ [] 46 rfl hS1 ?_;try simp only [Act.put,zs1,zs2,zs3,zs4,zs5,zs6]
      refine tkZ [] 47 rfl hS1 ?_;try simp only [Act.put,zs1,zs2,zs3,zs4,zs5,zs6]
      refine tkZ [] 48 rfl hS1 ?_;try simp only [Act.put,zs1,zs2,zs3,zs4,zs5,zs6]
      have HZ:=Lib.hid (show Calls Tryz.prog 22 #[.slice Ak b.length ck] wz1 fun e w'=>∃ A2 c2,e=.returned (.slice A2 b.length c2)∧RV w' 0 w'.heap.size A2 (ints (invW b))∧Mid 0 0 wz1 w' from (spec_InvertWordE Ak b ck wz1 hrb.rsS HBB.out.1.ok (by have:=HBB.out.2.2;omega)).mono fun e w' ⟨A2,c2,h1,h2,h3⟩=>⟨A2,c2,by rw [h1,invW_len],(owns_rv h2).wide (Nat.zero_le _) (Nat.le_refl _) (Nat.le_refl _),Mid.of_below h3⟩);refine rdZ 35 rfl (fun K hK=>?_)
      (go_simp;(with_reducible refine (HZ.out).mono ?_);rintro en wz2 ⟨A13,c13,rfl,rv13,m13⟩;go_wp2_with fail)
      refine hK.out _ _ (Or.inr ⟨cell_keep m13 hbz1 oZr hS1.1,cell_keep m13 hbz1 oZr hS1.2⟩) (fun _=>?_);clear hK K;try simp only [Act.put,zs1,zs2,zs3,zs4,zs5,zs6]
      have hS2:wz2.cell? ⟨bq,off+i,none⟩=some (.slice Ai a.length ci)∧wz2.cell? ⟨bq,off+k,none⟩=some (.slice Ak b.length ck):=⟨cell_keep m13 hbz1 oZr hS1.1,cell_keep m13 hbz1 oZr hS1.2⟩
      have hbz2:bq < wz2.heap.size:=Nat.lt_of_lt_of_le hbz1 m13.size;replace o4:=o4.mid m13 oZl;replace r0:=r0.mid m13 oZl;replace hm:=hm.trans m13;replace hra:=hra.mid m13 oZl;clear m13 HZ hS1 hrb;have HZ:=Lib.hid (show Calls Tryz.prog 21 #[.slice Ai a.length ci,.slice A13 b.length c13] wz2 fun e w'=>∃ A2 c2,e=.returned (.slice A2 P2 c2)∧Mid 0 0 wz2 w' from by
       have h:=spec_MultiplyWordsE Ai A13 a (invW b) ci c13 wz2 hra.rsS rv13.rsS HAB.out.1.ok HBB.out.1.inv.ok (by have:=HAB.out.2.2;have:=HBB.out.2.2;rw [invW_len];omega);rw [invW_len,HP2.out] at h;exact h.mono fun e w' ⟨A2,c2,h1,h2,h3⟩=>⟨A2,c2,h1,Mid.of_below h3⟩)
      refine rdZ 36 rfl (fun K hK=>?_)
      (go_simp;(with_reducible refine (HZ.out).mono ?_);rintro en wz3 ⟨A14,c14,rfl,m14⟩;go_wp2_with fail)
      refine hK.out _ _ (Or.inr ⟨cell_keep m14 hbz2 oZr hS2.1,cell_keep m14 hbz2 oZr hS2.2⟩) (fun _=>?_);clear hK K;try simp only [Act.put,zs1,zs2,zs3,zs4,zs5,zs6]
      have hS3:wz3.cell? ⟨bq,off+i,none⟩=some (.slice Ai a.length ci)∧wz3.cell? ⟨bq,off+k,none⟩=some (.slice Ak b.length ck):=⟨cell_keep m14 hbz2 oZr hS2.1,cell_keep m14 hbz2 oZr hS2.2⟩
      replace o4:=o4.mid m14 oZl;replace r0:=r0.mid m14 oZl;replace hm:=hm.trans m14;clear m14 HZ hS2 hra rv13;refine tkZ [] 37 rfl hS3 ?_;try simp only [Act.put,zs1,zs2,zs3,zs4,zs5,zs6]
      refine tkZ [] 49 rfl hS3 ?_;try simp only [Act.put,zs1,zs2,zs3,zs4,zs5,zs6]
      refine tkZ [] 50 rfl hS3 ?_;try simp only [Act.put,zs1,zs2,zs3,zs4,zs5,zs6]
      refine tkZ [] 51 rfl hS3 ?_;try simp only [Act.put,zs1,zs2,zs3,zs4,zs5,zs6]
      refine wpAnyZ_done (by kernel_rfl) ?_ _;clear hS3;go_wp2_with fail;go_roundw
      case rel=>exact ⟨k+1,by go_num,by omega,o4,r0,hm⟩
      case measure=>simp [intOf];omega
    ·obtain rfl:k=y.length:=by omega
     go_wp2_with fail;go_roundw
     case rel=>exact ⟨i+1,by go_num,by omega,o4,r0,hm⟩
     case measure=>simp [intOf];omega
  ·obtain rfl:i=y.length:=by omega
   clear o4 HOK HLS HOY HNY HSY HML HMO HSL HSY2 HRK HRP HFT HYX hi0;go_wp2_with fail;with_reducible refine (DrawApplyMove_any A0 d0 c0 _ _ _o0 hl0 r0).mono ?_
   rintro e wa61 ⟨B1,k1,l1,ma,mb,mj,ms1,rfl,hlw,hmv,p1,m⟩;replace r0:=r0.mid m oZl;replace hm:=hm.trans m;clear m;have HS1:=Lib.hid hlw.sml;obtain ⟨x1,t1,hx1⟩:∃ x t,applyM l1 ⟨ma,mb,mj,ms1⟩=(x,t):=⟨_,_,rfl⟩
   have HX1:=Lib.hid hx1;have HSX1:Hid (Sml x1):=Lib.hid (by have:=applyM_sml hlw.sml (by have:=hlw.sum;omega) ⟨ma,mb,mj,ms1⟩;rw [hx1] at this;exact this);clear hlw hmv hx1;have al:=Mid.alloc wa61 (.cells #[.int .i64 ma,.int .i64 mb,.int .i64 mj,.int .i64 ms1] 48);have BM:=Box.new wa61 #[.int .i64 ma,.int .i64 mb,.int .i64 mj,.int .i64 ms1] 48;obtain ⟨nBM,hnBM⟩:∃ g,wa61.heap.size=g:=⟨_,rfl⟩
   replace r0:=r0.mid al oZl;replace p1:=p1.mid al oZl;replace hm:=hm.trans al;rw [hnBM] at BM;obtain ⟨wBM,hwBM⟩:∃ x,wa61.alloc (.cells #[.int .i64 ma,.int .i64 mb,.int .i64 mj,.int .i64 ms1] 48)=x:=⟨_,rfl⟩
   rw [hwBM] at r0 p1 BM hm;clear al;have BMl:=BM.1;have BM0:=BM.cell 0 rfl;have BM1:=BM.cell 1 rfl;have BM2:=BM.cell 2 rfl;have BM3:=BM.cell 3 rfl;go_wp2_with fail;clear BMl BM0 BM1 BM2 BM3 hnBM hwBM;with_reducible refine (impl_ApplyMoveY B1 l1 k1 ma mb mj ms1 _ _ _ p1.rss HS1.out.oki HS1.out.len x1 t1 HX1.out).mono ?_
   rintro e wa62 ⟨B2,k2,rfl,p2,m⟩;replace r0:=r0.mid m oZl;replace p1:=p1.mid m oZl;replace BM:=BM.mid m oZr;replace hm:=hm.trans m;clear m;have BMl:=BM.1;have BM0:=BM.cell 0 rfl;have BM1:=BM.cell 1 rfl;have BM2:=BM.cell 2 rfl;have BM3:=BM.cell 3 rfl;go_wp2_with fail;clear BMl BM0 BM1 BM2 BM3;with_reducible refine (spec_ApplyMoveY B1 l1 k1 ma mb mj ms1 _ _ _ p1.rss HS1.out.oki HS1.out.len x1 t1 HX1.out).mono ?_
   rintro e wa63 ⟨B3,k3,rfl,p3,m⟩;replace r0:=r0.mid m oZl;replace p1:=p1.mid m oZl;replace p2:=p2.mid m oZl;replace BM:=BM.mid m oZr;replace hm:=hm.trans m;clear m;go_wp2_with fail;with_reducible refine (DrawNextMove_l A0 d0 c0 _ _ _o0 hl0 r0).mono ?_
   rintro e wa64 ⟨B4,k4,l2,rfl,hlw,p4,m⟩;replace r0:=r0.mid m oZl;replace p1:=p1.mid m oZl;replace p2:=p2.mid m oZl;replace p3:=p3.mid m oZl;replace BM:=BM.mid m oZr;replace hm:=hm.trans m;clear m;have HS2:=Lib.hid hlw.sml;obtain ⟨⟨na,nb,nj,ns⟩,nt,hnm⟩:=NextMoveIs_ex l2 HS2.out.ok HS2.out.len;have HNM:=Lib.hid hnm;clear hlw hnm HX1 HS1;clear p1 BM;go_wp2_with fail;with_reducible refine (simpl_NextMove B4 l2 k4 _ _ _ p4 HS2.out.ok HS2.out.len ⟨na,nb,nj,ns⟩ nt HNM.out).mono ?_
   rintro e wa65 ⟨rfl,m⟩;replace r0:=r0.mid m oZl;replace p2:=p2.mid m oZl;replace p3:=p3.mid m oZl;replace p4:=p4.mid m oZl;replace hm:=hm.trans m;clear m;have al:=Mid.alloc wa65 (.cells #[.int .i64 na,.int .i64 nb,.int .i64 nj,.int .i64 ns] 48);have BF:=Box.new wa65 #[.int .i64 na,.int .i64 nb,.int .i64 nj,.int .i64 ns] 48;obtain ⟨nBF,hnBF⟩:∃ g,wa65.heap.size=g:=⟨_,rfl⟩
   replace r0:=r0.mid al oZl;replace p2:=p2.mid al oZl;replace p3:=p3.mid al oZl;replace p4:=p4.mid al oZl;replace hm:=hm.trans al;rw [hnBF] at BF;obtain ⟨wBF,hwBF⟩:∃ x,wa65.alloc (.cells #[.int .i64 na,.int .i64 nb,.int .i64 nj,.int .i64 ns] 48)=x:=⟨_,rfl⟩
   rw [hwBF] at r0 p2 p3 p4 BF hm;clear al;go_wp2_with fail;clear hnBF hwBF;with_reducible refine (sspec_NextMove B4 l2 k4 _ _ _ p4 HS2.out.ok HS2.out.len ⟨na,nb,nj,ns⟩ nt HNM.out).mono ?_
   rintro e wa66 ⟨rfl,m⟩;replace r0:=r0.mid m oZl;replace p2:=p2.mid m oZl;replace p3:=p3.mid m oZl;replace p4:=p4.mid m oZl;replace BF:=BF.mid m oZr;replace hm:=hm.trans m;clear m;have al:=Mid.alloc wa66 (.cells #[.int .i64 na,.int .i64 nb,.int .i64 nj,.int .i64 ns] 48);have BG:=Box.new wa66 #[.int .i64 na,.int .i64 nb,.int .i64 nj,.int .i64 ns] 48;obtain ⟨nBG,hnBG⟩:∃ g,wa66.heap.size=g:=⟨_,rfl⟩
   replace r0:=r0.mid al oZl;replace p2:=p2.mid al oZl;replace p3:=p3.mid al oZl;replace p4:=p4.mid al oZl;replace BF:=BF.mid al oZr;replace hm:=hm.trans al;rw [hnBG] at BG;obtain ⟨wBG,hwBG⟩:∃ x,wa66.alloc (.cells #[.int .i64 na,.int .i64 nb,.int .i64 nj,.int .i64 ns] 48)=x:=⟨_,rfl⟩
   rw [hwBG] at r0 p2 p3 p4 BF BG hm;clear al;clear p4;go_wp2_with fail;clear hnBG hwBG;with_reducible refine (DrawIsNielsenReduced_any A0 d0 c0 _ _ _o0 hl0 r0).mono ?_
   rintro e wa67 ⟨B5,k5,l3,l0,rfl,hlw,hnr,p5,m⟩;replace r0:=r0.mid m oZl;replace p2:=p2.mid m oZl;replace p3:=p3.mid m oZl;replace BF:=BF.mid m oZr;replace BG:=BG.mid m oZr;replace hm:=hm.trans m;clear m;have HS3:=Lib.hid (drawn_nr hlw hnr);obtain ⟨bn,hbn⟩:=IsNielsenReducedIs_ex l3 HS3.out.ok HS3.out.len;have HBN:=Lib.hid hbn;clear hlw hnr hbn HNM HS2;go_wp2_with fail;with_reducible refine (DrawReplayMoves_any A0 d0 c0 _ _ _o0 hl0 r0).mono ?_
   rintro e wa68 ⟨B6,k6,l4,B7,k7,qs,rfl,hlw,hqs,p6,p7,m⟩;replace r0:=r0.mid m oZl;replace p2:=p2.mid m oZl;replace p3:=p3.mid m oZl;replace p5:=p5.mid m oZl;replace BF:=BF.mid m oZr;replace BG:=BG.mid m oZr;replace hm:=hm.trans m;clear m;have HS4:=Lib.hid hlw.sml;have HF4:=Lib.hid (drawn_fit hlw hqs.1);have hql:qs.length≤1048576:=by have:=hqs.1;omega
   obtain ⟨x4,t4,hx4⟩:∃ x t,replayM l4 qs l4=(x,t):=⟨_,_,rfl⟩
   have HX4:=Lib.hid hx4;have HSX4:Hid (Sml x4):=Lib.hid (by have:=replay_sml l4 HS4.out qs l4 HS4.out.oki HF4.out;rw [hx4] at this;exact this);clear hlw hqs hx4;go_wp2_with fail;with_reducible refine (impl_ReplayMoves B6 l4 k6 B7 qs k7 _ _ _ _ _ p6.rss p7 hql HS4.out.ok HS4.out.len HF4.out x4 t4 HX4.out).mono ?_
   rintro e wa69 ⟨B8,k8,rfl,p8,m⟩;replace r0:=r0.mid m oZl;replace p2:=p2.mid m oZl;replace p3:=p3.mid m oZl;replace p5:=p5.mid m oZl;replace p6:=p6.mid m oZl;replace p7:=p7.mid m oZl;replace BF:=BF.mid m oZr;replace BG:=BG.mid m oZr;replace hm:=hm.trans m;clear m;go_wp2_with fail;with_reducible refine (spec_ReplayMoves B6 l4 k6 B7 qs k7 _ _ _ _ _ p6.rss p7 hql HS4.out.ok HS4.out.len HF4.out x4 t4 HX4.out).mono ?_
   rintro e wa70 ⟨B9,k9,rfl,p9,m⟩;replace r0:=r0.mid m oZl;replace p2:=p2.mid m oZl;replace p3:=p3.mid m oZl;replace p5:=p5.mid m oZl;replace p6:=p6.mid m oZl;replace p7:=p7.mid m oZl;replace p8:=p8.mid m oZl;replace BF:=BF.mid m oZr;replace BG:=BG.mid m oZr;replace hm:=hm.trans m;clear m;clear p6 p7;clear HS4 HF4 HX4 hql;go_wp2_with fail;with_reducible refine (DrawCompareNielsen_any A0 d0 c0 _ _ _o0 hl0 r0).mono ?_
   rintro e wa71 ⟨B10,k10,us,B11,k11,vs,rfl,hu,hv,p10,p11,m⟩;replace r0:=r0.mid m oZl;replace p2:=p2.mid m oZl;replace p3:=p3.mid m oZl;replace p5:=p5.mid m oZl;replace p8:=p8.mid m oZl;replace p9:=p9.mid m oZl;replace BF:=BF.mid m oZr;replace BG:=BG.mid m oZr;replace hm:=hm.trans m;clear m;have HU:=Lib.hid hu.2;have HV:=Lib.hid hv.2;have hul:us.length≤1048576:=by have:=hu.1;omega
   have hvl:vs.length≤1048576:=by have:=hv.1;omega
   obtain ⟨z,y1,hz1,hz2,hy1,hy2,hzy⟩:=cmpN_two hu.2 hv.2;have HZ1:=Lib.hid hz1;have HZ2:=Lib.hid hz2;have hwz:IntKind.i64.wrap (-y1)=z:=by rw [hzy];exact IntWalk.i64_in _ (by omega)
   clear hu hv hz1 hz2 hzy;go_wp2_with fail;with_reducible refine (DrawFormatMoves_any A0 d0 c0 _ _ _o0 hl0 r0).mono ?_
   rintro e wa72 ⟨B12,k12,fs,rfl,hfs,p12,m⟩;replace r0:=r0.mid m oZl;replace p2:=p2.mid m oZl;replace p3:=p3.mid m oZl;replace p5:=p5.mid m oZl;replace p8:=p8.mid m oZl;replace p9:=p9.mid m oZl;replace p10:=p10.mid m oZl;replace p11:=p11.mid m oZl;replace BF:=BF.mid m oZr;replace BG:=BG.mid m oZr;replace hm:=hm.trans m;clear m;have HFS:=Lib.hid (drawn_mv hfs.2);have hfl:fs.length≤1048576:=by have:=hfs.1;omega
   obtain ⟨fx,hfx⟩:=FormatMovesIs_ex fs HFS.out hfl;have HFX:=Lib.hid hfx;clear hfs hfx;go_wp2_with fail;with_reducible refine (sameWords_eq B2 x1 k2 B3 k3 _ _ _ _ _ p2.rss p3.rss HSX1.out.cnt HSX1.out.row).mono ?_
   rintro e wa73 ⟨rfl,m⟩;replace r0:=r0.mid m oZl;replace p2:=p2.mid m oZl;replace p3:=p3.mid m oZl;replace p5:=p5.mid m oZl;replace p8:=p8.mid m oZl;replace p9:=p9.mid m oZl;replace p10:=p10.mid m oZl;replace p11:=p11.mid m oZl;replace p12:=p12.mid m oZl;replace BF:=BF.mid m oZr;replace BG:=BG.mid m oZr;replace hm:=hm.trans m;clear m;clear p2 p3;have BFl:=BF.1;have BF0:=BF.cell 0 rfl;have BF1:=BF.cell 1 rfl;have BF2:=BF.cell 2 rfl;have BF3:=BF.cell 3 rfl;have BGl:=BG.1;have BG0:=BG.cell 0 rfl;have BG1:=BG.cell 1 rfl;have BG2:=BG.cell 2 rfl;have BG3:=BG.cell 3 rfl;go_wp2_with fail;clear BFl BF0 BF1 BF2 BF3 BGl BG0 BG1 BG2 BG3;with_reducible refine (simpl_IsNielsenReduced B5 l3 k5 _ _ _ p5 HS3.out.ok HS3.out.len bn HBN.out).mono ?_
   rintro e wa74 ⟨rfl,m⟩;replace r0:=r0.mid m oZl;replace p5:=p5.mid m oZl;replace p8:=p8.mid m oZl;replace p9:=p9.mid m oZl;replace p10:=p10.mid m oZl;replace p11:=p11.mid m oZl;replace p12:=p12.mid m oZl;replace BF:=BF.mid m oZr;replace BG:=BG.mid m oZr;replace hm:=hm.trans m;clear m;clear BF BG;go_wp2_with fail;with_reducible refine (sspec_IsNielsenReduced B5 l3 k5 _ _ _ p5 HS3.out.ok HS3.out.len bn HBN.out).mono ?_
   rintro e wa75 ⟨rfl,m⟩;replace r0:=r0.mid m oZl;replace p5:=p5.mid m oZl;replace p8:=p8.mid m oZl;replace p9:=p9.mid m oZl;replace p10:=p10.mid m oZl;replace p11:=p11.mid m oZl;replace p12:=p12.mid m oZl;replace hm:=hm.trans m;clear m;clear p5;go_wp2_with fail;with_reducible refine (sameWords_eq B8 x4 k8 B9 k9 _ _ _ _ _ p8.rss p9.rss HSX4.out.cnt HSX4.out.row).mono ?_
   rintro e wa76 ⟨rfl,m⟩;replace r0:=r0.mid m oZl;replace p8:=p8.mid m oZl;replace p9:=p9.mid m oZl;replace p10:=p10.mid m oZl;replace p11:=p11.mid m oZl;replace p12:=p12.mid m oZl;replace hm:=hm.trans m;clear m;clear p8 p9;go_wp2_with fail;with_reducible refine (simpl_CompareNielsen B10 us k10 B11 vs k11 _ _ _ p10 HU.out hul _ _ p11 HV.out hvl z HZ1.out).mono ?_
   rintro e wa77 ⟨rfl,m⟩;replace r0:=r0.mid m oZl;replace p10:=p10.mid m oZl;replace p11:=p11.mid m oZl;replace p12:=p12.mid m oZl;replace hm:=hm.trans m;clear m;go_wp2_with fail;with_reducible refine (sspec_CompareNielsen B10 us k10 B11 vs k11 _ _ _ p10 HU.out hul _ _ p11 HV.out hvl z HZ1.out).mono ?_
   rintro e wa78 ⟨rfl,m⟩;replace r0:=r0.mid m oZl;replace p10:=p10.mid m oZl;replace p11:=p11.mid m oZl;replace p12:=p12.mid m oZl;replace hm:=hm.trans m;clear m;go_wp2_with fail;with_reducible refine (simpl_CompareNielsen B10 us k10 B11 vs k11 _ _ _ p10 HU.out hul _ _ p11 HV.out hvl z HZ1.out).mono ?_
   rintro e wa79 ⟨rfl,m⟩;replace r0:=r0.mid m oZl;replace p10:=p10.mid m oZl;replace p11:=p11.mid m oZl;replace p12:=p12.mid m oZl;replace hm:=hm.trans m;clear m;go_wp2_with fail;with_reducible refine (simpl_CompareNielsen B11 vs k11 B10 us k10 _ _ _ p11 HV.out hvl _ _ p10 HU.out hul y1 HZ2.out).mono ?_
   rintro e wa80 ⟨rfl,m⟩;replace r0:=r0.mid m oZl;replace p10:=p10.mid m oZl;replace p11:=p11.mid m oZl;replace p12:=p12.mid m oZl;replace hm:=hm.trans m;clear m;clear p10 p11;go_wp2_with fail;with_reducible refine (simpl_FormatMoves B12 fs k12 _ _ _ p12 HFS.out hfl fx HFX.out).mono ?_
   rintro e wa81 ⟨rfl,m⟩;replace r0:=r0.mid m oZl;replace p12:=p12.mid m oZl;replace hm:=hm.trans m;clear m;go_wp2_with fail;with_reducible refine (sspec_FormatMoves B12 fs k12 _ _ _ p12 HFS.out hfl fx HFX.out).mono ?_
   rintro e wa82 ⟨rfl,m⟩;replace r0:=r0.mid m oZl;replace p12:=p12.mid m oZl;replace hm:=hm.trans m;clear m;have hb9:=hm.bel;rw [← hL0] at hb9;go_wp2_with fail;go_ret;exact ⟨rfl,hb9⟩
end Go.Proofs.YtkimajabegojoaaGreat