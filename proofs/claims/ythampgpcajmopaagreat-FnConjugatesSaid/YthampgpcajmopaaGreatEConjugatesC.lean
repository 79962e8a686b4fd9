
import Derived.Test.YthampgpcajmopaaGreatCj14
import Derived.Test.YthampgpcajmopaaGreatCj11
import Derived.Test.YthampgpcajmopaaGreatCj7
import Derived.Test.YthampgpcajmopaaGreatCj4
import Derived.Test.YthampgpcajmopaaGreatCj2
import Derived.Deep.DeepCutAuto
import Derived.Deep.CutRange
namespace Go.Proofs.YthampgpcajmopaaGreat
set_option maxHeartbeats 40000000
set_option maxRecDepth 100000
open Go.RowKit
set_option linter.unusedVariables false
set_option linter.unusedSimpArgs false
theorem walk_Conjugates (A0:Option Addr) (d0:List Int) (c0:Nat) (w:World) (r0:RV w 0 w.heap.size A0 (byts d0)) (_o0:OkB d0) (_l0:d0.length≤9223372036854775807) :
  Calls Tryz.prog 4 #[.slice A0 d0.length c0] w fun e w'=>e=.returned (.bool true)∧Below w.heap.size w w':=by
 by_cases hbig:decide ((d0.length:Int) > 1048576)=true
 ·go_enter Tryz.func4,Tryz.ntmps4
  go_wp2_with fail;with_reducible refine (big_any A0 d0.length c0 w).mono ?_
  rintro e w1 ⟨rfl,rfl⟩;rw [hbig];go_wp2_with fail;go_ret;exact ⟨rfl,Below.refl _ _⟩
 have hl0:d0.length≤1048576:=by simp at hbig;omega
 have hbig2:decide ((d0.length:Int) > 1048576)=false:=by simpa using hbig
 clear hbig _l0;obtain ⟨L0,hL0⟩:∃ n,n=w.heap.size:=⟨_,rfl⟩
 rw [← hL0];have hm:=Mid.refl 0 0 w;go_enter Tryz.func4,Tryz.ntmps4
 go_wp2_with fail;with_reducible refine (big_any A0 d0.length c0 w).mono ?_
 rintro e w1 ⟨rfl,rfl⟩;rw [hbig2];go_wp2_with fail;with_reducible refine (DrawConjugateSubgroup_any A0 d0 c0 _ _ _o0 hl0 r0).mono ?_
 rintro e wa1 ⟨r,s,A1,c1,es,Aw,cw,xs,rfl,dg,dx,o1,ow,m⟩;replace r0:=r0.mid m oZl;replace hm:=hm.trans m;clear m;have hl1:es.length≤1048576:=by have:=dg.len;omega
 have hlx:xs.length≤5:=by have:=dx.1;omega
 have HLU:=Lib.hid dx.2.1;have HOX:=Lib.hid dx.2.1.ok;clear dg dx;obtain ⟨rr,rs,res,b,hci⟩:=ConjugateSubgroupIs_ex r s es xs hl1 HOX.out (by omega);have hl2:=ConjugateSubgroupIs_len hci hl1 HOX.out (by omega);have HCI:=Lib.hid hci;clear hci;have al:=Mid.alloc wa1 (.cells #[.int .i64 r,.int .i64 s,.slice A1 es.length c1] 26);have B3:=Box.new wa1 #[.int .i64 r,.int .i64 s,.slice A1 es.length c1] 26;obtain ⟨nB3,hnB3⟩:∃ g,wa1.heap.size=g:=⟨_,rfl⟩
 replace r0:=r0.mid al oZl;replace o1:=o1.mid al oZl;replace ow:=ow.mid al oZl;replace hm:=hm.trans al;rw [hnB3] at B3;obtain ⟨wB3,hwB3⟩:∃ x,wa1.alloc (.cells #[.int .i64 r,.int .i64 s,.slice A1 es.length c1] 26)=x:=⟨_,rfl⟩
 rw [hwB3] at r0 o1 ow B3 hm;clear al;have B3l:=B3.1;have B30:=B3.cell 0 rfl;have B31:=B3.cell 1 rfl;have B32:=B3.cell 2 rfl;go_wp2_with fail;clear B3l B30 B31 B32 hnB3 hwB3;with_reducible refine (simpl_ConjugateSubgroup r s A1 es c1 Aw xs cw _ _ _ o1 hl1 _ _ ow HOX.out (by omega) rr rs res b HCI.out).mono ?_
 rintro e wa2 ⟨A2,c2,rfl,o2,m⟩;replace r0:=r0.mid m oZl;replace o1:=o1.mid m oZl;replace ow:=ow.mid m oZl;replace B3:=B3.mid m oZr;replace hm:=hm.trans m;clear m;have al:=Mid.alloc wa2 (.cells #[.int .i64 rr,.int .i64 rs,.slice A2 res.length c2] 26);have B5:=Box.new wa2 #[.int .i64 rr,.int .i64 rs,.slice A2 res.length c2] 26;obtain ⟨nB5,hnB5⟩:∃ g,wa2.heap.size=g:=⟨_,rfl⟩
 replace r0:=r0.mid al oZl;replace o1:=o1.mid al oZl;replace ow:=ow.mid al oZl;replace o2:=o2.mid al oZl;replace B3:=B3.mid al oZr;replace hm:=hm.trans al;rw [hnB5] at B5;obtain ⟨wB5,hwB5⟩:∃ x,wa2.alloc (.cells #[.int .i64 rr,.int .i64 rs,.slice A2 res.length c2] 26)=x:=⟨_,rfl⟩
 rw [hwB5] at r0 o1 ow o2 B3 B5 hm;clear al;have B3l:=B3.1;have B30:=B3.cell 0 rfl;have B31:=B3.cell 1 rfl;have B32:=B3.cell 2 rfl;go_wp2_with fail;clear B3l B30 B31 B32 hnB5 hwB5;with_reducible refine (sspec_ConjugateSubgroup r s A1 es c1 Aw xs cw _ _ _ o1 hl1 _ _ ow HOX.out (by omega) rr rs res b HCI.out).mono ?_
 rintro e wa3 ⟨A3,c3,rfl,o3,m⟩;replace r0:=r0.mid m oZl;replace o1:=o1.mid m oZl;replace ow:=ow.mid m oZl;replace o2:=o2.mid m oZl;replace B3:=B3.mid m oZr;replace B5:=B5.mid m oZr;replace hm:=hm.trans m;clear m;have al:=Mid.alloc wa3 (.cells #[.int .i64 rr,.int .i64 rs,.slice A3 res.length c3] 26);have B7:=Box.new wa3 #[.int .i64 rr,.int .i64 rs,.slice A3 res.length c3] 26;obtain ⟨nB7,hnB7⟩:∃ g,wa3.heap.size=g:=⟨_,rfl⟩
 replace r0:=r0.mid al oZl;replace o1:=o1.mid al oZl;replace ow:=ow.mid al oZl;replace o2:=o2.mid al oZl;replace o3:=o3.mid al oZl;replace B3:=B3.mid al oZr;replace B5:=B5.mid al oZr;replace hm:=hm.trans al;rw [hnB7] at B7;obtain ⟨wB7,hwB7⟩:∃ x,wa3.alloc (.cells #[.int .i64 rr,.int .i64 rs,.slice A3 res.length c3] 26)=x:=⟨_,rfl⟩
 rw [hwB7] at r0 o1 ow o2 o3 B3 B5 B7 hm;clear al;have B5l:=B5.1;have B50:=B5.cell 0 rfl;have B51:=B5.cell 1 rfl;have B52:=B5.cell 2 rfl;have B7l:=B7.1;have B70:=B7.cell 0 rfl;have B71:=B7.cell 1 rfl;have B72:=B7.cell 2 rfl;go_wp2_with fail;clear B5l B50 B51 B52 B7l B70 B71 B72 hnB7 hwB7;with_reducible refine (spec_EqualGraphs rr rs A2 res c2 rr rs A3 res c3 _ _ _ _ _ (OG.rg o2) (OG.rg o3) hl2 hl2 true (by simp)).mono ?_
 rintro e wa4 ⟨rfl,m⟩;replace r0:=r0.mid m oZl;replace o1:=o1.mid m oZl;replace ow:=ow.mid m oZl;replace o2:=o2.mid m oZl;replace o3:=o3.mid m oZl;replace B3:=B3.mid m oZr;replace B5:=B5.mid m oZr;replace B7:=B7.mid m oZr;replace hm:=hm.trans m;clear m;go_upto_if 60 with fail
 go_cut [2] from 3 to 193 (fun v wx=>RV wx 0 w.heap.size A0 (byts d0)∧Mid 0 0 w wx)
 case first =>
  have hc1:=o1.cnt.1;have hc3:=o3.cnt.1;cases b with
  | false =>
   go_wp2_with fail;go_meet
   case rel=>exact ⟨r0,hm⟩
  | true =>
   have hcf:=cj_facts HCI.out;obtain rfl:=hcf.rr';have HKC:=Lib.hid hcf.cor;have HC1:=Lib.hid hcf.c1;have HCJ:=Lib.hid hcf.cj;have hrk2:=hcf.rank;have hix2:=hcf.ix;clear hcf HCI HOX;obtain ⟨l,hl4⟩:∃ l,basA rr es=l:=⟨_,rfl⟩
   have HCW:Hid (CwAll l res xs):=Lib.hid (hl4 ▸ cwAll HC1.out HLU.out HCJ.out);have hl120:=HCW.out.1;have HL4:=Lib.hid hl4;clear hl4;obtain ⟨rk,hrk⟩:∃ x,rankI rr s es=x:=⟨_,rfl⟩
   obtain ⟨ix,hix⟩:∃ x,ixI rr s es=x:=⟨_,rfl⟩
   rw [hrk] at hrk2;rw [hix] at hix2;have HRK:=Lib.hid hrk;have HRK2:=Lib.hid hrk2;have HIX:=Lib.hid hix;have HIX2:=Lib.hid hix2;clear hrk hrk2 hix hix2;obtain ⟨wd,b2,hac⟩:=AcIs_ex rr s es rr rs res;obtain rfl:b2=true:=ac_found HLU.out HCJ.out HC1.out HKC.out hac;have HAC:=Lib.hid hac;clear hac HCJ;have B3l:=B3.1;have B30:=B3.cell 0 rfl;have B31:=B3.cell 1 rfl;have B32:=B3.cell 2 rfl;go_wp2_with fail;clear B3l B30 B31 B32;with_reducible refine (spec_BasisOfL rr s A1 es c1 _ _ _ (OG.rg o1) HC1.out l HL4.out).mono ?_
   rintro e wa5 ⟨A4,c4,rfl,o4,m⟩;replace r0:=r0.mid m oZl;replace o1:=o1.mid m oZl;replace ow:=ow.mid m oZl;replace o2:=o2.mid m oZl;replace o3:=o3.mid m oZl;replace B3:=B3.mid m oZr;replace B5:=B5.mid m oZr;replace B7:=B7.mid m oZr;replace hm:=hm.trans m;clear m;clear o2 B5;replace o1:=o1.wide (Nat.zero_le _) o1.size (Nat.le_refl _);replace o3:=o3.wide (Nat.zero_le _) o3.size (Nat.le_refl _);replace ow:=ow.wide (Nat.zero_le _) ow.size (Nat.le_refl _);replace o4:=o4.wide (Nat.zero_le _) (by have:=o4.rss;exact o4.1) (Nat.le_refl _);obtain ⟨hL,hhL⟩:∃ x,x=wa5.heap.size:=⟨_,rfl⟩
   rw [← hhL] at o1 o3 ow o4;clear hhL;go_wp2_with fail;go_loopw [10] (fun iv wr=>∃ i:Nat,iv=.int .i64 i∧i≤l.length∧Box wr nB3 [.int .i64 rr,.int .i64 s,.slice A1 es.length c1]∧Box wr nB7 [.int .i64 rr,.int .i64 rs,.slice A3 res.length c3]∧OG wr 0 hL A1 c1 es∧OG wr 0 hL A3 c3 res∧OI wr 0 hL Aw cw xs∧OSS wr 0 hL 34 3 A4 c4 l∧RV wr 0 w.heap.size A0 (byts d0)∧Mid 0 0 w wr) (fun iv _=>l.length - (intOf iv).toNat)
   case atStart=>exact ⟨0,by go_num,Nat.zero_le _,B3,B7,o1,o3,ow,o4,r0,hm⟩
   case round =>
    clear B3 B7 o1 o3 ow o4 r0 hm;obtain ⟨i,rfl,hi,B3,B7,o1,o3,ow,o4,r0,hm⟩:=hrel;have hi0:(0:Int)≤(i:Int):=by omega
    by_cases hlt:i < l.length
    ·have hlt2:(i:Int) < (l.length:Int):=by omega
     obtain ⟨bq,off,Ax,cx,x,hAl, -,hbq,hx,hcx,hrx⟩:=o4.rss.row hlt;obtain ⟨hx1,hx2,hx3⟩:=HCW.out.2 x (List.mem_of_getElem? hx);have HOX2:=Lib.hid hx2;have HIN:=Lib.hid hx3;have hbw:bq < wr.heap.size:=Nat.lt_of_lt_of_le hbq o4.rss.size;subst hAl;clear hx hx2 hx3;go_upto_region 13 with fail
     have hmd:=Mid.drew1 wr;have hcd:=cell_keep hmd hbw oZr hcx;replace hrx:=hrx.mid hmd oZl;replace hbw:=Nat.lt_of_lt_of_le hbw hmd.size;replace r0:=r0.mid hmd oZl;replace o1:=o1.mid hmd oZl;replace ow:=ow.mid hmd oZl;replace o3:=o3.mid hmd oZl;replace o4:=o4.mid hmd oZl;replace B3:=B3.mid hmd oZr;replace B7:=B7.mid hmd oZr;replace hm:=hm.trans hmd;clear hmd hcx;have q0:=B7.cell 0 rfl;have q1:=B7.cell 1 rfl;have q2:=B7.cell 2 rfl;refine wp_region_Z (S:=(fun w'=>(w'.cell? ⟨nB7,0,none⟩=some (.int .i64 rr)∧w'.cell? ⟨nB7,1,none⟩=some (.int .i64 rs)∧w'.cell? ⟨nB7,2,none⟩=some (.slice A3 res.length c3))∧w'.cell? ⟨bq,off+i,none⟩=some (.slice Ax x.length cx))) [] (by kernel_rfl) ⟨⟨q0,q1,q2⟩,hcd⟩ ?_;generalize World.drew wr=wz at B3 B7 o1 o3 ow o4 r0 hm hrx hbw hcd q0 q1 q2 ⊢;have hS:(wz.cell? ⟨nB7,0,none⟩=some (.int .i64 rr)∧wz.cell? ⟨nB7,1,none⟩=some (.int .i64 rs)∧wz.cell? ⟨nB7,2,none⟩=some (.slice A3 res.length c3))∧wz.cell? ⟨bq,off+i,none⟩=some (.slice Ax x.length cx):=⟨⟨q0,q1,q2⟩,hcd⟩
     refine tkZ [] 0 rfl hS ?_;try simp only [Act.put,zs1,zs2,zs3,zs4,zs5,zs6]
     refine tkZ [] 1 rfl hS ?_;try simp only [Act.put,zs1,zs2,zs3,zs4,zs5,zs6]
     refine tkZ [] 2 rfl hS ?_;try simp only [Act.put,zs1,zs2,zs3,zs4,zs5,zs6]
     refine tkZ [] 3 rfl hS ?_;try simp only [Act.put,zs1,zs2,zs3,zs4,zs5,zs6]
     refine tkZ [] 4 rfl hS ?_;try simp only [Act.put,zs1,zs2,zs3,zs4,zs5,zs6]
     refine tkZ [] 5 rfl hS ?_;try simp only [Act.put,zs1,zs2,zs3,zs4,zs5,zs6]
     clear hS q0 q1 q2;obtain ⟨y,hy⟩:∃ y,cwR x xs=y:=⟨_,rfl⟩
     have hru:=OV.rv ow;have HC1:=Lib.hid (spec_ConjugateWordV Ax x cx Aw xs cw wz _ _ _ _ hrx hru HOX2.out (ltW_okI HLU.out) (invW_okI HLU.out) (by omega) (by omega) y hy);have hyl:y.length≤1048576:=by have:=cwR_len x xs;rw [hy] at this;omega
     have HOY:Hid (OkI y):=Lib.hid (by rw [← hy];exact cwR_ok HOX2.out (ltW_okI HLU.out) (invW_okI HLU.out));have HIY:Hid (InS res y):=Lib.hid (by rw [← hy];exact HIN.out);clear hy HIN HOX2 hru;refine rdZ 6 rfl (fun K hK=>?_)
     (go_simp;(with_reducible refine (HC1.out).mono ?_);rintro en wA ⟨Ay,cy,rfl,oy,mA⟩;have Bt:=B7.mid mA oZr;have hcA:=cell_keep mA hbw oZr hcd;go_wp2_with fail)
     refine hK.out _ _ (Or.inr ⟨⟨Bt.cell 0 rfl,Bt.cell 1 rfl,Bt.cell 2 rfl⟩,hcA⟩) (fun _=>?_);clear hK K;try simp only [Act.put,zs1,zs2,zs3,zs4,zs5,zs6]
     replace r0:=r0.mid mA oZl;replace o1:=o1.mid mA oZl;replace ow:=ow.mid mA oZl;replace o3:=o3.mid mA oZl;replace o4:=o4.mid mA oZl;replace B3:=B3.mid mA oZr;replace B7:=B7.mid mA oZr;replace hm:=hm.trans mA;replace hbw:=Nat.lt_of_lt_of_le hbw mA.size;clear Bt mA HC1 hcd;have hry:=OV.rv oy;have HC2:=Lib.hid (impl_Contains rr rs A3 res c3 Ay y cy wA _ _ _ _ (OG.rg o3) hry hl2 hc3 hyl HOY.out true (iff_of_true rfl ⟨HKC.out,HIY.out⟩));refine rdZ 7 rfl (fun K hK=>?_)
     (go_simp;(with_reducible refine (HC2.out).mono ?_);rintro en wB ⟨rfl,mB⟩;have Bt:=B7.mid mB oZr;have hcB:=cell_keep mB hbw oZr hcA;go_wp2_with fail)
     refine hK.out _ _ (Or.inr ⟨⟨Bt.cell 0 rfl,Bt.cell 1 rfl,Bt.cell 2 rfl⟩,hcB⟩) (fun _=>?_);clear hK K;try simp only [Act.put,zs1,zs2,zs3,zs4,zs5,zs6]
     replace r0:=r0.mid mB oZl;replace o1:=o1.mid mB oZl;replace ow:=ow.mid mB oZl;replace o3:=o3.mid mB oZl;replace o4:=o4.mid mB oZl;replace B3:=B3.mid mB oZr;replace B7:=B7.mid mB oZr;replace hm:=hm.trans mB;refine tkZ [] 8 rfl (And.intro (And.intro (B7.cell 0 rfl) (And.intro (B7.cell 1 rfl) (B7.cell 2 rfl))) hcB) ?_;try simp only [Act.put,zs1,zs2,zs3,zs4,zs5,zs6]
     refine wpAnyZ_done (by kernel_rfl) ?_ _;clear Bt mB HC2 hcA hcB oy hry HOY HIY hyl;go_wp2_with fail;go_roundw
     case rel=>exact ⟨i+1,by go_num,by omega,B3,B7,o1,o3,ow,o4,r0,hm⟩
     case measure=>simp [intOf];omega
    ·have hlt2:¬ (i:Int) < (l.length:Int):=by omega
     go_upto_region 15 with fail
     have B30:=wg_cell B3.1 (B3.cell 0 rfl);have B31:=wg_cell B3.1 (B3.cell 1 rfl);have B32:=wg_cell B3.1 (B3.cell 2 rfl);have B70:=wg_cell B7.1 (B7.cell 0 rfl);have B71:=wg_cell B7.1 (B7.cell 1 rfl);have B72:=wg_cell B7.1 (B7.cell 2 rfl);have hq0:=fun m os=>impl_RankOfV rr rs A3 res c3 (wg wr m os) _ _ (OG.rg (o3.mid (Mid.ofWg wr m os) oZl)) hl2 hc3 rk HRK2.out;have hq1:=fun m os=>spec_RankOfV rr s A1 es c1 (wg wr m os) _ _ (OG.rg (o1.mid (Mid.ofWg wr m os) oZl)) hl1 rk HRK.out;have hq2:=fun m os=>impl_IndexOfV rr rs A3 res c3 (wg wr m os) _ _ (OG.rg (o3.mid (Mid.ofWg wr m os) oZl)) hl2 hc3 ix HIX2.out;have hq3:=fun m os=>spec_IndexOfV rr s A1 es c1 (wg wr m os) _ _ (OG.rg (o1.mid (Mid.ofWg wr m os) oZl)) hl1 ix HIX.out;refine wp_region_quiet_wg (by kernel_rfl) (by kernel_rfl) ?_;repeat
      (with_reducible refine wpQuiet_step (fun K hK=>?_))
      go_simp
      first
       | ((with_reducible refine hK _ ?_);clear hK K)
       | (rw [if_neg (by decide)];(with_reducible refine hK _ ?_);clear hK K)
       | (apply Exists.intro;refine ⟨fun _=>?_,hK _ ?_⟩;((first | (go_at_call 18;with_reducible exact Calls.wg_of (hq0 _ _)) | (go_at_call 19;with_reducible exact Calls.wg_of (hq1 _ _)) | (go_at_call 32;with_reducible exact Calls.wg_of (hq2 _ _)) | (go_at_call 33;with_reducible exact Calls.wg_of (hq3 _ _))));clear hK K)
     with_reducible refine wpQuiet_nil ?_
     intro _ hw';obtain ⟨⟨nq,osq⟩,hw''⟩:=hw';subst hw'';have hwg:=Mid.ofWg wr nq osq;generalize wg wr nq osq=wq at hwg ⊢;replace r0:=r0.mid hwg oZl;replace o1:=o1.mid hwg oZl;replace ow:=ow.mid hwg oZl;replace o3:=o3.mid hwg oZl;replace o4:=o4.mid hwg oZl;replace B3:=B3.mid hwg oZr;replace B7:=B7.mid hwg oZr;replace hm:=hm.trans hwg;clear hwg hq0 hq1 hq2 hq3 B30 B31 B32 B70 B71 B72;have B3l:=B3.1;have B30:=B3.cell 0 rfl;have B31:=B3.cell 1 rfl;have B32:=B3.cell 2 rfl;have B7l:=B7.1;have B70:=B7.cell 0 rfl;have B71:=B7.cell 1 rfl;have B72:=B7.cell 2 rfl;go_wp2_with fail;clear B3l B30 B31 B32 B7l B70 B71 B72;with_reducible refine (impl_AreConjugateSubgroups rr s A1 es c1 rr rs A3 res c3 _ _ _ _ _ (OG.rg o1) (OG.rg o3) hl1 hl2 hc1 hc3 wd true HAC.out).mono ?_
     rintro e wa106 ⟨A5,c5,rfl,o5,m⟩;replace r0:=r0.mid m oZl;replace o1:=o1.mid m oZl;replace ow:=ow.mid m oZl;replace o3:=o3.mid m oZl;replace o4:=o4.mid m oZl;replace B3:=B3.mid m oZr;replace B7:=B7.mid m oZr;replace hm:=hm.trans m;clear m;clear o5;go_wp2_with fail;go_meet
     case rel=>exact ⟨r0,hm⟩
 case rest =>
 clear o1 o2 o3 ow B3 B5 B7 r0 hm HCI HLU HOX hl1 hl2 hlx;obtain ⟨r0,hm⟩:=hcut;go_wp2_with fail;with_reducible refine (DrawAreConjugateSubgroups_any A0 d0 c0 _ _ _o0 hl0 r0).mono ?_
 rintro e wa21 ⟨r,s,A1,c1,es,r2,s2,A2,c2,es2,rfl,dg,dg2,o1,o2,m⟩;replace r0:=r0.mid m oZl;replace hm:=hm.trans m;clear m;have hl1:es.length≤1048576:=by have:=dg.len;omega
 have hl2:es2.length≤1048576:=by have:=dg2.len;omega
 clear dg dg2;have hc1:=o1.cnt.1;have hc2:=o2.cnt.1;obtain ⟨wd,b,hac⟩:=AcIs_ex r s es r2 s2 es2;have hlw:=ac_len hac;have HAC:=Lib.hid hac;clear hac;have al:=Mid.alloc wa21 (.cells #[.int .i64 r,.int .i64 s,.slice A1 es.length c1] 26);have BA:=Box.new wa21 #[.int .i64 r,.int .i64 s,.slice A1 es.length c1] 26;obtain ⟨nBA,hnBA⟩:∃ g,wa21.heap.size=g:=⟨_,rfl⟩
 replace r0:=r0.mid al oZl;replace o1:=o1.mid al oZl;replace o2:=o2.mid al oZl;replace hm:=hm.trans al;rw [hnBA] at BA;obtain ⟨wBA,hwBA⟩:∃ x,wa21.alloc (.cells #[.int .i64 r,.int .i64 s,.slice A1 es.length c1] 26)=x:=⟨_,rfl⟩
 rw [hwBA] at r0 o1 o2 BA hm;clear al;have hzBA:wBA.heap.size=nBA+1:=by rw [← hwBA,World.size_alloc,hnBA]
 have al:=Mid.alloc wBA (.cells #[.int .i64 r2,.int .i64 s2,.slice A2 es2.length c2] 26);have BB:=Box.new wBA #[.int .i64 r2,.int .i64 s2,.slice A2 es2.length c2] 26;replace r0:=r0.mid al oZl;replace o1:=o1.mid al oZl;replace o2:=o2.mid al oZl;replace BA:=BA.mid al oZr;replace hm:=hm.trans al;rw [hzBA] at BB;obtain ⟨wBB,hwBB⟩:∃ x,wBA.alloc (.cells #[.int .i64 r2,.int .i64 s2,.slice A2 es2.length c2] 26)=x:=⟨_,rfl⟩
 rw [hwBB] at r0 o1 o2 BA BB hm;clear al;have BAl:=BA.1;have BA0:=BA.cell 0 rfl;have BA1:=BA.cell 1 rfl;have BA2:=BA.cell 2 rfl;have BBl:=BB.1;have BB0:=BB.cell 0 rfl;have BB1:=BB.cell 1 rfl;have BB2:=BB.cell 2 rfl;go_wp2_with fail;clear BAl BA0 BA1 BA2 BBl BB0 BB1 BB2 hnBA hwBA hzBA hwBB;with_reducible refine (impl_AreConjugateSubgroups r s A1 es c1 r2 s2 A2 es2 c2 _ _ _ _ _ (OG.rg o1) (OG.rg o2) hl1 hl2 hc1 hc2 wd b HAC.out).mono ?_
 rintro e wa22 ⟨Aw,cw,rfl,ow,m⟩;replace r0:=r0.mid m oZl;replace o1:=o1.mid m oZl;replace o2:=o2.mid m oZl;replace BA:=BA.mid m oZr;replace BB:=BB.mid m oZr;replace hm:=hm.trans m;clear m;have BAl:=BA.1;have BA0:=BA.cell 0 rfl;have BA1:=BA.cell 1 rfl;have BA2:=BA.cell 2 rfl;have BBl:=BB.1;have BB0:=BB.cell 0 rfl;have BB1:=BB.cell 1 rfl;have BB2:=BB.cell 2 rfl;go_wp2_with fail;clear BAl BA0 BA1 BA2 BBl BB0 BB1 BB2;with_reducible refine (spec_AreConjugateSubgroups r s A1 es c1 r2 s2 A2 es2 c2 _ _ _ _ _ (OG.rg o1) (OG.rg o2) hl1 hl2 wd b HAC.out).mono ?_
 rintro e wa23 ⟨Ay,cy,rfl,oy,m⟩;replace r0:=r0.mid m oZl;replace o1:=o1.mid m oZl;replace o2:=o2.mid m oZl;replace ow:=ow.mid m oZl;replace BA:=BA.mid m oZr;replace BB:=BB.mid m oZr;replace hm:=hm.trans m;clear m;have hrw:=OI.ri ow;have hry:=OI.ri oy;go_wp2_with fail;with_reducible refine (sameInts_eq Aw wd cw Ay cy _ _ _ _ _ hrw hry (by omega)).mono ?_
 rintro e wa24 ⟨rfl,m⟩;replace r0:=r0.mid m oZl;replace o1:=o1.mid m oZl;replace o2:=o2.mid m oZl;replace ow:=ow.mid m oZl;replace oy:=oy.mid m oZl;replace BA:=BA.mid m oZr;replace BB:=BB.mid m oZr;replace hm:=hm.trans m;clear m;clear hrw hry;go_upto_if 124 with fail
 go_cut [2] from 3 to 193 (fun v wx=>RV wx 0 w.heap.size A0 (byts d0)∧Mid 0 0 w wx)
 case first =>
  cases b with
  | false =>
   go_wp2_with fail;go_meet
   case rel=>exact ⟨r0,hm⟩
  | true =>
   obtain ⟨hk1,hk2,rfl,hlu, -, -,hcj,hrk2⟩:=ac_facts HAC.out;have HKC:=Lib.hid hk2;have HC1:=Lib.hid hk1;have HLU:=Lib.hid hlu;obtain ⟨l,hl4⟩:∃ l,basA r es=l:=⟨_,rfl⟩
   have HCW:Hid (CwAll l es2 wd):=Lib.hid (hl4 ▸ cwAll hk1 hlu hcj);have hl120:=HCW.out.1;have HL4:=Lib.hid hl4;clear hl4 hk1 hk2 hlu hcj HAC;obtain ⟨rk,hrk⟩:∃ x,rankI r s es=x:=⟨_,rfl⟩
   rw [hrk] at hrk2;have HRK:=Lib.hid hrk;have HRK2:=Lib.hid hrk2.symm;clear hrk hrk2;have BAl:=BA.1;have BA0:=BA.cell 0 rfl;have BA1:=BA.cell 1 rfl;have BA2:=BA.cell 2 rfl;go_wp2_with fail;clear BAl BA0 BA1 BA2;with_reducible refine (spec_BasisOfL r s A1 es c1 _ _ _ (OG.rg o1) HC1.out l HL4.out).mono ?_
   rintro e wa25 ⟨A4,c4,rfl,o4,m⟩;replace r0:=r0.mid m oZl;replace o1:=o1.mid m oZl;replace o2:=o2.mid m oZl;replace ow:=ow.mid m oZl;replace oy:=oy.mid m oZl;replace BA:=BA.mid m oZr;replace BB:=BB.mid m oZr;replace hm:=hm.trans m;clear m;clear oy;replace o1:=o1.wide (Nat.zero_le _) o1.size (Nat.le_refl _);replace o2:=o2.wide (Nat.zero_le _) o2.size (Nat.le_refl _);replace ow:=ow.wide (Nat.zero_le _) ow.size (Nat.le_refl _);replace o4:=o4.wide (Nat.zero_le _) (by have:=o4.rss;exact o4.1) (Nat.le_refl _);obtain ⟨hL,hhL⟩:∃ x,x=wa25.heap.size:=⟨_,rfl⟩
   rw [← hhL] at o1 o2 ow o4;clear hhL;go_wp2_with fail;go_loopw [20] (fun iv wr=>∃ i:Nat,iv=.int .i64 i∧i≤l.length∧Box wr nBA [.int .i64 r,.int .i64 s,.slice A1 es.length c1]∧Box wr (nBA+1) [.int .i64 r,.int .i64 s2,.slice A2 es2.length c2]∧OG wr 0 hL A1 c1 es∧OG wr 0 hL A2 c2 es2∧OI wr 0 hL Aw cw wd∧OSS wr 0 hL 34 3 A4 c4 l∧RV wr 0 w.heap.size A0 (byts d0)∧Mid 0 0 w wr) (fun iv _=>l.length - (intOf iv).toNat)
   case atStart=>exact ⟨0,by go_num,Nat.zero_le _,BA,BB,o1,o2,ow,o4,r0,hm⟩
   case round =>
    clear BA BB o1 o2 ow o4 r0 hm;obtain ⟨i,rfl,hi,BA,BB,o1,o2,ow,o4,r0,hm⟩:=hrel;have hi0:(0:Int)≤(i:Int):=by omega
    by_cases hlt:i < l.length
    ·have hlt2:(i:Int) < (l.length:Int):=by omega
     obtain ⟨bq,off,Ax,cx,x,hAl, -,hbq,hx,hcx,hrx⟩:=o4.rss.row hlt;obtain ⟨hx1,hx2,hx3⟩:=HCW.out.2 x (List.mem_of_getElem? hx);have HOX2:=Lib.hid hx2;have HIN:=Lib.hid hx3;have hbw:bq < wr.heap.size:=Nat.lt_of_lt_of_le hbq o4.rss.size;subst hAl;clear hx hx2 hx3;go_upto_region 30 with fail
     have hmd:=Mid.drew1 wr;have hcd:=cell_keep hmd hbw oZr hcx;replace hrx:=hrx.mid hmd oZl;replace hbw:=Nat.lt_of_lt_of_le hbw hmd.size;replace r0:=r0.mid hmd oZl;replace o1:=o1.mid hmd oZl;replace o2:=o2.mid hmd oZl;replace ow:=ow.mid hmd oZl;replace o4:=o4.mid hmd oZl;replace BA:=BA.mid hmd oZr;replace BB:=BB.mid hmd oZr;replace hm:=hm.trans hmd;clear hmd hcx;have q0:=BB.cell 0 rfl;have q1:=BB.cell 1 rfl;have q2:=BB.cell 2 rfl;refine wp_region_Z (S:=(fun w'=>(w'.cell? ⟨nBA+1,0,none⟩=some (.int .i64 r)∧w'.cell? ⟨nBA+1,1,none⟩=some (.int .i64 s2)∧w'.cell? ⟨nBA+1,2,none⟩=some (.slice A2 es2.length c2))∧w'.cell? ⟨bq,off+i,none⟩=some (.slice Ax x.length cx))) [] (by kernel_rfl) ⟨⟨q0,q1,q2⟩,hcd⟩ ?_;generalize World.drew wr=wz at BA BB o1 o2 ow o4 r0 hm hrx hbw hcd q0 q1 q2 ⊢;have hS:(wz.cell? ⟨nBA+1,0,none⟩=some (.int .i64 r)∧wz.cell? ⟨nBA+1,1,none⟩=some (.int .i64 s2)∧wz.cell? ⟨nBA+1,2,none⟩=some (.slice A2 es2.length c2))∧wz.cell? ⟨bq,off+i,none⟩=some (.slice Ax x.length cx):=⟨⟨q0,q1,q2⟩,hcd⟩
     refine tkZ [] 0 rfl hS ?_;try simp only [Act.put,zs1,zs2,zs3,zs4,zs5,zs6]
     refine tkZ [] 1 rfl hS ?_;try simp only [Act.put,zs1,zs2,zs3,zs4,zs5,zs6]
     refine tkZ [] 2 rfl hS ?_;try simp only [Act.put,zs1,zs2,zs3,zs4,zs5,zs6]
     refine tkZ [] 3 rfl hS ?_;try simp only [Act.put,zs1,zs2,zs3,zs4,zs5,zs6]
     refine tkZ [] 4 rfl hS ?_;try simp only [Act.put,zs1,zs2,zs3,zs4,zs5,zs6]
     refine tkZ [] 5 rfl hS ?_;try simp only [Act.put,zs1,zs2,zs3,zs4,zs5,zs6]
     clear hS q0 q1 q2;obtain ⟨y,hy⟩:∃ y,cwR x wd=y:=⟨_,rfl⟩
     have hru:=OV.rv ow;have HC1:=Lib.hid (spec_ConjugateWordV Ax x cx Aw wd cw wz _ _ _ _ hrx hru HOX2.out (ltW_okI HLU.out) (invW_okI HLU.out) (by omega) (by omega) y hy);have hyl:y.length≤1048576:=by have:=cwR_len x wd;rw [hy] at this;omega
     have HOY:Hid (OkI y):=Lib.hid (by rw [← hy];exact cwR_ok HOX2.out (ltW_okI HLU.out) (invW_okI HLU.out));have HIY:Hid (InS es2 y):=Lib.hid (by rw [← hy];exact HIN.out);clear hy HIN HOX2 hru;refine rdZ 6 rfl (fun K hK=>?_)
     (go_simp;(with_reducible refine (HC1.out).mono ?_);rintro en wA ⟨Ay,cy,rfl,oy,mA⟩;have Bt:=BB.mid mA oZr;have hcA:=cell_keep mA hbw oZr hcd;go_wp2_with fail)
     refine hK.out _ _ (Or.inr ⟨⟨Bt.cell 0 rfl,Bt.cell 1 rfl,Bt.cell 2 rfl⟩,hcA⟩) (fun _=>?_);clear hK K;try simp only [Act.put,zs1,zs2,zs3,zs4,zs5,zs6]
     replace r0:=r0.mid mA oZl;replace o1:=o1.mid mA oZl;replace o2:=o2.mid mA oZl;replace ow:=ow.mid mA oZl;replace o4:=o4.mid mA oZl;replace BA:=BA.mid mA oZr;replace BB:=BB.mid mA oZr;replace hm:=hm.trans mA;replace hbw:=Nat.lt_of_lt_of_le hbw mA.size;clear Bt mA HC1 hcd;have hry:=OV.rv oy;have HC2:=Lib.hid (impl_Contains r s2 A2 es2 c2 Ay y cy wA _ _ _ _ (OG.rg o2) hry hl2 hc2 hyl HOY.out true (iff_of_true rfl ⟨HKC.out,HIY.out⟩));refine rdZ 7 rfl (fun K hK=>?_)
     (go_simp;(with_reducible refine (HC2.out).mono ?_);rintro en wB ⟨rfl,mB⟩;have Bt:=BB.mid mB oZr;have hcB:=cell_keep mB hbw oZr hcA;go_wp2_with fail)
     refine hK.out _ _ (Or.inr ⟨⟨Bt.cell 0 rfl,Bt.cell 1 rfl,Bt.cell 2 rfl⟩,hcB⟩) (fun _=>?_);clear hK K;try simp only [Act.put,zs1,zs2,zs3,zs4,zs5,zs6]
     replace r0:=r0.mid mB oZl;replace o1:=o1.mid mB oZl;replace o2:=o2.mid mB oZl;replace ow:=ow.mid mB oZl;replace o4:=o4.mid mB oZl;replace BA:=BA.mid mB oZr;replace BB:=BB.mid mB oZr;replace hm:=hm.trans mB;refine tkZ [] 8 rfl (And.intro (And.intro (BB.cell 0 rfl) (And.intro (BB.cell 1 rfl) (BB.cell 2 rfl))) hcB) ?_;try simp only [Act.put,zs1,zs2,zs3,zs4,zs5,zs6]
     refine wpAnyZ_done (by kernel_rfl) ?_ _;clear Bt mB HC2 hcA hcB oy hry HOY HIY hyl;go_wp2_with fail;go_roundw
     case rel=>exact ⟨i+1,by go_num,by omega,BA,BB,o1,o2,ow,o4,r0,hm⟩
     case measure=>simp [intOf];omega
    ·have hlt2:¬ (i:Int) < (l.length:Int):=by omega
     go_upto_region 32 with fail
     have BA0:=wg_cell BA.1 (BA.cell 0 rfl);have BA1:=wg_cell BA.1 (BA.cell 1 rfl);have BA2:=wg_cell BA.1 (BA.cell 2 rfl);have BB0:=wg_cell BB.1 (BB.cell 0 rfl);have BB1:=wg_cell BB.1 (BB.cell 1 rfl);have BB2:=wg_cell BB.1 (BB.cell 2 rfl);have hq0:=fun m os=>spec_RankOfV r s A1 es c1 (wg wr m os) _ _ (OG.rg (o1.mid (Mid.ofWg wr m os) oZl)) hl1 rk HRK.out;have hq1:=fun m os=>spec_RankOfV r s2 A2 es2 c2 (wg wr m os) _ _ (OG.rg (o2.mid (Mid.ofWg wr m os) oZl)) hl2 rk HRK2.out;refine wp_region_quiet_wg (by kernel_rfl) (by kernel_rfl) ?_;repeat
      (with_reducible refine wpQuiet_step (fun K hK=>?_))
      go_simp
      first
       | ((with_reducible refine hK _ ?_);clear hK K)
       | (rw [if_neg (by decide)];(with_reducible refine hK _ ?_);clear hK K)
       | (apply Exists.intro;refine ⟨fun _=>?_,hK _ ?_⟩;((first | (go_at_call 19;with_reducible exact Calls.wg_of (hq0 _ _)) | (go_at_call 19;with_reducible exact Calls.wg_of (hq1 _ _))));clear hK K)
     with_reducible refine wpQuiet_nil ?_
     intro _ hw';obtain ⟨⟨nq,osq⟩,hw''⟩:=hw';subst hw'';have hwg:=Mid.ofWg wr nq osq;generalize wg wr nq osq=wq at hwg ⊢;replace r0:=r0.mid hwg oZl;replace o1:=o1.mid hwg oZl;replace o2:=o2.mid hwg oZl;replace ow:=ow.mid hwg oZl;replace o4:=o4.mid hwg oZl;replace BA:=BA.mid hwg oZr;replace BB:=BB.mid hwg oZr;replace hm:=hm.trans hwg;clear hwg hq0 hq1 BA0 BA1 BA2 BB0 BB1 BB2;go_wp2_with fail;go_meet
     case rel=>exact ⟨r0,hm⟩
 case rest =>
 clear o1 o2 ow oy BA BB r0 hm HAC hl1 hl2 hlw hc1 hc2;obtain ⟨r0,hm⟩:=hcut;go_wp2_with fail;with_reducible refine (DrawMoveBase_any A0 d0 c0 _ _ _o0 hl0 r0).mono ?_
 rintro e wa41 ⟨r,s,A1,c1,es,v,rfl,dg,hv,o1,m⟩;replace r0:=r0.mid m oZl;replace hm:=hm.trans m;clear m;have hl1:es.length≤1048576:=by have:=dg.len;omega
 clear dg;have hc1:=o1.cnt.1;obtain ⟨rs,res,b,hci⟩:=MoveIs_ex r s es v;have hl2:=hci.ql hl1;have HCI:=Lib.hid hci;clear hci;have al:=Mid.alloc wa41 (.cells #[.int .i64 r,.int .i64 s,.slice A1 es.length c1] 26);have B21:=Box.new wa41 #[.int .i64 r,.int .i64 s,.slice A1 es.length c1] 26;obtain ⟨nB21,hnB21⟩:∃ g,wa41.heap.size=g:=⟨_,rfl⟩
 replace r0:=r0.mid al oZl;replace o1:=o1.mid al oZl;replace hm:=hm.trans al;rw [hnB21] at B21;obtain ⟨wB21,hwB21⟩:∃ x,wa41.alloc (.cells #[.int .i64 r,.int .i64 s,.slice A1 es.length c1] 26)=x:=⟨_,rfl⟩
 rw [hwB21] at r0 o1 B21 hm;clear al;have B21l:=B21.1;have B210:=B21.cell 0 rfl;have B211:=B21.cell 1 rfl;have B212:=B21.cell 2 rfl;go_wp2_with fail;clear B21l B210 B211 B212 hnB21 hwB21;with_reducible refine (impl_MoveBase r s A1 es c1 v _ _ _ (OG.rg o1) hl1 hc1 (by omega) rs res b HCI.out).mono ?_
 rintro e wa42 ⟨A2,c2,rfl,o2,m⟩;replace r0:=r0.mid m oZl;replace o1:=o1.mid m oZl;replace B21:=B21.mid m oZr;replace hm:=hm.trans m;clear m;have al:=Mid.alloc wa42 (.cells #[.int .i64 r,.int .i64 rs,.slice A2 res.length c2] 26);have B23:=Box.new wa42 #[.int .i64 r,.int .i64 rs,.slice A2 res.length c2] 26;obtain ⟨nB23,hnB23⟩:∃ g,wa42.heap.size=g:=⟨_,rfl⟩
 replace r0:=r0.mid al oZl;replace o1:=o1.mid al oZl;replace o2:=o2.mid al oZl;replace B21:=B21.mid al oZr;replace hm:=hm.trans al;rw [hnB23] at B23;obtain ⟨wB23,hwB23⟩:∃ x,wa42.alloc (.cells #[.int .i64 r,.int .i64 rs,.slice A2 res.length c2] 26)=x:=⟨_,rfl⟩
 rw [hwB23] at r0 o1 o2 B21 B23 hm;clear al;have B21l:=B21.1;have B210:=B21.cell 0 rfl;have B211:=B21.cell 1 rfl;have B212:=B21.cell 2 rfl;go_wp2_with fail;clear B21l B210 B211 B212 hnB23 hwB23;with_reducible refine (spec_MoveBase r s A1 es c1 v _ _ _ (OG.rg o1) hl1 (by omega) rs res b HCI.out).mono ?_
 rintro e wa43 ⟨A3,c3,rfl,o3,m⟩;replace r0:=r0.mid m oZl;replace o1:=o1.mid m oZl;replace o2:=o2.mid m oZl;replace B21:=B21.mid m oZr;replace B23:=B23.mid m oZr;replace hm:=hm.trans m;clear m;have al:=Mid.alloc wa43 (.cells #[.int .i64 r,.int .i64 rs,.slice A3 res.length c3] 26);have B25:=Box.new wa43 #[.int .i64 r,.int .i64 rs,.slice A3 res.length c3] 26;obtain ⟨nB25,hnB25⟩:∃ g,wa43.heap.size=g:=⟨_,rfl⟩
 replace r0:=r0.mid al oZl;replace o1:=o1.mid al oZl;replace o2:=o2.mid al oZl;replace o3:=o3.mid al oZl;replace B21:=B21.mid al oZr;replace B23:=B23.mid al oZr;replace hm:=hm.trans al;rw [hnB25] at B25;obtain ⟨wB25,hwB25⟩:∃ x,wa43.alloc (.cells #[.int .i64 r,.int .i64 rs,.slice A3 res.length c3] 26)=x:=⟨_,rfl⟩
 rw [hwB25] at r0 o1 o2 o3 B21 B23 B25 hm;clear al;clear o1;go_wp2_with fail;clear hnB25 hwB25;with_reducible refine (DrawCyclicGraph_any A0 d0 c0 _ _ _o0 hl0 r0).mono ?_
 rintro e wa44 ⟨r5,s5,A5,c5,es5,rfl,dg,o5,m⟩;replace r0:=r0.mid m oZl;replace o2:=o2.mid m oZl;replace o3:=o3.mid m oZl;replace B21:=B21.mid m oZr;replace B23:=B23.mid m oZr;replace B25:=B25.mid m oZr;replace hm:=hm.trans m;clear m;have hl5:es5.length≤1048576:=by have:=dg.len;omega
 clear dg;have hc5:=o5.cnt.1;obtain ⟨⟨⟨s6,es6⟩,tl⟩,hq⟩:=CycIs_ex r5 s5 es5;obtain ⟨hl6,hl7⟩:=hq.ql hl5;simp only at hl6 hl7;have HQ:=Lib.hid hq;clear hq;have al:=Mid.alloc wa44 (.cells #[.int .i64 r5,.int .i64 s5,.slice A5 es5.length c5] 26);have B27:=Box.new wa44 #[.int .i64 r5,.int .i64 s5,.slice A5 es5.length c5] 26;obtain ⟨nB27,hnB27⟩:∃ g,wa44.heap.size=g:=⟨_,rfl⟩
 replace r0:=r0.mid al oZl;replace o2:=o2.mid al oZl;replace o3:=o3.mid al oZl;replace o5:=o5.mid al oZl;replace B21:=B21.mid al oZr;replace B23:=B23.mid al oZr;replace B25:=B25.mid al oZr;replace hm:=hm.trans al;rw [hnB27] at B27;obtain ⟨wB27,hwB27⟩:∃ x,wa44.alloc (.cells #[.int .i64 r5,.int .i64 s5,.slice A5 es5.length c5] 26)=x:=⟨_,rfl⟩
 rw [hwB27] at r0 o2 o3 o5 B21 B23 B25 B27 hm;clear al;have B27l:=B27.1;have B270:=B27.cell 0 rfl;have B271:=B27.cell 1 rfl;have B272:=B27.cell 2 rfl;go_wp2_with fail;clear B27l B270 B271 B272 hnB27 hwB27;with_reducible refine (impl_CyclicGraph r5 s5 A5 es5 c5 _ _ _ (OG.rg o5) hl5 hc5 _ HQ.out).mono ?_
 rintro e wa45 ⟨A6,c6,At,ct,rfl,o6,ot,m⟩;replace r0:=r0.mid m oZl;replace o2:=o2.mid m oZl;replace o3:=o3.mid m oZl;replace o5:=o5.mid m oZl;replace B21:=B21.mid m oZr;replace B23:=B23.mid m oZr;replace B25:=B25.mid m oZr;replace B27:=B27.mid m oZr;replace hm:=hm.trans m;clear m;have al:=Mid.alloc wa45 (.cells #[.int .i64 r5,.int .i64 s6,.slice A6 es6.length c6] 26);have B28:=Box.new wa45 #[.int .i64 r5,.int .i64 s6,.slice A6 es6.length c6] 26;obtain ⟨nB28,hnB28⟩:∃ g,wa45.heap.size=g:=⟨_,rfl⟩
 replace r0:=r0.mid al oZl;replace o2:=o2.mid al oZl;replace o3:=o3.mid al oZl;replace o5:=o5.mid al oZl;replace o6:=o6.mid al oZl;replace ot:=ot.mid al oZl;replace B21:=B21.mid al oZr;replace B23:=B23.mid al oZr;replace B25:=B25.mid al oZr;replace B27:=B27.mid al oZr;replace hm:=hm.trans al;rw [hnB28] at B28;obtain ⟨wB28,hwB28⟩:∃ x,wa45.alloc (.cells #[.int .i64 r5,.int .i64 s6,.slice A6 es6.length c6] 26)=x:=⟨_,rfl⟩
 rw [hwB28] at r0 o2 o3 o5 o6 ot B21 B23 B25 B27 B28 hm;clear al;have B27l:=B27.1;have B270:=B27.cell 0 rfl;have B271:=B27.cell 1 rfl;have B272:=B27.cell 2 rfl;go_wp2_with fail;clear B27l B270 B271 B272 hnB28 hwB28;with_reducible refine (spec_CyclicGraph r5 s5 A5 es5 c5 _ _ _ (OG.rg o5) hl5 _ HQ.out).mono ?_
 rintro e wa46 ⟨A7,c7,Au,cu,rfl,o7,ou,m⟩;replace r0:=r0.mid m oZl;replace o2:=o2.mid m oZl;replace o3:=o3.mid m oZl;replace o5:=o5.mid m oZl;replace o6:=o6.mid m oZl;replace ot:=ot.mid m oZl;replace B21:=B21.mid m oZr;replace B23:=B23.mid m oZr;replace B25:=B25.mid m oZr;replace B27:=B27.mid m oZr;replace B28:=B28.mid m oZr;replace hm:=hm.trans m;clear m;have al:=Mid.alloc wa46 (.cells #[.int .i64 r5,.int .i64 s6,.slice A7 es6.length c7] 26);have B30:=Box.new wa46 #[.int .i64 r5,.int .i64 s6,.slice A7 es6.length c7] 26;obtain ⟨nB30,hnB30⟩:∃ g,wa46.heap.size=g:=⟨_,rfl⟩
 replace r0:=r0.mid al oZl;replace o2:=o2.mid al oZl;replace o3:=o3.mid al oZl;replace o5:=o5.mid al oZl;replace o6:=o6.mid al oZl;replace ot:=ot.mid al oZl;replace o7:=o7.mid al oZl;replace ou:=ou.mid al oZl;replace B21:=B21.mid al oZr;replace B23:=B23.mid al oZr;replace B25:=B25.mid al oZr;replace B27:=B27.mid al oZr;replace B28:=B28.mid al oZr;replace hm:=hm.trans al;rw [hnB30] at B30;obtain ⟨wB30,hwB30⟩:∃ x,wa46.alloc (.cells #[.int .i64 r5,.int .i64 s6,.slice A7 es6.length c7] 26)=x:=⟨_,rfl⟩
 rw [hwB30] at r0 o2 o3 o5 o6 ot o7 ou B21 B23 B25 B27 B28 B30 hm;clear al;have B23l:=B23.1;have B230:=B23.cell 0 rfl;have B231:=B23.cell 1 rfl;have B232:=B23.cell 2 rfl;have B25l:=B25.1;have B250:=B25.cell 0 rfl;have B251:=B25.cell 1 rfl;have B252:=B25.cell 2 rfl;go_wp2_with fail;clear B23l B230 B231 B232 B25l B250 B251 B252 hnB30 hwB30;with_reducible refine (spec_EqualGraphs r rs A2 res c2 r rs A3 res c3 _ _ _ _ _ (OG.rg o2) (OG.rg o3) hl2 hl2 true (by simp)).mono ?_
 rintro e wa47 ⟨rfl,m⟩;replace r0:=r0.mid m oZl;replace o2:=o2.mid m oZl;replace o3:=o3.mid m oZl;replace o5:=o5.mid m oZl;replace o6:=o6.mid m oZl;replace ot:=ot.mid m oZl;replace o7:=o7.mid m oZl;replace ou:=ou.mid m oZl;replace B21:=B21.mid m oZr;replace B23:=B23.mid m oZr;replace B25:=B25.mid m oZr;replace B27:=B27.mid m oZr;replace B28:=B28.mid m oZr;replace B30:=B30.mid m oZr;replace hm:=hm.trans m;clear m;have B28l:=B28.1;have B280:=B28.cell 0 rfl;have B281:=B28.cell 1 rfl;have B282:=B28.cell 2 rfl;have B30l:=B30.1;have B300:=B30.cell 0 rfl;have B301:=B30.cell 1 rfl;have B302:=B30.cell 2 rfl;go_wp2_with fail;clear B28l B280 B281 B282 B30l B300 B301 B302;with_reducible refine (spec_EqualGraphs r5 s6 A6 es6 c6 r5 s6 A7 es6 c7 _ _ _ _ _ (OG.rg o6) (OG.rg o7) hl6 hl6 true (by simp)).mono ?_
 rintro e wa48 ⟨rfl,m⟩;replace r0:=r0.mid m oZl;replace o2:=o2.mid m oZl;replace o3:=o3.mid m oZl;replace o5:=o5.mid m oZl;replace o6:=o6.mid m oZl;replace ot:=ot.mid m oZl;replace o7:=o7.mid m oZl;replace ou:=ou.mid m oZl;replace B21:=B21.mid m oZr;replace B23:=B23.mid m oZr;replace B25:=B25.mid m oZr;replace B27:=B27.mid m oZr;replace B28:=B28.mid m oZr;replace B30:=B30.mid m oZr;replace hm:=hm.trans m;clear m;have hrt:=OI.ri ot;have hru:=OI.ri ou;go_wp2_with fail;with_reducible refine (sameInts_eq At tl ct Au cu _ _ _ _ _ hrt hru hl7).mono ?_
 rintro e wa49 ⟨rfl,m⟩;replace r0:=r0.mid m oZl;replace o2:=o2.mid m oZl;replace o3:=o3.mid m oZl;replace o5:=o5.mid m oZl;replace o6:=o6.mid m oZl;replace ot:=ot.mid m oZl;replace o7:=o7.mid m oZl;replace ou:=ou.mid m oZl;replace B21:=B21.mid m oZr;replace B23:=B23.mid m oZr;replace B25:=B25.mid m oZr;replace B27:=B27.mid m oZr;replace B28:=B28.mid m oZr;replace B30:=B30.mid m oZr;replace hm:=hm.trans m;clear m;have hb9:=hm.bel;rw [← hL0] at hb9;go_wp2_with fail;go_ret;exact ⟨rfl,hb9⟩
end Go.Proofs.YthampgpcajmopaaGreat