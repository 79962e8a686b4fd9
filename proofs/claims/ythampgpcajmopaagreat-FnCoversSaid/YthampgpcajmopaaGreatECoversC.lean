
import Derived.Test.YthampgpcajmopaaGreatCv11
import Derived.Test.YthampgpcajmopaaGreatCv13
import Derived.Test.YthampgpcajmopaaGreatCv2
import Derived.Test.YthampgpcajmopaaGreatCv1
import Derived.Deep.DeepCutAuto
import Derived.Deep.CutRange
namespace Go.Proofs.YthampgpcajmopaaGreat
set_option maxHeartbeats 40000000
set_option maxRecDepth 100000
open Go.RowKit
set_option linter.unusedVariables false
set_option linter.unusedSimpArgs false
theorem rankI_bd (r s:Int) {es:List Ed} (hl:es.length≤1048576):-100≤rankI r s es∧rankI r s es≤2000000:=by
 unfold rankI;split
 ·rename_i h
  have:=h.gr.size;omega
 ·omega
theorem cover_none {r s:Int} {es:List Ed} {rr rs:Int} {res:List Ed} (h:CoverIs r s es rr rs res false):rr=0∧rs=0∧res=[]:=by
 rcases h with ⟨h, -⟩ | ⟨-, -,h⟩
 ·cases h
 ·exact h
theorem comp_good {r s:Int} {es:List Ed} {rr rs:Int} {res:List Ed} (h:CompleteIs r s es rr rs res true) :
  ∃ a n:Nat,r=a∧s=n∧rr=a∧rs=n∧IsFol a n res∧Full a n res∧IsSub a n es a n res:=by
 rcases h with ⟨-,hf,rfl,rfl,rfl⟩ | ⟨h, -⟩
 ·obtain ⟨a,n,rfl,rfl⟩:=hf.gr.nat
  exact ⟨a,n,rfl,rfl,rfl,rfl,comp_fol hf,full_of (comp_fol hf) (comp_tot hf),hf.gr,(comp_fol hf).gr,rfl,Int.le_refl _,fun e he=>compG_sub e he⟩
 ·cases h
theorem walk_Covers (A0:Option Addr) (d0:List Int) (c0:Nat) (w:World) (r0:RV w 0 w.heap.size A0 (byts d0)) (_o0:OkB d0) (_l0:d0.length≤9223372036854775807) :
  Calls Tryz.prog 5 #[.slice A0 d0.length c0] w fun e w'=>e=.returned (.bool true)∧Below w.heap.size w w':=by
 by_cases hbig:decide ((d0.length:Int) > 1048576)=true
 ·go_enter Tryz.func5,Tryz.ntmps5
  go_wp2_with fail;with_reducible refine (big_any A0 d0.length c0 w).mono ?_
  rintro e w1 ⟨rfl,rfl⟩;rw [hbig];go_wp2_with fail;go_ret;exact ⟨rfl,Below.refl _ _⟩
 have hl0:d0.length≤1048576:=by simp at hbig;omega
 have hbig2:decide ((d0.length:Int) > 1048576)=false:=by simpa using hbig
 clear hbig _l0;obtain ⟨L0,hL0⟩:∃ n,n=w.heap.size:=⟨_,rfl⟩
 rw [← hL0];have hm:=Mid.refl 0 0 w;go_enter Tryz.func5,Tryz.ntmps5
 go_wp2_with fail;with_reducible refine (big_any A0 d0.length c0 w).mono ?_
 rintro e w1 ⟨rfl,rfl⟩;rw [hbig2];go_wp2_with fail;with_reducible refine (DrawCoverOf_any A0 d0 c0 _ _ _o0 hl0 r0).mono ?_
 rintro e wa1 ⟨r,s,A1,c1,es,rfl,dg,o1,m⟩;replace r0:=r0.mid m oZl;replace hm:=hm.trans m;clear m;have hl1:es.length≤1048576:=by have:=dg.len;omega
 clear dg;obtain ⟨rr,rs,res,b,hci⟩:=CoverOfIs_ex r s es hl1;have hl2:=CoverOfIs_len hci hl1;have HCI:=Lib.hid hci;clear hci;have al:=Mid.alloc wa1 (.cells #[.int .i64 r,.int .i64 s,.slice A1 es.length c1] 26);have B3:=Box.new wa1 #[.int .i64 r,.int .i64 s,.slice A1 es.length c1] 26;obtain ⟨nB3,hnB3⟩:∃ g,wa1.heap.size=g:=⟨_,rfl⟩
 replace r0:=r0.mid al oZl;replace o1:=o1.mid al oZl;replace hm:=hm.trans al;rw [hnB3] at B3;obtain ⟨wB3,hwB3⟩:∃ x,wa1.alloc (.cells #[.int .i64 r,.int .i64 s,.slice A1 es.length c1] 26)=x:=⟨_,rfl⟩
 rw [hwB3] at r0 o1 B3 hm;clear al;have B3l:=B3.1;have B30:=B3.cell 0 rfl;have B31:=B3.cell 1 rfl;have B32:=B3.cell 2 rfl;go_wp2_with fail;clear B3l B30 B31 B32 hnB3 hwB3;with_reducible refine (simpl_CoverOf r s A1 es c1 _ _ _ o1 hl1 rr rs res b HCI.out).mono ?_
 rintro e wa2 ⟨A2,c2,rfl,o2,m⟩;replace r0:=r0.mid m oZl;replace o1:=o1.mid m oZl;replace B3:=B3.mid m oZr;replace hm:=hm.trans m;clear m;have al:=Mid.alloc wa2 (.cells #[.int .i64 rr,.int .i64 rs,.slice A2 res.length c2] 26);have B4:=Box.new wa2 #[.int .i64 rr,.int .i64 rs,.slice A2 res.length c2] 26;obtain ⟨nB4,hnB4⟩:∃ g,wa2.heap.size=g:=⟨_,rfl⟩
 replace r0:=r0.mid al oZl;replace o1:=o1.mid al oZl;replace o2:=o2.mid al oZl;replace B3:=B3.mid al oZr;replace hm:=hm.trans al;rw [hnB4] at B4;obtain ⟨wB4,hwB4⟩:∃ x,wa2.alloc (.cells #[.int .i64 rr,.int .i64 rs,.slice A2 res.length c2] 26)=x:=⟨_,rfl⟩
 rw [hwB4] at r0 o1 o2 B3 B4 hm;clear al;have B3l:=B3.1;have B30:=B3.cell 0 rfl;have B31:=B3.cell 1 rfl;have B32:=B3.cell 2 rfl;go_wp2_with fail;clear B3l B30 B31 B32 hnB4 hwB4;with_reducible refine (sspec_CoverOf r s A1 es c1 _ _ _ o1 hl1 rr rs res b HCI.out).mono ?_
 rintro e wa3 ⟨A3,c3,rfl,o3,m⟩;replace r0:=r0.mid m oZl;replace o1:=o1.mid m oZl;replace o2:=o2.mid m oZl;replace B3:=B3.mid m oZr;replace B4:=B4.mid m oZr;replace hm:=hm.trans m;clear m;have al:=Mid.alloc wa3 (.cells #[.int .i64 rr,.int .i64 rs,.slice A3 res.length c3] 26);have B6:=Box.new wa3 #[.int .i64 rr,.int .i64 rs,.slice A3 res.length c3] 26;obtain ⟨nB6,hnB6⟩:∃ g,wa3.heap.size=g:=⟨_,rfl⟩
 replace r0:=r0.mid al oZl;replace o1:=o1.mid al oZl;replace o2:=o2.mid al oZl;replace o3:=o3.mid al oZl;replace B3:=B3.mid al oZr;replace B4:=B4.mid al oZr;replace hm:=hm.trans al;rw [hnB6] at B6;obtain ⟨wB6,hwB6⟩:∃ x,wa3.alloc (.cells #[.int .i64 rr,.int .i64 rs,.slice A3 res.length c3] 26)=x:=⟨_,rfl⟩
 rw [hwB6] at r0 o1 o2 o3 B3 B4 B6 hm;clear al;go_upto_region 6 with fail
 clear hnB6 hwB6;go_cut [93] from 42 to 93 (fun v wx=>v=.bool false∧RV wx 0 w.heap.size A0 (byts d0)∧Mid 0 0 w wx)
 case first =>
  have hc1:=o1.cnt.1;have hc3:=o3.cnt.1;cases b with
  | true =>
   obtain ⟨hco,rfl,rfl,hfin,hsub,h0⟩:=cover_good HCI.out;have HFIN:=Lib.hid hfin;have HINS:=Lib.hid (inside_of hco hfin.cor hsub);have hxe:extraI rr rs es rr rs res true=rankI rr rs res - rankI rr rs es:=if_pos rfl;have hbd:=rankI_bd rr rs hl1;have hbd2:=rankI_bd rr rs hl2;obtain ⟨er,her⟩:∃ x,extraI rr rs es rr rs res true=x:=⟨_,rfl⟩
   obtain ⟨ry,hry⟩:∃ x,rankI rr rs res=x:=⟨_,rfl⟩
   obtain ⟨rg,hrg⟩:∃ x,rankI rr rs es=x:=⟨_,rfl⟩
   rw [hry,hrg] at hxe h0;rw [hry] at hbd2;rw [hrg] at hbd;rw [her] at hxe;have hwr:IntKind.i64.wrap (ry - rg)=ry - rg:=IntWalk.i64_in _ (by omega);have hlt0:¬ (ry - rg < 0):=by omega
   subst hxe;have HCI2:=Lib.hid HCI.out;have B30:=wg_cell B3.1 (B3.cell 0 rfl);have B31:=wg_cell B3.1 (B3.cell 1 rfl);have B32:=wg_cell B3.1 (B3.cell 2 rfl);have B40:=wg_cell B4.1 (B4.cell 0 rfl);have B41:=wg_cell B4.1 (B4.cell 1 rfl);have B42:=wg_cell B4.1 (B4.cell 2 rfl);have B60:=wg_cell B6.1 (B6.cell 0 rfl);have B61:=wg_cell B6.1 (B6.cell 1 rfl);have B62:=wg_cell B6.1 (B6.cell 2 rfl);have hq0:=fun m os=>spec_EqualGraphs rr rs A2 res c2 rr rs A3 res c3 (wg wB6 m os) _ _ _ _ (OG.rg (o2.mid (Mid.ofWg wB6 m os) oZl)) (OG.rg (o3.mid (Mid.ofWg wB6 m os) oZl)) hl2 hl2 true (by simp);have hq1:=fun m os=>impl_IsFiniteIndex rr rs A3 res c3 (wg wB6 m os) _ _ (OG.rg (o3.mid (Mid.ofWg wB6 m os) oZl)) hl2 hc3 true (iff_of_true rfl HFIN.out);have hq2:=fun m os=>impl_IsInside rr rs A1 es c1 rr rs A3 res c3 (wg wB6 m os) _ _ _ _ (OG.rg (o1.mid (Mid.ofWg wB6 m os) oZl)) (OG.rg (o3.mid (Mid.ofWg wB6 m os) oZl)) hl1 hc1 hl2 hc3 true (iff_of_true rfl HINS.out);have hq3:=fun m os=>her ▸ impl_ExtraRank rr rs A1 es c1 (wg wB6 m os) _ _ (OG.rg (o1.mid (Mid.ofWg wB6 m os) oZl)) hl1 hc1 rr rs res true HCI2.out;have hq4:=fun m os=>hry ▸ spec_RankOf rr rs A3 res c3 (wg wB6 m os) _ _ (OG.rg (o3.mid (Mid.ofWg wB6 m os) oZl)) hl2;have hq5:=fun m os=>hrg ▸ spec_RankOf rr rs A1 es c1 (wg wB6 m os) _ _ (OG.rg (o1.mid (Mid.ofWg wB6 m os) oZl)) hl1;have hq6:=fun m os=>her ▸ spec_ExtraRank rr rs A1 es c1 (wg wB6 m os) _ _ (OG.rg (o1.mid (Mid.ofWg wB6 m os) oZl)) hl1 rr rs res true HCI2.out;clear her hry hrg h0 hco hfin hsub hbd hbd2 HCI HCI2;refine wp_region_quiet_wg (by kernel_rfl) (by kernel_rfl) ?_;repeat
    (with_reducible refine wpQuiet_step (fun K hK=>?_))
    go_simp
    first
     | ((with_reducible refine hK _ ?_);clear hK K)
     | (rw [if_neg (by decide)];(with_reducible refine hK _ ?_);clear hK K)
     | (apply Exists.intro;refine ⟨fun _=>?_,hK _ ?_⟩;((first | (go_at_call 13;with_reducible exact Calls.wg_of (hq0 _ _)) | (go_at_call 47;with_reducible exact Calls.wg_of (hq1 _ _)) | (go_at_call 17;with_reducible exact Calls.wg_of (hq2 _ _)) | (go_at_call 48;with_reducible exact Calls.wg_of (hq3 _ _)) | (go_at_call 19;with_reducible exact Calls.wg_of (hq4 _ _)) | (go_at_call 19;with_reducible exact Calls.wg_of (hq5 _ _)) | (go_at_call 49;with_reducible exact Calls.wg_of (hq6 _ _))));clear hK K)
   with_reducible refine wpQuiet_nil ?_
   intro _ hw';obtain ⟨⟨nq,osq⟩,hw''⟩:=hw';subst hw'';have hwg:=Mid.ofWg wB6 nq osq;generalize wg wB6 nq osq=wq at hwg ⊢;have hr9:=r0.mid hwg oZl;have hm9:=hm.trans hwg;go_wp2_with fail;go_meet
   case rel=>exact ⟨rfl,hr9,hm9⟩
  | false =>
   have HCI2:=Lib.hid HCI.out;have hxe:extraI r s es rr rs res false = -1:=if_neg (by simp);have B30:=wg_cell B3.1 (B3.cell 0 rfl);have B31:=wg_cell B3.1 (B3.cell 1 rfl);have B32:=wg_cell B3.1 (B3.cell 2 rfl);have B40:=wg_cell B4.1 (B4.cell 0 rfl);have B41:=wg_cell B4.1 (B4.cell 1 rfl);have B42:=wg_cell B4.1 (B4.cell 2 rfl);have B60:=wg_cell B6.1 (B6.cell 0 rfl);have B61:=wg_cell B6.1 (B6.cell 1 rfl);have B62:=wg_cell B6.1 (B6.cell 2 rfl);have hq0:=fun m os=>spec_EqualGraphs rr rs A2 res c2 rr rs A3 res c3 (wg wB6 m os) _ _ _ _ (OG.rg (o2.mid (Mid.ofWg wB6 m os) oZl)) (OG.rg (o3.mid (Mid.ofWg wB6 m os) oZl)) hl2 hl2 true (by simp);have hq1:=fun m os=>hxe ▸ impl_ExtraRank r s A1 es c1 (wg wB6 m os) _ _ (OG.rg (o1.mid (Mid.ofWg wB6 m os) oZl)) hl1 hc1 rr rs res false HCI2.out;have hq2:=fun m os=>hxe ▸ spec_ExtraRank r s A1 es c1 (wg wB6 m os) _ _ (OG.rg (o1.mid (Mid.ofWg wB6 m os) oZl)) hl1 rr rs res false HCI2.out;clear hxe HCI HCI2;refine wp_region_quiet_wg (by kernel_rfl) (by kernel_rfl) ?_;repeat
    (with_reducible refine wpQuiet_step (fun K hK=>?_))
    go_simp
    first
     | ((with_reducible refine hK _ ?_);clear hK K)
     | (rw [if_neg (by decide)];(with_reducible refine hK _ ?_);clear hK K)
     | (apply Exists.intro;refine ⟨fun _=>?_,hK _ ?_⟩;((first | (go_at_call 13;with_reducible exact Calls.wg_of (hq0 _ _)) | (go_at_call 48;with_reducible exact Calls.wg_of (hq1 _ _)) | (go_at_call 49;with_reducible exact Calls.wg_of (hq2 _ _))));clear hK K)
   with_reducible refine wpQuiet_nil ?_
   intro _ hw';obtain ⟨⟨nq,osq⟩,hw''⟩:=hw';subst hw'';have hwg:=Mid.ofWg wB6 nq osq;generalize wg wB6 nq osq=wq at hwg ⊢;have hr9:=r0.mid hwg oZl;have hm9:=hm.trans hwg;go_wp2_with fail;go_meet
   case rel=>exact ⟨rfl,hr9,hm9⟩
 case rest =>
 clear o1 o2 o3 B3 B4 B6 r0 hm HCI hl1 hl2;obtain ⟨rfl,r0,hm⟩:=hcut;go_wp2_with fail;with_reducible refine (DrawCompleteGraph_any A0 d0 c0 _ _ _o0 hl0 r0).mono ?_
 rintro e wa21 ⟨r,s,A1,c1,es,rfl,dg,o1,m⟩;replace r0:=r0.mid m oZl;replace hm:=hm.trans m;clear m;have hl1:es.length≤1048576:=by have:=dg.len;omega
 clear dg;obtain ⟨rr,rs,res,b,hci⟩:=CompleteGraphIs_ex r s es hl1;have hl2:=CompleteGraphIs_len hci hl1;have HCI:=Lib.hid hci;clear hci;have al:=Mid.alloc wa21 (.cells #[.int .i64 r,.int .i64 s,.slice A1 es.length c1] 26);have B8:=Box.new wa21 #[.int .i64 r,.int .i64 s,.slice A1 es.length c1] 26;obtain ⟨nB8,hnB8⟩:∃ g,wa21.heap.size=g:=⟨_,rfl⟩
 replace r0:=r0.mid al oZl;replace o1:=o1.mid al oZl;replace hm:=hm.trans al;rw [hnB8] at B8;obtain ⟨wB8,hwB8⟩:∃ x,wa21.alloc (.cells #[.int .i64 r,.int .i64 s,.slice A1 es.length c1] 26)=x:=⟨_,rfl⟩
 rw [hwB8] at r0 o1 B8 hm;clear al;have B8l:=B8.1;have B80:=B8.cell 0 rfl;have B81:=B8.cell 1 rfl;have B82:=B8.cell 2 rfl;go_wp2_with fail;clear B8l B80 B81 B82 hnB8 hwB8;with_reducible refine (simpl_CompleteGraph r s A1 es c1 _ _ _ o1 hl1 rr rs res b HCI.out).mono ?_
 rintro e wa22 ⟨A2,c2,rfl,o2,m⟩;replace r0:=r0.mid m oZl;replace o1:=o1.mid m oZl;replace B8:=B8.mid m oZr;replace hm:=hm.trans m;clear m;have al:=Mid.alloc wa22 (.cells #[.int .i64 rr,.int .i64 rs,.slice A2 res.length c2] 26);have B9:=Box.new wa22 #[.int .i64 rr,.int .i64 rs,.slice A2 res.length c2] 26;obtain ⟨nB9,hnB9⟩:∃ g,wa22.heap.size=g:=⟨_,rfl⟩
 replace r0:=r0.mid al oZl;replace o1:=o1.mid al oZl;replace o2:=o2.mid al oZl;replace B8:=B8.mid al oZr;replace hm:=hm.trans al;rw [hnB9] at B9;obtain ⟨wB9,hwB9⟩:∃ x,wa22.alloc (.cells #[.int .i64 rr,.int .i64 rs,.slice A2 res.length c2] 26)=x:=⟨_,rfl⟩
 rw [hwB9] at r0 o1 o2 B8 B9 hm;clear al;have B8l:=B8.1;have B80:=B8.cell 0 rfl;have B81:=B8.cell 1 rfl;have B82:=B8.cell 2 rfl;go_wp2_with fail;clear B8l B80 B81 B82 hnB9 hwB9;with_reducible refine (sspec_CompleteGraph r s A1 es c1 _ _ _ o1 hl1 rr rs res b HCI.out).mono ?_
 rintro e wa23 ⟨A3,c3,rfl,o3,m⟩;replace r0:=r0.mid m oZl;replace o1:=o1.mid m oZl;replace o2:=o2.mid m oZl;replace B8:=B8.mid m oZr;replace B9:=B9.mid m oZr;replace hm:=hm.trans m;clear m;have al:=Mid.alloc wa23 (.cells #[.int .i64 rr,.int .i64 rs,.slice A3 res.length c3] 26);have B11:=Box.new wa23 #[.int .i64 rr,.int .i64 rs,.slice A3 res.length c3] 26;obtain ⟨nB11,hnB11⟩:∃ g,wa23.heap.size=g:=⟨_,rfl⟩
 replace r0:=r0.mid al oZl;replace o1:=o1.mid al oZl;replace o2:=o2.mid al oZl;replace o3:=o3.mid al oZl;replace B8:=B8.mid al oZr;replace B9:=B9.mid al oZr;replace hm:=hm.trans al;rw [hnB11] at B11;obtain ⟨wB11,hwB11⟩:∃ x,wa23.alloc (.cells #[.int .i64 rr,.int .i64 rs,.slice A3 res.length c3] 26)=x:=⟨_,rfl⟩
 rw [hwB11] at r0 o1 o2 o3 B8 B9 B11 hm;clear al;go_upto_region 11 with fail
 clear hnB11 hwB11;go_cut [134] from 106 to 134 (fun v wx=>v=.bool false∧RV wx 0 w.heap.size A0 (byts d0)∧Mid 0 0 w wx)
 case first =>
  have hc1:=o1.cnt.1;have hc3:=o3.cnt.1;cases b with
  | true =>
   obtain ⟨a,n,rfl,rfl,rfl,rfl,hf,hfull,hsub⟩:=comp_good HCI.out;have HF:=Lib.hid hf;have HFU:=Lib.hid hfull;have HS:=Lib.hid hsub;clear hf hfull hsub HCI;have B9l:=B9.1;have B90:=B9.cell 0 rfl;have B91:=B9.cell 1 rfl;have B92:=B9.cell 2 rfl;have B11l:=B11.1;have B110:=B11.cell 0 rfl;have B111:=B11.cell 1 rfl;have B112:=B11.cell 2 rfl;go_wp2_with fail;clear B9l B90 B91 B92 B11l B110 B111 B112;with_reducible refine (spec_EqualGraphs a n A2 res c2 a n A3 res c3 _ _ _ _ _ (OG.rg o2) (OG.rg o3) hl2 hl2 true (by simp)).mono ?_
   rintro e wa24 ⟨rfl,m⟩;replace r0:=r0.mid m oZl;replace o1:=o1.mid m oZl;replace o2:=o2.mid m oZl;replace o3:=o3.mid m oZl;replace B8:=B8.mid m oZr;replace B9:=B9.mid m oZr;replace B11:=B11.mid m oZr;replace hm:=hm.trans m;clear m;have B11l:=B11.1;have B110:=B11.cell 0 rfl;have B111:=B11.cell 1 rfl;have B112:=B11.cell 2 rfl;go_wp2_with fail;clear B11l B110 B111 B112;with_reducible refine (impl_IsFolded a n A3 res c3 _ _ _ (OG.rg o3) hl2 hc3 true (iff_of_true rfl HF.out)).mono ?_
   rintro e wa25 ⟨rfl,m⟩;replace r0:=r0.mid m oZl;replace o1:=o1.mid m oZl;replace o2:=o2.mid m oZl;replace o3:=o3.mid m oZl;replace B8:=B8.mid m oZr;replace B9:=B9.mid m oZr;replace B11:=B11.mid m oZr;replace hm:=hm.trans m;clear m;have B11l:=B11.1;have B110:=B11.cell 0 rfl;have B111:=B11.cell 1 rfl;have B112:=B11.cell 2 rfl;go_wp2_with fail;clear B11l B110 B111 B112;with_reducible refine (spec_MissingSteps a n A3 res c3 _ _ _ (OG.rg o3) HF.out).mono ?_
   rintro e wa26 ⟨A4,n4,c4,rfl,h4,m⟩;replace r0:=r0.mid m oZl;replace o1:=o1.mid m oZl;replace o2:=o2.mid m oZl;replace o3:=o3.mid m oZl;replace B8:=B8.mid m oZr;replace B9:=B9.mid m oZr;replace B11:=B11.mid m oZr;replace hm:=hm.trans m;clear m;obtain rfl:n4=0:=h4.2 HFU.out;clear h4;have B8l:=B8.1;have B80:=B8.cell 0 rfl;have B81:=B8.cell 1 rfl;have B82:=B8.cell 2 rfl;have B11l:=B11.1;have B110:=B11.cell 0 rfl;have B111:=B11.cell 1 rfl;have B112:=B11.cell 2 rfl;go_wp2_with fail;clear B8l B80 B81 B82 B11l B110 B111 B112;with_reducible refine (impl_IsSubgraph a n A1 es c1 a n A3 res c3 _ _ _ _ _ (OG.rg o1) (OG.rg o3) hl1 hl2 true (iff_of_true rfl HS.out)).mono ?_
   rintro e wa27 ⟨rfl,m⟩;replace r0:=r0.mid m oZl;replace o1:=o1.mid m oZl;replace o2:=o2.mid m oZl;replace o3:=o3.mid m oZl;replace B8:=B8.mid m oZr;replace B9:=B9.mid m oZr;replace B11:=B11.mid m oZr;replace hm:=hm.trans m;clear m;go_wp2_with fail;go_meet
   case rel=>exact ⟨rfl,r0,hm⟩
  | false =>
   have B9l:=B9.1;have B90:=B9.cell 0 rfl;have B91:=B9.cell 1 rfl;have B92:=B9.cell 2 rfl;have B11l:=B11.1;have B110:=B11.cell 0 rfl;have B111:=B11.cell 1 rfl;have B112:=B11.cell 2 rfl;go_wp2_with fail;clear B9l B90 B91 B92 B11l B110 B111 B112;with_reducible refine (spec_EqualGraphs rr rs A2 res c2 rr rs A3 res c3 _ _ _ _ _ (OG.rg o2) (OG.rg o3) hl2 hl2 true (by simp)).mono ?_
   rintro e wa24 ⟨rfl,m⟩;replace r0:=r0.mid m oZl;replace o1:=o1.mid m oZl;replace o2:=o2.mid m oZl;replace o3:=o3.mid m oZl;replace B8:=B8.mid m oZr;replace B9:=B9.mid m oZr;replace B11:=B11.mid m oZr;replace hm:=hm.trans m;clear m;go_wp2_with fail;go_meet
   case rel=>exact ⟨rfl,r0,hm⟩
 case rest =>
 clear o1 o2 o3 B8 B9 B11 r0 hm HCI hl1 hl2;obtain ⟨rfl,r0,hm⟩:=hcut;go_wp2_with fail;with_reducible refine (DrawSeparateWord_any A0 d0 c0 _ _ _o0 hl0 r0).mono ?_
 rintro e wa41 ⟨r,s,A1,c1,es,Aw,cw,xs,rfl,dg,dx,o1,ow,m⟩;replace r0:=r0.mid m oZl;replace hm:=hm.trans m;clear m;have hl1:es.length≤1048576:=by have:=dg.len;omega
 have hlx:xs.length≤1048576:=by have:=dx.1;omega
 have HOX:=Lib.hid dx.2.1.ok;clear dg dx;obtain ⟨rr,rs,res,b,hci⟩:=SeparateWordIs_ex r s es xs hl1 HOX.out hlx;have hl2:=SeparateWordIs_len hci hl1 HOX.out hlx;have HCI:=Lib.hid hci;clear hci;have al:=Mid.alloc wa41 (.cells #[.int .i64 r,.int .i64 s,.slice A1 es.length c1] 26);have B13:=Box.new wa41 #[.int .i64 r,.int .i64 s,.slice A1 es.length c1] 26;obtain ⟨nB13,hnB13⟩:∃ g,wa41.heap.size=g:=⟨_,rfl⟩
 replace r0:=r0.mid al oZl;replace o1:=o1.mid al oZl;replace ow:=ow.mid al oZl;replace hm:=hm.trans al;rw [hnB13] at B13;obtain ⟨wB13,hwB13⟩:∃ x,wa41.alloc (.cells #[.int .i64 r,.int .i64 s,.slice A1 es.length c1] 26)=x:=⟨_,rfl⟩
 rw [hwB13] at r0 o1 ow B13 hm;clear al;have B13l:=B13.1;have B130:=B13.cell 0 rfl;have B131:=B13.cell 1 rfl;have B132:=B13.cell 2 rfl;go_wp2_with fail;clear B13l B130 B131 B132 hnB13 hwB13;with_reducible refine (simpl_SeparateWord r s A1 es c1 Aw xs cw _ _ _ o1 hl1 _ _ ow HOX.out hlx rr rs res b HCI.out).mono ?_
 rintro e wa42 ⟨A2,c2,rfl,o2,m⟩;replace r0:=r0.mid m oZl;replace o1:=o1.mid m oZl;replace ow:=ow.mid m oZl;replace B13:=B13.mid m oZr;replace hm:=hm.trans m;clear m;have al:=Mid.alloc wa42 (.cells #[.int .i64 rr,.int .i64 rs,.slice A2 res.length c2] 26);have B15:=Box.new wa42 #[.int .i64 rr,.int .i64 rs,.slice A2 res.length c2] 26;obtain ⟨nB15,hnB15⟩:∃ g,wa42.heap.size=g:=⟨_,rfl⟩
 replace r0:=r0.mid al oZl;replace o1:=o1.mid al oZl;replace ow:=ow.mid al oZl;replace o2:=o2.mid al oZl;replace B13:=B13.mid al oZr;replace hm:=hm.trans al;rw [hnB15] at B15;obtain ⟨wB15,hwB15⟩:∃ x,wa42.alloc (.cells #[.int .i64 rr,.int .i64 rs,.slice A2 res.length c2] 26)=x:=⟨_,rfl⟩
 rw [hwB15] at r0 o1 ow o2 B13 B15 hm;clear al;have B13l:=B13.1;have B130:=B13.cell 0 rfl;have B131:=B13.cell 1 rfl;have B132:=B13.cell 2 rfl;go_wp2_with fail;clear B13l B130 B131 B132 hnB15 hwB15;with_reducible refine (sspec_SeparateWord r s A1 es c1 Aw xs cw _ _ _ o1 hl1 _ _ ow HOX.out hlx rr rs res b HCI.out).mono ?_
 rintro e wa43 ⟨A3,c3,rfl,o3,m⟩;replace r0:=r0.mid m oZl;replace o1:=o1.mid m oZl;replace ow:=ow.mid m oZl;replace o2:=o2.mid m oZl;replace B13:=B13.mid m oZr;replace B15:=B15.mid m oZr;replace hm:=hm.trans m;clear m;have al:=Mid.alloc wa43 (.cells #[.int .i64 rr,.int .i64 rs,.slice A3 res.length c3] 26);have B17:=Box.new wa43 #[.int .i64 rr,.int .i64 rs,.slice A3 res.length c3] 26;obtain ⟨nB17,hnB17⟩:∃ g,wa43.heap.size=g:=⟨_,rfl⟩
 replace r0:=r0.mid al oZl;replace o1:=o1.mid al oZl;replace ow:=ow.mid al oZl;replace o2:=o2.mid al oZl;replace o3:=o3.mid al oZl;replace B13:=B13.mid al oZr;replace B15:=B15.mid al oZr;replace hm:=hm.trans al;rw [hnB17] at B17;obtain ⟨wB17,hwB17⟩:∃ x,wa43.alloc (.cells #[.int .i64 rr,.int .i64 rs,.slice A3 res.length c3] 26)=x:=⟨_,rfl⟩
 rw [hwB17] at r0 o1 ow o2 o3 B13 B15 B17 hm;clear al;go_upto_region 16 with fail
 clear hnB17 hwB17;go_cut [179] from 152 to 179 (fun v wx=>v=.bool false∧RV wx 0 w.heap.size A0 (byts d0)∧Mid 0 0 w wx)
 case first =>
  have hc1:=o1.cnt.1;have hc3:=o3.cnt.1;cases b with
  | true =>
   obtain ⟨hco,rfl,hfin,hsub, -,hall⟩:=sep_good HCI.out;have HFIN:=Lib.hid hfin;have HINS:=Lib.hid (inside_of hco hfin.cor hsub);have HNO:=Lib.hid (hall xs (by simp)).2;clear hco hfin hsub hall HCI;have B15l:=B15.1;have B150:=B15.cell 0 rfl;have B151:=B15.cell 1 rfl;have B152:=B15.cell 2 rfl;have B17l:=B17.1;have B170:=B17.cell 0 rfl;have B171:=B17.cell 1 rfl;have B172:=B17.cell 2 rfl;go_wp2_with fail;clear B15l B150 B151 B152 B17l B170 B171 B172;with_reducible refine (spec_EqualGraphs rr rs A2 res c2 rr rs A3 res c3 _ _ _ _ _ (OG.rg o2) (OG.rg o3) hl2 hl2 true (by simp)).mono ?_
   rintro e wa44 ⟨rfl,m⟩;replace r0:=r0.mid m oZl;replace o1:=o1.mid m oZl;replace ow:=ow.mid m oZl;replace o2:=o2.mid m oZl;replace o3:=o3.mid m oZl;replace B13:=B13.mid m oZr;replace B15:=B15.mid m oZr;replace B17:=B17.mid m oZr;replace hm:=hm.trans m;clear m;have hrvw:=OV.rv ow;have B17l:=B17.1;have B170:=B17.cell 0 rfl;have B171:=B17.cell 1 rfl;have B172:=B17.cell 2 rfl;go_wp2_with fail;clear B17l B170 B171 B172;with_reducible refine (impl_Contains rr rs A3 res c3 Aw xs cw _ _ _ _ _ (OG.rg o3) hrvw hl2 hc3 hlx HOX.out false (iff_of_false (by simp) (fun h=>absurd h.2 HNO.out))).mono ?_
   rintro e wa45 ⟨rfl,m⟩;replace r0:=r0.mid m oZl;replace o1:=o1.mid m oZl;replace ow:=ow.mid m oZl;replace o2:=o2.mid m oZl;replace o3:=o3.mid m oZl;replace B13:=B13.mid m oZr;replace B15:=B15.mid m oZr;replace B17:=B17.mid m oZr;replace hm:=hm.trans m;clear m;clear hrvw;have B13l:=B13.1;have B130:=B13.cell 0 rfl;have B131:=B13.cell 1 rfl;have B132:=B13.cell 2 rfl;have B17l:=B17.1;have B170:=B17.cell 0 rfl;have B171:=B17.cell 1 rfl;have B172:=B17.cell 2 rfl;go_wp2_with fail;clear B13l B130 B131 B132 B17l B170 B171 B172;with_reducible refine (impl_IsInsideI rr s A1 es c1 rr rs A3 res c3 _ _ _ _ _ (OG.rg o1) (OG.rg o3) hl1 hc1 hl2 hc3 true (iff_of_true rfl HINS.out)).mono ?_
   rintro e wa46 ⟨rfl,m⟩;replace r0:=r0.mid m oZl;replace o1:=o1.mid m oZl;replace ow:=ow.mid m oZl;replace o2:=o2.mid m oZl;replace o3:=o3.mid m oZl;replace B13:=B13.mid m oZr;replace B15:=B15.mid m oZr;replace B17:=B17.mid m oZr;replace hm:=hm.trans m;clear m;have B17l:=B17.1;have B170:=B17.cell 0 rfl;have B171:=B17.cell 1 rfl;have B172:=B17.cell 2 rfl;go_wp2_with fail;clear B17l B170 B171 B172;with_reducible refine (impl_IsFiniteIndex rr rs A3 res c3 _ _ _ (OG.rg o3) hl2 hc3 true (iff_of_true rfl HFIN.out)).mono ?_
   rintro e wa47 ⟨rfl,m⟩;replace r0:=r0.mid m oZl;replace o1:=o1.mid m oZl;replace ow:=ow.mid m oZl;replace o2:=o2.mid m oZl;replace o3:=o3.mid m oZl;replace B13:=B13.mid m oZr;replace B15:=B15.mid m oZr;replace B17:=B17.mid m oZr;replace hm:=hm.trans m;clear m;go_wp2_with fail;go_meet
   case rel=>exact ⟨rfl,r0,hm⟩
  | false =>
   have B15l:=B15.1;have B150:=B15.cell 0 rfl;have B151:=B15.cell 1 rfl;have B152:=B15.cell 2 rfl;have B17l:=B17.1;have B170:=B17.cell 0 rfl;have B171:=B17.cell 1 rfl;have B172:=B17.cell 2 rfl;go_wp2_with fail;clear B15l B150 B151 B152 B17l B170 B171 B172;with_reducible refine (spec_EqualGraphs rr rs A2 res c2 rr rs A3 res c3 _ _ _ _ _ (OG.rg o2) (OG.rg o3) hl2 hl2 true (by simp)).mono ?_
   rintro e wa44 ⟨rfl,m⟩;replace r0:=r0.mid m oZl;replace o1:=o1.mid m oZl;replace ow:=ow.mid m oZl;replace o2:=o2.mid m oZl;replace o3:=o3.mid m oZl;replace B13:=B13.mid m oZr;replace B15:=B15.mid m oZr;replace B17:=B17.mid m oZr;replace hm:=hm.trans m;clear m;go_wp2_with fail;go_meet
   case rel=>exact ⟨rfl,r0,hm⟩
 case rest =>
 clear o1 o2 o3 ow B13 B15 B17 r0 hm HCI hl1 hl2;obtain ⟨rfl,r0,hm⟩:=hcut;go_wp2_with fail;with_reducible refine (DrawSeparateWords_any A0 d0 c0 _ _ _o0 hl0 r0).mono ?_
 rintro e wa61 ⟨r,s,A1,c1,es,Al,cl,l,rfl,dg,dx,o1,ol,m⟩;replace r0:=r0.mid m oZl;replace hm:=hm.trans m;clear m;have hl1:es.length≤1048576:=by have:=dg.len;omega
 have hll:l.length+sumL l≤1048576:=by have h1:=dx.sum;have h2:=dx.1;omega
 have hl3:l.length≤3:=dx.1;have HOX:Hid (OkSS l):=Lib.hid ⟨⟨by have:=dx.1;omega,fun x hx=>by have:=(dx.2 x hx).1;omega⟩,fun x hx=>(dx.2 x hx).2.1.ok⟩;have HX6:=Lib.hid (fun x hx=>(dx.2 x hx).1);clear dg dx;obtain ⟨rr,rs,res,b,hci⟩:=SeparateWordsIs_ex r s es l hl1 HOX.out hll;have hl2:=SeparateWordsIs_len hci hl1 HOX.out hll;have HCI:=Lib.hid hci;clear hci;have al:=Mid.alloc wa61 (.cells #[.int .i64 r,.int .i64 s,.slice A1 es.length c1] 26);have B19:=Box.new wa61 #[.int .i64 r,.int .i64 s,.slice A1 es.length c1] 26;obtain ⟨nB19,hnB19⟩:∃ g,wa61.heap.size=g:=⟨_,rfl⟩
 replace r0:=r0.mid al oZl;replace o1:=o1.mid al oZl;replace ol:=ol.mid al oZl;replace hm:=hm.trans al;rw [hnB19] at B19;obtain ⟨wB19,hwB19⟩:∃ x,wa61.alloc (.cells #[.int .i64 r,.int .i64 s,.slice A1 es.length c1] 26)=x:=⟨_,rfl⟩
 rw [hwB19] at r0 o1 ol B19 hm;clear al;have B19l:=B19.1;have B190:=B19.cell 0 rfl;have B191:=B19.cell 1 rfl;have B192:=B19.cell 2 rfl;go_wp2_with fail;clear B19l B190 B191 B192 hnB19 hwB19;with_reducible refine (simpl_SeparateWords r s A1 es c1 Al l cl _ _ _ o1 hl1 _ _ ol HOX.out hll rr rs res b HCI.out).mono ?_
 rintro e wa62 ⟨A2,c2,rfl,o2,m⟩;replace r0:=r0.mid m oZl;replace o1:=o1.mid m oZl;replace ol:=ol.mid m oZl;replace B19:=B19.mid m oZr;replace hm:=hm.trans m;clear m;have al:=Mid.alloc wa62 (.cells #[.int .i64 rr,.int .i64 rs,.slice A2 res.length c2] 26);have B21:=Box.new wa62 #[.int .i64 rr,.int .i64 rs,.slice A2 res.length c2] 26;obtain ⟨nB21,hnB21⟩:∃ g,wa62.heap.size=g:=⟨_,rfl⟩
 replace r0:=r0.mid al oZl;replace o1:=o1.mid al oZl;replace ol:=ol.mid al oZl;replace o2:=o2.mid al oZl;replace B19:=B19.mid al oZr;replace hm:=hm.trans al;rw [hnB21] at B21;obtain ⟨wB21,hwB21⟩:∃ x,wa62.alloc (.cells #[.int .i64 rr,.int .i64 rs,.slice A2 res.length c2] 26)=x:=⟨_,rfl⟩
 rw [hwB21] at r0 o1 ol o2 B19 B21 hm;clear al;have B19l:=B19.1;have B190:=B19.cell 0 rfl;have B191:=B19.cell 1 rfl;have B192:=B19.cell 2 rfl;go_wp2_with fail;clear B19l B190 B191 B192 hnB21 hwB21;with_reducible refine (sspec_SeparateWords r s A1 es c1 Al l cl _ _ _ o1 hl1 _ _ ol HOX.out hll rr rs res b HCI.out).mono ?_
 rintro e wa63 ⟨A3,c3,rfl,o3,m⟩;replace r0:=r0.mid m oZl;replace o1:=o1.mid m oZl;replace ol:=ol.mid m oZl;replace o2:=o2.mid m oZl;replace B19:=B19.mid m oZr;replace B21:=B21.mid m oZr;replace hm:=hm.trans m;clear m;have al:=Mid.alloc wa63 (.cells #[.int .i64 rr,.int .i64 rs,.slice A3 res.length c3] 26);have B23:=Box.new wa63 #[.int .i64 rr,.int .i64 rs,.slice A3 res.length c3] 26;obtain ⟨nB23,hnB23⟩:∃ g,wa63.heap.size=g:=⟨_,rfl⟩
 replace r0:=r0.mid al oZl;replace o1:=o1.mid al oZl;replace ol:=ol.mid al oZl;replace o2:=o2.mid al oZl;replace o3:=o3.mid al oZl;replace B19:=B19.mid al oZr;replace B21:=B21.mid al oZr;replace hm:=hm.trans al;rw [hnB23] at B23;obtain ⟨wB23,hwB23⟩:∃ x,wa63.alloc (.cells #[.int .i64 rr,.int .i64 rs,.slice A3 res.length c3] 26)=x:=⟨_,rfl⟩
 rw [hwB23] at r0 o1 ol o2 o3 B19 B21 B23 hm;clear al;have B21l:=B21.1;have B210:=B21.cell 0 rfl;have B211:=B21.cell 1 rfl;have B212:=B21.cell 2 rfl;have B23l:=B23.1;have B230:=B23.cell 0 rfl;have B231:=B23.cell 1 rfl;have B232:=B23.cell 2 rfl;go_wp2_with fail;clear B21l B210 B211 B212 B23l B230 B231 B232 hnB23 hwB23;with_reducible refine (spec_EqualGraphs rr rs A2 res c2 rr rs A3 res c3 _ _ _ _ _ (OG.rg o2) (OG.rg o3) hl2 hl2 true (by simp)).mono ?_
 rintro e wa64 ⟨rfl,m⟩;replace r0:=r0.mid m oZl;replace o1:=o1.mid m oZl;replace ol:=ol.mid m oZl;replace o2:=o2.mid m oZl;replace o3:=o3.mid m oZl;replace B19:=B19.mid m oZr;replace B21:=B21.mid m oZr;replace B23:=B23.mid m oZr;replace hm:=hm.trans m;clear m;have hc3:=o3.cnt.1;clear o1 o2 B19 B21;obtain ⟨lo3,hlo3⟩:∃ x,x=wB21.heap.size:=⟨_,rfl⟩
 obtain ⟨hi3,hhi3⟩:∃ x,x=wa63.heap.size:=⟨_,rfl⟩
 obtain ⟨lol,hlol⟩:∃ x,x=wc.heap.size:=⟨_,rfl⟩
 obtain ⟨hil,hhil⟩:∃ x,x=wa61.heap.size:=⟨_,rfl⟩
 rw [← hlo3,← hhi3] at o3;rw [← hlol,← hhil] at ol;clear hlo3 hhi3 hlol hhil;go_wp2_with fail;go_loopw [25] (fun iv wr=>∃ i:Nat,iv=.int .i64 i∧i≤l.length∧Box wr nB23 [.int .i64 rr,.int .i64 rs,.slice A3 res.length c3]∧OG wr lo3 hi3 A3 c3 res∧OSS wr lol hil 34 3 Al cl l∧RV wr 0 w.heap.size A0 (byts d0)∧Mid 0 0 w wr) (fun iv _=>l.length - (intOf iv).toNat)
 case atStart=>exact ⟨0,by go_num,Nat.zero_le _,B23,o3,ol,r0,hm⟩
 case round =>
  clear B23 o3 ol r0 hm;obtain ⟨i,rfl,hi,B23,o3,ol,r0,hm⟩:=hrel;have hi0:(0:Int)≤(i:Int):=by omega
  cases b with
  | false =>
   by_cases hlt:i < l.length
   ·have hlt2:(i:Int) < (l.length:Int):=by omega
    go_wp2_with fail;with_reducible refine (DrawIsSubgraph_any A0 d0 c0 _ _ _o0 hl0 r0).mono ?_
    rintro e wa71 ⟨r5,s5,A5,c5,es5,r6,s6,A6,c6,es6,rfl,dg5,dg6,o5,o6,m⟩;replace r0:=r0.mid m oZl;replace hm:=hm.trans m;clear m;have hl5:es5.length≤1048576:=by have:=dg5.len;omega
    have hl6:es6.length≤1048576:=by have:=dg6.len;omega
    obtain ⟨v,hv⟩:=IsSubgraphIs_ex r5 s5 es5 r6 s6 es6 hl5 hl6;have HV:=Lib.hid hv;clear hv dg5 dg6;have al:=Mid.alloc wa71 (.cells #[.int .i64 r5,.int .i64 s5,.slice A5 es5.length c5] 26);have BP:=Box.new wa71 #[.int .i64 r5,.int .i64 s5,.slice A5 es5.length c5] 26;obtain ⟨nBP,hnBP⟩:∃ g,wa71.heap.size=g:=⟨_,rfl⟩
    replace r0:=r0.mid al oZl;replace o5:=o5.mid al oZl;replace o6:=o6.mid al oZl;replace hm:=hm.trans al;rw [hnBP] at BP;obtain ⟨wBP,hwBP⟩:∃ x,wa71.alloc (.cells #[.int .i64 r5,.int .i64 s5,.slice A5 es5.length c5] 26)=x:=⟨_,rfl⟩
    rw [hwBP] at r0 o5 o6 BP hm;clear al;have hzBP:wBP.heap.size=nBP+1:=by rw [← hwBP,World.size_alloc,hnBP]
    have al:=Mid.alloc wBP (.cells #[.int .i64 r6,.int .i64 s6,.slice A6 es6.length c6] 26);have BQ:=Box.new wBP #[.int .i64 r6,.int .i64 s6,.slice A6 es6.length c6] 26;replace r0:=r0.mid al oZl;replace o5:=o5.mid al oZl;replace o6:=o6.mid al oZl;replace BP:=BP.mid al oZr;replace hm:=hm.trans al;rw [hzBP] at BQ;obtain ⟨wBQ,hwBQ⟩:∃ x,wBP.alloc (.cells #[.int .i64 r6,.int .i64 s6,.slice A6 es6.length c6] 26)=x:=⟨_,rfl⟩
    rw [hwBQ] at r0 o5 o6 BP BQ hm;clear al;go_upto_region 29 with fail
    have BP0:=wg_cell BP.1 (BP.cell 0 rfl);have BP1:=wg_cell BP.1 (BP.cell 1 rfl);have BP2:=wg_cell BP.1 (BP.cell 2 rfl);have BQ0:=wg_cell BQ.1 (BQ.cell 0 rfl);have BQ1:=wg_cell BQ.1 (BQ.cell 1 rfl);have BQ2:=wg_cell BQ.1 (BQ.cell 2 rfl);have hq0:=fun m os=>impl_IsSubgraph r5 s5 A5 es5 c5 r6 s6 A6 es6 c6 (wg wBQ m os) _ _ _ _ (OG.rg (o5.mid (Mid.ofWg wBQ m os) oZl)) (OG.rg (o6.mid (Mid.ofWg wBQ m os) oZl)) hl5 hl6 v HV.out;have hq1:=fun m os=>spec_IsSubgraph r5 s5 A5 es5 c5 r6 s6 A6 es6 c6 (wg wBQ m os) _ _ _ _ (OG.rg (o5.mid (Mid.ofWg wBQ m os) oZl)) (OG.rg (o6.mid (Mid.ofWg wBQ m os) oZl)) hl5 hl6 v HV.out;clear hnBP hwBP hzBP hwBQ;refine wp_region_quiet_wg (by kernel_rfl) (by kernel_rfl) ?_;repeat
     (with_reducible refine wpQuiet_step (fun K hK=>?_))
     go_simp
     first
      | ((with_reducible refine hK _ ?_);clear hK K)
      | (rw [if_neg (by decide)];(with_reducible refine hK _ ?_);clear hK K)
      | (apply Exists.intro;refine ⟨fun _=>?_,hK _ ?_⟩;((first | (go_at_call 55;with_reducible exact Calls.wg_of (hq0 _ _)) | (go_at_call 63;with_reducible exact Calls.wg_of (hq1 _ _))));clear hK K)
    with_reducible refine wpQuiet_nil ?_
    intro _ hw';obtain ⟨⟨nq,osq⟩,hw''⟩:=hw';subst hw'';have hwg:=Mid.ofWg wBQ nq osq;generalize wg wBQ nq osq=wq at hwg ⊢;have hm9:=hm.trans hwg;have hb9:=hm9.bel;rw [← hL0] at hb9;cases v
    ·go_wp2_with fail
     go_ret;exact ⟨rfl,hb9⟩
    ·go_wp2_with fail
     go_ret;exact ⟨rfl,hb9⟩
   ·have hlt2:¬ (i:Int) < (l.length:Int):=by omega
    go_wp2_with fail;with_reducible refine (DrawIsSubgraph_any A0 d0 c0 _ _ _o0 hl0 r0).mono ?_
    rintro e wa81 ⟨r5,s5,A5,c5,es5,r6,s6,A6,c6,es6,rfl,dg5,dg6,o5,o6,m⟩;replace r0:=r0.mid m oZl;replace hm:=hm.trans m;clear m;have hl5:es5.length≤1048576:=by have:=dg5.len;omega
    have hl6:es6.length≤1048576:=by have:=dg6.len;omega
    obtain ⟨v,hv⟩:=IsSubgraphIs_ex r5 s5 es5 r6 s6 es6 hl5 hl6;have HV:=Lib.hid hv;clear hv dg5 dg6;have al:=Mid.alloc wa81 (.cells #[.int .i64 r5,.int .i64 s5,.slice A5 es5.length c5] 26);have BP:=Box.new wa81 #[.int .i64 r5,.int .i64 s5,.slice A5 es5.length c5] 26;obtain ⟨nBP,hnBP⟩:∃ g,wa81.heap.size=g:=⟨_,rfl⟩
    replace r0:=r0.mid al oZl;replace o5:=o5.mid al oZl;replace o6:=o6.mid al oZl;replace hm:=hm.trans al;rw [hnBP] at BP;obtain ⟨wBP,hwBP⟩:∃ x,wa81.alloc (.cells #[.int .i64 r5,.int .i64 s5,.slice A5 es5.length c5] 26)=x:=⟨_,rfl⟩
    rw [hwBP] at r0 o5 o6 BP hm;clear al;have hzBP:wBP.heap.size=nBP+1:=by rw [← hwBP,World.size_alloc,hnBP]
    have al:=Mid.alloc wBP (.cells #[.int .i64 r6,.int .i64 s6,.slice A6 es6.length c6] 26);have BQ:=Box.new wBP #[.int .i64 r6,.int .i64 s6,.slice A6 es6.length c6] 26;replace r0:=r0.mid al oZl;replace o5:=o5.mid al oZl;replace o6:=o6.mid al oZl;replace BP:=BP.mid al oZr;replace hm:=hm.trans al;rw [hzBP] at BQ;obtain ⟨wBQ,hwBQ⟩:∃ x,wBP.alloc (.cells #[.int .i64 r6,.int .i64 s6,.slice A6 es6.length c6] 26)=x:=⟨_,rfl⟩
    rw [hwBQ] at r0 o5 o6 BP BQ hm;clear al;go_upto_region 29 with fail
    have BP0:=wg_cell BP.1 (BP.cell 0 rfl);have BP1:=wg_cell BP.1 (BP.cell 1 rfl);have BP2:=wg_cell BP.1 (BP.cell 2 rfl);have BQ0:=wg_cell BQ.1 (BQ.cell 0 rfl);have BQ1:=wg_cell BQ.1 (BQ.cell 1 rfl);have BQ2:=wg_cell BQ.1 (BQ.cell 2 rfl);have hq0:=fun m os=>impl_IsSubgraph r5 s5 A5 es5 c5 r6 s6 A6 es6 c6 (wg wBQ m os) _ _ _ _ (OG.rg (o5.mid (Mid.ofWg wBQ m os) oZl)) (OG.rg (o6.mid (Mid.ofWg wBQ m os) oZl)) hl5 hl6 v HV.out;have hq1:=fun m os=>spec_IsSubgraph r5 s5 A5 es5 c5 r6 s6 A6 es6 c6 (wg wBQ m os) _ _ _ _ (OG.rg (o5.mid (Mid.ofWg wBQ m os) oZl)) (OG.rg (o6.mid (Mid.ofWg wBQ m os) oZl)) hl5 hl6 v HV.out;clear hnBP hwBP hzBP hwBQ;refine wp_region_quiet_wg (by kernel_rfl) (by kernel_rfl) ?_;repeat
     (with_reducible refine wpQuiet_step (fun K hK=>?_))
     go_simp
     first
      | ((with_reducible refine hK _ ?_);clear hK K)
      | (rw [if_neg (by decide)];(with_reducible refine hK _ ?_);clear hK K)
      | (apply Exists.intro;refine ⟨fun _=>?_,hK _ ?_⟩;((first | (go_at_call 55;with_reducible exact Calls.wg_of (hq0 _ _)) | (go_at_call 63;with_reducible exact Calls.wg_of (hq1 _ _))));clear hK K)
    with_reducible refine wpQuiet_nil ?_
    intro _ hw';obtain ⟨⟨nq,osq⟩,hw''⟩:=hw';subst hw'';have hwg:=Mid.ofWg wBQ nq osq;generalize wg wBQ nq osq=wq at hwg ⊢;have hm9:=hm.trans hwg;have hb9:=hm9.bel;rw [← hL0] at hb9;cases v
    ·go_wp2_with fail
     go_ret;exact ⟨rfl,hb9⟩
    ·go_wp2_with fail
     go_ret;exact ⟨rfl,hb9⟩
  | true =>
   by_cases hlt:i < l.length
   ·have hlt2:(i:Int) < (l.length:Int):=by omega
    obtain ⟨bq,off,Ax,cx,x,hAl, -,hbq,hx,hcx,hrx⟩:=ol.rss.row hlt;have hxm:=List.mem_of_getElem? hx;obtain ⟨hco,hrr,hfin,hsub,h6,hall⟩:=sep_good HCI.out;have HNO:=Lib.hid (hall x hxm).2;have HOX2:=Lib.hid (HOX.out.2 x hxm);have hx6:=HX6.out x hxm;have hbw:bq < wr.heap.size:=Nat.lt_of_lt_of_le hbq ol.rss.size;subst hAl;clear hco hrr hfin hsub h6 hall hx hxm;have k0:=wg_cell B23.1 (B23.cell 0 rfl);have k1:=wg_cell B23.1 (B23.cell 1 rfl);have k2:=wg_cell B23.1 (B23.cell 2 rfl);have k3:=wg_cell hbw hcx;have hq0:=fun m os=>impl_Contains rr rs A3 res c3 Ax x cx (wg wr m os) _ _ _ _ (OG.rg (o3.mid (Mid.ofWg wr m os) oZl)) (hrx.mid (Mid.ofWg wr m os) oZl) hl2 hc3 (by omega) HOX2.out false (iff_of_false (by simp) (fun h=>absurd h.2 HNO.out));go_upto_region 26 with fail
    clear hcx;refine wp_region_quiet_wg (by kernel_rfl) (by kernel_rfl) ?_;repeat
     (with_reducible refine wpQuiet_step (fun K hK=>?_))
     go_simp
     first
      | ((with_reducible refine hK _ ?_);clear hK K)
      | (rw [if_neg (by decide)];(with_reducible refine hK _ ?_);clear hK K)
      | (apply Exists.intro;refine ⟨fun _=>?_,hK _ ?_⟩;((go_at_call 23;with_reducible exact Calls.wg_of (hq0 _ _)));clear hK K)
    with_reducible refine wpQuiet_nil ?_
    intro _ hw';obtain ⟨⟨nq,osq⟩,hw''⟩:=hw';subst hw'';have hwg:=Mid.ofWg wr nq osq;generalize wg wr nq osq=w6 at hwg ⊢;replace B23:=B23.mid hwg oZr;replace o3:=o3.mid hwg oZl;replace ol:=ol.mid hwg oZl;replace r0:=r0.mid hwg oZl;replace hm:=hm.trans hwg;clear hwg hq0 k0 k1 k2 k3 hrx;go_wp2_with fail;go_roundw
    case rel=>exact ⟨i+1,by go_num,by omega,B23,o3,ol,r0,hm⟩
    case measure=>simp [intOf];omega
   ·have hlt2:¬ (i:Int) < (l.length:Int):=by omega
    go_wp2_with fail;with_reducible refine (DrawIsSubgraph_any A0 d0 c0 _ _ _o0 hl0 r0).mono ?_
    rintro e wa91 ⟨r5,s5,A5,c5,es5,r6,s6,A6,c6,es6,rfl,dg5,dg6,o5,o6,m⟩;replace r0:=r0.mid m oZl;replace hm:=hm.trans m;clear m;have hl5:es5.length≤1048576:=by have:=dg5.len;omega
    have hl6:es6.length≤1048576:=by have:=dg6.len;omega
    obtain ⟨v,hv⟩:=IsSubgraphIs_ex r5 s5 es5 r6 s6 es6 hl5 hl6;have HV:=Lib.hid hv;clear hv dg5 dg6;have al:=Mid.alloc wa91 (.cells #[.int .i64 r5,.int .i64 s5,.slice A5 es5.length c5] 26);have BP:=Box.new wa91 #[.int .i64 r5,.int .i64 s5,.slice A5 es5.length c5] 26;obtain ⟨nBP,hnBP⟩:∃ g,wa91.heap.size=g:=⟨_,rfl⟩
    replace r0:=r0.mid al oZl;replace o5:=o5.mid al oZl;replace o6:=o6.mid al oZl;replace hm:=hm.trans al;rw [hnBP] at BP;obtain ⟨wBP,hwBP⟩:∃ x,wa91.alloc (.cells #[.int .i64 r5,.int .i64 s5,.slice A5 es5.length c5] 26)=x:=⟨_,rfl⟩
    rw [hwBP] at r0 o5 o6 BP hm;clear al;have hzBP:wBP.heap.size=nBP+1:=by rw [← hwBP,World.size_alloc,hnBP]
    have al:=Mid.alloc wBP (.cells #[.int .i64 r6,.int .i64 s6,.slice A6 es6.length c6] 26);have BQ:=Box.new wBP #[.int .i64 r6,.int .i64 s6,.slice A6 es6.length c6] 26;replace r0:=r0.mid al oZl;replace o5:=o5.mid al oZl;replace o6:=o6.mid al oZl;replace BP:=BP.mid al oZr;replace hm:=hm.trans al;rw [hzBP] at BQ;obtain ⟨wBQ,hwBQ⟩:∃ x,wBP.alloc (.cells #[.int .i64 r6,.int .i64 s6,.slice A6 es6.length c6] 26)=x:=⟨_,rfl⟩
    rw [hwBQ] at r0 o5 o6 BP BQ hm;clear al;go_upto_region 29 with fail
    have BP0:=wg_cell BP.1 (BP.cell 0 rfl);have BP1:=wg_cell BP.1 (BP.cell 1 rfl);have BP2:=wg_cell BP.1 (BP.cell 2 rfl);have BQ0:=wg_cell BQ.1 (BQ.cell 0 rfl);have BQ1:=wg_cell BQ.1 (BQ.cell 1 rfl);have BQ2:=wg_cell BQ.1 (BQ.cell 2 rfl);have hq0:=fun m os=>impl_IsSubgraph r5 s5 A5 es5 c5 r6 s6 A6 es6 c6 (wg wBQ m os) _ _ _ _ (OG.rg (o5.mid (Mid.ofWg wBQ m os) oZl)) (OG.rg (o6.mid (Mid.ofWg wBQ m os) oZl)) hl5 hl6 v HV.out;have hq1:=fun m os=>spec_IsSubgraph r5 s5 A5 es5 c5 r6 s6 A6 es6 c6 (wg wBQ m os) _ _ _ _ (OG.rg (o5.mid (Mid.ofWg wBQ m os) oZl)) (OG.rg (o6.mid (Mid.ofWg wBQ m os) oZl)) hl5 hl6 v HV.out;clear hnBP hwBP hzBP hwBQ;refine wp_region_quiet_wg (by kernel_rfl) (by kernel_rfl) ?_;repeat
     (with_reducible refine wpQuiet_step (fun K hK=>?_))
     go_simp
     first
      | ((with_reducible refine hK _ ?_);clear hK K)
      | (rw [if_neg (by decide)];(with_reducible refine hK _ ?_);clear hK K)
      | (apply Exists.intro;refine ⟨fun _=>?_,hK _ ?_⟩;((first | (go_at_call 55;with_reducible exact Calls.wg_of (hq0 _ _)) | (go_at_call 63;with_reducible exact Calls.wg_of (hq1 _ _))));clear hK K)
    with_reducible refine wpQuiet_nil ?_
    intro _ hw';obtain ⟨⟨nq,osq⟩,hw''⟩:=hw';subst hw'';have hwg:=Mid.ofWg wBQ nq osq;generalize wg wBQ nq osq=wq at hwg ⊢;have hm9:=hm.trans hwg;have hb9:=hm9.bel;rw [← hL0] at hb9;cases v
    ·go_wp2_with fail
     go_ret;exact ⟨rfl,hb9⟩
    ·go_wp2_with fail
     go_ret;exact ⟨rfl,hb9⟩
end Go.Proofs.YthampgpcajmopaaGreat