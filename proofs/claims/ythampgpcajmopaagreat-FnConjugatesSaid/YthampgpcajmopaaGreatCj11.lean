/- Contracts and lemmas of this seat, many texts in one: see the words ahead of each. No condition beyond those typed in each lemma. -/
import Derived.Test.YthampgpcajmopaaGreatCj10
import Derived.Test.YthampgpcajmopaaGreatCj2
import Derived.Test.YthampgpcajmopaaGreatCj4
import Derived.Test.YthampgpcajmopaaGreatCj5
import Derived.Test.YthampgpcajmopaaGreatCj6
import Derived.Test.YthampgpcajmopaaGreatCj9
import Derived.Test.YthampgpcajmopaaGreatCj1
import Derived.Laws.Bits128
import Derived.IntWalk
import Derived.Test.YthampgpcajmopaaGreatCj3
import Derived.Test.YthampgpcajmopaaGreatCj7
import Derived.Test.YthampgpcajmopaaGreatCj8

namespace Go.Proofs.YthampgpcajmopaaGreat
set_option linter.unusedVariables false
set_option linter.unusedSimpArgs false
set_option maxHeartbeats 40000000
set_option maxRecDepth 100000
section
open Go.RowKit
theorem Mid.grownOne {G:Nat} {w w':World} (m:Mid G (G+1) w w'):w.grownBy w' (some G):=⟨m.os,m.tape,m.output,m.size,fun k hk hne=>m.block k hk fun h=>hne (by rw [show k=G by omega])⟩
theorem spec_CyclicGraph_cor (r n:Nat) (A:Option Addr) (es:List Ed) (c:Nat) (w:World) (lo hi:Nat) (hr:RG w lo hi A es) (hco:IsCor r n es) (Q:(Int × List Ed) × List Int) (hQ:cycA r 40 (((n:Int),es),[])=Q) :
  Calls Tryz.prog 43 #[graV r n A es.length c] w fun e w'=>∃ A1 c1 A2 c2,e=.returned (.tuple #[graV r Q.1.1 A1 Q.1.2.length c1,.slice A2 Q.2.length c2])∧OG w' w.heap.size w'.heap.size A1 c1 Q.1.2∧OI w' w.heap.size w'.heap.size A2 c2 Q.2∧Mid 0 0 w w':=by
 have hn40:n≤40:=by have:=hco.gr.size;omega
 have hr3:r≤3:=by have:=hco.gr.rank;omega
 have hl:=hco.gr.len;have hal:=Mid.alloc ((w.alloc (.cells #[.int .i64 r,.int .i64 n,.slice A es.length c] 26)).alloc (.cells #[.int .i64 0,.int .i64 0,.slice none 0 0] 26)) (.cells #[] 3);have hm0:Mid 0 0 w (((w.alloc (.cells #[.int .i64 r,.int .i64 n,.slice A es.length c] 26)).alloc (.cells #[.int .i64 0,.int .i64 0,.slice none 0 0] 26)).alloc (.cells #[] 3)):=((Mid.alloc _ _).trans (Mid.alloc _ _)).trans (Mid.alloc _ _);have b0:=((Box.new w #[.int .i64 r,.int .i64 n,.slice A es.length c] 26).mid (Mid.alloc _ (.cells #[.int .i64 0,.int .i64 0,.slice none 0 0] 26)) oZr).mid hal oZr;have b2:=(Box.new (w.alloc (.cells #[.int .i64 r,.int .i64 n,.slice A es.length c] 26)) #[.int .i64 0,.int .i64 0,.slice none 0 0] 26).mid hal oZr;have O0:=owns_empty ((w.alloc (.cells #[.int .i64 r,.int .i64 n,.slice A es.length c] 26)).alloc (.cells #[.int .i64 0,.int .i64 0,.slice none 0 0] 26)) 3 1;simp only [World.size_alloc] at b2 O0;have HCO:=Lib.hid hco;have HQ:=Lib.hid hQ;have HS0:=Lib.hid (CycOk.start hco);clear hco hQ hal;go_enter Tryz.func43,Tryz.ntmps43
 go_upto_region 2 with fail
 generalize hw1:(((w.alloc (.cells #[.int .i64 r,.int .i64 n,.slice A es.length c] 26)).alloc (.cells #[.int .i64 0,.int .i64 0,.slice none 0 0] 26)).alloc (.cells #[] 3))=w1 at hm0 b0 b2 O0 ⊢;clear hw1;have p0:=b0.cell 0 rfl;have p1:=b0.cell 1 rfl;have p2:=b0.cell 2 rfl;go_wp2_with fail;with_reducible refine (spec_IsSubgroup r n A es c _ _ _ (hr.mid hm0 oZl) (by omega) true (iff_of_true rfl HCO.out)).mono ?_
 rintro en w2 ⟨rfl,hm2⟩;replace b0:=b0.mid hm2 oZr;replace b2:=b2.mid hm2 oZr;replace O0:=owns_mid O0 hm2 oZl;replace hm0:=hm0.trans hm2;clear p0 p1 p2 hm2;have p0:=b0.cell 0 rfl;have p1:=b0.cell 1 rfl;have p2:=b0.cell 2 rfl;go_wp2_with fail;with_reducible refine (spec_l4Copy r n A es c _ _ _ (hr.mid hm0 oZl) (by omega)).mono ?_
 rintro en w3 ⟨A1,c1,rfl,ho,hm3⟩;have hs2:w.heap.size+2≤w2.heap.size:=b2.1;have hs23:w.heap.size+2 < w2.heap.size:=by
  have:=O0.lt (w.heap.size+2) rfl;omega
 replace b2:=b2.mid hm3 oZr;replace O0:=owns_mid O0 hm3 oZl;replace hm0:=hm0.trans hm3;clear p0 p1 p2 b0;have hsz3:=hm3.size;have hown0:=owns_base (base':=w.heap.size+2) ho.ov.2.1 hs2;have hbk0:Value.ownBlock (.slice A1 es.length c1)≠some w3.heap.size:=fun h=>by have:=ho.ov.2.2 _ h;omega
 have hal:=Mid.alloc w3 (.cells #[.int .i64 r,.int .i64 n,.slice A1 es.length c1] 26);have Y3:=Box.new w3 #[.int .i64 r,.int .i64 n,.slice A1 es.length c1] 26;replace b2:=b2.mid hal oZr;replace hown0:=owns_mid hown0 hal oZl;replace O0:=owns_mid O0 hal oZl;replace hm0:=hm0.trans hal;go_upto_region 5 with fail
 generalize hw4:w3.alloc (.cells #[.int .i64 r,.int .i64 n,.slice A1 es.length c1] 26)=w4 at Y3 O0 b2 hown0 hm0 ⊢;obtain ⟨G,hG⟩:∃ G,w3.heap.size=G:=⟨_,rfl⟩
 rw [hG] at Y3 hbk0 hsz3 ⊢;have hGw:w.heap.size+2 < G:=by omega
 clear hw4 hal hm3 ho hG hsz3 hs2 hs23;have HP0:Hid (Value.ownBlock (.slice (some (⟨w.heap.size+2,0,none⟩:Addr)) 0 0)≠some G):=Lib.hid (fun h=>by have h9:=Option.some.inj (show some (w.heap.size+2)=some G from h);omega);go_wp2_with fail;go_loopw [4,6] (fun l iv wr=>∃ (m s1:Nat) (es1:List Ed) (A2:Option Addr) (c2:Nat) (Ap:Option Addr) (np cp:Nat) (p:List Int),l=.slice Ap np cp∧iv=.int .i64 np∧np+s1≤40∧Hid (p.length=np)∧Hid (cycA r m (((s1:Int),es1),p)=Q)∧s1≤m∧Hid (CycOk r n es (((s1:Int),es1),p))∧wr.ownsRow (w.heap.size+2) 3 1 (.slice Ap np cp) np (ints p)∧Hid (Value.ownBlock (.slice Ap np cp)≠some G) ∧
   Hid (wr.ownsRow (w.heap.size+2) 68 3 (.slice A2 es1.length c2) es1.length (ints (edI es1)))∧Hid (Value.ownBlock (.slice A2 es1.length c2)≠some G)∧Box wr (w.heap.size+1) [.int .i64 0,.int .i64 0,.slice none 0 0]∧Box wr G [.int .i64 r,.int .i64 s1,.slice A2 es1.length c2]∧Mid 0 0 w wr) (fun _ _ wr=>sizeAt wr G)
 case atStart=>exact ⟨40,n,es,A1,c1,_,0,0,[],rfl,rfl,by omega,Lib.hid rfl,HQ,hn40,HS0,O0,HP0,Lib.hid hown0,Lib.hid hbk0,b2,Y3,hm0⟩
 case round =>
  clear O0 hown0 b2 Y3 hm0 hbk0 HP0;obtain ⟨m,s1,es1,A2,c2,Ap,np,cp,p,rfl,rfl,hnp,HPL,HQm,hsm,HOK,hpath,HPB,HE,HBK,b2,Y3,hm⟩:=hrel;have hg1:=HOK.out.cor.gr;simp only at hg1;have hl1:=hg1.len;have hs1:1≤s1:=by have:=hg1.size;omega
  have hnp1:(np:Int) < 40:=by omega
  have hlsz:=Lib.hid (sizeAt_box Y3);have HGL:=Lib.hid (show ∀ e∈es1,1≤e.l∧e.l≤3 from fun e he=>by have:=hg1.all e he;unfold InG at this;omega);have hrg:=(owns_rv HE.out).rg;have HRG:=Lib.hid hrg;clear hg1 hrg;have y0:=Y3.cell 0 rfl;have y1:=Y3.cell 1 rfl;have y2:=Y3.cell 2 rfl;have exitS:¬ (1 < (s1:Int)∧deg es1 0=1)→Hid (Q=(((s1:Int),es1),p)):=fun hc=>Lib.hid (by rw [← HQm.out,cycA_stop (q:=(((s1:Int),es1),p)) hc]);have HEX:=Lib.hid exitS;clear exitS;by_cases hgt:1 < s1
  ·have hgt2:(1:Int) < (s1:Int):=by omega
   go_wp2_with fail;with_reducible refine (spec_DegreeOf r s1 A2 es1 c2 0 _ _ _ HRG.out (by omega)).mono ?_
   rintro en w5 ⟨rfl,hm5⟩;have HE5:=Lib.hid (owns_mid HE.out hm5 oZl);replace b2:=b2.mid hm5 oZr;replace Y3:=Y3.mid hm5 oZr;replace hpath:=owns_mid hpath hm5 oZl;replace hm:=hm.trans hm5;clear y0 y1 y2 HE HRG;have y0:=Y3.cell 0 rfl;have y1:=Y3.cell 1 rfl;have y2:=Y3.cell 2 rfl;have hG5:G < w5.heap.size:=Y3.1;by_cases hdeg:deg es1 0=1
   ·rw [hdeg]
    have HDG:=Lib.hid hdeg;clear hdeg;go_wp2_with fail;with_reducible refine (spec_l5Letters r _ (by omega)).mono ?_
    rintro en w6 ⟨AL,cL,rfl,hL,hm6⟩;have HE6:=Lib.hid (owns_mid HE5.out hm6 oZl);replace b2:=b2.mid hm6 oZr;replace Y3:=Y3.mid hm6 oZr;replace hpath:=owns_mid hpath hm6 oZl;replace hm:=hm.trans hm6;clear y0 y1 y2 HE5 hm5 hm6;obtain ⟨LL,hLL⟩:∃ LL,(lets r).length=LL:=⟨_,rfl⟩
    have hLL6:LL≤6:=by have:=lets_len r;omega
    rw [hLL];have HLn:=Lib.hid hLL;have HLS:=Lib.hid hL;clear hLL hL;have hG6:G < w6.heap.size:=Y3.1;go_wp2_with fail;go_loopw [4,8] (fun pv iv wr2=>∃ j:Nat,pv=.slice Ap np cp∧iv=.int .i64 j∧j≤LL∧Hid (∀ i,i < j→∀ y,(lets r)[i]?=some y→nextV es1 0 y < 0)∧Mid 0 0 w6 wr2) (fun _ iv _=>LL - (intOf iv).toNat)
    case atStart=>exact ⟨0,rfl,by go_num,Nat.zero_le _,Lib.hid (fun i hi=>absurd hi (Nat.not_lt_zero _)),Mid.refl _ _ _⟩
    case round =>
     obtain ⟨j,rfl,rfl,hj,HB,hmx⟩:=hrel;by_cases hlt:j < LL
     ·have hj0:(0:Int)≤(j:Int):=by omega
      have hj1:(j:Int) < (LL:Int):=by omega
      obtain ⟨B4,o4,x,rfl,hB4,hx,hcx⟩:=(HLS.out.mid hmx oZl).at (k:=j) (by rw [HLn.out];exact hlt);have hxm:=lets_le (List.mem_of_getElem? hx);have HX:=Lib.hid hx;have HEx:=Lib.hid (owns_mid HE6.out hmx oZl);have hpx:=owns_mid hpath hmx oZl;have b2x:=b2.mid hmx oZr;have Y3x:=Y3.mid hmx oZr;have hmm:=hm.trans hmx;have hB4s:B4 < wr.heap.size:=Nat.lt_of_lt_of_le hB4 hmx.size;clear hx;have k0:=wg_cell Y3x.1 (Y3x.cell 0 rfl);have k1:=wg_cell Y3x.1 (Y3x.cell 1 rfl);have k2:=wg_cell Y3x.1 (Y3x.cell 2 rfl);have k4:=wg_cell hB4s hcx;have hA:=fun m os=>spec_NextVertex r s1 A2 es1 c2 0 x (wg wr m os) _ _ ((owns_rv HEx.out).rg.mid (Mid.ofWg wr m os) oZl) (by omega) HGL.out (by omega) (by omega);go_upto_region 12 with fail
      refine wp_region_quiet_wg (by kernel_rfl) (by kernel_rfl) ?_;repeat
       (with_reducible refine wpQuiet_step (fun K hK=>?_))
       go_simp
       first
        | ((with_reducible refine hK _ ?_);clear hK K)
        | (rw [if_neg (by decide)];(with_reducible refine hK _ ?_);clear hK K)
        | (apply Exists.intro;refine ⟨fun _=>?_,hK _ ?_⟩;((go_at_call 138;exact Calls.wg_of (hA _ _)));clear hK K)
      with_reducible refine wpQuiet_nil ?_
      intro _ hw';obtain ⟨⟨nq,osq⟩,hw''⟩:=hw';subst hw'';have hm7:=Mid.ofWg wr nq osq;have hcx7:=wg_cell hB4s hcx nq osq;generalize wg wr nq osq=w7 at hm7 hcx7 ⊢;clear hA k0 k1 k2 k4 hcx;obtain ⟨t,ht⟩:∃ t,nextV es1 0 x=t:=⟨_,rfl⟩
      rw [ht];have HT:=Lib.hid ht;clear ht;by_cases ht0:0≤t
      ·-- the base moves
       have hf1:fstL r es1=some x:=fstL_at HX.out (by rw [HT.out];exact ht0) HB.out;obtain ⟨o2,hless⟩:=HOK.out.step ⟨hgt2,HDG.out⟩ hf1;have hsp:=(fstL_some hf1).2.2;simp only at o2 hless hsp;rw [HT.out] at o2 hless hsp;have htr:=(hsp.rng HOK.out.cor.gr.all).2.1;simp only at htr;have hQ2:cycA r (m - 1) (moveA r s1 es1 t,p++[x])=Q:=by
        have h9:=HQm.out;rw [show m=(m - 1)+1 by omega,cycA_go (q:=(((s1:Int),es1),p)) ⟨hgt2,HDG.out⟩ hf1] at h9;simp only at h9
        rwa [HT.out] at h9
       have hmv:MoveIs r s1 es1 t (moveA r s1 es1 t).1 (moveA r s1 es1 t).2 true:=.inl ⟨rfl,⟨HOK.out.cor.fol,htr⟩,rfl,rfl⟩;obtain ⟨mv,hmve⟩:∃ mv,moveA r s1 es1 t=mv:=⟨_,rfl⟩
       rw [hmve] at o2 hless hQ2 hmv;obtain ⟨rs2,res2⟩:=mv;simp only at hless hmv;obtain ⟨s2,hs2e⟩:∃ k:Nat,rs2=k:=⟨rs2.toNat,by have:=o2.cor.gr.size;simp only at this;omega⟩
       subst hs2e;have HO2:=Lib.hid o2;have HQ2:=Lib.hid hQ2;have HMV:=Lib.hid hmv;have hl2:res2.length≤120:=o2.cor.gr.len;have hs21:s2 < s1:=by omega
       have hE7:=owns_mid HEx.out hm7 oZl;have hpath7:=owns_mid hpx hm7 oZl;have b27:=b2x.mid hm7 oZr;have Y37:=Y3x.mid hm7 oZr;have hmm7:=hmm.trans hm7;have hB47:B4 < w7.heap.size:=Nat.lt_of_lt_of_le hB4s hm7.size;have HL:=Lib.hid hpath7;have HE7:=Lib.hid hE7;have hG7:G < w7.heap.size:=Y37.1;clear o2 hQ2 hmv hmve hless hsp hf1 HEx hpx b2x Y3x hmm hm7 hpath b2 Y3 hm hmx HE6 hE7 hpath7;go_upto_region 15 with (at_builtin;refine wpList_pushI2 rfl _ _ rfl (w.heap.size+2) Ap np cp p rfl HL.out x rfl (by omega) (by omega) ?_;intro A9 c9 w9 hl9 hgr9 hat9)
       have hm9:=Mid.of_grownRow HL.out hgr9;have hE9:=HE7.out.kept hgr9 (owns_ne HE7.out HL.out (by decide));have hpb9:Value.ownBlock (.slice A9 (np+1) c9)≠some G:=fun h=>by
        rcases hat9 with h9 | h9
        ·exact HPB.out (h9 ▸ h)
        ·rw [h9] at h
         have h8:=Option.some.inj h;omega
       have HPB9:=Lib.hid hpb9;have hl9':=Lib.hid hl9;replace Y37:=Y37.grown hgr9 HPB.out;replace b27:=b27.mid hm9 (Or.inl (by omega));replace hmm7:=hmm7.transNew hm9 (Or.inl (by omega));have HE9:=Lib.hid hE9;have hec:es1.length≤c2:=by
        obtain ⟨A',c',hv0,hsc,hcm⟩:=owns_shape hE9;injection hv0 with _ _ hv0
        omega
       clear hE9 HE7 HL hgr9 hat9 hm9 hpb9 hcx7 hl9;have y0:=Y37.cell 0 rfl;have y1:=Y37.cell 1 rfl;have y2:=Y37.cell 2 rfl;go_wp2_with fail;with_reducible refine (spec_MoveBase r s1 A2 es1 c2 t _ _ _ (owns_rv HE9.out).rg (by omega) (by omega) s2 res2 true HMV.out).mono ?_
       rintro en w8 ⟨A3,c3,rfl,hog,hm8⟩;have hG9:G < w9.heap.size:=Y37.1;have hw29:w.heap.size+2≤w9.heap.size:=by omega
       have hpath8:=owns_mid hl9'.out hm8 oZl;replace b27:=b27.mid hm8 oZr;replace Y37:=Y37.mid hm8 oZr;replace hmm7:=hmm7.trans hm8;clear y0 y1 y2 HE9 hl9';have hG8:G < w8.heap.size:=Y37.1;have yf:=Y37.2.2;have y0:=Y37.cell 0 rfl;have y1:=Y37.cell 1 rfl;have y2:=Y37.cell 2 rfl;have hst:=(Mid.setAt w8 G 0 (.int .i64 r)).trans ((Mid.setAt (w8.setCell ⟨G,0,none⟩ (.int .i64 r)) G 1 (.int .i64 s2)).trans (Mid.setAt ((w8.setCell ⟨G,0,none⟩ (.int .i64 r)).setCell ⟨G,1,none⟩ (.int .i64 s2)) G 2 (.slice A3 res2.length c3)));have Y5:=((Y37.set 0 (.int .i64 r) (by simp) rfl).set 1 (.int .i64 s2) (by simp) rfl).set 2 (.slice A3 res2.length c3) (by simp) rfl;have hm6:=((hmm7.storeNew (p:=⟨G,0,none⟩) (by show w.heap.size≤G;omega) (.int .i64 r)).storeNew (p:=⟨G,1,none⟩) (by show w.heap.size≤G;omega) (.int .i64 s2)).storeNew (p:=⟨G,2,none⟩) (by show w.heap.size≤G;omega) (.slice A3 res2.length c3);have b6:=b27.mid hst (Or.inl (by omega));have hleft6:=owns_other hpath8 hst.grownOne HPB9.out;have hog6:=OG.mid hog hst (Or.inl hG9);have hE6:=owns_base hog6.ov.2.1 hw29;have hbk6:Value.ownBlock (.slice A3 res2.length c3)≠some G:=fun h=>by have:=(hog6.ov.2.1.lt _ h).1;omega
       have hmsz:=hlsz.out;have hplx:(p++[x]).length=np+1:=by rw [List.length_append,HPL.out];rfl
       have HL6:=Lib.hid hleft6;have HE6:=Lib.hid hE6;have HY:=Lib.hid Y5;have HB6:=Lib.hid b6;have HM:=Lib.hid hm6;clear hleft6 hE6 Y5 b6 hm6 hog6 hst hpath8 b27 Y37 hmm7 hog hm8 HOK HQm HB HX HT HMV HEX;go_wp2_with fail;go_roundw
       case rel=>exact ⟨m - 1,s2,res2,A3,c3,A9,np+1,c9,p++[x],rfl,by go_num,by omega,Lib.hid hplx,HQ2,by omega,HO2,HL6.out,HPB9,HE6,Lib.hid hbk6,HB6.out,HY.out,HM.out⟩
       case measure=>rw [hmsz,sizeAt_box HY.out];omega
      ·have HB2:Hid (∀ i,i < j+1→∀ y,(lets r)[i]?=some y→nextV es1 0 y < 0):=Lib.hid fun i hi y hy=>by
        by_cases h9:i=j
        ·subst h9
         have h8:=HX.out.symm.trans hy;rw [← Option.some.inj h8,HT.out];omega
        ·exact HB.out i (by omega) y hy
       have hmx7:=hmx.trans hm7;clear HEx hpx b2x Y3x hmm hcx7;go_wp2_with fail;go_roundw
       case rel=>exact ⟨j+1,rfl,by go_num,by omega,HB2,hmx7⟩
       case measure=>simp [intOf];omega
     ·exfalso
      obtain ⟨x,hx⟩:=HOK.out.next ⟨hgt2,HDG.out⟩;exact fstL_out (fun i hi=>HB.out i (by rw [HLn.out] at hi;omega)) hx
   ·have hdg2:((deg es1 0:Nat):Int)≠1:=by omega
    have hdgb:(((deg es1 0:Nat):Int) == 1)=false:=by simpa using hdg2
    have hQe:=(HEX.out (fun h=>hdeg h.2)).out;clear HQ HQm HEX;subst hQe;have af:=b2.2.2;have hb5:w.heap.size+1 < w5.heap.size:=b2.1;have a0:=b2.cell 0 rfl;have a1:=b2.cell 1 rfl;have a2:=b2.cell 2 rfl;have HEO:=Lib.hid HE5.out;have HPO:=Lib.hid hpath;have HMO:=Lib.hid hm;clear hpath hm;go_wp2_with fail;refine bodyPost_ret (v:=.tuple #[.agg #[.int .i64 r,.int .i64 s1,.slice A2 es1.length c2],.slice Ap np cp]) (by simp [results,Tryz.results43,go_sem,a0,a1,a2,af,hb5]) rfl ⟨A2,c2,Ap,cp,by rw [HPL.out],?_,?_,?_⟩
    ·have h0:OG w5 (w.heap.size+2) w5.heap.size A2 c2 es1:=⟨Nat.le_refl _,HEO.out,fun g hg=>(HEO.out.lt g hg).2⟩
     refine OG.wide (OG.mid h0 (a:=w.heap.size+1) (b:=w.heap.size+2) ?_ (Or.inl (Nat.le_refl _))) (by omega) (by simp;try omega) (Nat.le_refl _);repeat (first | exact Mid.refl _ _ _ | refine Mid.trans ?_ (Mid.alloc _ _).zero | refine Mid.stored ?_ _ (by simp;try omega) (by simp;try omega))
    ·have h0:OI w5 (w.heap.size+2) w5.heap.size Ap cp p:=by
      have h1:=HPO.out;rw [← HPL.out] at h1;exact ⟨Nat.le_refl _,h1,fun g hg=>(h1.lt g hg).2⟩
     refine OV.wide (OV.mid h0 (a:=w.heap.size+1) (b:=w.heap.size+2) ?_ (Or.inl (Nat.le_refl _))) (by omega) (by simp;try omega) (Nat.le_refl _);repeat (first | exact Mid.refl _ _ _ | refine Mid.trans ?_ (Mid.alloc _ _).zero | refine Mid.stored ?_ _ (by simp;try omega) (by simp;try omega))
    ·repeat (first | exact HMO.out | refine Mid.trans ?_ (Mid.alloc _ _) | refine Mid.storeNew ?_ (by simp;try omega) _)
  ·have hgt2:¬ (1:Int) < (s1:Int):=by omega
   have hQe:=(HEX.out (fun h=>hgt (by have:=h.1;omega))).out;clear HQ HQm HEX;subst hQe;have af:=b2.2.2;have hb5:w.heap.size+1 < wr.heap.size:=b2.1;have a0:=b2.cell 0 rfl;have a1:=b2.cell 1 rfl;have a2:=b2.cell 2 rfl;have HEO:=Lib.hid HE.out;have HPO:=Lib.hid hpath;have HMO:=Lib.hid hm;clear hpath hm;go_wp2_with fail;refine bodyPost_ret (v:=.tuple #[.agg #[.int .i64 r,.int .i64 s1,.slice A2 es1.length c2],.slice Ap np cp]) (by simp [results,Tryz.results43,go_sem,a0,a1,a2,af,hb5]) rfl ⟨A2,c2,Ap,cp,by rw [HPL.out],?_,?_,?_⟩
   ·have h0:OG wr (w.heap.size+2) wr.heap.size A2 c2 es1:=⟨Nat.le_refl _,HEO.out,fun g hg=>(HEO.out.lt g hg).2⟩
    refine OG.wide (OG.mid h0 (a:=w.heap.size+1) (b:=w.heap.size+2) ?_ (Or.inl (Nat.le_refl _))) (by omega) (by simp;try omega) (Nat.le_refl _);repeat (first | exact Mid.refl _ _ _ | refine Mid.trans ?_ (Mid.alloc _ _).zero | refine Mid.stored ?_ _ (by simp;try omega) (by simp;try omega))
   ·have h0:OI wr (w.heap.size+2) wr.heap.size Ap cp p:=by
     have h1:=HPO.out;rw [← HPL.out] at h1;exact ⟨Nat.le_refl _,h1,fun g hg=>(h1.lt g hg).2⟩
    refine OV.wide (OV.mid h0 (a:=w.heap.size+1) (b:=w.heap.size+2) ?_ (Or.inl (Nat.le_refl _))) (by omega) (by simp;try omega) (Nat.le_refl _);repeat (first | exact Mid.refl _ _ _ | refine Mid.trans ?_ (Mid.alloc _ _).zero | refine Mid.stored ?_ _ (by simp;try omega) (by simp;try omega))
   ·repeat (first | exact HMO.out | refine Mid.trans ?_ (Mid.alloc _ _) | refine Mid.storeNew ?_ (by simp;try omega) _)
theorem spec_CyclicGraph_no (r s:Int) (A:Option Addr) (es:List Ed) (c:Nat) (w:World) (lo hi:Nat) (hr:RG w lo hi A es) (hl:es.length≤1048576) (hco:¬ IsCor r s es) :
  Calls Tryz.prog 43 #[graV r s A es.length c] w fun e w'=>∃ A1 c1 A2 c2,e=.returned (.tuple #[graV r s A1 es.length c1,.slice A2 0 c2])∧OG w' w.heap.size w'.heap.size A1 c1 es∧OI w' w.heap.size w'.heap.size A2 c2 []∧Mid 0 0 w w':=by
 have hal:=Mid.alloc ((w.alloc (.cells #[.int .i64 r,.int .i64 s,.slice A es.length c] 26)).alloc (.cells #[.int .i64 0,.int .i64 0,.slice none 0 0] 26)) (.cells #[] 3);have hm0:Mid 0 0 w (((w.alloc (.cells #[.int .i64 r,.int .i64 s,.slice A es.length c] 26)).alloc (.cells #[.int .i64 0,.int .i64 0,.slice none 0 0] 26)).alloc (.cells #[] 3)):=((Mid.alloc _ _).trans (Mid.alloc _ _)).trans (Mid.alloc _ _);have b0:=((Box.new w #[.int .i64 r,.int .i64 s,.slice A es.length c] 26).mid (Mid.alloc _ (.cells #[.int .i64 0,.int .i64 0,.slice none 0 0] 26)) oZr).mid hal oZr;have b2:=(Box.new (w.alloc (.cells #[.int .i64 r,.int .i64 s,.slice A es.length c] 26)) #[.int .i64 0,.int .i64 0,.slice none 0 0] 26).mid hal oZr;have O0:=owns_empty ((w.alloc (.cells #[.int .i64 r,.int .i64 s,.slice A es.length c] 26)).alloc (.cells #[.int .i64 0,.int .i64 0,.slice none 0 0] 26)) 3 1;simp only [World.size_alloc] at b2 O0;have HCO:=Lib.hid hco;clear hco hal;go_enter Tryz.func43,Tryz.ntmps43
 go_upto_region 2 with fail
 generalize hw1:(((w.alloc (.cells #[.int .i64 r,.int .i64 s,.slice A es.length c] 26)).alloc (.cells #[.int .i64 0,.int .i64 0,.slice none 0 0] 26)).alloc (.cells #[] 3))=w1 at hm0 b0 b2 O0 ⊢;clear hw1;have p0:=b0.cell 0 rfl;have p1:=b0.cell 1 rfl;have p2:=b0.cell 2 rfl;go_wp2_with fail;with_reducible refine (spec_IsSubgroup r s A es c _ _ _ (hr.mid hm0 oZl) hl false (iff_of_false (by simp) HCO.out)).mono ?_
 rintro en w2 ⟨rfl,hm2⟩;replace b0:=b0.mid hm2 oZr;replace b2:=b2.mid hm2 oZr;replace O0:=owns_mid O0 hm2 oZl;replace hm0:=hm0.trans hm2;clear p0 p1 p2 hm2;have p0:=b0.cell 0 rfl;have p1:=b0.cell 1 rfl;have p2:=b0.cell 2 rfl;go_wp2_with fail;with_reducible refine (spec_l4Copy r s A es c _ _ _ (hr.mid hm0 oZl) hl).mono ?_
 rintro en w3 ⟨A1,c1,rfl,ho,hm3⟩;have hs2:w.heap.size+2≤w2.heap.size:=b2.1;replace b2:=b2.mid hm3 oZr;replace O0:=owns_mid O0 hm3 oZl;replace hm0:=hm0.trans hm3;clear p0 p1 p2 b0;have af:=b2.2.2;have hb5:w.heap.size+1 < w3.heap.size:=b2.1;have a0:=b2.cell 0 rfl;have a1:=b2.cell 1 rfl;have a2:=b2.cell 2 rfl;have HO:=Lib.hid ho;have HP:=Lib.hid O0;have HM:=Lib.hid hm0;clear ho O0 hm0 b2;go_wp2_with fail;refine bodyPost_ret (v:=.tuple #[.agg #[.int .i64 r,.int .i64 s,.slice A1 es.length c1],.slice (some ⟨w.heap.size+2,0,none⟩) 0 0]) (by simp [results,Tryz.results43,go_sem,a0,a1,a2,af,hb5]) rfl ⟨A1,c1,_,0,rfl,?_,?_,?_⟩
 ·refine OG.wide (OG.mid HO.out (a:=w.heap.size+1) (b:=w.heap.size+2) ?_ (Or.inl (by omega))) (by omega) (by simp;try omega) (Nat.le_refl _)
  repeat (first | exact Mid.refl _ _ _ | refine Mid.trans ?_ (Mid.alloc _ _).zero | refine Mid.stored ?_ _ (by simp;try omega) (by simp;try omega))
 ·have h0:OI w3 (w.heap.size+2) w3.heap.size (some ⟨w.heap.size+2,0,none⟩) 0 []:=⟨Nat.le_refl _,HP.out,fun g hg=>(HP.out.lt g hg).2⟩
  refine OV.wide (OV.mid h0 (a:=w.heap.size+1) (b:=w.heap.size+2) ?_ (Or.inl (Nat.le_refl _))) (by omega) (by simp;try omega) (Nat.le_refl _);repeat (first | exact Mid.refl _ _ _ | refine Mid.trans ?_ (Mid.alloc _ _).zero | refine Mid.stored ?_ _ (by simp;try omega) (by simp;try omega))
 ·repeat (first | exact HM.out | refine Mid.trans ?_ (Mid.alloc _ _) | refine Mid.storeNew ?_ (by simp;try omega) _)
theorem spec_CyclicGraph (r s:Int) (A:Option Addr) (es:List Ed) (c:Nat) (w:World) (lo hi:Nat) (hr:RG w lo hi A es) (hl:es.length≤1048576) (Q:(Int × List Ed) × List Int) (hQ:CycIs r s es Q) :
  Calls Tryz.prog 43 #[graV r s A es.length c] w fun e w'=>∃ A1 c1 A2 c2,e=.returned (.tuple #[graV r Q.1.1 A1 Q.1.2.length c1,.slice A2 Q.2.length c2])∧OG w' w.heap.size w'.heap.size A1 c1 Q.1.2∧OI w' w.heap.size w'.heap.size A2 c2 Q.2∧Mid 0 0 w w':=by
 rcases hQ with ⟨h,hq⟩ | ⟨h,rfl⟩
 ·obtain ⟨a,n,rfl,rfl⟩:=h.gr.nat
  exact spec_CyclicGraph_cor a n A es c w lo hi hr h Q hq
 ·exact spec_CyclicGraph_no r s A es c w lo hi hr hl h
end
section
open Go.RowKit
theorem impl_PathWord (r n v:Nat) (A:Option Addr) (es:List Ed) (c:Nat) (w:World) (lo hi:Nat) (hr:RG w lo hi A es) (hcl:es.length≤c) (hco:IsCor r n es) (hv:v < n) :
  Calls Tryz.prog 189 #[graV r n A es.length c,.int .i64 0,.int .i64 v] w fun e w'=>∃ A1 c1,e=.returned (.tuple #[.slice A1 (wordV r es v).length c1,.bool true])∧RV w' 0 w'.heap.size A1 (ints (wordV r es v))∧Mid 0 0 w w':=by
 have hn1:0 < n:=by omega
 have hn40:n≤40:=by have:=hco.gr.size;omega
 have hl:=hco.gr.len;have HCO:=Lib.hid hco;have hmem:=wordV_mem hco hv;generalize hW:wordV r es (v:Int)=wd at hmem ⊢;have HME:=Lib.hid hmem;clear hco hmem hW;have hm0:Mid 0 0 w (w.alloc (.cells #[.int .i64 r,.int .i64 n,.slice A es.length c] 26)):=Mid.alloc _ _;have B0:=Box.new w #[.int .i64 r,.int .i64 n,.slice A es.length c] 26;obtain ⟨b0,hb0⟩:=bool_of ((0:Int)≤0∧(0:Int) < (n:Int));obtain ⟨bv,hbv⟩:=bool_of ((0:Int)≤(v:Int)∧(v:Int) < (n:Int));obtain rfl:b0=true:=hb0.2 (by omega);obtain rfl:bv=true:=hbv.2 (by omega);have hsz:=HCO.out.gr.size;have H0:=Lib.hid (has_bool hsz.1 hsz.2 hb0).1;have HV:=Lib.hid (has_bool hsz.1 hsz.2 hbv).1;have hwsub:IntKind.i64.wrap ((n:Int) - 1)=(n:Int) - 1:=IntWalk.i64_in _ (by omega);clear hb0 hbv;have p0:=B0.cell 0 rfl;have p1:=B0.cell 1 rfl;have p2:=B0.cell 2 rfl;go_enter Tryz.func189,Tryz.ntmps189
 go_wp2_with fail;generalize w.alloc (.cells #[.int .i64 r,.int .i64 n,.slice A es.length c] 26)=w1 at hm0 B0 p0 p1 p2 ⊢;have hs1:w.heap.size < w1.heap.size:=B0.1;with_reducible refine (impl_IsFolded r n A es c w1 lo hi (hr.mid hm0 oZl) (by omega) hcl true (iff_of_true rfl HCO.out.fol)).mono ?_
 rintro en w2 ⟨rfl,hm2⟩;clear p0 p1 p2;replace B0:=B0.mid hm2 oZr;replace hm0:=hm0.trans hm2;have p0:=B0.cell 0 rfl;have p1:=B0.cell 1 rfl;have p2:=B0.cell 2 rfl;go_wp2_with fail;with_reducible refine (impl_has r n A es.length c 0 _ true H0.out).mono ?_
 rintro en w3 ⟨rfl,hm3⟩;clear p0 p1 p2;replace B0:=B0.mid hm3 oZr;replace hm0:=hm0.trans hm3;have p0:=B0.cell 0 rfl;have p1:=B0.cell 1 rfl;have p2:=B0.cell 2 rfl;go_wp2_with fail;with_reducible refine (impl_has r n A es.length c v _ true HV.out).mono ?_
 rintro en w4 ⟨rfl,hm4⟩;clear p0 p1 p2;replace B0:=B0.mid hm4 oZr;replace hm0:=hm0.trans hm4;have p0:=B0.cell 0 rfl;have p1:=B0.cell 1 rfl;have p2:=B0.cell 2 rfl;have hT:=impl_tree r n 0 A es c w4 lo hi (hr.mid hm0 oZl) HCO.out.gr hn1;have h00:((0:Nat):Int)=0:=rfl;rw [h00] at hT;have hor:ordE r es 0=(bfs es (lets r) 0).map Prod.fst:=by unfold ordE;rw [Int.toNat_natCast]
 rw [hor] at hT;obtain ⟨ST,hST⟩:∃ ST,bfs es (lets r) 0=ST:=⟨_,rfl⟩
 have hmm:=HME.out;rw [hST] at hT hmm;have HMM:=Lib.hid hmm;have HTL:=Lib.hid hT;clear hT h00 hor hST hmm;go_wp2_with fail;with_reducible refine HTL.out.mono ?_
 rintro en w5 ⟨A1,c1,rfl,hm5, -,vals,hval,hts⟩;obtain ⟨bw,cw,hvw,hrv⟩:=hts.word HMM.out;simp only [Int.toNat_natCast] at hvw hrv;have hcw:w5.cell? ⟨w4.heap.size+1,v,none⟩=some (.slice (some ⟨bw,0,none⟩) wd.length cw):=(hval.cellAt v (by omega)).trans hvw;have hgw:=(hval.lt _ rfl).2;have hv0:(0:Int)≤(v:Int):=by omega
 have hvn:(v:Int) < (n:Int):=by omega
 have hm6:=hm0.trans hm5;have HRV:=Lib.hid hrv;clear p0 p1 p2 hval hts hvw hm5 hm0 B0 hrv HTL;have hq:=fun W=>nilS_some ⟨bw,0,none⟩ wd.length cw W;go_wp2_with fail;go_ret2;exact ⟨_,cw,rfl,HRV.out,hm6⟩
theorem impl_TreeWord (r n v:Nat) (A:Option Addr) (es:List Ed) (c:Nat) (w:World) (lo hi:Nat) (hr:RG w lo hi A es) (hcl:es.length≤c) (hco:IsCor r n es) (hv:v < n) :
  Calls Tryz.prog 123 #[graV r n A es.length c,.int .i64 v] w fun e w'=>∃ A1 c1,e=.returned (.slice A1 (wordV r es v).length c1)∧RV w' 0 w'.heap.size A1 (ints (wordV r es v))∧Mid 0 0 w w':=by
 have hm0:Mid 0 0 w (w.alloc (.cells #[.int .i64 r,.int .i64 n,.slice A es.length c] 26)):=Mid.alloc _ _;have B0:=Box.new w #[.int .i64 r,.int .i64 n,.slice A es.length c] 26;have hP:=impl_PathWord r n v A es c (w.alloc (.cells #[.int .i64 r,.int .i64 n,.slice A es.length c] 26)) lo hi (hr.mid hm0 oZl) hcl hco hv;generalize wordV r es (v:Int)=wd at hP ⊢;have p0:=B0.cell 0 rfl;have p1:=B0.cell 1 rfl;have p2:=B0.cell 2 rfl;go_enter Tryz.func123,Tryz.ntmps123
 go_wp2_with fail;with_reducible refine hP.mono ?_
 rintro en w2 ⟨A1,c1,rfl,hrv,hm2⟩;go_wp2_with fail;go_ret;exact ⟨A1,c1,rfl,hrv,hm0.trans hm2⟩
open Classical in
noncomputable def ixI (r s:Int) (es:List Ed):Int:=if IsFin r s es then s else -1
theorem impl_IndexOf (r s:Int) (A:Option Addr) (es:List Ed) (c:Nat) (w:World) (lo hi:Nat) (hr:RG w lo hi A es) (hl:es.length≤1048576) (hcl:es.length≤c) :
  Calls Tryz.prog 32 #[graV r s A es.length c] w fun e w'=>e=.returned (.int .i64 (ixI r s es))∧Mid 0 0 w w':=by
 have hm0:Mid 0 0 w (w.alloc (.cells #[.int .i64 r,.int .i64 s,.slice A es.length c] 26)):=Mid.alloc _ _;have B0:=Box.new w #[.int .i64 r,.int .i64 s,.slice A es.length c] 26;have p0:=B0.cell 0 rfl;have p1:=B0.cell 1 rfl;have p2:=B0.cell 2 rfl;by_cases hf:IsFin r s es
 ·have hi:ixI r s es=s:=if_pos hf
  rw [hi];have HF:=Lib.hid hf;clear hf hi;go_enter Tryz.func32,Tryz.ntmps32
  go_wp2_with fail;with_reducible refine (impl_IsFiniteIndex r s A es c _ _ _ (hr.mid hm0 oZl) hl hcl true (iff_of_true rfl HF.out)).mono ?_
  rintro en w1 ⟨rfl,hm1⟩;replace B0:=B0.mid hm1 oZr;replace hm0:=hm0.trans hm1;clear p0 p1 p2;have p0:=B0.cell 0 rfl;have p1:=B0.cell 1 rfl;have p2:=B0.cell 2 rfl;go_wp2_with fail;go_ret;exact ⟨rfl,hm0⟩
 ·have hi:ixI r s es = -1:=if_neg hf
  rw [hi];have HF:=Lib.hid hf;clear hf hi;go_enter Tryz.func32,Tryz.ntmps32
  go_wp2_with fail;with_reducible refine (impl_IsFiniteIndex r s A es c _ _ _ (hr.mid hm0 oZl) hl hcl false (iff_of_false (by simp) HF.out)).mono ?_
  rintro en w1 ⟨rfl,hm1⟩;replace hm0:=hm0.trans hm1;go_wp2_with fail;go_ret;exact ⟨rfl,hm0⟩
theorem spec_IndexOf (r s:Int) (A:Option Addr) (es:List Ed) (c:Nat) (w:World) (lo hi:Nat) (hr:RG w lo hi A es) (hl:es.length≤1048576) :
  Calls Tryz.prog 33 #[graV r s A es.length c] w fun e w'=>e=.returned (.int .i64 (ixI r s es))∧Mid 0 0 w w':=by
 have hm0:Mid 0 0 w (w.alloc (.cells #[.int .i64 r,.int .i64 s,.slice A es.length c] 26)):=Mid.alloc _ _;have B0:=Box.new w #[.int .i64 r,.int .i64 s,.slice A es.length c] 26;have p0:=B0.cell 0 rfl;have p1:=B0.cell 1 rfl;have p2:=B0.cell 2 rfl;by_cases hf:IsFin r s es
 ·have hi:ixI r s es=s:=if_pos hf
  rw [hi];have HF:=Lib.hid hf;clear hf hi;go_enter Tryz.func33,Tryz.ntmps33
  go_wp2_with fail;with_reducible refine (spec_IsFiniteIndex r s A es c _ _ _ (hr.mid hm0 oZl) hl true (iff_of_true rfl HF.out)).mono ?_
  rintro en w1 ⟨rfl,hm1⟩;replace B0:=B0.mid hm1 oZr;replace hm0:=hm0.trans hm1;clear p0 p1 p2;have p0:=B0.cell 0 rfl;have p1:=B0.cell 1 rfl;have p2:=B0.cell 2 rfl;go_wp2_with fail;go_ret;exact ⟨rfl,hm0⟩
 ·have hi:ixI r s es = -1:=if_neg hf
  rw [hi];have HF:=Lib.hid hf;clear hf hi;go_enter Tryz.func33,Tryz.ntmps33
  go_wp2_with fail;with_reducible refine (spec_IsFiniteIndex r s A es c _ _ _ (hr.mid hm0 oZl) hl false (iff_of_false (by simp) HF.out)).mono ?_
  rintro en w1 ⟨rfl,hm1⟩;replace hm0:=hm0.trans hm1;go_wp2_with fail;go_ret;exact ⟨rfl,hm0⟩
end
section
open Go.RowKit
theorem acV_at {r:Int} {x y:Int × List Ed} {k:Nat} (hk:(k:Int) < x.1) (hm:moveA r x.1 x.2 k=y) (hb:∀ u:Nat,u < k→moveA r x.1 x.2 u≠y):acV r x y=some k:=by
 cases e:acV r x y with
 | none=>exact absurd hm (acV_none e k hk)
 | some v =>
  obtain ⟨h1,h2,h3⟩:=acV_some e;rcases Nat.lt_trichotomy v k with h | h | h
  ·exact absurd h2 (hb v h)
  ·rw [h]
  ·exact absurd hm (h3 k h)
theorem acV_out {r:Int} {x y:Int × List Ed} (hb:∀ u:Nat,(u:Int) < x.1→moveA r x.1 x.2 u≠y):acV r x y=none:=by
 cases e:acV r x y with
 | none=>rfl
 | some v=>exact absurd (acV_some e).2.1 (hb v (acV_some e).1)
theorem AcIs.no {r s:Int} {es:List Ed} {r' s':Int} {es':List Ed} {wd:List Int} {b:Bool} (h:AcIs r s es r' s' es' wd b) (hn:¬ (IsCor r s es∧IsCor r' s' es'∧r=r')):b=false∧wd=[]:=by
 rcases h with ⟨-,h⟩ | ⟨h, -⟩
 ·exact h
 ·exact absurd h hn
theorem AcIs.at {r s:Int} {es:List Ed} {s':Int} {es':List Ed} {wd:List Int} {b:Bool} (h:AcIs r s es r s' es' wd b) (h1:IsCor r s es) (h2:IsCor r s' es') {X Y:(Int × List Ed) × List Int} (hX:cycA r 40 ((s,es),[])=X) (hY:cycA r 40 ((s',es'),[])=Y)
  {k:Nat} (hk:(k:Int) < X.1.1) (hm:moveA r X.1.1 X.1.2 k=Y.1) (hb:∀ u:Nat,u < k→moveA r X.1.1 X.1.2 u≠Y.1):b=true∧wd=red [] (X.2++(wordV r.toNat X.1.2 k++invW Y.2)):=by
 have e:=acV_at hk hm hb;rcases h with ⟨h, -⟩ | ⟨-,h⟩
 ·exact absurd ⟨h1,h2,rfl⟩ h
 ·rw [hX,hY,e] at h
  rcases h with ⟨h, -⟩ | ⟨v,hv,h3,h4⟩
  ·cases h
  ·obtain rfl:=Option.some.inj hv
   exact ⟨h3,h4⟩
theorem AcIs.out {r s:Int} {es:List Ed} {s':Int} {es':List Ed} {wd:List Int} {b:Bool} (h:AcIs r s es r s' es' wd b) (h1:IsCor r s es) (h2:IsCor r s' es') {X Y:(Int × List Ed) × List Int} (hX:cycA r 40 ((s,es),[])=X) (hY:cycA r 40 ((s',es'),[])=Y)
  (hb:∀ u:Nat,(u:Int) < X.1.1→moveA r X.1.1 X.1.2 u≠Y.1):b=false∧wd=[]:=by
 have e:=acV_out hb;rcases h with ⟨h, -⟩ | ⟨-,h⟩
 ·exact absurd ⟨h1,h2,rfl⟩ h
 ·rw [hX,hY,e] at h
  rcases h with ⟨-,h3⟩ | ⟨v,hv, -⟩
  ·exact h3
  ·cases hv
theorem RetI.toOI {tI:TypeId} {xs:List Int} {w:World} {e:Ending} {w':World} (h:RetI 3 xs w e w'):∃ A2 c2,e=.returned (.slice A2 xs.length c2)∧OI w' w.heap.size w'.heap.size A2 c2 xs∧Mid 0 0 w w':=by
 obtain ⟨A,c,he,ho,hm⟩:=RetI.get h;exact ⟨A,c,he,⟨Nat.le_refl _,ho,fun g hg=>(ho.lt g hg).2⟩,hm⟩
theorem invW_okI {p:List Int} (h:LtW p):OkI (invW p):=fun x hx=>by
 have:=h.inv x hx;unfold Lt3 at this;omega
theorem ob_of_lets {r:Nat} {p:List Int} (hr:r≤3) (h:∀ x∈p,x∈lets ((r:Int)).toNat):OkI p:=fun x hx=>by
 have:=mem_lets.1 (h x hx);rw [Int.toNat_natCast] at this;omega
theorem impl_AreConjugateSubgroups (r s:Int) (A:Option Addr) (es:List Ed) (c:Nat) (r2 s2:Int) (A2:Option Addr) (es2:List Ed) (c2:Nat) (w:World) (lo hi lo2 hi2:Nat) (hr:RG w lo hi A es) (hr2:RG w lo2 hi2 A2 es2) (hl:es.length≤1048576) (hl2:es2.length≤1048576) (hcl:es.length≤c) (hcl2:es2.length≤c2) (wd:List Int) (b:Bool) (hres:AcIs r s es r2 s2 es2 wd b) :
  Calls Tryz.prog 34 #[graV r s A es.length c,graV r2 s2 A2 es2.length c2] w fun e w'=>∃ A1 c1,e=.returned (.tuple #[.slice A1 wd.length c1,.bool b])∧OI w' w.heap.size w'.heap.size A1 c1 wd∧Mid 0 0 w w':=by
 have hm0:Mid 0 0 w ((w.alloc (.cells #[.int .i64 r,.int .i64 s,.slice A es.length c] 26)).alloc (.cells #[.int .i64 r2,.int .i64 s2,.slice A2 es2.length c2] 26)):=(Mid.alloc _ _).trans (Mid.alloc _ _);have b0:=(Box.new w #[.int .i64 r,.int .i64 s,.slice A es.length c] 26).mid (Mid.alloc _ (.cells #[.int .i64 r2,.int .i64 s2,.slice A2 es2.length c2] 26)) oZr;have b1:=Box.new (w.alloc (.cells #[.int .i64 r,.int .i64 s,.slice A es.length c] 26)) #[.int .i64 r2,.int .i64 s2,.slice A2 es2.length c2] 26;simp only [World.size_alloc] at b1;have HR:=Lib.hid hres;clear hres;have empty:∀ W:World,Mid 0 0 w W→OI (W.alloc (.cells #[] 3)) w.heap.size (W.alloc (.cells #[] 3)).heap.size (some ⟨W.heap.size,0,none⟩) 0 []:=fun W hm=>by
  have h:=owns_empty W 3 1;exact OV.wide (OV.new (w0:=W) (A:=some ⟨W.heap.size,0,none⟩) (c:=0) (n:=0) h) hm.size (Nat.le_refl _) (Nat.le_refl _)
 have EMP:=Lib.hid empty;clear empty;by_cases hc1:IsCor r s es
 rotate_left
 ·obtain ⟨rfl,rfl⟩:=HR.out.no fun h=>hc1 h.1
  have HC1:=Lib.hid hc1;clear hc1 HR;go_enter Tryz.func34,Tryz.ntmps34
  go_upto_region 1 with fail
  generalize (w.alloc (.cells #[.int .i64 r,.int .i64 s,.slice A es.length c] 26)).alloc (.cells #[.int .i64 r2,.int .i64 s2,.slice A2 es2.length c2] 26)=w1 at hm0 b0 b1 ⊢;have p0:=b0.cell 0 rfl;have p1:=b0.cell 1 rfl;have p2:=b0.cell 2 rfl;have q0:=b1.cell 0 rfl;have q1:=b1.cell 1 rfl;have q2:=b1.cell 2 rfl;go_wp2_with fail;with_reducible refine (impl_IsCore r s A es c _ _ _ (hr.mid hm0 oZl) hl hcl false (iff_of_false (by simp) HC1.out)).mono ?_
  rintro en w2 ⟨rfl,hm2⟩;replace hm0:=hm0.trans hm2;have hm3:=hm0.trans (Mid.alloc w2 (.cells #[] 3));go_wp2_with fail;go_ret2;exact ⟨_,_,rfl,EMP.out w2 hm0,hm3⟩
 by_cases hc2:IsCor r2 s2 es2
 rotate_left
 ·obtain ⟨rfl,rfl⟩:=HR.out.no fun h=>hc2 h.2.1
  have HC1:=Lib.hid hc1;have HC2:=Lib.hid hc2;clear hc1 hc2 HR;go_enter Tryz.func34,Tryz.ntmps34
  go_upto_region 1 with fail
  generalize (w.alloc (.cells #[.int .i64 r,.int .i64 s,.slice A es.length c] 26)).alloc (.cells #[.int .i64 r2,.int .i64 s2,.slice A2 es2.length c2] 26)=w1 at hm0 b0 b1 ⊢;have p0:=b0.cell 0 rfl;have p1:=b0.cell 1 rfl;have p2:=b0.cell 2 rfl;have q0:=b1.cell 0 rfl;have q1:=b1.cell 1 rfl;have q2:=b1.cell 2 rfl;go_wp2_with fail;with_reducible refine (impl_IsCore r s A es c _ _ _ (hr.mid hm0 oZl) hl hcl true (iff_of_true rfl HC1.out)).mono ?_
  rintro en w2 ⟨rfl,hm2⟩;clear p0 p1 p2 q0 q1 q2;replace b0:=b0.mid hm2 oZr;replace b1:=b1.mid hm2 oZr;replace hm0:=hm0.trans hm2;have q0:=b1.cell 0 rfl;have q1:=b1.cell 1 rfl;have q2:=b1.cell 2 rfl;go_wp2_with fail;with_reducible refine (impl_IsCore r2 s2 A2 es2 c2 _ _ _ (hr2.mid hm0 oZl) hl2 hcl2 false (iff_of_false (by simp) HC2.out)).mono ?_
  rintro en w3 ⟨rfl,hm3⟩;replace hm0:=hm0.trans hm3;have hm4:=hm0.trans (Mid.alloc w3 (.cells #[] 3));go_wp2_with fail;go_ret2;exact ⟨_,_,rfl,EMP.out w3 hm0,hm4⟩
 obtain ⟨r,n,rfl,rfl⟩:=hc1.gr.nat;have hs2z:=hc2.gr.size;obtain ⟨n2,rfl⟩:=Int.eq_ofNat_of_zero_le (show 0≤s2 by omega);by_cases hrr:(r:Int)=r2
 rotate_left
 ·obtain ⟨rfl,rfl⟩:=HR.out.no fun h=>hrr h.2.2
  have HC1:=Lib.hid hc1;have HC2:=Lib.hid hc2;have hrb:((r:Int) != r2)=true:=by simpa using hrr
  clear hc1 hc2 HR;go_enter Tryz.func34,Tryz.ntmps34
  go_upto_region 1 with fail
  generalize (w.alloc (.cells #[.int .i64 r,.int .i64 n,.slice A es.length c] 26)).alloc (.cells #[.int .i64 r2,.int .i64 n2,.slice A2 es2.length c2] 26)=w1 at hm0 b0 b1 ⊢;have p0:=b0.cell 0 rfl;have p1:=b0.cell 1 rfl;have p2:=b0.cell 2 rfl;have q0:=b1.cell 0 rfl;have q1:=b1.cell 1 rfl;have q2:=b1.cell 2 rfl;go_wp2_with fail;with_reducible refine (impl_IsCore r n A es c _ _ _ (hr.mid hm0 oZl) hl hcl true (iff_of_true rfl HC1.out)).mono ?_
  rintro en w2 ⟨rfl,hm2⟩;clear p0 p1 p2 q0 q1 q2;replace b0:=b0.mid hm2 oZr;replace b1:=b1.mid hm2 oZr;replace hm0:=hm0.trans hm2;have q0:=b1.cell 0 rfl;have q1:=b1.cell 1 rfl;have q2:=b1.cell 2 rfl;go_wp2_with fail;with_reducible refine (impl_IsCore r2 n2 A2 es2 c2 _ _ _ (hr2.mid hm0 oZl) hl2 hcl2 true (iff_of_true rfl HC2.out)).mono ?_
  rintro en w3 ⟨rfl,hm3⟩;clear q0 q1 q2;replace b0:=b0.mid hm3 oZr;replace b1:=b1.mid hm3 oZr;replace hm0:=hm0.trans hm3;have p0:=b0.cell 0 rfl;have p1:=b0.cell 1 rfl;have p2:=b0.cell 2 rfl;have q0:=b1.cell 0 rfl;have q1:=b1.cell 1 rfl;have q2:=b1.cell 2 rfl;have hm4:=hm0.trans (Mid.alloc w3 (.cells #[] 3));go_wp2_with fail;go_ret2;exact ⟨_,_,rfl,EMP.out w3 hm0,hm4⟩
 subst hrr;have hr3:r≤3:=by have:=hc1.gr.rank;omega
 obtain ⟨ox,kx⟩:=cyc_ok hc1;obtain ⟨oy,ky⟩:=cyc_ok hc2;obtain ⟨X,hX⟩:∃ X,cycA r 40 (((n:Int),es),[])=X:=⟨_,rfl⟩
 obtain ⟨Y,hY⟩:∃ Y,cycA r 40 (((n2:Int),es2),[])=Y:=⟨_,rfl⟩
 rw [hX] at ox kx;rw [hY] at oy ky;have hCX:CycIs r n es X:=.inl ⟨hc1,hX⟩;have hCY:CycIs r n2 es2 Y:=.inl ⟨hc2,hY⟩;have HAT:=Lib.hid fun k=>HR.out.at hc1 hc2 hX hY (k:=k);have HOUT:=Lib.hid (HR.out.out hc1 hc2 hX hY);clear hX hY;obtain ⟨⟨sx,ex⟩,px⟩:=X;obtain ⟨⟨sy,ey⟩,py⟩:=Y;simp only at ox kx oy ky;have hgx:=ox.cor.gr;have hgy:=oy.cor.gr;simp only at hgx hgy;obtain ⟨mx,rfl⟩:=Int.eq_ofNat_of_zero_le (show 0≤sx by have:=hgx.size;omega);obtain ⟨my,rfl⟩:=Int.eq_ofNat_of_zero_le (show 0≤sy by have:=hgy.size;omega);have hlx:=hgx.len;have hly:=hgy.len;have hmx40:mx≤40:=by have:=hgx.size;omega
 have hpx:px.length≤40:=by have h1:=ox.len;have h2:=hc1.gr.size;have h3:=hgx.size;simp only at h1;omega
 have hpy:py.length≤40:=by have h1:=oy.len;have h2:=hc2.gr.size;have h3:=hgy.size;simp only at h1;omega
 have hokx:OkI px:=ob_of_lets hr3 ox.lt';have hoky:OkI py:=ob_of_lets hr3 oy.lt';have HOX:=Lib.hid ox;have HOY:=Lib.hid oy;have HKX:=Lib.hid kx;have HKY:=Lib.hid ky;have HPX:=Lib.hid hokx;have HOI:Hid (OkI (invW py)):=Lib.hid (invW_okI oy.lt);have HPY:=Lib.hid hoky;have HCX:=Lib.hid hCX;have HCY:=Lib.hid hCY;have HC1:=Lib.hid hc1;have HC2:=Lib.hid hc2;clear ox oy kx ky hokx hoky hCX hCY hc1 hc2 hgx hgy HR;go_enter Tryz.func34,Tryz.ntmps34
 go_upto_region 1 with fail
 generalize (w.alloc (.cells #[.int .i64 r,.int .i64 n,.slice A es.length c] 26)).alloc (.cells #[.int .i64 r,.int .i64 n2,.slice A2 es2.length c2] 26)=w1 at hm0 b0 b1 ⊢;have p0:=b0.cell 0 rfl;have p1:=b0.cell 1 rfl;have p2:=b0.cell 2 rfl;have q0:=b1.cell 0 rfl;have q1:=b1.cell 1 rfl;have q2:=b1.cell 2 rfl;go_wp2_with fail;with_reducible refine (impl_IsCore r n A es c _ _ _ (hr.mid hm0 oZl) hl hcl true (iff_of_true rfl HC1.out)).mono ?_
 rintro en w2 ⟨rfl,hm2⟩;clear p0 p1 p2 q0 q1 q2;replace b0:=b0.mid hm2 oZr;replace b1:=b1.mid hm2 oZr;replace hm0:=hm0.trans hm2;have q0:=b1.cell 0 rfl;have q1:=b1.cell 1 rfl;have q2:=b1.cell 2 rfl;go_wp2_with fail;with_reducible refine (impl_IsCore r n2 A2 es2 c2 _ _ _ (hr2.mid hm0 oZl) hl2 hcl2 true (iff_of_true rfl HC2.out)).mono ?_
 rintro en w3 ⟨rfl,hm3⟩;clear q0 q1 q2;replace b0:=b0.mid hm3 oZr;replace b1:=b1.mid hm3 oZr;replace hm0:=hm0.trans hm3;have p0:=b0.cell 0 rfl;have p1:=b0.cell 1 rfl;have p2:=b0.cell 2 rfl;have q0:=b1.cell 0 rfl;have q1:=b1.cell 1 rfl;have q2:=b1.cell 2 rfl;clear hm2 hm3;go_wp2_with fail;with_reducible refine (impl_CyclicGraph r n A es c _ _ _ (hr.mid hm0 oZl) hl hcl (((mx:Int),ex),px) HCX.out).mono ?_
 rintro en w4 ⟨AX,cX,APX,cPX,rfl,ogx,opx,hm4⟩;clear p0 p1 p2 q0 q1 q2;replace b1:=b1.mid hm4 oZr;replace hm0:=hm0.trans hm4;clear hm4 b0;have al:=Mid.alloc w4 (.cells #[.int .i64 r,.int .i64 mx,.slice AX ex.length cX] 26);have BX:=Box.new w4 #[.int .i64 r,.int .i64 mx,.slice AX ex.length cX] 26;replace ogx:=ogx.mid al oZl;replace opx:=opx.mid al oZl;replace b1:=b1.mid al oZr;replace hm0:=hm0.trans al;go_upto_region 4 with fail
 generalize hw5:w4.alloc (.cells #[.int .i64 r,.int .i64 mx,.slice AX ex.length cX] 26)=w5 at BX ogx opx b1 hm0 ⊢;obtain ⟨GX,hGX⟩:∃ G,w4.heap.size=G:=⟨_,rfl⟩
 rw [hGX] at BX ogx opx ⊢;clear hw5 al hGX;have q0:=b1.cell 0 rfl;have q1:=b1.cell 1 rfl;have q2:=b1.cell 2 rfl;go_wp2_with fail;with_reducible refine (impl_CyclicGraph r n2 A2 es2 c2 _ _ _ (hr2.mid hm0 oZl) hl2 hcl2 (((my:Int),ey),py) HCY.out).mono ?_
 rintro en w6 ⟨AY,cY,APY,cPY,rfl,ogy,opy,hm6⟩;clear q0 q1 q2 b1;replace ogx:=ogx.mid hm6 oZl;replace opx:=opx.mid hm6 oZl;replace BX:=BX.mid hm6 oZr;replace hm0:=hm0.trans hm6;clear hm6;have al:=Mid.alloc w6 (.cells #[.int .i64 r,.int .i64 my,.slice AY ey.length cY] 26);have BY:=Box.new w6 #[.int .i64 r,.int .i64 my,.slice AY ey.length cY] 26;replace ogx:=ogx.mid al oZl;replace opx:=opx.mid al oZl;replace ogy:=ogy.mid al oZl;replace opy:=opy.mid al oZl;replace BX:=BX.mid al oZr;replace hm0:=hm0.trans al;go_upto_region 5 with fail
 generalize hw7:w6.alloc (.cells #[.int .i64 r,.int .i64 my,.slice AY ey.length cY] 26)=w7 at BX BY ogx opx ogy opy hm0 ⊢;obtain ⟨GY,hGY⟩:∃ G,w6.heap.size=G:=⟨_,rfl⟩
 rw [hGY] at BY ogy opy ⊢;clear hw7 al hGY;have hcx:=ogx.cnt.1;have hcy:=ogy.cnt.1;have HGX:=Lib.hid ogx.rg;have HGY:=Lib.hid ogy.rg;have HVX:=Lib.hid (OV.rv opx);have HVY:=Lib.hid (OV.rv opy);clear ogx opx ogy opy;go_wp2_with fail;go_loopw [10] (fun iv wr=>∃ k:Nat,iv=.int .i64 k∧k≤mx∧Hid (∀ u:Nat,u < k→moveA r mx ex u≠((my:Int),ey))∧Box wr GX [.int .i64 r,.int .i64 mx,.slice AX ex.length cX]∧Box wr GY [.int .i64 r,.int .i64 my,.slice AY ey.length cY]∧Mid 0 0 w7 wr) (fun iv _=>mx - (intOf iv).toNat)
 case atStart=>exact ⟨0,by go_num,Nat.zero_le _,Lib.hid (fun u hu=>absurd hu (Nat.not_lt_zero _)),BX,BY,Mid.refl _ _ _⟩
 case round =>
  clear BX BY;obtain ⟨k,rfl,hk,HB,BX,BY,hmw⟩:=hrel;have hm1:=hm0.trans hmw;have hk0:(0:Int)≤(k:Int):=by omega
  have x0:=BX.cell 0 rfl;have x1:=BX.cell 1 rfl;have x2:=BX.cell 2 rfl;by_cases hlt:k < mx
  ·have hlt1:(k:Int) < (mx:Int):=by omega
   have hmv:MoveIs r mx ex k (moveA r mx ex k).1 (moveA r mx ex k).2 true:=.inl ⟨rfl,⟨HOX.out.cor.fol,hk0,hlt1⟩,rfl,rfl⟩;have hmg:=moveA_gr HOX.out.cor.gr (v:=(k:Int)) ⟨hk0,hlt1⟩;simp only at hmg;obtain ⟨mv,hme⟩:∃ mv,moveA r mx ex k=mv:=⟨_,rfl⟩
   rw [hme] at hmv hmg;obtain ⟨ms,me⟩:=mv;simp only at hmv hmg;have hlm:=hmg.len;have HMV:=Lib.hid hmv;have HME:=Lib.hid hme;clear hmv hme hmg;go_wp2_with fail;with_reducible refine (impl_MoveBase r mx AX ex cX k _ _ _ (HGX.out.mid hmw oZl) (by omega) hcx (by omega) ms me true HMV.out).mono ?_
   rintro en w8 ⟨AM,cM,rfl,ogm,hm8⟩;replace BX:=BX.mid hm8 oZr;replace BY:=BY.mid hm8 oZr;replace hmw:=hmw.trans hm8;replace hm1:=hm1.trans hm8;clear x0 x1 x2 hm8;have al:=Mid.alloc w8 (.cells #[.int .i64 r,.int .i64 ms,.slice AM me.length cM] 26);have BM:=Box.new w8 #[.int .i64 r,.int .i64 ms,.slice AM me.length cM] 26;replace ogm:=ogm.mid al oZl;replace BX:=BX.mid al oZr;replace BY:=BY.mid al oZr;replace hmw:=hmw.trans al;replace hm1:=hm1.trans al;go_upto_region 9 with fail
   generalize hw9:w8.alloc (.cells #[.int .i64 r,.int .i64 ms,.slice AM me.length cM] 26)=w9 at BM BX BY ogm hmw hm1 ⊢;obtain ⟨GM,hGM⟩:∃ G,w8.heap.size=G:=⟨_,rfl⟩
   rw [hGM] at BM ogm ⊢;clear hw9 al hGM;obtain ⟨be,hbe⟩:=bool_of (ms=(my:Int)∧me=ey);have HBE:=Lib.hid hbe;clear hbe;have m0:=BM.cell 0 rfl;have m1:=BM.cell 1 rfl;have m2:=BM.cell 2 rfl;have y0:=BY.cell 0 rfl;have y1:=BY.cell 1 rfl;have y2:=BY.cell 2 rfl;go_wp2_with fail;with_reducible refine (impl_EqualGraphs r ms AM me cM r my AY ey cY _ _ _ _ _ ogm.rg (HGY.out.mid hmw oZl) (by omega) (by omega) be ⟨fun h=>⟨rfl,HBE.out.1 h⟩,fun h=>HBE.out.2 h.2⟩).mono ?_
   rintro en w10 ⟨rfl,hm10⟩;clear m0 m1 m2 y0 y1 y2 BM ogm;replace BX:=BX.mid hm10 oZr;replace BY:=BY.mid hm10 oZr;replace hmw:=hmw.trans hm10;replace hm1:=hm1.trans hm10;cases be with
   | true =>
    obtain ⟨h8,h9⟩:=HBE.out.1 rfl;obtain ⟨rfl,hwd⟩:=HAT.out k hlt1 (by rw [HME.out,h8,h9]) HB.out;simp only [Int.toNat_natCast] at hwd;have HWD:=Lib.hid hwd;have hcorx:=HOX.out.cor;simp only at hcorx;have hT:=impl_TreeWord r mx k AX ex cX w10 _ _ (HGX.out.mid hmw oZl) hcx hcorx hlt;obtain ⟨hwl,hwm⟩:=wordV_ok hcorx hlt;generalize wordV r ex (k:Int)=tw at hT HWD hwl hwm;have hokt:OkI tw:=fun x hx=>by have:=mem_lets.1 (hwm x hx);omega
    have HOT:=Lib.hid hokt;have HLT:Hid (LtW tw):=Lib.hid fun x hx=>by have:=mem_lets.1 (hwm x hx);unfold Lt3;omega
    have HTT:=Lib.hid hT;clear hwd hcorx hT hwm hokt h8 h9 HBE HME HMV HAT HOUT HB;have x0:=BX.cell 0 rfl;have x1:=BX.cell 1 rfl;have x2:=BX.cell 2 rfl;go_wp2_with fail;with_reducible refine HTT.out.mono ?_
    rintro en w11 ⟨AT,cT,rfl,hrt,hm11⟩;replace hmw:=hmw.trans hm11;replace hm1:=hm1.trans hm11;clear x0 x1 x2 HTT;have hrsy:=(HVY.out.mid hmw oZl).rsS;have HRS:=Lib.hid hrsy;clear hrsy;go_wp2_with fail;with_reducible refine (impl_InvertWordE APY py cPY w11 HRS.out HPY.out (by omega)).mono ?_
    rintro en w12 ⟨AI,cI,rfl,hoi,hbi⟩;have hoki:=HOI.out;have hilq:(invW py).length≤40:=by rw [invW_len];exact hpy
    generalize invW py=iy at hoi hoki hilq HWD ⊢;have hm12:Mid 0 0 w11 w12:=Mid.of_below hbi;have hrsp:=(HVX.out.mid (hmw.trans hm12) oZl).rsS;have hrst:=(hrt.mid hm12 oZl).rsS;have hrsi:=Rs.of_own hoi;replace hmw:=hmw.trans hm12;replace hm1:=hm1.trans hm12;have hss:=rss_lit3 (w:=w12) APX AT AI cPX cT cI px tw iy hrsp hrst hrsi;have hpr:=impl_product (some ⟨w12.heap.size,0,none⟩) [px,tw,iy] 3 (w12.alloc (.cells #[.slice APX px.length cPX,.slice AT tw.length cT,.slice AI iy.length cI] 34)) _ _ hss (fun xs hx=>by
     simp only [List.mem_cons,List.not_mem_nil,or_false] at hx;rcases hx with rfl | rfl | rfl
     ·exact HPX.out
     ·exact HOT.out
     ·exact hoki) (by simp) (by simp [sumL];omega)
    have hfl:[px,tw,iy].flatten=px++(tw++iy):=by simp
    have hd3:[px,tw,iy].length=3:=rfl;rw [hfl,← HWD.out,hd3] at hpr;have HPR:=Lib.hid hpr;have hal:=Mid.alloc w12 (.cells #[.slice APX px.length cPX,.slice AT tw.length cT,.slice AI iy.length cI] 34);replace hm1:=hm1.trans hal;clear hpr hss hrsp hrst hrsi hoi hbi hoki hm12 hfl hal HRS hd3;go_wp2_with fail;with_reducible refine HPR.out.mono ?_
    intro en w13 hq13;obtain ⟨A9,c9,rfl,ho9,hm13⟩:=RetI.toOI (tI:=3) hq13;have hsz9:=hm1.size;have hm14:=hm1.trans hm13;go_wp2_with fail;go_ret2;exact ⟨A9,c9,rfl,OV.wide ho9 hsz9 (Nat.le_refl _) (Nat.le_refl _),hm14⟩
   | false =>
    have HB2:Hid (∀ u:Nat,u < k+1→moveA r mx ex u≠((my:Int),ey)):=Lib.hid fun u hu hme=>by
     by_cases hku:u=k
     ·subst hku
      rw [HME.out] at hme;injection hme with h8 h9
      have:=HBE.out.2 ⟨h8,h9⟩;cases this
     ·exact HB.out u (by omega) hme
    go_wp2_with fail;go_roundw
    case rel=>exact ⟨k+1,by go_num,by omega,HB2,BX,BY,hmw⟩
    case measure=>simp [intOf];omega
  ·obtain rfl:k=mx:=by omega
   obtain ⟨rfl,rfl⟩:=HOUT.out (fun u hu=>HB.out u (by omega));have hm9:=hm1.trans (Mid.alloc wr (.cells #[] 3));clear HAT HOUT;go_wp2_with fail;go_ret2;exact ⟨_,_,rfl,EMP.out wr hm1,hm9⟩
theorem spec_AreConjugateSubgroups (r s:Int) (A:Option Addr) (es:List Ed) (c:Nat) (r2 s2:Int) (A2:Option Addr) (es2:List Ed) (c2:Nat) (w:World) (lo hi lo2 hi2:Nat) (hr:RG w lo hi A es) (hr2:RG w lo2 hi2 A2 es2) (hl:es.length≤1048576) (hl2:es2.length≤1048576) (wd:List Int) (b:Bool) (hres:AcIs r s es r2 s2 es2 wd b) :
  Calls Tryz.prog 36 #[graV r s A es.length c,graV r2 s2 A2 es2.length c2] w fun e w'=>∃ A1 c1,e=.returned (.tuple #[.slice A1 wd.length c1,.bool b])∧OI w' w.heap.size w'.heap.size A1 c1 wd∧Mid 0 0 w w':=by
 have hm0:Mid 0 0 w ((w.alloc (.cells #[.int .i64 r,.int .i64 s,.slice A es.length c] 26)).alloc (.cells #[.int .i64 r2,.int .i64 s2,.slice A2 es2.length c2] 26)):=(Mid.alloc _ _).trans (Mid.alloc _ _);have b0:=(Box.new w #[.int .i64 r,.int .i64 s,.slice A es.length c] 26).mid (Mid.alloc _ (.cells #[.int .i64 r2,.int .i64 s2,.slice A2 es2.length c2] 26)) oZr;have b1:=Box.new (w.alloc (.cells #[.int .i64 r,.int .i64 s,.slice A es.length c] 26)) #[.int .i64 r2,.int .i64 s2,.slice A2 es2.length c2] 26;simp only [World.size_alloc] at b1;have HR:=Lib.hid hres;clear hres;have empty:∀ W:World,Mid 0 0 w W→OI (W.alloc (.cells #[] 3)) w.heap.size (W.alloc (.cells #[] 3)).heap.size (some ⟨W.heap.size,0,none⟩) 0 []:=fun W hm=>by
  have h:=owns_empty W 3 1;exact OV.wide (OV.new (w0:=W) (A:=some ⟨W.heap.size,0,none⟩) (c:=0) (n:=0) h) hm.size (Nat.le_refl _) (Nat.le_refl _)
 have EMP:=Lib.hid empty;clear empty;by_cases hc1:IsCor r s es
 rotate_left
 ·obtain ⟨rfl,rfl⟩:=HR.out.no fun h=>hc1 h.1
  have HC1:=Lib.hid hc1;clear hc1 HR;go_enter Tryz.func36,Tryz.ntmps36
  go_upto_region 1 with fail
  generalize (w.alloc (.cells #[.int .i64 r,.int .i64 s,.slice A es.length c] 26)).alloc (.cells #[.int .i64 r2,.int .i64 s2,.slice A2 es2.length c2] 26)=w1 at hm0 b0 b1 ⊢;have p0:=b0.cell 0 rfl;have p1:=b0.cell 1 rfl;have p2:=b0.cell 2 rfl;have q0:=b1.cell 0 rfl;have q1:=b1.cell 1 rfl;have q2:=b1.cell 2 rfl;go_wp2_with fail;with_reducible refine (spec_IsSubgroup r s A es c _ _ _ (hr.mid hm0 oZl) hl false (iff_of_false (by simp) HC1.out)).mono ?_
  rintro en w2 ⟨rfl,hm2⟩;replace hm0:=hm0.trans hm2;have hm3:=hm0.trans (Mid.alloc w2 (.cells #[] 3));go_wp2_with fail;go_ret2;exact ⟨_,_,rfl,EMP.out w2 hm0,hm3⟩
 by_cases hc2:IsCor r2 s2 es2
 rotate_left
 ·obtain ⟨rfl,rfl⟩:=HR.out.no fun h=>hc2 h.2.1
  have HC1:=Lib.hid hc1;have HC2:=Lib.hid hc2;clear hc1 hc2 HR;go_enter Tryz.func36,Tryz.ntmps36
  go_upto_region 1 with fail
  generalize (w.alloc (.cells #[.int .i64 r,.int .i64 s,.slice A es.length c] 26)).alloc (.cells #[.int .i64 r2,.int .i64 s2,.slice A2 es2.length c2] 26)=w1 at hm0 b0 b1 ⊢;have p0:=b0.cell 0 rfl;have p1:=b0.cell 1 rfl;have p2:=b0.cell 2 rfl;have q0:=b1.cell 0 rfl;have q1:=b1.cell 1 rfl;have q2:=b1.cell 2 rfl;go_wp2_with fail;with_reducible refine (spec_IsSubgroup r s A es c _ _ _ (hr.mid hm0 oZl) hl true (iff_of_true rfl HC1.out)).mono ?_
  rintro en w2 ⟨rfl,hm2⟩;clear p0 p1 p2 q0 q1 q2;replace b0:=b0.mid hm2 oZr;replace b1:=b1.mid hm2 oZr;replace hm0:=hm0.trans hm2;have q0:=b1.cell 0 rfl;have q1:=b1.cell 1 rfl;have q2:=b1.cell 2 rfl;go_wp2_with fail;with_reducible refine (spec_IsSubgroup r2 s2 A2 es2 c2 _ _ _ (hr2.mid hm0 oZl) hl2 false (iff_of_false (by simp) HC2.out)).mono ?_
  rintro en w3 ⟨rfl,hm3⟩;replace hm0:=hm0.trans hm3;have hm4:=hm0.trans (Mid.alloc w3 (.cells #[] 3));go_wp2_with fail;go_ret2;exact ⟨_,_,rfl,EMP.out w3 hm0,hm4⟩
 obtain ⟨r,n,rfl,rfl⟩:=hc1.gr.nat;have hs2z:=hc2.gr.size;obtain ⟨n2,rfl⟩:=Int.eq_ofNat_of_zero_le (show 0≤s2 by omega);by_cases hrr:(r:Int)=r2
 rotate_left
 ·obtain ⟨rfl,rfl⟩:=HR.out.no fun h=>hrr h.2.2
  have HC1:=Lib.hid hc1;have HC2:=Lib.hid hc2;have hrb:((r:Int) != r2)=true:=by simpa using hrr
  clear hc1 hc2 HR;go_enter Tryz.func36,Tryz.ntmps36
  go_upto_region 1 with fail
  generalize (w.alloc (.cells #[.int .i64 r,.int .i64 n,.slice A es.length c] 26)).alloc (.cells #[.int .i64 r2,.int .i64 n2,.slice A2 es2.length c2] 26)=w1 at hm0 b0 b1 ⊢;have p0:=b0.cell 0 rfl;have p1:=b0.cell 1 rfl;have p2:=b0.cell 2 rfl;have q0:=b1.cell 0 rfl;have q1:=b1.cell 1 rfl;have q2:=b1.cell 2 rfl;go_wp2_with fail;with_reducible refine (spec_IsSubgroup r n A es c _ _ _ (hr.mid hm0 oZl) hl true (iff_of_true rfl HC1.out)).mono ?_
  rintro en w2 ⟨rfl,hm2⟩;clear p0 p1 p2 q0 q1 q2;replace b0:=b0.mid hm2 oZr;replace b1:=b1.mid hm2 oZr;replace hm0:=hm0.trans hm2;have q0:=b1.cell 0 rfl;have q1:=b1.cell 1 rfl;have q2:=b1.cell 2 rfl;go_wp2_with fail;with_reducible refine (spec_IsSubgroup r2 n2 A2 es2 c2 _ _ _ (hr2.mid hm0 oZl) hl2 true (iff_of_true rfl HC2.out)).mono ?_
  rintro en w3 ⟨rfl,hm3⟩;clear q0 q1 q2;replace b0:=b0.mid hm3 oZr;replace b1:=b1.mid hm3 oZr;replace hm0:=hm0.trans hm3;have p0:=b0.cell 0 rfl;have p1:=b0.cell 1 rfl;have p2:=b0.cell 2 rfl;have q0:=b1.cell 0 rfl;have q1:=b1.cell 1 rfl;have q2:=b1.cell 2 rfl;have hm4:=hm0.trans (Mid.alloc w3 (.cells #[] 3));go_wp2_with fail;go_ret2;exact ⟨_,_,rfl,EMP.out w3 hm0,hm4⟩
 subst hrr;have hr3:r≤3:=by have:=hc1.gr.rank;omega
 obtain ⟨ox,kx⟩:=cyc_ok hc1;obtain ⟨oy,ky⟩:=cyc_ok hc2;obtain ⟨X,hX⟩:∃ X,cycA r 40 (((n:Int),es),[])=X:=⟨_,rfl⟩
 obtain ⟨Y,hY⟩:∃ Y,cycA r 40 (((n2:Int),es2),[])=Y:=⟨_,rfl⟩
 rw [hX] at ox kx;rw [hY] at oy ky;have hCX:CycIs r n es X:=.inl ⟨hc1,hX⟩;have hCY:CycIs r n2 es2 Y:=.inl ⟨hc2,hY⟩;have HAT:=Lib.hid fun k=>HR.out.at hc1 hc2 hX hY (k:=k);have HOUT:=Lib.hid (HR.out.out hc1 hc2 hX hY);clear hX hY;obtain ⟨⟨sx,ex⟩,px⟩:=X;obtain ⟨⟨sy,ey⟩,py⟩:=Y;simp only at ox kx oy ky;have hgx:=ox.cor.gr;have hgy:=oy.cor.gr;simp only at hgx hgy;obtain ⟨mx,rfl⟩:=Int.eq_ofNat_of_zero_le (show 0≤sx by have:=hgx.size;omega);obtain ⟨my,rfl⟩:=Int.eq_ofNat_of_zero_le (show 0≤sy by have:=hgy.size;omega);have hlx:=hgx.len;have hly:=hgy.len;have hmx40:mx≤40:=by have:=hgx.size;omega
 have hpx:px.length≤40:=by have h1:=ox.len;have h2:=hc1.gr.size;have h3:=hgx.size;simp only at h1;omega
 have hpy:py.length≤40:=by have h1:=oy.len;have h2:=hc2.gr.size;have h3:=hgy.size;simp only at h1;omega
 have hokx:OkI px:=ob_of_lets hr3 ox.lt';have hoky:OkI py:=ob_of_lets hr3 oy.lt';have HOX:=Lib.hid ox;have HOY:=Lib.hid oy;have HKX:=Lib.hid kx;have HKY:=Lib.hid ky;have HPX:=Lib.hid hokx;have HOI:Hid (OkI (invW py)):=Lib.hid (invW_okI oy.lt);have HPY:=Lib.hid hoky;have HCX:=Lib.hid hCX;have HCY:=Lib.hid hCY;have HC1:=Lib.hid hc1;have HC2:=Lib.hid hc2;clear ox oy kx ky hokx hoky hCX hCY hc1 hc2 hgx hgy HR;go_enter Tryz.func36,Tryz.ntmps36
 go_upto_region 1 with fail
 generalize (w.alloc (.cells #[.int .i64 r,.int .i64 n,.slice A es.length c] 26)).alloc (.cells #[.int .i64 r,.int .i64 n2,.slice A2 es2.length c2] 26)=w1 at hm0 b0 b1 ⊢;have p0:=b0.cell 0 rfl;have p1:=b0.cell 1 rfl;have p2:=b0.cell 2 rfl;have q0:=b1.cell 0 rfl;have q1:=b1.cell 1 rfl;have q2:=b1.cell 2 rfl;go_wp2_with fail;with_reducible refine (spec_IsSubgroup r n A es c _ _ _ (hr.mid hm0 oZl) hl true (iff_of_true rfl HC1.out)).mono ?_
 rintro en w2 ⟨rfl,hm2⟩;clear p0 p1 p2 q0 q1 q2;replace b0:=b0.mid hm2 oZr;replace b1:=b1.mid hm2 oZr;replace hm0:=hm0.trans hm2;have q0:=b1.cell 0 rfl;have q1:=b1.cell 1 rfl;have q2:=b1.cell 2 rfl;go_wp2_with fail;with_reducible refine (spec_IsSubgroup r n2 A2 es2 c2 _ _ _ (hr2.mid hm0 oZl) hl2 true (iff_of_true rfl HC2.out)).mono ?_
 rintro en w3 ⟨rfl,hm3⟩;clear q0 q1 q2;replace b0:=b0.mid hm3 oZr;replace b1:=b1.mid hm3 oZr;replace hm0:=hm0.trans hm3;have p0:=b0.cell 0 rfl;have p1:=b0.cell 1 rfl;have p2:=b0.cell 2 rfl;have q0:=b1.cell 0 rfl;have q1:=b1.cell 1 rfl;have q2:=b1.cell 2 rfl;clear hm2 hm3;go_wp2_with fail;with_reducible refine (spec_CyclicGraph r n A es c _ _ _ (hr.mid hm0 oZl) hl (((mx:Int),ex),px) HCX.out).mono ?_
 rintro en w4 ⟨AX,cX,APX,cPX,rfl,ogx,opx,hm4⟩;clear p0 p1 p2 q0 q1 q2;replace b1:=b1.mid hm4 oZr;replace hm0:=hm0.trans hm4;clear hm4 b0;have al:=Mid.alloc w4 (.cells #[.int .i64 r,.int .i64 mx,.slice AX ex.length cX] 26);have BX:=Box.new w4 #[.int .i64 r,.int .i64 mx,.slice AX ex.length cX] 26;replace ogx:=ogx.mid al oZl;replace opx:=opx.mid al oZl;replace b1:=b1.mid al oZr;replace hm0:=hm0.trans al;go_upto_region 4 with fail
 generalize hw5:w4.alloc (.cells #[.int .i64 r,.int .i64 mx,.slice AX ex.length cX] 26)=w5 at BX ogx opx b1 hm0 ⊢;obtain ⟨GX,hGX⟩:∃ G,w4.heap.size=G:=⟨_,rfl⟩
 rw [hGX] at BX ogx opx ⊢;clear hw5 al hGX;have q0:=b1.cell 0 rfl;have q1:=b1.cell 1 rfl;have q2:=b1.cell 2 rfl;go_wp2_with fail;with_reducible refine (spec_CyclicGraph r n2 A2 es2 c2 _ _ _ (hr2.mid hm0 oZl) hl2 (((my:Int),ey),py) HCY.out).mono ?_
 rintro en w6 ⟨AY,cY,APY,cPY,rfl,ogy,opy,hm6⟩;clear q0 q1 q2 b1;replace ogx:=ogx.mid hm6 oZl;replace opx:=opx.mid hm6 oZl;replace BX:=BX.mid hm6 oZr;replace hm0:=hm0.trans hm6;clear hm6;have al:=Mid.alloc w6 (.cells #[.int .i64 r,.int .i64 my,.slice AY ey.length cY] 26);have BY:=Box.new w6 #[.int .i64 r,.int .i64 my,.slice AY ey.length cY] 26;replace ogx:=ogx.mid al oZl;replace opx:=opx.mid al oZl;replace ogy:=ogy.mid al oZl;replace opy:=opy.mid al oZl;replace BX:=BX.mid al oZr;replace hm0:=hm0.trans al;go_upto_region 5 with fail
 generalize hw7:w6.alloc (.cells #[.int .i64 r,.int .i64 my,.slice AY ey.length cY] 26)=w7 at BX BY ogx opx ogy opy hm0 ⊢;obtain ⟨GY,hGY⟩:∃ G,w6.heap.size=G:=⟨_,rfl⟩
 rw [hGY] at BY ogy opy ⊢;clear hw7 al hGY;have hcx:=ogx.cnt.1;have hcy:=ogy.cnt.1;have HGX:=Lib.hid ogx.rg;have HGY:=Lib.hid ogy.rg;have HVX:=Lib.hid (OV.rv opx);have HVY:=Lib.hid (OV.rv opy);clear ogx opx ogy opy;have hdiff:((mx:Int)≠my ∨ (ex.length:Int)≠ey.length)→Hid (b=false∧wd=[]):=fun hd=>Lib.hid (HOUT.out fun u hu hme=>by
  have h1:=move_same HOX.out.cor HKX.out (v:=(u:Int)) ⟨by omega,hu⟩;simp only at h1;rw [hme] at h1;simp only at h1;omega)
 have x0:=BX.cell 0 rfl;have x1:=BX.cell 1 rfl;have x2:=BX.cell 2 rfl;have y0:=BY.cell 0 rfl;have y1:=BY.cell 1 rfl;have y2:=BY.cell 2 rfl;by_cases hsz:(mx:Int)=my
 rotate_left
 ·obtain ⟨rfl,rfl⟩:=(hdiff (.inl hsz)).out
  have hzb:((mx:Int) != (my:Int))=true:=by simpa using hsz
  have hm9:=hm0.trans (Mid.alloc w7 (.cells #[] 3));clear hdiff HOUT HAT;go_wp2_with fail;go_ret2;exact ⟨_,_,rfl,EMP.out w7 hm0,hm9⟩
 by_cases hlen:(ex.length:Int)=ey.length
 rotate_left
 ·obtain ⟨rfl,rfl⟩:=(hdiff (.inr hlen)).out
  have hzb:((ex.length:Int) != (ey.length:Int))=true:=by simpa using hlen
  have hsb:((mx:Int) != (my:Int))=false:=by simpa using hsz
  have hm9:=hm0.trans (Mid.alloc w7 (.cells #[] 3));clear hdiff HOUT HAT;go_wp2_with fail;go_ret2;exact ⟨_,_,rfl,EMP.out w7 hm0,hm9⟩
 have hzb:((ex.length:Int) != (ey.length:Int))=false:=by simpa using hlen
 have hsb:((mx:Int) != (my:Int))=false:=by simpa using hsz
 clear hdiff;go_upto_region 7 with fail
 clear x0 x1 x2 y0 y1 y2 hzb hsb hsz hlen;go_wp2_with fail;go_loopw [10] (fun iv wr=>∃ k:Nat,iv=.int .i64 k∧k≤mx∧Hid (∀ u:Nat,u < k→moveA r mx ex u≠((my:Int),ey))∧Box wr GX [.int .i64 r,.int .i64 mx,.slice AX ex.length cX]∧Box wr GY [.int .i64 r,.int .i64 my,.slice AY ey.length cY]∧Mid 0 0 w7 wr) (fun iv _=>mx - (intOf iv).toNat)
 case atStart=>exact ⟨0,by go_num,Nat.zero_le _,Lib.hid (fun u hu=>absurd hu (Nat.not_lt_zero _)),BX,BY,Mid.refl _ _ _⟩
 case round =>
  clear BX BY;obtain ⟨k,rfl,hk,HB,BX,BY,hmw⟩:=hrel;have hm1:=hm0.trans hmw;have hk0:(0:Int)≤(k:Int):=by omega
  have x0:=BX.cell 0 rfl;have x1:=BX.cell 1 rfl;have x2:=BX.cell 2 rfl;by_cases hlt:k < mx
  ·have hlt1:(k:Int) < (mx:Int):=by omega
   have hmv:MoveIs r mx ex k (moveA r mx ex k).1 (moveA r mx ex k).2 true:=.inl ⟨rfl,⟨HOX.out.cor.fol,hk0,hlt1⟩,rfl,rfl⟩;have hmg:=moveA_gr HOX.out.cor.gr (v:=(k:Int)) ⟨hk0,hlt1⟩;simp only at hmg;obtain ⟨mv,hme⟩:∃ mv,moveA r mx ex k=mv:=⟨_,rfl⟩
   rw [hme] at hmv hmg;obtain ⟨ms,me⟩:=mv;simp only at hmv hmg;have hlm:=hmg.len;have HMV:=Lib.hid hmv;have HME:=Lib.hid hme;clear hmv hme hmg;go_wp2_with fail;with_reducible refine (spec_MoveBase r mx AX ex cX k _ _ _ (HGX.out.mid hmw oZl) (by omega) (by omega) ms me true HMV.out).mono ?_
   rintro en w8 ⟨AM,cM,rfl,ogm,hm8⟩;replace BX:=BX.mid hm8 oZr;replace BY:=BY.mid hm8 oZr;replace hmw:=hmw.trans hm8;replace hm1:=hm1.trans hm8;clear x0 x1 x2 hm8;have al:=Mid.alloc w8 (.cells #[.int .i64 r,.int .i64 ms,.slice AM me.length cM] 26);have BM:=Box.new w8 #[.int .i64 r,.int .i64 ms,.slice AM me.length cM] 26;replace ogm:=ogm.mid al oZl;replace BX:=BX.mid al oZr;replace BY:=BY.mid al oZr;replace hmw:=hmw.trans al;replace hm1:=hm1.trans al;go_upto_region 11 with fail
   generalize hw9:w8.alloc (.cells #[.int .i64 r,.int .i64 ms,.slice AM me.length cM] 26)=w9 at BM BX BY ogm hmw hm1 ⊢;obtain ⟨GM,hGM⟩:∃ G,w8.heap.size=G:=⟨_,rfl⟩
   rw [hGM] at BM ogm ⊢;clear hw9 al hGM;obtain ⟨be,hbe⟩:=bool_of (ms=(my:Int)∧me=ey);have HBE:=Lib.hid hbe;clear hbe;have m0:=BM.cell 0 rfl;have m1:=BM.cell 1 rfl;have m2:=BM.cell 2 rfl;have y0:=BY.cell 0 rfl;have y1:=BY.cell 1 rfl;have y2:=BY.cell 2 rfl;go_wp2_with fail;with_reducible refine (spec_EqualGraphs r ms AM me cM r my AY ey cY _ _ _ _ _ ogm.rg (HGY.out.mid hmw oZl) (by omega) (by omega) be ⟨fun h=>⟨rfl,HBE.out.1 h⟩,fun h=>HBE.out.2 h.2⟩).mono ?_
   rintro en w10 ⟨rfl,hm10⟩;clear m0 m1 m2 y0 y1 y2 BM ogm;replace BX:=BX.mid hm10 oZr;replace BY:=BY.mid hm10 oZr;replace hmw:=hmw.trans hm10;replace hm1:=hm1.trans hm10;cases be with
   | true =>
    obtain ⟨h8,h9⟩:=HBE.out.1 rfl;obtain ⟨rfl,hwd⟩:=HAT.out k hlt1 (by rw [HME.out,h8,h9]) HB.out;simp only [Int.toNat_natCast] at hwd;have HWD:=Lib.hid hwd;have hcorx:=HOX.out.cor;simp only at hcorx;have hT:=spec_TreeWord r mx k AX ex cX w10 _ _ (HGX.out.mid hmw oZl) hcorx hlt;obtain ⟨hwl,hwm⟩:=wordV_ok hcorx hlt;generalize wordV r ex (k:Int)=tw at hT HWD hwl hwm;have hokt:OkI tw:=fun x hx=>by have:=mem_lets.1 (hwm x hx);omega
    have HOT:=Lib.hid hokt;have HLT:Hid (LtW tw):=Lib.hid fun x hx=>by have:=mem_lets.1 (hwm x hx);unfold Lt3;omega
    have HTT:=Lib.hid hT;clear hwd hcorx hT hwm hokt h8 h9 HBE HME HMV HAT HOUT HB;have x0:=BX.cell 0 rfl;have x1:=BX.cell 1 rfl;have x2:=BX.cell 2 rfl;go_wp2_with fail;with_reducible refine HTT.out.mono ?_
    rintro en w11 ⟨AT,cT,rfl,hot,hm11⟩;have hrsp:=(HVX.out.mid (hmw.trans hm11) oZl).rsS;have hrst:=Rs.of_own hot;replace hmw:=hmw.trans hm11;replace hm1:=hm1.trans hm11;have HRP:=Lib.hid hrsp;have HRT:=Lib.hid hrst;clear x0 x1 x2 HTT hrsp hrst hot;go_wp2_with fail;with_reducible refine (spec_MultiplyWordsE APX AT px tw cPX cT w11 HRP.out HRT.out HPX.out HOT.out (by omega)).mono ?_
    rintro en w12 ⟨AU,cU,rfl,hou,hbu⟩;have hm12:Mid 0 0 w11 w12:=Mid.of_below hbu;have hrl:(red [] (px++tw)).length≤px.length+tw.length:=by have:=red_nil_len (px++tw);rw [List.length_append] at this;exact this
    have hrok:OkI (red [] (px++tw)):=red_ok (fun x hx=>(List.mem_append.1 hx).elim (HPX.out x) (HOT.out x));have hrl2:red [] (red [] (px++tw)++invW py)=wd:=by
     rw [red_left _ _ (HOX.out.lt.app HLT.out),HWD.out,List.append_assoc]
    generalize red [] (px++tw)=up at hou hrl hrok hrl2;replace hmw:=hmw.trans hm12;replace hm1:=hm1.trans hm12;have hrsy:=(HVY.out.mid hmw oZl).rsS;have HRS:=Lib.hid hrsy;have HOU:=Lib.hid hou;have HUK:=Lib.hid hrok;have HR2:=Lib.hid hrl2;clear hrsy hou hrok hrl2 hbu HRP HRT;go_wp2_with fail;with_reducible refine (spec_InvertWordE APY py cPY w12 HRS.out HPY.out (by omega)).mono ?_
    rintro en w13 ⟨AI,cI,rfl,hoi,hbi⟩;have hoki:=HOI.out;have hilq:(invW py).length≤40:=by rw [invW_len];exact hpy
    generalize invW py=iy at hoi hoki hilq HWD HR2 ⊢;have hm13:Mid 0 0 w12 w13:=Mid.of_below hbi;have hrsu:=Rs.of_own (owns_mid HOU.out hm13 oZl);have hrsi:=Rs.of_own hoi;have hmu:=spec_MultiplyWordsE AU AI up iy cU cI w13 hrsu hrsi HUK.out hoki (by omega);rw [HR2.out] at hmu;have HMU:=Lib.hid hmu;replace hmw:=hmw.trans hm13;replace hm1:=hm1.trans hm13;clear hmu hrsu hrsi hoi hbi hoki HRS HOU;go_wp2_with fail;with_reducible refine HMU.out.mono ?_
    rintro en w14 ⟨A9,c9,rfl,ho9,hb9⟩;have hm14:Mid 0 0 w13 w14:=Mid.of_below hb9;have hsz9:=hm1.size;have hm15:=hm1.trans hm14;have ho9':OI w14 w13.heap.size w14.heap.size A9 c9 wd:=⟨Nat.le_refl _,ho9,fun g hg=>(ho9.lt g hg).2⟩
    go_wp2_with fail;go_ret2;exact ⟨A9,c9,rfl,OV.wide ho9' hsz9 (Nat.le_refl _) (Nat.le_refl _),hm15⟩
   | false =>
    have HB2:Hid (∀ u:Nat,u < k+1→moveA r mx ex u≠((my:Int),ey)):=Lib.hid fun u hu hme=>by
     by_cases hku:u=k
     ·subst hku
      rw [HME.out] at hme;injection hme with h8 h9
      have:=HBE.out.2 ⟨h8,h9⟩;cases this
     ·exact HB.out u (by omega) hme
    go_wp2_with fail;go_roundw
    case rel=>exact ⟨k+1,by go_num,by omega,HB2,BX,BY,hmw⟩
    case measure=>simp [intOf];omega
  ·obtain rfl:k=mx:=by omega
   obtain ⟨rfl,rfl⟩:=HOUT.out (fun u hu=>HB.out u (by omega));have hm9:=hm1.trans (Mid.alloc wr (.cells #[] 3));clear HAT HOUT;go_wp2_with fail;go_ret2;exact ⟨_,_,rfl,EMP.out wr hm1,hm9⟩
end
section
open Go.RowKit
def cwR (xs ys:List Int):List Int:=red [] (red [] (invW ys++xs)++ys)
theorem cwR_ok {xs ys:List Int} (h:OkI xs) (k:OkI ys) (hi:OkI (invW ys)):OkI (cwR xs ys):=red_ok (okI_app (red_ok (okI_app hi h)) k)
theorem cwR_len (xs ys:List Int):(cwR xs ys).length≤xs.length+2 * ys.length:=by
 have h1:=red_nil_len (invW ys++xs);have h2:=red_nil_len (red [] (invW ys++xs)++ys);unfold cwR;rw [List.length_append] at h1 h2;rw [invW_len] at h1;omega
theorem cwR_eqv {xs ys:List Int} (hx:LtW xs) (hy:LtW ys):LtW (cwR xs ys)∧Eqv (cwR xs ys) (cjw (invW ys) xs):=by
 have h1:=hy.inv.app hx;have h2:=(lt_red h1).app hy;refine ⟨lt_red h2,(Eqv.toRed h2).trans ?_⟩;unfold cjw;rw [invW_invW hy,← List.append_assoc];exact Eqv.ctxR hy (lt_red h1) h1 (Eqv.toRed h1)
theorem spec_ConjugateWord (A:Option Addr) (xs:List Int) (c:Nat) (A':Option Addr) (ys:List Int) (c':Nat) (w:World) (lo hi lo' hi':Nat) (hr:RV w lo hi A (ints xs)) (hr':RV w lo' hi' A' (ints ys)) (hok:OkI xs) (hok':OkI ys) (hoki:OkI (invW ys)) (hl:xs.length≤100000) (hl':ys.length≤100000) :
  Calls Tryz.prog 31 #[.slice A xs.length c,.slice A' ys.length c'] w fun e w'=>∃ A2 c2,e=.returned (.slice A2 (cwR xs ys).length c2)∧OI w' w.heap.size w'.heap.size A2 c2 (cwR xs ys)∧Mid 0 0 w w':=by
 have H1:=Lib.hid (spec_InvertWord A' ys c' _ w hr'.rsS (Nat.le_refl _) hok' (by omega));have HO:=Lib.hid hok;have HO':=Lib.hid hok';have HOI:=Lib.hid hoki;clear hok hok' hoki;go_enter Tryz.func31,Tryz.ntmps31
 go_wp2_with fail;with_reducible refine (H1.out).mono ?_
 rintro e1 w1 h1;obtain ⟨A1,c1,rfl,o1,m1⟩:=RetI.toOI (tI:=3) h1;have r1:=o1.ri.rsS;have hr1:=hr.mid m1 oZl;have hr1':=hr'.mid m1 oZl;have hlI:(invW ys).length≤100000:=by rw [invW_len];exact hl'
 have H2:=Lib.hid (spec_MultiplyWords A1 A (invW ys) xs c1 c w1 r1 hr1.rsS HOI.out HO.out (by omega));have hs1:=m1.size;clear h1 r1 H1 o1 hr hr';go_wp2_with fail;with_reducible refine (H2.out).mono ?_
 rintro e2 w2 h2;obtain ⟨A2,c2,rfl,o2,m2⟩:=RetI.toOI (tI:=3) h2;have r2:=o2.ri.rsS;have hr2':=hr1'.mid m2 oZl;have hlI2:(red [] (invW ys++xs)).length≤200000:=by have:=red_nil_len (invW ys++xs);rw [List.length_append] at this;omega
 have H3:=Lib.hid (spec_MultiplyWords A2 A' (red [] (invW ys++xs)) ys c2 c' w2 r2 hr2'.rsS (red_ok (okI_app HOI.out HO.out)) HO'.out (by omega));have hs2:=m2.size;clear h2 r2 H2 o2 hr1 hr1';go_wp2_with fail;with_reducible refine (H3.out).mono ?_
 rintro e3 w3 h3;obtain ⟨A3,c3,rfl,o3,m3⟩:=RetI.toOI (tI:=3) h3;have m9:=Lib.hid ((m1.trans m2).trans m3);have o9:=Lib.hid (o3.wide (lo':=w.heap.size) (by omega) o3.size (Nat.le_refl _));clear h3 H3 m1 m2 m3 o3;go_wp2_with fail;go_ret;exact ⟨A3,c3,rfl,o9.out,m9.out⟩
theorem spec_BasisOfA (r s:Int) (A:Option Addr) (es:List Ed) (c:Nat) (w:World) (lo hi:Nat) (hr:RG w lo hi A es) (hco:IsCor r s es) :
  Calls Tryz.prog 30 #[graV r s A es.length c] w fun e w'=>∃ A1 c1,e=.returned (.slice A1 (basA r es).length c1)∧OSS w' w.heap.size w'.heap.size 34 3 A1 c1 (basA r es)∧Mid 0 0 w w':=by
 obtain ⟨a,n,rfl,rfl⟩:=hco.gr.nat;exact spec_BasisA a n A es c w lo hi hr hco
theorem basA_facts {r s:Int} {es:List Ed} (h:IsCor r s es):(basA r es).length≤120∧∀ x∈basA r es,x.length≤81∧OkI x∧LtW x∧InS es x:=by
 obtain ⟨a,n,rfl,rfl⟩:=h.gr.nat;refine ⟨basA_len h,fun x hx=>?_⟩;have h1:=basA_ok h hx;rw [basA_eq,Int.toNat_natCast] at hx;have h2:=basisG_inS h hx;exact ⟨h1.1,h1.2,h2.1,h2.2⟩
theorem conj_basis {r s:Int} {es es':List Ed} {u:List Int} (h:IsCor r s es) (hu:LtW u) (hc:Cj es es' u) {x:List Int} (hx:x∈basA r es):InS es' (cwR x u):=by
 have hb:=(basA_facts h).2 x hx;obtain ⟨h1,h2⟩:=cwR_eqv hb.2.2.1 hu;rw [InS.eqv h2,hc _ (cjw_lt hu.inv hb.2.2.1)];exact (InS.eqv (cjw_inv hu hb.2.2.1)).2 hb.2.2.2
end
section
open Go.RowKit
theorem and255 (n:Int):bits .and .i64 n 255=n % 256:=by
 have h255:(BitVec.ofInt 64 255).toNat=2 ^ 8 - 1:=by decide
 have key:(BitVec.ofInt 64 n &&& BitVec.ofInt 64 255).toNat=(n % ((2 ^ 64:Nat):Int)).toNat % 2 ^ 8:=by
  rw [BitVec.toNat_and,BitVec.toNat_ofInt,h255,Nat.and_two_pow_sub_one_eq_mod]
 show IntKind.i64.wrap ((BitVec.ofInt 64 n &&& BitVec.ofInt 64 255).toNat:Nat)=n % 256
 rw [key,IntKind.wrap_i64];omega
theorem and30 (n:Int):bits .and .i64 n 1073741823=n % 1073741824:=by
 have h30:(BitVec.ofInt 64 1073741823).toNat=2 ^ 30 - 1:=by decide
 have key:(BitVec.ofInt 64 n &&& BitVec.ofInt 64 1073741823).toNat=(n % ((2 ^ 64:Nat):Int)).toNat % 2 ^ 30:=by
  rw [BitVec.toNat_and,BitVec.toNat_ofInt,h30,Nat.and_two_pow_sub_one_eq_mod]
 show IntKind.i64.wrap ((BitVec.ofInt 64 n &&& BitVec.ofInt 64 1073741823).toNat:Nat)=n % 1073741824
 rw [key,IntKind.wrap_i64];omega
def byts (xs:List Int):List Value:=xs.map (Value.int .u8)
theorem byts_len (xs:List Int):(byts xs).length=xs.length:=by simp [byts]
def OkB (xs:List Int):Prop:=∀ x∈xs,0≤x∧x≤255
theorem Rs.byte {w:World} {B:Nat} {A:Option Addr} {xs:List Int} (h:Rs w B A (byts xs)) {k:Nat} (hk:k < xs.length) :
  ∃ b off x,A=some ⟨b,off,none⟩∧b < B∧xs[k]?=some x∧w.cell? ⟨b,off+k,none⟩=some (.int .u8 x):=by
 obtain ⟨b,off,u,e,hb,hu,hc⟩:=h.at (j:=k) (by rw [byts_len];exact hk);obtain ⟨x,hx⟩:=get_of_lt xs hk;unfold byts at hu;rw [List.getElem?_map,hx] at hu;simp at hu;subst hu;exact ⟨b,off,x,e,hb,hx,hc⟩
def Cur (w:World) (p:Nat) (A:Option Addr) (bs:List Int) (c:Nat):Prop :=
 ∃ (i:Nat) (h:Int),i≤bs.length∧(-9223372036854775808≤h∧h≤9223372036854775807)∧Box w p [.slice A bs.length c,.int .i64 i,.int .i64 h]∧RV w 0 p A (byts bs)
theorem Cur.mid {w w':World} {p:Nat} {A:Option Addr} {bs:List Int} {c a b:Nat} (h:Cur w p A bs c) (m:Mid a b w w') (hd:p < a ∨ b=0):Cur w' p A bs c:=by
 obtain ⟨i,x,h1,h2,h3,h4⟩:=h;exact ⟨i,x,h1,h2,h3.mid m (by omega),h4.mid m (by omega)⟩
theorem Cur.lt {w:World} {p:Nat} {A:Option Addr} {bs:List Int} {c:Nat} (h:Cur w p A bs c):p < w.heap.size:=by
 obtain ⟨i,x,h1,h2,h3,h4⟩:=h;exact h3.1
theorem l1Byte_any (p:Nat) (A:Option Addr) (bs:List Int) (c:Nat) (w:World) (hb:OkB bs) (hl:bs.length≤1048576) (h:Cur w p A bs c) :
  Calls Tryz.prog 191 #[.pointer (some ⟨p,0,none⟩)] w fun e w'=>∃ x:Nat,e=.returned (.int .i64 x)∧x < 256∧Cur w' p A bs c∧Mid p (p+1) w w':=by
 obtain ⟨i,s,hi,hs,hbox,hrv⟩:=h;have cc0:=hbox.cell 0 rfl;have cc1:=hbox.cell 1 rfl;have cc2:=hbox.cell 2 rfl;have hfz:=hbox.2.2;have hpw:=hbox.1;go_enter Tryz.func191,Tryz.ntmps191
 go_wp2_with fail;obtain ⟨s2,hs2⟩:∃ x,wrap64 (wrap64 (s * 6364136223846793005)+1442695040888963407)=x:=⟨_,rfl⟩
 have hs2b:-9223372036854775808≤s2∧s2≤9223372036854775807:=by rw [← hs2];unfold wrap64;omega
 rw [hs2];clear hs2;have hbox1:=hbox.set 2 (.int .i64 s2) (by simp) rfl;have hm1:Mid p (p+1) w (w.setCell ⟨p,2,none⟩ (.int .i64 s2)):=Mid.setCell w _ (Nat.le_refl _) (Nat.lt_succ_self _);have hrv1:=hrv.mid hm1 (Or.inr (Nat.le_refl _));generalize w.setCell ⟨p,2,none⟩ (.int .i64 s2)=w1 at hbox1 hm1 hrv1 ⊢;clear cc0 cc1 cc2 hbox hrv hpw hfz;have cc0:=hbox1.cell 0 rfl;have cc1:=hbox1.cell 1 rfl;have cc2:=hbox1.cell 2 rfl;have hfz:=hbox1.2.2;have hpw:=hbox1.1;go_quiet (fail)
 go_wp2_with fail;obtain ⟨x1,hx1⟩:∃ x:Nat,bits BinOp.and IntKind.i64 (bits BinOp.xor IntKind.i64 (s2 / 8589934592) (s2 / 35184372088832)) 255=x:=⟨_,(Int.toNat_of_nonneg (by rw [and255];omega)).symm⟩
 have hx1b:x1 < 256:=by rw [and255] at hx1;omega
 rw [hx1];clear hx1;have hm2:=hm1.drewN nq;have hbox2:=hbox1.drewN nq;have hrv2:RV (w1.drewN nq) 0 p A (byts bs):=hrv1;generalize w1.drewN nq=w2 at hbox2 hm2 hrv2 ⊢;clear cc0 cc1 cc2 hbox1 hrv1 hpw hfz hm1;have cc0:=hbox2.cell 0 rfl;have cc1:=hbox2.cell 1 rfl;have cc2:=hbox2.cell 2 rfl;have hfz:=hbox2.2.2;have hpw:=hbox2.1;by_cases hlt:i < bs.length
 ·go_quiet (fail)
  have hm3:=hm2.drewN nq;have hbox3:=hbox2.drewN nq;have hrv3:RV (w2.drewN nq) 0 p A (byts bs):=hrv2;generalize w2.drewN nq=w3 at hbox3 hm3 hrv3 ⊢;clear cc0 cc1 cc2 hbox2 hrv2 hpw hfz hm2;have cc0:=hbox3.cell 0 rfl;have cc1:=hbox3.cell 1 rfl;have cc2:=hbox3.cell 2 rfl;have hfz:=hbox3.2.2;have hpw:=hbox3.1;go_wp2_with fail;obtain ⟨B,off,y,rfl,hB,hy,hcy⟩:=hrv3.rs.byte hlt;have hyb:=hb y (List.mem_of_getElem? hy);clear hy;go_quiet (fail)
  go_wp2_with fail;obtain ⟨x2,hx2⟩:∃ x:Nat,bits BinOp.and IntKind.i64 ((x1:Int)+y) 255=x:=⟨_,(Int.toNat_of_nonneg (by rw [and255];omega)).symm⟩
  have hx2b:x2 < 256:=by rw [and255] at hx2;omega
  rw [hx2];go_ret;have hm4:=(hm3.drewN nq).trans (Mid.setCell (w3.drewN nq) (p:=⟨p,1,none⟩) (.int .i64 ((i:Int)+1)) (Nat.le_refl _) (Nat.lt_succ_self _));refine ⟨x2,rfl,hx2b,⟨i+1,s2,by omega,hs2b,?_,?_⟩,hm4⟩
  ·simpa using (hbox3.drewN nq).set 1 (.int .i64 ((i:Int)+1)) (by simp) rfl
  ·exact RV.mid (w:=w3.drewN nq) hrv3 (Mid.setCell (w3.drewN nq) (p:=⟨p,1,none⟩) (.int .i64 ((i:Int)+1)) (Nat.le_refl _) (Nat.lt_succ_self _)) (Or.inr (Nat.le_refl _))
 ·go_quiet (fail)
  go_wp2_with fail;go_ret;exact ⟨x1,rfl,hx1b,⟨i,s2,hi,hs2b,hbox2.drewN _,hrv2⟩,hm2.drewN _⟩
theorem l1Below_pos (n:Nat) (hn:0 < n) (hn2:n≤1048576) (p:Nat) (A:Option Addr) (bs:List Int) (c:Nat) (w:World) (hb:OkB bs) (hl:bs.length≤1048576) (h:Cur w p A bs c) :
  Calls Tryz.prog 127 #[.pointer (some ⟨p,0,none⟩),.int .i64 n] w fun e w'=>∃ x:Nat,e=.returned (.int .i64 x)∧x < n∧Cur w' p A bs c∧Mid p (p+1) w w':=by
 have hn0:¬ n=0:=by omega
 by_cases hs:n≤256
 ·go_enter Tryz.func127,Tryz.ntmps127
  go_wp2_with fail;with_reducible refine (l1Byte_any p A bs c _ hb hl h).mono ?_
  rintro e w1 ⟨x,rfl,hx,h1,m1⟩;go_wp2_with fail;go_ret;exact ⟨x % n,rfl,Nat.mod_lt _ hn,h1,m1⟩
 ·go_enter Tryz.func127,Tryz.ntmps127
  go_wp2_with fail;with_reducible refine (l1Byte_any p A bs c _ hb hl h).mono ?_
  rintro e w1 ⟨x,rfl,hx,h1,m1⟩;go_wp2_with fail;with_reducible refine (l1Byte_any p A bs c _ hb hl h1).mono ?_
  rintro e w2 ⟨y,rfl,hy,h2,m2⟩;go_wp2_with fail;with_reducible refine (l1Byte_any p A bs c _ hb hl h2).mono ?_
  rintro e w3 ⟨z,rfl,hz,h3,m3⟩;go_wp2_with fail;with_reducible refine (l1Byte_any p A bs c _ hb hl h3).mono ?_
  rintro e w4 ⟨t,rfl,ht,h4,m4⟩;go_wp2_with fail;go_ret;exact ⟨(x * 16777216+y * 65536+z * 256+t) % n,by simp,Nat.mod_lt _ hn,h4,((m1.trans m2).trans m3).trans m4⟩
theorem l1Once_any (n:Nat) (hn:0 < n) (hn2:n≤1048576) (p:Nat) (A:Option Addr) (bs:List Int) (c:Nat) (w:World) (hb:OkB bs) (hl:bs.length≤1048576) (h:Cur w p A bs c) :
  Calls Tryz.prog 125 #[.pointer (some ⟨p,0,none⟩),.int .i64 n] w fun e w'=>∃ x:Bool,e=.returned (.bool x)∧Cur w' p A bs c∧Mid p (p+1) w w':=by
 go_enter Tryz.func125,Tryz.ntmps125
 go_wp2_with fail;with_reducible refine (l1Below_pos n hn hn2 p A bs c _ hb hl h).mono ?_
 rintro e w1 ⟨x,rfl,hx,h1,m1⟩;go_wp2_with fail;all_goals
  go_ret;exact ⟨_,rfl,h1,m1⟩
theorem l1PickInt_any (B:Option Addr) (xs:List Int) (d:Nat) (hne:0 < xs.length) (hln:xs.length≤1048576) (p:Nat) (A:Option Addr) (bs:List Int) (c:Nat) (w:World) (lo hi:Nat) (hx:RI w lo hi B xs) (hp:p < lo ∨ hi≤p) (hb:OkB bs) (hl:bs.length≤1048576) (h:Cur w p A bs c) :
  Calls Tryz.prog 216 #[.pointer (some ⟨p,0,none⟩),.slice B xs.length d] w fun e w'=>∃ x:Int,e=.returned (.int .i64 x)∧x∈xs∧Cur w' p A bs c∧Mid p (p+1) w w':=by
 go_enter Tryz.func216,Tryz.ntmps216
 go_wp2_with fail;with_reducible refine (l1Below_pos xs.length hne hln p A bs c _ hb hl h).mono ?_
 rintro e w1 ⟨k,rfl,hk,h1,m1⟩;have hx1:=hx.mid m1 (by omega);obtain ⟨b,off,x,rfl, -,hxx,hcx⟩:=hx1.rs.int hk;have hmem:=List.mem_of_getElem? hxx;clear hxx;go_wp2_with fail;go_ret;exact ⟨x,rfl,hmem,h1,m1⟩
theorem l1BelowI (n:Int) (hn:0 < n) (hn2:n≤1048576) (p:Nat) (A:Option Addr) (bs:List Int) (c:Nat) (w:World) (hb:OkB bs) (hl:bs.length≤1048576) (h:Cur w p A bs c) :
  Calls Tryz.prog 127 #[.pointer (some ⟨p,0,none⟩),.int .i64 n] w fun e w'=>∃ x:Nat,e=.returned (.int .i64 x)∧(x:Int) < n∧Cur w' p A bs c∧Mid p (p+1) w w':=by
 obtain ⟨m,rfl⟩:=Int.eq_ofNat_of_zero_le (by omega:0≤n);exact (l1Below_pos m (by omega) (by omega) p A bs c w hb hl h).mono fun _ _ ⟨x,he,hx,h⟩=>⟨x,he,by omega,h⟩
theorem l1OnceI (n:Int) (hn:0 < n) (hn2:n≤1048576) (p:Nat) (A:Option Addr) (bs:List Int) (c:Nat) (w:World) (hb:OkB bs) (hl:bs.length≤1048576) (h:Cur w p A bs c) :
  Calls Tryz.prog 125 #[.pointer (some ⟨p,0,none⟩),.int .i64 n] w fun e w'=>∃ x:Bool,e=.returned (.bool x)∧Cur w' p A bs c∧Mid p (p+1) w w':=by
 obtain ⟨m,rfl⟩:=Int.eq_ofNat_of_zero_le (by omega:0≤n);exact l1Once_any m (by omega) (by omega) p A bs c w hb hl h
theorem l1PickIntN (B:Option Addr) (xs:List Int) (n d:Nat) (hxn:xs.length=n) (hne:0 < n) (hln:n≤1048576) (p:Nat) (A:Option Addr) (bs:List Int) (c:Nat) (w:World) (lo hi:Nat) (hx:RI w lo hi B xs) (hp:p < lo ∨ hi≤p) (hb:OkB bs) (hl:bs.length≤1048576) (h:Cur w p A bs c) :
  Calls Tryz.prog 216 #[.pointer (some ⟨p,0,none⟩),.slice B n d] w fun e w'=>∃ x:Int,e=.returned (.int .i64 x)∧x∈xs∧Cur w' p A bs c∧Mid p (p+1) w w':=by
 subst hxn;exact l1PickInt_any B xs d hne hln p A bs c w lo hi hx hp hb hl h
theorem l1New_any (A:Option Addr) (bs:List Int) (c:Nat) (w:World) (hi:Nat) (hb:OkB bs) (hl:bs.length≤1048576) (hr:RV w 0 hi A (byts bs)) :
  Calls Tryz.prog 110 #[.slice A bs.length c] w fun e w'=>∃ p,e=.returned (.pointer (some ⟨p,0,none⟩))∧w.heap.size≤p∧Cur w' p A bs c∧Mid 0 0 w w':=by
 have hfin:∀ x:Int,(0≤x∧x≤1073741824)→Cur (w.alloc (.cells #[.slice A bs.length c,.int .i64 0,.int .i64 x] 117)) w.heap.size A bs c:=fun x hx =>
  ⟨0,x,Nat.zero_le _,by omega,by simpa using Box.new w #[.slice A bs.length c,.int .i64 0,.int .i64 x] 117,(hr.mid (Mid.alloc w _) oZl).wide (Nat.zero_le _) hr.1 (by simp)⟩
 have hfin:=Lib.hid hfin;go_enter Tryz.func110,Tryz.ntmps110
 go_wp2_with fail;go_loop [3,4] (fun hv i=>∃ (k:Nat) (x:Int),k≤bs.length∧i=.int .i64 k∧hv=.int .i64 x∧(0≤x∧x≤1073741824)) (fun _ i=>bs.length - (intOf i).toNat)
 case atStart=>exact ⟨0,_,Nat.zero_le _,rfl,rfl,by omega,by omega⟩
 case round =>
  obtain ⟨k,x,hk,rfl,rfl,hx⟩:=hrel;by_cases hlt:k < bs.length
  ·obtain ⟨K,hK⟩:∃ x:Bool,decide ((k:Int) < 4000)=x:=⟨_,rfl⟩
   cases K
   ·go_wp2_with fail
    go_ret;exact ⟨w.heap.size,rfl,Nat.le_refl _,hfin.out x hx,Mid.alloc _ _⟩
   ·obtain ⟨b,off,y,rfl, -,hy,hcy⟩:=hr.rs.byte hlt
    have hyb:=hb y (List.mem_of_getElem? hy);clear hy;go_wp2_with fail;obtain ⟨x2,hx2⟩:∃ z,bits BinOp.and IntKind.i64 (x * 131+y+7) 1073741823=z:=⟨_,rfl⟩
    have hx2b:0≤x2∧x2≤1073741824:=by rw [and30] at hx2;omega
    rw [hx2];go_round
    case rel=>exact ⟨k+1,x2,by omega,by go_num,rfl,hx2b⟩
    case measure=>simp [intOf];omega
  ·go_wp2_with fail
   go_ret;exact ⟨w.heap.size,rfl,Nat.le_refl _,hfin.out x hx,Mid.alloc _ _⟩
end
section
open Go.RowKit
theorem LtW.ok {w:List Int} (h:LtW w):OkI w:=fun x hx=>by
 have:=h x hx;unfold Lt3 at this;omega
def natV:Value→Nat
 | .int _ n=>n.toNat
 | _=>0
theorem l2Of_any (r:Int) (hr1:1≤r) (hr3:r≤3) (m:Int) (hm0:0≤m) (hm2:m≤24) (p:Nat) (A:Option Addr) (bs:List Int) (c:Nat) (w:World) (hb:OkB bs) (hl:bs.length≤1048576) (h:Cur w p A bs c) :
  Calls Tryz.prog 112 #[.pointer (some ⟨p,0,none⟩),.int .i64 r,.int .i64 m] w fun e w'=>∃ A' c' xs,e=.returned (.slice A' (List.length xs) c')∧(((xs.length:Nat):Int)≤m∧LtW xs∧Rd xs)∧OI w' w.heap.size w'.heap.size A' c' xs∧Cur w' p A bs c∧Mid p (p+1) w w':=by
 have hpw:=h.lt;have hal:=Mid.alloc w (.cells #[] 3);have ho:=owns_empty w 3 1;have h0:=h.mid hal (Or.inr rfl);go_enter Tryz.func112,Tryz.ntmps112
 go_wp2_with fail;with_reducible refine (l1BelowI (m+1) (by omega) (by omega) p A bs c _ hb hl h0).mono ?_
 rintro e w1 ⟨n0,rfl,hn0,h1,m1⟩;have ho1:=owns_mid ho m1 (Or.inl (by omega));have hm1:=hal.zero.trans m1;have hs1:=hm1.size;clear h0 hal m1 ho;go_wp2_with fail;go_loopw [7,8] (fun wv nv wr=>∃ (xs:List Int) (n:Nat) (Ax:Option Addr) (cx L:Nat),nv=.int .i64 n∧wv=.slice Ax L cx∧Hid (xs.length=L)∧(L:Int)+(n:Int)≤m∧Hid (LtW xs)∧wr.ownsRow w.heap.size 3 1 (.slice Ax L cx) L (ints xs)∧Cur wr p A bs c∧Mid p (p+1) w wr)
  (fun _ nv _=>natV nv)
 case atStart=>exact ⟨[],n0,_,_,0,rfl,rfl,Lib.hid rfl,by omega,Lib.hid LtW.nil,by simpa [ints] using ho1,h1,hm1⟩
 case round =>
  obtain ⟨xs,n,Ax,cx,L,rfl,rfl,HL,hLm,HW,ho,hc,hm⟩:=hrel;have hs:=hm.size;by_cases hlt:0 < n
  ·go_wp2_with fail
   with_reducible refine (l1BelowI r (by omega) (by omega) p A bs c _ hb hl hc).mono ?_
   rintro e w2 ⟨x,rfl,hx,hc2,m2⟩;have ho2:=owns_mid ho m2 (Or.inl hpw);have hm2:=hm.trans m2;have ew1:IntKind.i64.wrap (1+(x:Int))=1+(x:Int):=IntWalk.i64_in _ (by omega);clear ho hc m2;go_wp2_with fail;with_reducible refine (l1OnceI 2 (by decide) (by decide) p A bs c _ hb hl hc2).mono ?_
   rintro e w3 ⟨b,rfl,hc3,m3⟩;have ho3:=owns_mid ho2 m3 (Or.inl hpw);have hm3:=hm2.trans m3;have hs3:=hm3.size;clear ho2 hc2 m3 hm2 hm;have key:∀ y:Int,(y=1+(x:Int) ∨ y = -(1+(x:Int)))→Lt3 y:=fun y hy=>by
    unfold Lt3;omega
   have KEY:=Lib.hid key;clear key;cases b
   ·go_wp2_with (at_builtin;refine wpList_push rfl _ _ 34 rfl w.heap.size 3 (.int .i64 0) 1 8 undSI infoI rfl (by decide) _ _ _ rfl ho3 1 [.int .i64 (1+(x:Int))] rfl rfl ?c1 ?c2 ?c3 hs3 ?next)
    case c1=>exact one_of_ints [1+(x:Int)]
    case c2=>unfold maxLen;omega
    case c3=>omega
    case next =>
     intro v4 w4 ho4 hgr4 hat4;obtain ⟨A4,c4,rfl, -, -⟩:=owns_shape ho4;have m4:Mid w.heap.size w3.heap.size w3 w4:=Mid.of_grownRow ho3 hgr4;go_wp2_with fail;go_roundw
     case rel =>
      refine ⟨xs++[1+(x:Int)],n - 1,A4,c4,L+1,by go_num,rfl,Lib.hid (by simp [HL.out]),by omega,Lib.hid (HW.out.app (LtW.one (KEY.out _ (.inl rfl)))),by rw [ints_append];exact ho4,hc3.mid m4 (Or.inl hpw),hm3.transNew m4 (Or.inl (Nat.le_refl _))⟩
     case measure=>simp [natV];omega
   ·go_wp2_with (at_builtin;refine wpList_push rfl _ _ 34 rfl w.heap.size 3 (.int .i64 0) 1 8 undSI infoI rfl (by decide) _ _ _ rfl ho3 1 [.int .i64 (-(1+(x:Int)))] rfl rfl ?c1 ?c2 ?c3 hs3 ?next)
    case c1=>exact one_of_ints [-(1+(x:Int))]
    case c2=>unfold maxLen;omega
    case c3=>omega
    case next =>
     intro v4 w4 ho4 hgr4 hat4;obtain ⟨A4,c4,rfl, -, -⟩:=owns_shape ho4;have m4:Mid w.heap.size w3.heap.size w3 w4:=Mid.of_grownRow ho3 hgr4;go_wp2_with fail;go_roundw
     case rel =>
      refine ⟨xs++[-(1+(x:Int))],n - 1,A4,c4,L+1,by go_num,rfl,Lib.hid (by simp [HL.out]),by omega,Lib.hid (HW.out.app (LtW.one (KEY.out _ (.inr rfl)))),by rw [ints_append];exact ho4,hc3.mid m4 (Or.inl hpw),hm3.transNew m4 (Or.inl (Nat.le_refl _))⟩
     case measure=>simp [natV];omega
  ·have hok:=HW.out.ok
   have hxl:=HL.out;have hrs:=Rs.of_own ho;have hc5:Calls Tryz.prog 109 #[.slice Ax L cx] wr fun e w'=>RetI 3 (red [] xs) wr e w':=by
    have:=spec_ReduceLetters Ax xs cx wr wr.heap.size hrs (Nat.le_refl _) hok (by omega)
    rwa [hxl] at this
   clear hok hxl hrs;go_wp2_with fail;with_reducible refine hc5.mono ?_
   rintro e w5 ⟨A5,c5,rfl,ho5,hb5⟩;go_wp2_with fail;go_ret;have hlen:=red_nil_len xs;have hL:=HL.out;have m5:Mid 0 0 wr w5:=Mid.of_below hb5;exact ⟨A5,c5,red [] xs,rfl,⟨by omega,lt_red HW.out,rd_red HW.out⟩,(OV.new ho5).wide hs (Nat.le_refl _) (Nat.le_refl _),hc.mid m5 (Or.inr rfl),hm.trans m5.zero⟩
end
section
open Go.RowKit
end
section
open Go.RowKit
theorem spec_AddEdgeB (r s:Int) (A:Option Addr) (es:List Ed) (c:Nat) (e:Ed) (w:World) (lo hi:Nat) (hr:RG w lo hi A es) (hg:IsGr r s es) (he:edB r s e=true) (hl:es.length < 120) (bb:Bool) (hne:decide ((es.length:Int) < ((putE e es).length:Int))=bb) :
  Calls Tryz.prog 222 #[graV r s A es.length c,e.v] w fun en w'=>∃ A1 c1,en=.returned (.tuple #[graV r s A1 (putE e es).length c1,.bool bb])∧OG w' w.heap.size w'.heap.size A1 c1 (putE e es)∧Mid 0 0 w w':=by
 have hm0:Mid 0 0 w (((w.alloc (.cells #[.int .i64 r,.int .i64 s,.slice A es.length c] 26)).alloc (.cells #[.int .i64 e.a,.int .i64 e.l,.int .i64 e.b] 68)).alloc (.cells #[.int .i64 0,.int .i64 0,.slice none 0 0] 26)):=((Mid.alloc _ _).trans (Mid.alloc _ _)).trans (Mid.alloc _ _);have B0:=((Box.new w #[.int .i64 r,.int .i64 s,.slice A es.length c] 26).mid (Mid.alloc _ (.cells #[.int .i64 e.a,.int .i64 e.l,.int .i64 e.b] 68)) oZr).mid (Mid.alloc _ (.cells #[.int .i64 0,.int .i64 0,.slice none 0 0] 26)) oZr;have B1:=(Box.new (w.alloc (.cells #[.int .i64 r,.int .i64 s,.slice A es.length c] 26)) #[.int .i64 e.a,.int .i64 e.l,.int .i64 e.b] 68).mid (Mid.alloc _ (.cells #[.int .i64 0,.int .i64 0,.slice none 0 0] 26)) oZr;have B2:=Box.new ((w.alloc (.cells #[.int .i64 r,.int .i64 s,.slice A es.length c] 26)).alloc (.cells #[.int .i64 e.a,.int .i64 e.l,.int .i64 e.b] 68)) #[.int .i64 0,.int .i64 0,.slice none 0 0] 26;simp only [World.size_alloc] at B1 B2;have HG:=Lib.hid hg;clear hg;go_enter Tryz.func222,Tryz.ntmps222
 go_wp2_with fail;generalize ((w.alloc (.cells #[.int .i64 r,.int .i64 s,.slice A es.length c] 26)).alloc (.cells #[.int .i64 e.a,.int .i64 e.l,.int .i64 e.b] 68)).alloc (.cells #[.int .i64 0,.int .i64 0,.slice none 0 0] 26)=w1 at hm0 B0 B1 B2 ⊢;have hs1:w.heap.size+1+1 < w1.heap.size:=B2.1;with_reducible refine (spec_l4Copy r s A es c _ _ _ (hr.mid hm0 oZl) (by omega)).mono ?_
 rintro en w2 ⟨A1,c1,rfl,ho2,hm2⟩;have hal:=Mid.alloc w2 (.cells #[.int .i64 r,.int .i64 s,.slice A1 es.length c1] 26);have Y3:=Box.new w2 #[.int .i64 r,.int .i64 s,.slice A1 es.length c1] 26;have hs2:=hm2.size;replace B0:=B0.mid hm2 oZr;replace B1:=B1.mid hm2 oZr;replace B2:=B2.mid hm2 oZr;replace hm0:=hm0.trans hm2;replace B0:=B0.mid hal oZr;replace B1:=B1.mid hal oZr;replace B2:=B2.mid hal oZr;replace hm0:=hm0.trans hal;have p0:=B0.cell 0 rfl;have p1:=B0.cell 1 rfl;have p2:=B0.cell 2 rfl;go_wp2_with fail;generalize w2.alloc (.cells #[.int .i64 r,.int .i64 s,.slice A1 es.length c1] 26)=w3 at hm0 B0 B1 B2 Y3 p0 p1 p2 ⊢;have hG3:w2.heap.size < w3.heap.size:=Y3.1;with_reducible refine (spec_IsGraph r s A es c _ _ _ (hr.mid hm0 oZl).rv (by omega) true (iff_of_true rfl HG.out)).mono ?_
 rintro en w4 ⟨rfl,hm4⟩;replace B0:=B0.mid hm4 oZr;replace B1:=B1.mid hm4 oZr;replace B2:=B2.mid hm4 oZr;replace Y3:=Y3.mid hm4 oZr;replace hm0:=hm0.trans hm4;have hs4:=hm4.size;clear p0 p1 p2 hm4 ho2 hal;have p0:=B0.cell 0 rfl;have p1:=B0.cell 1 rfl;have p2:=B0.cell 2 rfl;have k0:=B1.cell 0 rfl;have k1:=B1.cell 1 rfl;have k2:=B1.cell 2 rfl;go_wp2_with fail;have hEd:=spec_l4Edge r s A es.length c e w4;rw [he] at hEd;with_reducible refine hEd.mono ?_
 rintro en w5 ⟨rfl,hm5⟩;replace B0:=B0.mid hm5 oZr;replace B1:=B1.mid hm5 oZr;replace B2:=B2.mid hm5 oZr;replace Y3:=Y3.mid hm5 oZr;replace hm0:=hm0.trans hm5;have hs5:=hm5.size;clear p0 p1 p2 k0 k1 k2 hm5 hEd;have p0:=B0.cell 0 rfl;have p1:=B0.cell 1 rfl;have p2:=B0.cell 2 rfl;have k0:=B1.cell 0 rfl;have k1:=B1.cell 1 rfl;have k2:=B1.cell 2 rfl;have d1:decide ((120:Int)≤(es.length:Int))=false:=by simp;omega
 go_wp2_with fail;with_reducible refine (spec_l4Put A es c e w5 _ _ (hr.mid hm0 oZl) (by omega)).mono ?_
 rintro en w6 ⟨A6,c6,rfl,ho6,hm6⟩;replace B0:=B0.mid hm6 oZr;replace B1:=B1.mid hm6 oZr;replace B2:=B2.mid hm6 oZr;replace Y3:=Y3.mid hm6 oZr;replace hm0:=hm0.trans hm6;have hs6:=hm6.size;clear p0 p1 p2 k0 k1 k2 hm6;obtain ⟨P,hP⟩:∃ P,putE e es=P:=⟨_,rfl⟩
 rw [hP] at hne ho6 ⊢;have hst:=Mid.setCell w6 (lo:=w2.heap.size) (hi:=w2.heap.size+1) (p:=⟨w2.heap.size,2,none⟩) (.slice A6 P.length c6) (Nat.le_refl _) (Nat.lt_succ_self _);have qf:=Y3.2.2;have q2:=Y3.cell 2 rfl;have hG6:w2.heap.size < w6.heap.size:=Y3.1;have Y4:=Y3.set 2 (.slice A6 P.length c6) (by simp) rfl;simp only [List.set_cons_succ,List.set_cons_zero] at Y4;have B0s:=B0.mid hst (Or.inl (by omega));have B2s:=B2.mid hst (Or.inl (by omega));have hm9:=hm0.storeNew (p:=⟨w2.heap.size,2,none⟩) (by show w.heap.size≤w2.heap.size;omega) (.slice A6 P.length c6);have ho9:=ho6.mid hst (Or.inl (by omega));have hs9:=hst.size;go_wp2_with fail;generalize w6.setCell ⟨w2.heap.size,2,none⟩ (.slice A6 P.length c6)=w9 at Y4 B0s B2s hm9 ho9 hs9 ⊢;have hmd:=Mid.drew1 w9;clear B0 B2 Y3 hm0 ho6 hst B1;have hsd:w9.heap.size≤w9.drew.heap.size:=Nat.le_refl _;replace B0s:=B0s.mid hmd oZr;replace B2s:=B2s.mid hmd oZr;replace Y4:=Y4.mid hmd oZr;replace ho9:=ho9.mid hmd oZl;replace hm9:=hm9.trans hmd;have p0:=B0s.cell 0 rfl;have p1:=B0s.cell 1 rfl;have p2:=B0s.cell 2 rfl;have q0:=Y4.cell 0 rfl;have q1:=Y4.cell 1 rfl;have q2:=Y4.cell 2 rfl;have d2:=hne;have d2n:decide (es.length < P.length)=bb:=by rw [← hne];exact decide_eq_decide.2 (by omega)
 clear qf q2;have hb2:w.heap.size+1+1 < w2.heap.size:=by omega
 clear q0 q1 q2 p0 p1 p2;have q0:=Y4.cell 0 rfl;have q1:=Y4.cell 1 rfl;have q2:=Y4.cell 2 rfl;have p0:=B0s.cell 0 rfl;have p1:=B0s.cell 1 rfl;have p2:=B0s.cell 2 rfl;refine wp_region_Z (S:=(fun w'=>(w'.cell? ⟨w2.heap.size,0,none⟩=some (.int .i64 r)∧w'.cell? ⟨w2.heap.size,1,none⟩=some (.int .i64 s)∧w'.cell? ⟨w2.heap.size,2,none⟩=some (.slice A6 P.length c6))∧w'.cell? ⟨w.heap.size,2,none⟩=some (.slice A es.length c))) [] (by kernel_rfl) ⟨⟨q0,q1,q2⟩,p2⟩ ?_;generalize World.drew w9=wz at Y4 B0s B2s hm9 ho9 hsd q0 q1 q2 p2 ⊢;have hS:(wz.cell? ⟨w2.heap.size,0,none⟩=some (.int .i64 r)∧wz.cell? ⟨w2.heap.size,1,none⟩=some (.int .i64 s)∧wz.cell? ⟨w2.heap.size,2,none⟩=some (.slice A6 P.length c6))∧wz.cell? ⟨w.heap.size,2,none⟩=some (.slice A es.length c):=⟨⟨q0,q1,q2⟩,p2⟩
 refine tkZ [] 0 rfl hS ?_;try simp only [Act.put,zs1,zs2,zs3,zs4,zs5,zs6]
 refine tkZ [] 1 rfl hS ?_;try simp only [Act.put,zs1,zs2,zs3,zs4,zs5,zs6]
 refine tkZ [] 2 rfl hS ?_;try simp only [Act.put,zs1,zs2,zs3,zs4,zs5,zs6]
 refine tkZ [] 3 rfl hS ?_;try simp only [Act.put,zs1,zs2,zs3,zs4,zs5,zs6]
 refine tkZ [] 4 rfl hS ?_;try simp only [Act.put,zs1,zs2,zs3,zs4,zs5,zs6]
 refine tkZ [] 5 rfl hS ?_;try simp only [Act.put,zs1,zs2,zs3,zs4,zs5,zs6]
 refine tkZ [] 6 rfl hS ?_;try simp only [Act.put,zs1,zs2,zs3,zs4,zs5,zs6]
 refine tkZ [] 7 rfl hS ?_;try simp only [Act.put,zs1,zs2,zs3,zs4,zs5,zs6]
 have hst:=((Mid.setCell wz (lo:=w.heap.size+1+1) (hi:=w.heap.size+1+1+1) (p:=⟨w.heap.size+1+1,0,none⟩) (.int .i64 r) (Nat.le_refl _) (Nat.lt_succ_self _)).trans (Mid.setCell _ (lo:=w.heap.size+1+1) (hi:=w.heap.size+1+1+1) (p:=⟨w.heap.size+1+1,1,none⟩) (.int .i64 s) (Nat.le_refl _) (Nat.lt_succ_self _))).trans (Mid.setCell _ (lo:=w.heap.size+1+1) (hi:=w.heap.size+1+1+1) (p:=⟨w.heap.size+1+1,2,none⟩) (.slice A6 P.length c6) (Nat.le_refl _) (Nat.lt_succ_self _));have Y5:=Y4.mid hst (Or.inr (by omega));have B5:=B0s.mid hst (Or.inl (by omega));have V2:=((B2s.set 0 (.int .i64 r) (by simp) rfl).set 1 (.int .i64 s) (by simp) rfl).set 2 (.slice A6 P.length c6) (by simp) rfl;simp only [List.set_cons_succ,List.set_cons_zero] at V2;have ho10:=ho9.mid hst (Or.inl (by omega));have hm10:=((hm9.storeNew (p:=⟨w.heap.size+1+1,0,none⟩) (by show w.heap.size≤w.heap.size+1+1;omega) (.int .i64 r)).storeNew (p:=⟨w.heap.size+1+1,1,none⟩) (by show w.heap.size≤w.heap.size+1+1;omega) (.int .i64 s)).storeNew (p:=⟨w.heap.size+1+1,2,none⟩) (by show w.heap.size≤w.heap.size+1+1;omega) (.slice A6 P.length c6);have hsz:=hst.size;have a0:=B2s.cell 0 rfl;have a1:=B2s.cell 1 rfl;have a2:=B2s.cell 2 rfl;have af:=B2s.2.2;have hbz:w.heap.size+1+1 < wz.heap.size:=B2s.1;refine rdZ 8 rfl (fun K hK=>?_);go_simp;refine hK.out _ _ (Or.inr ⟨⟨Y5.cell 0 rfl,Y5.cell 1 rfl,Y5.cell 2 rfl⟩,B5.cell 2 rfl⟩) (fun _=>?_);clear hK K;try simp only [Act.put,zs1,zs2,zs3,zs4,zs5,zs6]
 refine rdZ 9 rfl (fun K hK=>?_);go_simp;refine hK.out _ _ (Or.inr ⟨⟨Y5.cell 0 rfl,Y5.cell 1 rfl,Y5.cell 2 rfl⟩,B5.cell 2 rfl⟩) (fun _=>?_);clear hK K;try simp only [Act.put,zs1,zs2,zs3,zs4,zs5,zs6]
 refine wpAnyZ_done (by kernel_rfl) ?_ _;clear hS q0 q1 q2 p0 p1 p2 a0 a1 a2 af hst Y4 B0s B2s ho9 hm9;generalize ((wz.setCell ⟨w.heap.size+1+1,0,none⟩ (.int .i64 r)).setCell ⟨w.heap.size+1+1,1,none⟩ (.int .i64 s)).setCell ⟨w.heap.size+1+1,2,none⟩ (.slice A6 P.length c6)=w11 at V2 Y5 B5 ho10 hm10 hsz ⊢;have a0:=V2.cell 0 rfl;have a1:=V2.cell 1 rfl;have a2:=V2.cell 2 rfl;have af:=V2.2.2;subst hP;go_wp2_with fail;refine bodyPost_ret (v:=.tuple #[.agg #[.int .i64 r,.int .i64 s,.slice A6 (putE e es).length c6],.bool bb]) (by simp [results,Tryz.results222,go_sem,a0,a1,a2,af,d2n]) rfl ⟨A6,c6,rfl,?_,?_⟩
 ·exact OG.wide ho10 (by omega) (by omega) (Nat.le_refl _)
 ·exact hm10
structure DrG (r s:Int) (es:List Ed):Prop where
 rk:-10≤r∧r≤10
 sz:-10≤s∧s≤100
 len:es.length≤121
 all:∀ e∈es,(-100≤e.a∧e.a≤100)∧(-100≤e.l∧e.l≤100)∧(-100≤e.b∧e.b≤100)
theorem DrG.of_gr {r s:Int} {es:List Ed} (h:IsGr r s es):DrG r s es:=⟨by have:=h.rank;omega,by have:=h.size;omega,by have:=h.len;omega,fun e he=>by
 have h1:=h.all e he;have h2:=h.rank;have h3:=h.size;simp only [InG] at h1;omega⟩
theorem DrG.zero:DrG 0 0 []:=⟨by omega,by omega,by simp,by simp⟩
theorem putE_gr {r s:Int} {es:List Ed} {e:Ed} (h:IsGr r s es) (he:InG r s e) (hl:es.length < 120):IsGr r s (putE e es):=⟨h.rank,h.size,by have:=putE_len e es;omega,fun x hx=>by
 rcases mem_putE.1 hx with rfl | hx
 ·exact he
 ·exact h.all x hx,asc_putE h.asc⟩
theorem edB_of {r s:Int} {e:Ed} (h:InG r s e) (hs:1≤s∧s≤40):edB r s e=true:=by
 simp only [InG] at h;unfold edB;have e1:wrap64 (s - 1)=s - 1:=by unfold wrap64;omega
 rw [e1];simp [inB];omega
theorem l4Graph_any (p:Nat) (A:Option Addr) (bs:List Int) (c:Nat) (w:World) (hb:OkB bs) (hl:bs.length≤1048576) (h:Cur w p A bs c) :
  Calls Tryz.prog 195 #[.pointer (some ⟨p,0,none⟩)] w fun e w'=>∃ r n A' c' es,e=.returned (graV (r:Nat) (n:Nat) A' (List.length es) c')∧(IsGr (r:Nat) (n:Nat) es∧n≤5∧es.length≤8)∧OG w' w.heap.size w'.heap.size A' c' es∧Cur w' p A bs c∧Mid p (p+1) w w':=by
 have hpw:=h.lt;have hal:=Mid.alloc w (.cells #[.int .i64 0,.int .i64 0,.slice none 0 0] 26);have B2:=Box.new w #[.int .i64 0,.int .i64 0,.slice none 0 0] 26;have h0:=h.mid hal (Or.inr rfl);go_enter Tryz.func195,Tryz.ntmps195
 have hal2:=Mid.alloc (w.alloc (.cells #[.int .i64 0,.int .i64 0,.slice none 0 0] 26)) (.cells #[.int .i64 1,.int .i64 2,.int .i64 2,.int .i64 2,.int .i64 3] 3);have hbx:=Box.new (w.alloc (.cells #[.int .i64 0,.int .i64 0,.slice none 0 0] 26)) #[.int .i64 1,.int .i64 2,.int .i64 2,.int .i64 2,.int .i64 3] 3;rw [World.size_alloc] at hbx;replace B2:=B2.mid hal2 oZr;replace h0:=h0.mid hal2 (Or.inr rfl);have hm0:=hal.trans hal2;go_wp2_with fail;generalize (w.alloc (.cells #[.int .i64 0,.int .i64 0,.slice none 0 0] 26)).alloc (.cells #[.int .i64 1,.int .i64 2,.int .i64 2,.int .i64 2,.int .i64 3] 3)=w1 at hbx B2 h0 hm0 ⊢;have hs1:w.heap.size+1 < w1.heap.size:=hbx.1;have hri:RI w1 (w.heap.size+1) (w.heap.size+1+1) (some ⟨w.heap.size+1,0,none⟩) [1,2,2,2,3] :=
  ⟨hs1,fun _=>⟨w.heap.size+1,0,rfl,Nat.le_refl _,Nat.lt_succ_self _,fun j u hu=>by rw [Nat.zero_add];exact hbx.2.1 j u (by simpa [ints] using hu)⟩⟩
 with_reducible refine (l1PickIntN (some ⟨w.heap.size+1,0,none⟩) [1,2,2,2,3] 5 5 rfl (by decide) (by decide) p A bs c _ (w.heap.size+1) _ hri (Or.inl (by omega)) hb hl h0).mono ?_
 rintro e w2 ⟨r,rfl,hrm,h2,m2⟩;have hr:1≤r∧r≤3:=by simp at hrm;omega
 have B2b:=B2.mid m2 (Or.inr (by omega));have hm2:=hm0.zero.trans m2;clear hri hbx hrm h0 B2 hm0 hal hal2 m2;go_wp2_with fail;with_reducible refine (l1BelowI 5 (by decide) (by decide) p A bs c _ hb hl h2).mono ?_
 rintro e w3 ⟨k,rfl,hk,h3,m3⟩;have B2c:=B2b.mid m3 (Or.inr (by omega));have hm3:=hm2.trans m3;have hs3:=hm3.size;have ek:IntKind.i64.wrap (1+(k:Int))=1+(k:Int):=IntWalk.i64_in _ (by omega);clear h2 B2b hm2 m3;go_wp2_with fail;have hal3:=Mid.alloc w3 (.cells #[.int .i64 r,.int .i64 (1+(k:Int)),.slice none 0 0] 26);have G0:=Box.new w3 #[.int .i64 r,.int .i64 (1+(k:Int)),.slice none 0 0] 26;have B2d:=B2c.mid hal3 oZr;have h4:=h3.mid hal3 (Or.inr rfl);have hm4:=hm3.trans hal3.zero;obtain ⟨gb,hgb⟩:∃ g,w3.heap.size=g:=⟨_,rfl⟩
 have hgw:w.heap.size < gb:=by have:=B2c.1;omega
 obtain ⟨rn,hrn⟩:=Int.eq_ofNat_of_zero_le (by omega:0≤r);obtain ⟨n,hn⟩:∃ n:Nat,1+(k:Int)=n:=⟨1+k,by omega⟩
 rw [hn,hgb,hrn] at G0 ⊢;rw [hn,hrn] at B2d h4 hm4;generalize w3.alloc (.cells #[.int .i64 (rn:Int),.int .i64 (n:Int),.slice none 0 0] 26)=w4 at G0 B2d h4 hm4 ⊢;have hrn3:1≤(rn:Int)∧(rn:Int)≤3:=by omega
 have hn5:1≤(n:Int)∧(n:Int)≤5:=by omega
 have hg4:gb < w4.heap.size:=G0.1;clear h3 B2c hal3 hm3 ek hn hrn hk hr hgb;with_reducible refine (l1BelowI 9 (by decide) (by decide) p A bs c _ hb hl h4).mono ?_
 rintro e w5 ⟨m0,rfl,hm0,h5,m5⟩;replace G0:=G0.mid m5 (Or.inr (by omega));replace B2d:=B2d.mid m5 (Or.inr (by omega));have hm5:=hm4.trans m5;have hog:OG w5 (gb+1) w5.heap.size none 0 []:=OG.nil;clear h4 m5 hm4;go_wp2_with fail;go_loopw [4] (fun nv wr=>∃ (m:Nat) (es:List Ed) (Ae:Option Addr) (ce L:Nat),nv=.int .i64 m∧Hid (es.length=L)∧L+m≤8∧Hid (IsGr rn n es)∧Box wr gb [.int .i64 rn,.int .i64 n,.slice Ae L ce]∧OG wr (gb+1) wr.heap.size Ae ce es∧Box wr w.heap.size [.int .i64 0,.int .i64 0,.slice none 0 0]∧Cur wr p A bs c∧Mid p (p+1) w wr)
  (fun nv _=>natV nv)
 case atStart=>exact ⟨m0,[],none,0,0,rfl,Lib.hid rfl,by omega,Lib.hid ⟨hrn3,by omega,by simp,by simp,List.Pairwise.nil⟩,G0,hog,B2d,h5,hm5⟩
 case round =>
  obtain ⟨m,es,Ae,ce,L,rfl,HL,hLm,HG,hG,hO,hB,hC,hM⟩:=hrel;have hgr:gb < wr.heap.size:=hG.1;by_cases hlt:0 < m
  ·replace hG:=hG.mid (Mid.drew1 wr) oZr
   replace hO:=hO.mid (Mid.drew1 wr) oZl;replace hB:=hB.mid (Mid.drew1 wr) oZr;replace hC:=hC.mid (Mid.drew1 wr) (Or.inr rfl);replace hM:=hM.trans (Mid.drew1 wr).zero;have hsd:wr.heap.size≤wr.drew.heap.size:=Nat.le_refl _;have p0:=hG.cell 0 rfl;have p1:=hG.cell 1 rfl;go_wp2_with fail;refine wp_region_Z (S:=(fun w'=>w'.cell? ⟨gb,0,none⟩=some (.int .i64 (rn:Int))∧w'.cell? ⟨gb,1,none⟩=some (.int .i64 (n:Int)))) [] (by kernel_rfl) ⟨p0,p1⟩ ?_;generalize World.drew wr=wz at hG hO hB hC hM p0 p1 hsd ⊢;have hS:wz.cell? ⟨gb,0,none⟩=some (.int .i64 (rn:Int))∧wz.cell? ⟨gb,1,none⟩=some (.int .i64 (n:Int)):=⟨p0,p1⟩
   have hgz:gb < wz.heap.size:=hG.1;have hOz:OG wz (gb+1) wz.heap.size Ae ce es:=hO.wide (Nat.le_refl _) hO.size (Nat.le_refl _);clear hO;refine tkZ [] 0 rfl hS ?_;try simp only [Act.put,zs1,zs2,zs3,zs4,zs5,zs6]
   refine tkZ [] 1 rfl hS ?_;try simp only [Act.put,zs1,zs2,zs3,zs4,zs5,zs6]
   refine tkZ [] 2 rfl hS ?_;try simp only [Act.put,zs1,zs2,zs3,zs4,zs5,zs6]
   refine tkZ [] 4 rfl hS ?_;try simp only [Act.put,zs1,zs2,zs3,zs4,zs5,zs6]
   refine tkZ [] 5 rfl hS ?_;try simp only [Act.put,zs1,zs2,zs3,zs4,zs5,zs6]
   refine tkZ [] 6 rfl hS ?_;try simp only [Act.put,zs1,zs2,zs3,zs4,zs5,zs6]
   refine tkZ [] 9 rfl hS ?_;try simp only [Act.put,zs1,zs2,zs3,zs4,zs5,zs6]
   refine tkZ [] 10 rfl hS ?_;try simp only [Act.put,zs1,zs2,zs3,zs4,zs5,zs6]
   refine tkZ [] 11 rfl hS ?_;try simp only [Act.put,zs1,zs2,zs3,zs4,zs5,zs6]
   refine wpAnyZ_ready (rs:=[3,14]) (by kernel_rfl) (by simp) (AllReadyZ.cons rfl (fun K hK=>?_) (AllReadyZ.cons rfl (fun K hK=>?_) AllReadyZ.nil))
   ·(go_simp;(with_reducible refine (l1BelowI (n:Int) (by omega) (by omega) p A bs c _ hb hl hC).mono ?_);rintro en wc1 ⟨x1,rfl,hx1,hC1,m1⟩;have hG1:=hG.mid m1 (Or.inr (by omega));go_wp2_with fail)
    refine hK.out _ _ (Or.inr ⟨hG1.cell 0 rfl,hG1.cell 1 rfl⟩) (fun _=>?_);clear hK K;try simp only [Act.put,zs1,zs2,zs3,zs4,zs5,zs6]
    have hS1:=And.intro (hG1.cell 0 rfl) (hG1.cell 1 rfl);have hB1:=hB.mid m1 (Or.inr (by omega));have hO1:=hOz.mid m1 (Or.inl (by omega));have hM1:=hM.trans m1;have hz1:=m1.size;refine wpAnyZ_ready (rs:=[7,14]) (by kernel_rfl) (by simp) (AllReadyZ.cons rfl (fun K hK=>?_) (AllReadyZ.cons rfl (fun K hK=>?_) AllReadyZ.nil))
    ·(go_simp;(with_reducible refine (l1BelowI (rn:Int) (by omega) (by omega) p A bs c _ hb hl hC1).mono ?_);rintro en wc2 ⟨x2,rfl,hx2,hC2,m2⟩;have hG2:=hG1.mid m2 (Or.inr (by omega));go_wp2_with fail)
     refine hK.out _ _ (Or.inr ⟨hG2.cell 0 rfl,hG2.cell 1 rfl⟩) (fun _=>?_);clear hK K;try simp only [Act.put,zs1,zs2,zs3,zs4,zs5,zs6]
     have hS2:=And.intro (hG2.cell 0 rfl) (hG2.cell 1 rfl);have hB2:=hB1.mid m2 (Or.inr (by omega));have hO2:=hO1.mid m2 (Or.inl (by omega));have hM2:=hM1.trans m2;have hz2:=m2.size;have ew2:IntKind.i64.wrap (1+(x2:Int))=1+(x2:Int):=IntWalk.i64_in _ (by omega);refine tkZ [] 8 rfl hS2 ?_;try simp only [Act.put,zs1,zs2,zs3,zs4,zs5,zs6]
     refine wpAnyZ_ready (rs:=[12,14]) (by kernel_rfl) (by simp) (AllReadyZ.cons rfl (fun K hK=>?_) (AllReadyZ.cons rfl (fun K hK=>?_) AllReadyZ.nil))
     ·(go_simp;(with_reducible refine (l1BelowI (n:Int) (by omega) (by omega) p A bs c _ hb hl hC2).mono ?_);rintro en wc3 ⟨x3,rfl,hx3,hC3,m3⟩;have hG3:=hG2.mid m3 (Or.inr (by omega));go_wp2_with fail)
      refine hK.out _ _ (Or.inr ⟨hG3.cell 0 rfl,hG3.cell 1 rfl⟩) (fun _=>?_);clear hK K;try simp only [Act.put,zs1,zs2,zs3,zs4,zs5,zs6]
      have hS3:=And.intro (hG3.cell 0 rfl) (hG3.cell 1 rfl);have hB3:=hB2.mid m3 (Or.inr (by omega));have hO3:=hO2.mid m3 (Or.inl (by omega));have hM3:=hM2.trans m3;have hz3:=m3.size;refine tkZ [] 13 rfl hS3 ?_;try simp only [Act.put,zs1,zs2,zs3,zs4,zs5,zs6]
      refine rdZ 14 rfl (fun K hK=>?_);go_simp;refine hK.out _ _ (Or.inr ⟨cell_keep (Mid.alloc wc3 (.cells #[.int .i64 0,.int .i64 0,.int .i64 0] 68)) hG3.1 oZr (hG3.cell 0 rfl),cell_keep (Mid.alloc wc3 (.cells #[.int .i64 0,.int .i64 0,.int .i64 0] 68)) hG3.1 oZr (hG3.cell 1 rfl)⟩) (fun _=>?_);clear hK K;try simp only [Act.put,zs1,zs2,zs3,zs4,zs5,zs6]
      have al4:=Mid.alloc wc3 (.cells #[.int .i64 0,.int .i64 0,.int .i64 0] 68);have hE4:=Box.new wc3 #[.int .i64 0,.int .i64 0,.int .i64 0] 68;have hG4:=hG3.mid al4 oZr;have hB4:=hB3.mid al4 oZr;have hO4:=hO3.mid al4 oZl;have hC4:=hC3.mid al4 (Or.inr rfl);have hM4:=hM3.trans al4.zero;have hz4:=al4.size;have hgE4:=hG3.1;have hcE4:=hC3.lt;have hbE4:=hB3.1;generalize wc3.alloc (.cells #[.int .i64 0,.int .i64 0,.int .i64 0] 68)=wc4 at hE4 hG4 hB4 hO4 hC4 hM4 hz4 ⊢;clear al4;have hS4:=And.intro (hG4.cell 0 rfl) (hG4.cell 1 rfl);have hef:=hE4.2.2;have e0:=hE4.cell 0 rfl;have e1:=hE4.cell 1 rfl;have e2:=hE4.cell 2 rfl;have hel:=hE4.1;have hne:gb≠wc3.heap.size:=by omega
      have hst:=((Mid.setCell wc4 (lo:=wc3.heap.size) (hi:=wc3.heap.size+1) (p:=⟨wc3.heap.size,0,none⟩) (.int .i64 (x1:Int)) (Nat.le_refl _) (Nat.lt_succ_self _)).trans (Mid.setCell _ (lo:=wc3.heap.size) (hi:=wc3.heap.size+1) (p:=⟨wc3.heap.size,1,none⟩) (.int .i64 (1+(x2:Int))) (Nat.le_refl _) (Nat.lt_succ_self _))).trans (Mid.setCell _ (lo:=wc3.heap.size) (hi:=wc3.heap.size+1) (p:=⟨wc3.heap.size,2,none⟩) (.int .i64 (x3:Int)) (Nat.le_refl _) (Nat.lt_succ_self _));have V:=((hE4.set 0 (.int .i64 (x1:Int)) (by simp) rfl).set 1 (.int .i64 (1+(x2:Int))) (by simp) rfl).set 2 (.int .i64 (x3:Int)) (by simp) rfl;simp only [List.set_cons_succ,List.set_cons_zero] at V;have hcl:=hC4.lt;have G9:=hG4.mid hst (by omega);have B9:=hB4.mid hst (by omega);have O9:=hO4.mid hst (by omega);have C9:=hC4.mid hst (by omega);have M9:=hM4.transNew hst (by omega);refine rdZ 15 rfl (fun K hK=>?_);go_simp;refine hK.out _ _ (Or.inr ⟨G9.cell 0 rfl,G9.cell 1 rfl⟩) (fun _=>?_);clear hK K;try simp only [Act.put,zs1,zs2,zs3,zs4,zs5,zs6]
      refine wpAnyZ_done (by kernel_rfl) ?_ _;generalize ((wc4.setCell ⟨wc3.heap.size,0,none⟩ (.int .i64 (x1:Int))).setCell ⟨wc3.heap.size,1,none⟩ (.int .i64 (1+(x2:Int)))).setCell ⟨wc3.heap.size,2,none⟩ (.int .i64 (x3:Int))=w9 at V G9 B9 O9 C9 M9 ⊢;obtain ⟨P,hP⟩:∃ P,putE ⟨(x1:Int),1+(x2:Int),(x3:Int)⟩ es=P:=⟨_,rfl⟩
      have hin:InG rn n ⟨(x1:Int),1+(x2:Int),(x3:Int)⟩:=by simp only [InG];omega
      have hLe:=HL.out;have hgP:IsGr rn n P:=hP ▸ putE_gr HG.out hin (by omega);have hPl:P.length≤L+1:=by have:=putE_len ⟨(x1:Int),1+(x2:Int),(x3:Int)⟩ es;rw [hP] at this;omega
      obtain ⟨bb,hbb⟩:∃ b,decide ((es.length:Int) < (P.length:Int))=b:=⟨_,rfl⟩
      have hAE:=spec_AddEdgeB rn n Ae es ce ⟨(x1:Int),1+(x2:Int),(x3:Int)⟩ w9 _ _ O9.rg HG.out (edB_of hin (by omega)) (by omega) bb (by rw [hP];exact hbb);obtain ⟨L2,hL2⟩:∃ l,P.length=l:=⟨_,rfl⟩
      rw [hP,hLe,hL2] at hAE;have HAE:Hid (Calls Tryz.prog 222 #[.agg #[.int .i64 (rn:Int),.int .i64 (n:Int),.slice Ae L ce],.agg #[.int .i64 (x1:Int),.int .i64 (1+(x2:Int)),.int .i64 (x3:Int)]] w9 fun en w'=>∃ A1 c1,en=.returned (.tuple #[.agg #[.int .i64 (rn:Int),.int .i64 (n:Int),.slice A1 L2 c1],.bool bb])∧OG w' w9.heap.size w'.heap.size A1 c1 P∧Mid 0 0 w9 w'):=Lib.hid hAE;have HP:=Lib.hid hgP;have HL2:=Lib.hid hL2;have hL3:L2≤L+1:=by omega
      have g0:=G9.cell 0 rfl;have g1:=G9.cell 1 rfl;have g2:=G9.cell 2 rfl;have v0:=V.cell 0 rfl;have v1:=V.cell 1 rfl;have v2:=V.cell 2 rfl;have hg9:=G9.1;have hev:=V.1;clear hP hin hLe hgP hPl hbb hAE hL2 O9 hst hef e0 e1 e2 hel hne;go_wp2_with fail;with_reducible refine (HAE.out).mono ?_
      rintro en wf ⟨A1,c1,rfl,oP,mf⟩;have G10:=G9.mid mf oZr;have B10:=B9.mid mf oZr;have C10:=C9.mid mf (Or.inr rfl);have M10:=M9.trans mf.zero;have hzf:=mf.size;clear g0 g1 g2 v0 v1 v2 V G9 B9 C9 M9 mf HAE hev;have g0:=G10.cell 0 rfl;have g1:=G10.cell 1 rfl;have g2:=G10.cell 2 rfl;have gf:=G10.2.2;have gl:=G10.1;have hbl:=B10.1;have hcl2:=C10.lt;have hst:=((Mid.setCell wf (lo:=gb) (hi:=gb+1) (p:=⟨gb,0,none⟩) (.int .i64 (rn:Int)) (Nat.le_refl _) (Nat.lt_succ_self _)).trans (Mid.setCell _ (lo:=gb) (hi:=gb+1) (p:=⟨gb,1,none⟩) (.int .i64 (n:Int)) (Nat.le_refl _) (Nat.lt_succ_self _))).trans (Mid.setCell _ (lo:=gb) (hi:=gb+1) (p:=⟨gb,2,none⟩) (.slice A1 L2 c1) (Nat.le_refl _) (Nat.lt_succ_self _));have G11:=((G10.set 0 (.int .i64 (rn:Int)) (by simp) rfl).set 1 (.int .i64 (n:Int)) (by simp) rfl).set 2 (.slice A1 L2 c1) (by simp) rfl;simp only [List.set_cons_succ,List.set_cons_zero] at G11;have B11:=B10.mid hst (by omega);have O11:=(oP.mid hst (Or.inl (by omega))).wide (lo':=gb+1) (by omega) hst.size (Nat.le_refl _);have C11:=C10.mid hst (by omega);have M11:=M10.transNew hst (by omega);clear hst B10 C10 M10 oP;go_wp2_with fail;go_roundw
      case rel=>exact ⟨m - 1,P,A1,c1,L2,by go_num,HL2,by omega,HP,G11,O11,B11,C11,M11⟩
      case measure=>simp [natV];omega
     ·go_simp
      refine hK.out _ _ (Or.inr ⟨cell_keep (Mid.alloc wc2 (.cells #[.int .i64 0,.int .i64 0,.int .i64 0] 68)) hG2.1 oZr (hG2.cell 0 rfl),cell_keep (Mid.alloc wc2 (.cells #[.int .i64 0,.int .i64 0,.int .i64 0] 68)) hG2.1 oZr (hG2.cell 1 rfl)⟩) (fun _=>?_);clear hK K;try simp only [Act.put,zs1,zs2,zs3,zs4,zs5,zs6]
      have al6:=Mid.alloc wc2 (.cells #[.int .i64 0,.int .i64 0,.int .i64 0] 68);have hE6:=Box.new wc2 #[.int .i64 0,.int .i64 0,.int .i64 0] 68;have hG6:=hG2.mid al6 oZr;have hB6:=hB2.mid al6 oZr;have hO6:=hO2.mid al6 oZl;have hC6:=hC2.mid al6 (Or.inr rfl);have hM6:=hM2.trans al6.zero;have hz6:=al6.size;have hgE6:=hG2.1;have hcE6:=hC2.lt;have hbE6:=hB2.1;generalize wc2.alloc (.cells #[.int .i64 0,.int .i64 0,.int .i64 0] 68)=wc6 at hE6 hG6 hB6 hO6 hC6 hM6 hz6 ⊢;clear al6;have hS6:=And.intro (hG6.cell 0 rfl) (hG6.cell 1 rfl);refine rdZ 12 rfl (fun K hK=>?_)
      (go_simp;(with_reducible refine (l1BelowI (n:Int) (by omega) (by omega) p A bs c _ hb hl hC6).mono ?_);rintro en wc7 ⟨x7,rfl,hx7,hC7,m7⟩;have hG7:=hG6.mid m7 (Or.inr (by omega));go_wp2_with fail)
      refine hK.out _ _ (Or.inr ⟨hG7.cell 0 rfl,hG7.cell 1 rfl⟩) (fun _=>?_);clear hK K;try simp only [Act.put,zs1,zs2,zs3,zs4,zs5,zs6]
      have hS7:=And.intro (hG7.cell 0 rfl) (hG7.cell 1 rfl);have hB7:=hB6.mid m7 (Or.inr (by omega));have hO7:=hO6.mid m7 (Or.inl (by omega));have hM7:=hM6.trans m7;have hz7:=m7.size;have hE7:=hE6.mid m7 (Or.inr (by omega));refine tkZ [] 13 rfl hS7 ?_;try simp only [Act.put,zs1,zs2,zs3,zs4,zs5,zs6]
      have hef:=hE7.2.2;have e0:=hE7.cell 0 rfl;have e1:=hE7.cell 1 rfl;have e2:=hE7.cell 2 rfl;have hel:=hE7.1;have hne:gb≠wc2.heap.size:=by omega
      have hst:=((Mid.setCell wc7 (lo:=wc2.heap.size) (hi:=wc2.heap.size+1) (p:=⟨wc2.heap.size,0,none⟩) (.int .i64 (x1:Int)) (Nat.le_refl _) (Nat.lt_succ_self _)).trans (Mid.setCell _ (lo:=wc2.heap.size) (hi:=wc2.heap.size+1) (p:=⟨wc2.heap.size,1,none⟩) (.int .i64 (1+(x2:Int))) (Nat.le_refl _) (Nat.lt_succ_self _))).trans (Mid.setCell _ (lo:=wc2.heap.size) (hi:=wc2.heap.size+1) (p:=⟨wc2.heap.size,2,none⟩) (.int .i64 (x7:Int)) (Nat.le_refl _) (Nat.lt_succ_self _));have V:=((hE7.set 0 (.int .i64 (x1:Int)) (by simp) rfl).set 1 (.int .i64 (1+(x2:Int))) (by simp) rfl).set 2 (.int .i64 (x7:Int)) (by simp) rfl;simp only [List.set_cons_succ,List.set_cons_zero] at V;have hcl:=hC7.lt;have G9:=hG7.mid hst (by omega);have B9:=hB7.mid hst (by omega);have O9:=hO7.mid hst (by omega);have C9:=hC7.mid hst (by omega);have M9:=hM7.transNew hst (by omega);refine rdZ 15 rfl (fun K hK=>?_);go_simp;refine hK.out _ _ (Or.inr ⟨G9.cell 0 rfl,G9.cell 1 rfl⟩) (fun _=>?_);clear hK K;try simp only [Act.put,zs1,zs2,zs3,zs4,zs5,zs6]
      refine wpAnyZ_done (by kernel_rfl) ?_ _;generalize ((wc7.setCell ⟨wc2.heap.size,0,none⟩ (.int .i64 (x1:Int))).setCell ⟨wc2.heap.size,1,none⟩ (.int .i64 (1+(x2:Int)))).setCell ⟨wc2.heap.size,2,none⟩ (.int .i64 (x7:Int))=w9 at V G9 B9 O9 C9 M9 ⊢;obtain ⟨P,hP⟩:∃ P,putE ⟨(x1:Int),1+(x2:Int),(x7:Int)⟩ es=P:=⟨_,rfl⟩
      have hin:InG rn n ⟨(x1:Int),1+(x2:Int),(x7:Int)⟩:=by simp only [InG];omega
      have hLe:=HL.out;have hgP:IsGr rn n P:=hP ▸ putE_gr HG.out hin (by omega);have hPl:P.length≤L+1:=by have:=putE_len ⟨(x1:Int),1+(x2:Int),(x7:Int)⟩ es;rw [hP] at this;omega
      obtain ⟨bb,hbb⟩:∃ b,decide ((es.length:Int) < (P.length:Int))=b:=⟨_,rfl⟩
      have hAE:=spec_AddEdgeB rn n Ae es ce ⟨(x1:Int),1+(x2:Int),(x7:Int)⟩ w9 _ _ O9.rg HG.out (edB_of hin (by omega)) (by omega) bb (by rw [hP];exact hbb);obtain ⟨L2,hL2⟩:∃ l,P.length=l:=⟨_,rfl⟩
      rw [hP,hLe,hL2] at hAE;have HAE:Hid (Calls Tryz.prog 222 #[.agg #[.int .i64 (rn:Int),.int .i64 (n:Int),.slice Ae L ce],.agg #[.int .i64 (x1:Int),.int .i64 (1+(x2:Int)),.int .i64 (x7:Int)]] w9 fun en w'=>∃ A1 c1,en=.returned (.tuple #[.agg #[.int .i64 (rn:Int),.int .i64 (n:Int),.slice A1 L2 c1],.bool bb])∧OG w' w9.heap.size w'.heap.size A1 c1 P∧Mid 0 0 w9 w'):=Lib.hid hAE;have HP:=Lib.hid hgP;have HL2:=Lib.hid hL2;have hL3:L2≤L+1:=by omega
      have g0:=G9.cell 0 rfl;have g1:=G9.cell 1 rfl;have g2:=G9.cell 2 rfl;have v0:=V.cell 0 rfl;have v1:=V.cell 1 rfl;have v2:=V.cell 2 rfl;have hg9:=G9.1;have hev:=V.1;clear hP hin hLe hgP hPl hbb hAE hL2 O9 hst hef e0 e1 e2 hel hne;go_wp2_with fail;with_reducible refine (HAE.out).mono ?_
      rintro en wf ⟨A1,c1,rfl,oP,mf⟩;have G10:=G9.mid mf oZr;have B10:=B9.mid mf oZr;have C10:=C9.mid mf (Or.inr rfl);have M10:=M9.trans mf.zero;have hzf:=mf.size;clear g0 g1 g2 v0 v1 v2 V G9 B9 C9 M9 mf HAE hev;have g0:=G10.cell 0 rfl;have g1:=G10.cell 1 rfl;have g2:=G10.cell 2 rfl;have gf:=G10.2.2;have gl:=G10.1;have hbl:=B10.1;have hcl2:=C10.lt;have hst:=((Mid.setCell wf (lo:=gb) (hi:=gb+1) (p:=⟨gb,0,none⟩) (.int .i64 (rn:Int)) (Nat.le_refl _) (Nat.lt_succ_self _)).trans (Mid.setCell _ (lo:=gb) (hi:=gb+1) (p:=⟨gb,1,none⟩) (.int .i64 (n:Int)) (Nat.le_refl _) (Nat.lt_succ_self _))).trans (Mid.setCell _ (lo:=gb) (hi:=gb+1) (p:=⟨gb,2,none⟩) (.slice A1 L2 c1) (Nat.le_refl _) (Nat.lt_succ_self _));have G11:=((G10.set 0 (.int .i64 (rn:Int)) (by simp) rfl).set 1 (.int .i64 (n:Int)) (by simp) rfl).set 2 (.slice A1 L2 c1) (by simp) rfl;simp only [List.set_cons_succ,List.set_cons_zero] at G11;have B11:=B10.mid hst (by omega);have O11:=(oP.mid hst (Or.inl (by omega))).wide (lo':=gb+1) (by omega) hst.size (Nat.le_refl _);have C11:=C10.mid hst (by omega);have M11:=M10.transNew hst (by omega);clear hst B10 C10 M10 oP;go_wp2_with fail;go_roundw
      case rel=>exact ⟨m - 1,P,A1,c1,L2,by go_num,HL2,by omega,HP,G11,O11,B11,C11,M11⟩
      case measure=>simp [natV];omega
    ·go_simp
     refine hK.out _ _ (Or.inr ⟨cell_keep (Mid.alloc wc1 (.cells #[.int .i64 0,.int .i64 0,.int .i64 0] 68)) hG1.1 oZr (hG1.cell 0 rfl),cell_keep (Mid.alloc wc1 (.cells #[.int .i64 0,.int .i64 0,.int .i64 0] 68)) hG1.1 oZr (hG1.cell 1 rfl)⟩) (fun _=>?_);clear hK K;try simp only [Act.put,zs1,zs2,zs3,zs4,zs5,zs6]
     have al9:=Mid.alloc wc1 (.cells #[.int .i64 0,.int .i64 0,.int .i64 0] 68);have hE9:=Box.new wc1 #[.int .i64 0,.int .i64 0,.int .i64 0] 68;have hG9:=hG1.mid al9 oZr;have hB9:=hB1.mid al9 oZr;have hO9:=hO1.mid al9 oZl;have hC9:=hC1.mid al9 (Or.inr rfl);have hM9:=hM1.trans al9.zero;have hz9:=al9.size;have hgE9:=hG1.1;have hcE9:=hC1.lt;have hbE9:=hB1.1;generalize wc1.alloc (.cells #[.int .i64 0,.int .i64 0,.int .i64 0] 68)=wc9 at hE9 hG9 hB9 hO9 hC9 hM9 hz9 ⊢;clear al9;have hS9:=And.intro (hG9.cell 0 rfl) (hG9.cell 1 rfl);refine rdZ 7 rfl (fun K hK=>?_)
     (go_simp;(with_reducible refine (l1BelowI (rn:Int) (by omega) (by omega) p A bs c _ hb hl hC9).mono ?_);rintro en wc10 ⟨x10,rfl,hx10,hC10,m10⟩;have hG10:=hG9.mid m10 (Or.inr (by omega));go_wp2_with fail)
     refine hK.out _ _ (Or.inr ⟨hG10.cell 0 rfl,hG10.cell 1 rfl⟩) (fun _=>?_);clear hK K;try simp only [Act.put,zs1,zs2,zs3,zs4,zs5,zs6]
     have hS10:=And.intro (hG10.cell 0 rfl) (hG10.cell 1 rfl);have hB10:=hB9.mid m10 (Or.inr (by omega));have hO10:=hO9.mid m10 (Or.inl (by omega));have hM10:=hM9.trans m10;have hz10:=m10.size;have hE10:=hE9.mid m10 (Or.inr (by omega));have ew10:IntKind.i64.wrap (1+(x10:Int))=1+(x10:Int):=IntWalk.i64_in _ (by omega);refine tkZ [] 8 rfl hS10 ?_;try simp only [Act.put,zs1,zs2,zs3,zs4,zs5,zs6]
     refine rdZ 12 rfl (fun K hK=>?_)
     (go_simp;(with_reducible refine (l1BelowI (n:Int) (by omega) (by omega) p A bs c _ hb hl hC10).mono ?_);rintro en wc11 ⟨x11,rfl,hx11,hC11,m11⟩;have hG11:=hG10.mid m11 (Or.inr (by omega));go_wp2_with fail)
     refine hK.out _ _ (Or.inr ⟨hG11.cell 0 rfl,hG11.cell 1 rfl⟩) (fun _=>?_);clear hK K;try simp only [Act.put,zs1,zs2,zs3,zs4,zs5,zs6]
     have hS11:=And.intro (hG11.cell 0 rfl) (hG11.cell 1 rfl);have hB11:=hB10.mid m11 (Or.inr (by omega));have hO11:=hO10.mid m11 (Or.inl (by omega));have hM11:=hM10.trans m11;have hz11:=m11.size;have hE11:=hE10.mid m11 (Or.inr (by omega));refine tkZ [] 13 rfl hS11 ?_;try simp only [Act.put,zs1,zs2,zs3,zs4,zs5,zs6]
     have hef:=hE11.2.2;have e0:=hE11.cell 0 rfl;have e1:=hE11.cell 1 rfl;have e2:=hE11.cell 2 rfl;have hel:=hE11.1;have hne:gb≠wc1.heap.size:=by omega
     have hst:=((Mid.setCell wc11 (lo:=wc1.heap.size) (hi:=wc1.heap.size+1) (p:=⟨wc1.heap.size,0,none⟩) (.int .i64 (x1:Int)) (Nat.le_refl _) (Nat.lt_succ_self _)).trans (Mid.setCell _ (lo:=wc1.heap.size) (hi:=wc1.heap.size+1) (p:=⟨wc1.heap.size,1,none⟩) (.int .i64 (1+(x10:Int))) (Nat.le_refl _) (Nat.lt_succ_self _))).trans (Mid.setCell _ (lo:=wc1.heap.size) (hi:=wc1.heap.size+1) (p:=⟨wc1.heap.size,2,none⟩) (.int .i64 (x11:Int)) (Nat.le_refl _) (Nat.lt_succ_self _));have V:=((hE11.set 0 (.int .i64 (x1:Int)) (by simp) rfl).set 1 (.int .i64 (1+(x10:Int))) (by simp) rfl).set 2 (.int .i64 (x11:Int)) (by simp) rfl;simp only [List.set_cons_succ,List.set_cons_zero] at V;have hcl:=hC11.lt;have G9:=hG11.mid hst (by omega);have B9:=hB11.mid hst (by omega);have O9:=hO11.mid hst (by omega);have C9:=hC11.mid hst (by omega);have M9:=hM11.transNew hst (by omega);refine rdZ 15 rfl (fun K hK=>?_);go_simp;refine hK.out _ _ (Or.inr ⟨G9.cell 0 rfl,G9.cell 1 rfl⟩) (fun _=>?_);clear hK K;try simp only [Act.put,zs1,zs2,zs3,zs4,zs5,zs6]
     refine wpAnyZ_done (by kernel_rfl) ?_ _;generalize ((wc11.setCell ⟨wc1.heap.size,0,none⟩ (.int .i64 (x1:Int))).setCell ⟨wc1.heap.size,1,none⟩ (.int .i64 (1+(x10:Int)))).setCell ⟨wc1.heap.size,2,none⟩ (.int .i64 (x11:Int))=w9 at V G9 B9 O9 C9 M9 ⊢;obtain ⟨P,hP⟩:∃ P,putE ⟨(x1:Int),1+(x10:Int),(x11:Int)⟩ es=P:=⟨_,rfl⟩
     have hin:InG rn n ⟨(x1:Int),1+(x10:Int),(x11:Int)⟩:=by simp only [InG];omega
     have hLe:=HL.out;have hgP:IsGr rn n P:=hP ▸ putE_gr HG.out hin (by omega);have hPl:P.length≤L+1:=by have:=putE_len ⟨(x1:Int),1+(x10:Int),(x11:Int)⟩ es;rw [hP] at this;omega
     obtain ⟨bb,hbb⟩:∃ b,decide ((es.length:Int) < (P.length:Int))=b:=⟨_,rfl⟩
     have hAE:=spec_AddEdgeB rn n Ae es ce ⟨(x1:Int),1+(x10:Int),(x11:Int)⟩ w9 _ _ O9.rg HG.out (edB_of hin (by omega)) (by omega) bb (by rw [hP];exact hbb);obtain ⟨L2,hL2⟩:∃ l,P.length=l:=⟨_,rfl⟩
     rw [hP,hLe,hL2] at hAE;have HAE:Hid (Calls Tryz.prog 222 #[.agg #[.int .i64 (rn:Int),.int .i64 (n:Int),.slice Ae L ce],.agg #[.int .i64 (x1:Int),.int .i64 (1+(x10:Int)),.int .i64 (x11:Int)]] w9 fun en w'=>∃ A1 c1,en=.returned (.tuple #[.agg #[.int .i64 (rn:Int),.int .i64 (n:Int),.slice A1 L2 c1],.bool bb])∧OG w' w9.heap.size w'.heap.size A1 c1 P∧Mid 0 0 w9 w'):=Lib.hid hAE;have HP:=Lib.hid hgP;have HL2:=Lib.hid hL2;have hL3:L2≤L+1:=by omega
     have g0:=G9.cell 0 rfl;have g1:=G9.cell 1 rfl;have g2:=G9.cell 2 rfl;have v0:=V.cell 0 rfl;have v1:=V.cell 1 rfl;have v2:=V.cell 2 rfl;have hg9:=G9.1;have hev:=V.1;clear hP hin hLe hgP hPl hbb hAE hL2 O9 hst hef e0 e1 e2 hel hne;go_wp2_with fail;with_reducible refine (HAE.out).mono ?_
     rintro en wf ⟨A1,c1,rfl,oP,mf⟩;have G10:=G9.mid mf oZr;have B10:=B9.mid mf oZr;have C10:=C9.mid mf (Or.inr rfl);have M10:=M9.trans mf.zero;have hzf:=mf.size;clear g0 g1 g2 v0 v1 v2 V G9 B9 C9 M9 mf HAE hev;have g0:=G10.cell 0 rfl;have g1:=G10.cell 1 rfl;have g2:=G10.cell 2 rfl;have gf:=G10.2.2;have gl:=G10.1;have hbl:=B10.1;have hcl2:=C10.lt;have hst:=((Mid.setCell wf (lo:=gb) (hi:=gb+1) (p:=⟨gb,0,none⟩) (.int .i64 (rn:Int)) (Nat.le_refl _) (Nat.lt_succ_self _)).trans (Mid.setCell _ (lo:=gb) (hi:=gb+1) (p:=⟨gb,1,none⟩) (.int .i64 (n:Int)) (Nat.le_refl _) (Nat.lt_succ_self _))).trans (Mid.setCell _ (lo:=gb) (hi:=gb+1) (p:=⟨gb,2,none⟩) (.slice A1 L2 c1) (Nat.le_refl _) (Nat.lt_succ_self _));have G11:=((G10.set 0 (.int .i64 (rn:Int)) (by simp) rfl).set 1 (.int .i64 (n:Int)) (by simp) rfl).set 2 (.slice A1 L2 c1) (by simp) rfl;simp only [List.set_cons_succ,List.set_cons_zero] at G11;have B11:=B10.mid hst (by omega);have O11:=(oP.mid hst (Or.inl (by omega))).wide (lo':=gb+1) (by omega) hst.size (Nat.le_refl _);have C11:=C10.mid hst (by omega);have M11:=M10.transNew hst (by omega);clear hst B10 C10 M10 oP;go_wp2_with fail;go_roundw
     case rel=>exact ⟨m - 1,P,A1,c1,L2,by go_num,HL2,by omega,HP,G11,O11,B11,C11,M11⟩
     case measure=>simp [natV];omega
   ·go_simp
    refine hK.out _ _ (Or.inr ⟨cell_keep (Mid.alloc wz (.cells #[.int .i64 0,.int .i64 0,.int .i64 0] 68)) hG.1 oZr (hG.cell 0 rfl),cell_keep (Mid.alloc wz (.cells #[.int .i64 0,.int .i64 0,.int .i64 0] 68)) hG.1 oZr (hG.cell 1 rfl)⟩) (fun _=>?_);clear hK K;try simp only [Act.put,zs1,zs2,zs3,zs4,zs5,zs6]
    have al13:=Mid.alloc wz (.cells #[.int .i64 0,.int .i64 0,.int .i64 0] 68);have hE13:=Box.new wz #[.int .i64 0,.int .i64 0,.int .i64 0] 68;have hG13:=hG.mid al13 oZr;have hB13:=hB.mid al13 oZr;have hO13:=hOz.mid al13 oZl;have hC13:=hC.mid al13 (Or.inr rfl);have hM13:=hM.trans al13.zero;have hz13:=al13.size;have hgE13:=hG.1;have hcE13:=hC.lt;have hbE13:=hB.1;generalize wz.alloc (.cells #[.int .i64 0,.int .i64 0,.int .i64 0] 68)=wc13 at hE13 hG13 hB13 hO13 hC13 hM13 hz13 ⊢;clear al13;have hS13:=And.intro (hG13.cell 0 rfl) (hG13.cell 1 rfl);refine rdZ 3 rfl (fun K hK=>?_)
    (go_simp;(with_reducible refine (l1BelowI (n:Int) (by omega) (by omega) p A bs c _ hb hl hC13).mono ?_);rintro en wc14 ⟨x14,rfl,hx14,hC14,m14⟩;have hG14:=hG13.mid m14 (Or.inr (by omega));go_wp2_with fail)
    refine hK.out _ _ (Or.inr ⟨hG14.cell 0 rfl,hG14.cell 1 rfl⟩) (fun _=>?_);clear hK K;try simp only [Act.put,zs1,zs2,zs3,zs4,zs5,zs6]
    have hS14:=And.intro (hG14.cell 0 rfl) (hG14.cell 1 rfl);have hB14:=hB13.mid m14 (Or.inr (by omega));have hO14:=hO13.mid m14 (Or.inl (by omega));have hM14:=hM13.trans m14;have hz14:=m14.size;have hE14:=hE13.mid m14 (Or.inr (by omega));refine rdZ 7 rfl (fun K hK=>?_)
    (go_simp;(with_reducible refine (l1BelowI (rn:Int) (by omega) (by omega) p A bs c _ hb hl hC14).mono ?_);rintro en wc15 ⟨x15,rfl,hx15,hC15,m15⟩;have hG15:=hG14.mid m15 (Or.inr (by omega));go_wp2_with fail)
    refine hK.out _ _ (Or.inr ⟨hG15.cell 0 rfl,hG15.cell 1 rfl⟩) (fun _=>?_);clear hK K;try simp only [Act.put,zs1,zs2,zs3,zs4,zs5,zs6]
    have hS15:=And.intro (hG15.cell 0 rfl) (hG15.cell 1 rfl);have hB15:=hB14.mid m15 (Or.inr (by omega));have hO15:=hO14.mid m15 (Or.inl (by omega));have hM15:=hM14.trans m15;have hz15:=m15.size;have hE15:=hE14.mid m15 (Or.inr (by omega));have ew15:IntKind.i64.wrap (1+(x15:Int))=1+(x15:Int):=IntWalk.i64_in _ (by omega);refine tkZ [] 8 rfl hS15 ?_;try simp only [Act.put,zs1,zs2,zs3,zs4,zs5,zs6]
    refine rdZ 12 rfl (fun K hK=>?_)
    (go_simp;(with_reducible refine (l1BelowI (n:Int) (by omega) (by omega) p A bs c _ hb hl hC15).mono ?_);rintro en wc16 ⟨x16,rfl,hx16,hC16,m16⟩;have hG16:=hG15.mid m16 (Or.inr (by omega));go_wp2_with fail)
    refine hK.out _ _ (Or.inr ⟨hG16.cell 0 rfl,hG16.cell 1 rfl⟩) (fun _=>?_);clear hK K;try simp only [Act.put,zs1,zs2,zs3,zs4,zs5,zs6]
    have hS16:=And.intro (hG16.cell 0 rfl) (hG16.cell 1 rfl);have hB16:=hB15.mid m16 (Or.inr (by omega));have hO16:=hO15.mid m16 (Or.inl (by omega));have hM16:=hM15.trans m16;have hz16:=m16.size;have hE16:=hE15.mid m16 (Or.inr (by omega));refine tkZ [] 13 rfl hS16 ?_;try simp only [Act.put,zs1,zs2,zs3,zs4,zs5,zs6]
    have hef:=hE16.2.2;have e0:=hE16.cell 0 rfl;have e1:=hE16.cell 1 rfl;have e2:=hE16.cell 2 rfl;have hel:=hE16.1;have hne:gb≠wz.heap.size:=by omega
    have hst:=((Mid.setCell wc16 (lo:=wz.heap.size) (hi:=wz.heap.size+1) (p:=⟨wz.heap.size,0,none⟩) (.int .i64 (x14:Int)) (Nat.le_refl _) (Nat.lt_succ_self _)).trans (Mid.setCell _ (lo:=wz.heap.size) (hi:=wz.heap.size+1) (p:=⟨wz.heap.size,1,none⟩) (.int .i64 (1+(x15:Int))) (Nat.le_refl _) (Nat.lt_succ_self _))).trans (Mid.setCell _ (lo:=wz.heap.size) (hi:=wz.heap.size+1) (p:=⟨wz.heap.size,2,none⟩) (.int .i64 (x16:Int)) (Nat.le_refl _) (Nat.lt_succ_self _));have V:=((hE16.set 0 (.int .i64 (x14:Int)) (by simp) rfl).set 1 (.int .i64 (1+(x15:Int))) (by simp) rfl).set 2 (.int .i64 (x16:Int)) (by simp) rfl;simp only [List.set_cons_succ,List.set_cons_zero] at V;have hcl:=hC16.lt;have G9:=hG16.mid hst (by omega);have B9:=hB16.mid hst (by omega);have O9:=hO16.mid hst (by omega);have C9:=hC16.mid hst (by omega);have M9:=hM16.transNew hst (by omega);refine rdZ 15 rfl (fun K hK=>?_);go_simp;refine hK.out _ _ (Or.inr ⟨G9.cell 0 rfl,G9.cell 1 rfl⟩) (fun _=>?_);clear hK K;try simp only [Act.put,zs1,zs2,zs3,zs4,zs5,zs6]
    refine wpAnyZ_done (by kernel_rfl) ?_ _;generalize ((wc16.setCell ⟨wz.heap.size,0,none⟩ (.int .i64 (x14:Int))).setCell ⟨wz.heap.size,1,none⟩ (.int .i64 (1+(x15:Int)))).setCell ⟨wz.heap.size,2,none⟩ (.int .i64 (x16:Int))=w9 at V G9 B9 O9 C9 M9 ⊢;obtain ⟨P,hP⟩:∃ P,putE ⟨(x14:Int),1+(x15:Int),(x16:Int)⟩ es=P:=⟨_,rfl⟩
    have hin:InG rn n ⟨(x14:Int),1+(x15:Int),(x16:Int)⟩:=by simp only [InG];omega
    have hLe:=HL.out;have hgP:IsGr rn n P:=hP ▸ putE_gr HG.out hin (by omega);have hPl:P.length≤L+1:=by have:=putE_len ⟨(x14:Int),1+(x15:Int),(x16:Int)⟩ es;rw [hP] at this;omega
    obtain ⟨bb,hbb⟩:∃ b,decide ((es.length:Int) < (P.length:Int))=b:=⟨_,rfl⟩
    have hAE:=spec_AddEdgeB rn n Ae es ce ⟨(x14:Int),1+(x15:Int),(x16:Int)⟩ w9 _ _ O9.rg HG.out (edB_of hin (by omega)) (by omega) bb (by rw [hP];exact hbb);obtain ⟨L2,hL2⟩:∃ l,P.length=l:=⟨_,rfl⟩
    rw [hP,hLe,hL2] at hAE;have HAE:Hid (Calls Tryz.prog 222 #[.agg #[.int .i64 (rn:Int),.int .i64 (n:Int),.slice Ae L ce],.agg #[.int .i64 (x14:Int),.int .i64 (1+(x15:Int)),.int .i64 (x16:Int)]] w9 fun en w'=>∃ A1 c1,en=.returned (.tuple #[.agg #[.int .i64 (rn:Int),.int .i64 (n:Int),.slice A1 L2 c1],.bool bb])∧OG w' w9.heap.size w'.heap.size A1 c1 P∧Mid 0 0 w9 w'):=Lib.hid hAE;have HP:=Lib.hid hgP;have HL2:=Lib.hid hL2;have hL3:L2≤L+1:=by omega
    have g0:=G9.cell 0 rfl;have g1:=G9.cell 1 rfl;have g2:=G9.cell 2 rfl;have v0:=V.cell 0 rfl;have v1:=V.cell 1 rfl;have v2:=V.cell 2 rfl;have hg9:=G9.1;have hev:=V.1;clear hP hin hLe hgP hPl hbb hAE hL2 O9 hst hef e0 e1 e2 hel hne;go_wp2_with fail;with_reducible refine (HAE.out).mono ?_
    rintro en wf ⟨A1,c1,rfl,oP,mf⟩;have G10:=G9.mid mf oZr;have B10:=B9.mid mf oZr;have C10:=C9.mid mf (Or.inr rfl);have M10:=M9.trans mf.zero;have hzf:=mf.size;clear g0 g1 g2 v0 v1 v2 V G9 B9 C9 M9 mf HAE hev;have g0:=G10.cell 0 rfl;have g1:=G10.cell 1 rfl;have g2:=G10.cell 2 rfl;have gf:=G10.2.2;have gl:=G10.1;have hbl:=B10.1;have hcl2:=C10.lt;have hst:=((Mid.setCell wf (lo:=gb) (hi:=gb+1) (p:=⟨gb,0,none⟩) (.int .i64 (rn:Int)) (Nat.le_refl _) (Nat.lt_succ_self _)).trans (Mid.setCell _ (lo:=gb) (hi:=gb+1) (p:=⟨gb,1,none⟩) (.int .i64 (n:Int)) (Nat.le_refl _) (Nat.lt_succ_self _))).trans (Mid.setCell _ (lo:=gb) (hi:=gb+1) (p:=⟨gb,2,none⟩) (.slice A1 L2 c1) (Nat.le_refl _) (Nat.lt_succ_self _));have G11:=((G10.set 0 (.int .i64 (rn:Int)) (by simp) rfl).set 1 (.int .i64 (n:Int)) (by simp) rfl).set 2 (.slice A1 L2 c1) (by simp) rfl;simp only [List.set_cons_succ,List.set_cons_zero] at G11;have B11:=B10.mid hst (by omega);have O11:=(oP.mid hst (Or.inl (by omega))).wide (lo':=gb+1) (by omega) hst.size (Nat.le_refl _);have C11:=C10.mid hst (by omega);have M11:=M10.transNew hst (by omega);clear hst B10 C10 M10 oP;go_wp2_with fail;go_roundw
    case rel=>exact ⟨m - 1,P,A1,c1,L2,by go_num,HL2,by omega,HP,G11,O11,B11,C11,M11⟩
    case measure=>simp [natV];omega
  ·have q0:=hG.cell 0 rfl
   have q1:=hG.cell 1 rfl;have q2:=hG.cell 2 rfl;have p0:=hB.cell 0 rfl;have p1:=hB.cell 1 rfl;have p2:=hB.cell 2 rfl;have pf:=hB.2.2;have hbw:=hB.1;have hle:=HL.out;have hst:=((Mid.setCell wr (lo:=w.heap.size) (hi:=w.heap.size+1) (p:=⟨w.heap.size,0,none⟩) (.int .i64 (rn:Int)) (Nat.le_refl _) (Nat.lt_succ_self _)).trans (Mid.setCell _ (lo:=w.heap.size) (hi:=w.heap.size+1) (p:=⟨w.heap.size,1,none⟩) (.int .i64 (n:Int)) (Nat.le_refl _) (Nat.lt_succ_self _))).trans (Mid.setCell _ (lo:=w.heap.size) (hi:=w.heap.size+1) (p:=⟨w.heap.size,2,none⟩) (.slice Ae L ce) (Nat.le_refl _) (Nat.lt_succ_self _));have O9:=Lib.hid ((hO.mid hst (Or.inl (by omega))).wide (lo':=w.heap.size) (by omega) hst.size (Nat.le_refl _));have C9:=Lib.hid (hC.mid hst (Or.inl hpw));have M9:=Lib.hid (hM.transNew hst (Or.inl (Nat.le_refl _)));have HLE:=Lib.hid hle;clear hst hle hO hC hM;go_wp2_with fail;refine bodyPost_ret (v:=.agg #[.int .i64 (rn:Int),.int .i64 (n:Int),.slice Ae L ce]) (by simp [results,Tryz.results195,go_sem,p0,p1,p2,pf,q0,q1,q2]) rfl ⟨rn,n,Ae,ce,es,?_,⟨HG.out,by omega,by have:=HLE.out;omega⟩,O9.out,C9.out,M9.out⟩;rw [HLE.out]
end
section
open Go.RowKit
theorem DrG.size {r s t:Int} {es:List Ed} (h:DrG r s es) (ht:-10≤t∧t≤100):DrG r t es:=⟨h.rk,ht,h.len,h.all⟩
theorem DrG.rank {r s t:Int} {es:List Ed} (h:DrG r s es) (ht:-10≤t∧t≤10):DrG t s es:=⟨ht,h.sz,h.len,h.all⟩
theorem DrG.add {r s:Int} {es:List Ed} {e:Ed} (h:DrG r s es) (hl:es.length≤120) (he:(-100≤e.a∧e.a≤100)∧(-100≤e.l∧e.l≤100)∧(-100≤e.b∧e.b≤100)):DrG r s (es++[e]):=⟨h.rk,h.sz,by rw [List.length_append];simp;omega,fun x hx=>by
 rcases List.mem_append.1 hx with hx | hx
 ·exact h.all x hx
 ·simp at hx
  rw [hx];exact he⟩
theorem l4Any_any (p:Nat) (A:Option Addr) (bs:List Int) (c:Nat) (w:World) (hb:OkB bs) (hl:bs.length≤1048576) (h:Cur w p A bs c) :
  Calls Tryz.prog 194 #[.pointer (some ⟨p,0,none⟩)] w fun e w'=>∃ r s A' c' es,e=.returned (graV r s A' (List.length es) c')∧DrG r s es∧OG w' w.heap.size w'.heap.size A' c' es∧Cur w' p A bs c∧Mid p (p+1) w w':=by
 have hpw:=h.lt;have hal:=Mid.alloc w (.cells #[.int .i64 0,.int .i64 0,.slice none 0 0] 26);have B2:=Box.new w #[.int .i64 0,.int .i64 0,.slice none 0 0] 26;have h0:=h.mid hal (Or.inr rfl);go_enter Tryz.func194,Tryz.ntmps194
 go_wp2_with fail;generalize (w.alloc (.cells #[.int .i64 0,.int .i64 0,.slice none 0 0] 26))=w1 at B2 h0 hal ⊢;have hs1:w.heap.size < w1.heap.size:=B2.1;with_reducible refine (l4Graph_any p A bs c w1 hb hl h0).mono ?_
 rintro e w2 ⟨r,n,Ae,ce,es,rfl,⟨hg,hn5,he8⟩,hO,h2,m2⟩;replace B2:=B2.mid m2 (Or.inr (by omega));have hm2:=hal.zero.trans m2;have hs2:=m2.size;have HG:=Lib.hid (DrG.of_gr hg);obtain ⟨L,hL⟩:∃ l,es.length=l:=⟨_,rfl⟩
 have HL:=Lib.hid hL;have hL8:L≤8:=by omega
 rw [hL];have hal2:=Mid.alloc w2 (.cells #[.int .i64 (r:Int),.int .i64 (n:Int),.slice Ae L ce] 26);have G0:=Box.new w2 #[.int .i64 (r:Int),.int .i64 (n:Int),.slice Ae L ce] 26;obtain ⟨gb,hgb⟩:∃ g,w2.heap.size=g:=⟨_,rfl⟩
 clear hg hn5 he8 hal h0 m2 hL;go_wp2_with fail;rw [hgb] at G0;replace B2:=B2.mid hal2 oZr;replace h2:=h2.mid hal2 (Or.inr rfl);replace hm2:=hm2.trans hal2.zero;have hO3:=(hO.mid hal2 oZl).wide (lo':=w.heap.size+1) (hi':=gb) (by omega) (by omega) (by have:=G0.1;omega);generalize w2.alloc (.cells #[.int .i64 (r:Int),.int .i64 (n:Int),.slice Ae L ce] 26)=w3 at G0 B2 h2 hm2 hO3 ⊢;have hg3:gb < w3.heap.size:=G0.1;have hwg:w.heap.size < gb:=by omega
 clear hal2 hO hs1 hs2 hgb;with_reducible refine (l1BelowI 14 (by decide) (by decide) p A bs c _ hb hl h2).mono ?_
 rintro e w4 ⟨k,rfl,hk,h4,m4⟩;replace G0:=G0.mid m4 (Or.inr (by omega));replace B2:=B2.mid m4 (Or.inr (by omega));have hO4:=hO3.mid m4 (Or.inl (by omega));have hm4:=hm2.trans m4;clear h2 hO3 hm2 m4 hg3;rcases (by omega:k=0 ∨ k=1 ∨ k=2 ∨ 3≤k) with rfl | rfl | rfl | hk3
 ·have HD:=Lib.hid (HG.out)
  have al:=Mid.alloc w4 (.cells #[.int .i64 (-1),.int .i64 0,.int .i64 1,.int .i64 41] 3);have hbx:=Box.new w4 #[.int .i64 (-1),.int .i64 0,.int .i64 1,.int .i64 41] 3;go_wp2_with fail;replace G0:=G0.mid al oZr;replace B2:=B2.mid al oZr;have hO5:=hO4.mid al oZl;have h5:=h4.mid al (Or.inr rfl);have hm5:=hm4.trans al.zero;have hgl4:=G0.1;have hpl4:=h4.lt;have hri:RI (w4.alloc (.cells #[.int .i64 (-1),.int .i64 0,.int .i64 1,.int .i64 41] 3)) w4.heap.size (w4.heap.size+1) (some ⟨w4.heap.size,0,none⟩) [-1,0,1,41]:=⟨hbx.1,fun _=>⟨w4.heap.size,0,rfl,Nat.le_refl _,Nat.lt_succ_self _,fun j u hu=>by rw [Nat.zero_add];exact hbx.2.1 j u (by simpa [ints] using hu)⟩⟩
  generalize (w4.alloc (.cells #[.int .i64 (-1),.int .i64 0,.int .i64 1,.int .i64 41] 3))=w5 at G0 B2 hO5 h5 hm5 hri hgl4 ⊢;clear hO4 h4 hm4 al hbx;with_reducible refine (l1PickIntN (some ⟨w4.heap.size,0,none⟩) [-1,0,1,41] 4 4 rfl (by decide) (by decide) p A bs c _ _ _ hri (Or.inl hpl4) hb hl h5).mono ?_
  rintro e w6 ⟨t,rfl,htm,h6,m6⟩;have ht:-10≤t∧t≤100:=by simp at htm;omega
  replace G0:=G0.mid m6 (Or.inr (by omega));replace B2:=B2.mid m6 (Or.inr (by omega));have hO6:=hO5.mid m6 (Or.inl (by omega));have hm6:=hm5.trans m6;clear hO5 h5 hm5 m6 hri htm;have g0:=G0.cell 0 rfl;have g1:=G0.cell 1 rfl;have g2:=G0.cell 2 rfl;have gf:=G0.2.2;have gl:=G0.1;have hst:=Mid.setCell w6 (lo:=gb) (hi:=gb+1) (p:=⟨gb,1,none⟩) (.int .i64 t) (Nat.le_refl _) (Nat.lt_succ_self _);replace G0:=G0.set 1 (.int .i64 t) (by simp) rfl;simp only [List.set_cons_succ,List.set_cons_zero] at G0;replace B2:=B2.mid hst (Or.inl (by omega));replace hO6:=hO6.mid hst (Or.inr (Nat.le_refl _));replace h6:=h6.mid hst (Or.inl (by omega));replace hm6:=hm6.transNew hst (Or.inl (by omega));have ql:=B2.1;have gl2:=G0.1;have k0:=G0.cell 0 rfl;have k1:=G0.cell 1 rfl;have k2:=G0.cell 2 rfl;have q0:=B2.cell 0 rfl;have q1:=B2.cell 1 rfl;have q2:=B2.cell 2 rfl;have qf:=B2.2.2;obtain ⟨wT,hwT⟩:∃ x,w6.setCell ⟨gb,1,none⟩ (.int .i64 t)=x:=⟨_,rfl⟩
  rw [hwT] at G0 B2 hO6 h6 hm6 ql gl2 k0 k1 k2 q0 q1 q2 qf;clear hst;have hst:=((Mid.setCell wT (lo:=w.heap.size) (hi:=w.heap.size+1) (p:=⟨w.heap.size,0,none⟩) (.int .i64 (r:Int)) (Nat.le_refl _) (Nat.lt_succ_self _)).trans (Mid.setCell _ (lo:=w.heap.size) (hi:=w.heap.size+1) (p:=⟨w.heap.size,1,none⟩) (.int .i64 t) (Nat.le_refl _) (Nat.lt_succ_self _))).trans (Mid.setCell _ (lo:=w.heap.size) (hi:=w.heap.size+1) (p:=⟨w.heap.size,2,none⟩) (.slice Ae L ce) (Nat.le_refl _) (Nat.lt_succ_self _));have O9:=Lib.hid ((hO6.mid hst (Or.inl (by omega))).wide (lo':=w.heap.size) (hi':=_) (by omega) (by have:=hst.size;have:=hO6.size;exact Nat.le_trans hO6.size hst.size) (Nat.le_refl _));have C9:=Lib.hid (h6.mid hst (Or.inl hpw));have M9:=Lib.hid (hm6.transNew hst (Or.inl (Nat.le_refl _)));clear hst hO6 h6 hm6;go_wp2_with fail;refine bodyPost_ret (v:=.agg #[.int .i64 (r:Int),.int .i64 t,.slice Ae L ce]) (by simp [results,Tryz.results194,go_sem,q0,q1,q2,qf,k0,k1,k2]) rfl ⟨(r:Int),t,Ae,ce,es,?_,(HG.out.size ht),O9.out,C9.out,M9.out⟩;rw [HL.out]
 ·have HD:=Lib.hid (HG.out)
  have al:=Mid.alloc w4 (.cells #[.int .i64 0,.int .i64 1,.int .i64 4] 3);have hbx:=Box.new w4 #[.int .i64 0,.int .i64 1,.int .i64 4] 3;go_wp2_with fail;replace G0:=G0.mid al oZr;replace B2:=B2.mid al oZr;have hO5:=hO4.mid al oZl;have h5:=h4.mid al (Or.inr rfl);have hm5:=hm4.trans al.zero;have hgl4:=G0.1;have hpl4:=h4.lt;have hri:RI (w4.alloc (.cells #[.int .i64 0,.int .i64 1,.int .i64 4] 3)) w4.heap.size (w4.heap.size+1) (some ⟨w4.heap.size,0,none⟩) [0,1,4]:=⟨hbx.1,fun _=>⟨w4.heap.size,0,rfl,Nat.le_refl _,Nat.lt_succ_self _,fun j u hu=>by rw [Nat.zero_add];exact hbx.2.1 j u (by simpa [ints] using hu)⟩⟩
  generalize (w4.alloc (.cells #[.int .i64 0,.int .i64 1,.int .i64 4] 3))=w5 at G0 B2 hO5 h5 hm5 hri hgl4 ⊢;clear hO4 h4 hm4 al hbx;with_reducible refine (l1PickIntN (some ⟨w4.heap.size,0,none⟩) [0,1,4] 3 3 rfl (by decide) (by decide) p A bs c _ _ _ hri (Or.inl hpl4) hb hl h5).mono ?_
  rintro e w6 ⟨t,rfl,htm,h6,m6⟩;have ht:-10≤t∧t≤10:=by simp at htm;omega
  replace G0:=G0.mid m6 (Or.inr (by omega));replace B2:=B2.mid m6 (Or.inr (by omega));have hO6:=hO5.mid m6 (Or.inl (by omega));have hm6:=hm5.trans m6;clear hO5 h5 hm5 m6 hri htm;have g0:=G0.cell 0 rfl;have g1:=G0.cell 1 rfl;have g2:=G0.cell 2 rfl;have gf:=G0.2.2;have gl:=G0.1;have hst:=Mid.setCell w6 (lo:=gb) (hi:=gb+1) (p:=⟨gb,0,none⟩) (.int .i64 t) (Nat.le_refl _) (Nat.lt_succ_self _);replace G0:=G0.set 0 (.int .i64 t) (by simp) rfl;simp only [List.set_cons_succ,List.set_cons_zero] at G0;replace B2:=B2.mid hst (Or.inl (by omega));replace hO6:=hO6.mid hst (Or.inr (Nat.le_refl _));replace h6:=h6.mid hst (Or.inl (by omega));replace hm6:=hm6.transNew hst (Or.inl (by omega));have ql:=B2.1;have gl2:=G0.1;have k0:=G0.cell 0 rfl;have k1:=G0.cell 1 rfl;have k2:=G0.cell 2 rfl;have q0:=B2.cell 0 rfl;have q1:=B2.cell 1 rfl;have q2:=B2.cell 2 rfl;have qf:=B2.2.2;obtain ⟨wT,hwT⟩:∃ x,w6.setCell ⟨gb,0,none⟩ (.int .i64 t)=x:=⟨_,rfl⟩
  rw [hwT] at G0 B2 hO6 h6 hm6 ql gl2 k0 k1 k2 q0 q1 q2 qf;clear hst;have hst:=((Mid.setCell wT (lo:=w.heap.size) (hi:=w.heap.size+1) (p:=⟨w.heap.size,0,none⟩) (.int .i64 t) (Nat.le_refl _) (Nat.lt_succ_self _)).trans (Mid.setCell _ (lo:=w.heap.size) (hi:=w.heap.size+1) (p:=⟨w.heap.size,1,none⟩) (.int .i64 (n:Int)) (Nat.le_refl _) (Nat.lt_succ_self _))).trans (Mid.setCell _ (lo:=w.heap.size) (hi:=w.heap.size+1) (p:=⟨w.heap.size,2,none⟩) (.slice Ae L ce) (Nat.le_refl _) (Nat.lt_succ_self _));have O9:=Lib.hid ((hO6.mid hst (Or.inl (by omega))).wide (lo':=w.heap.size) (hi':=_) (by omega) (by have:=hst.size;have:=hO6.size;exact Nat.le_trans hO6.size hst.size) (Nat.le_refl _));have C9:=Lib.hid (h6.mid hst (Or.inl hpw));have M9:=Lib.hid (hm6.transNew hst (Or.inl (Nat.le_refl _)));clear hst hO6 h6 hm6;go_wp2_with fail;refine bodyPost_ret (v:=.agg #[.int .i64 t,.int .i64 (n:Int),.slice Ae L ce]) (by simp [results,Tryz.results194,go_sem,q0,q1,q2,qf,k0,k1,k2]) rfl ⟨t,(n:Int),Ae,ce,es,?_,(HG.out.rank ht),O9.out,C9.out,M9.out⟩;rw [HL.out]
 ·have hmd:=Mid.drew1 w4
  replace G0:=G0.mid hmd oZr;replace B2:=B2.mid hmd oZr;replace hO4:=hO4.mid hmd oZl;replace h4:=h4.mid hmd (Or.inr rfl);replace hm4:=hm4.trans hmd.zero;clear hmd;have g2:=G0.cell 2 rfl;go_wp2_with fail;refine wp_region_Z (S:=(fun w'=>w'.cell? ⟨gb,2,none⟩=some (.slice Ae L ce))) [8] (by kernel_rfl) g2 ?_;generalize World.drew w4=wz at G0 B2 hO4 h4 hm4 g2 ⊢;refine tkZ [8] 0 rfl g2 ?_;try simp only [Act.put,zs1,zs2,zs3,zs4,zs5,zs6]
  refine tkZ [8] 1 rfl g2 ?_;try simp only [Act.put,zs1,zs2,zs3,zs4,zs5,zs6]
  refine tkZ [8] 2 rfl g2 ?_;try simp only [Act.put,zs1,zs2,zs3,zs4,zs5,zs6]
  refine rdZ 3 rfl (fun K hK=>?_)
  (go_simp;(with_reducible refine (l1BelowI 4 (by decide) (by decide) p A bs c _ hb hl h4).mono ?_);rintro en w5 ⟨x,rfl,hx,h5,m5⟩;have G5:=G0.mid m5 (Or.inr (by omega));go_wp2_with fail)
  refine hK.out _ _ (Or.inr (G5.cell 2 rfl)) (fun _=>?_);clear hK K;try simp only [Act.put,zs1,zs2,zs3,zs4,zs5,zs6]
  have B5:=B2.mid m5 (Or.inr (by omega));have O5:=hO4.mid m5 (Or.inl (by omega));have hm5:=hm4.trans m5;clear g2 G0 B2 hO4 h4 hm4 m5;have k2:=G5.cell 2 rfl;refine tkZ [8] 4 rfl k2 ?_;try simp only [Act.put,zs1,zs2,zs3,zs4,zs5,zs6]
  have al:=Mid.alloc w5 (.cells #[.int .i64 (x:Int),.int .i64 1,.int .i64 0] 68);have G6:=G5.mid al oZr;have hrs:Rs (w5.alloc (.cells #[.int .i64 (x:Int),.int .i64 1,.int .i64 0] 68)) (w5.heap.size+1) (some ⟨w5.heap.size,0,none⟩) [.int .i64 (x:Int),.int .i64 1,.int .i64 0]:=fun _=>⟨w5.heap.size,0,rfl,Nat.lt_succ_self _,fun j u hu=>(World.cell?_alloc_at _ _ _ _ rfl).trans (by simpa using hu)⟩
  refine rdZ 5 rfl (fun K hK=>?_);go_simp;refine hK.out _ _ (Or.inr (G6.cell 2 rfl)) (fun _=>?_);clear hK K;try simp only [Act.put,zs1,zs2,zs3,zs4,zs5,zs6]
  have B6:=B5.mid al oZr;have O6:=O5.mid al oZl;have h6:=h5.mid al (Or.inr rfl);have hm6:=hm5.trans al.zero;have hg5:=G5.1;generalize w5.alloc (.cells #[.int .i64 (x:Int),.int .i64 1,.int .i64 0] 68)=w6 at G6 hrs B6 O6 h6 hm6 ⊢;clear al B5 O5 h5 hm5 k2 G5;have hown:=O6.2.1;rw [HL.out] at hown;have hone:∀ u∈[Value.int .i64 (x:Int),.int .i64 1,.int .i64 0],u.oneCell'=true:=by
   intro u hu;simp at hu;rcases hu with rfl | rfl | rfl <;> rfl
  have HO:=Lib.hid hone;have hmxl:L+1≤maxLen:=by unfold maxLen;omega
  have hbyt:(L+1) * 24≤140737488355328:=by omega
  have hg6:gb < w6.heap.size:=G6.1;have hbas:w.heap.size+1≤w6.heap.size:=by have:=G6.1;omega
  have hne:Value.ownBlock (.slice Ae L ce)≠some gb:=fun h=>by have:=O6.2.2 gb (by rw [HL.out];exact h);omega
  have hne2:Value.ownBlock (.slice Ae L ce)≠some w.heap.size:=fun h=>by have:=hown.lt _ h;omega
  have HN:=Lib.hid hne;clear hone hne;refine rdZ 6 rfl (fun K hK=>?_)
  (refine step_cat (by rfl) (.tmp 23) (.tmp 27) 24 (by rfl) (w.heap.size+1) 68 (.agg #[.int .i64 0,.int .i64 0,.int .i64 0]) 3 24 undSE infoE rfl (by decide) (.slice Ae L ce) L _ (by rfl) hown (some ⟨w5.heap.size,0,none⟩) 1 1 _ [.int .i64 (x:Int),.int .i64 1,.int .i64 0] (by rfl) hrs rfl HO.out hmxl hbyt hbas ?_;intro v9 w9 ho9 hgr9 hat9;obtain ⟨A9,c9,rfl, -, -⟩:=owns_shape ho9)
  refine hK.out _ _ (Or.inr ((G6.grown hgr9 HN.out).cell 2 rfl)) (fun _=>?_);clear hK K;try simp only [Act.put,zs1,zs2,zs3,zs4,zs5,zs6]
  have G9:=G6.grown hgr9 HN.out;have B9:=B6.grown hgr9 hne2;have m9:=Mid.of_grownRow hown hgr9;have h9:=h6.mid m9 (Or.inl (by omega));have hm9:=hm6.transNew m9 (Or.inl (by omega));clear hrs B6 O6 h6 hm6 G6 hown hbas hne2;have gf:=G9.2.2;have gl:=G9.1;have g0:=G9.cell 0 rfl;have g1:=G9.cell 1 rfl;have g2:=G9.cell 2 rfl;refine tkZ [8] 7 rfl g2 ?_;try simp only [Act.put,zs1,zs2,zs3,zs4,zs5,zs6]
  have hst0:=Mid.setCell w9 (lo:=gb) (hi:=gb+1) (p:=⟨gb,2,none⟩) (.slice A9 (L+1) c9) (Nat.le_refl _) (Nat.lt_succ_self _);have G10:=G9.set 2 (.slice A9 (L+1) c9) (by simp) rfl;simp only [List.set_cons_succ,List.set_cons_zero] at G10;have B10:=B9.mid hst0 (Or.inl (by omega));have h10:=h9.mid hst0 (Or.inl (by omega));have hm10:=hm9.transNew hst0 (Or.inl (by omega));have ho10:(w9.setCell ⟨gb,2,none⟩ (.slice A9 (L+1) c9)).ownsRow (w.heap.size+1) 68 3 (.slice A9 (L+1) c9) (L+1) (ints (edI (es++[⟨(x:Int),1,0⟩]))):=by
   rw [edI_append,ints_append,edI_one];refine ownsRow_setCell_other ho9 ?_ _;rcases hat9 with h | h
   ·rw [h]
    exact HN.out
   ·rw [h]
    intro e;have:=Option.some.inj e;have hh:w6.heap.size=gb:=this;omega
  refine rdZ 8 rfl (fun K hK=>?_);go_simp;refine hK.out _ _ (Or.inl (by simp)) (fun _=>?_);clear hK K;try simp only [Act.put,zs1,zs2,zs3,zs4,zs5,zs6]
  refine wpAnyZ_done (by kernel_rfl) ?_ _;have hl9:(es++[(⟨(x:Int),1,0⟩:Ed)]).length=L+1:=by rw [List.length_append,HL.out];rfl
  have HL9:=Lib.hid hl9;obtain ⟨A11,c11,hv11,hn11,hO11⟩:=OG.mk' ho10;rw [hl9] at hv11;injection hv11 with e1 e2 e3
  subst e1 e3;have HD9:Hid (DrG (r:Int) (n:Int) (es++[(⟨(x:Int),1,0⟩:Ed)])):=Lib.hid (DrG.add HG.out (by rw [HL.out];omega) (And.intro (show -100≤(x:Int)∧(x:Int)≤100 by omega) (And.intro (by simp) (by simp))));generalize w9.setCell ⟨gb,2,none⟩ (.slice A9 (L+1) c9)=wT at G10 B10 h10 hm10 hO11 ⊢;clear hst0 G9 B9 h9 hm9 gf gl g0 g1 g2 m9 ho9 ho10 hgr9 hat9 hl9 hn11;have g0:=G10.cell 0 rfl;have g1:=G10.cell 1 rfl;have g2:=G10.cell 2 rfl;have q0:=B10.cell 0 rfl;have q1:=B10.cell 1 rfl;have q2:=B10.cell 2 rfl;have qf:=B10.2.2;have ql:=B10.1;have gl:=G10.1;have hst:=((Mid.setCell wT (lo:=w.heap.size) (hi:=w.heap.size+1) (p:=⟨w.heap.size,0,none⟩) (.int .i64 (r:Int)) (Nat.le_refl _) (Nat.lt_succ_self _)).trans (Mid.setCell _ (lo:=w.heap.size) (hi:=w.heap.size+1) (p:=⟨w.heap.size,1,none⟩) (.int .i64 (n:Int)) (Nat.le_refl _) (Nat.lt_succ_self _))).trans (Mid.setCell _ (lo:=w.heap.size) (hi:=w.heap.size+1) (p:=⟨w.heap.size,2,none⟩) (.slice A9 (L+1) c9) (Nat.le_refl _) (Nat.lt_succ_self _));have O9:=Lib.hid ((hO11.mid hst (Or.inl (by omega))).wide (lo':=w.heap.size) (by omega) (by have:=hst.size;have:=hO11.size;omega) (Nat.le_refl _));have C9:=Lib.hid (h10.mid hst (Or.inl hpw));have M9:=Lib.hid (hm10.transNew hst (Or.inl (Nat.le_refl _)));clear hst hO11 h10 hm10;go_wp2_with fail;refine bodyPost_ret (v:=.agg #[.int .i64 (r:Int),.int .i64 (n:Int),.slice A9 (L+1) c9]) (by simp [results,Tryz.results194,go_sem,q0,q1,q2,qf,g0,g1,g2]) rfl ⟨(r:Int),(n:Int),A9,c9,(es++[(⟨(x:Int),1,0⟩:Ed)]),?_,HD9.out,O9.out,C9.out,M9.out⟩;rw [HL9.out]
 ·have e0:¬ ((k:Int)=0):=by omega
  have e1:¬ ((k:Int)=1):=by omega
  have e2:¬ ((k:Int)=2):=by omega
  generalize hwT:w4=wT at G0 B2 hO4 h4 hm4 ⊢;have g0:=G0.cell 0 rfl;have g1:=G0.cell 1 rfl;have g2:=G0.cell 2 rfl;have q0:=B2.cell 0 rfl;have q1:=B2.cell 1 rfl;have q2:=B2.cell 2 rfl;have qf:=B2.2.2;have ql:=B2.1;have gl:=G0.1;have hst:=((Mid.setCell wT (lo:=w.heap.size) (hi:=w.heap.size+1) (p:=⟨w.heap.size,0,none⟩) (.int .i64 (r:Int)) (Nat.le_refl _) (Nat.lt_succ_self _)).trans (Mid.setCell _ (lo:=w.heap.size) (hi:=w.heap.size+1) (p:=⟨w.heap.size,1,none⟩) (.int .i64 (n:Int)) (Nat.le_refl _) (Nat.lt_succ_self _))).trans (Mid.setCell _ (lo:=w.heap.size) (hi:=w.heap.size+1) (p:=⟨w.heap.size,2,none⟩) (.slice Ae L ce) (Nat.le_refl _) (Nat.lt_succ_self _));have O9:=Lib.hid ((hO4.mid hst (Or.inl (by omega))).wide (lo':=w.heap.size) (by omega) (by have:=hst.size;have:=hO4.size;omega) (Nat.le_refl _));have C9:=Lib.hid (h4.mid hst (Or.inl hpw));have M9:=Lib.hid (hm4.transNew hst (Or.inl (Nat.le_refl _)));clear hst hO4 h4 hm4;go_wp2_with fail;refine bodyPost_ret (v:=.agg #[.int .i64 (r:Int),.int .i64 (n:Int),.slice Ae L ce]) (by simp [results,Tryz.results194,go_sem,q0,q1,q2,qf,g0,g1,g2]) rfl ⟨(r:Int),(n:Int),Ae,ce,es,?_,HG.out,O9.out,C9.out,M9.out⟩;rw [HL.out]
end
section
open Go.RowKit
section
variable {w w' W W':World} {lo a b:Nat} {A A':Option Addr} {n c c':Nat} {rows:List Row} {r:Row}
theorem Own1.midB (h:Own1 w lo A n c rows) (m:Mid a b w w') (hd:b≤lo):Own1 w' lo A n c rows :=
 ⟨owns_mid h.out m (Or.inl hd),(h.rows.mid m (Or.inl hd)).wide (Nat.le_refl _) m.size (Nat.le_refl _)⟩
theorem Own1.pushB (h:Own1 w lo A n c rows) (m:Mid a b w W) (hd:b≤lo) (hl:lo≤w.heap.size) (hrow:W.ownsRow w.heap.size 3 1 r.v r.xs.length (ints r.xs))
  (h1:W'.ownsRow lo 34 1 (.slice A' (n+1) c') (n+1) (rowsV rows++[r.v])) (h2:W.grownBy W' (obS A n c)):Own1 W' lo A' (n+1) c' (rows++[r]):=by
 refine ⟨by rw [rowsV_append];exact h1,?_⟩;have k1:=(h.rows.mid m (Or.inl hd)).push (r:=r) (base:=w.heap.size) (hi':=W.heap.size) hrow (Nat.le_refl _) hl m.size (Nat.le_refl _) (fun g hg=>(hrow.lt g hg).2);exact (k1.grown (h.midB m hd).out (by decide) h2).wide (Nat.le_refl _) h2.size (Nat.le_refl _)
variable {ops:Array Oper} {rest:List Oper} {o:Oper} {ac:Act} {Q:Exit→Act→World→Prop}
theorem wpList_pushB (hgd:o.guard=none) (s x:Operand)
  (ho:o.op=.call { callee:=.builtin .append,args:=#[s,x],argTypes:=#[41,41] }) (hs:ac.eval s=.slice A n c)
  (h:Own1 w lo A n c rows) (m:Mid a b w W) (hd:b≤lo) (r:Row) (u:Value) (hu:r.v=u) (hrow:W.ownsRow w.heap.size 3 1 r.v r.xs.length (ints r.xs)) (hx:ac.eval x=.slice (some ⟨W.heap.size,0,none⟩) 1 1) (hn:n≤1048576) (hb:lo≤w.heap.size)
  (hk:∀ A' c' w',Own1 w' lo A' (n+1) c' (rows++[r])→W.grownBy w' (obS A n c)→wpList Tryz.prog ops Q rest (ac.put o.dst (.slice A' (n+1) c')) w') :
  wpList Tryz.prog ops Q (o :: rest) ac (W.alloc (.cells #[u] 34)):=by
 subst hu;have hms:=m.size;refine wpList_push (news:=[r.v]) hgd s x 41 ho lo 34 (.slice none 0 0) 1 24 undSSI infoSI rfl (by decide) (.slice A n c) n (rowsV rows) hs (h.midB m hd).out 1 hx rfl ?_ (by unfold maxLen;omega) (by omega) (by omega) ?_
 ·intro u hu
  simp at hu;subst hu
  rfl
 ·intro v' w' h1 h2 h3
  obtain ⟨A',c',rfl, -, -⟩:=owns_shape h1;exact hk A' c' w' (h.pushB m hd hb hrow h1 h2) h2
end
def DrWs (l:List (List Int)):Prop:=l.length≤5∧∀ w∈l,w.length≤5∧LtW w∧Rd w
theorem DrWs.len {l:List (List Int)} (h:DrWs l):∀ {k:Nat},sumL (l.take k)≤5 * k:=by
 intro k
 induction k with
 | zero=>simp [sumL]
 | succ k ih =>
  by_cases hk:k < l.length
  ·have e:=sumL_take_succ (List.getElem?_eq_getElem hk)
   have:=(h.2 _ (List.getElem_mem hk)).1;omega
  ·rw [List.take_of_length_le (by omega)] at ih ⊢
   omega
theorem DrWs.sum {l:List (List Int)} (h:DrWs l):sumL l≤25:=by
 have:=h.len (k:=l.length);rw [List.take_length] at this;have:=h.1;omega
theorem DrWs.ok {l:List (List Int)} (h:DrWs l):OkSS l:=⟨⟨by have:=h.1;omega,fun xs hx=>by have:=(h.2 xs hx).1;omega⟩,fun xs hx=>(h.2 xs hx).2.1.ok⟩
theorem l6Words_any (r:Int) (hr1:1≤r) (hr3:r≤3) (p:Nat) (A:Option Addr) (bs:List Int) (c:Nat) (w:World) (hb:OkB bs) (hl:bs.length≤1048576) (h:Cur w p A bs c) :
  Calls Tryz.prog 225 #[.pointer (some ⟨p,0,none⟩),.int .i64 r] w fun e w'=>∃ A' c' rows,e=.returned (.slice A' (List.length rows) c')∧((rowsD rows).length≤3∧DrWs (rowsD rows))∧Own1 w' w.heap.size A' rows.length c' rows∧Cur w' p A bs c∧Mid p (p+1) w w':=by
 have hpw:=h.lt;have hal:=Mid.alloc w (.cells #[] 34);have ho:=Own1.empty w;have h0:=h.mid hal (Or.inr rfl);go_enter Tryz.func225,Tryz.ntmps225
 go_wp2_with fail;with_reducible refine (l1BelowI 4 (by decide) (by decide) p A bs c _ hb hl h0).mono ?_
 rintro e w1 ⟨n0,rfl,hn0,h1,m1⟩;have ho1:=ho.midB m1 (by omega);have hm1:=hal.zero.trans m1;have hs1:=hm1.size;clear h0 hal m1 ho;go_wp2_with fail;go_loopw [5,6] (fun wv nv wr=>∃ (rows:List Row) (n:Nat) (Ax:Option Addr) (cx L:Nat),nv=.int .i64 n∧wv=.slice Ax L cx∧Hid (rows.length=L)∧L+n≤3∧Hid (DrWs (rowsD rows))∧Own1 wr w.heap.size Ax L cx rows∧Cur wr p A bs c∧Mid p (p+1) w wr)
  (fun _ nv _=>natV nv)
 case atStart=>exact ⟨[],n0,_,_,0,rfl,rfl,Lib.hid rfl,by omega,Lib.hid ⟨by simp [rowsD],by simp [rowsD]⟩,ho1,h1,hm1⟩
 case round =>
  obtain ⟨rows,n,Ax,cx,L,rfl,rfl,HL,hLm,HW,ho,hc,hm⟩:=hrel;have hs:=hm.size;by_cases hlt:0 < n
  ·go_wp2_with fail
   with_reducible refine (l2Of_any r hr1 hr3 5 (by decide) (by decide) p A bs c _ hb hl hc).mono ?_
   rintro e w2 ⟨Ay,cy,ys,rfl,⟨hyl,hyw,hyr⟩,oy,hc2,m2⟩;have hoy:=oy.2.1;have HY:=Lib.hid (show ys.length≤5∧LtW ys∧Rd ys from ⟨by omega,hyw,hyr⟩);have hm2:=hm.trans m2;have hs2:=hm2.size;clear hyl hyw hyr oy hc hm;go_wp2_with (at_builtin;refine wpList_pushB rfl _ _ rfl rfl ho m2 hpw ⟨Ay,cy,ys⟩ _ rfl hoy rfl (by omega) hs ?next)
   case next =>
    intro A3 c3 w3 ho3 hgr3;have m3:Mid w.heap.size w2.heap.size w2 w3:=Mid.of_grownRow (ho.midB m2 hpw).out hgr3;go_wp2_with fail;go_roundw
    case rel =>
     refine ⟨rows++[⟨Ay,cy,ys⟩],n - 1,A3,c3,L+1,by go_num,rfl,Lib.hid (by simp [HL.out]),by omega,Lib.hid ?_,ho3,hc2.mid m3 (Or.inl hpw),hm2.transNew m3 (Or.inl (Nat.le_refl _))⟩;have h1:=HW.out;have h2:=HL.out;rw [rowsD_append];refine ⟨by rw [List.length_append,rowsD_len];simp [rowsD];omega,fun x hx=>?_⟩;rcases List.mem_append.1 hx with hx | hx
     ·exact h1.2 x hx
     ·simp [rowsD] at hx
      rw [hx];exact HY.out
    case measure=>simp [natV];omega
  ·go_wp2_with fail
   go_ret;have hle:=HL.out;refine ⟨Ax,cx,rows,by rw [hle];rfl,⟨by rw [rowsD_len];omega,HW.out⟩,by rw [hle];exact ho,hc,hm⟩
end
section
open Go.RowKit
end
end Go.Proofs.YthampgpcajmopaaGreat
