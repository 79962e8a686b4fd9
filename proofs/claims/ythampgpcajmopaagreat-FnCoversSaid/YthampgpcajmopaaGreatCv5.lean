/- Contracts and lemmas of this seat, many texts in one: see the words ahead of each. No condition beyond those typed in each lemma. -/
import Derived.Test.YthampgpcajmopaaGreatCv4
import Derived.Test.YthampgpcajmopaaGreatCv2
import Derived.Test.YthampgpcajmopaaGreatCv3
import Derived.Test.YthampgpcajmopaaGreatCv1
import Derived.Deep.RegionHeld3

namespace Go.Proofs.YthampgpcajmopaaGreat
set_option linter.unusedVariables false
set_option linter.unusedSimpArgs false
set_option maxHeartbeats 40000000
set_option maxRecDepth 100000
section
open Go.RowKit
theorem IsGr.nat {r s:Int} {es:List Ed} (h:IsGr r s es):∃ k n:Nat,r=k∧s=n:=by
 have h1:=h.rank;have h2:=h.size;exact ⟨r.toNat,s.toNat,by omega,by omega⟩
theorem impl_IsCore (r s:Int) (A:Option Addr) (es:List Ed) (c:Nat) (w:World) (lo hi:Nat) (hr:RG w lo hi A es) (hl:es.length≤1048576) (hcl:es.length≤c) (b:Bool) (hb:b=true↔IsCor r s es) :
  Calls Tryz.prog 88 #[graV r s A es.length c] w fun e w'=>e=.returned (.bool b)∧Mid 0 0 w w':=by
 have HB:=Lib.hid hb;clear hb;have hm0:Mid 0 0 w (w.alloc (.cells #[.int .i64 r,.int .i64 s,.slice A es.length c] 26)):=Mid.alloc _ _;have b0:=Box.new w #[.int .i64 r,.int .i64 s,.slice A es.length c] 26;by_cases hf:IsFol r s es
 ·obtain ⟨r,n,rfl,rfl⟩:=hf.gr.nat
  have hn1:0 < n:=by have:=hf.gr.size;omega
  have HF:=Lib.hid hf;obtain ⟨T,hT⟩:∃ T,trimA 40 ((n:Int),es)=T:=⟨_,rfl⟩
  have HTS:Hid (T.1=n↔leaf n es=none):=Lib.hid (by rw [← hT];exact trimA_same (g:=((n:Int),es)) (by omega));have hTg:IsGr r T.1 T.2:=by rw [← hT];exact trimA_gr 40 (g:=((n:Int),es)) hf.gr
  obtain ⟨tr,tn, -,htn⟩:=hTg.nat;obtain ⟨ts,te⟩:=T;simp only at htn HTS;subst htn;have htl:=hTg.len;have HTR:=Lib.hid hT;clear hf hT hTg;have hTRIM:=fun W h=>impl_TrimGraph r n A es c W lo hi h HF.out.gr;simp only [HTR.out] at hTRIM;have HTRIM:=Lib.hid hTRIM;clear hTRIM HTR;go_enter Tryz.func88,Tryz.ntmps88
  go_wp2_with fail;with_reducible refine (impl_IsFolded r n A es c _ _ _ (hr.mid hm0 oZl) hl hcl true (iff_of_true rfl HF.out)).mono ?_
  rintro en w1 ⟨rfl,hm1⟩;replace b0:=b0.mid hm1 oZr;replace hm0:=hm0.trans hm1;have p0:=b0.cell 0 rfl;have p1:=b0.cell 1 rfl;have p2:=b0.cell 2 rfl;go_wp2_with fail;with_reducible refine (HTRIM.out _ (hr.mid hm0 oZl)).mono ?_
  rintro en w2 ⟨A1,c1,Al,nl,cl,rfl,hog,hm2⟩;replace b0:=b0.mid hm2 oZr;replace hm0:=hm0.trans hm2;have hal:=Mid.alloc w2 (.cells #[.int .i64 r,.int .i64 tn,.slice A1 te.length c1] 26);have bt:=Box.new w2 #[.int .i64 r,.int .i64 tn,.slice A1 te.length c1] 26;replace b0:=b0.mid hal oZr;replace hm0:=hm0.trans hal;clear p0 p1 p2 HTRIM;go_wp2_with fail;generalize w2.alloc (.cells #[.int .i64 r,.int .i64 tn,.slice A1 te.length c1] 26)=w3 at b0 bt hm0 ⊢;by_cases hts:(tn:Int)=n
  ·have hlf:=HTS.out.1 hts
   obtain rfl:tn=n:=by omega
   obtain ⟨C,hC⟩:∃ C,canonG r ((tn:Int),es)=C:=⟨_,rfl⟩
   have hCg:IsGr r C.1 C.2:=by rw [← hC];exact canonG_gr (g:=((tn:Int),es)) HF.out.gr
   have HB2:Hid (b=true↔(r:Int)=r∧C.1=tn∧C.2=es):=Lib.hid (by
    rw [HB.out];constructor
    ·intro h
     have h1:=h.canon;rw [hC] at h1;exact ⟨rfl,by rw [h1],by rw [h1]⟩
    ·rintro ⟨-,h1,h2⟩
     exact ⟨HF.out,hlf,by rw [hC];exact Prod.ext h1 h2⟩)
   have hcl2:=hCg.len;have hmd:=Mid.drew1 w3;replace b0:=b0.mid hmd oZr;replace bt:=bt.mid hmd oZr;replace hm0:=hm0.trans hmd;have p0:=b0.cell 0 rfl;have p1:=b0.cell 1 rfl;have p2:=b0.cell 2 rfl;have q1:=bt.cell 1 rfl;have hCAN:=fun W h=>impl_CanonicalGraph r tn A es c W lo hi h hcl HF.out.gr;simp only [hC] at hCAN;have HCAN:=Lib.hid hCAN;clear hCAN hC hCg HB hlf HTS hts hmd;refine wp_region_T (S:=(fun w'=>w'.cell? ⟨w.heap.size,0,none⟩=some (.int .i64 r)∧w'.cell? ⟨w.heap.size,1,none⟩=some (.int .i64 tn)∧w'.cell? ⟨w.heap.size,2,none⟩=some (.slice A es.length c)∧w'.cell? ⟨w2.heap.size,1,none⟩=some (.int .i64 tn))) 11 (by kernel_rfl) ⟨p0,p1,p2,q1⟩ ?_;generalize World.drew w3=wz at b0 bt hm0 p0 p1 p2 q1 ⊢;have hS:wz.cell? ⟨w.heap.size,0,none⟩=some (.int .i64 r)∧wz.cell? ⟨w.heap.size,1,none⟩=some (.int .i64 tn)∧wz.cell? ⟨w.heap.size,2,none⟩=some (.slice A es.length c)∧wz.cell? ⟨w2.heap.size,1,none⟩=some (.int .i64 tn):=⟨p0,p1,p2,q1⟩
   refine tkT 0 rfl hS ?_;try simp only [Act.put,zs1,zs2,zs3,zs4,zs5,zs6]
   refine tkT 1 rfl hS ?_;try simp only [Act.put,zs1,zs2,zs3,zs4,zs5,zs6]
   refine tkT 2 rfl hS ?_;try simp only [Act.put,zs1,zs2,zs3,zs4,zs5,zs6]
   refine tkT 3 rfl hS ?_;try simp only [Act.put,zs1,zs2,zs3,zs4,zs5,zs6]
   refine tkT 4 rfl hS ?_;try simp only [Act.put,zs1,zs2,zs3,zs4,zs5,zs6]
   refine tkT 5 rfl hS ?_;try simp only [Act.put,zs1,zs2,zs3,zs4,zs5,zs6]
   refine tkT 6 rfl hS ?_;try simp only [Act.put,zs1,zs2,zs3,zs4,zs5,zs6]
   refine tkT 8 rfl hS ?_;try simp only [Act.put,zs1,zs2,zs3,zs4,zs5,zs6]
   refine rdT 7 rfl (fun K hK=>?_)
   (go_simp;refine (HCAN.out _ (hr.mid hm0 oZl)).mono ?_;rintro en w4 ⟨A4,c4,rfl,hog4,hm4⟩;have b0':=b0.mid hm4 oZr;have bt':=bt.mid hm4 oZr;go_wp2_with fail)
   refine hK.out _ _ (Or.inr ⟨b0'.cell 0 rfl,b0'.cell 1 rfl,b0'.cell 2 rfl,bt'.cell 1 rfl⟩) (fun _=>?_);clear hK K;try simp only [Act.put,zs1,zs2,zs3,zs4,zs5,zs6]
   replace hm0:=hm0.trans hm4;have hE:=impl_EqualGraphs r C.1 A4 C.2 c4 r tn A es c w4 _ _ _ _ hog4.rg (hr.mid hm0 oZl) (by omega) hl b (by have h:=HB2.out;simpa using h);have HE:=Lib.hid hE;clear hS p0 p1 p2 q1 b0 bt HCAN HB2 hE hm4;refine rdT 9 rfl (fun K hK=>?_)
   (go_simp;refine HE.out.mono ?_;rintro en w5 ⟨rfl,hm5⟩;have b0:=b0'.mid hm5 oZr;have bt:=bt'.mid hm5 oZr;go_wp2_with fail)
   refine hK.out _ _ (Or.inr ⟨b0.cell 0 rfl,b0.cell 1 rfl,b0.cell 2 rfl,bt.cell 1 rfl⟩) (fun _=>?_);clear hK K;try simp only [Act.put,zs1,zs2,zs3,zs4,zs5,zs6]
   have hS2:w5.cell? ⟨w.heap.size,0,none⟩=some (.int .i64 r)∧w5.cell? ⟨w.heap.size,1,none⟩=some (.int .i64 tn)∧w5.cell? ⟨w.heap.size,2,none⟩=some (.slice A es.length c)∧w5.cell? ⟨w2.heap.size,1,none⟩=some (.int .i64 tn):=⟨b0.cell 0 rfl,b0.cell 1 rfl,b0.cell 2 rfl,bt.cell 1 rfl⟩
   have hmm:=hm0.trans hm5;clear HE b0' bt';refine tkT 10 rfl hS2 ?_;try simp only [Act.put,zs1,zs2,zs3,zs4,zs5,zs6]
   refine rdT 11 rfl (fun K hK=>?_)
   (go_simp)
   refine hK.out _ _ (Or.inl rfl) (fun _=>?_);clear hK K;try simp only [Act.put,zs1,zs2,zs3,zs4,zs5,zs6]
   refine wpAnyT_done (by kernel_rfl) ?_ _;go_wp2_with fail;go_ret;exact ⟨rfl,hmm⟩
  ·obtain rfl:b=false:=bool_no HB.out fun h=>hts (HTS.out.2 h.leaf)
   have d1:((tn:Int) == (n:Int))=false:=by simpa only [beq_eq_false_iff_ne] using hts
   have d2:¬ tn=n:=fun h=>hts (by rw [h]);have u0:=wg_cell b0.1 (b0.cell 0 rfl);have u1:=wg_cell b0.1 (b0.cell 1 rfl);have u2:=wg_cell b0.1 (b0.cell 2 rfl);have v1:=wg_cell bt.1 (bt.cell 1 rfl);clear HB HTS hts;refine wp_region_quiet_wg (by kernel_rfl) (by kernel_rfl) ?_;repeat
    (with_reducible refine wpQuiet_step (fun K hK=>?_))
    go_simp
    first
     | ((with_reducible refine hK _ ?_);clear hK K)
     | (rw [if_neg (by decide)];(with_reducible refine hK _ ?_);clear hK K)
     | (apply Exists.intro;refine ⟨fun _=>?_,hK _ ?_⟩;(fail);clear hK K)
   with_reducible refine wpQuiet_nil ?_
   intro _ hw';obtain ⟨⟨nq,osq⟩,hw''⟩:=hw';subst hw'';go_wp2_with fail;go_ret;exact ⟨rfl,hm0.trans (Mid.ofWg w3 nq osq)⟩
 ·obtain rfl:b=false:=bool_no HB.out fun h=>hf h.fol
  have HF:=Lib.hid hf;clear hf HB;go_enter Tryz.func88,Tryz.ntmps88
  go_wp2_with fail;with_reducible refine (impl_IsFolded r s A es c _ _ _ (hr.mid hm0 oZl) hl hcl false (iff_of_false Bool.false_ne_true HF.out)).mono ?_
  rintro en w1 ⟨rfl,hm1⟩;go_wp2_with fail;go_ret;exact ⟨rfl,hm0.trans hm1⟩
theorem spec_IsCore (r s:Int) (A:Option Addr) (es:List Ed) (c:Nat) (w:World) (lo hi:Nat) (hr:RG w lo hi A es) (hl:es.length≤1048576) (b:Bool) (hb:b=true↔IsCor r s es) :
  Calls Tryz.prog 166 #[graV r s A es.length c] w fun e w'=>e=.returned (.bool b)∧Mid 0 0 w w':=by
 have HB:=Lib.hid hb;clear hb;have hm0:Mid 0 0 w (w.alloc (.cells #[.int .i64 r,.int .i64 s,.slice A es.length c] 26)):=Mid.alloc _ _;have b0:=Box.new w #[.int .i64 r,.int .i64 s,.slice A es.length c] 26;by_cases hf:IsFol r s es
 ·obtain ⟨r,n,rfl,rfl⟩:=hf.gr.nat
  have HF:=Lib.hid hf;clear hf;have hFol:=fun W h=>spec_IsFolded r n A es c W lo hi h hl true (iff_of_true rfl HF.out);have hLeaf:=fun W h=>spec_l8Leaf r n A es c W lo hi h HF.out.gr;obtain ⟨lf,hlf⟩:∃ lf,leafI n es=lf:=⟨_,rfl⟩
  have HLF:=Lib.hid hlf;simp only [hlf] at hLeaf;clear hlf;have HFol:=Lib.hid hFol;have HLeaf:=Lib.hid hLeaf;clear hFol hLeaf;by_cases hln:leaf n es=none
  ·have hlf0:lf = -1:=by rw [← HLF.out,leafI_none hln]
   subst hlf0;obtain ⟨C,hC⟩:∃ C,canonG r ((n:Int),es)=C:=⟨_,rfl⟩
   have hCg:IsGr r C.1 C.2:=by rw [← hC];exact canonG_gr (g:=((n:Int),es)) HF.out.gr
   have HB2:Hid (b=true↔(r:Int)=r∧C.1=n∧C.2=es):=Lib.hid (by
    rw [HB.out];constructor
    ·intro h
     have h1:=h.canon;rw [hC] at h1;exact ⟨rfl,by rw [h1],by rw [h1]⟩
    ·rintro ⟨-,h1,h2⟩
     exact ⟨HF.out,hln,by rw [hC];exact Prod.ext h1 h2⟩)
   have hcl2:=hCg.len;have hCAN:=fun W h=>spec_CanonicalGraph r n A es c W lo hi h HF.out.gr;simp only [hC] at hCAN;have HCAN:=Lib.hid hCAN;clear hCAN hC hCg HB hln HLF;go_enter Tryz.func166,Tryz.ntmps166
   go_wp2_with fail;generalize w.alloc (.cells #[.int .i64 r,.int .i64 n,.slice A es.length c] 26)=w3 at b0 hm0 ⊢;have hmd:=Mid.drew1 w3;replace b0:=b0.mid hmd oZr;replace hm0:=hm0.trans hmd;have p0:=b0.cell 0 rfl;have p1:=b0.cell 1 rfl;have p2:=b0.cell 2 rfl;clear hmd;refine wp_region_T (S:=(fun w'=>w'.cell? ⟨w.heap.size,0,none⟩=some (.int .i64 r)∧w'.cell? ⟨w.heap.size,1,none⟩=some (.int .i64 n)∧w'.cell? ⟨w.heap.size,2,none⟩=some (.slice A es.length c))) 13 (by kernel_rfl) ⟨p0,p1,p2⟩ ?_;generalize World.drew w3=wz at b0 hm0 p0 p1 p2 ⊢;have hS:wz.cell? ⟨w.heap.size,0,none⟩=some (.int .i64 r)∧wz.cell? ⟨w.heap.size,1,none⟩=some (.int .i64 n)∧wz.cell? ⟨w.heap.size,2,none⟩=some (.slice A es.length c):=⟨p0,p1,p2⟩
   refine tkT 0 rfl hS ?_;try simp only [Act.put,zs1,zs2,zs3,zs4,zs5,zs6]
   refine rdT 1 rfl (fun K hK=>?_)
   (go_simp;refine (HFol.out _ (hr.mid hm0 oZl)).mono ?_;rintro en w4 ⟨rfl,hm4⟩;have b1:=b0.mid hm4 oZr;go_wp2_with fail)
   refine hK.out _ _ (Or.inr ⟨b1.cell 0 rfl,b1.cell 1 rfl,b1.cell 2 rfl⟩) (fun _=>?_);clear hK K;try simp only [Act.put,zs1,zs2,zs3,zs4,zs5,zs6]
   replace hm0:=hm0.trans hm4;have hS4:w4.cell? ⟨w.heap.size,0,none⟩=some (.int .i64 r)∧w4.cell? ⟨w.heap.size,1,none⟩=some (.int .i64 n)∧w4.cell? ⟨w.heap.size,2,none⟩=some (.slice A es.length c):=⟨b1.cell 0 rfl,b1.cell 1 rfl,b1.cell 2 rfl⟩
   clear b0 hS p0 p1 p2 hm4 HFol;refine tkT 2 rfl hS4 ?_;try simp only [Act.put,zs1,zs2,zs3,zs4,zs5,zs6]
   refine tkT 3 rfl hS4 ?_;try simp only [Act.put,zs1,zs2,zs3,zs4,zs5,zs6]
   refine rdT 4 rfl (fun K hK=>?_)
   (go_simp;refine (HLeaf.out _ (hr.mid hm0 oZl)).mono ?_;rintro en w5 ⟨rfl,hm5⟩;have b2:=b1.mid hm5 oZr;go_wp2_with fail)
   refine hK.out _ _ (Or.inr ⟨b2.cell 0 rfl,b2.cell 1 rfl,b2.cell 2 rfl⟩) (fun _=>?_);clear hK K;try simp only [Act.put,zs1,zs2,zs3,zs4,zs5,zs6]
   replace hm0:=hm0.trans hm5;have hS5:w5.cell? ⟨w.heap.size,0,none⟩=some (.int .i64 r)∧w5.cell? ⟨w.heap.size,1,none⟩=some (.int .i64 n)∧w5.cell? ⟨w.heap.size,2,none⟩=some (.slice A es.length c):=⟨b2.cell 0 rfl,b2.cell 1 rfl,b2.cell 2 rfl⟩
   clear b1 hS4 hm5 HLeaf;refine tkT 5 rfl hS5 ?_;try simp only [Act.put,zs1,zs2,zs3,zs4,zs5,zs6]
   refine tkT 6 rfl hS5 ?_;try simp only [Act.put,zs1,zs2,zs3,zs4,zs5,zs6]
   refine tkT 7 rfl hS5 ?_;try simp only [Act.put,zs1,zs2,zs3,zs4,zs5,zs6]
   refine tkT 8 rfl hS5 ?_;try simp only [Act.put,zs1,zs2,zs3,zs4,zs5,zs6]
   refine tkT 10 rfl hS5 ?_;try simp only [Act.put,zs1,zs2,zs3,zs4,zs5,zs6]
   refine rdT 9 rfl (fun K hK=>?_)
   (go_simp;refine (HCAN.out _ (hr.mid hm0 oZl)).mono ?_;rintro en w6 ⟨A6,c6,rfl,hog6,hm6⟩;have b3:=b2.mid hm6 oZr;go_wp2_with fail)
   refine hK.out _ _ (Or.inr ⟨b3.cell 0 rfl,b3.cell 1 rfl,b3.cell 2 rfl⟩) (fun _=>?_);clear hK K;try simp only [Act.put,zs1,zs2,zs3,zs4,zs5,zs6]
   replace hm0:=hm0.trans hm6;have hE:=spec_EqualGraphs r C.1 A6 C.2 c6 r n A es c w6 _ _ _ _ hog6.rg (hr.mid hm0 oZl) (by omega) hl b (by have h:=HB2.out;simpa using h);have HE:=Lib.hid hE;clear hS5 b2 HCAN HB2 hE hm6;refine rdT 11 rfl (fun K hK=>?_)
   (go_simp;refine HE.out.mono ?_;rintro en w7 ⟨rfl,hm7⟩;have b4:=b3.mid hm7 oZr;go_wp2_with fail)
   refine hK.out _ _ (Or.inr ⟨b4.cell 0 rfl,b4.cell 1 rfl,b4.cell 2 rfl⟩) (fun _=>?_);clear hK K;try simp only [Act.put,zs1,zs2,zs3,zs4,zs5,zs6]
   have hS7:w7.cell? ⟨w.heap.size,0,none⟩=some (.int .i64 r)∧w7.cell? ⟨w.heap.size,1,none⟩=some (.int .i64 n)∧w7.cell? ⟨w.heap.size,2,none⟩=some (.slice A es.length c):=⟨b4.cell 0 rfl,b4.cell 1 rfl,b4.cell 2 rfl⟩
   have hmm:=hm0.trans hm7;clear HE b3;refine tkT 12 rfl hS7 ?_;try simp only [Act.put,zs1,zs2,zs3,zs4,zs5,zs6]
   refine rdT 13 rfl (fun K hK=>?_)
   (go_simp)
   refine hK.out _ _ (Or.inl rfl) (fun _=>?_);clear hK K;try simp only [Act.put,zs1,zs2,zs3,zs4,zs5,zs6]
   refine wpAnyT_done (by kernel_rfl) ?_ _;go_wp2_with fail;go_ret;exact ⟨rfl,hmm⟩
  ·obtain rfl:b=false:=bool_no HB.out fun h=>hln h.leaf
   obtain ⟨v,hv⟩:∃ v:Nat,leaf n es=some v:=by
    cases h:leaf n es with
    | none=>exact absurd h hln
    | some v=>exact ⟨v,rfl⟩
   have hlf0:lf=v:=by rw [← HLF.out,leafI_some hv]
   subst hlf0;have d1:decide ((v:Int) < 0)=false:=by simp
   clear HB hln hv HLF;go_enter Tryz.func166,Tryz.ntmps166
   go_wp2_with fail;generalize w.alloc (.cells #[.int .i64 r,.int .i64 n,.slice A es.length c] 26)=w3 at b0 hm0 ⊢;have u0:=wg_cell b0.1 (b0.cell 0 rfl);have u1:=wg_cell b0.1 (b0.cell 1 rfl);have u2:=wg_cell b0.1 (b0.cell 2 rfl);have hA1:=fun m os=>HFol.out (wg w3 m os) (hr.mid (hm0.trans (Mid.ofWg w3 m os)) oZl);have hA2:=fun m os=>HLeaf.out (wg w3 m os) (hr.mid (hm0.trans (Mid.ofWg w3 m os)) oZl);refine wp_region_quiet_wg (by kernel_rfl) (by kernel_rfl) ?_;repeat
    (with_reducible refine wpQuiet_step (fun K hK=>?_))
    go_simp
    first
     | ((with_reducible refine hK _ ?_);clear hK K)
     | (rw [if_neg (by decide)];(with_reducible refine hK _ ?_);clear hK K)
     | (apply Exists.intro;refine ⟨fun _=>?_,hK _ ?_⟩;((first | (go_at_call 130;exact Calls.wg_of (hA1 _ _)) | (go_at_call 205;exact Calls.wg_of (hA2 _ _))));clear hK K)
   with_reducible refine wpQuiet_nil ?_
   intro _ hw';obtain ⟨⟨nq,osq⟩,hw''⟩:=hw';subst hw'';go_wp2_with fail;go_ret;exact ⟨rfl,hm0.trans (Mid.ofWg w3 nq osq)⟩
 ·obtain rfl:b=false:=bool_no HB.out fun h=>hf h.fol
  have hFol:=fun W h=>spec_IsFolded r s A es c W lo hi h hl false (iff_of_false Bool.false_ne_true hf);have HFol:=Lib.hid hFol;clear hf HB hFol;go_enter Tryz.func166,Tryz.ntmps166
  go_wp2_with fail;generalize w.alloc (.cells #[.int .i64 r,.int .i64 s,.slice A es.length c] 26)=w3 at b0 hm0 ⊢;have u0:=wg_cell b0.1 (b0.cell 0 rfl);have u1:=wg_cell b0.1 (b0.cell 1 rfl);have u2:=wg_cell b0.1 (b0.cell 2 rfl);have hA1:=fun m os=>HFol.out (wg w3 m os) (hr.mid (hm0.trans (Mid.ofWg w3 m os)) oZl);refine wp_region_quiet_wg (by kernel_rfl) (by kernel_rfl) ?_;repeat
   (with_reducible refine wpQuiet_step (fun K hK=>?_))
   go_simp
   first
    | ((with_reducible refine hK _ ?_);clear hK K)
    | (rw [if_neg (by decide)];(with_reducible refine hK _ ?_);clear hK K)
    | (apply Exists.intro;refine ⟨fun _=>?_,hK _ ?_⟩;((go_at_call 130;exact Calls.wg_of (hA1 _ _)));clear hK K)
  with_reducible refine wpQuiet_nil ?_
  intro _ hw';obtain ⟨⟨nq,osq⟩,hw''⟩:=hw';subst hw'';go_wp2_with fail;go_ret;exact ⟨rfl,hm0.trans (Mid.ofWg w3 nq osq)⟩
theorem spec_IsSubgroup (r s:Int) (A:Option Addr) (es:List Ed) (c:Nat) (w:World) (lo hi:Nat) (hr:RG w lo hi A es) (hl:es.length≤1048576) (b:Bool) (hb:b=true↔IsCor r s es) :
  Calls Tryz.prog 90 #[graV r s A es.length c] w fun e w'=>e=.returned (.bool b)∧Mid 0 0 w w':=by
 have hm0:Mid 0 0 w (w.alloc (.cells #[.int .i64 r,.int .i64 s,.slice A es.length c] 26)):=Mid.alloc _ _;have HB:=Lib.hid hb;clear hb;go_enter Tryz.func90,Tryz.ntmps90
 go_wp2_with fail;with_reducible refine (spec_IsCore r s A es c _ _ _ (hr.mid hm0 oZl) hl b HB.out).mono ?_
 rintro en w1 ⟨rfl,hm1⟩;go_wp2_with fail;go_ret;exact ⟨rfl,hm0.trans hm1⟩
open Classical in
noncomputable def rankI (r s:Int) (es:List Ed):Int:=if IsCor r s es then (es.length:Int) - s+1 else -1
theorem impl_RankOf (r s:Int) (A:Option Addr) (es:List Ed) (c:Nat) (w:World) (lo hi:Nat) (hr:RG w lo hi A es) (hl:es.length≤1048576) (hcl:es.length≤c) :
  Calls Tryz.prog 18 #[graV r s A es.length c] w fun e w'=>e=.returned (.int .i64 (rankI r s es))∧Mid 0 0 w w':=by
 have hm0:Mid 0 0 w (w.alloc (.cells #[.int .i64 r,.int .i64 s,.slice A es.length c] 26)):=Mid.alloc _ _;have b0:=Box.new w #[.int .i64 r,.int .i64 s,.slice A es.length c] 26;by_cases h:IsCor r s es
 ·have HR:Hid (rankI r s es=(es.length:Int) - s+1):=Lib.hid (by rw [rankI,if_pos h])
  have hsz:=h.fol.gr.size;have HC:=Lib.hid h;clear h;go_enter Tryz.func18,Tryz.ntmps18
  go_wp2_with fail;with_reducible refine (impl_IsCore r s A es c _ _ _ (hr.mid hm0 oZl) hl hcl true (iff_of_true rfl HC.out)).mono ?_
  rintro en w1 ⟨rfl,hm1⟩;replace b0:=b0.mid hm1 oZr;replace hm0:=hm0.trans hm1;have p0:=b0.cell 0 rfl;have p1:=b0.cell 1 rfl;have p2:=b0.cell 2 rfl;go_wp2_with fail;go_ret;exact ⟨by rw [HR.out];rfl,hm0⟩
 ·have HR:Hid (rankI r s es = -1):=Lib.hid (by rw [rankI,if_neg h])
  have HC:=Lib.hid h;clear h;go_enter Tryz.func18,Tryz.ntmps18
  go_wp2_with fail;with_reducible refine (impl_IsCore r s A es c _ _ _ (hr.mid hm0 oZl) hl hcl false (iff_of_false Bool.false_ne_true HC.out)).mono ?_
  rintro en w1 ⟨rfl,hm1⟩;go_wp2_with fail;go_ret;exact ⟨by rw [HR.out];rfl,hm0.trans hm1⟩
theorem spec_RankOf (r s:Int) (A:Option Addr) (es:List Ed) (c:Nat) (w:World) (lo hi:Nat) (hr:RG w lo hi A es) (hl:es.length≤1048576) :
  Calls Tryz.prog 19 #[graV r s A es.length c] w fun e w'=>e=.returned (.int .i64 (rankI r s es))∧Mid 0 0 w w':=by
 have hm0:Mid 0 0 w (w.alloc (.cells #[.int .i64 r,.int .i64 s,.slice A es.length c] 26)):=Mid.alloc _ _;have b0:=Box.new w #[.int .i64 r,.int .i64 s,.slice A es.length c] 26;by_cases h:IsCor r s es
 ·have HR:Hid (rankI r s es=(es.length:Int) - s+1):=Lib.hid (by rw [rankI,if_pos h])
  have hsz:=h.fol.gr.size;have HC:=Lib.hid h;clear h;go_enter Tryz.func19,Tryz.ntmps19
  go_wp2_with fail;with_reducible refine (spec_IsSubgroup r s A es c _ _ _ (hr.mid hm0 oZl) hl true (iff_of_true rfl HC.out)).mono ?_
  rintro en w1 ⟨rfl,hm1⟩;replace b0:=b0.mid hm1 oZr;replace hm0:=hm0.trans hm1;have p0:=b0.cell 0 rfl;have p1:=b0.cell 1 rfl;have p2:=b0.cell 2 rfl;go_wp2_with fail;go_ret;exact ⟨by rw [HR.out];rfl,hm0⟩
 ·have HR:Hid (rankI r s es = -1):=Lib.hid (by rw [rankI,if_neg h])
  have HC:=Lib.hid h;clear h;go_enter Tryz.func19,Tryz.ntmps19
  go_wp2_with fail;with_reducible refine (spec_IsSubgroup r s A es c _ _ _ (hr.mid hm0 oZl) hl false (iff_of_false Bool.false_ne_true HC.out)).mono ?_
  rintro en w1 ⟨rfl,hm1⟩;go_wp2_with fail;go_ret;exact ⟨by rw [HR.out];rfl,hm0.trans hm1⟩
end
section
open Go.RowKit
def Full (r n:Nat) (es:List Ed):Prop:=∀ v:Nat,v < n→∀ x∈lets r,0≤nextV es v x
def FullTo (r:Nat) (es:List Ed) (v j:Nat):Prop:=(∀ u:Nat,u < v→∀ x∈lets r,0≤nextV es u x)∧∀ x∈(lets r).take j,0≤nextV es v x
theorem FullTo.zero (r:Nat) (es:List Ed):FullTo r es 0 0:=⟨fun u h=>absurd h (Nat.not_lt_zero _),by simp⟩
theorem FullTo.step {r:Nat} {es:List Ed} {v j:Nat} {x:Int} (hx:(lets r)[j]?=some x):FullTo r es v (j+1)↔FullTo r es v j∧0≤nextV es v x:=by
 unfold FullTo;rw [take_snocI hx];constructor
 ·rintro ⟨h1,h2⟩
  exact ⟨⟨h1,fun y hy=>h2 y (List.mem_append.2 (.inl hy))⟩,h2 x (by simp)⟩
 ·rintro ⟨⟨h1,h2⟩,h3⟩
  refine ⟨h1,fun y hy=>?_⟩;rcases List.mem_append.1 hy with hy | hy
  ·exact h2 y hy
  ·simp at hy;subst hy;exact h3
theorem FullTo.row {r:Nat} {es:List Ed} {v:Nat}:FullTo r es v (lets r).length↔FullTo r es (v+1) 0:=by
 unfold FullTo;rw [List.take_length];constructor
 ·rintro ⟨h1,h2⟩
  refine ⟨fun u hu x hx=>?_,by simp⟩;by_cases h:u < v
  ·exact h1 u h x hx
  ·obtain rfl:u=v:=by omega
   exact h2 x hx
 ·rintro ⟨h1, -⟩
  exact ⟨fun u hu x hx=>h1 u (by omega) x hx,fun x hx=>h1 v (by omega) x hx⟩
theorem FullTo.all {r n:Nat} {es:List Ed}:FullTo r es n 0↔Full r n es:=⟨fun h=>h.1,fun h=>⟨h,by simp⟩⟩
theorem impl_lettersO (n:Nat) (w:World) (hn:n≤1000) :
  Calls Tryz.prog 134 #[.int .i64 n] w fun e w'=>∃ A c,e=.returned (.slice A (lets n).length c)∧w'.ownsRow w.heap.size 3 1 (.slice A (lets n).length c) (lets n).length (ints (lets n))∧Mid 0 0 w w':=by
 have hm0:Mid 0 0 w (w.alloc (.cells #[] 3)):=Mid.alloc _ _;have O0:=owns_empty w 3 1;go_enter Tryz.func134,Tryz.ntmps134
 go_wp2_with fail;go_loopw [3,4] (fun out i wr=>∃ (k:Nat) (A1:Option Addr) (c1 n1:Nat),k≤n∧i=.int .i64 ((k:Int)+1)∧out=.slice A1 n1 c1∧Hid ((lets k).length=n1) ∧
   wr.ownsRow w.heap.size 3 1 (.slice A1 n1 c1) n1 (ints (lets k))∧Mid 0 0 w wr∧w.heap.size≤wr.heap.size) (fun _ i _=>(n+1 - intOf i).toNat)
 case atStart=>exact ⟨0,_,0,0,Nat.zero_le _,rfl,rfl,Lib.hid rfl,O0,hm0,hm0.size⟩
 case round =>
  obtain ⟨k,A1,c1,n1,hk,rfl,rfl,HN,hown,hm,hsz⟩:=hrel;have hn1:n1≤2000:=by have h1:=lets_len k;have h2:=HN.out;omega
  by_cases hlt:k < n
  ·have hkn:(k:Int)+1≤n:=by omega
   have hk0:(0:Int)≤(k:Int):=by omega
   have b4:wrap64 (-((k:Int)+1)) = -((k:Int)+1):=by unfold wrap64;omega
   have HW:=Lib.hid hown;clear hown;go_wp2_with (at_builtin;refine wpList_push rfl _ _ 34 rfl w.heap.size 3 (.int .i64 0) 1 8 undSI infoI rfl (by decide) _ _ _ rfl HW.out 2 [.int .i64 ((k:Int)+1),.int .i64 (-((k:Int)+1))] rfl rfl ?c1 ?c2 ?c3 hsz ?next)
   case c1=>exact one_of_ints [(k:Int)+1, -((k:Int)+1)]
   case c2=>unfold maxLen;omega
   case c3=>omega
   case next =>
    intro v' w3 hown1 hgr _;obtain ⟨A3,c3,rfl, -, -⟩:=owns_shape hown1;have hm3:=Mid.of_grownRow HW.out hgr;go_wp2_with fail;go_roundw
    case rel =>
     refine ⟨k+1,A3,c3,n1+2,by omega,by go_num,rfl,Lib.hid (by have:=HN.out;simp [lets];omega),?_,hm.transNew hm3 (Or.inl (Nat.le_refl _)),Nat.le_trans hsz hm3.size⟩;rw [lets,ints_append];exact hown1
    case measure=>simp [intOf];omega
  ·obtain rfl:k=n:=by omega
   have hx:=HN.out;have hsz2:=hm.size;go_wp2_with fail;go_ret;exact ⟨_,_,(by rw [hx];rfl),(by rw [hx];exact hown),hm⟩
theorem spec_l5LettersO (n:Nat) (w:World) (hn:n≤1000) :
  Calls Tryz.prog 137 #[.int .i64 n] w fun e w'=>∃ A c,e=.returned (.slice A (lets n).length c)∧w'.ownsRow w.heap.size 3 1 (.slice A (lets n).length c) (lets n).length (ints (lets n))∧Mid 0 0 w w':=by
 have hm0:Mid 0 0 w (w.alloc (.cells #[] 3)):=Mid.alloc _ _;have O0:=owns_empty w 3 1;go_enter Tryz.func137,Tryz.ntmps137
 go_wp2_with fail;go_loopw [3,4] (fun out i wr=>∃ (k:Nat) (A1:Option Addr) (c1 n1:Nat),k≤n∧i=.int .i64 ((k:Int)+1)∧out=.slice A1 n1 c1∧Hid ((lets k).length=n1) ∧
   wr.ownsRow w.heap.size 3 1 (.slice A1 n1 c1) n1 (ints (lets k))∧Mid 0 0 w wr∧w.heap.size≤wr.heap.size) (fun _ i _=>(n+1 - intOf i).toNat)
 case atStart=>exact ⟨0,_,0,0,Nat.zero_le _,rfl,rfl,Lib.hid rfl,O0,hm0,hm0.size⟩
 case round =>
  obtain ⟨k,A1,c1,n1,hk,rfl,rfl,HN,hown,hm,hsz⟩:=hrel;have hn1:n1≤2000:=by have h1:=lets_len k;have h2:=HN.out;omega
  by_cases hlt:k < n
  ·have hkn:(k:Int)+1≤n:=by omega
   have hk0:(0:Int)≤(k:Int):=by omega
   have b4:wrap64 (-((k:Int)+1)) = -((k:Int)+1):=by unfold wrap64;omega
   have HW:=Lib.hid hown;clear hown;go_wp2_with (first | (at_builtin;refine wpList_pushI rfl _ _ rfl w.heap.size A1 n1 c1 (lets k) rfl HW.out ((k:Int)+1) rfl (by omega) hsz ?_;intro A2 c2 w2 hown2 hm2;have hsz2:=Nat.le_trans hsz hm2.size;have HW2:=Lib.hid hown2;clear hown2) | (at_builtin;refine wpList_pushI rfl _ _ rfl w.heap.size A2 (n1+1) c2 (lets k++[(k:Int)+1]) rfl HW2.out (-((k:Int)+1)) rfl (by omega) hsz2 ?_;intro A3 c3 w3 hown3 hm3))
   go_roundw
   case rel =>
    refine ⟨k+1,A3,c3,n1+1+1,by omega,by go_num,rfl,Lib.hid (by have:=HN.out;simp [lets];omega),?_,(hm.transNew hm2 (Or.inl (Nat.le_refl _))).transNew hm3 (Or.inl (Nat.le_refl _)),Nat.le_trans hsz2 hm3.size⟩;rw [List.append_assoc] at hown3;exact hown3
   case measure=>simp [intOf];omega
  ·obtain rfl:k=n:=by omega
   have hx:=HN.out;have hsz2:=hm.size;go_wp2_with fail;go_ret;exact ⟨_,_,(by rw [hx];rfl),(by rw [hx];exact hown),hm⟩
theorem impl_MissingSteps (r n:Nat) (A:Option Addr) (es:List Ed) (c:Nat) (w:World) (lo hi:Nat) (hr:RG w lo hi A es) (hcl:es.length≤c) (hf:IsFol r n es) :
  Calls Tryz.prog 139 #[graV r n A es.length c] w fun e w'=>∃ A1 n1 c1,e=.returned (.slice A1 n1 c1)∧(n1=0↔Full r n es)∧Mid 0 0 w w':=by
 have hg:=hf.gr;have hn40:n≤40:=by have:=hg.size;omega
 have hr3:r≤3:=by have:=hg.rank;omega
 have hl:=hg.len;have HGL:=Lib.hid (show ∀ e∈es,1≤e.l∧e.l≤3 from fun e he=>by have:=hg.all e he;unfold InG at this;omega);have HF:=Lib.hid hf;have hm0:Mid 0 0 w ((w.alloc (.cells #[.int .i64 r,.int .i64 n,.slice A es.length c] 26)).alloc (.cells #[] 68)):=(Mid.alloc _ _).trans (Mid.alloc _ _);have b0:=(Box.new w #[.int .i64 r,.int .i64 n,.slice A es.length c] 26).mid (Mid.alloc _ (.cells #[] 68)) oZr;have O0:=owns_empty (w.alloc (.cells #[.int .i64 r,.int .i64 n,.slice A es.length c] 26)) 68 3;rw [World.size_alloc] at O0;clear hf hg;go_enter Tryz.func139,Tryz.ntmps139
 go_wp2_with fail;with_reducible refine (impl_IsFolded r n A es c _ _ _ (hr.mid hm0 oZl) (by omega) hcl true (iff_of_true rfl HF.out)).mono ?_
 rintro en w1 ⟨rfl,hm1⟩;replace b0:=b0.mid hm1 oZr;replace O0:=owns_mid O0 hm1 oZl;replace hm0:=hm0.trans hm1;clear hm1;go_wp2_with fail;go_loopw [3,4] (fun out vv wr=>∃ (v:Nat) (A1:Option Addr) (n1 c1:Nat) (fs:List Ed),v≤n∧vv=.int .i64 v∧out=.slice A1 n1 c1∧n1≤6 * v∧Hid (n1=0↔FullTo r es v 0)∧wr.ownsRow (w.heap.size+1) 68 3 (.slice A1 n1 c1) n1 (ints (edI fs)) ∧
   Box wr w.heap.size [.int .i64 r,.int .i64 n,.slice A es.length c]∧Mid 0 0 w wr) (fun _ v _=>n - (intOf v).toNat)
 case atStart=>exact ⟨0,_,0,0,[],Nat.zero_le _,rfl,rfl,Nat.le_refl _,Lib.hid (iff_of_true rfl (FullTo.zero r es)),O0,b0,hm0⟩
 case round =>
  clear O0 b0 hm0;obtain ⟨wo,hwo⟩:∃ wo,wo=wr:=⟨_,rfl⟩
  subst hwo;obtain ⟨v,A1,n1,c1,fs,hv,rfl,rfl,hn1,HQ,hout,b0,hm⟩:=hrel;have p0:=b0.cell 0 rfl;have p1:=b0.cell 1 rfl;have p2:=b0.cell 2 rfl;by_cases hlt:v < n
  ·have hv3:(v:Int) < (n:Int):=by omega
   have hv0:(0:Int)≤(v:Int):=by omega
   go_wp2_with fail;with_reducible refine (impl_lettersO r _ (by omega)).mono ?_
   rintro en w4 ⟨A4,c4,rfl,hL4,hm4⟩;have hwo1:w.heap.size < wo.heap.size:=b0.1;replace b0:=b0.mid hm4 oZr;replace hout:=owns_mid hout hm4 oZl;replace hm:=hm.trans hm4;clear p0 p1 p2 hm4;have HLL:=Lib.hid (lets_len r);obtain ⟨LL,hLL⟩:∃ LL,(lets r).length=LL:=⟨_,rfl⟩
   have hLL6:LL≤6:=by have:=HLL.out;omega
   rw [hLL] at hL4 ⊢;have HLn:=Lib.hid hLL;clear hLL;go_wp2_with fail;go_loopw [3,22] (fun out jv wr=>∃ (j:Nat) (A1:Option Addr) (n1 c1:Nat) (fs:List Ed),j≤LL∧jv=.int .i64 j∧out=.slice A1 n1 c1∧n1≤6 * v+j∧Hid (n1=0↔FullTo r es v j)∧wr.ownsRow (w.heap.size+1) 68 3 (.slice A1 n1 c1) n1 (ints (edI fs)) ∧
     Hid (wr.ownsRow wo.heap.size 3 1 (.slice A4 LL c4) LL (ints (lets r)))∧Box wr w.heap.size [.int .i64 r,.int .i64 n,.slice A es.length c]∧Mid 0 0 w wr) (fun _ j _=>LL - (intOf j).toNat)
   case atStart=>exact ⟨0,A1,n1,c1,fs,Nat.zero_le _,rfl,rfl,hn1,HQ,hout,Lib.hid hL4,b0,hm⟩
   case round =>
    clear hout hL4 b0 hm HQ;obtain ⟨j,A1,n1,c1,fs,hj,rfl,rfl,hn1,HQ,hout,HL4,b0,hm⟩:=hrel;by_cases hlt2:j < LL
    ·obtain ⟨B4,o4,x,rfl,hB4,hx,hcx⟩:=(owns_rv HL4.out).at (k:=j) (by rw [HLn.out];exact hlt2)
     have hxm:=lets_le (List.mem_of_getElem? hx);have HST:=Lib.hid (FullTo.step (es:=es) (v:=v) hx);have hj1:(j:Int) < (LL:Int):=by omega
     have hj0:(0:Int)≤(j:Int):=by omega
     have hcs:=nextV_cases HF.out.gr.all (v:Int) x;have p0:=b0.cell 0 rfl;have p1:=b0.cell 1 rfl;have p2:=b0.cell 2 rfl;clear hx;go_wp2_with fail;with_reducible refine (impl_NextVertex r n A es c v x _ lo hi (hr.mid hm oZl) (by omega) HGL.out (by omega) (by omega)).mono ?_
     rintro en w6 ⟨rfl,hm6⟩;replace b0:=b0.mid hm6 oZr;replace hout:=owns_mid hout hm6 oZl;replace hm:=hm.trans hm6;have hL6:=Lib.hid (owns_mid HL4.out hm6 oZl);generalize htx:nextV es (v:Int) x=t at hcs ⊢;rw [htx] at HST;clear p0 p1 p2 hcx htx HL4 hm6;by_cases ht:t < 0
     ·have d1:decide (t < 0)=true:=by simpa using ht
      have HNF:Hid (n1+1=0↔FullTo r es v (j+1)):=Lib.hid (iff_of_false (by omega) fun h=>by have:=(HST.out.1 h).2;omega);have HO:=Lib.hid hout;have hsz:w.heap.size+1≤w6.heap.size:=b0.1;clear ht hcs hout;go_wp2_with (at_builtin;refine wpList_pushE2 rfl _ _ rfl (w.heap.size+1) A1 n1 c1 fs rfl HO.out ⟨v,x, -1⟩ rfl (by omega) hsz ?_;intro A9 c9 w9 ho9 hgr9 hat9)
      clear hat9;have hm9:=Mid.of_grownRow HO.out hgr9;have hL9:=hL6.out.kept hgr9 (owns_ne hL6.out HO.out (by decide));go_roundw
      case rel=>exact ⟨j+1,A9,n1+1,c9,_,by omega,by go_num,rfl,by omega,HNF,ho9,Lib.hid hL9,b0.mid hm9 (Or.inl (Nat.lt_succ_self _)),hm.transNew hm9 (Or.inl (Nat.le_succ _))⟩
      case measure=>simp [intOf];omega
     ·have d1:decide (t < 0)=false:=by simpa using ht
      have HNF:Hid (n1=0↔FullTo r es v (j+1)):=Lib.hid (HQ.out.trans ⟨fun h=>HST.out.2 ⟨h,by omega⟩,fun h=>(HST.out.1 h).1⟩);clear ht hcs;go_wp2_with fail;go_roundw
      case rel=>exact ⟨j+1,A1,n1,c1,fs,by omega,by go_num,rfl,by omega,HNF,hout,hL6,b0,hm⟩
      case measure=>simp [intOf];omega
    ·obtain rfl:j=LL:=by omega
     have HNF:Hid (n1=0↔FullTo r es (v+1) 0):=Lib.hid (by rw [HQ.out,← HLn.out];exact FullTo.row);go_wp2_with fail;go_roundw
     case rel=>exact ⟨v+1,A1,n1,c1,fs,by omega,by go_num,rfl,by omega,HNF,hout,b0,hm⟩
     case measure=>simp [intOf];omega
  ·obtain rfl:v=n:=by omega
   have hres:=HQ.out.trans FullTo.all;have HRES:=Lib.hid hres;clear hres;go_wp2_with fail;go_ret;exact ⟨_,n1,_,rfl,HRES.out,hm⟩
theorem spec_MissingSteps (r n:Nat) (A:Option Addr) (es:List Ed) (c:Nat) (w:World) (lo hi:Nat) (hr:RG w lo hi A es) (hf:IsFol r n es) :
  Calls Tryz.prog 54 #[graV r n A es.length c] w fun e w'=>∃ A1 n1 c1,e=.returned (.slice A1 n1 c1)∧(n1=0↔Full r n es)∧Mid 0 0 w w':=by
 have hg:=hf.gr;have hn40:n≤40:=by have:=hg.size;omega
 have hr3:r≤3:=by have:=hg.rank;omega
 have hl:=hg.len;have HGL:=Lib.hid (show ∀ e∈es,1≤e.l∧e.l≤3 from fun e he=>by have:=hg.all e he;unfold InG at this;omega);have HF:=Lib.hid hf;have hm0:Mid 0 0 w ((w.alloc (.cells #[.int .i64 r,.int .i64 n,.slice A es.length c] 26)).alloc (.cells #[] 68)):=(Mid.alloc _ _).trans (Mid.alloc _ _);have b0:=(Box.new w #[.int .i64 r,.int .i64 n,.slice A es.length c] 26).mid (Mid.alloc _ (.cells #[] 68)) oZr;have O0:=owns_empty (w.alloc (.cells #[.int .i64 r,.int .i64 n,.slice A es.length c] 26)) 68 3;rw [World.size_alloc] at O0;clear hf hg;go_enter Tryz.func54,Tryz.ntmps54
 go_wp2_with fail;go_loopw [3,4] (fun out vv wr=>∃ (v:Nat) (A1:Option Addr) (n1 c1:Nat) (fs:List Ed),v≤n∧vv=.int .i64 v∧out=.slice A1 n1 c1∧n1≤6 * v∧Hid (n1=0↔FullTo r es v 0)∧wr.ownsRow (w.heap.size+1) 68 3 (.slice A1 n1 c1) n1 (ints (edI fs)) ∧
   Box wr w.heap.size [.int .i64 r,.int .i64 n,.slice A es.length c]∧Mid 0 0 w wr) (fun _ v _=>n - (intOf v).toNat)
 case atStart=>exact ⟨0,_,0,0,[],Nat.zero_le _,rfl,rfl,Nat.le_refl _,Lib.hid (iff_of_true rfl (FullTo.zero r es)),O0,b0,hm0⟩
 case round =>
  clear O0 b0 hm0;obtain ⟨wo,hwo⟩:∃ wo,wo=wr:=⟨_,rfl⟩
  subst hwo;obtain ⟨v,A1,n1,c1,fs,hv,rfl,rfl,hn1,HQ,hout,b0,hm⟩:=hrel;have p0:=b0.cell 0 rfl;have p1:=b0.cell 1 rfl;have p2:=b0.cell 2 rfl;by_cases hlt:v < n
  ·have hv3:(v:Int) < (n:Int):=by omega
   have hv0:(0:Int)≤(v:Int):=by omega
   go_wp2_with fail;with_reducible refine (spec_IsFolded r n A es c _ _ _ (hr.mid hm oZl) (by omega) true (iff_of_true rfl HF.out)).mono ?_
   rintro en w3 ⟨rfl,hm3⟩;have hwo1:w.heap.size < wo.heap.size:=b0.1;replace b0:=b0.mid hm3 oZr;replace hout:=owns_mid hout hm3 oZl;replace hm:=hm.trans hm3;have hwo3:=hm3.size;clear p0 p1 p2 hm3;have p0:=b0.cell 0 rfl;have p1:=b0.cell 1 rfl;have p2:=b0.cell 2 rfl;go_wp2_with fail;with_reducible refine (spec_l5LettersO r _ (by omega)).mono ?_
   rintro en w4 ⟨A4,c4,rfl,hL4,hm4⟩;replace hL4:=owns_base hL4 hwo3;replace b0:=b0.mid hm4 oZr;replace hout:=owns_mid hout hm4 oZl;replace hm:=hm.trans hm4;clear p0 p1 p2 hm4;have HLL:=Lib.hid (lets_len r);obtain ⟨LL,hLL⟩:∃ LL,(lets r).length=LL:=⟨_,rfl⟩
   have hLL6:LL≤6:=by have:=HLL.out;omega
   rw [hLL] at hL4 ⊢;have HLn:=Lib.hid hLL;clear hLL;go_wp2_with fail;go_loopw [3,6] (fun out jv wr=>∃ (j:Nat) (A1:Option Addr) (n1 c1:Nat) (fs:List Ed),j≤LL∧jv=.int .i64 j∧out=.slice A1 n1 c1∧n1≤6 * v+j∧Hid (n1=0↔FullTo r es v j)∧wr.ownsRow (w.heap.size+1) 68 3 (.slice A1 n1 c1) n1 (ints (edI fs)) ∧
     Hid (wr.ownsRow wo.heap.size 3 1 (.slice A4 LL c4) LL (ints (lets r)))∧Box wr w.heap.size [.int .i64 r,.int .i64 n,.slice A es.length c]∧Mid 0 0 w wr) (fun _ j _=>LL - (intOf j).toNat)
   case atStart=>exact ⟨0,A1,n1,c1,fs,Nat.zero_le _,rfl,rfl,hn1,HQ,hout,Lib.hid hL4,b0,hm⟩
   case round =>
    clear hout hL4 b0 hm HQ;obtain ⟨j,A1,n1,c1,fs,hj,rfl,rfl,hn1,HQ,hout,HL4,b0,hm⟩:=hrel;by_cases hlt2:j < LL
    ·obtain ⟨B4,o4,x,rfl,hB4,hx,hcx⟩:=(owns_rv HL4.out).at (k:=j) (by rw [HLn.out];exact hlt2)
     have hxm:=lets_le (List.mem_of_getElem? hx);have HST:=Lib.hid (FullTo.step (es:=es) (v:=v) hx);have HX:=Lib.hid hx;have hj1:(j:Int) < (LL:Int):=by omega
     have hj0:(0:Int)≤(j:Int):=by omega
     have hcs:=nextV_cases HF.out.gr.all (v:Int) x;have k0:=wg_cell b0.1 (b0.cell 0 rfl);have k1:=wg_cell b0.1 (b0.cell 1 rfl);have k2:=wg_cell b0.1 (b0.cell 2 rfl);have k4:=wg_cell hB4 hcx;have hA:=fun m os=>spec_NextVertex r n A es c v x (wg wr m os) lo hi (hr.mid (hm.trans (Mid.ofWg wr m os)) oZl) (by omega) HGL.out (by omega) (by omega);clear hx;go_wp2_with fail;refine wp_region_quiet_wg (by kernel_rfl) (by kernel_rfl) ?_;repeat
      (with_reducible refine wpQuiet_step (fun K hK=>?_))
      go_simp
      first
       | ((with_reducible refine hK _ ?_);clear hK K)
       | (rw [if_neg (by decide)];(with_reducible refine hK _ ?_);clear hK K)
       | (apply Exists.intro;refine ⟨fun _=>?_,hK _ ?_⟩;((go_at_call 138;exact Calls.wg_of (hA _ _)));clear hK K)
     with_reducible refine wpQuiet_nil ?_
     intro _ hw';obtain ⟨⟨nq,osq⟩,hw''⟩:=hw';subst hw'';have hwg:=Mid.ofWg wr nq osq;have hcx6:=k4 nq osq;have hB6:=Nat.lt_of_lt_of_le hB4 hwg.size;generalize wg wr nq osq=w6 at hwg hcx6 hB6 ⊢;replace b0:=b0.mid hwg oZr;replace hout:=owns_mid hout hwg oZl;replace hm:=hm.trans hwg;have hL6:=Lib.hid (owns_mid HL4.out hwg oZl);generalize htx:nextV es (v:Int) x=t at hcs ⊢;rw [htx] at HST;clear k0 k1 k2 k4 hcx htx HL4 hA hwg;by_cases ht:t < 0
     ·have d1:decide (t < 0)=true:=by simpa using ht
      have HNF:Hid (n1+1=0↔FullTo r es v (j+1)):=Lib.hid (iff_of_false (by omega) fun h=>by have:=(HST.out.1 h).2;omega);have HO:=Lib.hid hout;have hsz:w.heap.size+1≤w6.heap.size:=b0.1;try simp only [d1]
      clear hcs hout;go_wp2_with (at_builtin;refine wpList_pushE2 rfl _ _ rfl (w.heap.size+1) A1 n1 c1 fs rfl HO.out ⟨v,x, -1⟩ rfl (by omega) hsz ?_;intro A9 c9 w9 ho9 hgr9 hat9)
      clear hat9;have hm9:=Mid.of_grownRow HO.out hgr9;have hL9:=hL6.out.kept hgr9 (owns_ne hL6.out HO.out (by decide));go_roundw
      case rel=>exact ⟨j+1,A9,n1+1,c9,_,by omega,by go_num,rfl,by omega,HNF,ho9,Lib.hid hL9,b0.mid hm9 (Or.inl (Nat.lt_succ_self _)),hm.transNew hm9 (Or.inl (Nat.le_succ _))⟩
      case measure=>simp [intOf];omega
     ·have d1:decide (t < 0)=false:=by simpa using ht
      have HNF:Hid (n1=0↔FullTo r es v (j+1)):=Lib.hid (HQ.out.trans ⟨fun h=>HST.out.2 ⟨h,by omega⟩,fun h=>(HST.out.1 h).1⟩);try simp only [d1]
      clear hcs;go_wp2_with fail;go_roundw
      case rel=>exact ⟨j+1,_,n1,c1,fs,by omega,by go_num,rfl,by omega,HNF,hout,hL6,b0,hm⟩
      case measure=>simp [intOf];omega
    ·obtain rfl:j=LL:=by omega
     have HNF:Hid (n1=0↔FullTo r es (v+1) 0):=Lib.hid (by rw [HQ.out,← HLn.out];exact FullTo.row);go_wp2_with fail;go_roundw
     case rel=>exact ⟨v+1,A1,n1,c1,fs,by omega,by go_num,rfl,by omega,HNF,hout,b0,hm⟩
     case measure=>simp [intOf];omega
  ·obtain rfl:v=n:=by omega
   have hres:=HQ.out.trans FullTo.all;have HRES:=Lib.hid hres;clear hres;go_wp2_with fail;go_ret;exact ⟨_,n1,_,rfl,HRES.out,hm⟩
structure IsFin (r s:Int) (es:List Ed):Prop where
 cor:IsCor r s es
 full:Full r.toNat s.toNat es
theorem impl_IsFiniteIndex (r s:Int) (A:Option Addr) (es:List Ed) (c:Nat) (w:World) (lo hi:Nat) (hr:RG w lo hi A es) (hl:es.length≤1048576) (hcl:es.length≤c) (b:Bool) (hb:b=true↔IsFin r s es) :
  Calls Tryz.prog 47 #[graV r s A es.length c] w fun e w'=>e=.returned (.bool b)∧Mid 0 0 w w':=by
 have HB:=Lib.hid hb;clear hb;have hm0:Mid 0 0 w (w.alloc (.cells #[.int .i64 r,.int .i64 s,.slice A es.length c] 26)):=Mid.alloc _ _;have b0:=Box.new w #[.int .i64 r,.int .i64 s,.slice A es.length c] 26;by_cases h:IsCor r s es
 ·obtain ⟨r,n,rfl,rfl⟩:=h.gr.nat
  have HC:=Lib.hid h;clear h;go_enter Tryz.func47,Tryz.ntmps47
  go_wp2_with fail;with_reducible refine (impl_IsCore r n A es c _ _ _ (hr.mid hm0 oZl) hl hcl true (iff_of_true rfl HC.out)).mono ?_
  rintro en w1 ⟨rfl,hm1⟩;replace b0:=b0.mid hm1 oZr;replace hm0:=hm0.trans hm1;have p0:=b0.cell 0 rfl;have p1:=b0.cell 1 rfl;have p2:=b0.cell 2 rfl;go_wp2_with fail;with_reducible refine (impl_MissingSteps r n A es c _ _ _ (hr.mid hm0 oZl) hcl HC.out.fol).mono ?_
  rintro en w2 ⟨A2,n2,c2,rfl,hn2,hm2⟩;have hbn:b=true↔n2=0:=by
   rw [HB.out,hn2];exact ⟨fun h=>h.full,fun h=>⟨HC.out,h⟩⟩
  have hmm:=hm0.trans hm2;clear hn2 HB;by_cases h0:n2=0
  ·obtain rfl:b=true:=hbn.2 h0
   subst h0;go_wp2_with fail;go_ret;exact ⟨rfl,hmm⟩
  ·obtain rfl:b=false:=bool_no hbn h0
   have d1:((n2:Int) == 0)=false:=by simp only [beq_eq_false_iff_ne];omega
   clear hbn;go_wp2_with fail;go_ret;exact ⟨rfl,hmm⟩
 ·obtain rfl:b=false:=bool_no HB.out fun h'=>h h'.cor
  have HC:=Lib.hid h;clear h HB;go_enter Tryz.func47,Tryz.ntmps47
  go_wp2_with fail;with_reducible refine (impl_IsCore r s A es c _ _ _ (hr.mid hm0 oZl) hl hcl false (iff_of_false Bool.false_ne_true HC.out)).mono ?_
  rintro en w1 ⟨rfl,hm1⟩;go_wp2_with fail;go_ret;exact ⟨rfl,hm0.trans hm1⟩
end
section
open Go.RowKit
end
section
open Go.RowKit
theorem owns_lit (w:World) (e:TypeId) (u:Value):(w.alloc (.cells #[u] e)).ownsRow w.heap.size e 1 (.slice (some ⟨w.heap.size,0,none⟩) 1 1) 1 [u] :=
 ⟨rfl,.inr ⟨w.heap.size,1,#[u],rfl,Nat.le_refl _,heap_alloc_new w _,Nat.le_refl _,by unfold maxLen;omega,rfl,rfl⟩⟩
end
section
open Go.RowKit
section
variable {w w':World} {lo a b:Nat} {A:Option Addr} {n c:Nat} {rows:List Row} {Aa:Option Addr} {act:List (List Int)}
end
section
variable {W:World} {ops:Array Oper} {rest:List Oper} {o:Oper} {ac:Act} {Q:Exit→Act→World→Prop}
end
end
section
open Go.RowKit
section
variable {P:Program} (w:World)
end
section
variable {W:World} {ops:Array Oper} {rest:List Oper} {o:Oper} {a:Act} {Q:Exit→Act→World→Prop}
end
section
variable {W:World} {ops:Array Oper} {rest:List Oper} {o:Oper} {ac:Act} {Q:Exit→Act→World→Prop}
end
end
section
def oneW (f:List Int→Int→Bool) (L:List Int) (w:List Int):List (List Int):=(L.filter (f w)).map fun x=>w++[x]
def layStep (f:List Int→Int→Bool) (L:List Int) (l:List (List Int)):List (List Int):=l.flatMap (oneW f L)
def lay (f:List Int→Int→Bool) (L:List Int):Nat→List (List Int)
 | 0=>[[]]
 | n+1=>layStep f L (lay f L n)
def pre (f:List Int→Int→Bool) (L:List Int):Nat→List (List Int)
 | 0=>[]
 | n+1=>pre f L n++lay f L n
section
variable {f:List Int→Int→Bool} {L:List Int}
theorem oneW_len (w:List Int):(oneW f L w).length≤L.length:=by
 unfold oneW;rw [List.length_map];exact List.length_filter_le _ _
theorem layStep_len (l:List (List Int)):(layStep f L l).length≤l.length * L.length:=by
 induction l with
 | nil=>simp [layStep]
 | cons w t ih =>
  have h1:=oneW_len (f:=f) (L:=L) w;have h2:layStep f L (w :: t)=oneW f L w++layStep f L t:=rfl;rw [h2,List.length_append,List.length_cons,Nat.succ_mul];omega
theorem lay_len (hL:L.length≤6):∀ n,(lay f L n).length≤6 ^ n
 | 0=>by simp [lay]
 | n+1=>by
  have h1:=lay_len hL n;have h2:=layStep_len (f:=f) (L:=L) (lay f L n);have h3:(lay f L n).length * L.length≤6 ^ n * 6:=Nat.mul_le_mul h1 hL;rw [Nat.pow_succ];exact Nat.le_trans h2 h3
theorem lay_b (hL:L.length≤6) {n:Nat} (hn:n≤5):(lay f L n).length≤7776:=by
 have h1:=lay_len (f:=f) hL n;have h2:6 ^ n≤6 ^ 5:=Nat.pow_le_pow_right (by omega) hn;omega
theorem pre_b (hL:L.length≤6):∀ {n:Nat},n≤6→(pre f L n).length≤n * 7776
 | 0,_=>by simp [pre]
 | n+1,hn=>by
  have h1:=pre_b hL (n:=n) (by omega);have h2:=lay_b (f:=f) hL (n:=n) (by omega);rw [pre,List.length_append];omega
theorem mem_layStep {l:List (List Int)} {v:List Int}:v∈layStep f L l↔∃ w∈l,∃ x∈L,f w x=true∧v=w++[x]:=by
 unfold layStep oneW;simp only [List.mem_flatMap,List.mem_map,List.mem_filter];constructor
 ·rintro ⟨w,hw,x,⟨hx,hf⟩,rfl⟩
  exact ⟨w,hw,x,hx,hf,rfl⟩
 ·rintro ⟨w,hw,x,hx,hf,rfl⟩
  exact ⟨w,hw,x,⟨hx,hf⟩,rfl⟩
theorem lay_ok:∀ {n:Nat} {v:List Int},v∈lay f L n→v.length=n∧∀ x∈v,x∈L
 | 0,v,h=>by simp [lay] at h;subst h;simp
 | n+1,v,h=>by
  obtain ⟨w,hw,x,hx, -,rfl⟩:=mem_layStep.1 h;obtain ⟨h1,h2⟩:=lay_ok hw;refine ⟨by simp [h1],fun y hy=>?_⟩;rcases List.mem_append.1 hy with hy | hy
  ·exact h2 y hy
  ·simp at hy
   subst hy;exact hx
theorem pre_ok:∀ {n:Nat} {v:List Int},v∈pre f L n→v.length < n∧∀ x∈v,x∈L
 | 0,v,h=>by simp [pre] at h
 | n+1,v,h=>by
  rcases List.mem_append.1 h with h | h
  ·have:=pre_ok h
   exact ⟨by omega,this.2⟩
  ·have:=lay_ok h
   exact ⟨by omega,this.2⟩
theorem layStep_take {l:List (List Int)} {k:Nat} {w:List Int} (h:l[k]?=some w):layStep f L (l.take (k+1))=layStep f L (l.take k)++oneW f L w:=by
 obtain ⟨hk,h'⟩:=List.getElem?_eq_some_iff.1 h;rw [List.take_succ_eq_append_getElem hk,h'];unfold layStep;rw [List.flatMap_append];simp
theorem oneW_yes {w:List Int} {j:Nat} {x:Int} (h:L[j]?=some x) (hf:f w x=true):oneW f (L.take (j+1)) w=oneW f (L.take j) w++[w++[x]]:=by
 obtain ⟨hk,h'⟩:=List.getElem?_eq_some_iff.1 h;rw [List.take_succ_eq_append_getElem hk,h'];unfold oneW;rw [List.filter_append,List.map_append];simp [hf]
theorem oneW_no {w:List Int} {j:Nat} {x:Int} (h:L[j]?=some x) (hf:f w x=false):oneW f (L.take (j+1)) w=oneW f (L.take j) w:=by
 obtain ⟨hk,h'⟩:=List.getElem?_eq_some_iff.1 h;rw [List.take_succ_eq_append_getElem hk,h'];unfold oneW;rw [List.filter_append,List.map_append];simp [hf]
end
def okB (w:List Int) (x:Int):Bool:=!(w.getLast? == some (-x))
theorem okB_snoc (w:List Int) (y x:Int):okB (w++[y]) x=!(y == -x):=by simp [okB]
end
section
open Go.RowKit
end
section
open Go.RowKit
theorem impl_InvertWord (A:Option Addr) (xs:List Int) (c B:Nat) (w:World) (hr:Rs w B A (ints xs)) (hB:B≤w.heap.size) (hok:OkI xs) (hl:xs.length≤4194304) :
  Calls Tryz.prog 124 #[.slice A xs.length c] w fun e w'=>RetI 3 (invW xs) w e w':=by
 have HOK:=Lib.hid hok;clear hok;have hmx:xs.length≤maxLen:=by unfold maxLen;omega
 obtain ⟨i0,hi,hz0,hz1,hz2⟩:=info_parts infoI;have hby:i0.bytes * xs.length≤281474976710656:=by rw [hz2];omega
 go_enter Tryz.func124,Tryz.ntmps124
 go_wp2_with (at_make;refine wpList_make_own _ rfl _ _ 34 rfl w.heap.size 3 i0 (.int .i64 0) 1 undSI hi hz0 hz1 .i64 .i64 _ xs.length rfl rfl rfl hby hmx (Nat.le_refl _) ?_;intro w1 hown1 hgr1)
 have hb1:=below_none hgr1;clear hi hz0 hz1 hz2 hby;go_loopw [3,4] (fun v i wr=>∃ j:Nat,j≤xs.length∧i=.int .i64 ((j:Int) - 1)∧wr.ownsRow w.heap.size 3 1 v (xs.length - j) (ints (invW (xs.drop j)))∧Below w.heap.size w wr)
  (fun _ i _=>(intOf i+1).toNat)
 case atStart=>exact ⟨xs.length,Nat.le_refl _,rfl,by simpa [invW,ints] using hown1,hb1⟩
 case round =>
  obtain ⟨j,hj,rfl,hown,hb⟩:=hrel;have hsz:=hb.size;cases j with
  | zero =>
   go_wp2_with fail;go_ret;exact RetI.mk (by rw [invW_len]) (by simpa using hown) hb
  | succ m =>
   rw [show (((m+1:Nat):Int) - 1)=(m:Int) from by omega];obtain ⟨b,off,x,rfl, -,hx,hc⟩:=((hr.more hB).below hb).int (show m < xs.length by omega);have hbx:=HOK.out x (List.mem_of_getElem? hx);have HW:=Lib.hid (wrap_neg hbx.1 hbx.2);have HX:=Lib.hid hx;clear hx hbx;go_wp2_with (at_builtin;refine wpList_push rfl _ _ 34 rfl w.heap.size 3 (.int .i64 0) 1 8 undSI infoI rfl (by decide) _ _ _ rfl hown 1 [.int .i64 (wrap64 (-x))] rfl rfl ?c1 ?c2 ?c3 hsz ?next)
   case c1=>exact one_of_ints [wrap64 (-x)]
   case c2=>unfold maxLen;omega
   case c3=>omega
   case next =>
    intro v' w1 hown1 hgr _;go_wp2_with fail;go_roundw
    case rel =>
     refine ⟨m,by omega,rfl,?_,hb.grown hgr hsz (fun g hg=>(hown.lt g hg).1)⟩;rw [drop_of xs HX.out,invW_cons,ints_append,show xs.length - m=xs.length - (m+1)+1 from by omega,← HW.out];exact hown1
    case measure=>simp [intOf]
def halfN (xs:List Int):Nat:=(xs.length+1) / 2
def halfA (xs:List Int):List Int:=xs.take (halfN xs)
def halfB (xs:List Int):List Int:=(invW xs).take (halfN xs)
def halves (xs:List Int):List Int × List Int:=if 0 < cmpW (halfA xs) (halfB xs) then (halfB xs,halfA xs) else (halfA xs,halfB xs)
theorem okI_invW {xs:List Int} (h:OkI xs):OkI (invW xs):=by
 intro x hx;unfold invW at hx;rw [List.mem_reverse,List.mem_map] at hx;obtain ⟨y,hy,rfl⟩:=hx;have:=h y hy;unfold negI minI;split <;> omega
end
section
open Go.RowKit
end
section
open Go.RowKit
def MarkerX (P:Prop):Prop:=P
theorem MarkerX.to {P:Prop} (h:MarkerX P):P:=h
end
section
open Go.RowKit
theorem pushE {w':World} {lo:Nat} {A2:Option Addr} {n c2:Nat} {xs:List Int} {y:Int} (h:w'.ownsRow lo 3 1 (.slice A2 (n+1) c2) (n+1) (ints (xs++[y]))) (hl:xs.length=n):w'.ownsRow lo 3 1 (Row.v ⟨A2,c2,xs++[y]⟩) (xs++[y]).length (ints (xs++[y])):=by
 have:(xs++[y]).length=n+1:=by rw [List.length_append,hl];rfl
 unfold Row.v;rw [this];exact h
end
section
open Go.RowKit
def WordTo (rank:Int) (xs:List Int) (k:Nat):Prop :=
 ∀ j x,j < k→xs[j]?=some x→letB rank x=true∧∀ y,0 < j→xs[j - 1]?=some y→invB y x=false
theorem WordTo.zero (rank:Int) (xs:List Int):WordTo rank xs 0:=fun j x h=>absurd h (Nat.not_lt_zero j)
theorem WordTo.succ {rank:Int} {xs:List Int} {k:Nat} {x:Int} (h:WordTo rank xs k) (hx:xs[k]?=some x) (hl:letB rank x=true) (hp:∀ y,0 < k→xs[k - 1]?=some y→invB y x=false):WordTo rank xs (k+1):=by
 intro j z hj hz;rcases Nat.lt_or_eq_of_le (Nat.le_of_lt_succ hj) with h1 | rfl
 ·exact h j z h1 hz
 ·rw [hx] at hz
  obtain rfl:=Option.some.inj hz;exact ⟨hl,hp⟩
theorem wordTo_all {rank:Int} {xs:List Int} (h1:1≤rank) (h3:rank≤3):WordTo rank xs xs.length↔WordP rank xs:=by
 constructor
 ·intro h
  refine ⟨fun x hx=>?_,fun k x y hx hy he=>?_⟩
  ·obtain ⟨j,hj⟩:=List.mem_iff_getElem?.1 hx
   have:=(h j x (List.getElem?_eq_some_iff.1 hj).1 hj).1
   simpa [letB] using this
  ·have hl:=(List.getElem?_eq_some_iff.1 hy).1
   have h2:=(h (k+1) y hl hy).2 x (Nat.succ_pos k) (by simpa using hx);have h4:=(h k x (by omega) hx).1;simp [letB] at h4;have:invB x y=true:=(invB_iff x y).2 ⟨h4.1,by unfold minI;omega,he⟩;rw [this] at h2;cases h2
 ·rintro ⟨ha,hb⟩ j x hj hx
  refine ⟨by simpa [letB] using ha x (List.mem_of_getElem? hx),fun y h0 hy=>?_⟩;cases hv:invB y x with
  | false=>rfl
  | true=>exact absurd ((invB_iff y x).1 hv).2.2 (hb (j - 1) y x hy (by rw [Nat.sub_add_cancel h0];exact hx))
def RawAt (rank:Int) (xs:List Int) (j:Nat) (x:Int):Prop:=(x == 0)=false∧inB x (wrap64 (-rank)) rank=true∧∀ y,0 < j→xs[j - 1]?=some y→(x == wrap64 (-y))=false
def RawTo (rank:Int) (xs:List Int) (k:Nat):Prop:=∀ j x,j < k→xs[j]?=some x→RawAt rank xs j x
theorem RawTo.zero (rank:Int) (xs:List Int):RawTo rank xs 0:=fun j x h=>absurd h (Nat.not_lt_zero j)
theorem RawTo.succ {rank:Int} {xs:List Int} {k:Nat} {x:Int} (h:RawTo rank xs k) (hx:xs[k]?=some x) (hp:RawAt rank xs k x):RawTo rank xs (k+1):=by
 intro j z hj hz;rcases Nat.lt_or_eq_of_le (Nat.le_of_lt_succ hj) with h1 | rfl
 ·exact h j z h1 hz
 ·rw [hx] at hz
  obtain rfl:=Option.some.inj hz;exact hp
theorem rawTo_all {rank:Int} {xs:List Int} (h1:1≤rank) (h3:rank≤3):RawTo rank xs xs.length↔WordP rank xs:=by
 have hw:wrap64 (-rank) = -rank:=by rw [wrap_neg (by omega) (by omega)];unfold negI minI;rw [if_neg (by omega)]
 have hwy:∀ y, -rank≤y→y≤rank→wrap64 (-y) = -y:=fun y ha hb=>by rw [wrap_neg (by omega) (by omega)];unfold negI minI;rw [if_neg (by omega)]
 unfold RawTo RawAt;rw [hw];constructor
 ·intro h
  refine ⟨fun x hx=>?_,fun k x y hx hy he=>?_⟩
  ·obtain ⟨j,hj⟩:=List.mem_iff_getElem?.1 hx
   have:=h j x (List.getElem?_eq_some_iff.1 hj).1 hj;simp [inB] at this;exact ⟨this.1,this.2.1⟩
  ·have hl:=(List.getElem?_eq_some_iff.1 hy).1
   have h2:=(h (k+1) y hl hy).2.2 x (Nat.succ_pos k) (by simpa using hx);have h4:=(h k x (by omega) hx).2.1;simp [inB] at h4;rw [hwy x h4.1 h4.2,he] at h2;simp at h2
 ·rintro ⟨ha,hb⟩ j x hj hx
  have h0:=ha x (List.mem_of_getElem? hx);refine ⟨by simpa using h0.1,by simpa [inB] using h0.2,fun y hp hy=>?_⟩;have h5:=ha y (List.mem_of_getElem? hy);rw [hwy y h5.2.1 h5.2.2];have:=hb (j - 1) y x hy (by rw [Nat.sub_add_cancel hp];exact hx)
  simpa using this
end
section
open Go.RowKit
theorem impl_IsWord (rank:Int) (A:Option Addr) (xs:List Int) (c:Nat) (w:World) (B:Nat) (hr:Rs w B A (ints xs)) (hok:OkI xs) (hl:xs.length≤4194304) (r:Bool) (hres:r=true↔IsW rank xs) :
  Calls Tryz.prog 103 #[.int .i64 rank,.slice A xs.length c] w fun e w'=>e=.returned (.bool r)∧w=w':=by
 have HOK:=Lib.hid hok;have HR:=Lib.hid hres;clear hok hres;by_cases hb:inB rank 1 3=false
 ·have hf:r=false:=by
   cases r with
   | false=>rfl
   | true =>
    have h:=HR.out.1 rfl;simp [inB] at hb;have:=h.1;have:=h.2.1;omega
  subst hf;have HB:=Lib.hid hb;clear hb;go_enter Tryz.func103,Tryz.ntmps103
  go_wp2_with fail;refine (within_any _ _ _ _).mono ?_;rintro e w' ⟨rfl,rfl⟩;rw [HB.out];go_wp2_with fail;go_ret;exact ⟨rfl,rfl⟩
 ·have hb':inB rank 1 3=true:=by simpa using hb
  have h13:1≤rank∧rank≤3:=by simpa [inB] using hb'
  have HB:=Lib.hid hb';clear hb hb';obtain ⟨h1,h3⟩:=h13;by_cases h24:24 < xs.length
  ·have hf:r=false:=by
    cases r with
    | false=>rfl
    | true =>
     have:=(HR.out.1 rfl).2.2.1;omega
   subst hf;go_enter Tryz.func103,Tryz.ntmps103
   go_wp2_with fail;refine (within_any _ _ _ _).mono ?_;rintro e w' ⟨rfl,rfl⟩;rw [HB.out];go_wp2_with fail;go_ret;exact ⟨rfl,rfl⟩
  ·have hR2:r=true↔WordTo rank xs xs.length:=HR.out.trans ⟨fun h=>(wordTo_all h1 h3).2 h.2.2.2,fun h=>⟨h1,h3,by omega,(wordTo_all h1 h3).1 h⟩⟩
   have HR2:=Lib.hid hR2;clear hR2 HR;go_enter Tryz.func103,Tryz.ntmps103
   go_wp2_with fail;refine (within_any _ _ _ _).mono ?_;rintro e w' ⟨rfl,rfl⟩;rw [HB.out];go_wp2_with fail;go_loop [5,6,17] (fun _ _ i=>∃ k:Nat,k≤xs.length∧i=.int .i64 k∧WordTo rank xs k) (fun _ _ i=>xs.length - (intOf i).toNat)
   case atStart=>exact ⟨0,Nat.zero_le _,rfl,WordTo.zero _ _⟩
   case round =>
    obtain ⟨k,hk,rfl,hto⟩:=hrel;have HT:=Lib.hid hto;clear hto;by_cases hlt:k < xs.length
    ·obtain ⟨b,off,x,rfl, -,hx,hc⟩:=hr.int hlt
     have HX:=Lib.hid hx;clear hx;by_cases hL:letB rank x=false
     ·have hf:r=false:=by
       cases r with
       | false=>rfl
       | true =>
        have:=(HR2.out.1 rfl k x hlt HX.out).1;rw [hL] at this;cases this
      subst hf;have HL:=Lib.hid hL;clear hL;go_wp2_with fail;refine (impl_isLetter _ _ _ h1 h3).mono ?_;rintro e w' ⟨rfl,rfl⟩;rw [HL.out];go_wp2_with fail;go_ret;exact ⟨rfl,rfl⟩
     ·have hL':letB rank x=true:=by simpa using hL
      have HL:=Lib.hid hL';clear hL hL';cases k with
      | zero =>
       have hc0:w.cell? ⟨b,off,none⟩=some (.int .i64 x):=hc;go_wp2_with fail;refine (impl_isLetter _ _ _ h1 h3).mono ?_;rintro e w' ⟨rfl,rfl⟩;rw [HL.out];go_wp2_with fail;go_round
       case rel=>exact ⟨1,by omega,by go_num,HT.out.succ HX.out HL.out (fun y h=>absurd h (Nat.lt_irrefl 0))⟩
       case measure=>simp [intOf];omega
      | succ m =>
       obtain ⟨b',off',y,he, -,hy,hcy⟩:=hr.int (show m < xs.length by omega);injection he with he
       injection he with he1 he2 _
       subst he1 he2;have hby:=HOK.out y (List.mem_of_getElem? hy);have HY:=Lib.hid hy;have hyl:-9223372036854775808≤y∧y≤9223372036854775807:=hby;obtain ⟨hy1,hy2⟩:=hyl;clear hy hby;by_cases hI:invB y x=true
       ·have hf:r=false:=by
         cases r with
         | false=>rfl
         | true =>
          have:=(HR2.out.1 rfl (m+1) x hlt HX.out).2 y (Nat.succ_pos m) HY.out;rw [hI] at this;cases this
        subst hf;have HI:=Lib.hid hI;clear hI;go_wp2_with fail;refine (impl_isLetter _ _ _ h1 h3).mono ?_;rintro e w' ⟨rfl,rfl⟩;rw [HL.out];go_wp2_with fail;refine (impl_areInverse _ _ _ hy1 hy2).mono ?_;rintro e w' ⟨rfl,rfl⟩;rw [HI.out];go_wp2_with fail;go_ret;exact ⟨rfl,rfl⟩
       ·have hI':invB y x=false:=by simpa using hI
        have HI:=Lib.hid hI';clear hI hI';go_wp2_with fail;refine (impl_isLetter _ _ _ h1 h3).mono ?_;rintro e w' ⟨rfl,rfl⟩;rw [HL.out];go_wp2_with fail;refine (impl_areInverse _ _ _ hy1 hy2).mono ?_;rintro e w' ⟨rfl,rfl⟩;rw [HI.out];go_wp2_with fail;go_round
        case rel =>
         refine ⟨m+1+1,by omega,by go_num,HT.out.succ HX.out HL.out (fun z _ hz=>?_)⟩;rw [Nat.add_sub_cancel,HY.out] at hz;obtain rfl:=Option.some.inj hz;exact HI.out
        case measure=>simp [intOf];omega
    ·obtain rfl:k=xs.length:=by omega
     obtain rfl:r=true:=HR2.out.2 HT.out;go_wp2_with fail;go_ret;exact ⟨rfl,rfl⟩
end
section
open Go.RowKit
theorem spec_IsWord (rank:Int) (A:Option Addr) (xs:List Int) (c:Nat) (w:World) (B:Nat) (hr:Rs w B A (ints xs)) (hok:OkI xs) (hl:xs.length≤4194304) (r:Bool) (hres:r=true↔IsW rank xs) :
  Calls Tryz.prog 74 #[.int .i64 rank,.slice A xs.length c] w fun e w'=>e=.returned (.bool r)∧∃ n,w'=w.drewN n:=by
 have HOK:=Lib.hid hok;have hR2:r=true↔(RawTo rank xs xs.length∧inB rank 1 3=true∧xs.length≤24):=hres.trans ⟨fun h=>⟨(rawTo_all h.1 h.2.1).2 h.2.2.2,by simp [inB];exact ⟨h.1,h.2.1⟩,h.2.2.1⟩,fun h=>by
  have h13:1≤rank∧rank≤3:=by simpa [inB] using h.2.1
  exact ⟨h13.1,h13.2,h.2.2,(rawTo_all h13.1 h13.2).1 h.1⟩⟩
 have HR:=Lib.hid hR2;clear hok hres hR2;obtain ⟨nr,hnr⟩:∃ nr,wrap64 (-rank)=nr:=⟨_,rfl⟩
 go_enter Tryz.func74,Tryz.ntmps74
 go_wp2_with fail;go_loopw [5] (fun i wr=>∃ k:Nat,k≤xs.length∧i=.int .i64 k∧(∃ n,wr=w.drewN n)∧RawTo rank xs k) (fun i _=>xs.length - (intOf i).toNat)
 case atStart=>exact ⟨0,Nat.zero_le _,rfl,⟨0,rfl⟩,RawTo.zero _ _⟩
 case round =>
  obtain ⟨k,hk,rfl,⟨nd,rfl⟩,hto⟩:=hrel;have HT:=Lib.hid hto;clear hto;by_cases hlt:k < xs.length
  ·obtain ⟨b,off,x,rfl, -,hx,hc⟩:=hr.int hlt
   have HX:=Lib.hid hx;clear hx;have hlt3:(k:Int) < (xs.length:Int):=by omega
   have hno:∀ (P:Prop),(RawAt rank xs k x→P)→r=true→P:=fun P h hr1=>h ((HR.out.1 hr1).1 k x hlt HX.out);have HNO:=Lib.hid hno;clear hno;by_cases hx0:(x == 0)=true
   ·have hf:r=false:=by
     cases r with
     | false=>rfl
     | true =>
      refine (HNO.out False (fun h=>?_) rfl).elim;rw [h.1] at hx0;cases hx0
    subst hf;go_wp2_with fail;go_quiet (fail)
    go_wp2_with fail;go_ret;exact ⟨rfl,_,by first | rfl | exact dn _ _ _⟩
   ·have hx0':(x == 0)=false:=by simpa using hx0
    clear hx0;have hC:=fun n:Nat=>pq (l1In_any x nr rank (w.drewN n));by_cases hi:inB x nr rank=false
    ·have hf:r=false:=by
      cases r with
      | false=>rfl
      | true =>
       refine (HNO.out False (fun h=>?_) rfl).elim;have h2:=h.2.1;rw [hnr,hi] at h2;cases h2
     subst hf;rw [hi] at hC;have HC:=Lib.hid hC;clear hC hi;go_wp2_with fail;go_quiet ((go_at_call 131;first | exact qz0 (HC.out _) | exact qz1 (HC.out _)))
     go_wp2_with fail;go_ret;exact ⟨rfl,_,by first | rfl | exact dn _ _ _⟩
    ·have hi':inB x nr rank=true:=by simpa using hi
     rw [hi'] at hC;have HC:=Lib.hid hC;have HI:=Lib.hid hi';clear hC hi hi';cases k with
     | zero =>
      have hc0:w.cell? ⟨b,off,none⟩=some (.int .i64 x):=hc;go_wp2_with fail;go_quiet ((go_at_call 131;first | exact qz0 (HC.out _) | exact qz1 (HC.out _)))
      go_wp2_with fail;go_roundw
      case rel=>exact ⟨1,by omega,by go_num,⟨_,by first | rfl | exact dn _ _ _⟩,HT.out.succ HX.out ⟨hx0',by rw [hnr];exact HI.out,fun y h=>absurd h (Nat.lt_irrefl 0)⟩⟩
      case measure=>simp [intOf];omega
     | succ m =>
      obtain ⟨b',off',y,he, -,hy,hcy⟩:=hr.int (show m < xs.length by omega);injection he with he
      injection he with he1 he2 _
      subst he1 he2;have HY:=Lib.hid hy;clear hy;have hlm3:(m:Int) < (xs.length:Int):=by omega
      have hm0:(0:Int) < (m:Int)+1:=by omega
      have hp1:(m:Int)+1 - 1=(m:Int):=by omega
      obtain ⟨ny,hny⟩:∃ ny,wrap64 (-y)=ny:=⟨_,rfl⟩
      by_cases hxy:(x == ny)=true
      ·have hf:r=false:=by
        cases r with
        | false=>rfl
        | true =>
         refine (HNO.out False (fun h=>?_) rfl).elim;have h2:=h.2.2 y (Nat.succ_pos m) HY.out;rw [hny,hxy] at h2;cases h2
       subst hf;go_wp2_with fail;go_quiet ((go_at_call 131;first | exact qz0 (HC.out _) | exact qz1 (HC.out _)))
       go_wp2_with fail;go_ret;exact ⟨rfl,_,by first | rfl | exact dn _ _ _⟩
      ·have hxy':(x == ny)=false:=by simpa using hxy
       clear hxy;go_wp2_with fail;go_quiet ((go_at_call 131;first | exact qz0 (HC.out _) | exact qz1 (HC.out _)))
       go_wp2_with fail;go_roundw
       case rel =>
        refine ⟨m+1+1,by omega,by go_num,⟨_,by first | rfl | exact dn _ _ _⟩,HT.out.succ HX.out ⟨hx0',by rw [hnr];exact HI.out,fun z _ hz=>?_⟩⟩;rw [Nat.add_sub_cancel,HY.out] at hz;obtain rfl:=Option.some.inj hz;rw [hny];exact hxy'
       case measure=>simp [intOf];omega
  ·obtain rfl:k=xs.length:=by omega
   have hrv:r=(inB rank 1 3 && decide ((xs.length:Int)≤24)):=by
    rw [Bool.eq_iff_iff,HR.out];simp only [Bool.and_eq_true,decide_eq_true_eq];exact ⟨fun h=>⟨h.2.1,by omega⟩,fun h=>⟨HT.out,h.1,by omega⟩⟩
   by_cases hib:inB rank 1 3=false
   ·rw [hib] at hrv
    have HI:=Lib.hid hib;clear hib;simp only [Bool.false_and] at hrv;subst hrv;go_wp2_with fail;refine (l1In_any _ _ _ _).mono ?_;rintro e w' ⟨rfl,rfl⟩;rw [HI.out];go_wp2_with fail;go_ret;exact ⟨rfl,_,rfl⟩
   ·have hib':inB rank 1 3=true:=by simpa using hib
    rw [hib'] at hrv;have HI:=Lib.hid hib';simp only [Bool.true_and] at hrv;clear hib hib';subst hrv;go_wp2_with fail;refine (l1In_any _ _ _ _).mono ?_;rintro e w' ⟨rfl,rfl⟩;rw [HI.out];go_wp2_with fail;go_ret;exact ⟨rfl,_,rfl⟩
end
section
open Go.RowKit
def WordsTo (rk:Int) (d:List (List Int)) (k:Nat):Prop:=∀ j xs,j < k→d[j]?=some xs→IsW rk xs
theorem WordsTo.zero (rk:Int) (d:List (List Int)):WordsTo rk d 0:=fun j x h=>absurd h (Nat.not_lt_zero j)
theorem WordsTo.succ {rk:Int} {d:List (List Int)} {k:Nat} {x:List Int} (h:WordsTo rk d k) (hx:d[k]?=some x) (hl:IsW rk x):WordsTo rk d (k+1):=by
 intro j z hj hz;rcases Nat.lt_or_eq_of_le (Nat.le_of_lt_succ hj) with h1 | rfl
 ·exact h j z h1 hz
 ·rw [hx] at hz
  obtain rfl:=Option.some.inj hz;exact hl
theorem wordsTo_all {rk:Int} {d:List (List Int)}:WordsTo rk d d.length↔∀ xs∈d,IsW rk xs:=by
 constructor
 ·intro h x hx
  obtain ⟨j,hj⟩:=List.mem_iff_getElem?.1 hx;exact h j x (List.getElem?_eq_some_iff.1 hj).1 hj
 ·exact fun h j x _ hx=>h x (List.mem_of_getElem? hx)
theorem bool_ofR (p:Prop):∃ r:Bool,r=true↔p:=by
 by_cases h:p
 ·exact ⟨true,by simp [h]⟩
 ·exact ⟨false,by simp [h]⟩
theorem row_le {d:List (List Int)} {xs:List Int} (h:xs∈d) (hl:d.length+sumL d≤1048576):xs.length≤4194304:=by
 have:=len_le_sumL h;omega
end
section
open Go.RowKit
def PrOut (w wr:World) (v:Value) (out:List Int):Prop:=wr.ownsRow w.heap.size 3 1 v out.length (ints out)∧Below w.heap.size w wr
theorem impl_product (A:Option Addr) (d:List (List Int)) (c:Nat) (w:World) (lo hi:Nat) (hr:RSS w lo hi A d) (hok:∀ xs∈d,OkI xs) (hl:d.length≤4194304) (hs:sumL d≤268435456) :
  Calls Tryz.prog 122 #[.slice A d.length c] w fun e w'=>RetI 3 (red [] d.flatten) w e w':=by
 have HOK:=Lib.hid hok;clear hok;have hb0:=(Below.refl w.heap.size w).alloc (Nat.le_refl _) (.cells #[] 3);have ho0:=owns_empty w 3 1;go_enter Tryz.func122,Tryz.ntmps122
 go_wp2_with fail;go_loopw [3,5,7,11] (fun v _ _ i wr=>∃ k:Nat,k≤d.length∧i=.int .i64 k∧PrOut w wr v (red [] (d.take k).flatten)) (fun _ _ _ i _=>d.length - (intOf i).toNat)
 case atStart=>exact ⟨0,Nat.zero_le _,rfl,by simpa [red,ints] using ho0,hb0⟩
 case round =>
  obtain ⟨k,hk,rfl,hown,hb⟩:=hrel;by_cases hlt:k < d.length
  ·obtain ⟨b,off,A',c',xs,rfl, -,hbh,hx,hc,hrx⟩:=hr.row hlt
   have hhi:=hr.size;have hcw:wr.cell? ⟨b,off+k,none⟩=some (.slice A' xs.length c'):=(hb.cell (by simp;omega)).trans hc;have hm:=List.mem_of_getElem? hx;have hox:=HOK.out xs hm;have hlx:=len_le_sumL hm;have hlx1:xs.length≤268435456:=by omega
   obtain ⟨out0,hout0⟩:∃ o,o=red [] (d.take k).flatten:=⟨_,rfl⟩
   have hstep:=red_flatten_step d hx;rw [← hout0] at hown hstep;have hok0:OkI out0:=by
    rw [hout0];exact red_ok (okI_flatten fun ys hy=>HOK.out ys (List.mem_of_mem_take hy))
   have hl0:out0.length+xs.length≤268435456:=by
    have h1:=red_nil_len (d.take k).flatten;rw [← hout0,sumL_flatten] at h1;have h2:=sumL_take_succ hx;have h3:=sumL_take_le d (k+1);omega
   have HX:=Lib.hid hx;have HS:=Lib.hid hstep;have HO0:=Lib.hid hok0;have HOX:=Lib.hid hox;clear hx hm hox hout0 hstep hok0 hlx;go_wp2_with fail;go_loopw [3,7,17] (fun v _ j wr2=>∃ l:Nat,l≤xs.length∧j=.int .i64 l∧PrOut w wr2 v (red out0 (xs.take l))) (fun _ _ j _=>xs.length - (intOf j).toNat)
   case atStart=>exact ⟨0,Nat.zero_le _,rfl,hown,hb⟩
   case round =>
    clear hown hb hcw;obtain ⟨l,hlk,rfl,hown,hb⟩:=hrel;have hsz:=hb.size;by_cases hl2:l < xs.length
    ·obtain ⟨b',off',x,rfl, -,hxx,hcx⟩:=((hrx.rs.more hhi).below hb).int hl2
     have hst:=red_step xs hxx out0;have hbx:=HOX.out x (List.mem_of_getElem? hxx);have hlen:=red_len out0 (xs.take l);rw [List.length_take] at hlen;obtain ⟨out1,ho1⟩:∃ o,o=red out0 (xs.take l):=⟨_,rfl⟩
     rw [← ho1] at hown hst hlen;have hok1:OkI out1:=fun y hy=>by
      rw [ho1] at hy;rcases red_mem hy with h1 | h1
      ·exact HO0.out y h1
      ·exact HOX.out y (List.mem_of_mem_take h1)
     clear ho1 hxx;have HST:=Lib.hid hst;have HBX:=Lib.hid hbx;clear hst hbx;rcases Nat.eq_zero_or_pos out1.length with he | hp
     ·obtain rfl:=List.eq_nil_of_length_eq_zero he
      clear he hok1 hlen;obtain ⟨A1,c1,rfl, -, -⟩:=owns_shape hown;go_wp2_with (at_builtin;refine wpList_push rfl _ _ 34 rfl w.heap.size 3 (.int .i64 0) 1 8 undSI infoI rfl (by decide) _ _ _ rfl hown 1 [.int .i64 x] rfl rfl (one_of_ints [x]) (by unfold maxLen;simp) (by simp) hsz ?n1)
      case n1 =>
       intro v' w1 hown1 hgr _;go_wp2_with fail;go_roundw
       case rel =>
        refine ⟨l+1,by omega,by go_num,?_,hb.grown hgr hsz (fun g hg=>(hown.lt g hg).1)⟩;rw [HST.out,redStep_empty];exact hown1
       case measure=>simp [intOf];omega
     ·obtain ⟨ys,a,rfl⟩:=eq_concat out1 hp
      have hba:=hok1 a (by simp);rw [List.length_append] at hown hlen;simp only [List.length_cons,List.length_nil,Nat.zero_add] at hown hlen;clear hp hok1;obtain ⟨A1,c1,rfl,hnc, -⟩:=owns_shape hown;obtain ⟨g,rfl, -, -⟩:=owns_addr hown (Nat.succ_pos _);have hca:wr.cell? ⟨g,ys.length,none⟩=some (.int .i64 a):=by
       rw [hown.cellAt ys.length (by omega)];simp [ints]
      have HA:=Lib.hid hba;obtain ⟨ha1,ha2⟩:=hba;by_cases hI:invB a x=true
      ·have HI:=Lib.hid hI
       clear hI;have hys:ys.length≤c1:=by omega
       go_wp2_with fail;refine (impl_areInverse _ _ _ ha1 ha2).mono ?_;rintro e w' ⟨rfl,rfl⟩;rw [HI.out];go_wp2_with fail;go_roundw
       case rel =>
        refine ⟨l+1,by omega,by go_num,?_,hb⟩;rw [HST.out,redStep_pop HI.out];have h1:=owns_cut hown (Nat.le_succ ys.length);rw [Nat.mul_one,ints_append,List.take_left' (ints_len ys)] at h1;exact h1
       case measure=>simp [intOf];omega
      ·have hI':invB a x=false:=by simpa using hI
       have HI:=Lib.hid hI';clear hI hI';go_wp2_with fail;refine (impl_areInverse _ _ _ ha1 ha2).mono ?_;rintro e w' ⟨rfl,rfl⟩;rw [HI.out];go_wp2_with (at_builtin;refine wpList_push rfl _ _ 34 rfl w.heap.size 3 (.int .i64 0) 1 8 undSI infoI rfl (by decide) _ _ _ rfl hown 1 [.int .i64 x] rfl rfl (one_of_ints [x]) (by unfold maxLen;omega) (by omega) hsz ?n2)
       case n2 =>
        intro v' w1 hown1 hgr _;go_wp2_with fail;go_roundw
        case rel =>
         refine ⟨l+1,by omega,by go_num,?_,hb.grown hgr hsz (fun g hg=>(hown.lt g hg).1)⟩;rw [HST.out,redStep_push HI.out,ints_append,List.length_append,List.length_append];exact hown1
        case measure=>simp [intOf];omega
    ·obtain rfl:l=xs.length:=by omega
     rw [List.take_length] at hown;go_wp2_with fail;go_roundw
     case rel =>
      refine ⟨k+1,by omega,by go_num,?_,hb⟩;rw [HS.out];exact hown
     case measure=>simp [intOf];omega
  ·obtain rfl:k=d.length:=by omega
   rw [List.take_length] at hown;go_wp2_with fail;go_ret;exact RetI.mk rfl hown hb
end
section
open Go.RowKit
end
section
open Go.RowKit
end
section
open Go.RowKit
section
variable {W:World} {ops:Array Oper} {rest:List Oper} {o:Oper} {ac:Act} {Q:Exit→Act→World→Prop}
end
theorem RetI.get {eI:TypeId} {xs:List Int} {w w':World} {e:Ending} (h:RetI eI xs w e w'):∃ A c,e=.returned (.slice A xs.length c)∧w'.ownsRow w.heap.size eI 1 (.slice A xs.length c) xs.length (ints xs)∧Mid 0 0 w w':=by
 obtain ⟨A,c,h1,h2,h3⟩:=h;exact ⟨A,c,h1,h2,Mid.of_below h3⟩
end
section
open Go.RowKit
def RSC (w:World) (lo hi:Nat) (A:Option Addr) (xss:List (List Int)):Prop :=
 ∃ rows,rowsD rows=xss∧RV w lo hi A (rowsV rows)∧∀ r∈rows,RV w lo hi r.A (ints r.xs)∧r.xs.length≤r.c
section
variable {w w':World} {lo hi a b:Nat} {A:Option Addr} {xss:List (List Int)}
theorem RSC.rss (h:RSC w lo hi A xss):RSS w lo hi A xss:=by
 obtain ⟨rows,h1,h2,h3⟩:=h;exact ⟨rows,h1,h2,fun r hr=>(h3 r hr).1⟩
theorem RSC.size (h:RSC w lo hi A xss):hi≤w.heap.size:=h.rss.size
theorem RSC.mid (h:RSC w lo hi A xss) (m:Mid a b w w') (hd:b≤lo ∨ hi≤a):RSC w' lo hi A xss:=by
 obtain ⟨rows,h1,h2,h3⟩:=h;exact ⟨rows,h1,h2.mid m hd,fun r hr=>⟨(h3 r hr).1.mid m hd,(h3 r hr).2⟩⟩
theorem owns_cap {e:TypeId} {base size n c:Nat} {xs:List Value} (h:w.ownsRow base e size (.slice A n c) n xs):n≤c:=by
 obtain ⟨_,_,e,h1,_⟩:=owns_shape h;injection e with _ _ e
 omega
theorem OSS.rsc {tSI tI:TypeId} {c:Nat} (h:OSS w lo hi tSI tI A c xss):RSC w lo hi A xss:=by
 obtain ⟨_,rows,h1,h2,h3⟩:=h;exact ⟨rows,h1,h2.rv,fun r hr=>⟨(h3.1 r hr).rv,owns_cap (h3.1 r hr).2.1⟩⟩
theorem RSC.row (h:RSC w lo hi A xss) {k:Nat} (hk:k < xss.length) :
  ∃ b off A' c' xs,A=some ⟨b,off,none⟩∧lo≤b∧b < hi∧xss[k]?=some xs∧w.cell? ⟨b,off+k,none⟩=some (.slice A' xs.length c')∧RV w lo hi A' (ints xs)∧xs.length≤c':=by
 obtain ⟨rows,rfl,h2,h3⟩:=h;rw [rowsD_len] at hk;obtain ⟨b,off,e,hb,hb2,hc⟩:=h2.2 (by intro h0;have:=congrArg List.length h0;rw [rowsV_len] at this;simp at this;subst this;simp at hk);obtain ⟨r,hr⟩:=get_of_lt rows hk;refine ⟨b,off,r.A,r.c,r.xs,e,hb,hb2,by simp [rowsD,hr],hc k _ (by simp [rowsV,hr,Row.v]),(h3 r (List.mem_of_getElem? hr)).1,(h3 r (List.mem_of_getElem? hr)).2⟩
end
end
section
open Go.RowKit
abbrev obS (A:Option Addr) (n c:Nat):Option Nat:=Value.ownBlock (.slice A n c)
structure Own1 (w:World) (lo:Nat) (A:Option Addr) (n c:Nat) (rows:List Row):Prop where
 out:w.ownsRow lo 34 1 (.slice A n c) n (rowsV rows)
 rows:OwnRows w lo w.heap.size 3 rows
section
variable {w w':World} {lo:Nat} {A A2:Option Addr} {n c n2 c2:Nat} {rows rows2:List Row}
theorem Own1.mid (h:Own1 w lo A n c rows) (m:Mid 0 0 w w'):Own1 w' lo A n c rows :=
 ⟨owns_mid h.out m oZl,(h.rows.mid m oZl).wide (Nat.le_refl _) m.size (Nat.le_refl _)⟩
theorem Own1.len (h:Own1 w lo A n c rows):rows.length=n:=by
 have:=h.out.1;rw [rowsV_len] at this;omega
theorem Own1.lt (h:Own1 w lo A n c rows) {g:Nat} (hg:obS A n c=some g):lo≤g∧g < w.heap.size:=h.out.lt g hg
theorem Own1.oss (h:Own1 w lo A n c rows) {xss:List (List Int)} (hd:rowsD rows=xss):OSS w lo w.heap.size 34 3 A c xss:=OSS.mk' h.out h.rows hd
theorem Own1.base {lo':Nat} (h:Own1 w lo A n c rows) (hl:lo'≤lo):Own1 w lo' A n c rows:=⟨owns_base h.out hl,h.rows.wide hl (Nat.le_refl _) (Nat.le_refl _)⟩
theorem Own1.other (h:Own1 w lo A n c rows) (h2:Own1 w lo A2 n2 c2 rows2) (hd:∀ g,obS A n c=some g→obS A2 n2 c2≠some g) (hg:w.grownBy w' (obS A2 n2 c2)):Own1 w' lo A n c rows:=by
 refine ⟨h.out.kept hg ?_,(h.rows.grown h2.out (by decide) hg).wide (Nat.le_refl _) hg.size (Nat.le_refl _)⟩;cases hv:Value.ownBlock (.slice A n c) with
 | none=>exact .inl rfl
 | some j=>exact .inr fun e=>hd j hv e.symm
theorem Own1.row (h:Own1 w lo A n c rows) {k:Nat} {r:Row} (hk:rows[k]?=some r):∃ b,A=some ⟨b,0,none⟩∧lo≤b∧b < w.heap.size∧w.cell? ⟨b,k,none⟩=some r.v∧RV w lo w.heap.size r.A (ints r.xs)∧r.xs.length≤r.c:=by
 have hl:=(List.getElem?_eq_some_iff.1 hk).1;obtain ⟨b,hA,h1,h2⟩:=owns_addr h.out (show 0 < n by have:=h.len;omega);subst hA;have hm:=h.rows.1 r (List.mem_of_getElem? hk);exact ⟨b,rfl,h1,h2,(h.out.cellAt k (by have:=h.len;omega)).trans (by simp [rowsV,hk]),OV.rv hm,owns_cap hm.2.1⟩
theorem Own1.push {W W':World} {A':Option Addr} {c':Nat} {r:Row} (h:Own1 w lo A n c rows) (m:Mid 0 0 w W) (hl:lo≤w.heap.size) (hrow:W.ownsRow w.heap.size 3 1 r.v r.xs.length (ints r.xs))
  (h1:W'.ownsRow lo 34 1 (.slice A' (n+1) c') (n+1) (rowsV rows++[r.v])) (h2:W.grownBy W' (obS A n c)):Own1 W' lo A' (n+1) c' (rows++[r]):=by
 refine ⟨by rw [rowsV_append];exact h1,?_⟩;have k1:=(h.rows.mid m oZl).push (r:=r) (base:=w.heap.size) (hi':=W.heap.size) hrow (Nat.le_refl _) hl m.size (Nat.le_refl _) (fun g hg=>(hrow.lt g hg).2);exact (k1.grown (h.mid m).out (by decide) h2).wide (Nat.le_refl _) h2.size (Nat.le_refl _)
end
theorem Own1.empty (w:World):Own1 (w.alloc (.cells #[] 34)) w.heap.size (some ⟨w.heap.size,0,none⟩) 0 0 []:=⟨owns_empty w 34 1,OwnRows.nil⟩
def Apart (A:Option Addr) (n c:Nat) (A2:Option Addr) (n2 c2:Nat):Prop:=∀ g,obS A n c=some g→obS A2 n2 c2≠some g
theorem Apart.symm {A A2:Option Addr} {n c n2 c2:Nat} (h:Apart A n c A2 n2 c2):Apart A2 n2 c2 A n c:=fun g hg e=>h g e hg
theorem Apart.push {W:World} {lo:Nat} {A A' A2:Option Addr} {n c n' c' n2 c2:Nat} {rows2:List Row} (h:Apart A n c A2 n2 c2) (hat:obS A' n' c'=obS A n c ∨ obS A' n' c'=some (W.heap.size+1)) (h2:Own1 W lo A2 n2 c2 rows2):Apart A' n' c' A2 n2 c2:=by
 intro g hg e;rcases hat with hat | hat
 ·exact h g (hat ▸ hg) e
 ·rw [hat] at hg
  injection hg with hg
  have:=h2.lt e;omega
theorem rs_one {w:World} {p:Nat} {v:Value} (h:w.cell? ⟨p,0,none⟩=some v):Rs w (p+1) (some ⟨p,0,none⟩) [v]:=fun _=>⟨p,0,rfl,Nat.lt_succ_self _,fun j u hu=>by
 rcases j with _ | j
 ·rw [← hu];exact h
 ·simp at hu⟩
theorem cell_grown {w w':World} {row:Option Nat} {b i:Nat} {v:Value} (hg:w.grownBy w' row) (hb:b < w.heap.size) (hn:some b≠row) (h:w.cell? ⟨b,i,none⟩=some v):w'.cell? ⟨b,i,none⟩=some v :=
 (World.cell?_of_block (hg.block b hb hn)).trans h
theorem own_ne {b g n c:Nat} (h:b≠g):some b≠Value.ownBlock (.slice (some ⟨g,0,none⟩) n c):=fun e=>by
 have e':some b=some g:=e;injection e' with e'
 exact h e'
section
variable {W:World} {ops:Array Oper} {rest:List Oper} {o:Oper} {ac:Act} {Q:Exit→Act→World→Prop}
theorem wpList_push1 {w:World} {lo:Nat} {A:Option Addr} {n c:Nat} {rows:List Row} (hgd:o.guard=none) (s x:Operand)
  (ho:o.op=.call { callee:=.builtin .append,args:=#[s,x],argTypes:=#[41,41] }) (hs:ac.eval s=.slice A n c)
  (h:Own1 w lo A n c rows) (m:Mid 0 0 w W) (r:Row) (u:Value) (hu:r.v=u) (hrow:W.ownsRow w.heap.size 3 1 r.v r.xs.length (ints r.xs)) (hx:ac.eval x=.slice (some ⟨W.heap.size,0,none⟩) 1 1) (hn:n≤1048576) (hb:lo≤w.heap.size)
  (hk:∀ A' c' w',Own1 w' lo A' (n+1) c' (rows++[r])→W.grownBy w' (obS A n c)→(obS A' (n+1) c'=obS A n c ∨ obS A' (n+1) c'=some (W.heap.size+1))→wpList Tryz.prog ops Q rest (ac.put o.dst (.slice A' (n+1) c')) w') :
  wpList Tryz.prog ops Q (o :: rest) ac (W.alloc (.cells #[u] 34)):=by
 subst hu;have hms:=m.size;refine wpList_push (news:=[r.v]) hgd s x 41 ho lo 34 (.slice none 0 0) 1 24 undSSI infoSI rfl (by decide) (.slice A n c) n (rowsV rows) hs (h.mid m).out 1 hx rfl ?_ (by unfold maxLen;omega) (by omega) (by omega) ?_
 ·intro u hu
  simp at hu;subst hu
  rfl
 ·intro v' w' h1 h2 h3
  obtain ⟨A',c',rfl, -, -⟩:=owns_shape h1;exact hk A' c' w' (h.push m hb hrow h1 h2) h2 h3
theorem step_push1 {K:Act→World→Prop} {E:Prop} {w:World} {lo:Nat} {A:Option Addr} {n c:Nat} {rows:List Row} (hgd:o.guard=none) (s x:Operand)
  (ho:o.op=.call { callee:=.builtin .append,args:=#[s,x],argTypes:=#[41,41] }) (hs:ac.eval s=.slice A n c)
  (h:Own1 w lo A n c rows) (m:Mid 0 0 w W) (r:Row) (u:Value) (hu:r.v=u) (hrow:W.ownsRow w.heap.size 3 1 r.v r.xs.length (ints r.xs)) (hx:ac.eval x=.slice (some ⟨W.heap.size,0,none⟩) 1 1) (hn:n≤1048576) (hb:lo≤w.heap.size)
  (hk:∀ A' c' w',Own1 w' lo A' (n+1) c' (rows++[r])→W.grownBy w' (obS A n c)→(obS A' (n+1) c'=obS A n c ∨ obS A' (n+1) c'=some (W.heap.size+1))→K (ac.put o.dst (.slice A' (n+1) c')) w') :
  if Region.wanted o (yielded ops ac.tmps)=true then Oper.wp Tryz.prog o ac (W.alloc (.cells #[u] 34)) K Q else E:=by
 subst hu;have hms:=m.size;refine step_cat (w:=W.alloc (.cells #[r.v] 34)) hgd s x 41 ho lo 34 (.slice none 0 0) 1 24 undSSI infoSI rfl (by decide) (.slice A n c) n (rowsV rows) hs ((h.mid m).out.alloc _) (some ⟨W.heap.size,0,none⟩) 1 1 (W.heap.size+1) [r.v] hx (fun _=>⟨W.heap.size,0,rfl,Nat.lt_succ_self _,fun j u hu=>(World.cell?_alloc_at _ _ _ _ rfl).trans (by simpa using hu)⟩) rfl ?_ (by unfold maxLen;omega) (by omega) (by simp;omega) ?_
 ·intro u hu
  simp at hu;subst hu
  rfl
 ·intro v' w' h1 h2 h3
  obtain ⟨A',c',rfl, -, -⟩:=owns_shape h1;have h2':=grown_trans (World.grownBy_alloc W _ _) h2;exact hk A' c' w' (h.push m hb hrow h1 h2') h2' (by simpa using h3)
end
end
section
open Go.RowKit
section
variable {w w' W W':World} {lo a b:Nat} {A A':Option Addr} {n c c':Nat} {rows:List Row} {r:Row}
theorem Own1.midB (h:Own1 w lo A n c rows) (m:Mid a b w w') (hd:b≤lo):Own1 w' lo A n c rows :=
 ⟨owns_mid h.out m (Or.inl hd),(h.rows.mid m (Or.inl hd)).wide (Nat.le_refl _) m.size (Nat.le_refl _)⟩
theorem Own1.pushB (h:Own1 w lo A n c rows) (m:Mid a b w W) (hd:b≤lo) (hl:lo≤w.heap.size) (hrow:W.ownsRow w.heap.size 3 1 r.v r.xs.length (ints r.xs))
  (h1:W'.ownsRow lo 34 1 (.slice A' (n+1) c') (n+1) (rowsV rows++[r.v])) (h2:W.grownBy W' (obS A n c)):Own1 W' lo A' (n+1) c' (rows++[r]):=by
 refine ⟨by rw [rowsV_append];exact h1,?_⟩;have k1:=(h.rows.mid m (Or.inl hd)).push (r:=r) (base:=w.heap.size) (hi':=W.heap.size) hrow (Nat.le_refl _) hl m.size (Nat.le_refl _) (fun g hg=>(hrow.lt g hg).2);exact (k1.grown (h.midB m hd).out (by decide) h2).wide (Nat.le_refl _) h2.size (Nat.le_refl _)
variable {ops:Array Oper} {rest:List Oper} {o:Oper} {ac:Act} {Q:Exit→Act→World→Prop}
theorem wpList_pushB (hgd:o.guard=none) (s x:Operand)
  (ho:o.op=.call { callee:=.builtin .append,args:=#[s,x],argTypes:=#[41,41] }) (hs:ac.eval s=.slice A n c)
  (h:Own1 w lo A n c rows) (m:Mid a b w W) (hd:b≤lo) (r:Row) (u:Value) (hu:r.v=u) (hrow:W.ownsRow w.heap.size 3 1 r.v r.xs.length (ints r.xs)) (hx:ac.eval x=.slice (some ⟨W.heap.size,0,none⟩) 1 1) (hn:n≤1048576) (hb:lo≤w.heap.size)
  (hk:∀ A' c' w',Own1 w' lo A' (n+1) c' (rows++[r])→W.grownBy w' (obS A n c)→wpList Tryz.prog ops Q rest (ac.put o.dst (.slice A' (n+1) c')) w') :
  wpList Tryz.prog ops Q (o :: rest) ac (W.alloc (.cells #[u] 34)):=by
 subst hu;have hms:=m.size;refine wpList_push (news:=[r.v]) hgd s x 41 ho lo 34 (.slice none 0 0) 1 24 undSSI infoSI rfl (by decide) (.slice A n c) n (rowsV rows) hs (h.midB m hd).out 1 hx rfl ?_ (by unfold maxLen;omega) (by omega) (by omega) ?_
 ·intro u hu
  simp at hu;subst hu
  rfl
 ·intro v' w' h1 h2 h3
  obtain ⟨A',c',rfl, -, -⟩:=owns_shape h1;exact hk A' c' w' (h.pushB m hd hb hrow h1 h2) h2
end
def DrWs (l:List (List Int)):Prop:=l.length≤5∧∀ w∈l,w.length≤5∧LtW w∧Rd w
theorem DrWs.len {l:List (List Int)} (h:DrWs l):∀ {k:Nat},sumL (l.take k)≤5 * k:=by
 intro k
 induction k with
 | zero=>simp [sumL]
 | succ k ih =>
  by_cases hk:k < l.length
  ·have e:=sumL_take_succ (List.getElem?_eq_getElem hk)
   have:=(h.2 _ (List.getElem_mem hk)).1;omega
  ·rw [List.take_of_length_le (by omega)] at ih ⊢
   omega
theorem DrWs.sum {l:List (List Int)} (h:DrWs l):sumL l≤25:=by
 have:=h.len (k:=l.length);rw [List.take_length] at this;have:=h.1;omega
theorem DrWs.ok {l:List (List Int)} (h:DrWs l):OkSS l:=⟨⟨by have:=h.1;omega,fun xs hx=>by have:=(h.2 xs hx).1;omega⟩,fun xs hx=>(h.2 xs hx).2.1.ok⟩
theorem l6Words_any (r:Int) (hr1:1≤r) (hr3:r≤3) (p:Nat) (A:Option Addr) (bs:List Int) (c:Nat) (w:World) (hb:OkB bs) (hl:bs.length≤1048576) (h:Cur w p A bs c) :
  Calls Tryz.prog 225 #[.pointer (some ⟨p,0,none⟩),.int .i64 r] w fun e w'=>∃ A' c' rows,e=.returned (.slice A' (List.length rows) c')∧((rowsD rows).length≤3∧DrWs (rowsD rows))∧Own1 w' w.heap.size A' rows.length c' rows∧Cur w' p A bs c∧Mid p (p+1) w w':=by
 have hpw:=h.lt;have hal:=Mid.alloc w (.cells #[] 34);have ho:=Own1.empty w;have h0:=h.mid hal (Or.inr rfl);go_enter Tryz.func225,Tryz.ntmps225
 go_wp2_with fail;with_reducible refine (l1BelowI 4 (by decide) (by decide) p A bs c _ hb hl h0).mono ?_
 rintro e w1 ⟨n0,rfl,hn0,h1,m1⟩;have ho1:=ho.midB m1 (by omega);have hm1:=hal.zero.trans m1;have hs1:=hm1.size;clear h0 hal m1 ho;go_wp2_with fail;go_loopw [5,6] (fun wv nv wr=>∃ (rows:List Row) (n:Nat) (Ax:Option Addr) (cx L:Nat),nv=.int .i64 n∧wv=.slice Ax L cx∧Hid (rows.length=L)∧L+n≤3∧Hid (DrWs (rowsD rows))∧Own1 wr w.heap.size Ax L cx rows∧Cur wr p A bs c∧Mid p (p+1) w wr)
  (fun _ nv _=>natV nv)
 case atStart=>exact ⟨[],n0,_,_,0,rfl,rfl,Lib.hid rfl,by omega,Lib.hid ⟨by simp [rowsD],by simp [rowsD]⟩,ho1,h1,hm1⟩
 case round =>
  obtain ⟨rows,n,Ax,cx,L,rfl,rfl,HL,hLm,HW,ho,hc,hm⟩:=hrel;have hs:=hm.size;by_cases hlt:0 < n
  ·go_wp2_with fail
   with_reducible refine (l2Of_any r hr1 hr3 5 (by decide) (by decide) p A bs c _ hb hl hc).mono ?_
   rintro e w2 ⟨Ay,cy,ys,rfl,⟨hyl,hyw,hyr⟩,oy,hc2,m2⟩;have hoy:=oy.2.1;have HY:=Lib.hid (show ys.length≤5∧LtW ys∧Rd ys from ⟨by omega,hyw,hyr⟩);have hm2:=hm.trans m2;have hs2:=hm2.size;clear hyl hyw hyr oy hc hm;go_wp2_with (at_builtin;refine wpList_pushB rfl _ _ rfl rfl ho m2 hpw ⟨Ay,cy,ys⟩ _ rfl hoy rfl (by omega) hs ?next)
   case next =>
    intro A3 c3 w3 ho3 hgr3;have m3:Mid w.heap.size w2.heap.size w2 w3:=Mid.of_grownRow (ho.midB m2 hpw).out hgr3;go_wp2_with fail;go_roundw
    case rel =>
     refine ⟨rows++[⟨Ay,cy,ys⟩],n - 1,A3,c3,L+1,by go_num,rfl,Lib.hid (by simp [HL.out]),by omega,Lib.hid ?_,ho3,hc2.mid m3 (Or.inl hpw),hm2.transNew m3 (Or.inl (Nat.le_refl _))⟩;have h1:=HW.out;have h2:=HL.out;rw [rowsD_append];refine ⟨by rw [List.length_append,rowsD_len];simp [rowsD];omega,fun x hx=>?_⟩;rcases List.mem_append.1 hx with hx | hx
     ·exact h1.2 x hx
     ·simp [rowsD] at hx
      rw [hx];exact HY.out
    case measure=>simp [natV];omega
  ·go_wp2_with fail
   go_ret;have hle:=HL.out;refine ⟨Ax,cx,rows,by rw [hle];rfl,⟨by rw [rowsD_len];omega,HW.out⟩,by rw [hle];exact ho,hc,hm⟩
end
def foldsUp (es:List Ed):Nat→List (Int × Int)
 | 0=>[]
 | k+1=>foldsUp es k++(match es[k]? with | none=>[] | some e=>(es.drop (k+1)).flatMap (foldsAB e))
theorem foldsUp_succ {es:List Ed} {k:Nat} {e:Ed} (h:es[k]?=some e):foldsUp es (k+1)=foldsUp es k++(es.drop (k+1)).flatMap (foldsAB e):=by
 rw [foldsUp,h]
theorem foldsUp_cons (f:Ed) (t:List Ed):∀ k,foldsUp (f :: t) (k+1)=t.flatMap (foldsAB f)++foldsUp t k
 | 0=>by simp [foldsUp]
 | k+1=>by
  rw [foldsUp,foldsUp_cons f t k,foldsUp,List.append_assoc];simp
theorem foldsUp_all:∀ es:List Ed,foldsUp es es.length=folds es
 | []=>rfl
 | f :: t=>by rw [List.length_cons,foldsUp_cons,foldsUp_all t,folds]
theorem foldsAB_len (e f:Ed):(foldsAB e f).length≤2:=by
 unfold foldsAB;split
 ·split <;> split <;> simp
 ·simp
theorem flat_len (e:Ed):∀ t:List Ed,(t.flatMap (foldsAB e)).length≤2 * t.length
 | []=>by simp
 | f :: t=>by
  have:=flat_len e t;have:=foldsAB_len e f;rw [List.flatMap_cons,List.length_append,List.length_cons];omega
theorem foldsUp_len (es:List Ed):∀ k,(foldsUp es k).length≤k * (2 * es.length)
 | 0=>by simp [foldsUp]
 | k+1=>by
  have:=foldsUp_len es k;rw [foldsUp,List.length_append,Nat.succ_mul];cases h:es[k]? with
  | none=>simp;omega
  | some e =>
   have h1:=flat_len e (es.drop (k+1));rw [List.length_drop] at h1;simp only;omega
def fdI (ps:List (Int × Int)):List Int:=(ps.map fun p=>[p.1,p.2]).flatten
theorem fdI_append (a b:List (Int × Int)):fdI (a++b)=fdI a++fdI b:=by simp [fdI]
theorem fdI_one (p:Int × Int):fdI [p]=[p.1,p.2]:=by simp [fdI]
theorem fdI_head (p:Int × Int) (t:List (Int × Int)):fdI (p :: t)=p.1 :: p.2 :: fdI t:=by simp [fdI]
theorem flat_take {e:Ed} {fs:List Ed} {j:Nat} {f:Ed} (h:fs[j]?=some f):(fs.take (j+1)).flatMap (foldsAB e)=(fs.take j).flatMap (foldsAB e)++foldsAB e f:=by
 rw [take_snoc h,List.flatMap_append];simp
end Go.Proofs.YthampgpcajmopaaGreat
