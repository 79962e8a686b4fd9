/- Contracts and lemmas of this seat, many texts in one: see the words ahead of each. No condition beyond those typed in each lemma. -/
import Derived.Test.YtkimajabegojoaaGreatNi3
import Derived.Test.YtkimajabegojoaaGreatNi2
import Derived.Test.YtkimajabegojoaaGreatNi1
import Derived.Deep.RegionHeld3

namespace Go.Proofs.YtkimajabegojoaaGreat
set_option linter.unusedVariables false
set_option linter.unusedSimpArgs false
set_option maxHeartbeats 40000000
set_option maxRecDepth 100000
section
open Go.RowKit
theorem IsGr.nat {r s:Int} {es:List Ed} (h:IsGr r s es):∃ k n:Nat,r=k∧s=n:=by
 have h1:=h.rank;have h2:=h.size;exact ⟨r.toNat,s.toNat,by omega,by omega⟩
theorem impl_IsCore (r s:Int) (A:Option Addr) (es:List Ed) (c:Nat) (w:World) (lo hi:Nat) (hr:RG w lo hi A es) (hl:es.length≤1048576) (hcl:es.length≤c) (b:Bool) (hb:b=true↔IsCor r s es) :
  Calls Tryz.prog 105 #[graV r s A es.length c] w fun e w'=>e=.returned (.bool b)∧Mid 0 0 w w':=by
 have HB:=Lib.hid hb;clear hb;have hm0:Mid 0 0 w (w.alloc (.cells #[.int .i64 r,.int .i64 s,.slice A es.length c] 35)):=Mid.alloc _ _;have b0:=Box.new w #[.int .i64 r,.int .i64 s,.slice A es.length c] 35;by_cases hf:IsFol r s es
 ·obtain ⟨r,n,rfl,rfl⟩:=hf.gr.nat
  have hn1:0 < n:=by have:=hf.gr.size;omega
  have HF:=Lib.hid hf;obtain ⟨T,hT⟩:∃ T,trimA 40 ((n:Int),es)=T:=⟨_,rfl⟩
  have HTS:Hid (T.1=n↔leaf n es=none):=Lib.hid (by rw [← hT];exact trimA_same (g:=((n:Int),es)) (by omega));have hTg:IsGr r T.1 T.2:=by rw [← hT];exact trimA_gr 40 (g:=((n:Int),es)) hf.gr
  obtain ⟨tr,tn, -,htn⟩:=hTg.nat;obtain ⟨ts,te⟩:=T;simp only at htn HTS;subst htn;have htl:=hTg.len;have HTR:=Lib.hid hT;clear hf hT hTg;have hTRIM:=fun W h=>impl_TrimGraph r n A es c W lo hi h HF.out.gr;simp only [HTR.out] at hTRIM;have HTRIM:=Lib.hid hTRIM;clear hTRIM HTR;go_enter Tryz.func105,Tryz.ntmps105
  go_wp2_with fail;with_reducible refine (impl_IsFolded r n A es c _ _ _ (hr.mid hm0 oZl) hl hcl true (iff_of_true rfl HF.out)).mono ?_
  rintro en w1 ⟨rfl,hm1⟩;replace b0:=b0.mid hm1 oZr;replace hm0:=hm0.trans hm1;have p0:=b0.cell 0 rfl;have p1:=b0.cell 1 rfl;have p2:=b0.cell 2 rfl;go_wp2_with fail;with_reducible refine (HTRIM.out _ (hr.mid hm0 oZl)).mono ?_
  rintro en w2 ⟨A1,c1,Al,nl,cl,rfl,hog,hm2⟩;replace b0:=b0.mid hm2 oZr;replace hm0:=hm0.trans hm2;have hal:=Mid.alloc w2 (.cells #[.int .i64 r,.int .i64 tn,.slice A1 te.length c1] 35);have bt:=Box.new w2 #[.int .i64 r,.int .i64 tn,.slice A1 te.length c1] 35;replace b0:=b0.mid hal oZr;replace hm0:=hm0.trans hal;clear p0 p1 p2 HTRIM;go_wp2_with fail;generalize w2.alloc (.cells #[.int .i64 r,.int .i64 tn,.slice A1 te.length c1] 35)=w3 at b0 bt hm0 ⊢;by_cases hts:(tn:Int)=n
  ·have hlf:=HTS.out.1 hts
   obtain rfl:tn=n:=by omega
   obtain ⟨C,hC⟩:∃ C,canonG r ((tn:Int),es)=C:=⟨_,rfl⟩
   have hCg:IsGr r C.1 C.2:=by rw [← hC];exact canonG_gr (g:=((tn:Int),es)) HF.out.gr
   have HB2:Hid (b=true↔(r:Int)=r∧C.1=tn∧C.2=es):=Lib.hid (by
    rw [HB.out];constructor
    ·intro h
     have h1:=h.canon;rw [hC] at h1;exact ⟨rfl,by rw [h1],by rw [h1]⟩
    ·rintro ⟨-,h1,h2⟩
     exact ⟨HF.out,hlf,by rw [hC];exact Prod.ext h1 h2⟩)
   have hcl2:=hCg.len;have hmd:=Mid.drew1 w3;replace b0:=b0.mid hmd oZr;replace bt:=bt.mid hmd oZr;replace hm0:=hm0.trans hmd;have p0:=b0.cell 0 rfl;have p1:=b0.cell 1 rfl;have p2:=b0.cell 2 rfl;have q1:=bt.cell 1 rfl;have hCAN:=fun W h=>impl_CanonicalGraph r tn A es c W lo hi h hcl HF.out.gr;simp only [hC] at hCAN;have HCAN:=Lib.hid hCAN;clear hCAN hC hCg HB hlf HTS hts hmd;refine wp_region_T (S:=(fun w'=>w'.cell? ⟨w.heap.size,0,none⟩=some (.int .i64 r)∧w'.cell? ⟨w.heap.size,1,none⟩=some (.int .i64 tn)∧w'.cell? ⟨w.heap.size,2,none⟩=some (.slice A es.length c)∧w'.cell? ⟨w2.heap.size,1,none⟩=some (.int .i64 tn))) 11 (by kernel_rfl) ⟨p0,p1,p2,q1⟩ ?_;generalize World.drew w3=wz at b0 bt hm0 p0 p1 p2 q1 ⊢;have hS:wz.cell? ⟨w.heap.size,0,none⟩=some (.int .i64 r)∧wz.cell? ⟨w.heap.size,1,none⟩=some (.int .i64 tn)∧wz.cell? ⟨w.heap.size,2,none⟩=some (.slice A es.length c)∧wz.cell? ⟨w2.heap.size,1,none⟩=some (.int .i64 tn):=⟨p0,p1,p2,q1⟩
   refine tkT 0 rfl hS ?_;try simp only [Act.put,zs1,zs2,zs3,zs4,zs5,zs6]
   refine tkT 1 rfl hS ?_;try simp only [Act.put,zs1,zs2,zs3,zs4,zs5,zs6]
   refine tkT 2 rfl hS ?_;try simp only [Act.put,zs1,zs2,zs3,zs4,zs5,zs6]
   refine tkT 3 rfl hS ?_;try simp only [Act.put,zs1,zs2,zs3,zs4,zs5,zs6]
   refine tkT 4 rfl hS ?_;try simp only [Act.put,zs1,zs2,zs3,zs4,zs5,zs6]
   refine tkT 5 rfl hS ?_;try simp only [Act.put,zs1,zs2,zs3,zs4,zs5,zs6]
   refine tkT 6 rfl hS ?_;try simp only [Act.put,zs1,zs2,zs3,zs4,zs5,zs6]
   refine tkT 8 rfl hS ?_;try simp only [Act.put,zs1,zs2,zs3,zs4,zs5,zs6]
   refine rdT 7 rfl (fun K hK=>?_)
   (go_simp;refine (HCAN.out _ (hr.mid hm0 oZl)).mono ?_;rintro en w4 ⟨A4,c4,rfl,hog4,hm4⟩;have b0':=b0.mid hm4 oZr;have bt':=bt.mid hm4 oZr;go_wp2_with fail)
   refine hK.out _ _ (Or.inr ⟨b0'.cell 0 rfl,b0'.cell 1 rfl,b0'.cell 2 rfl,bt'.cell 1 rfl⟩) (fun _=>?_);clear hK K;try simp only [Act.put,zs1,zs2,zs3,zs4,zs5,zs6]
   replace hm0:=hm0.trans hm4;have hE:=impl_EqualGraphs r C.1 A4 C.2 c4 r tn A es c w4 _ _ _ _ hog4.rg (hr.mid hm0 oZl) (by omega) hl b (by have h:=HB2.out;simpa using h);have HE:=Lib.hid hE;clear hS p0 p1 p2 q1 b0 bt HCAN HB2 hE hm4;refine rdT 9 rfl (fun K hK=>?_)
   (go_simp;refine HE.out.mono ?_;rintro en w5 ⟨rfl,hm5⟩;have b0:=b0'.mid hm5 oZr;have bt:=bt'.mid hm5 oZr;go_wp2_with fail)
   refine hK.out _ _ (Or.inr ⟨b0.cell 0 rfl,b0.cell 1 rfl,b0.cell 2 rfl,bt.cell 1 rfl⟩) (fun _=>?_);clear hK K;try simp only [Act.put,zs1,zs2,zs3,zs4,zs5,zs6]
   have hS2:w5.cell? ⟨w.heap.size,0,none⟩=some (.int .i64 r)∧w5.cell? ⟨w.heap.size,1,none⟩=some (.int .i64 tn)∧w5.cell? ⟨w.heap.size,2,none⟩=some (.slice A es.length c)∧w5.cell? ⟨w2.heap.size,1,none⟩=some (.int .i64 tn):=⟨b0.cell 0 rfl,b0.cell 1 rfl,b0.cell 2 rfl,bt.cell 1 rfl⟩
   have hmm:=hm0.trans hm5;clear HE b0' bt';refine tkT 10 rfl hS2 ?_;try simp only [Act.put,zs1,zs2,zs3,zs4,zs5,zs6]
   refine rdT 11 rfl (fun K hK=>?_)
   (go_simp)
   refine hK.out _ _ (Or.inl rfl) (fun _=>?_);clear hK K;try simp only [Act.put,zs1,zs2,zs3,zs4,zs5,zs6]
   refine wpAnyT_done (by kernel_rfl) ?_ _;go_wp2_with fail;go_ret;exact ⟨rfl,hmm⟩
  ·obtain rfl:b=false:=bool_no HB.out fun h=>hts (HTS.out.2 h.leaf)
   have d1:((tn:Int) == (n:Int))=false:=by simpa only [beq_eq_false_iff_ne] using hts
   have d2:¬ tn=n:=fun h=>hts (by rw [h]);have u0:=wg_cell b0.1 (b0.cell 0 rfl);have u1:=wg_cell b0.1 (b0.cell 1 rfl);have u2:=wg_cell b0.1 (b0.cell 2 rfl);have v1:=wg_cell bt.1 (bt.cell 1 rfl);clear HB HTS hts;refine wp_region_quiet_wg (by kernel_rfl) (by kernel_rfl) ?_;repeat
    (with_reducible refine wpQuiet_step (fun K hK=>?_))
    go_simp
    first
     | ((with_reducible refine hK _ ?_);clear hK K)
     | (rw [if_neg (by decide)];(with_reducible refine hK _ ?_);clear hK K)
     | (apply Exists.intro;refine ⟨fun _=>?_,hK _ ?_⟩;(fail);clear hK K)
   with_reducible refine wpQuiet_nil ?_
   intro _ hw';obtain ⟨⟨nq,osq⟩,hw''⟩:=hw';subst hw'';go_wp2_with fail;go_ret;exact ⟨rfl,hm0.trans (Mid.ofWg w3 nq osq)⟩
 ·obtain rfl:b=false:=bool_no HB.out fun h=>hf h.fol
  have HF:=Lib.hid hf;clear hf HB;go_enter Tryz.func105,Tryz.ntmps105
  go_wp2_with fail;with_reducible refine (impl_IsFolded r s A es c _ _ _ (hr.mid hm0 oZl) hl hcl false (iff_of_false Bool.false_ne_true HF.out)).mono ?_
  rintro en w1 ⟨rfl,hm1⟩;go_wp2_with fail;go_ret;exact ⟨rfl,hm0.trans hm1⟩
open Classical in
noncomputable def rankI (r s:Int) (es:List Ed):Int:=if IsCor r s es then (es.length:Int) - s+1 else -1
theorem impl_RankOf (r s:Int) (A:Option Addr) (es:List Ed) (c:Nat) (w:World) (lo hi:Nat) (hr:RG w lo hi A es) (hl:es.length≤1048576) (hcl:es.length≤c) :
  Calls Tryz.prog 19 #[graV r s A es.length c] w fun e w'=>e=.returned (.int .i64 (rankI r s es))∧Mid 0 0 w w':=by
 have hm0:Mid 0 0 w (w.alloc (.cells #[.int .i64 r,.int .i64 s,.slice A es.length c] 35)):=Mid.alloc _ _;have b0:=Box.new w #[.int .i64 r,.int .i64 s,.slice A es.length c] 35;by_cases h:IsCor r s es
 ·have HR:Hid (rankI r s es=(es.length:Int) - s+1):=Lib.hid (by rw [rankI,if_pos h])
  have hsz:=h.fol.gr.size;have HC:=Lib.hid h;clear h;go_enter Tryz.func19,Tryz.ntmps19
  go_wp2_with fail;with_reducible refine (impl_IsCore r s A es c _ _ _ (hr.mid hm0 oZl) hl hcl true (iff_of_true rfl HC.out)).mono ?_
  rintro en w1 ⟨rfl,hm1⟩;replace b0:=b0.mid hm1 oZr;replace hm0:=hm0.trans hm1;have p0:=b0.cell 0 rfl;have p1:=b0.cell 1 rfl;have p2:=b0.cell 2 rfl;go_wp2_with fail;go_ret;exact ⟨by rw [HR.out];rfl,hm0⟩
 ·have HR:Hid (rankI r s es = -1):=Lib.hid (by rw [rankI,if_neg h])
  have HC:=Lib.hid h;clear h;go_enter Tryz.func19,Tryz.ntmps19
  go_wp2_with fail;with_reducible refine (impl_IsCore r s A es c _ _ _ (hr.mid hm0 oZl) hl hcl false (iff_of_false Bool.false_ne_true HC.out)).mono ?_
  rintro en w1 ⟨rfl,hm1⟩;go_wp2_with fail;go_ret;exact ⟨by rw [HR.out];rfl,hm0.trans hm1⟩
end
section
open Go.RowKit
end
section
open Go.RowKit
end
section
open Go.RowKit
end
section
open Go.RowKit
section
variable {w w':World} {lo a b:Nat} {A:Option Addr} {n c:Nat} {rows:List Row} {Aa:Option Addr} {act:List (List Int)}
end
section
variable {W:World} {ops:Array Oper} {rest:List Oper} {o:Oper} {ac:Act} {Q:Exit→Act→World→Prop}
end
end
section
open Go.RowKit
section
variable {P:Program} (w:World)
end
section
variable {W:World} {ops:Array Oper} {rest:List Oper} {o:Oper} {a:Act} {Q:Exit→Act→World→Prop}
end
section
variable {W:World} {ops:Array Oper} {rest:List Oper} {o:Oper} {ac:Act} {Q:Exit→Act→World→Prop}
end
end
section
def oneW (f:List Int→Int→Bool) (L:List Int) (w:List Int):List (List Int):=(L.filter (f w)).map fun x=>w++[x]
def layStep (f:List Int→Int→Bool) (L:List Int) (l:List (List Int)):List (List Int):=l.flatMap (oneW f L)
def lay (f:List Int→Int→Bool) (L:List Int):Nat→List (List Int)
 | 0=>[[]]
 | n+1=>layStep f L (lay f L n)
def pre (f:List Int→Int→Bool) (L:List Int):Nat→List (List Int)
 | 0=>[]
 | n+1=>pre f L n++lay f L n
section
variable {f:List Int→Int→Bool} {L:List Int}
end
end
section
open Go.RowKit
theorem impl_compareLetters (a b:Int) (w:World) (ha:-9223372036854775808≤a) (ha2:a≤9223372036854775807) (hb:-9223372036854775808≤b) (hb2:b≤9223372036854775807) :
  Calls Tryz.prog 191 #[.int .i64 a,.int .i64 b] w fun e w'=>e=.returned (.int .i64 (cmpL a b))∧w=w':=by
 by_cases hab:a=b
 ·subst hab
  have hr:cmpL a a=0:=by simp [cmpL]
  rw [hr];clear hr;go_enter Tryz.func191,Tryz.ntmps191
  go_wp2_with fail;go_ret;exact ⟨rfl,rfl⟩
 ·have hab':(a == b)=false:=by simpa using hab
  by_cases ham:a=minI
  ·have hr:cmpL a b=1:=by rw [cmpL,if_neg hab,if_pos ham]
   rw [hr];subst ham;unfold minI at *;clear ha ha2 hr hab;go_enter Tryz.func191,Tryz.ntmps191
   go_wp2_with fail;go_ret;exact ⟨rfl,rfl⟩
  ·by_cases hbm:b=minI
   ·have hr:cmpL a b = -1:=by rw [cmpL,if_neg hab,if_neg ham,if_pos hbm]
    have hlo:-9223372036854775807≤a:=by unfold minI at ham;omega
    rw [hr];subst hbm;unfold minI at *;clear hb hb2 hr ham;go_enter Tryz.func191,Tryz.ntmps191
    go_wp2_with fail;go_ret;exact ⟨rfl,rfl⟩
   ·have hlo:-9223372036854775807≤a:=by unfold minI at ham;omega
    have hlo2:-9223372036854775807≤b:=by unfold minI at hbm;omega
    clear ha hb;have hne:cmpL a b=if absI a < absI b then -1 else if absI b < absI a then 1 else if b < a then -1 else 1:=by rw [cmpL,if_neg hab,if_neg ham,if_neg hbm]
    have HR:=Lib.hid hne;have HAB:=Lib.hid hab;clear hab ham hbm hne;go_enter Tryz.func191,Tryz.ntmps191
    go_wp2_with fail;all_goals
     refine (impl_compareInts _ _ _).mono ?_;rintro e w' ⟨rfl,rfl⟩;generalize hk:cmpI _ _=k;have hv:k = -1 ∨ k=0 ∨ k=1:=hk ▸ cmpI_vals _ _;have HK:=Lib.hid hk;clear hk;rcases hv with rfl | rfl | rfl
     ·go_wp2_with fail
      go_ret;have hk:=HK.out;refine ⟨?_,rfl⟩;rw [HR.out];unfold cmpI at hk;unfold absI;repeat' split at hk
      all_goals first | (exfalso;omega) | skip
      repeat' split
      all_goals first | rfl | (exfalso;omega)
     ·go_wp2_with fail
      refine (impl_compareInts _ _ _).mono ?_;rintro e w' ⟨rfl,rfl⟩;go_wp2_with fail;go_ret;have hk:=HK.out;have hn:=HAB.out;refine ⟨?_,rfl⟩;rw [HR.out];unfold cmpI at hk ⊢;unfold absI;repeat' split at hk
      all_goals first | (exfalso;omega) | skip
      repeat' split
      all_goals first | rfl | (exfalso;omega)
     ·go_wp2_with fail
      go_ret;have hk:=HK.out;refine ⟨?_,rfl⟩;rw [HR.out];unfold cmpI at hk;unfold absI;repeat' split at hk
      all_goals first | (exfalso;omega) | skip
      repeat' split
      all_goals first | rfl | (exfalso;omega)
theorem l2_goal {x y r:Int} (h:cmpL x y=r):Ending.returned (.int .i64 r)=Ending.returned (.int .i64 (cmpL x y)):=by rw [h]
theorem spec_l2Order (x y:Int) (w:World) (hx:-9223372036854775808≤x) (hx2:x≤9223372036854775807) (hy:-9223372036854775808≤y) (hy2:y≤9223372036854775807) :
  Calls Tryz.prog 192 #[.int .i64 x,.int .i64 y] w fun e w'=>e=.returned (.int .i64 (cmpL x y))∧w=w':=by
 obtain ⟨nx,hnx⟩:∃ nx,wrap64 (-x)=nx:=⟨_,rfl⟩
 obtain ⟨ny,hny⟩:∃ ny,wrap64 (-y)=ny:=⟨_,rfl⟩
 have ex:=(wrap_neg hx hx2).symm.trans hnx;have ey:=(wrap_neg hy hy2).symm.trans hny;unfold negI at ex ey;have cx:(x≤minI∧nx≤x∧x≤nx∧x < 0) ∨ (minI < x∧nx≤-x∧-x≤nx∧0≤x) ∨ (minI < x∧nx≤-x∧-x≤nx∧x < 0):=by
  unfold minI at *;by_cases h:x = -9223372036854775808
  ·rw [if_pos h] at ex;left;omega
  ·rw [if_neg h] at ex;right;omega
 have cy:(y≤minI∧ny≤y∧y≤ny∧y < 0) ∨ (minI < y∧ny≤-y∧-y≤ny∧0≤y) ∨ (minI < y∧ny≤-y∧-y≤ny∧y < 0):=by
  unfold minI at *;by_cases h:y = -9223372036854775808
  ·rw [if_pos h] at ey;left;omega
  ·rw [if_neg h] at ey;right;omega
 have BX:=Lib.hid (And.intro hx hx2);have BY:=Lib.hid (And.intro hy hy2);clear ex ey hx hx2 hy hy2;by_cases hxy:x=y
 ·subst hxy
  have hr:cmpL x x=0:=by simp [cmpL]
  rw [hr];clear hr cy;rcases cx with ⟨hm,h1,h2,h3⟩ | ⟨hm,h1,h2,h3⟩ | ⟨hm,h1,h2,h3⟩
  all_goals
   have HM:=Lib.hid hm;clear hm;go_enter Tryz.func192,Tryz.ntmps192
   go_wp2_with fail;go_ret;exact ⟨rfl,rfl⟩
 ·have hxy':(x == y)=false:=by simpa using hxy
  have HXY:=Lib.hid hxy;clear hxy;have htri:(x < y ∨ y < x):=by have:=HXY.out;omega
  rcases cx with ⟨hm,h1,h2,h3⟩ | ⟨hm,h1,h2,h3⟩ | ⟨hm,h1,h2,h3⟩
  ·rcases cy with ⟨hm',h1',h2',h3'⟩ | ⟨hm',h1',h2',h3'⟩ | ⟨hm',h1',h2',h3'⟩
   ·have:=BX.out
    have:=BY.out;unfold minI at hm hm';exfalso;omega
   ·have hlt:x < y:=by have:=BY.out;have:=BX.out;unfold minI at hm hm';omega
    clear htri;have HM:=Lib.hid hm;have HM':=Lib.hid hm';clear hm hm';go_enter Tryz.func192,Tryz.ntmps192
    go_wp2_with fail;go_ret;refine ⟨l2_goal ?_,rfl⟩;have hm:=HM.out;have hm':=HM'.out;have hne:=HXY.out;obtain ⟨q1,q2⟩:=BX.out;obtain ⟨q3,q4⟩:=BY.out;clear HM HM' HXY BX BY hnx hny;unfold minI at hm hm';unfold cmpL absI minI;repeat' split
    all_goals first | rfl | (exfalso;omega)
   ·have hlt:x < y:=by have:=BY.out;have:=BX.out;unfold minI at hm hm';omega
    clear htri;have HM:=Lib.hid hm;have HM':=Lib.hid hm';clear hm hm';go_enter Tryz.func192,Tryz.ntmps192
    go_wp2_with fail;go_ret;refine ⟨l2_goal ?_,rfl⟩;have hm:=HM.out;have hm':=HM'.out;have hne:=HXY.out;obtain ⟨q1,q2⟩:=BX.out;obtain ⟨q3,q4⟩:=BY.out;clear HM HM' HXY BX BY hnx hny;unfold minI at hm hm';unfold cmpL absI minI;repeat' split
    all_goals first | rfl | (exfalso;omega)
  ·rcases cy with ⟨hm',h1',h2',h3'⟩ | ⟨hm',h1',h2',h3'⟩ | ⟨hm',h1',h2',h3'⟩
   ·have hlt:y < x:=by have:=BY.out;have:=BX.out;unfold minI at hm hm';omega
    clear htri;have HM:=Lib.hid hm;have HM':=Lib.hid hm';clear hm hm';go_enter Tryz.func192,Tryz.ntmps192
    go_wp2_with fail;go_ret;refine ⟨l2_goal ?_,rfl⟩;have hm:=HM.out;have hm':=HM'.out;have hne:=HXY.out;obtain ⟨q1,q2⟩:=BX.out;obtain ⟨q3,q4⟩:=BY.out;clear HM HM' HXY BX BY hnx hny;unfold minI at hm hm';unfold cmpL absI minI;repeat' split
    all_goals first | rfl | (exfalso;omega)
   ·rcases (show x < y ∨ y < x ∨ (x≤y∧y≤x) from by omega) with hc | hc | ⟨hc,hc'⟩
    ·rcases htri with ht | ht
     ·first
      | (exfalso;omega)
      | skip
      all_goals
       have HM:=Lib.hid hm;have HM':=Lib.hid hm';clear hm hm';go_enter Tryz.func192,Tryz.ntmps192
       go_wp2_with fail;go_ret;refine ⟨l2_goal ?_,rfl⟩;have hm:=HM.out;have hm':=HM'.out;have hne:=HXY.out;obtain ⟨q1,q2⟩:=BX.out;obtain ⟨q3,q4⟩:=BY.out;clear HM HM' HXY BX BY hnx hny;unfold minI at hm hm';unfold cmpL absI minI;repeat' split
       all_goals first | rfl | (exfalso;omega)
     ·first
      | (exfalso;omega)
      | skip
      all_goals
       have HM:=Lib.hid hm;have HM':=Lib.hid hm';clear hm hm';go_enter Tryz.func192,Tryz.ntmps192
       go_wp2_with fail;go_ret;refine ⟨l2_goal ?_,rfl⟩;have hm:=HM.out;have hm':=HM'.out;have hne:=HXY.out;obtain ⟨q1,q2⟩:=BX.out;obtain ⟨q3,q4⟩:=BY.out;clear HM HM' HXY BX BY hnx hny;unfold minI at hm hm';unfold cmpL absI minI;repeat' split
       all_goals first | rfl | (exfalso;omega)
    ·rcases htri with ht | ht
     ·first
      | (exfalso;omega)
      | skip
      all_goals
       have HM:=Lib.hid hm;have HM':=Lib.hid hm';clear hm hm';go_enter Tryz.func192,Tryz.ntmps192
       go_wp2_with fail;go_ret;refine ⟨l2_goal ?_,rfl⟩;have hm:=HM.out;have hm':=HM'.out;have hne:=HXY.out;obtain ⟨q1,q2⟩:=BX.out;obtain ⟨q3,q4⟩:=BY.out;clear HM HM' HXY BX BY hnx hny;unfold minI at hm hm';unfold cmpL absI minI;repeat' split
       all_goals first | rfl | (exfalso;omega)
     ·first
      | (exfalso;omega)
      | skip
      all_goals
       have HM:=Lib.hid hm;have HM':=Lib.hid hm';clear hm hm';go_enter Tryz.func192,Tryz.ntmps192
       go_wp2_with fail;go_ret;refine ⟨l2_goal ?_,rfl⟩;have hm:=HM.out;have hm':=HM'.out;have hne:=HXY.out;obtain ⟨q1,q2⟩:=BX.out;obtain ⟨q3,q4⟩:=BY.out;clear HM HM' HXY BX BY hnx hny;unfold minI at hm hm';unfold cmpL absI minI;repeat' split
       all_goals first | rfl | (exfalso;omega)
    ·rcases htri with ht | ht
     ·first
      | (exfalso;omega)
      | skip
      all_goals
       have HM:=Lib.hid hm;have HM':=Lib.hid hm';clear hm hm';go_enter Tryz.func192,Tryz.ntmps192
       go_wp2_with fail;go_ret;refine ⟨l2_goal ?_,rfl⟩;have hm:=HM.out;have hm':=HM'.out;have hne:=HXY.out;obtain ⟨q1,q2⟩:=BX.out;obtain ⟨q3,q4⟩:=BY.out;clear HM HM' HXY BX BY hnx hny;unfold minI at hm hm';unfold cmpL absI minI;repeat' split
       all_goals first | rfl | (exfalso;omega)
     ·first
      | (exfalso;omega)
      | skip
      all_goals
       have HM:=Lib.hid hm;have HM':=Lib.hid hm';clear hm hm';go_enter Tryz.func192,Tryz.ntmps192
       go_wp2_with fail;go_ret;refine ⟨l2_goal ?_,rfl⟩;have hm:=HM.out;have hm':=HM'.out;have hne:=HXY.out;obtain ⟨q1,q2⟩:=BX.out;obtain ⟨q3,q4⟩:=BY.out;clear HM HM' HXY BX BY hnx hny;unfold minI at hm hm';unfold cmpL absI minI;repeat' split
       all_goals first | rfl | (exfalso;omega)
   ·rcases (show x < ny ∨ ny < x ∨ (x≤ny∧ny≤x) from by omega) with hc | hc | ⟨hc,hc'⟩
    ·rcases htri with ht | ht
     ·first
      | (exfalso;omega)
      | skip
      all_goals
       have HM:=Lib.hid hm;have HM':=Lib.hid hm';clear hm hm';go_enter Tryz.func192,Tryz.ntmps192
       go_wp2_with fail;go_ret;refine ⟨l2_goal ?_,rfl⟩;have hm:=HM.out;have hm':=HM'.out;have hne:=HXY.out;obtain ⟨q1,q2⟩:=BX.out;obtain ⟨q3,q4⟩:=BY.out;clear HM HM' HXY BX BY hnx hny;unfold minI at hm hm';unfold cmpL absI minI;repeat' split
       all_goals first | rfl | (exfalso;omega)
     ·first
      | (exfalso;omega)
      | skip
      all_goals
       have HM:=Lib.hid hm;have HM':=Lib.hid hm';clear hm hm';go_enter Tryz.func192,Tryz.ntmps192
       go_wp2_with fail;go_ret;refine ⟨l2_goal ?_,rfl⟩;have hm:=HM.out;have hm':=HM'.out;have hne:=HXY.out;obtain ⟨q1,q2⟩:=BX.out;obtain ⟨q3,q4⟩:=BY.out;clear HM HM' HXY BX BY hnx hny;unfold minI at hm hm';unfold cmpL absI minI;repeat' split
       all_goals first | rfl | (exfalso;omega)
    ·rcases htri with ht | ht
     ·first
      | (exfalso;omega)
      | skip
      all_goals
       have HM:=Lib.hid hm;have HM':=Lib.hid hm';clear hm hm';go_enter Tryz.func192,Tryz.ntmps192
       go_wp2_with fail;go_ret;refine ⟨l2_goal ?_,rfl⟩;have hm:=HM.out;have hm':=HM'.out;have hne:=HXY.out;obtain ⟨q1,q2⟩:=BX.out;obtain ⟨q3,q4⟩:=BY.out;clear HM HM' HXY BX BY hnx hny;unfold minI at hm hm';unfold cmpL absI minI;repeat' split
       all_goals first | rfl | (exfalso;omega)
     ·first
      | (exfalso;omega)
      | skip
      all_goals
       have HM:=Lib.hid hm;have HM':=Lib.hid hm';clear hm hm';go_enter Tryz.func192,Tryz.ntmps192
       go_wp2_with fail;go_ret;refine ⟨l2_goal ?_,rfl⟩;have hm:=HM.out;have hm':=HM'.out;have hne:=HXY.out;obtain ⟨q1,q2⟩:=BX.out;obtain ⟨q3,q4⟩:=BY.out;clear HM HM' HXY BX BY hnx hny;unfold minI at hm hm';unfold cmpL absI minI;repeat' split
       all_goals first | rfl | (exfalso;omega)
    ·rcases htri with ht | ht
     ·first
      | (exfalso;omega)
      | skip
      all_goals
       have HM:=Lib.hid hm;have HM':=Lib.hid hm';clear hm hm';go_enter Tryz.func192,Tryz.ntmps192
       go_wp2_with fail;go_ret;refine ⟨l2_goal ?_,rfl⟩;have hm:=HM.out;have hm':=HM'.out;have hne:=HXY.out;obtain ⟨q1,q2⟩:=BX.out;obtain ⟨q3,q4⟩:=BY.out;clear HM HM' HXY BX BY hnx hny;unfold minI at hm hm';unfold cmpL absI minI;repeat' split
       all_goals first | rfl | (exfalso;omega)
     ·first
      | (exfalso;omega)
      | skip
      all_goals
       have HM:=Lib.hid hm;have HM':=Lib.hid hm';clear hm hm';go_enter Tryz.func192,Tryz.ntmps192
       go_wp2_with fail;go_ret;refine ⟨l2_goal ?_,rfl⟩;have hm:=HM.out;have hm':=HM'.out;have hne:=HXY.out;obtain ⟨q1,q2⟩:=BX.out;obtain ⟨q3,q4⟩:=BY.out;clear HM HM' HXY BX BY hnx hny;unfold minI at hm hm';unfold cmpL absI minI;repeat' split
       all_goals first | rfl | (exfalso;omega)
  ·rcases cy with ⟨hm',h1',h2',h3'⟩ | ⟨hm',h1',h2',h3'⟩ | ⟨hm',h1',h2',h3'⟩
   ·have hlt:y < x:=by have:=BY.out;have:=BX.out;unfold minI at hm hm';omega
    clear htri;have HM:=Lib.hid hm;have HM':=Lib.hid hm';clear hm hm';go_enter Tryz.func192,Tryz.ntmps192
    go_wp2_with fail;go_ret;refine ⟨l2_goal ?_,rfl⟩;have hm:=HM.out;have hm':=HM'.out;have hne:=HXY.out;obtain ⟨q1,q2⟩:=BX.out;obtain ⟨q3,q4⟩:=BY.out;clear HM HM' HXY BX BY hnx hny;unfold minI at hm hm';unfold cmpL absI minI;repeat' split
    all_goals first | rfl | (exfalso;omega)
   ·rcases (show nx < y ∨ y < nx ∨ (nx≤y∧y≤nx) from by omega) with hc | hc | ⟨hc,hc'⟩
    ·rcases htri with ht | ht
     ·first
      | (exfalso;omega)
      | skip
      all_goals
       have HM:=Lib.hid hm;have HM':=Lib.hid hm';clear hm hm';go_enter Tryz.func192,Tryz.ntmps192
       go_wp2_with fail;go_ret;refine ⟨l2_goal ?_,rfl⟩;have hm:=HM.out;have hm':=HM'.out;have hne:=HXY.out;obtain ⟨q1,q2⟩:=BX.out;obtain ⟨q3,q4⟩:=BY.out;clear HM HM' HXY BX BY hnx hny;unfold minI at hm hm';unfold cmpL absI minI;repeat' split
       all_goals first | rfl | (exfalso;omega)
     ·first
      | (exfalso;omega)
      | skip
      all_goals
       have HM:=Lib.hid hm;have HM':=Lib.hid hm';clear hm hm';go_enter Tryz.func192,Tryz.ntmps192
       go_wp2_with fail;go_ret;refine ⟨l2_goal ?_,rfl⟩;have hm:=HM.out;have hm':=HM'.out;have hne:=HXY.out;obtain ⟨q1,q2⟩:=BX.out;obtain ⟨q3,q4⟩:=BY.out;clear HM HM' HXY BX BY hnx hny;unfold minI at hm hm';unfold cmpL absI minI;repeat' split
       all_goals first | rfl | (exfalso;omega)
    ·rcases htri with ht | ht
     ·first
      | (exfalso;omega)
      | skip
      all_goals
       have HM:=Lib.hid hm;have HM':=Lib.hid hm';clear hm hm';go_enter Tryz.func192,Tryz.ntmps192
       go_wp2_with fail;go_ret;refine ⟨l2_goal ?_,rfl⟩;have hm:=HM.out;have hm':=HM'.out;have hne:=HXY.out;obtain ⟨q1,q2⟩:=BX.out;obtain ⟨q3,q4⟩:=BY.out;clear HM HM' HXY BX BY hnx hny;unfold minI at hm hm';unfold cmpL absI minI;repeat' split
       all_goals first | rfl | (exfalso;omega)
     ·first
      | (exfalso;omega)
      | skip
      all_goals
       have HM:=Lib.hid hm;have HM':=Lib.hid hm';clear hm hm';go_enter Tryz.func192,Tryz.ntmps192
       go_wp2_with fail;go_ret;refine ⟨l2_goal ?_,rfl⟩;have hm:=HM.out;have hm':=HM'.out;have hne:=HXY.out;obtain ⟨q1,q2⟩:=BX.out;obtain ⟨q3,q4⟩:=BY.out;clear HM HM' HXY BX BY hnx hny;unfold minI at hm hm';unfold cmpL absI minI;repeat' split
       all_goals first | rfl | (exfalso;omega)
    ·rcases htri with ht | ht
     ·first
      | (exfalso;omega)
      | skip
      all_goals
       have HM:=Lib.hid hm;have HM':=Lib.hid hm';clear hm hm';go_enter Tryz.func192,Tryz.ntmps192
       go_wp2_with fail;go_ret;refine ⟨l2_goal ?_,rfl⟩;have hm:=HM.out;have hm':=HM'.out;have hne:=HXY.out;obtain ⟨q1,q2⟩:=BX.out;obtain ⟨q3,q4⟩:=BY.out;clear HM HM' HXY BX BY hnx hny;unfold minI at hm hm';unfold cmpL absI minI;repeat' split
       all_goals first | rfl | (exfalso;omega)
     ·first
      | (exfalso;omega)
      | skip
      all_goals
       have HM:=Lib.hid hm;have HM':=Lib.hid hm';clear hm hm';go_enter Tryz.func192,Tryz.ntmps192
       go_wp2_with fail;go_ret;refine ⟨l2_goal ?_,rfl⟩;have hm:=HM.out;have hm':=HM'.out;have hne:=HXY.out;obtain ⟨q1,q2⟩:=BX.out;obtain ⟨q3,q4⟩:=BY.out;clear HM HM' HXY BX BY hnx hny;unfold minI at hm hm';unfold cmpL absI minI;repeat' split
       all_goals first | rfl | (exfalso;omega)
   ·rcases (show nx < ny ∨ ny < nx ∨ (nx≤ny∧ny≤nx) from by omega) with hc | hc | ⟨hc,hc'⟩
    ·rcases htri with ht | ht
     ·first
      | (exfalso;omega)
      | skip
      all_goals
       have HM:=Lib.hid hm;have HM':=Lib.hid hm';clear hm hm';go_enter Tryz.func192,Tryz.ntmps192
       go_wp2_with fail;go_ret;refine ⟨l2_goal ?_,rfl⟩;have hm:=HM.out;have hm':=HM'.out;have hne:=HXY.out;obtain ⟨q1,q2⟩:=BX.out;obtain ⟨q3,q4⟩:=BY.out;clear HM HM' HXY BX BY hnx hny;unfold minI at hm hm';unfold cmpL absI minI;repeat' split
       all_goals first | rfl | (exfalso;omega)
     ·first
      | (exfalso;omega)
      | skip
      all_goals
       have HM:=Lib.hid hm;have HM':=Lib.hid hm';clear hm hm';go_enter Tryz.func192,Tryz.ntmps192
       go_wp2_with fail;go_ret;refine ⟨l2_goal ?_,rfl⟩;have hm:=HM.out;have hm':=HM'.out;have hne:=HXY.out;obtain ⟨q1,q2⟩:=BX.out;obtain ⟨q3,q4⟩:=BY.out;clear HM HM' HXY BX BY hnx hny;unfold minI at hm hm';unfold cmpL absI minI;repeat' split
       all_goals first | rfl | (exfalso;omega)
    ·rcases htri with ht | ht
     ·first
      | (exfalso;omega)
      | skip
      all_goals
       have HM:=Lib.hid hm;have HM':=Lib.hid hm';clear hm hm';go_enter Tryz.func192,Tryz.ntmps192
       go_wp2_with fail;go_ret;refine ⟨l2_goal ?_,rfl⟩;have hm:=HM.out;have hm':=HM'.out;have hne:=HXY.out;obtain ⟨q1,q2⟩:=BX.out;obtain ⟨q3,q4⟩:=BY.out;clear HM HM' HXY BX BY hnx hny;unfold minI at hm hm';unfold cmpL absI minI;repeat' split
       all_goals first | rfl | (exfalso;omega)
     ·first
      | (exfalso;omega)
      | skip
      all_goals
       have HM:=Lib.hid hm;have HM':=Lib.hid hm';clear hm hm';go_enter Tryz.func192,Tryz.ntmps192
       go_wp2_with fail;go_ret;refine ⟨l2_goal ?_,rfl⟩;have hm:=HM.out;have hm':=HM'.out;have hne:=HXY.out;obtain ⟨q1,q2⟩:=BX.out;obtain ⟨q3,q4⟩:=BY.out;clear HM HM' HXY BX BY hnx hny;unfold minI at hm hm';unfold cmpL absI minI;repeat' split
       all_goals first | rfl | (exfalso;omega)
    ·rcases htri with ht | ht
     ·first
      | (exfalso;omega)
      | skip
      all_goals
       have HM:=Lib.hid hm;have HM':=Lib.hid hm';clear hm hm';go_enter Tryz.func192,Tryz.ntmps192
       go_wp2_with fail;go_ret;refine ⟨l2_goal ?_,rfl⟩;have hm:=HM.out;have hm':=HM'.out;have hne:=HXY.out;obtain ⟨q1,q2⟩:=BX.out;obtain ⟨q3,q4⟩:=BY.out;clear HM HM' HXY BX BY hnx hny;unfold minI at hm hm';unfold cmpL absI minI;repeat' split
       all_goals first | rfl | (exfalso;omega)
     ·first
      | (exfalso;omega)
      | skip
      all_goals
       have HM:=Lib.hid hm;have HM':=Lib.hid hm';clear hm hm';go_enter Tryz.func192,Tryz.ntmps192
       go_wp2_with fail;go_ret;refine ⟨l2_goal ?_,rfl⟩;have hm:=HM.out;have hm':=HM'.out;have hne:=HXY.out;obtain ⟨q1,q2⟩:=BX.out;obtain ⟨q3,q4⟩:=BY.out;clear HM HM' HXY BX BY hnx hny;unfold minI at hm hm';unfold cmpL absI minI;repeat' split
       all_goals first | rfl | (exfalso;omega)
theorem cmpLs_drop {x y:List Int} {k:Nat} {a b:Int} (ha:x[k]?=some a) (hb:y[k]?=some b):cmpLs (x.drop k) (y.drop k)=if cmpL a b=0 then cmpLs (x.drop (k+1)) (y.drop (k+1)) else cmpL a b:=by
 rw [drop_of x ha,drop_of y hb]
 rfl
theorem impl_CompareWords (A A':Option Addr) (xs ys:List Int) (c c':Nat) (w:World) (B B':Nat) (hr:Rs w B A (ints xs)) (hr':Rs w B' A' (ints ys)) (hox:OkI xs) (hoy:OkI ys) (hl:xs.length≤4194304) (hl':ys.length≤4194304) :
  Calls Tryz.prog 115 #[.slice A xs.length c,.slice A' ys.length c'] w fun e w'=>e=.returned (.int .i64 (cmpW xs ys))∧∃ n,w'=w.drewN n:=by
 have HOX:=Lib.hid hox;have HOY:=Lib.hid hoy;clear hox hoy;by_cases h1:xs.length < ys.length
 ·have hr1:cmpI (xs.length:Int) (ys.length:Int) = -1:=by unfold cmpI;rw [if_pos (by omega)]
  have hr2:cmpW xs ys = -1:=by unfold cmpW;rw [if_pos h1]
  rw [hr2];clear hr2;go_enter Tryz.func115,Tryz.ntmps115
  go_wp2_with fail;refine (impl_compareInts _ _ _).mono ?_;rintro e w' ⟨rfl,rfl⟩;go_wp2_with fail;go_ret;exact ⟨rfl,0,rfl⟩
 ·by_cases h2:ys.length < xs.length
  ·have hr1:cmpI (xs.length:Int) (ys.length:Int)=1:=by unfold cmpI;rw [if_neg (by omega),if_pos (by omega)]
   have hr2:cmpW xs ys=1:=by unfold cmpW;rw [if_neg h1,if_pos h2]
   rw [hr2];clear hr2;go_enter Tryz.func115,Tryz.ntmps115
   go_wp2_with fail;refine (impl_compareInts _ _ _).mono ?_;rintro e w' ⟨rfl,rfl⟩;go_wp2_with fail;go_ret;exact ⟨rfl,0,rfl⟩
  ·have hr1:cmpI (xs.length:Int) (ys.length:Int)=0:=by unfold cmpI;rw [if_neg (by omega),if_neg (by omega)]
   have hr2:cmpW xs ys=cmpLs xs ys:=by unfold cmpW;rw [if_neg h1,if_neg h2]
   rw [hr2];clear hr2;go_enter Tryz.func115,Tryz.ntmps115
   go_wp2_with fail;refine (impl_compareInts _ _ _).mono ?_;rintro e w' ⟨rfl,rfl⟩;go_wp2_with fail;go_loopw [6,7,18] (fun _ _ i wr=>∃ k:Nat,k≤xs.length∧i=.int .i64 k∧(∃ n,wr=w.drewN n)∧cmpLs (xs.drop k) (ys.drop k)=cmpLs xs ys) (fun _ _ i _=>xs.length - (intOf i).toNat)
   case atStart=>exact ⟨0,Nat.zero_le _,rfl,⟨0,rfl⟩,rfl⟩
   case round =>
    obtain ⟨k,hk,rfl,⟨nd,rfl⟩,heq⟩:=hrel;have HE:=Lib.hid heq;clear heq;by_cases hlt:k < xs.length
    ·obtain ⟨b,off,x,rfl, -,hx,hc⟩:=hr.int hlt
     obtain ⟨b',off',y,rfl, -,hy,hc'⟩:=hr'.int (show k < ys.length by omega);have hbx:=HOX.out x (List.mem_of_getElem? hx);have hby:=HOY.out y (List.mem_of_getElem? hy);have hstep:=cmpLs_drop hx hy;have HS:=Lib.hid hstep;have hC:=fun n:Nat=>pq (impl_compareLetters x y (w.drewN n) hbx.1 hbx.2 hby.1 hby.2);obtain ⟨q,hq⟩:∃ q,q=cmpL x y:=⟨_,rfl⟩
     have hv:q = -1 ∨ q=0 ∨ q=1:=hq ▸ cmpL_vals x y;rw [← hq] at hC;have HQ:=Lib.hid hq;have HC:=Lib.hid hC;have hlt3:(k:Int) < (ys.length:Int):=by omega
     clear hx hy hbx hby hstep hq hC;rcases hv with rfl | rfl | rfl
     ·go_wp2_with fail
      go_quiet ((go_at_call 191;first | exact qz0 (HC.out _) | exact qz1 (HC.out _)))
      go_wp2_with fail;go_ret;have e:cmpLs xs ys = -1:=by rw [← HE.out,HS.out,← HQ.out];rfl
      rw [e];exact ⟨rfl,_,by first | rfl | exact dn _ _ _⟩
     ·go_wp2_with fail
      go_quiet ((go_at_call 191;first | exact qz0 (HC.out _) | exact qz1 (HC.out _)))
      go_wp2_with fail;go_roundw
      case rel =>
       refine ⟨k+1,by omega,by go_num,⟨_,by first | rfl | exact dn _ _ _⟩,?_⟩;have e:=HS.out;rw [← HQ.out,if_pos rfl,HE.out] at e;exact e.symm
      case measure=>simp [intOf];omega
     ·go_wp2_with fail
      go_quiet ((go_at_call 191;first | exact qz0 (HC.out _) | exact qz1 (HC.out _)))
      go_wp2_with fail;go_ret;have e:cmpLs xs ys=1:=by rw [← HE.out,HS.out,← HQ.out];rfl
      rw [e];exact ⟨rfl,_,by first | rfl | exact dn _ _ _⟩
    ·go_wp2_with fail
     go_ret;have e:cmpLs xs ys=0:=by
      rw [← HE.out,List.drop_eq_nil_of_le (by omega)]
      rfl
     rw [e];exact ⟨rfl,_,rfl⟩
theorem spec_CompareWords (A A':Option Addr) (xs ys:List Int) (c c':Nat) (w:World) (B B':Nat) (hr:Rs w B A (ints xs)) (hr':Rs w B' A' (ints ys)) (hox:OkI xs) (hoy:OkI ys) (hl:xs.length≤4194304) (hl':ys.length≤4194304) :
  Calls Tryz.prog 117 #[.slice A xs.length c,.slice A' ys.length c'] w fun e w'=>e=.returned (.int .i64 (cmpW xs ys))∧∃ n,w'=w.drewN n:=by
 have HOX:=Lib.hid hox;have HOY:=Lib.hid hoy;clear hox hoy;by_cases h1:xs.length < ys.length
 ·have hr2:cmpW xs ys = -1:=by unfold cmpW;rw [if_pos h1]
  have hne:((xs.length:Int) != (ys.length:Int))=true:=by simp;omega
  rw [hr2];clear hr2;go_enter Tryz.func117,Tryz.ntmps117
  go_wp2_with fail;go_ret;exact ⟨rfl,0,rfl⟩
 ·by_cases h2:ys.length < xs.length
  ·have hr2:cmpW xs ys=1:=by unfold cmpW;rw [if_neg h1,if_pos h2]
   have hne:((xs.length:Int) != (ys.length:Int))=true:=by simp;omega
   rw [hr2];clear hr2;go_enter Tryz.func117,Tryz.ntmps117
   go_wp2_with fail;go_ret;exact ⟨rfl,0,rfl⟩
  ·have hr2:cmpW xs ys=cmpLs xs ys:=by unfold cmpW;rw [if_neg h1,if_neg h2]
   have hne:((xs.length:Int) != (ys.length:Int))=false:=by simp;omega
   rw [hr2];clear hr2;go_enter Tryz.func117,Tryz.ntmps117
   go_wp2_with fail;go_loopw [5,6] (fun i _ wr=>∃ k:Nat,k≤xs.length∧i=.int .i64 k∧(∃ n,wr=w.drewN n)∧cmpLs (xs.drop k) (ys.drop k)=cmpLs xs ys) (fun i _ _=>xs.length - (intOf i).toNat)
   case atStart=>exact ⟨0,Nat.zero_le _,rfl,⟨0,rfl⟩,rfl⟩
   case round =>
    obtain ⟨k,hk,rfl,⟨nd,rfl⟩,heq⟩:=hrel;have HE:=Lib.hid heq;clear heq;by_cases hlt:k < xs.length
    ·obtain ⟨b,off,x,rfl, -,hx,hc⟩:=hr.int hlt
     obtain ⟨b',off',y,rfl, -,hy,hc'⟩:=hr'.int (show k < ys.length by omega);have hbx:=HOX.out x (List.mem_of_getElem? hx);have hby:=HOY.out y (List.mem_of_getElem? hy);have hstep:=cmpLs_drop hx hy;have HS:=Lib.hid hstep;have hC:=fun n:Nat=>pq (spec_l2Order x y (w.drewN n) hbx.1 hbx.2 hby.1 hby.2);obtain ⟨q,hq⟩:∃ q,q=cmpL x y:=⟨_,rfl⟩
     have hv:q = -1 ∨ q=0 ∨ q=1:=hq ▸ cmpL_vals x y;rw [← hq] at hC;have HQ:=Lib.hid hq;have HC:=Lib.hid hC;have hlt3:(k:Int) < (ys.length:Int):=by omega
     clear hx hy hbx hby hstep hq hC;rcases hv with rfl | rfl | rfl
     ·go_wp2_with fail
      go_quiet ((go_at_call 192;first | exact qz0 (HC.out _) | exact qz1 (HC.out _)))
      go_wp2_with fail;go_ret;have e:cmpLs xs ys = -1:=by rw [← HE.out,HS.out,← HQ.out];rfl
      rw [e];exact ⟨rfl,_,by first | rfl | exact dn _ _ _⟩
     ·go_wp2_with fail
      go_quiet ((go_at_call 192;first | exact qz0 (HC.out _) | exact qz1 (HC.out _)))
      go_wp2_with fail;go_roundw
      case rel =>
       refine ⟨k+1,by omega,by go_num,⟨_,by first | rfl | exact dn _ _ _⟩,?_⟩;have e:=HS.out;rw [← HQ.out,if_pos rfl,HE.out] at e;exact e.symm
      case measure=>simp [intOf];omega
     ·go_wp2_with fail
      go_quiet ((go_at_call 192;first | exact qz0 (HC.out _) | exact qz1 (HC.out _)))
      go_wp2_with fail;go_ret;have e:cmpLs xs ys=1:=by rw [← HE.out,HS.out,← HQ.out];rfl
      rw [e];exact ⟨rfl,_,by first | rfl | exact dn _ _ _⟩
    ·go_wp2_with fail
     go_ret;have e:cmpLs xs ys=0:=by
      rw [← HE.out,List.drop_eq_nil_of_le (by omega)]
      rfl
     rw [e];exact ⟨rfl,_,rfl⟩
end
section
open Go.RowKit
theorem impl_InvertWord (A:Option Addr) (xs:List Int) (c B:Nat) (w:World) (hr:Rs w B A (ints xs)) (hB:B≤w.heap.size) (hok:OkI xs) (hl:xs.length≤4194304) :
  Calls Tryz.prog 109 #[.slice A xs.length c] w fun e w'=>RetI 3 (invW xs) w e w':=by
 have HOK:=Lib.hid hok;clear hok;have hmx:xs.length≤maxLen:=by unfold maxLen;omega
 obtain ⟨i0,hi,hz0,hz1,hz2⟩:=info_parts infoI;have hby:i0.bytes * xs.length≤281474976710656:=by rw [hz2];omega
 go_enter Tryz.func109,Tryz.ntmps109
 go_wp2_with (at_make;refine wpList_make_own _ rfl _ _ 44 rfl w.heap.size 3 i0 (.int .i64 0) 1 undSI hi hz0 hz1 .i64 .i64 _ xs.length rfl rfl rfl hby hmx (Nat.le_refl _) ?_;intro w1 hown1 hgr1)
 have hb1:=below_none hgr1;clear hi hz0 hz1 hz2 hby;go_loopw [3,4] (fun v i wr=>∃ j:Nat,j≤xs.length∧i=.int .i64 ((j:Int) - 1)∧wr.ownsRow w.heap.size 3 1 v (xs.length - j) (ints (invW (xs.drop j)))∧Below w.heap.size w wr)
  (fun _ i _=>(intOf i+1).toNat)
 case atStart=>exact ⟨xs.length,Nat.le_refl _,rfl,by simpa [invW,ints] using hown1,hb1⟩
 case round =>
  obtain ⟨j,hj,rfl,hown,hb⟩:=hrel;have hsz:=hb.size;cases j with
  | zero =>
   go_wp2_with fail;go_ret;exact RetI.mk (by rw [invW_len]) (by simpa using hown) hb
  | succ m =>
   rw [show (((m+1:Nat):Int) - 1)=(m:Int) from by omega];obtain ⟨b,off,x,rfl, -,hx,hc⟩:=((hr.more hB).below hb).int (show m < xs.length by omega);have hbx:=HOK.out x (List.mem_of_getElem? hx);have HW:=Lib.hid (wrap_neg hbx.1 hbx.2);have HX:=Lib.hid hx;clear hx hbx;go_wp2_with (at_builtin;refine wpList_push rfl _ _ 44 rfl w.heap.size 3 (.int .i64 0) 1 8 undSI infoI rfl (by decide) _ _ _ rfl hown 1 [.int .i64 (wrap64 (-x))] rfl rfl ?c1 ?c2 ?c3 hsz ?next)
   case c1=>exact one_of_ints [wrap64 (-x)]
   case c2=>unfold maxLen;omega
   case c3=>omega
   case next =>
    intro v' w1 hown1 hgr _;go_wp2_with fail;go_roundw
    case rel =>
     refine ⟨m,by omega,rfl,?_,hb.grown hgr hsz (fun g hg=>(hown.lt g hg).1)⟩;rw [drop_of xs HX.out,invW_cons,ints_append,show xs.length - m=xs.length - (m+1)+1 from by omega,← HW.out];exact hown1
    case measure=>simp [intOf]
def halfN (xs:List Int):Nat:=(xs.length+1) / 2
def halfA (xs:List Int):List Int:=xs.take (halfN xs)
def halfB (xs:List Int):List Int:=(invW xs).take (halfN xs)
def halves (xs:List Int):List Int × List Int:=if 0 < cmpW (halfA xs) (halfB xs) then (halfB xs,halfA xs) else (halfA xs,halfB xs)
theorem halfN_le (xs:List Int):halfN xs≤xs.length:=by unfold halfN;omega
theorem halfA_len (xs:List Int):(halfA xs).length=halfN xs:=by unfold halfA;rw [List.length_take];have:=halfN_le xs;omega
theorem halfB_len (xs:List Int):(halfB xs).length=halfN xs:=by unfold halfB;rw [List.length_take,invW_len];have:=halfN_le xs;omega
theorem okI_take {xs:List Int} (h:OkI xs) (k:Nat):OkI (xs.take k):=fun x hx=>h x (List.mem_of_mem_take hx)
theorem okI_invW {xs:List Int} (h:OkI xs):OkI (invW xs):=by
 intro x hx;unfold invW at hx;rw [List.mem_reverse,List.mem_map] at hx;obtain ⟨y,hy,rfl⟩:=hx;have:=h y hy;unfold negI minI;split <;> omega
theorem ints_take (xs:List Int) (k:Nat):ints (xs.take k)=(ints xs).take k:=by simp [ints,List.map_take]
theorem halves_len (xs:List Int):(halves xs).1.length=halfN xs∧(halves xs).2.length=halfN xs:=by
 unfold halves;split <;> exact ⟨by simp [halfA_len,halfB_len],by simp [halfA_len,halfB_len]⟩
theorem halves_ok {xs:List Int} (h:OkI xs):OkI (halves xs).1∧OkI (halves xs).2:=by
 have h1:OkI (halfA xs):=okI_take h _;have h2:OkI (halfB xs):=okI_take (okI_invW h) _;unfold halves;split
 ·exact ⟨h2,h1⟩
 ·exact ⟨h1,h2⟩
def RetHalves (xs:List Int) (w:World) (e:Ending) (w':World):Prop :=
 ∃ A c A' c',e=.returned (.tuple #[.slice A (halfN xs) c,.slice A' (halfN xs) c'])∧Rs w' w'.heap.size A (ints (halves xs).1)∧Rs w' w'.heap.size A' (ints (halves xs).2)∧Mid 0 0 w w'
theorem spec_l20Halves (A:Option Addr) (xs:List Int) (c:Nat) (w:World) (hr:Rs w w.heap.size A (ints xs)) (hc:xs.length≤c) (hok:OkI xs) (hl:xs.length≤1048576) :
  Calls Tryz.prog 116 #[.slice A xs.length c] w fun e w'=>RetHalves xs w e w':=by
 have HOK:=Lib.hid hok;clear hok;obtain ⟨h,hh⟩:∃ h,h=halfN xs:=⟨_,rfl⟩
 have hn:=halfN_le xs;rw [← hh] at hn;have hq:((xs.length:Int)+1).tdiv 2=(h:Int):=by
  rw [hh];unfold halfN;rw [Int.tdiv_eq_ediv_of_nonneg (by omega)];omega
 have HH:=Lib.hid hh;clear hh;have ho0:=owns_empty w 3 1;go_enter Tryz.func116,Tryz.ntmps116
 have hra:Rs (w.alloc (.cells #[] 3)) w.heap.size A (ints (halfA xs)):=by
  unfold halfA;rw [ints_take];exact (hr.alloc (Nat.le_refl _) _).take _
 have hla:(ints (halfA xs)).length=h * 1:=by rw [ints_len,halfA_len,HH.out];omega
 go_wp2_with (at_builtin;refine wpList_cat rfl _ _ 44 rfl w.heap.size 3 (.int .i64 0) 1 8 undSI infoI rfl (by decide) _ _ _ rfl ho0 A h c w.heap.size (ints (halfA xs)) rfl hra hla (one_of_ints _) ?c2 ?c3 (by simp) ?next)
 case c2=>unfold maxLen;omega
 case c3=>omega
 case next =>
  intro v1 w1 hown1 hgr1 _;obtain ⟨A1,c1,rfl, -, -⟩:=owns_shape hown1;have hb1:Below w.heap.size w w1:=(below_none (World.grownBy_alloc w _ none)).grown hgr1 (by simp) (fun g hg=>(ho0.lt g hg).1);have hr1:=hr.below hb1;have hs1:=hb1.size;go_wp2_with fail;with_reducible refine (spec_InvertWord A xs c _ _ hr1 hs1 HOK.out (by omega)).mono ?_
  rintro e w2 ⟨A2,c2,rfl,ho2,hb2⟩;obtain ⟨A2',c2',he2,hn2, -⟩:=owns_shape ho2;injection he2 with he2a _ he2c
  subst he2a he2c;rw [invW_len] at hn2 ho2 ⊢;have hm2:h≤c2:=by omega
  have hra2:Rs w2 w2.heap.size A1 (ints (halfA xs)):=((Rs.of_own hown1).below hb2).more hb2.size;have hrb2:Rs w2 w2.heap.size A2 (ints (halfB xs)):=by
   unfold halfB;rw [ints_take];exact (Rs.of_own ho2).take _
  have hb:Mid 0 0 w w2:=Mid.of_below (hb1.trans (hb2.mono hs1));have hC:=spec_CompareWords A1 A2 (halfA xs) (halfB xs) c1 c2 w2 _ _ hra2 hrb2 (okI_take HOK.out _) (okI_take (okI_invW HOK.out) _) (by rw [halfA_len];have:=halfN_le xs;omega) (by rw [halfB_len];have:=halfN_le xs;omega);rw [halfA_len,halfB_len,← HH.out] at hC;obtain ⟨q,hqq⟩:∃ q,q=cmpW (halfA xs) (halfB xs):=⟨_,rfl⟩
  rw [← hqq] at hC;have HQ:=Lib.hid hqq;have HC:=Lib.hid hC;have HRA:=Lib.hid hra2;have HRB:=Lib.hid hrb2;clear hqq hC hra hra2 hrb2 hr1 hr ho2 hown1 ho0;by_cases hpos:0 < q
  ·go_wp2_with fail
   with_reducible refine HC.out.mono ?_
   rintro e w3 ⟨rfl,n,rfl⟩;go_wp2_with fail;go_ret2;have e:halves xs=(halfB xs,halfA xs):=by unfold halves;rw [← HQ.out,if_pos hpos]
   rw [RetHalves,e,← HH.out];exact ⟨A2,c2,A1,c1,rfl,HRB.out.drewN n,HRA.out.drewN n,hb.drewN n⟩
  ·go_wp2_with fail
   with_reducible refine HC.out.mono ?_
   rintro e w3 ⟨rfl,n,rfl⟩;go_wp2_with fail;go_ret2;have e:halves xs=(halfA xs,halfB xs):=by unfold halves;rw [← HQ.out,if_neg (by omega)]
   rw [RetHalves,e,← HH.out];exact ⟨A1,c1,A2,c2,rfl,HRA.out.drewN n,HRB.out.drewN n,hb.drewN n⟩
theorem impl_InvertWordX (A:Option Addr) (xs:List Int) (c B:Nat) (w:World) (hr:Rs w B A (ints xs)) (hB:B≤w.heap.size) (hok:OkI xs) (hl:xs.length≤4194304) :
  Calls Tryz.prog 109 #[.slice A xs.length c] w fun e w'=>∃ A2 c2,e=.returned (.slice A2 xs.length c2)∧xs.length≤c2∧w'.ownsRow w.heap.size 3 1 (.slice A2 xs.length c2) xs.length (ints (invW xs))∧Below w.heap.size w w' :=
 (impl_InvertWord A xs c B w hr hB hok hl).mono fun e w' h=>by
  obtain ⟨A2,c2,he,ho,hb⟩:=h;obtain ⟨A2',c2',he2,hn2, -⟩:=owns_shape ho;injection he2 with he2a _ he2c
  subst he2a he2c;rw [invW_len] at he hn2 ho;exact ⟨A2,c2,he,hn2,ho,hb⟩
theorem impl_halves (A:Option Addr) (xs:List Int) (c:Nat) (w:World) (hr:Rs w w.heap.size A (ints xs)) (hc:xs.length≤c) (hok:OkI xs) (hl:xs.length≤1048576) :
  Calls Tryz.prog 114 #[.slice A xs.length c] w fun e w'=>RetHalves xs w e w':=by
 have HOK:=Lib.hid hok;clear hok;obtain ⟨h,hh⟩:∃ h,h=halfN xs:=⟨_,rfl⟩
 have hn:=halfN_le xs;rw [← hh] at hn;have hq:((xs.length:Int)+1).tdiv 2=(h:Int):=by
  rw [hh];unfold halfN;rw [Int.tdiv_eq_ediv_of_nonneg (by omega)];omega
 have HH:=Lib.hid hh;clear hh;have hhc:h≤c:=by omega
 go_enter Tryz.func114,Tryz.ntmps114
 go_wp2_with fail;have hrd:Rs w.drew w.drew.heap.size A (ints xs):=hr;have hdl:w.drew.heap.size≤w.drew.heap.size:=Nat.le_refl _;go_region_held3 (fun w'=>True) (first | trivial) (first | (go_at_call 109;with_reducible refine (impl_InvertWordX A xs c _ _ hrd hdl HOK.out (by omega)).mono ?_;rintro e w2 ⟨A2,c2,rfl,hn2,ho2,hb2⟩;have hm2:h≤c2:=by omega))
 have hra2:Rs w2 w2.heap.size A (ints (halfA xs)):=by
  unfold halfA;rw [ints_take];exact ((hrd.below hb2).more hb2.size).take _
 have hrb2:Rs w2 w2.heap.size A2 (ints (halfB xs)):=by
  unfold halfB;rw [ints_take];exact (Rs.of_own ho2).take _
 have hb:Mid 0 0 w w2:=(Mid.drew1 w).trans (Mid.of_below hb2);have hC:=impl_CompareWords A2 A (halfB xs) (halfA xs) c2 c w2 _ _ hrb2 hra2 (okI_take (okI_invW HOK.out) _) (okI_take HOK.out _) (by rw [halfB_len];have:=halfN_le xs;omega) (by rw [halfA_len];have:=halfN_le xs;omega);have hsw:=cmpW_swap (a:=halfA xs) (b:=halfB xs) (fun x hx=>(okI_take HOK.out _ x hx).1) (fun x hx=>(okI_take (okI_invW HOK.out) _ x hx).1);rw [hsw,halfA_len,halfB_len,← HH.out] at hC;obtain ⟨q,hqq⟩:∃ q,q=cmpW (halfA xs) (halfB xs):=⟨_,rfl⟩
 rw [← hqq] at hC;have HQ:=Lib.hid hqq;have HC:=Lib.hid hC;have HRA:=Lib.hid hra2;have HRB:=Lib.hid hrb2;clear hqq hC hra2 hrb2 hrd hr ho2 hsw;by_cases hpos:0 < q
 ·have hneg:-q < 0:=by omega
  go_wp2_with fail;with_reducible refine HC.out.mono ?_
  rintro e w3 ⟨rfl,n,rfl⟩;go_wp2_with fail;go_ret2;have e:halves xs=(halfB xs,halfA xs):=by unfold halves;rw [← HQ.out,if_pos hpos]
  rw [RetHalves,e,← HH.out];exact ⟨A2,c2,A,c,rfl,HRB.out.drewN n,HRA.out.drewN n,hb.drewN n⟩
 ·have hneg:¬ -q < 0:=by omega
  go_wp2_with fail;with_reducible refine HC.out.mono ?_
  rintro e w3 ⟨rfl,n,rfl⟩;go_wp2_with fail;go_ret2;have e:halves xs=(halfA xs,halfB xs):=by unfold halves;rw [← HQ.out,if_neg (by omega)]
  rw [RetHalves,e,← HH.out];exact ⟨A,c,A2,c2,rfl,HRA.out.drewN n,HRB.out.drewN n,hb.drewN n⟩
end
section
open Go.RowKit
theorem OwnRows.replace {w:World} {lo hi:Nat} {tI:TypeId} {rows:List Row} {base hi' k:Nat} {r:Row} (h:OwnRows w lo hi tI rows) (hr:w.ownsRow base tI 1 r.v r.xs.length (ints r.xs)) (hb:hi≤base) (hl:lo≤base) (hh:hi≤hi') (hs:hi'≤w.heap.size) (hlt:∀ g,r.v.ownBlock=some g→g < hi') :
  OwnRows w lo hi' tI (rows.set k r):=by
 refine ⟨fun s hs'=>?_,?_⟩
 ·rcases List.mem_or_eq_of_mem_set hs' with hm | hm
  ·exact (h.1 s hm).wide (Nat.le_refl _) hh hs
  ·subst hm
   exact ⟨hs,owns_base hr hl,hlt⟩
 ·have key:∀ s∈rows,s.v.ownBlock=none ∨ (s.v.ownBlock≠r.v.ownBlock):=fun s hsm=>by
   cases hv:s.v.ownBlock with
   | none=>exact .inl rfl
   | some g =>
    refine .inr fun e=>?_;have h1:=(h.1 s hsm).2.2 g hv;have h2:=(hr.lt g e.symm).1;omega
  rw [List.pairwise_iff_getElem];intro i j hi hj hij;have hp:=List.pairwise_iff_getElem.1 h.2 i j (by simpa using hi) (by simpa using hj) hij;rw [List.getElem_set,List.getElem_set];have hi2:i < rows.length:=by simpa using hi
  have hj2:j < rows.length:=by simpa using hj
  split
  ·split
   ·omega
   ·cases hv:r.v.ownBlock with
    | none=>exact .inl rfl
    | some g =>
     refine .inr fun e=>?_;rcases key rows[j] (List.getElem_mem _) with h1 | h1
     ·rw [h1] at e;cases e
     ·exact h1 (by rw [hv];exact e.symm)
  ·split
   ·exact key rows[i] (List.getElem_mem _)
   ·exact hp
theorem OwnRows.erase {w:World} {lo hi:Nat} {tI:TypeId} {rows:List Row} (k:Nat) (h:OwnRows w lo hi tI rows):OwnRows w lo hi tI (rows.eraseIdx k) :=
 ⟨fun r hr=>h.1 r (List.mem_of_mem_eraseIdx hr),h.2.sublist (List.eraseIdx_sublist _ _)⟩
theorem rowsD_set (rows:List Row) (k:Nat) (r:Row):rowsD (rows.set k r)=(rowsD rows).set k r.xs:=by simp [rowsD,List.map_set]
theorem rowsV_set (rows:List Row) (k:Nat) (r:Row):rowsV (rows.set k r)=(rowsV rows).set k r.v:=by simp [rowsV,List.map_set]
theorem impl_copyInts (A:Option Addr) (xs:List Int) (c:Nat) (w:World) (B:Nat) (hr:Rs w B A (ints xs)) (hB:B≤w.heap.size) (hl:xs.length≤1099511627776) :
  Calls Tryz.prog 178 #[.slice A xs.length c] w fun e w'=>∃ A2 c2,e=.returned (.slice A2 xs.length c2)∧w'.ownsRow w.heap.size 3 1 (.slice A2 xs.length c2) xs.length (ints xs)∧Below w.heap.size w w':=by
 have hoe:=owns_empty w 3 1;have hra:Rs (w.alloc (.cells #[] 3)) B A (ints xs):=hr.alloc hB _;have hla:(ints xs).length=xs.length * 1:=by rw [ints_len];omega
 go_enter Tryz.func178,Tryz.ntmps178
 go_wp2_with (at_builtin;refine wpList_cat rfl _ _ 44 rfl w.heap.size 3 (.int .i64 0) 1 8 undSI infoI rfl (by decide) _ _ _ rfl hoe A xs.length c B (ints xs) rfl hra hla (one_of_ints _) ?c4 ?c5 ?c6 ?next)
 case c4=>unfold maxLen;omega
 case c5=>omega
 case c6=>simp
 case next =>
  intro v2 w2 ho2 hgr2 _;try rw [Nat.zero_add,List.nil_append] at ho2
  go_wp2_with fail;go_ret;obtain ⟨A2,c2,rfl, -, -⟩:=owns_shape ho2;exact ⟨A2,c2,rfl,ho2,((Below.refl w.heap.size w).alloc (Nat.le_refl _) _).grown hgr2 (by simp) (fun g hg=>(hoe.lt g hg).1)⟩
theorem impl_copyLists (A:Option Addr) (d:List (List Int)) (c:Nat) (w:World) (lo hi:Nat) (hr:RSS w lo hi A d) (hsz:d.length≤4194304) (hs2:∀ xs∈d,xs.length≤1073741824) :
  Calls Tryz.prog 94 #[.slice A d.length c] w fun e w'=>RetSS 44 3 d w e w':=by
 have hmx:d.length≤maxLen:=by unfold maxLen;omega
 obtain ⟨i0,hi0,hz0,hz1,hz2⟩:=info_parts infoSI;have hby:i0.bytes * d.length≤281474976710656:=by rw [hz2];omega
 go_enter Tryz.func94,Tryz.ntmps94
 go_wp2_with (at_make;refine wpList_make_own _ rfl _ _ 24 rfl w.heap.size 44 i0 (.slice none 0 0) 1 undSSI hi0 hz0 hz1 .i64 .i64 _ d.length rfl rfl rfl hby hmx (Nat.le_refl _) ?_;intro w1 hown1 hgr1)
 have hm1:Mid 0 0 w w1:=Mid.of_grown hgr1 (by intro g h;cases h);clear hi0 hz0 hz1 hz2 hby;go_loopw [3,5,11] (fun v _ i wr=>∃ k:Nat,∃ rows:List Row,k≤d.length∧i=.int .i64 k∧rowsD rows=d.take k ∧
   wr.ownsRow w.heap.size 44 1 v k (rowsV rows)∧OwnRows wr w.heap.size wr.heap.size 3 rows∧Mid 0 0 w wr)
  (fun _ _ i _=>d.length - (intOf i).toNat)
 case atStart=>exact ⟨0,[],Nat.zero_le _,rfl,by simp [rowsD],by simpa [rowsV] using hown1,OwnRows.nil,hm1⟩
 case round =>
  obtain ⟨k,rows,hk,rfl,hrd,hown,hrows,hm⟩:=hrel;have HRD:=Lib.hid hrd;clear hrd;by_cases hlt:k < d.length
  ·obtain ⟨b,off,A',c',xs,rfl, -, -,hx,hc,hrx⟩:=(hr.mid hm oZl).row hlt
   have hxl:=hs2 xs (List.mem_of_getElem? hx);have HX:=Lib.hid hx;clear hx;have hszr:=hm.size;go_wp2_with fail;with_reducible refine (impl_copyInts A' xs c' _ _ hrx.rsS (Nat.le_refl _) (by omega)).mono ?_
   rintro e w2 ⟨A2,c2,rfl,ho2,hb2⟩;have hown2:=owns_belowS hown hb2;have hrows2:=hrows.mid (w':=w2) (Mid.of_below (lo:=0) (hi:=0) hb2) oZl;have hm2:=hm.trans (Mid.of_below hb2);have hsz2:=hb2.size;have hblk:∀ g,Value.ownBlock (.slice A2 xs.length c2)=some g→g < w2.heap.size:=fun g hg=>(ho2.lt g hg).2;go_wp2_with (at_builtin;refine wpList_push rfl _ _ 24 rfl w.heap.size 44 (.slice none 0 0) 1 24 undSSI infoSI rfl (by decide) _ _ _ rfl hown2 1 [.slice A2 xs.length c2] rfl rfl ?c1 ?c2 ?c3 (by omega) ?next)
   case c1=>simp [Value.oneCell']
   case c2=>unfold maxLen;omega
   case c3=>omega
   case next =>
    intro v' w3 hown3 hgr3 _;go_wp2_with fail;go_roundw
    case rel =>
     have hp:=hrows2.push (r:=⟨A2,c2,xs⟩) (base:=wr.heap.size) (hi':=w2.heap.size) ho2 (Nat.le_refl _) hszr hsz2 (Nat.le_refl _) hblk;have hp3:=hp.grown hown2 (by decide) hgr3;refine ⟨k+1,rows++[⟨A2,c2,xs⟩],by omega,by go_num,?_,?_,?_,?_⟩
     ·rw [rowsD_append,HRD.out,take_succ_of d HX.out]
      rfl
     ·rw [rowsV_append]
      exact hown3
     ·exact hp3.wide (Nat.le_refl _) hgr3.size (Nat.le_refl _)
     ·exact hm2.grownNew hgr3 (fun g hg=>(hown2.lt g hg).1)
    case measure=>simp [intOf];omega
  ·go_wp2_with fail
   go_ret;obtain rfl:k=d.length:=by omega
   have hD:rowsD rows=d:=by rw [HRD.out,List.take_length]
   obtain ⟨A1,c1,rfl, -, -⟩:=owns_shape hown;exact ⟨A1,c1,rfl,OSS.mk' hown hrows hD,hm⟩
theorem spec_l20Copy (A:Option Addr) (d:List (List Int)) (c:Nat) (w:World) (lo hi:Nat) (hr:RSS w lo hi A d) (hsz:d.length≤4194304) (hs2:∀ xs∈d,xs.length≤1073741824) :
  Calls Tryz.prog 96 #[.slice A d.length c] w fun e w'=>RetSS 44 3 d w e w':=by
 have hb0:Mid 0 0 w (w.alloc (.cells #[] 44)):=Mid.alloc _ _;have ho0:=owns_empty w 44 1;go_enter Tryz.func96,Tryz.ntmps96
 go_wp2_with fail;go_loopw [3,4] (fun v i wr=>∃ k:Nat,∃ rows:List Row,k≤d.length∧i=.int .i64 k∧rowsD rows=d.take k ∧
   wr.ownsRow w.heap.size 44 1 v k (rowsV rows)∧OwnRows wr w.heap.size wr.heap.size 3 rows∧Mid 0 0 w wr)
  (fun _ i _=>d.length - (intOf i).toNat)
 case atStart=>exact ⟨0,[],Nat.zero_le _,rfl,by simp [rowsD],by simpa [rowsV] using ho0,OwnRows.nil,hb0⟩
 case round =>
  obtain ⟨k,rows,hk,rfl,hrd,hown,hrows,hm⟩:=hrel;have HRD:=Lib.hid hrd;clear hrd;by_cases hlt:k < d.length
  ·obtain ⟨b,off,A',c',xs,rfl, -,hbhi,hx,hc,hrx⟩:=(hr.mid hm oZl).row hlt
   have hxl:=hs2 xs (List.mem_of_getElem? hx);have HX:=Lib.hid hx;clear hx;have hszr:=hm.size;have hlt3:(k:Int) < (d.length:Int):=by omega
   have hma:Mid 0 0 wr (wr.alloc (.cells #[] 3)):=Mid.alloc _ _;have hoe:=owns_empty wr 3 1;have hra:Rs (wr.alloc (.cells #[] 3)) wr.heap.size A' (ints xs):=hrx.rsS.alloc (Nat.le_refl _) _;have hbs:b < wr.heap.size:=by have:=hr.size;have:=hm.size;omega
   have hca:(wr.alloc (.cells #[] 3)).cell? ⟨b,off+k,none⟩=some (.slice A' xs.length c'):=(World.cell?_alloc_lt wr _ _ hbs).trans hc;have hla:(ints xs).length=xs.length * 1:=by rw [ints_len];omega
   have hown1:=hown.alloc (.cells #[] 3);have hrows1:=hrows.mid hma oZl;clear hrx;go_wp2_with (at_builtin;refine wpList_cat rfl _ _ 44 rfl wr.heap.size 3 (.int .i64 0) 1 8 undSI infoI rfl (by decide) _ _ _ rfl hoe A' xs.length c' wr.heap.size (ints xs) rfl hra hla (one_of_ints _) ?c4 ?c5 ?c6 ?next1)
   case c4=>unfold maxLen;omega
   case c5=>omega
   case c6=>simp
   case next1 =>
    intro v2 w2 ho2 hgr2 _;try rw [Nat.zero_add,List.nil_append] at ho2
    have hm12:Mid 0 0 wr w2:=hma.grownNew hgr2 (fun g hg=>(hoe.lt g hg).1);have hown2:=owns_mid hown hm12 oZl;have hrows2:=hrows.mid hm12 oZl;have hm2:=hm.trans hm12;have hsz2:=hm12.size;obtain ⟨A2,c2,rfl, -, -⟩:=owns_shape ho2;have hblk:∀ g,Value.ownBlock (.slice A2 xs.length c2)=some g→g < w2.heap.size:=fun g hg=>(ho2.lt g hg).2;clear hown1 hrows1 hra hoe;go_wp2_with (at_builtin;refine wpList_push rfl _ _ 24 rfl w.heap.size 44 (.slice none 0 0) 1 24 undSSI infoSI rfl (by decide) _ _ _ rfl hown2 1 [.slice A2 xs.length c2] rfl rfl ?d1 ?d2 ?d3 (by omega) ?next)
    case d1=>simp [Value.oneCell']
    case d2=>unfold maxLen;omega
    case d3=>omega
    case next =>
     intro v' w3 hown3 hgr3 _;go_wp2_with fail;go_roundw
     case rel =>
      have hp:=hrows2.push (r:=⟨A2,c2,xs⟩) (base:=wr.heap.size) (hi':=w2.heap.size) ho2 (Nat.le_refl _) hszr hsz2 (Nat.le_refl _) hblk;have hp3:=hp.grown hown2 (by decide) hgr3;refine ⟨k+1,rows++[⟨A2,c2,xs⟩],by omega,by go_num,?_,?_,?_,?_⟩
      ·rw [rowsD_append,HRD.out,take_succ_of d HX.out]
       rfl
      ·rw [rowsV_append]
       exact hown3
      ·exact hp3.wide (Nat.le_refl _) hgr3.size (Nat.le_refl _)
      ·exact hm2.grownNew hgr3 (fun g hg=>(hown2.lt g hg).1)
     case measure=>simp [intOf];omega
  ·go_wp2_with fail
   go_ret;obtain rfl:k=d.length:=by omega
   have hD:rowsD rows=d:=by rw [HRD.out,List.take_length]
   obtain ⟨A1,c1,rfl, -, -⟩:=owns_shape hown;exact ⟨A1,c1,rfl,OSS.mk' hown hrows hD,hm⟩
end
section
open Go.RowKit
def MarkerX (P:Prop):Prop:=P
theorem MarkerX.to {P:Prop} (h:MarkerX P):P:=h
end
section
open Go.RowKit
end
section
open Go.RowKit
def WordTo (rank:Int) (xs:List Int) (k:Nat):Prop :=
 ∀ j x,j < k→xs[j]?=some x→letB rank x=true∧∀ y,0 < j→xs[j - 1]?=some y→invB y x=false
theorem WordTo.zero (rank:Int) (xs:List Int):WordTo rank xs 0:=fun j x h=>absurd h (Nat.not_lt_zero j)
theorem WordTo.succ {rank:Int} {xs:List Int} {k:Nat} {x:Int} (h:WordTo rank xs k) (hx:xs[k]?=some x) (hl:letB rank x=true) (hp:∀ y,0 < k→xs[k - 1]?=some y→invB y x=false):WordTo rank xs (k+1):=by
 intro j z hj hz;rcases Nat.lt_or_eq_of_le (Nat.le_of_lt_succ hj) with h1 | rfl
 ·exact h j z h1 hz
 ·rw [hx] at hz
  obtain rfl:=Option.some.inj hz;exact ⟨hl,hp⟩
theorem wordTo_all {rank:Int} {xs:List Int} (h1:1≤rank) (h3:rank≤3):WordTo rank xs xs.length↔WordP rank xs:=by
 constructor
 ·intro h
  refine ⟨fun x hx=>?_,fun k x y hx hy he=>?_⟩
  ·obtain ⟨j,hj⟩:=List.mem_iff_getElem?.1 hx
   have:=(h j x (List.getElem?_eq_some_iff.1 hj).1 hj).1
   simpa [letB] using this
  ·have hl:=(List.getElem?_eq_some_iff.1 hy).1
   have h2:=(h (k+1) y hl hy).2 x (Nat.succ_pos k) (by simpa using hx);have h4:=(h k x (by omega) hx).1;simp [letB] at h4;have:invB x y=true:=(invB_iff x y).2 ⟨h4.1,by unfold minI;omega,he⟩;rw [this] at h2;cases h2
 ·rintro ⟨ha,hb⟩ j x hj hx
  refine ⟨by simpa [letB] using ha x (List.mem_of_getElem? hx),fun y h0 hy=>?_⟩;cases hv:invB y x with
  | false=>rfl
  | true=>exact absurd ((invB_iff y x).1 hv).2.2 (hb (j - 1) y x hy (by rw [Nat.sub_add_cancel h0];exact hx))
def RawAt (rank:Int) (xs:List Int) (j:Nat) (x:Int):Prop:=(x == 0)=false∧inB x (wrap64 (-rank)) rank=true∧∀ y,0 < j→xs[j - 1]?=some y→(x == wrap64 (-y))=false
def RawTo (rank:Int) (xs:List Int) (k:Nat):Prop:=∀ j x,j < k→xs[j]?=some x→RawAt rank xs j x
theorem RawTo.zero (rank:Int) (xs:List Int):RawTo rank xs 0:=fun j x h=>absurd h (Nat.not_lt_zero j)
theorem RawTo.succ {rank:Int} {xs:List Int} {k:Nat} {x:Int} (h:RawTo rank xs k) (hx:xs[k]?=some x) (hp:RawAt rank xs k x):RawTo rank xs (k+1):=by
 intro j z hj hz;rcases Nat.lt_or_eq_of_le (Nat.le_of_lt_succ hj) with h1 | rfl
 ·exact h j z h1 hz
 ·rw [hx] at hz
  obtain rfl:=Option.some.inj hz;exact hp
theorem rawTo_all {rank:Int} {xs:List Int} (h1:1≤rank) (h3:rank≤3):RawTo rank xs xs.length↔WordP rank xs:=by
 have hw:wrap64 (-rank) = -rank:=by rw [wrap_neg (by omega) (by omega)];unfold negI minI;rw [if_neg (by omega)]
 have hwy:∀ y, -rank≤y→y≤rank→wrap64 (-y) = -y:=fun y ha hb=>by rw [wrap_neg (by omega) (by omega)];unfold negI minI;rw [if_neg (by omega)]
 unfold RawTo RawAt;rw [hw];constructor
 ·intro h
  refine ⟨fun x hx=>?_,fun k x y hx hy he=>?_⟩
  ·obtain ⟨j,hj⟩:=List.mem_iff_getElem?.1 hx
   have:=h j x (List.getElem?_eq_some_iff.1 hj).1 hj;simp [inB] at this;exact ⟨this.1,this.2.1⟩
  ·have hl:=(List.getElem?_eq_some_iff.1 hy).1
   have h2:=(h (k+1) y hl hy).2.2 x (Nat.succ_pos k) (by simpa using hx);have h4:=(h k x (by omega) hx).2.1;simp [inB] at h4;rw [hwy x h4.1 h4.2,he] at h2;simp at h2
 ·rintro ⟨ha,hb⟩ j x hj hx
  have h0:=ha x (List.mem_of_getElem? hx);refine ⟨by simpa using h0.1,by simpa [inB] using h0.2,fun y hp hy=>?_⟩;have h5:=ha y (List.mem_of_getElem? hy);rw [hwy y h5.2.1 h5.2.2];have:=hb (j - 1) y x hy (by rw [Nat.sub_add_cancel hp];exact hx)
  simpa using this
end
section
open Go.RowKit
theorem impl_IsWord (rank:Int) (A:Option Addr) (xs:List Int) (c:Nat) (w:World) (B:Nat) (hr:Rs w B A (ints xs)) (hok:OkI xs) (hl:xs.length≤4194304) (r:Bool) (hres:r=true↔IsW rank xs) :
  Calls Tryz.prog 146 #[.int .i64 rank,.slice A xs.length c] w fun e w'=>e=.returned (.bool r)∧w=w':=by
 have HOK:=Lib.hid hok;have HR:=Lib.hid hres;clear hok hres;by_cases hb:inB rank 1 3=false
 ·have hf:r=false:=by
   cases r with
   | false=>rfl
   | true =>
    have h:=HR.out.1 rfl;simp [inB] at hb;have:=h.1;have:=h.2.1;omega
  subst hf;have HB:=Lib.hid hb;clear hb;go_enter Tryz.func146,Tryz.ntmps146
  go_wp2_with fail;refine (within_any _ _ _ _).mono ?_;rintro e w' ⟨rfl,rfl⟩;rw [HB.out];go_wp2_with fail;go_ret;exact ⟨rfl,rfl⟩
 ·have hb':inB rank 1 3=true:=by simpa using hb
  have h13:1≤rank∧rank≤3:=by simpa [inB] using hb'
  have HB:=Lib.hid hb';clear hb hb';obtain ⟨h1,h3⟩:=h13;by_cases h24:24 < xs.length
  ·have hf:r=false:=by
    cases r with
    | false=>rfl
    | true =>
     have:=(HR.out.1 rfl).2.2.1;omega
   subst hf;go_enter Tryz.func146,Tryz.ntmps146
   go_wp2_with fail;refine (within_any _ _ _ _).mono ?_;rintro e w' ⟨rfl,rfl⟩;rw [HB.out];go_wp2_with fail;go_ret;exact ⟨rfl,rfl⟩
  ·have hR2:r=true↔WordTo rank xs xs.length:=HR.out.trans ⟨fun h=>(wordTo_all h1 h3).2 h.2.2.2,fun h=>⟨h1,h3,by omega,(wordTo_all h1 h3).1 h⟩⟩
   have HR2:=Lib.hid hR2;clear hR2 HR;go_enter Tryz.func146,Tryz.ntmps146
   go_wp2_with fail;refine (within_any _ _ _ _).mono ?_;rintro e w' ⟨rfl,rfl⟩;rw [HB.out];go_wp2_with fail;go_loop [5,6,17] (fun _ _ i=>∃ k:Nat,k≤xs.length∧i=.int .i64 k∧WordTo rank xs k) (fun _ _ i=>xs.length - (intOf i).toNat)
   case atStart=>exact ⟨0,Nat.zero_le _,rfl,WordTo.zero _ _⟩
   case round =>
    obtain ⟨k,hk,rfl,hto⟩:=hrel;have HT:=Lib.hid hto;clear hto;by_cases hlt:k < xs.length
    ·obtain ⟨b,off,x,rfl, -,hx,hc⟩:=hr.int hlt
     have HX:=Lib.hid hx;clear hx;by_cases hL:letB rank x=false
     ·have hf:r=false:=by
       cases r with
       | false=>rfl
       | true =>
        have:=(HR2.out.1 rfl k x hlt HX.out).1;rw [hL] at this;cases this
      subst hf;have HL:=Lib.hid hL;clear hL;go_wp2_with fail;refine (impl_isLetter _ _ _ h1 h3).mono ?_;rintro e w' ⟨rfl,rfl⟩;rw [HL.out];go_wp2_with fail;go_ret;exact ⟨rfl,rfl⟩
     ·have hL':letB rank x=true:=by simpa using hL
      have HL:=Lib.hid hL';clear hL hL';cases k with
      | zero =>
       have hc0:w.cell? ⟨b,off,none⟩=some (.int .i64 x):=hc;go_wp2_with fail;refine (impl_isLetter _ _ _ h1 h3).mono ?_;rintro e w' ⟨rfl,rfl⟩;rw [HL.out];go_wp2_with fail;go_round
       case rel=>exact ⟨1,by omega,by go_num,HT.out.succ HX.out HL.out (fun y h=>absurd h (Nat.lt_irrefl 0))⟩
       case measure=>simp [intOf];omega
      | succ m =>
       obtain ⟨b',off',y,he, -,hy,hcy⟩:=hr.int (show m < xs.length by omega);injection he with he
       injection he with he1 he2 _
       subst he1 he2;have hby:=HOK.out y (List.mem_of_getElem? hy);have HY:=Lib.hid hy;have hyl:-9223372036854775808≤y∧y≤9223372036854775807:=hby;obtain ⟨hy1,hy2⟩:=hyl;clear hy hby;by_cases hI:invB y x=true
       ·have hf:r=false:=by
         cases r with
         | false=>rfl
         | true =>
          have:=(HR2.out.1 rfl (m+1) x hlt HX.out).2 y (Nat.succ_pos m) HY.out;rw [hI] at this;cases this
        subst hf;have HI:=Lib.hid hI;clear hI;go_wp2_with fail;refine (impl_isLetter _ _ _ h1 h3).mono ?_;rintro e w' ⟨rfl,rfl⟩;rw [HL.out];go_wp2_with fail;refine (impl_areInverse _ _ _ hy1 hy2).mono ?_;rintro e w' ⟨rfl,rfl⟩;rw [HI.out];go_wp2_with fail;go_ret;exact ⟨rfl,rfl⟩
       ·have hI':invB y x=false:=by simpa using hI
        have HI:=Lib.hid hI';clear hI hI';go_wp2_with fail;refine (impl_isLetter _ _ _ h1 h3).mono ?_;rintro e w' ⟨rfl,rfl⟩;rw [HL.out];go_wp2_with fail;refine (impl_areInverse _ _ _ hy1 hy2).mono ?_;rintro e w' ⟨rfl,rfl⟩;rw [HI.out];go_wp2_with fail;go_round
        case rel =>
         refine ⟨m+1+1,by omega,by go_num,HT.out.succ HX.out HL.out (fun z _ hz=>?_)⟩;rw [Nat.add_sub_cancel,HY.out] at hz;obtain rfl:=Option.some.inj hz;exact HI.out
        case measure=>simp [intOf];omega
    ·obtain rfl:k=xs.length:=by omega
     obtain rfl:r=true:=HR2.out.2 HT.out;go_wp2_with fail;go_ret;exact ⟨rfl,rfl⟩
end
section
open Go.RowKit
theorem spec_IsWord (rank:Int) (A:Option Addr) (xs:List Int) (c:Nat) (w:World) (B:Nat) (hr:Rs w B A (ints xs)) (hok:OkI xs) (hl:xs.length≤4194304) (r:Bool) (hres:r=true↔IsW rank xs) :
  Calls Tryz.prog 101 #[.int .i64 rank,.slice A xs.length c] w fun e w'=>e=.returned (.bool r)∧∃ n,w'=w.drewN n:=by
 have HOK:=Lib.hid hok;have hR2:r=true↔(RawTo rank xs xs.length∧inB rank 1 3=true∧xs.length≤24):=hres.trans ⟨fun h=>⟨(rawTo_all h.1 h.2.1).2 h.2.2.2,by simp [inB];exact ⟨h.1,h.2.1⟩,h.2.2.1⟩,fun h=>by
  have h13:1≤rank∧rank≤3:=by simpa [inB] using h.2.1
  exact ⟨h13.1,h13.2,h.2.2,(rawTo_all h13.1 h13.2).1 h.1⟩⟩
 have HR:=Lib.hid hR2;clear hok hres hR2;obtain ⟨nr,hnr⟩:∃ nr,wrap64 (-rank)=nr:=⟨_,rfl⟩
 go_enter Tryz.func101,Tryz.ntmps101
 go_wp2_with fail;go_loopw [5] (fun i wr=>∃ k:Nat,k≤xs.length∧i=.int .i64 k∧(∃ n,wr=w.drewN n)∧RawTo rank xs k) (fun i _=>xs.length - (intOf i).toNat)
 case atStart=>exact ⟨0,Nat.zero_le _,rfl,⟨0,rfl⟩,RawTo.zero _ _⟩
 case round =>
  obtain ⟨k,hk,rfl,⟨nd,rfl⟩,hto⟩:=hrel;have HT:=Lib.hid hto;clear hto;by_cases hlt:k < xs.length
  ·obtain ⟨b,off,x,rfl, -,hx,hc⟩:=hr.int hlt
   have HX:=Lib.hid hx;clear hx;have hlt3:(k:Int) < (xs.length:Int):=by omega
   have hno:∀ (P:Prop),(RawAt rank xs k x→P)→r=true→P:=fun P h hr1=>h ((HR.out.1 hr1).1 k x hlt HX.out);have HNO:=Lib.hid hno;clear hno;by_cases hx0:(x == 0)=true
   ·have hf:r=false:=by
     cases r with
     | false=>rfl
     | true =>
      refine (HNO.out False (fun h=>?_) rfl).elim;rw [h.1] at hx0;cases hx0
    subst hf;go_wp2_with fail;go_quiet (fail)
    go_wp2_with fail;go_ret;exact ⟨rfl,_,by first | rfl | exact dn _ _ _⟩
   ·have hx0':(x == 0)=false:=by simpa using hx0
    clear hx0;have hC:=fun n:Nat=>pq (l1In_any x nr rank (w.drewN n));by_cases hi:inB x nr rank=false
    ·have hf:r=false:=by
      cases r with
      | false=>rfl
      | true =>
       refine (HNO.out False (fun h=>?_) rfl).elim;have h2:=h.2.1;rw [hnr,hi] at h2;cases h2
     subst hf;rw [hi] at hC;have HC:=Lib.hid hC;clear hC hi;go_wp2_with fail;go_quiet ((go_at_call 102;first | exact qz0 (HC.out _) | exact qz1 (HC.out _)))
     go_wp2_with fail;go_ret;exact ⟨rfl,_,by first | rfl | exact dn _ _ _⟩
    ·have hi':inB x nr rank=true:=by simpa using hi
     rw [hi'] at hC;have HC:=Lib.hid hC;have HI:=Lib.hid hi';clear hC hi hi';cases k with
     | zero =>
      have hc0:w.cell? ⟨b,off,none⟩=some (.int .i64 x):=hc;go_wp2_with fail;go_quiet ((go_at_call 102;first | exact qz0 (HC.out _) | exact qz1 (HC.out _)))
      go_wp2_with fail;go_roundw
      case rel=>exact ⟨1,by omega,by go_num,⟨_,by first | rfl | exact dn _ _ _⟩,HT.out.succ HX.out ⟨hx0',by rw [hnr];exact HI.out,fun y h=>absurd h (Nat.lt_irrefl 0)⟩⟩
      case measure=>simp [intOf];omega
     | succ m =>
      obtain ⟨b',off',y,he, -,hy,hcy⟩:=hr.int (show m < xs.length by omega);injection he with he
      injection he with he1 he2 _
      subst he1 he2;have HY:=Lib.hid hy;clear hy;have hlm3:(m:Int) < (xs.length:Int):=by omega
      have hm0:(0:Int) < (m:Int)+1:=by omega
      have hp1:(m:Int)+1 - 1=(m:Int):=by omega
      obtain ⟨ny,hny⟩:∃ ny,wrap64 (-y)=ny:=⟨_,rfl⟩
      by_cases hxy:(x == ny)=true
      ·have hf:r=false:=by
        cases r with
        | false=>rfl
        | true =>
         refine (HNO.out False (fun h=>?_) rfl).elim;have h2:=h.2.2 y (Nat.succ_pos m) HY.out;rw [hny,hxy] at h2;cases h2
       subst hf;go_wp2_with fail;go_quiet ((go_at_call 102;first | exact qz0 (HC.out _) | exact qz1 (HC.out _)))
       go_wp2_with fail;go_ret;exact ⟨rfl,_,by first | rfl | exact dn _ _ _⟩
      ·have hxy':(x == ny)=false:=by simpa using hxy
       clear hxy;go_wp2_with fail;go_quiet ((go_at_call 102;first | exact qz0 (HC.out _) | exact qz1 (HC.out _)))
       go_wp2_with fail;go_roundw
       case rel =>
        refine ⟨m+1+1,by omega,by go_num,⟨_,by first | rfl | exact dn _ _ _⟩,HT.out.succ HX.out ⟨hx0',by rw [hnr];exact HI.out,fun z _ hz=>?_⟩⟩;rw [Nat.add_sub_cancel,HY.out] at hz;obtain rfl:=Option.some.inj hz;rw [hny];exact hxy'
       case measure=>simp [intOf];omega
  ·obtain rfl:k=xs.length:=by omega
   have hrv:r=(inB rank 1 3 && decide ((xs.length:Int)≤24)):=by
    rw [Bool.eq_iff_iff,HR.out];simp only [Bool.and_eq_true,decide_eq_true_eq];exact ⟨fun h=>⟨h.2.1,by omega⟩,fun h=>⟨HT.out,h.1,by omega⟩⟩
   by_cases hib:inB rank 1 3=false
   ·rw [hib] at hrv
    have HI:=Lib.hid hib;clear hib;simp only [Bool.false_and] at hrv;subst hrv;go_wp2_with fail;refine (l1In_any _ _ _ _).mono ?_;rintro e w' ⟨rfl,rfl⟩;rw [HI.out];go_wp2_with fail;go_ret;exact ⟨rfl,_,rfl⟩
   ·have hib':inB rank 1 3=true:=by simpa using hib
    rw [hib'] at hrv;have HI:=Lib.hid hib';simp only [Bool.true_and] at hrv;clear hib hib';subst hrv;go_wp2_with fail;refine (l1In_any _ _ _ _).mono ?_;rintro e w' ⟨rfl,rfl⟩;rw [HI.out];go_wp2_with fail;go_ret;exact ⟨rfl,_,rfl⟩
end
end Go.Proofs.YtkimajabegojoaaGreat
