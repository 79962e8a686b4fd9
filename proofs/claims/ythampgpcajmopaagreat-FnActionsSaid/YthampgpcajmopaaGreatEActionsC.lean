
import Derived.Test.YthampgpcajmopaaGreatAc15
import Derived.Test.YthampgpcajmopaaGreatAc14
import Derived.Deep.DeepCutAuto
import Derived.Deep.CutRange
namespace Go.Proofs.YthampgpcajmopaaGreat
set_option maxHeartbeats 40000000
set_option maxRecDepth 100000
open Go.RowKit
set_option linter.unusedVariables false
set_option linter.unusedSimpArgs false
theorem act_own {a n:Nat} {es:List Ed} {ac:List (List Int)} (h:IsFin a n es) (hac:ActionOfIs a n es ac) {rr rs:Int} {res:List Ed} {b:Bool} (hga:GActIs a ac rr rs res b):b=true∧rr=a∧rs=n∧es=res:=by
 obtain ⟨h1,h2,h3,h4⟩:=own_action h (rr:=rr) (rs:=rs) (res:=res) (b:=b) (by have e:ac=actL n es a:=hac.trans (if_pos h);rw [← e];exact hga);exact ⟨h1,h2,h3,h4.symm⟩
theorem walk_Actions (A0:Option Addr) (d0:List Int) (c0:Nat) (w:World) (r0:RV w 0 w.heap.size A0 (byts d0)) (_o0:OkB d0) (_l0:d0.length≤9223372036854775807) :
  Calls Tryz.prog 6 #[.slice A0 d0.length c0] w fun e w'=>e=.returned (.bool true)∧Below w.heap.size w w':=by
 by_cases hbig:decide ((d0.length:Int) > 1048576)=true
 ·go_enter Tryz.func6,Tryz.ntmps6
  go_wp2_with fail;with_reducible refine (big_any A0 d0.length c0 w).mono ?_
  rintro e w1 ⟨rfl,rfl⟩;rw [hbig];go_wp2_with fail;go_ret;exact ⟨rfl,Below.refl _ _⟩
 have hl0:d0.length≤1048576:=by simp at hbig;omega
 have hbig2:decide ((d0.length:Int) > 1048576)=false:=by simpa using hbig
 clear hbig _l0;obtain ⟨L0,hL0⟩:∃ n,n=w.heap.size:=⟨_,rfl⟩
 rw [← hL0];have hm:=Mid.refl 0 0 w;go_enter Tryz.func6,Tryz.ntmps6
 go_wp2_with fail;with_reducible refine (big_any A0 d0.length c0 w).mono ?_
 rintro e w1 ⟨rfl,rfl⟩;rw [hbig2];go_wp2_with fail;with_reducible refine (DrawWordPermutation_any A0 d0 c0 _ _ _o0 hl0 r0).mono ?_
 rintro e wa1 ⟨r,s,A1,c1,es,Aw,cw,xs,rfl,dg,dx,o1,ow,m⟩;replace r0:=r0.mid m oZl;replace hm:=hm.trans m;clear m;have hl1:es.length≤1048576:=by have:=dg.len;omega
 have hlx:xs.length≤7:=dx.1;have hlx2:xs.length≤1048576:=by omega
 have HOX:=Lib.hid dx.2;clear dg dx;obtain ⟨p,hp⟩:=WordPermutationIs_ex r s es xs hl1 HOX.out hlx2;have hlp:=WordPermutationIs_len hp hl1 HOX.out hlx2;have HP:=Lib.hid hp;obtain ⟨ac,hac⟩:=ActionOfIs_ex r s es hl1;have hacl:=ActionOfIs_len hac hl1;have hal:ac.length≤1048576:=by omega
 have hax:Hid (∀ x∈ac,x.length≤1048576):=Lib.hid (fun x hx=>by have:=le_sumL hx;omega);have HAC:=Lib.hid hac;obtain ⟨bn,hbn⟩:=InNormalCoreIs_ex r s es xs hl1 HOX.out hlx2;have HBN:=Lib.hid hbn;obtain ⟨om,hom⟩:=OrderModuloIs_ex r s es xs hl1 HOX.out hlx2;have HOM:=Lib.hid hom;clear hp hac hacl hbn hom;have al:=Mid.alloc wa1 (.cells #[.int .i64 r,.int .i64 s,.slice A1 es.length c1] 26);have B3:=Box.new wa1 #[.int .i64 r,.int .i64 s,.slice A1 es.length c1] 26;obtain ⟨nB3,hnB3⟩:∃ g,wa1.heap.size=g:=⟨_,rfl⟩
 replace r0:=r0.mid al oZl;replace o1:=o1.mid al oZl;replace ow:=ow.mid al oZl;replace hm:=hm.trans al;rw [hnB3] at B3;obtain ⟨wB3,hwB3⟩:∃ x,wa1.alloc (.cells #[.int .i64 r,.int .i64 s,.slice A1 es.length c1] 26)=x:=⟨_,rfl⟩
 rw [hwB3] at r0 o1 ow B3 hm;clear al;have B3l:=B3.1;have B30:=B3.cell 0 rfl;have B31:=B3.cell 1 rfl;have B32:=B3.cell 2 rfl;go_wp2_with fail;clear B3l B30 B31 B32 hnB3 hwB3;with_reducible refine (simpl_WordPermutation r s A1 es c1 Aw xs cw _ _ _ o1 hl1 _ _ ow HOX.out hlx2 p HP.out).mono ?_
 rintro e wa2 ⟨Ap,cp,rfl,op,m⟩;replace r0:=r0.mid m oZl;replace o1:=o1.mid m oZl;replace ow:=ow.mid m oZl;replace B3:=B3.mid m oZr;replace hm:=hm.trans m;clear m;replace o1:=o1.wide (Nat.zero_le _) o1.size (Nat.le_refl _);replace ow:=ow.wide (Nat.zero_le _) ow.size (Nat.le_refl _);replace op:=op.wide (Nat.zero_le _) op.size (Nat.le_refl _);obtain ⟨hL,hhL⟩:∃ x,x=wa2.heap.size:=⟨_,rfl⟩
 rw [← hhL] at o1 ow op;clear hhL;go_upto_region 5 with fail
 go_cut [59] from 20 to 59 (fun v wx=>v=.bool false∧Box wx nB3 [.int .i64 r,.int .i64 s,.slice A1 es.length c1]∧OG wx 0 hL A1 c1 es∧OI wx 0 hL Aw cw xs∧OI wx 0 hL Ap cp p∧RV wx 0 w.heap.size A0 (byts d0)∧Mid 0 0 w wx)
 case first =>
  go_upto_region 5 with fail
  have hmd:=Mid.drew1 wa2;replace r0:=r0.mid hmd oZl;replace o1:=o1.mid hmd oZl;replace ow:=ow.mid hmd oZl;replace op:=op.mid hmd oZl;replace B3:=B3.mid hmd oZr;replace hm:=hm.trans hmd;clear hmd;have hS:=(And.intro (B3.cell 0 rfl) (And.intro (B3.cell 1 rfl) (B3.cell 2 rfl)))
  refine wp_region_Z (S:=(fun w'=>w'.cell? ⟨nB3,0,none⟩=some (.int .i64 r)∧w'.cell? ⟨nB3,1,none⟩=some (.int .i64 s)∧w'.cell? ⟨nB3,2,none⟩=some (.slice A1 es.length c1))) [] (by kernel_rfl) hS ?_;generalize World.drew wa2=wz at hS r0 o1 ow op B3 hm ⊢;clear hS;refine tkZ [] 0 rfl (And.intro (B3.cell 0 rfl) (And.intro (B3.cell 1 rfl) (B3.cell 2 rfl))) ?_;try simp only [Act.put,zs1,zs2,zs3,zs4,zs5,zs6]
  refine tkZ [] 1 rfl (And.intro (B3.cell 0 rfl) (And.intro (B3.cell 1 rfl) (B3.cell 2 rfl))) ?_;try simp only [Act.put,zs1,zs2,zs3,zs4,zs5,zs6]
  refine tkZ [] 2 rfl (And.intro (B3.cell 0 rfl) (And.intro (B3.cell 1 rfl) (B3.cell 2 rfl))) ?_;try simp only [Act.put,zs1,zs2,zs3,zs4,zs5,zs6]
  have HZ:=Lib.hid (sspec_WordPermutation r s A1 es c1 Aw xs cw wz _ _ o1 hl1 _ _ ow HOX.out hlx2 p HP.out);refine rdZ 3 rfl (fun K hK=>?_)
  (go_simp;(with_reducible refine (HZ.out).mono ?_);rintro en wz3 ⟨Aq,cq,rfl,oq,mz3⟩;have Bt:=B3.mid mz3 oZr;go_wp2_with fail)
  refine hK.out _ _ (Or.inr (And.intro (Bt.cell 0 rfl) (And.intro (Bt.cell 1 rfl) (Bt.cell 2 rfl)))) (fun _=>?_);clear hK K;try simp only [Act.put,zs1,zs2,zs3,zs4,zs5,zs6]
  clear Bt HZ;replace r0:=r0.mid mz3 oZl;replace o1:=o1.mid mz3 oZl;replace ow:=ow.mid mz3 oZl;replace op:=op.mid mz3 oZl;replace B3:=B3.mid mz3 oZr;replace hm:=hm.trans mz3;clear mz3;have hrp:=OI.ri op;have hrq:=OI.ri oq;have HZ:=Lib.hid (sameInts_eq Ap p cp Aq cq wz3 _ _ _ _ hrp hrq hlp);refine rdZ 4 rfl (fun K hK=>?_)
  (go_simp;(with_reducible refine (HZ.out).mono ?_);rintro en wz4 ⟨rfl,mz4⟩;have Bt:=B3.mid mz4 oZr;go_wp2_with fail)
  refine hK.out _ _ (Or.inr (And.intro (Bt.cell 0 rfl) (And.intro (Bt.cell 1 rfl) (Bt.cell 2 rfl)))) (fun _=>?_);clear hK K;try simp only [Act.put,zs1,zs2,zs3,zs4,zs5,zs6]
  clear Bt HZ;replace r0:=r0.mid mz4 oZl;replace o1:=o1.mid mz4 oZl;replace ow:=ow.mid mz4 oZl;replace op:=op.mid mz4 oZl;replace oq:=oq.mid mz4 oZl;replace B3:=B3.mid mz4 oZr;replace hm:=hm.trans mz4;clear mz4;clear hrp hrq;clear oq;refine tkZ [] 5 rfl (And.intro (B3.cell 0 rfl) (And.intro (B3.cell 1 rfl) (B3.cell 2 rfl))) ?_;try simp only [Act.put,zs1,zs2,zs3,zs4,zs5,zs6]
  refine tkZ [] 6 rfl (And.intro (B3.cell 0 rfl) (And.intro (B3.cell 1 rfl) (B3.cell 2 rfl))) ?_;try simp only [Act.put,zs1,zs2,zs3,zs4,zs5,zs6]
  refine tkZ [] 7 rfl (And.intro (B3.cell 0 rfl) (And.intro (B3.cell 1 rfl) (B3.cell 2 rfl))) ?_;try simp only [Act.put,zs1,zs2,zs3,zs4,zs5,zs6]
  refine tkZ [] 9 rfl (And.intro (B3.cell 0 rfl) (And.intro (B3.cell 1 rfl) (B3.cell 2 rfl))) ?_;try simp only [Act.put,zs1,zs2,zs3,zs4,zs5,zs6]
  have HZ:=Lib.hid (simpl_ActionOf r s A1 es c1 wz4 _ _ o1 hl1 ac HAC.out);refine rdZ 8 rfl (fun K hK=>?_)
  (go_simp;(with_reducible refine (HZ.out).mono ?_);rintro en wz5 ⟨Aa,ca,rfl,oa,mz5⟩;have Bt:=B3.mid mz5 oZr;go_wp2_with fail)
  refine hK.out _ _ (Or.inr (And.intro (Bt.cell 0 rfl) (And.intro (Bt.cell 1 rfl) (Bt.cell 2 rfl)))) (fun _=>?_);clear hK K;try simp only [Act.put,zs1,zs2,zs3,zs4,zs5,zs6]
  clear Bt HZ;replace r0:=r0.mid mz5 oZl;replace o1:=o1.mid mz5 oZl;replace ow:=ow.mid mz5 oZl;replace op:=op.mid mz5 oZl;replace B3:=B3.mid mz5 oZr;replace hm:=hm.trans mz5;clear mz5;have HZ:=Lib.hid (sspec_ActionOf r s A1 es c1 wz5 _ _ o1 hl1 ac HAC.out);refine rdZ 10 rfl (fun K hK=>?_)
  (go_simp;(with_reducible refine (HZ.out).mono ?_);rintro en wz6 ⟨Ab,cb,rfl,ob,mz6⟩;have Bt:=B3.mid mz6 oZr;go_wp2_with fail)
  refine hK.out _ _ (Or.inr (And.intro (Bt.cell 0 rfl) (And.intro (Bt.cell 1 rfl) (Bt.cell 2 rfl)))) (fun _=>?_);clear hK K;try simp only [Act.put,zs1,zs2,zs3,zs4,zs5,zs6]
  clear Bt HZ;replace r0:=r0.mid mz6 oZl;replace o1:=o1.mid mz6 oZl;replace ow:=ow.mid mz6 oZl;replace op:=op.mid mz6 oZl;replace oa:=oa.mid mz6 oZl;replace B3:=B3.mid mz6 oZr;replace hm:=hm.trans mz6;clear mz6;have hra:=oa.rss;have hrb:=ob.rss;have HZ:=Lib.hid (sameWords_eq Aa ac ca Ab cb wz6 _ _ _ _ hra hrb hal hax.out);refine rdZ 11 rfl (fun K hK=>?_)
  (go_simp;(with_reducible refine (HZ.out).mono ?_);rintro en wz7 ⟨rfl,mz7⟩;have Bt:=B3.mid mz7 oZr;go_wp2_with fail)
  refine hK.out _ _ (Or.inr (And.intro (Bt.cell 0 rfl) (And.intro (Bt.cell 1 rfl) (Bt.cell 2 rfl)))) (fun _=>?_);clear hK K;try simp only [Act.put,zs1,zs2,zs3,zs4,zs5,zs6]
  clear Bt HZ;replace r0:=r0.mid mz7 oZl;replace o1:=o1.mid mz7 oZl;replace ow:=ow.mid mz7 oZl;replace op:=op.mid mz7 oZl;replace oa:=oa.mid mz7 oZl;replace ob:=ob.mid mz7 oZl;replace B3:=B3.mid mz7 oZr;replace hm:=hm.trans mz7;clear mz7;clear hra hrb;clear oa ob;refine tkZ [] 12 rfl (And.intro (B3.cell 0 rfl) (And.intro (B3.cell 1 rfl) (B3.cell 2 rfl))) ?_;try simp only [Act.put,zs1,zs2,zs3,zs4,zs5,zs6]
  refine tkZ [] 13 rfl (And.intro (B3.cell 0 rfl) (And.intro (B3.cell 1 rfl) (B3.cell 2 rfl))) ?_;try simp only [Act.put,zs1,zs2,zs3,zs4,zs5,zs6]
  refine tkZ [] 14 rfl (And.intro (B3.cell 0 rfl) (And.intro (B3.cell 1 rfl) (B3.cell 2 rfl))) ?_;try simp only [Act.put,zs1,zs2,zs3,zs4,zs5,zs6]
  refine tkZ [] 15 rfl (And.intro (B3.cell 0 rfl) (And.intro (B3.cell 1 rfl) (B3.cell 2 rfl))) ?_;try simp only [Act.put,zs1,zs2,zs3,zs4,zs5,zs6]
  refine tkZ [] 16 rfl (And.intro (B3.cell 0 rfl) (And.intro (B3.cell 1 rfl) (B3.cell 2 rfl))) ?_;try simp only [Act.put,zs1,zs2,zs3,zs4,zs5,zs6]
  refine tkZ [] 18 rfl (And.intro (B3.cell 0 rfl) (And.intro (B3.cell 1 rfl) (B3.cell 2 rfl))) ?_;try simp only [Act.put,zs1,zs2,zs3,zs4,zs5,zs6]
  refine tkZ [] 19 rfl (And.intro (B3.cell 0 rfl) (And.intro (B3.cell 1 rfl) (B3.cell 2 rfl))) ?_;try simp only [Act.put,zs1,zs2,zs3,zs4,zs5,zs6]
  have HZ:=Lib.hid (simpl_InNormalCore r s A1 es c1 Aw xs cw wz7 _ _ o1 hl1 _ _ ow HOX.out hlx2 bn HBN.out);refine rdZ 17 rfl (fun K hK=>?_)
  (go_simp;(with_reducible refine (HZ.out).mono ?_);rintro en wz8 ⟨rfl,mz8⟩;have Bt:=B3.mid mz8 oZr;go_wp2_with fail)
  refine hK.out _ _ (Or.inr (And.intro (Bt.cell 0 rfl) (And.intro (Bt.cell 1 rfl) (Bt.cell 2 rfl)))) (fun _=>?_);clear hK K;try simp only [Act.put,zs1,zs2,zs3,zs4,zs5,zs6]
  clear Bt HZ;replace r0:=r0.mid mz8 oZl;replace o1:=o1.mid mz8 oZl;replace ow:=ow.mid mz8 oZl;replace op:=op.mid mz8 oZl;replace B3:=B3.mid mz8 oZr;replace hm:=hm.trans mz8;clear mz8;have HZ:=Lib.hid (sspec_InNormalCore r s A1 es c1 Aw xs cw wz8 _ _ o1 hl1 _ _ ow HOX.out hlx2 bn HBN.out);refine rdZ 20 rfl (fun K hK=>?_)
  (go_simp;(with_reducible refine (HZ.out).mono ?_);rintro en wz9 ⟨rfl,mz9⟩;have Bt:=B3.mid mz9 oZr;go_wp2_with fail)
  refine hK.out _ _ (Or.inr (And.intro (Bt.cell 0 rfl) (And.intro (Bt.cell 1 rfl) (Bt.cell 2 rfl)))) (fun _=>?_);clear hK K;try simp only [Act.put,zs1,zs2,zs3,zs4,zs5,zs6]
  clear Bt HZ;replace r0:=r0.mid mz9 oZl;replace o1:=o1.mid mz9 oZl;replace ow:=ow.mid mz9 oZl;replace op:=op.mid mz9 oZl;replace B3:=B3.mid mz9 oZr;replace hm:=hm.trans mz9;clear mz9;refine tkZ [] 21 rfl (And.intro (B3.cell 0 rfl) (And.intro (B3.cell 1 rfl) (B3.cell 2 rfl))) ?_;try simp only [Act.put,zs1,zs2,zs3,zs4,zs5,zs6]
  refine tkZ [] 22 rfl (And.intro (B3.cell 0 rfl) (And.intro (B3.cell 1 rfl) (B3.cell 2 rfl))) ?_;try simp only [Act.put,zs1,zs2,zs3,zs4,zs5,zs6]
  refine tkZ [] 23 rfl (And.intro (B3.cell 0 rfl) (And.intro (B3.cell 1 rfl) (B3.cell 2 rfl))) ?_;try simp only [Act.put,zs1,zs2,zs3,zs4,zs5,zs6]
  refine tkZ [] 24 rfl (And.intro (B3.cell 0 rfl) (And.intro (B3.cell 1 rfl) (B3.cell 2 rfl))) ?_;try simp only [Act.put,zs1,zs2,zs3,zs4,zs5,zs6]
  refine tkZ [] 25 rfl (And.intro (B3.cell 0 rfl) (And.intro (B3.cell 1 rfl) (B3.cell 2 rfl))) ?_;try simp only [Act.put,zs1,zs2,zs3,zs4,zs5,zs6]
  refine tkZ [] 27 rfl (And.intro (B3.cell 0 rfl) (And.intro (B3.cell 1 rfl) (B3.cell 2 rfl))) ?_;try simp only [Act.put,zs1,zs2,zs3,zs4,zs5,zs6]
  refine tkZ [] 28 rfl (And.intro (B3.cell 0 rfl) (And.intro (B3.cell 1 rfl) (B3.cell 2 rfl))) ?_;try simp only [Act.put,zs1,zs2,zs3,zs4,zs5,zs6]
  have HZ:=Lib.hid (simpl_OrderModulo r s A1 es c1 Aw xs cw wz9 _ _ o1 hl1 _ _ ow HOX.out hlx2 om HOM.out);refine rdZ 26 rfl (fun K hK=>?_)
  (go_simp;(with_reducible refine (HZ.out).mono ?_);rintro en wz10 ⟨rfl,mz10⟩;have Bt:=B3.mid mz10 oZr;go_wp2_with fail)
  refine hK.out _ _ (Or.inr (And.intro (Bt.cell 0 rfl) (And.intro (Bt.cell 1 rfl) (Bt.cell 2 rfl)))) (fun _=>?_);clear hK K;try simp only [Act.put,zs1,zs2,zs3,zs4,zs5,zs6]
  clear Bt HZ;replace r0:=r0.mid mz10 oZl;replace o1:=o1.mid mz10 oZl;replace ow:=ow.mid mz10 oZl;replace op:=op.mid mz10 oZl;replace B3:=B3.mid mz10 oZr;replace hm:=hm.trans mz10;clear mz10;have HZ:=Lib.hid (sspec_OrderModulo r s A1 es c1 Aw xs cw wz10 _ _ o1 hl1 _ _ ow HOX.out hlx2 om HOM.out);refine rdZ 29 rfl (fun K hK=>?_)
  (go_simp;(with_reducible refine (HZ.out).mono ?_);rintro en wz11 ⟨rfl,mz11⟩;have Bt:=B3.mid mz11 oZr;go_wp2_with fail)
  refine hK.out _ _ (Or.inr (And.intro (Bt.cell 0 rfl) (And.intro (Bt.cell 1 rfl) (Bt.cell 2 rfl)))) (fun _=>?_);clear hK K;try simp only [Act.put,zs1,zs2,zs3,zs4,zs5,zs6]
  clear Bt HZ;replace r0:=r0.mid mz11 oZl;replace o1:=o1.mid mz11 oZl;replace ow:=ow.mid mz11 oZl;replace op:=op.mid mz11 oZl;replace B3:=B3.mid mz11 oZr;replace hm:=hm.trans mz11;clear mz11;refine tkZ [] 30 rfl (And.intro (B3.cell 0 rfl) (And.intro (B3.cell 1 rfl) (B3.cell 2 rfl))) ?_;try simp only [Act.put,zs1,zs2,zs3,zs4,zs5,zs6]
  refine tkZ [] 31 rfl (And.intro (B3.cell 0 rfl) (And.intro (B3.cell 1 rfl) (B3.cell 2 rfl))) ?_;try simp only [Act.put,zs1,zs2,zs3,zs4,zs5,zs6]
  refine wpAnyZ_done (by kernel_rfl) ?_ _;go_wp2_with fail;go_meet
  case rel=>exact ⟨rfl,B3,o1,ow,op,r0,hm⟩
 case rest =>
 clear B3 o1 ow op r0 hm;obtain ⟨rfl,B3,o1,ow,op,r0,hm⟩:=hcut;go_upto_region 7 with fail
 go_cut [68] from 60 to 68 (fun v wx=>∃ bb:Bool,v=.bool bb∧Hid (bb=true→0 < p.length∧IsW r xs)∧Box wx nB3 [.int .i64 r,.int .i64 s,.slice A1 es.length c1]∧OG wx 0 hL A1 c1 es∧OI wx 0 hL Aw cw xs∧OI wx 0 hL Ap cp p∧RV wx 0 w.heap.size A0 (byts d0)∧Mid 0 0 w wx)
 case first =>
  obtain ⟨bw,hbw⟩:=isW_b r xs;have HBW:=Lib.hid hbw;clear hbw;by_cases hp0:0 < p.length
  ·have hp1:(0:Int) < (p.length:Int):=by omega
   have hrw:=OI.ri ow;have B3l:=B3.1;have B30:=B3.cell 0 rfl;have B31:=B3.cell 1 rfl;have B32:=B3.cell 2 rfl;go_wp2_with fail;clear B3l B30 B31 B32;with_reducible refine (spec_IsWordM r Aw xs cw _ _ _ hrw HOX.out (by omega) bw HBW.out).mono ?_
   rintro e wa41 ⟨rfl,m⟩;replace o1:=o1.mid m oZl;replace ow:=ow.mid m oZl;replace op:=op.mid m oZl;replace r0:=r0.mid m oZl;replace B3:=B3.mid m oZr;replace hm:=hm.trans m;clear m;clear hrw;go_wp2_with fail;go_meet
   case rel=>exact ⟨bw,rfl,Lib.hid (fun h=>⟨hp0,HBW.out.1 h⟩),B3,o1,ow,op,r0,hm⟩
  ·have hp1:¬ (0:Int) < (p.length:Int):=by omega
   have B3l:=B3.1;have B30:=B3.cell 0 rfl;have B31:=B3.cell 1 rfl;have B32:=B3.cell 2 rfl;go_wp2_with fail;clear B3l B30 B31 B32;go_meet
   case rel=>exact ⟨false,rfl,Lib.hid (fun h=>by simp at h),B3,o1,ow,op,r0,hm⟩
 case rest =>
 clear B3 o1 ow op r0 hm;obtain ⟨bb,rfl,HBB,B3,o1,ow,op,r0,hm⟩:=hcut;go_upto_if 68 with fail
 go_cut [2] from 6 to 196 (fun v wx=>RV wx 0 w.heap.size A0 (byts d0)∧Mid 0 0 w wx)
 case first =>
  cases bb with
  | false =>
   go_wp2_with fail;go_meet
   case rel=>exact ⟨r0,hm⟩
  | true =>
   have hao:=actOk HP.out (HBB.out rfl).1 (HBB.out rfl).2;have hp0:=(HBB.out rfl).1;obtain ⟨hfin,hwd⟩:=hao;obtain ⟨a,n,rfl,rfl⟩:=hfin.cor.gr.nat;have HFIN:=Lib.hid hfin;have HWD:=Lib.hid hwd;have ha3:=fin_r3 hfin;have ha1:1≤a:=by have:=hfin.cor.gr.rank;omega
   have hc1:=o1.cnt.1;obtain ⟨x0,hx0,hxi⟩:=perm_zero hfin (isW_inL hwd);obtain ⟨bc,hbc⟩:=inS_b' es xs;have HBC:Hid (bc=true↔IsCor a n es∧InS es xs):=Lib.hid ⟨fun h=>⟨hfin.cor,hbc.1 h⟩,fun h=>hbc.2 h.2⟩;have hxb:(x0 == 0)=bc:=by
    cases bc with
    | true=>simp [hxi.2 (hbc.1 rfl)]
    | false =>
     have:¬ x0=0:=fun h=>by simpa using hbc.2 (hxi.1 h)
     simp [this]
   have HX0:Hid ((ints p)[0]?=some (.int .i64 x0)):=Lib.hid (by rw [show p=wordP a n es xs from HP.out];simp [ints,hx0]);have HXB:=Lib.hid hxb;clear hfin hwd hxi hbc hx0 hxb HBB;have B3l:=B3.1;have B30:=B3.cell 0 rfl;have B31:=B3.cell 1 rfl;have B32:=B3.cell 2 rfl;go_wp2_with fail;clear B3l B30 B31 B32;with_reducible refine (word_any A0 d0 c0 _ 0 w.heap.size _o0 hl0 r0 hm.size a ha1 ha3).mono ?_
   rintro e wa61 ⟨Av,cv,vs,rfl,hv,ov,m⟩;replace o1:=o1.mid m oZl;replace ow:=ow.mid m oZl;replace op:=op.mid m oZl;replace r0:=r0.mid m oZl;replace B3:=B3.mid m oZr;replace hm:=hm.trans m;clear m;have hlv:vs.length≤5:=hv.1;have HLV:=Lib.hid hv.2.1;have HLW:=Lib.hid hv.2.2.1;have HOV:=Lib.hid hv.2.2.1.ok;clear hv;obtain ⟨q,hq⟩:=WordPermutationIs_ex a n es vs hl1 HOV.out (by omega);have hlq:=WordPermutationIs_len hq hl1 HOV.out (by omega);have HQ:=Lib.hid hq;clear hq;have B3l:=B3.1;have B30:=B3.cell 0 rfl;have B31:=B3.cell 1 rfl;have B32:=B3.cell 2 rfl;go_wp2_with fail;clear B3l B30 B31 B32;with_reducible refine (sspec_WordPermutation a n A1 es c1 Av vs cv _ _ _ o1 hl1 _ _ ov HOV.out (by omega) q HQ.out).mono ?_
   rintro e wa62 ⟨Aq,cq,rfl,oq,m⟩;replace o1:=o1.mid m oZl;replace ow:=ow.mid m oZl;replace op:=op.mid m oZl;replace r0:=r0.mid m oZl;replace ov:=ov.mid m oZl;replace B3:=B3.mid m oZr;replace hm:=hm.trans m;clear m;obtain ⟨pb,po,hpA, -,hpb,hpc0⟩:=(OV.rv op).2 (by intro h0;have:=congrArg List.length h0;rw [ints_len] at this;simp at this;simp [this] at hp0);have hpc:=hpc0 0 _ HX0.out;rw [Nat.add_zero] at hpc;replace hpb:pb < wa62.heap.size:=Nat.lt_of_lt_of_le hpb op.size;subst hpA;clear hpc0;have hp1:(0:Int) < (p.length:Int):=by omega
   obtain ⟨xv,hxv⟩:∃ z,red [] (xs++vs)=z:=⟨_,rfl⟩
   obtain ⟨cv2,hcv2⟩:∃ z,cwR xs vs=z:=⟨_,rfl⟩
   have hil:=isW_inL HWD.out;have hiv:=ltR_inL HLV.out;have hlxs:LtW xs:=hil.lt ha3;have HOXV:Hid (OkI xv):=Lib.hid (by rw [← hxv];exact red_ok (okI_app HOX.out HOV.out));have hlxv:xv.length≤1048576:=by have:=red_nil_len (xs++vs);rw [hxv,List.length_append] at this;omega
   have HOCV:Hid (OkI cv2):=Lib.hid (by rw [← hcv2];exact cw_okI HOX.out HLW.out (s:=0) (es:=[]) (es':=[]) (r:=0));have hlcv:cv2.length≤1048576:=by have:=cwR_len xs vs;rw [hcv2] at this;omega
   obtain ⟨px,hpx⟩:=WordPermutationIs_ex a n es xv hl1 HOXV.out hlxv;have hlpx:=WordPermutationIs_len hpx hl1 HOXV.out hlxv;have HCMP:Hid (ComposeIs p q px):=Lib.hid (act_compose HFIN.out hil hiv HP.out HQ.out (hxv ▸ hpx));have HPX:=Lib.hid hpx;have HIC2:Hid (bn=true→InNormalCoreIs a n es cv2 true):=Lib.hid (fun h=>⟨fun _=>hcv2 ▸ act_conj HFIN.out hil hiv (HBN.out.1 h),fun _=>rfl⟩);have HXV:=Lib.hid hxv;have HCV2:=Lib.hid hcv2;clear hpx hxv hcv2 hil hiv hlxs;go_upto_region 10 with fail
   go_cut [108] from 76 to 108 (fun v wx=>v=.bool false∧Box wx nB3 [.int .i64 a,.int .i64 n,.slice A1 es.length c1]∧OG wx 0 hL A1 c1 es∧RV wx 0 w.heap.size A0 (byts d0)∧Mid 0 0 w wx)
   case first =>
    have hmd:=Mid.drew1 wa62;replace hpc:=cell_keep hmd hpb oZr hpc;replace hpb:=Nat.lt_of_lt_of_le hpb hmd.size;replace o1:=o1.mid hmd oZl;replace ow:=ow.mid hmd oZl;replace op:=op.mid hmd oZl;replace r0:=r0.mid hmd oZl;replace ov:=ov.mid hmd oZl;replace oq:=oq.mid hmd oZl;replace B3:=B3.mid hmd oZr;replace hm:=hm.trans hmd;clear hmd;have hS:=(And.intro (And.intro (B3.cell 0 rfl) (And.intro (B3.cell 1 rfl) (B3.cell 2 rfl))) hpc)
    refine wp_region_Z (S:=(fun w'=>(w'.cell? ⟨nB3,0,none⟩=some (.int .i64 a)∧w'.cell? ⟨nB3,1,none⟩=some (.int .i64 n)∧w'.cell? ⟨nB3,2,none⟩=some (.slice A1 es.length c1))∧w'.cell? ⟨pb,po,none⟩=some (.int .i64 x0))) [] (by kernel_rfl) hS ?_;generalize World.drew wa62=wz at hS o1 ow op r0 ov oq B3 hm hpc hpb ⊢;clear hS;have hxb:=HXB.out;refine tkZ [] 0 rfl (And.intro (And.intro (B3.cell 0 rfl) (And.intro (B3.cell 1 rfl) (B3.cell 2 rfl))) hpc) ?_;try simp only [Act.put,zs1,zs2,zs3,zs4,zs5,zs6]
    refine tkZ [] 1 rfl (And.intro (And.intro (B3.cell 0 rfl) (And.intro (B3.cell 1 rfl) (B3.cell 2 rfl))) hpc) ?_;try simp only [Act.put,zs1,zs2,zs3,zs4,zs5,zs6]
    refine tkZ [] 2 rfl (And.intro (And.intro (B3.cell 0 rfl) (And.intro (B3.cell 1 rfl) (B3.cell 2 rfl))) hpc) ?_;try simp only [Act.put,zs1,zs2,zs3,zs4,zs5,zs6]
    refine tkZ [] 3 rfl (And.intro (And.intro (B3.cell 0 rfl) (And.intro (B3.cell 1 rfl) (B3.cell 2 rfl))) hpc) ?_;try simp only [Act.put,zs1,zs2,zs3,zs4,zs5,zs6]
    refine tkZ [] 4 rfl (And.intro (And.intro (B3.cell 0 rfl) (And.intro (B3.cell 1 rfl) (B3.cell 2 rfl))) hpc) ?_;try simp only [Act.put,zs1,zs2,zs3,zs4,zs5,zs6]
    refine tkZ [] 5 rfl (And.intro (And.intro (B3.cell 0 rfl) (And.intro (B3.cell 1 rfl) (B3.cell 2 rfl))) hpc) ?_;try simp only [Act.put,zs1,zs2,zs3,zs4,zs5,zs6]
    have hrw:=OV.rv ow;have HZ:=Lib.hid (impl_Contains a n A1 es c1 Aw xs cw wz _ _ _ _ (OG.rg o1) hrw hl1 hc1 hlx2 HOX.out bc HBC.out);refine rdZ 6 rfl (fun K hK=>?_)
    (go_simp;(with_reducible refine (HZ.out).mono ?_);rintro en wz63 ⟨rfl,mz63⟩;have Bt:=B3.mid mz63 oZr;have xt:=cell_keep mz63 hpb oZr hpc;go_wp2_with fail)
    refine hK.out _ _ (Or.inr (And.intro (And.intro (Bt.cell 0 rfl) (And.intro (Bt.cell 1 rfl) (Bt.cell 2 rfl))) xt)) (fun _=>?_);clear hK K;try simp only [Act.put,zs1,zs2,zs3,zs4,zs5,zs6]
    replace hpc:=xt;replace hpb:=Nat.lt_of_lt_of_le hpb mz63.size;clear Bt HZ xt;replace o1:=o1.mid mz63 oZl;replace ow:=ow.mid mz63 oZl;replace op:=op.mid mz63 oZl;replace r0:=r0.mid mz63 oZl;replace ov:=ov.mid mz63 oZl;replace oq:=oq.mid mz63 oZl;replace B3:=B3.mid mz63 oZr;replace hm:=hm.trans mz63;clear mz63;clear hrw;refine tkZ [] 7 rfl (And.intro (And.intro (B3.cell 0 rfl) (And.intro (B3.cell 1 rfl) (B3.cell 2 rfl))) hpc) ?_;try simp only [Act.put,zs1,zs2,zs3,zs4,zs5,zs6]
    refine tkZ [] 8 rfl (And.intro (And.intro (B3.cell 0 rfl) (And.intro (B3.cell 1 rfl) (B3.cell 2 rfl))) hpc) ?_;try simp only [Act.put,zs1,zs2,zs3,zs4,zs5,zs6]
    refine tkZ [] 9 rfl (And.intro (And.intro (B3.cell 0 rfl) (And.intro (B3.cell 1 rfl) (B3.cell 2 rfl))) hpc) ?_;try simp only [Act.put,zs1,zs2,zs3,zs4,zs5,zs6]
    refine tkZ [] 10 rfl (And.intro (And.intro (B3.cell 0 rfl) (And.intro (B3.cell 1 rfl) (B3.cell 2 rfl))) hpc) ?_;try simp only [Act.put,zs1,zs2,zs3,zs4,zs5,zs6]
    refine tkZ [] 11 rfl (And.intro (And.intro (B3.cell 0 rfl) (And.intro (B3.cell 1 rfl) (B3.cell 2 rfl))) hpc) ?_;try simp only [Act.put,zs1,zs2,zs3,zs4,zs5,zs6]
    refine tkZ [] 14 rfl (And.intro (And.intro (B3.cell 0 rfl) (And.intro (B3.cell 1 rfl) (B3.cell 2 rfl))) hpc) ?_;try simp only [Act.put,zs1,zs2,zs3,zs4,zs5,zs6]
    refine tkZ [] 15 rfl (And.intro (And.intro (B3.cell 0 rfl) (And.intro (B3.cell 1 rfl) (B3.cell 2 rfl))) hpc) ?_;try simp only [Act.put,zs1,zs2,zs3,zs4,zs5,zs6]
    clear hxb;have hrw:=OI.ri ow;have hrv:=OI.ri ov;have HZ:=Lib.hid (spec_MultiplyI Aw xs cw Av vs cv wz63 _ _ _ _ hrw hrv HOX.out HOV.out (by omega) (by omega) xv HXV.out);refine rdZ 12 rfl (fun K hK=>?_)
    (go_simp;(with_reducible refine (HZ.out).mono ?_);rintro en wz64 ⟨Am,cm,rfl,oM,mz64⟩;have Bt:=B3.mid mz64 oZr;have xt:=cell_keep mz64 hpb oZr hpc;go_wp2_with fail)
    refine hK.out _ _ (Or.inr (And.intro (And.intro (Bt.cell 0 rfl) (And.intro (Bt.cell 1 rfl) (Bt.cell 2 rfl))) xt)) (fun _=>?_);clear hK K;try simp only [Act.put,zs1,zs2,zs3,zs4,zs5,zs6]
    replace hpc:=xt;replace hpb:=Nat.lt_of_lt_of_le hpb mz64.size;clear Bt HZ xt;replace o1:=o1.mid mz64 oZl;replace ow:=ow.mid mz64 oZl;replace op:=op.mid mz64 oZl;replace r0:=r0.mid mz64 oZl;replace ov:=ov.mid mz64 oZl;replace oq:=oq.mid mz64 oZl;replace B3:=B3.mid mz64 oZr;replace hm:=hm.trans mz64;clear mz64;clear hrw hrv;have HZ:=Lib.hid (simpl_WordPermutation a n A1 es c1 Am xv cm wz64 _ _ o1 hl1 _ _ oM HOXV.out hlxv px HPX.out);refine rdZ 13 rfl (fun K hK=>?_)
    (go_simp;(with_reducible refine (HZ.out).mono ?_);rintro en wz65 ⟨Ae,ce,rfl,oe,mz65⟩;have Bt:=B3.mid mz65 oZr;have xt:=cell_keep mz65 hpb oZr hpc;go_wp2_with fail)
    refine hK.out _ _ (Or.inr (And.intro (And.intro (Bt.cell 0 rfl) (And.intro (Bt.cell 1 rfl) (Bt.cell 2 rfl))) xt)) (fun _=>?_);clear hK K;try simp only [Act.put,zs1,zs2,zs3,zs4,zs5,zs6]
    replace hpc:=xt;replace hpb:=Nat.lt_of_lt_of_le hpb mz65.size;clear Bt HZ xt;replace o1:=o1.mid mz65 oZl;replace ow:=ow.mid mz65 oZl;replace op:=op.mid mz65 oZl;replace r0:=r0.mid mz65 oZl;replace ov:=ov.mid mz65 oZl;replace oq:=oq.mid mz65 oZl;replace oM:=oM.mid mz65 oZl;replace B3:=B3.mid mz65 oZr;replace hm:=hm.trans mz65;clear mz65;have hrp:=OI.ri op;have hrq:=OI.ri oq;have HZ:=Lib.hid (spec_ComposeI (some ⟨pb,po,none⟩) p cp Aq q cq wz65 _ _ _ _ hrp hrq hlp hlq px HCMP.out);refine rdZ 16 rfl (fun K hK=>?_)
    (go_simp;(with_reducible refine (HZ.out).mono ?_);rintro en wz66 ⟨Af,cf,rfl,oF,mz66⟩;have Bt:=B3.mid mz66 oZr;have xt:=cell_keep mz66 hpb oZr hpc;go_wp2_with fail)
    refine hK.out _ _ (Or.inr (And.intro (And.intro (Bt.cell 0 rfl) (And.intro (Bt.cell 1 rfl) (Bt.cell 2 rfl))) xt)) (fun _=>?_);clear hK K;try simp only [Act.put,zs1,zs2,zs3,zs4,zs5,zs6]
    replace hpc:=xt;replace hpb:=Nat.lt_of_lt_of_le hpb mz66.size;clear Bt HZ xt;replace o1:=o1.mid mz66 oZl;replace ow:=ow.mid mz66 oZl;replace op:=op.mid mz66 oZl;replace r0:=r0.mid mz66 oZl;replace ov:=ov.mid mz66 oZl;replace oq:=oq.mid mz66 oZl;replace oM:=oM.mid mz66 oZl;replace oe:=oe.mid mz66 oZl;replace B3:=B3.mid mz66 oZr;replace hm:=hm.trans mz66;clear mz66;clear hrp hrq;have hre:=OI.ri oe;have hrf:=OI.ri oF;have HZ:=Lib.hid (sameInts_eq Ae px ce Af cf wz66 _ _ _ _ hre hrf hlpx);refine rdZ 17 rfl (fun K hK=>?_)
    (go_simp;(with_reducible refine (HZ.out).mono ?_);rintro en wz67 ⟨rfl,mz67⟩;have Bt:=B3.mid mz67 oZr;have xt:=cell_keep mz67 hpb oZr hpc;go_wp2_with fail)
    refine hK.out _ _ (Or.inr (And.intro (And.intro (Bt.cell 0 rfl) (And.intro (Bt.cell 1 rfl) (Bt.cell 2 rfl))) xt)) (fun _=>?_);clear hK K;try simp only [Act.put,zs1,zs2,zs3,zs4,zs5,zs6]
    replace hpc:=xt;replace hpb:=Nat.lt_of_lt_of_le hpb mz67.size;clear Bt HZ xt;replace o1:=o1.mid mz67 oZl;replace ow:=ow.mid mz67 oZl;replace op:=op.mid mz67 oZl;replace r0:=r0.mid mz67 oZl;replace ov:=ov.mid mz67 oZl;replace oq:=oq.mid mz67 oZl;replace oM:=oM.mid mz67 oZl;replace oe:=oe.mid mz67 oZl;replace oF:=oF.mid mz67 oZl;replace B3:=B3.mid mz67 oZr;replace hm:=hm.trans mz67;clear mz67;clear hre hrf;clear oM oe oF;refine tkZ [] 18 rfl (And.intro (And.intro (B3.cell 0 rfl) (And.intro (B3.cell 1 rfl) (B3.cell 2 rfl))) hpc) ?_;try simp only [Act.put,zs1,zs2,zs3,zs4,zs5,zs6]
    refine tkZ [] 19 rfl (And.intro (And.intro (B3.cell 0 rfl) (And.intro (B3.cell 1 rfl) (B3.cell 2 rfl))) hpc) ?_;try simp only [Act.put,zs1,zs2,zs3,zs4,zs5,zs6]
    refine tkZ [] 20 rfl (And.intro (And.intro (B3.cell 0 rfl) (And.intro (B3.cell 1 rfl) (B3.cell 2 rfl))) hpc) ?_;try simp only [Act.put,zs1,zs2,zs3,zs4,zs5,zs6]
    refine tkZ [] 21 rfl (And.intro (And.intro (B3.cell 0 rfl) (And.intro (B3.cell 1 rfl) (B3.cell 2 rfl))) hpc) ?_;try simp only [Act.put,zs1,zs2,zs3,zs4,zs5,zs6]
    refine tkZ [] 22 rfl (And.intro (And.intro (B3.cell 0 rfl) (And.intro (B3.cell 1 rfl) (B3.cell 2 rfl))) hpc) ?_;try simp only [Act.put,zs1,zs2,zs3,zs4,zs5,zs6]
    have HZ:=Lib.hid (simpl_InNormalCore a n A1 es c1 Aw xs cw wz67 _ _ o1 hl1 _ _ ow HOX.out hlx2 bn HBN.out);refine rdZ 23 rfl (fun K hK=>?_)
    (go_simp;(with_reducible refine (HZ.out).mono ?_);rintro en wz68 ⟨rfl,mz68⟩;have Bt:=B3.mid mz68 oZr;have xt:=cell_keep mz68 hpb oZr hpc;go_wp2_with fail)
    refine hK.out _ _ (Or.inr (And.intro (And.intro (Bt.cell 0 rfl) (And.intro (Bt.cell 1 rfl) (Bt.cell 2 rfl))) xt)) (fun _=>?_);clear hK K;try simp only [Act.put,zs1,zs2,zs3,zs4,zs5,zs6]
    replace hpc:=xt;replace hpb:=Nat.lt_of_lt_of_le hpb mz68.size;clear Bt HZ xt;replace o1:=o1.mid mz68 oZl;replace ow:=ow.mid mz68 oZl;replace op:=op.mid mz68 oZl;replace r0:=r0.mid mz68 oZl;replace ov:=ov.mid mz68 oZl;replace oq:=oq.mid mz68 oZl;replace B3:=B3.mid mz68 oZr;replace hm:=hm.trans mz68;clear mz68;cases bn with
    | false =>
     refine tkZ [] 24 rfl (And.intro (And.intro (B3.cell 0 rfl) (And.intro (B3.cell 1 rfl) (B3.cell 2 rfl))) hpc) ?_;try simp only [Act.put,zs1,zs2,zs3,zs4,zs5,zs6]
     refine wpAnyZ_takeC [] (i:=25) rfl (by kernel_rfl) (by kernel_rfl) (by kernel_rfl) (by kernel_rfl) (fun _ _ _ h=>h) (Or.inr ⟨by rfl,rfl⟩) (And.intro (And.intro (B3.cell 0 rfl) (And.intro (B3.cell 1 rfl) (B3.cell 2 rfl))) hpc) ?_;try simp only [Act.put,zs1,zs2,zs3,zs4,zs5,zs6]
     refine wpAnyZ_takeC [] (i:=26) rfl (by kernel_rfl) (by kernel_rfl) (by kernel_rfl) (by kernel_rfl) (fun _ _ _ h=>h) (Or.inr ⟨by rfl,rfl⟩) (And.intro (And.intro (B3.cell 0 rfl) (And.intro (B3.cell 1 rfl) (B3.cell 2 rfl))) hpc) ?_;try simp only [Act.put,zs1,zs2,zs3,zs4,zs5,zs6]
     refine wpAnyZ_takeC [] (i:=27) rfl (by kernel_rfl) (by kernel_rfl) (by kernel_rfl) (by kernel_rfl) (fun _ _ _ h=>h) (Or.inr ⟨by rfl,rfl⟩) (And.intro (And.intro (B3.cell 0 rfl) (And.intro (B3.cell 1 rfl) (B3.cell 2 rfl))) hpc) ?_;try simp only [Act.put,zs1,zs2,zs3,zs4,zs5,zs6]
     refine wpAnyZ_takeC [] (i:=28) rfl (by kernel_rfl) (by kernel_rfl) (by kernel_rfl) (by kernel_rfl) (fun _ _ _ h=>h) (Or.inr ⟨by rfl,rfl⟩) (And.intro (And.intro (B3.cell 0 rfl) (And.intro (B3.cell 1 rfl) (B3.cell 2 rfl))) hpc) ?_;try simp only [Act.put,zs1,zs2,zs3,zs4,zs5,zs6]
     refine wpAnyZ_takeC [] (i:=29) rfl (by kernel_rfl) (by kernel_rfl) (by kernel_rfl) (by kernel_rfl) (fun _ _ _ h=>h) (Or.inr ⟨by rfl,rfl⟩) (And.intro (And.intro (B3.cell 0 rfl) (And.intro (B3.cell 1 rfl) (B3.cell 2 rfl))) hpc) ?_;try simp only [Act.put,zs1,zs2,zs3,zs4,zs5,zs6]
     refine wpAnyZ_takeC [] (i:=30) rfl (by kernel_rfl) (by kernel_rfl) (by kernel_rfl) (by kernel_rfl) (fun _ _ _ h=>h) (Or.inr ⟨by rfl,rfl⟩) (And.intro (And.intro (B3.cell 0 rfl) (And.intro (B3.cell 1 rfl) (B3.cell 2 rfl))) hpc) ?_;try simp only [Act.put,zs1,zs2,zs3,zs4,zs5,zs6]
     refine tkZ [] 31 rfl (And.intro (And.intro (B3.cell 0 rfl) (And.intro (B3.cell 1 rfl) (B3.cell 2 rfl))) hpc) ?_;try simp only [Act.put,zs1,zs2,zs3,zs4,zs5,zs6]
     refine tkZ [] 32 rfl (And.intro (And.intro (B3.cell 0 rfl) (And.intro (B3.cell 1 rfl) (B3.cell 2 rfl))) hpc) ?_;try simp only [Act.put,zs1,zs2,zs3,zs4,zs5,zs6]
     refine wpAnyZ_done (by kernel_rfl) ?_ _;go_wp2_with fail;go_meet
     case rel=>exact ⟨rfl,B3,o1,r0,hm⟩
    | true =>
     have HI2:=Lib.hid (HIC2.out rfl);have hrw:=OV.rv ow;have hrv:=OV.rv ov;refine tkZ [] 24 rfl (And.intro (And.intro (B3.cell 0 rfl) (And.intro (B3.cell 1 rfl) (B3.cell 2 rfl))) hpc) ?_;try simp only [Act.put,zs1,zs2,zs3,zs4,zs5,zs6]
     refine tkZ [] 25 rfl (And.intro (And.intro (B3.cell 0 rfl) (And.intro (B3.cell 1 rfl) (B3.cell 2 rfl))) hpc) ?_;try simp only [Act.put,zs1,zs2,zs3,zs4,zs5,zs6]
     refine tkZ [] 26 rfl (And.intro (And.intro (B3.cell 0 rfl) (And.intro (B3.cell 1 rfl) (B3.cell 2 rfl))) hpc) ?_;try simp only [Act.put,zs1,zs2,zs3,zs4,zs5,zs6]
     refine tkZ [] 27 rfl (And.intro (And.intro (B3.cell 0 rfl) (And.intro (B3.cell 1 rfl) (B3.cell 2 rfl))) hpc) ?_;try simp only [Act.put,zs1,zs2,zs3,zs4,zs5,zs6]
     have HZ:=Lib.hid (spec_ConjugateWordV Aw xs cw Av vs cv wz68 _ _ _ _ hrw hrv HOX.out HOV.out (invW_okI HLW.out) (by omega) (by omega) cv2 HCV2.out);refine rdZ 28 rfl (fun K hK=>?_)
     (go_simp;(with_reducible refine (HZ.out).mono ?_);rintro en wz69 ⟨Ac,cc,rfl,oC,mz69⟩;have Bt:=B3.mid mz69 oZr;have xt:=cell_keep mz69 hpb oZr hpc;go_wp2_with fail)
     refine hK.out _ _ (Or.inr (And.intro (And.intro (Bt.cell 0 rfl) (And.intro (Bt.cell 1 rfl) (Bt.cell 2 rfl))) xt)) (fun _=>?_);clear hK K;try simp only [Act.put,zs1,zs2,zs3,zs4,zs5,zs6]
     replace hpc:=xt;replace hpb:=Nat.lt_of_lt_of_le hpb mz69.size;clear Bt HZ xt;replace o1:=o1.mid mz69 oZl;replace ow:=ow.mid mz69 oZl;replace op:=op.mid mz69 oZl;replace r0:=r0.mid mz69 oZl;replace ov:=ov.mid mz69 oZl;replace oq:=oq.mid mz69 oZl;replace B3:=B3.mid mz69 oZr;replace hm:=hm.trans mz69;clear mz69;clear hrw hrv;have HZ:=Lib.hid (simpl_InNormalCore a n A1 es c1 Ac cv2 cc wz69 _ _ o1 hl1 _ _ oC HOCV.out hlcv true HI2.out);refine rdZ 29 rfl (fun K hK=>?_)
     (go_simp;(with_reducible refine (HZ.out).mono ?_);rintro en wz70 ⟨rfl,mz70⟩;have Bt:=B3.mid mz70 oZr;have xt:=cell_keep mz70 hpb oZr hpc;go_wp2_with fail)
     refine hK.out _ _ (Or.inr (And.intro (And.intro (Bt.cell 0 rfl) (And.intro (Bt.cell 1 rfl) (Bt.cell 2 rfl))) xt)) (fun _=>?_);clear hK K;try simp only [Act.put,zs1,zs2,zs3,zs4,zs5,zs6]
     replace hpc:=xt;replace hpb:=Nat.lt_of_lt_of_le hpb mz70.size;clear Bt HZ xt;replace o1:=o1.mid mz70 oZl;replace ow:=ow.mid mz70 oZl;replace op:=op.mid mz70 oZl;replace r0:=r0.mid mz70 oZl;replace ov:=ov.mid mz70 oZl;replace oq:=oq.mid mz70 oZl;replace oC:=oC.mid mz70 oZl;replace B3:=B3.mid mz70 oZr;replace hm:=hm.trans mz70;clear mz70;refine tkZ [] 30 rfl (And.intro (And.intro (B3.cell 0 rfl) (And.intro (B3.cell 1 rfl) (B3.cell 2 rfl))) hpc) ?_;try simp only [Act.put,zs1,zs2,zs3,zs4,zs5,zs6]
     refine tkZ [] 31 rfl (And.intro (And.intro (B3.cell 0 rfl) (And.intro (B3.cell 1 rfl) (B3.cell 2 rfl))) hpc) ?_;try simp only [Act.put,zs1,zs2,zs3,zs4,zs5,zs6]
     refine tkZ [] 32 rfl (And.intro (And.intro (B3.cell 0 rfl) (And.intro (B3.cell 1 rfl) (B3.cell 2 rfl))) hpc) ?_;try simp only [Act.put,zs1,zs2,zs3,zs4,zs5,zs6]
     refine wpAnyZ_done (by kernel_rfl) ?_ _;go_wp2_with fail;go_meet
     case rel=>exact ⟨rfl,B3,o1,r0,hm⟩
   case rest =>
   clear B3 o1 ow op ov oq r0 hm hpc hpb;obtain ⟨rfl,B3,o1,r0,hm⟩:=hcut;obtain ⟨gr9,gs9,ges9,gb9,hga⟩:=GActIs_ex (a:Int) ac;obtain ⟨rfl,rfl,rfl,rfl⟩:=act_own HFIN.out HAC.out hga;have HGA:=Lib.hid hga;have HLA:=Lib.hid (ActionOfIs_len HAC.out hl1);clear hga HCMP HIC2 HX0 HXB HBN HOM HP HQ HPX HXV HCV2 HOXV HOCV HOV HLW HLV HOX HBC hp1 hp0 hlp hlq hlpx hlv hlxv hlcv hlx hlx2;go_upto_region 12 with fail
   have hmd:=Mid.drew1 wc;replace o1:=o1.mid hmd oZl;replace r0:=r0.mid hmd oZl;replace B3:=B3.mid hmd oZr;replace hm:=hm.trans hmd;clear hmd;have hS:=(And.intro (B3.cell 0 rfl) (And.intro (B3.cell 1 rfl) (B3.cell 2 rfl)))
   refine wp_region_Z (S:=(fun w'=>w'.cell? ⟨nB3,0,none⟩=some (.int .i64 a)∧w'.cell? ⟨nB3,1,none⟩=some (.int .i64 n)∧w'.cell? ⟨nB3,2,none⟩=some (.slice A1 es.length c1))) [] (by kernel_rfl) hS ?_;generalize World.drew wc=wz at hS o1 r0 B3 hm ⊢;clear hS;refine tkZ [] 0 rfl (And.intro (B3.cell 0 rfl) (And.intro (B3.cell 1 rfl) (B3.cell 2 rfl))) ?_;try simp only [Act.put,zs1,zs2,zs3,zs4,zs5,zs6]
   refine tkZ [] 1 rfl (And.intro (B3.cell 0 rfl) (And.intro (B3.cell 1 rfl) (B3.cell 2 rfl))) ?_;try simp only [Act.put,zs1,zs2,zs3,zs4,zs5,zs6]
   refine tkZ [] 2 rfl (And.intro (B3.cell 0 rfl) (And.intro (B3.cell 1 rfl) (B3.cell 2 rfl))) ?_;try simp only [Act.put,zs1,zs2,zs3,zs4,zs5,zs6]
   refine wpAnyZ_ready (rs:=[3,8]) (by kernel_rfl) (by simp) (AllReadyZ.cons rfl (fun K hK=>?_) (AllReadyZ.cons rfl (fun K hK=>?_) AllReadyZ.nil))
   ·skip
    have HZ:=Lib.hid (sspec_ActionOf a n A1 es c1 wz _ _ o1 hl1 ac HAC.out)
    (go_simp;(with_reducible refine (HZ.out).mono ?_);rintro en wz81 ⟨Ab,cb,rfl,ob,mz81⟩;have Bt:=B3.mid mz81 oZr;go_wp2_with fail)
    refine hK.out _ _ (Or.inr (And.intro (Bt.cell 0 rfl) (And.intro (Bt.cell 1 rfl) (Bt.cell 2 rfl)))) (fun _=>?_);clear hK K;try simp only [Act.put,zs1,zs2,zs3,zs4,zs5,zs6]
    clear Bt HZ;replace o1:=o1.mid mz81 oZl;replace r0:=r0.mid mz81 oZl;replace B3:=B3.mid mz81 oZr;replace hm:=hm.trans mz81;clear mz81;refine wpAnyZ_ready (rs:=[4,8]) (by kernel_rfl) (by simp) (AllReadyZ.cons rfl (fun K hK=>?_) (AllReadyZ.cons rfl (fun K hK=>?_) AllReadyZ.nil))
    ·skip
     have hrb:=ob.rss;have hlt4:=Nat.le_refl wz81.heap.size;have HZ:=Lib.hid (impl_GraphOfAction a Ab ac cb wz81 _ _ hrb HLA.out (wf_small (by omega) (by omega)) a n es true HGA.out)
     (go_simp;(with_reducible refine (HZ.out).mono ?_);rintro en wz82 ⟨A2,c2,rfl,oG,mz82⟩;have Bt:=B3.mid mz82 oZr;go_wp2_with fail)
     refine hK.out _ _ (Or.inr (And.intro (Bt.cell 0 rfl) (And.intro (Bt.cell 1 rfl) (Bt.cell 2 rfl)))) (fun _=>?_);clear hK K;try simp only [Act.put,zs1,zs2,zs3,zs4,zs5,zs6]
     clear Bt HZ;replace o1:=o1.mid mz82 oZl;replace r0:=r0.mid mz82 oZl;replace ob:=ob.mid mz82 oZl;replace B3:=B3.mid mz82 oZr;replace hm:=hm.trans mz82;clear mz82;clear hrb;clear ob;refine tkZ [] 5 rfl (And.intro (B3.cell 0 rfl) (And.intro (B3.cell 1 rfl) (B3.cell 2 rfl))) ?_;try simp only [Act.put,zs1,zs2,zs3,zs4,zs5,zs6]
     refine tkZ [] 6 rfl (And.intro (B3.cell 0 rfl) (And.intro (B3.cell 1 rfl) (B3.cell 2 rfl))) ?_;try simp only [Act.put,zs1,zs2,zs3,zs4,zs5,zs6]
     refine tkZ [] 7 rfl (And.intro (B3.cell 0 rfl) (And.intro (B3.cell 1 rfl) (B3.cell 2 rfl))) ?_;try simp only [Act.put,zs1,zs2,zs3,zs4,zs5,zs6]
     have hnb:=hm.size;have hn3:=B3.1;have hnO:=o1.size;have al:=Mid.alloc wz82 (.cells #[.int .i64 0,.int .i64 0,.slice none 0 0] 26);have B8:=Box.new wz82 #[.int .i64 0,.int .i64 0,.slice none 0 0] 26;have Bt:=B3.mid al oZr;refine rdZ 8 rfl (fun K hK=>?_);go_simp;refine hK.out _ _ (Or.inr (And.intro (Bt.cell 0 rfl) (And.intro (Bt.cell 1 rfl) (Bt.cell 2 rfl)))) (fun _=>?_);clear hK K;try simp only [Act.put,zs1,zs2,zs3,zs4,zs5,zs6]
     clear Bt;obtain ⟨nB8,hnB8⟩:∃ g,wz82.heap.size=g:=⟨_,rfl⟩
     replace o1:=o1.mid al oZl;replace r0:=r0.mid al oZl;replace oG:=oG.mid al oZl;replace B3:=B3.mid al oZr;replace hm:=hm.trans al;rw [hnB8] at B8 hnb hn3 hnO;try rw [hnB8] at o1
     try rw [hnB8] at r0
     try rw [hnB8] at oG
     try rw [hnB8]
     generalize wz82.alloc (.cells #[.int .i64 0,.int .i64 0,.slice none 0 0] 26)=w8 at o1 r0 oG B3 B8 hm ⊢;clear al hnB8;have k0:=B8.cell 0 rfl;have k1:=B8.cell 1 rfl;have k2:=B8.cell 2 rfl;have kf:=B8.2.2;have kl:=B8.1;have hst:=((Mid.setCell w8 (lo:=nB8) (hi:=nB8+1) (p:=⟨nB8,0,none⟩) (.int .i64 a) (Nat.le_refl _) (Nat.lt_succ_self _)).trans (Mid.setCell _ (lo:=nB8) (hi:=nB8+1) (p:=⟨nB8,1,none⟩) (.int .i64 n) (Nat.le_refl _) (Nat.lt_succ_self _))).trans (Mid.setCell _ (lo:=nB8) (hi:=nB8+1) (p:=⟨nB8,2,none⟩) (.slice A2 es.length c2) (Nat.le_refl _) (Nat.lt_succ_self _));have Bt:=B3.mid hst (Or.inl (by omega));have V8:=((B8.set 0 (.int .i64 a) (by simp) rfl).set 1 (.int .i64 n) (by simp) rfl).set 2 (.slice A2 es.length c2) (by simp) rfl;simp only [List.set_cons_succ,List.set_cons_zero] at V8;replace o1:=o1.mid hst (Or.inr (by omega));replace oG:=oG.mid hst (Or.inr (by omega));replace r0:=r0.mid hst (Or.inr (by omega));replace hm:=hm.transNew hst (Or.inl (by omega));refine rdZ 9 rfl (fun K hK=>?_);go_simp;refine hK.out _ _ (Or.inr (And.intro (Bt.cell 0 rfl) (And.intro (Bt.cell 1 rfl) (Bt.cell 2 rfl)))) (fun _=>?_);clear hK K;try simp only [Act.put,zs1,zs2,zs3,zs4,zs5,zs6]
     clear hst k0 k1 k2 kf kl B3 B8;have B3:=Bt;have B8:=V8;clear Bt V8;generalize ((w8.setCell ⟨nB8,0,none⟩ (.int .i64 a)).setCell ⟨nB8,1,none⟩ (.int .i64 n)).setCell ⟨nB8,2,none⟩ (.slice A2 es.length c2)=wS at B3 B8 o1 oG r0 hm ⊢;refine tkZ [] 10 rfl (And.intro (B3.cell 0 rfl) (And.intro (B3.cell 1 rfl) (B3.cell 2 rfl))) ?_;try simp only [Act.put,zs1,zs2,zs3,zs4,zs5,zs6]
     refine wpAnyZ_done (by kernel_rfl) ?_ _;have B8l:=B8.1;have B80:=B8.cell 0 rfl;have B81:=B8.cell 1 rfl;have B82:=B8.cell 2 rfl;have B3l:=B3.1;have B30:=B3.cell 0 rfl;have B31:=B3.cell 1 rfl;have B32:=B3.cell 2 rfl;go_wp2_with fail;clear B8l B80 B81 B82 B3l B30 B31 B32;with_reducible refine (spec_EqualGraphs a n A2 es c2 a n A1 es c1 _ _ _ _ _ (OG.rg oG) (OG.rg o1) hl1 hl1 true (by simp)).mono ?_
     rintro e wa83 ⟨rfl,m⟩;replace o1:=o1.mid m oZl;replace r0:=r0.mid m oZl;replace oG:=oG.mid m oZl;replace B3:=B3.mid m oZr;replace B8:=B8.mid m oZr;replace hm:=hm.trans m;clear m;go_wp2_with fail;go_meet
     case rel=>exact ⟨r0,hm⟩
    ·skip
     have hnb:=hm.size;have hn3:=B3.1;have hnO:=o1.size;have al:=Mid.alloc wz81 (.cells #[.int .i64 0,.int .i64 0,.slice none 0 0] 26);have B8:=Box.new wz81 #[.int .i64 0,.int .i64 0,.slice none 0 0] 26;have Bt:=B3.mid al oZr;go_simp;refine hK.out _ _ (Or.inr (And.intro (Bt.cell 0 rfl) (And.intro (Bt.cell 1 rfl) (Bt.cell 2 rfl)))) (fun _=>?_);clear hK K;try simp only [Act.put,zs1,zs2,zs3,zs4,zs5,zs6]
     clear Bt;obtain ⟨nB8,hnB8⟩:∃ g,wz81.heap.size=g:=⟨_,rfl⟩
     replace o1:=o1.mid al oZl;replace r0:=r0.mid al oZl;replace ob:=ob.mid al oZl;replace B3:=B3.mid al oZr;replace hm:=hm.trans al;rw [hnB8] at B8 hnb hn3 hnO;try rw [hnB8] at o1
     try rw [hnB8] at r0
     try rw [hnB8] at ob
     try rw [hnB8]
     generalize wz81.alloc (.cells #[.int .i64 0,.int .i64 0,.slice none 0 0] 26)=w8 at o1 r0 ob B3 B8 hm ⊢;clear al hnB8;have hrb:=ob.rss;have hlt4:=Nat.le_refl w8.heap.size;have hlt8:=B8.1;have HZ:=Lib.hid (impl_GraphOfAction a Ab ac cb w8 _ _ hrb HLA.out (wf_small (by omega) (by omega)) a n es true HGA.out);refine rdZ 4 rfl (fun K hK=>?_)
     (go_simp;(with_reducible refine (HZ.out).mono ?_);rintro en wz82 ⟨A2,c2,rfl,oG,mz82⟩;have Bt:=B3.mid mz82 oZr;go_wp2_with fail)
     refine hK.out _ _ (Or.inr (And.intro (Bt.cell 0 rfl) (And.intro (Bt.cell 1 rfl) (Bt.cell 2 rfl)))) (fun _=>?_);clear hK K;try simp only [Act.put,zs1,zs2,zs3,zs4,zs5,zs6]
     clear Bt HZ;replace o1:=o1.mid mz82 oZl;replace r0:=r0.mid mz82 oZl;replace ob:=ob.mid mz82 oZl;replace B3:=B3.mid mz82 oZr;replace B8:=B8.mid mz82 oZr;replace hm:=hm.trans mz82;clear mz82;clear hrb;clear ob;refine tkZ [] 5 rfl (And.intro (B3.cell 0 rfl) (And.intro (B3.cell 1 rfl) (B3.cell 2 rfl))) ?_;try simp only [Act.put,zs1,zs2,zs3,zs4,zs5,zs6]
     refine tkZ [] 6 rfl (And.intro (B3.cell 0 rfl) (And.intro (B3.cell 1 rfl) (B3.cell 2 rfl))) ?_;try simp only [Act.put,zs1,zs2,zs3,zs4,zs5,zs6]
     refine tkZ [] 7 rfl (And.intro (B3.cell 0 rfl) (And.intro (B3.cell 1 rfl) (B3.cell 2 rfl))) ?_;try simp only [Act.put,zs1,zs2,zs3,zs4,zs5,zs6]
     have k0:=B8.cell 0 rfl;have k1:=B8.cell 1 rfl;have k2:=B8.cell 2 rfl;have kf:=B8.2.2;have kl:=B8.1;have hst:=((Mid.setCell wz82 (lo:=nB8) (hi:=nB8+1) (p:=⟨nB8,0,none⟩) (.int .i64 a) (Nat.le_refl _) (Nat.lt_succ_self _)).trans (Mid.setCell _ (lo:=nB8) (hi:=nB8+1) (p:=⟨nB8,1,none⟩) (.int .i64 n) (Nat.le_refl _) (Nat.lt_succ_self _))).trans (Mid.setCell _ (lo:=nB8) (hi:=nB8+1) (p:=⟨nB8,2,none⟩) (.slice A2 es.length c2) (Nat.le_refl _) (Nat.lt_succ_self _));have Bt:=B3.mid hst (Or.inl (by omega));have V8:=((B8.set 0 (.int .i64 a) (by simp) rfl).set 1 (.int .i64 n) (by simp) rfl).set 2 (.slice A2 es.length c2) (by simp) rfl;simp only [List.set_cons_succ,List.set_cons_zero] at V8;replace o1:=o1.mid hst (Or.inr (by omega));replace oG:=oG.mid hst (Or.inl (by omega));replace r0:=r0.mid hst (Or.inr (by omega));replace hm:=hm.transNew hst (Or.inl (by omega));refine rdZ 9 rfl (fun K hK=>?_);go_simp;refine hK.out _ _ (Or.inr (And.intro (Bt.cell 0 rfl) (And.intro (Bt.cell 1 rfl) (Bt.cell 2 rfl)))) (fun _=>?_);clear hK K;try simp only [Act.put,zs1,zs2,zs3,zs4,zs5,zs6]
     clear hst k0 k1 k2 kf kl B3 B8;have B3:=Bt;have B8:=V8;clear Bt V8;generalize ((wz82.setCell ⟨nB8,0,none⟩ (.int .i64 a)).setCell ⟨nB8,1,none⟩ (.int .i64 n)).setCell ⟨nB8,2,none⟩ (.slice A2 es.length c2)=wS at B3 B8 o1 oG r0 hm ⊢;refine tkZ [] 10 rfl (And.intro (B3.cell 0 rfl) (And.intro (B3.cell 1 rfl) (B3.cell 2 rfl))) ?_;try simp only [Act.put,zs1,zs2,zs3,zs4,zs5,zs6]
     refine wpAnyZ_done (by kernel_rfl) ?_ _;have B8l:=B8.1;have B80:=B8.cell 0 rfl;have B81:=B8.cell 1 rfl;have B82:=B8.cell 2 rfl;have B3l:=B3.1;have B30:=B3.cell 0 rfl;have B31:=B3.cell 1 rfl;have B32:=B3.cell 2 rfl;go_wp2_with fail;clear B8l B80 B81 B82 B3l B30 B31 B32;with_reducible refine (spec_EqualGraphs a n A2 es c2 a n A1 es c1 _ _ _ _ _ (OG.rg oG) (OG.rg o1) hl1 hl1 true (by simp)).mono ?_
     rintro e wa83 ⟨rfl,m⟩;replace o1:=o1.mid m oZl;replace r0:=r0.mid m oZl;replace oG:=oG.mid m oZl;replace B3:=B3.mid m oZr;replace B8:=B8.mid m oZr;replace hm:=hm.trans m;clear m;go_wp2_with fail;go_meet
     case rel=>exact ⟨r0,hm⟩
   ·skip
    have hnb:=hm.size;have hn3:=B3.1;have hnO:=o1.size;have al:=Mid.alloc wz (.cells #[.int .i64 0,.int .i64 0,.slice none 0 0] 26);have B8:=Box.new wz #[.int .i64 0,.int .i64 0,.slice none 0 0] 26;have Bt:=B3.mid al oZr;go_simp;refine hK.out _ _ (Or.inr (And.intro (Bt.cell 0 rfl) (And.intro (Bt.cell 1 rfl) (Bt.cell 2 rfl)))) (fun _=>?_);clear hK K;try simp only [Act.put,zs1,zs2,zs3,zs4,zs5,zs6]
    clear Bt;obtain ⟨nB8,hnB8⟩:∃ g,wz.heap.size=g:=⟨_,rfl⟩
    replace o1:=o1.mid al oZl;replace r0:=r0.mid al oZl;replace B3:=B3.mid al oZr;replace hm:=hm.trans al;rw [hnB8] at B8 hnb hn3 hnO;try rw [hnB8] at o1
    try rw [hnB8] at r0
    try rw [hnB8]
    generalize wz.alloc (.cells #[.int .i64 0,.int .i64 0,.slice none 0 0] 26)=w8 at o1 r0 B3 B8 hm ⊢;clear al hnB8;have HZ:=Lib.hid (sspec_ActionOf a n A1 es c1 w8 _ _ o1 hl1 ac HAC.out);refine rdZ 3 rfl (fun K hK=>?_)
    (go_simp;(with_reducible refine (HZ.out).mono ?_);rintro en wz81 ⟨Ab,cb,rfl,ob,mz81⟩;have Bt:=B3.mid mz81 oZr;go_wp2_with fail)
    refine hK.out _ _ (Or.inr (And.intro (Bt.cell 0 rfl) (And.intro (Bt.cell 1 rfl) (Bt.cell 2 rfl)))) (fun _=>?_);clear hK K;try simp only [Act.put,zs1,zs2,zs3,zs4,zs5,zs6]
    clear Bt HZ;replace o1:=o1.mid mz81 oZl;replace r0:=r0.mid mz81 oZl;replace B3:=B3.mid mz81 oZr;replace B8:=B8.mid mz81 oZr;replace hm:=hm.trans mz81;clear mz81;have hrb:=ob.rss;have hlt4:=Nat.le_refl wz81.heap.size;have hlt8:=B8.1;have HZ:=Lib.hid (impl_GraphOfAction a Ab ac cb wz81 _ _ hrb HLA.out (wf_small (by omega) (by omega)) a n es true HGA.out);refine rdZ 4 rfl (fun K hK=>?_)
    (go_simp;(with_reducible refine (HZ.out).mono ?_);rintro en wz82 ⟨A2,c2,rfl,oG,mz82⟩;have Bt:=B3.mid mz82 oZr;go_wp2_with fail)
    refine hK.out _ _ (Or.inr (And.intro (Bt.cell 0 rfl) (And.intro (Bt.cell 1 rfl) (Bt.cell 2 rfl)))) (fun _=>?_);clear hK K;try simp only [Act.put,zs1,zs2,zs3,zs4,zs5,zs6]
    clear Bt HZ;replace o1:=o1.mid mz82 oZl;replace r0:=r0.mid mz82 oZl;replace ob:=ob.mid mz82 oZl;replace B3:=B3.mid mz82 oZr;replace B8:=B8.mid mz82 oZr;replace hm:=hm.trans mz82;clear mz82;clear hrb;clear ob;refine tkZ [] 5 rfl (And.intro (B3.cell 0 rfl) (And.intro (B3.cell 1 rfl) (B3.cell 2 rfl))) ?_;try simp only [Act.put,zs1,zs2,zs3,zs4,zs5,zs6]
    refine tkZ [] 6 rfl (And.intro (B3.cell 0 rfl) (And.intro (B3.cell 1 rfl) (B3.cell 2 rfl))) ?_;try simp only [Act.put,zs1,zs2,zs3,zs4,zs5,zs6]
    refine tkZ [] 7 rfl (And.intro (B3.cell 0 rfl) (And.intro (B3.cell 1 rfl) (B3.cell 2 rfl))) ?_;try simp only [Act.put,zs1,zs2,zs3,zs4,zs5,zs6]
    have k0:=B8.cell 0 rfl;have k1:=B8.cell 1 rfl;have k2:=B8.cell 2 rfl;have kf:=B8.2.2;have kl:=B8.1;have hst:=((Mid.setCell wz82 (lo:=nB8) (hi:=nB8+1) (p:=⟨nB8,0,none⟩) (.int .i64 a) (Nat.le_refl _) (Nat.lt_succ_self _)).trans (Mid.setCell _ (lo:=nB8) (hi:=nB8+1) (p:=⟨nB8,1,none⟩) (.int .i64 n) (Nat.le_refl _) (Nat.lt_succ_self _))).trans (Mid.setCell _ (lo:=nB8) (hi:=nB8+1) (p:=⟨nB8,2,none⟩) (.slice A2 es.length c2) (Nat.le_refl _) (Nat.lt_succ_self _));have Bt:=B3.mid hst (Or.inl (by omega));have V8:=((B8.set 0 (.int .i64 a) (by simp) rfl).set 1 (.int .i64 n) (by simp) rfl).set 2 (.slice A2 es.length c2) (by simp) rfl;simp only [List.set_cons_succ,List.set_cons_zero] at V8;replace o1:=o1.mid hst (Or.inr (by omega));replace oG:=oG.mid hst (Or.inl (by omega));replace r0:=r0.mid hst (Or.inr (by omega));replace hm:=hm.transNew hst (Or.inl (by omega));refine rdZ 9 rfl (fun K hK=>?_);go_simp;refine hK.out _ _ (Or.inr (And.intro (Bt.cell 0 rfl) (And.intro (Bt.cell 1 rfl) (Bt.cell 2 rfl)))) (fun _=>?_);clear hK K;try simp only [Act.put,zs1,zs2,zs3,zs4,zs5,zs6]
    clear hst k0 k1 k2 kf kl B3 B8;have B3:=Bt;have B8:=V8;clear Bt V8;generalize ((wz82.setCell ⟨nB8,0,none⟩ (.int .i64 a)).setCell ⟨nB8,1,none⟩ (.int .i64 n)).setCell ⟨nB8,2,none⟩ (.slice A2 es.length c2)=wS at B3 B8 o1 oG r0 hm ⊢;refine tkZ [] 10 rfl (And.intro (B3.cell 0 rfl) (And.intro (B3.cell 1 rfl) (B3.cell 2 rfl))) ?_;try simp only [Act.put,zs1,zs2,zs3,zs4,zs5,zs6]
    refine wpAnyZ_done (by kernel_rfl) ?_ _;have B8l:=B8.1;have B80:=B8.cell 0 rfl;have B81:=B8.cell 1 rfl;have B82:=B8.cell 2 rfl;have B3l:=B3.1;have B30:=B3.cell 0 rfl;have B31:=B3.cell 1 rfl;have B32:=B3.cell 2 rfl;go_wp2_with fail;clear B8l B80 B81 B82 B3l B30 B31 B32;with_reducible refine (spec_EqualGraphs a n A2 es c2 a n A1 es c1 _ _ _ _ _ (OG.rg oG) (OG.rg o1) hl1 hl1 true (by simp)).mono ?_
    rintro e wa83 ⟨rfl,m⟩;replace o1:=o1.mid m oZl;replace r0:=r0.mid m oZl;replace oG:=oG.mid m oZl;replace B3:=B3.mid m oZr;replace B8:=B8.mid m oZr;replace hm:=hm.trans m;clear m;go_wp2_with fail;go_meet
    case rel=>exact ⟨r0,hm⟩
 case rest =>
 clear B3 o1 ow op r0 hm HOX HP HAC HBN HOM hlp hal hax hl1 hlx hlx2 HBB;obtain ⟨r0,hm⟩:=hcut;go_wp2_with fail;with_reducible refine (DrawGroupElements_any A0 d0 c0 _ _ _o0 hl0 r0).mono ?_
 rintro e wa101 ⟨r,s,A1,c1,es,rfl,dg,o1,m⟩;replace r0:=r0.mid m oZl;replace hm:=hm.trans m;clear m;have hl1:es.length≤1048576:=by have:=dg.len;omega
 clear dg;have hc1:=o1.cnt.1;obtain ⟨L,hL⟩:=GroupElementsIs_ex r s es hl1;have hLs:=GroupElementsIs_len hL hl1;have hLl:L.length≤1048576:=by omega
 have HLX:Hid (∀ x∈L,x.length≤1048576):=Lib.hid (fun x hx=>by have:=le_sumL hx;omega);have HL:=Lib.hid hL;obtain ⟨ci,hci⟩:=CoreIndexIs_ex r s es hl1;have HCI:=Lib.hid hci;clear hL hLs hci;have al:=Mid.alloc wa101 (.cells #[.int .i64 r,.int .i64 s,.slice A1 es.length c1] 26);have B10:=Box.new wa101 #[.int .i64 r,.int .i64 s,.slice A1 es.length c1] 26;obtain ⟨nB10,hnB10⟩:∃ g,wa101.heap.size=g:=⟨_,rfl⟩
 replace r0:=r0.mid al oZl;replace o1:=o1.mid al oZl;replace hm:=hm.trans al;rw [hnB10] at B10;obtain ⟨wB10,hwB10⟩:∃ x,wa101.alloc (.cells #[.int .i64 r,.int .i64 s,.slice A1 es.length c1] 26)=x:=⟨_,rfl⟩
 rw [hwB10] at r0 o1 B10 hm;clear al;have B10l:=B10.1;have B100:=B10.cell 0 rfl;have B101:=B10.cell 1 rfl;have B102:=B10.cell 2 rfl;go_wp2_with fail;clear B10l B100 B101 B102 hnB10 hwB10;with_reducible refine (simpl_GroupElements r s A1 es c1 _ _ _ o1 hl1 L HL.out).mono ?_
 rintro e wa102 ⟨A2,c2,rfl,o2,m⟩;replace r0:=r0.mid m oZl;replace o1:=o1.mid m oZl;replace B10:=B10.mid m oZr;replace hm:=hm.trans m;clear m;go_upto_region 17 with fail
 go_cut [163] from 129 to 163 (fun v wx=>v=.bool false∧RV wx 0 w.heap.size A0 (byts d0)∧Mid 0 0 w wx)
 case first =>
  by_cases hL0:0 < L.length
  ·obtain ⟨a,n,rfl,rfl,hn0,⟨k,hk⟩,hnm⟩:=grp_facts HL.out hL0
   obtain ⟨bN,hbN⟩:=nrm_b (a:Int) n es;have HBN:=Lib.hid hbN;have hLn:((L.length:Int) == (n:Int))=bN:=by
    cases bN with
    | true=>have:=hnm.1 (hbN.1 rfl);simp [this]
    | false =>
     have:¬ L.length=n:=fun h=>by simpa using hbN.2 (hnm.2 h)
     simp;omega
   have hn9:¬ n=0:=by omega
   have hmd1:Int.tmod (L.length:Int) (n:Int)=0:=by rw [hk,Int.natCast_mul];exact Int.mul_tmod_right _ _
   have hL1:(0:Int) < (L.length:Int):=by omega
   have HLN:=Lib.hid hLn;have HMD:=Lib.hid hmd1;clear hk hnm hbN hLn hmd1 hn0 k;have hmd:=Mid.drew1 wa102;replace r0:=r0.mid hmd oZl;replace o1:=o1.mid hmd oZl;replace o2:=o2.mid hmd oZl;replace B10:=B10.mid hmd oZr;replace hm:=hm.trans hmd;clear hmd;have hS:=(And.intro (B10.cell 0 rfl) (And.intro (B10.cell 1 rfl) (B10.cell 2 rfl)))
   refine wp_region_Z (S:=(fun w'=>w'.cell? ⟨nB10,0,none⟩=some (.int .i64 a)∧w'.cell? ⟨nB10,1,none⟩=some (.int .i64 n)∧w'.cell? ⟨nB10,2,none⟩=some (.slice A1 es.length c1))) [] (by kernel_rfl) hS ?_;generalize World.drew wa102=wz at hS r0 o1 o2 B10 hm ⊢;clear hS;refine tkZ [] 0 rfl (And.intro (B10.cell 0 rfl) (And.intro (B10.cell 1 rfl) (B10.cell 2 rfl))) ?_;try simp only [Act.put,zs1,zs2,zs3,zs4,zs5,zs6]
   refine tkZ [] 1 rfl (And.intro (B10.cell 0 rfl) (And.intro (B10.cell 1 rfl) (B10.cell 2 rfl))) ?_;try simp only [Act.put,zs1,zs2,zs3,zs4,zs5,zs6]
   have HZ:=Lib.hid (sspec_GroupElements a n A1 es c1 wz _ _ o1 hl1 L HL.out);refine rdZ 2 rfl (fun K hK=>?_)
   (go_simp;(with_reducible refine (HZ.out).mono ?_);rintro en wz103 ⟨A3,c3,rfl,o3,mz103⟩;have Bt:=B10.mid mz103 oZr;go_wp2_with fail)
   refine hK.out _ _ (Or.inr (And.intro (Bt.cell 0 rfl) (And.intro (Bt.cell 1 rfl) (Bt.cell 2 rfl)))) (fun _=>?_);clear hK K;try simp only [Act.put,zs1,zs2,zs3,zs4,zs5,zs6]
   clear Bt HZ;replace r0:=r0.mid mz103 oZl;replace o1:=o1.mid mz103 oZl;replace o2:=o2.mid mz103 oZl;replace B10:=B10.mid mz103 oZr;replace hm:=hm.trans mz103;clear mz103;have hra:=o2.rss;have hrb:=o3.rss;have HZ:=Lib.hid (sameWords_eq A2 L c2 A3 c3 wz103 _ _ _ _ hra hrb hLl HLX.out);refine rdZ 3 rfl (fun K hK=>?_)
   (go_simp;(with_reducible refine (HZ.out).mono ?_);rintro en wz104 ⟨rfl,mz104⟩;have Bt:=B10.mid mz104 oZr;go_wp2_with fail)
   refine hK.out _ _ (Or.inr (And.intro (Bt.cell 0 rfl) (And.intro (Bt.cell 1 rfl) (Bt.cell 2 rfl)))) (fun _=>?_);clear hK K;try simp only [Act.put,zs1,zs2,zs3,zs4,zs5,zs6]
   clear Bt HZ;replace r0:=r0.mid mz104 oZl;replace o1:=o1.mid mz104 oZl;replace o2:=o2.mid mz104 oZl;replace o3:=o3.mid mz104 oZl;replace B10:=B10.mid mz104 oZr;replace hm:=hm.trans mz104;clear mz104;clear hra hrb;clear o2 o3;refine tkZ [] 4 rfl (And.intro (B10.cell 0 rfl) (And.intro (B10.cell 1 rfl) (B10.cell 2 rfl))) ?_;try simp only [Act.put,zs1,zs2,zs3,zs4,zs5,zs6]
   refine tkZ [] 5 rfl (And.intro (B10.cell 0 rfl) (And.intro (B10.cell 1 rfl) (B10.cell 2 rfl))) ?_;try simp only [Act.put,zs1,zs2,zs3,zs4,zs5,zs6]
   refine tkZ [] 6 rfl (And.intro (B10.cell 0 rfl) (And.intro (B10.cell 1 rfl) (B10.cell 2 rfl))) ?_;try simp only [Act.put,zs1,zs2,zs3,zs4,zs5,zs6]
   refine tkZ [] 8 rfl (And.intro (B10.cell 0 rfl) (And.intro (B10.cell 1 rfl) (B10.cell 2 rfl))) ?_;try simp only [Act.put,zs1,zs2,zs3,zs4,zs5,zs6]
   have HZ:=Lib.hid (simpl_CoreIndex a n A1 es c1 wz104 _ _ o1 hl1 ci HCI.out);refine rdZ 7 rfl (fun K hK=>?_)
   (go_simp;(with_reducible refine (HZ.out).mono ?_);rintro en wz105 ⟨rfl,mz105⟩;have Bt:=B10.mid mz105 oZr;go_wp2_with fail)
   refine hK.out _ _ (Or.inr (And.intro (Bt.cell 0 rfl) (And.intro (Bt.cell 1 rfl) (Bt.cell 2 rfl)))) (fun _=>?_);clear hK K;try simp only [Act.put,zs1,zs2,zs3,zs4,zs5,zs6]
   clear Bt HZ;replace r0:=r0.mid mz105 oZl;replace o1:=o1.mid mz105 oZl;replace B10:=B10.mid mz105 oZr;replace hm:=hm.trans mz105;clear mz105;have HZ:=Lib.hid (sspec_CoreIndex a n A1 es c1 wz105 _ _ o1 hl1 ci HCI.out);refine rdZ 9 rfl (fun K hK=>?_)
   (go_simp;(with_reducible refine (HZ.out).mono ?_);rintro en wz106 ⟨rfl,mz106⟩;have Bt:=B10.mid mz106 oZr;go_wp2_with fail)
   refine hK.out _ _ (Or.inr (And.intro (Bt.cell 0 rfl) (And.intro (Bt.cell 1 rfl) (Bt.cell 2 rfl)))) (fun _=>?_);clear hK K;try simp only [Act.put,zs1,zs2,zs3,zs4,zs5,zs6]
   clear Bt HZ;replace r0:=r0.mid mz106 oZl;replace o1:=o1.mid mz106 oZl;replace B10:=B10.mid mz106 oZr;replace hm:=hm.trans mz106;clear mz106;refine tkZ [] 10 rfl (And.intro (B10.cell 0 rfl) (And.intro (B10.cell 1 rfl) (B10.cell 2 rfl))) ?_;try simp only [Act.put,zs1,zs2,zs3,zs4,zs5,zs6]
   refine tkZ [] 11 rfl (And.intro (B10.cell 0 rfl) (And.intro (B10.cell 1 rfl) (B10.cell 2 rfl))) ?_;try simp only [Act.put,zs1,zs2,zs3,zs4,zs5,zs6]
   refine tkZ [] 12 rfl (And.intro (B10.cell 0 rfl) (And.intro (B10.cell 1 rfl) (B10.cell 2 rfl))) ?_;try simp only [Act.put,zs1,zs2,zs3,zs4,zs5,zs6]
   refine tkZ [] 13 rfl (And.intro (B10.cell 0 rfl) (And.intro (B10.cell 1 rfl) (B10.cell 2 rfl))) ?_;try simp only [Act.put,zs1,zs2,zs3,zs4,zs5,zs6]
   refine tkZ [] 14 rfl (And.intro (B10.cell 0 rfl) (And.intro (B10.cell 1 rfl) (B10.cell 2 rfl))) ?_;try simp only [Act.put,zs1,zs2,zs3,zs4,zs5,zs6]
   refine tkZ [] 15 rfl (And.intro (B10.cell 0 rfl) (And.intro (B10.cell 1 rfl) (B10.cell 2 rfl))) ?_;try simp only [Act.put,zs1,zs2,zs3,zs4,zs5,zs6]
   refine tkZ [] 16 rfl (And.intro (B10.cell 0 rfl) (And.intro (B10.cell 1 rfl) (B10.cell 2 rfl))) ?_;try simp only [Act.put,zs1,zs2,zs3,zs4,zs5,zs6]
   have hmd1:=HMD.out;have hLn:=HLN.out;refine tkZ [] 17 rfl (And.intro (B10.cell 0 rfl) (And.intro (B10.cell 1 rfl) (B10.cell 2 rfl))) ?_;try simp only [Act.put,zs1,zs2,zs3,zs4,zs5,zs6]
   refine tkZ [] 18 rfl (And.intro (B10.cell 0 rfl) (And.intro (B10.cell 1 rfl) (B10.cell 2 rfl))) ?_;try simp only [Act.put,zs1,zs2,zs3,zs4,zs5,zs6]
   refine tkZ [] 19 rfl (And.intro (B10.cell 0 rfl) (And.intro (B10.cell 1 rfl) (B10.cell 2 rfl))) ?_;try simp only [Act.put,zs1,zs2,zs3,zs4,zs5,zs6]
   refine tkZ [] 20 rfl (And.intro (B10.cell 0 rfl) (And.intro (B10.cell 1 rfl) (B10.cell 2 rfl))) ?_;try simp only [Act.put,zs1,zs2,zs3,zs4,zs5,zs6]
   refine tkZ [] 21 rfl (And.intro (B10.cell 0 rfl) (And.intro (B10.cell 1 rfl) (B10.cell 2 rfl))) ?_;try simp only [Act.put,zs1,zs2,zs3,zs4,zs5,zs6]
   refine tkZ [] 22 rfl (And.intro (B10.cell 0 rfl) (And.intro (B10.cell 1 rfl) (B10.cell 2 rfl))) ?_;try simp only [Act.put,zs1,zs2,zs3,zs4,zs5,zs6]
   refine tkZ [] 23 rfl (And.intro (B10.cell 0 rfl) (And.intro (B10.cell 1 rfl) (B10.cell 2 rfl))) ?_;try simp only [Act.put,zs1,zs2,zs3,zs4,zs5,zs6]
   refine tkZ [] 24 rfl (And.intro (B10.cell 0 rfl) (And.intro (B10.cell 1 rfl) (B10.cell 2 rfl))) ?_;try simp only [Act.put,zs1,zs2,zs3,zs4,zs5,zs6]
   refine tkZ [] 26 rfl (And.intro (B10.cell 0 rfl) (And.intro (B10.cell 1 rfl) (B10.cell 2 rfl))) ?_;try simp only [Act.put,zs1,zs2,zs3,zs4,zs5,zs6]
   refine tkZ [] 27 rfl (And.intro (B10.cell 0 rfl) (And.intro (B10.cell 1 rfl) (B10.cell 2 rfl))) ?_;try simp only [Act.put,zs1,zs2,zs3,zs4,zs5,zs6]
   refine tkZ [] 28 rfl (And.intro (B10.cell 0 rfl) (And.intro (B10.cell 1 rfl) (B10.cell 2 rfl))) ?_;try simp only [Act.put,zs1,zs2,zs3,zs4,zs5,zs6]
   refine tkZ [] 29 rfl (And.intro (B10.cell 0 rfl) (And.intro (B10.cell 1 rfl) (B10.cell 2 rfl))) ?_;try simp only [Act.put,zs1,zs2,zs3,zs4,zs5,zs6]
   refine tkZ [] 30 rfl (And.intro (B10.cell 0 rfl) (And.intro (B10.cell 1 rfl) (B10.cell 2 rfl))) ?_;try simp only [Act.put,zs1,zs2,zs3,zs4,zs5,zs6]
   have HZ:=Lib.hid (impl_IsNormal a n A1 es c1 wz106 _ _ (OG.rg o1) hl1 hc1 bN HBN.out);refine rdZ 25 rfl (fun K hK=>?_)
   (go_simp;(with_reducible refine (HZ.out).mono ?_);rintro en wz107 ⟨rfl,mz107⟩;have Bt:=B10.mid mz107 oZr;go_wp2_with fail)
   refine hK.out _ _ (Or.inr (And.intro (Bt.cell 0 rfl) (And.intro (Bt.cell 1 rfl) (Bt.cell 2 rfl)))) (fun _=>?_);clear hK K;try simp only [Act.put,zs1,zs2,zs3,zs4,zs5,zs6]
   clear Bt HZ;replace r0:=r0.mid mz107 oZl;replace o1:=o1.mid mz107 oZl;replace B10:=B10.mid mz107 oZr;replace hm:=hm.trans mz107;clear mz107;refine tkZ [] 31 rfl (And.intro (B10.cell 0 rfl) (And.intro (B10.cell 1 rfl) (B10.cell 2 rfl))) ?_;try simp only [Act.put,zs1,zs2,zs3,zs4,zs5,zs6]
   refine tkZ [] 32 rfl (And.intro (B10.cell 0 rfl) (And.intro (B10.cell 1 rfl) (B10.cell 2 rfl))) ?_;try simp only [Act.put,zs1,zs2,zs3,zs4,zs5,zs6]
   refine tkZ [] 33 rfl (And.intro (B10.cell 0 rfl) (And.intro (B10.cell 1 rfl) (B10.cell 2 rfl))) ?_;try simp only [Act.put,zs1,zs2,zs3,zs4,zs5,zs6]
   refine tkZ [] 34 rfl (And.intro (B10.cell 0 rfl) (And.intro (B10.cell 1 rfl) (B10.cell 2 rfl))) ?_;try simp only [Act.put,zs1,zs2,zs3,zs4,zs5,zs6]
   refine wpAnyZ_done (by kernel_rfl) ?_ _;go_wp2_with fail;go_meet
   case rel=>exact ⟨rfl,r0,hm⟩
  ·have hL1:¬ (0:Int) < (L.length:Int):=by omega
   have hmd:=Mid.drew1 wa102;replace r0:=r0.mid hmd oZl;replace o1:=o1.mid hmd oZl;replace o2:=o2.mid hmd oZl;replace B10:=B10.mid hmd oZr;replace hm:=hm.trans hmd;clear hmd;have hS:=(And.intro (B10.cell 0 rfl) (And.intro (B10.cell 1 rfl) (B10.cell 2 rfl)))
   refine wp_region_Z (S:=(fun w'=>w'.cell? ⟨nB10,0,none⟩=some (.int .i64 r)∧w'.cell? ⟨nB10,1,none⟩=some (.int .i64 s)∧w'.cell? ⟨nB10,2,none⟩=some (.slice A1 es.length c1))) [] (by kernel_rfl) hS ?_;generalize World.drew wa102=wz at hS r0 o1 o2 B10 hm ⊢;clear hS;refine tkZ [] 0 rfl (And.intro (B10.cell 0 rfl) (And.intro (B10.cell 1 rfl) (B10.cell 2 rfl))) ?_;try simp only [Act.put,zs1,zs2,zs3,zs4,zs5,zs6]
   refine tkZ [] 1 rfl (And.intro (B10.cell 0 rfl) (And.intro (B10.cell 1 rfl) (B10.cell 2 rfl))) ?_;try simp only [Act.put,zs1,zs2,zs3,zs4,zs5,zs6]
   have HZ:=Lib.hid (sspec_GroupElements r s A1 es c1 wz _ _ o1 hl1 L HL.out);refine rdZ 2 rfl (fun K hK=>?_)
   (go_simp;(with_reducible refine (HZ.out).mono ?_);rintro en wz103 ⟨A3,c3,rfl,o3,mz103⟩;have Bt:=B10.mid mz103 oZr;go_wp2_with fail)
   refine hK.out _ _ (Or.inr (And.intro (Bt.cell 0 rfl) (And.intro (Bt.cell 1 rfl) (Bt.cell 2 rfl)))) (fun _=>?_);clear hK K;try simp only [Act.put,zs1,zs2,zs3,zs4,zs5,zs6]
   clear Bt HZ;replace r0:=r0.mid mz103 oZl;replace o1:=o1.mid mz103 oZl;replace o2:=o2.mid mz103 oZl;replace B10:=B10.mid mz103 oZr;replace hm:=hm.trans mz103;clear mz103;have hra:=o2.rss;have hrb:=o3.rss;have HZ:=Lib.hid (sameWords_eq A2 L c2 A3 c3 wz103 _ _ _ _ hra hrb hLl HLX.out);refine rdZ 3 rfl (fun K hK=>?_)
   (go_simp;(with_reducible refine (HZ.out).mono ?_);rintro en wz104 ⟨rfl,mz104⟩;have Bt:=B10.mid mz104 oZr;go_wp2_with fail)
   refine hK.out _ _ (Or.inr (And.intro (Bt.cell 0 rfl) (And.intro (Bt.cell 1 rfl) (Bt.cell 2 rfl)))) (fun _=>?_);clear hK K;try simp only [Act.put,zs1,zs2,zs3,zs4,zs5,zs6]
   clear Bt HZ;replace r0:=r0.mid mz104 oZl;replace o1:=o1.mid mz104 oZl;replace o2:=o2.mid mz104 oZl;replace o3:=o3.mid mz104 oZl;replace B10:=B10.mid mz104 oZr;replace hm:=hm.trans mz104;clear mz104;clear hra hrb;clear o2 o3;refine tkZ [] 4 rfl (And.intro (B10.cell 0 rfl) (And.intro (B10.cell 1 rfl) (B10.cell 2 rfl))) ?_;try simp only [Act.put,zs1,zs2,zs3,zs4,zs5,zs6]
   refine tkZ [] 5 rfl (And.intro (B10.cell 0 rfl) (And.intro (B10.cell 1 rfl) (B10.cell 2 rfl))) ?_;try simp only [Act.put,zs1,zs2,zs3,zs4,zs5,zs6]
   refine tkZ [] 6 rfl (And.intro (B10.cell 0 rfl) (And.intro (B10.cell 1 rfl) (B10.cell 2 rfl))) ?_;try simp only [Act.put,zs1,zs2,zs3,zs4,zs5,zs6]
   refine tkZ [] 8 rfl (And.intro (B10.cell 0 rfl) (And.intro (B10.cell 1 rfl) (B10.cell 2 rfl))) ?_;try simp only [Act.put,zs1,zs2,zs3,zs4,zs5,zs6]
   have HZ:=Lib.hid (simpl_CoreIndex r s A1 es c1 wz104 _ _ o1 hl1 ci HCI.out);refine rdZ 7 rfl (fun K hK=>?_)
   (go_simp;(with_reducible refine (HZ.out).mono ?_);rintro en wz105 ⟨rfl,mz105⟩;have Bt:=B10.mid mz105 oZr;go_wp2_with fail)
   refine hK.out _ _ (Or.inr (And.intro (Bt.cell 0 rfl) (And.intro (Bt.cell 1 rfl) (Bt.cell 2 rfl)))) (fun _=>?_);clear hK K;try simp only [Act.put,zs1,zs2,zs3,zs4,zs5,zs6]
   clear Bt HZ;replace r0:=r0.mid mz105 oZl;replace o1:=o1.mid mz105 oZl;replace B10:=B10.mid mz105 oZr;replace hm:=hm.trans mz105;clear mz105;have HZ:=Lib.hid (sspec_CoreIndex r s A1 es c1 wz105 _ _ o1 hl1 ci HCI.out);refine rdZ 9 rfl (fun K hK=>?_)
   (go_simp;(with_reducible refine (HZ.out).mono ?_);rintro en wz106 ⟨rfl,mz106⟩;have Bt:=B10.mid mz106 oZr;go_wp2_with fail)
   refine hK.out _ _ (Or.inr (And.intro (Bt.cell 0 rfl) (And.intro (Bt.cell 1 rfl) (Bt.cell 2 rfl)))) (fun _=>?_);clear hK K;try simp only [Act.put,zs1,zs2,zs3,zs4,zs5,zs6]
   clear Bt HZ;replace r0:=r0.mid mz106 oZl;replace o1:=o1.mid mz106 oZl;replace B10:=B10.mid mz106 oZr;replace hm:=hm.trans mz106;clear mz106;refine tkZ [] 10 rfl (And.intro (B10.cell 0 rfl) (And.intro (B10.cell 1 rfl) (B10.cell 2 rfl))) ?_;try simp only [Act.put,zs1,zs2,zs3,zs4,zs5,zs6]
   refine tkZ [] 11 rfl (And.intro (B10.cell 0 rfl) (And.intro (B10.cell 1 rfl) (B10.cell 2 rfl))) ?_;try simp only [Act.put,zs1,zs2,zs3,zs4,zs5,zs6]
   refine tkZ [] 12 rfl (And.intro (B10.cell 0 rfl) (And.intro (B10.cell 1 rfl) (B10.cell 2 rfl))) ?_;try simp only [Act.put,zs1,zs2,zs3,zs4,zs5,zs6]
   refine tkZ [] 13 rfl (And.intro (B10.cell 0 rfl) (And.intro (B10.cell 1 rfl) (B10.cell 2 rfl))) ?_;try simp only [Act.put,zs1,zs2,zs3,zs4,zs5,zs6]
   refine tkZ [] 14 rfl (And.intro (B10.cell 0 rfl) (And.intro (B10.cell 1 rfl) (B10.cell 2 rfl))) ?_;try simp only [Act.put,zs1,zs2,zs3,zs4,zs5,zs6]
   refine tkZ [] 15 rfl (And.intro (B10.cell 0 rfl) (And.intro (B10.cell 1 rfl) (B10.cell 2 rfl))) ?_;try simp only [Act.put,zs1,zs2,zs3,zs4,zs5,zs6]
   refine tkZ [] 16 rfl (And.intro (B10.cell 0 rfl) (And.intro (B10.cell 1 rfl) (B10.cell 2 rfl))) ?_;try simp only [Act.put,zs1,zs2,zs3,zs4,zs5,zs6]
   refine wpAnyZ_takeC [] (i:=17) rfl (by kernel_rfl) (by kernel_rfl) (by kernel_rfl) (by kernel_rfl) (fun _ _ _ h=>h) (Or.inr ⟨by rfl,rfl⟩) (And.intro (B10.cell 0 rfl) (And.intro (B10.cell 1 rfl) (B10.cell 2 rfl))) ?_;try simp only [Act.put,zs1,zs2,zs3,zs4,zs5,zs6]
   refine wpAnyZ_takeC [] (i:=18) rfl (by kernel_rfl) (by kernel_rfl) (by kernel_rfl) (by kernel_rfl) (fun _ _ _ h=>h) (Or.inr ⟨by rfl,rfl⟩) (And.intro (B10.cell 0 rfl) (And.intro (B10.cell 1 rfl) (B10.cell 2 rfl))) ?_;try simp only [Act.put,zs1,zs2,zs3,zs4,zs5,zs6]
   refine wpAnyZ_takeC [] (i:=19) rfl (by kernel_rfl) (by kernel_rfl) (by kernel_rfl) (by kernel_rfl) (fun _ _ _ h=>h) (Or.inr ⟨by rfl,rfl⟩) (And.intro (B10.cell 0 rfl) (And.intro (B10.cell 1 rfl) (B10.cell 2 rfl))) ?_;try simp only [Act.put,zs1,zs2,zs3,zs4,zs5,zs6]
   refine wpAnyZ_takeC [] (i:=20) rfl (by kernel_rfl) (by kernel_rfl) (by kernel_rfl) (by kernel_rfl) (fun _ _ _ h=>h) (Or.inr ⟨by rfl,rfl⟩) (And.intro (B10.cell 0 rfl) (And.intro (B10.cell 1 rfl) (B10.cell 2 rfl))) ?_;try simp only [Act.put,zs1,zs2,zs3,zs4,zs5,zs6]
   refine wpAnyZ_takeC [] (i:=21) rfl (by kernel_rfl) (by kernel_rfl) (by kernel_rfl) (by kernel_rfl) (fun _ _ _ h=>h) (Or.inr ⟨by rfl,rfl⟩) (And.intro (B10.cell 0 rfl) (And.intro (B10.cell 1 rfl) (B10.cell 2 rfl))) ?_;try simp only [Act.put,zs1,zs2,zs3,zs4,zs5,zs6]
   refine wpAnyZ_takeC [] (i:=22) rfl (by kernel_rfl) (by kernel_rfl) (by kernel_rfl) (by kernel_rfl) (fun _ _ _ h=>h) (Or.inr ⟨by rfl,rfl⟩) (And.intro (B10.cell 0 rfl) (And.intro (B10.cell 1 rfl) (B10.cell 2 rfl))) ?_;try simp only [Act.put,zs1,zs2,zs3,zs4,zs5,zs6]
   refine wpAnyZ_takeC [] (i:=23) rfl (by kernel_rfl) (by kernel_rfl) (by kernel_rfl) (by kernel_rfl) (fun _ _ _ h=>h) (Or.inr ⟨by rfl,rfl⟩) (And.intro (B10.cell 0 rfl) (And.intro (B10.cell 1 rfl) (B10.cell 2 rfl))) ?_;try simp only [Act.put,zs1,zs2,zs3,zs4,zs5,zs6]
   refine wpAnyZ_takeC [] (i:=24) rfl (by kernel_rfl) (by kernel_rfl) (by kernel_rfl) (by kernel_rfl) (fun _ _ _ h=>h) (Or.inr ⟨by rfl,rfl⟩) (And.intro (B10.cell 0 rfl) (And.intro (B10.cell 1 rfl) (B10.cell 2 rfl))) ?_;try simp only [Act.put,zs1,zs2,zs3,zs4,zs5,zs6]
   refine wpAnyZ_takeC [] (i:=25) rfl (by kernel_rfl) (by kernel_rfl) (by kernel_rfl) (by kernel_rfl) (fun _ _ _ h=>h) (Or.inr ⟨by rfl,rfl⟩) (And.intro (B10.cell 0 rfl) (And.intro (B10.cell 1 rfl) (B10.cell 2 rfl))) ?_;try simp only [Act.put,zs1,zs2,zs3,zs4,zs5,zs6]
   refine wpAnyZ_takeC [] (i:=26) rfl (by kernel_rfl) (by kernel_rfl) (by kernel_rfl) (by kernel_rfl) (fun _ _ _ h=>h) (Or.inr ⟨by rfl,rfl⟩) (And.intro (B10.cell 0 rfl) (And.intro (B10.cell 1 rfl) (B10.cell 2 rfl))) ?_;try simp only [Act.put,zs1,zs2,zs3,zs4,zs5,zs6]
   refine wpAnyZ_takeC [] (i:=27) rfl (by kernel_rfl) (by kernel_rfl) (by kernel_rfl) (by kernel_rfl) (fun _ _ _ h=>h) (Or.inr ⟨by rfl,rfl⟩) (And.intro (B10.cell 0 rfl) (And.intro (B10.cell 1 rfl) (B10.cell 2 rfl))) ?_;try simp only [Act.put,zs1,zs2,zs3,zs4,zs5,zs6]
   refine wpAnyZ_takeC [] (i:=28) rfl (by kernel_rfl) (by kernel_rfl) (by kernel_rfl) (by kernel_rfl) (fun _ _ _ h=>h) (Or.inr ⟨by rfl,rfl⟩) (And.intro (B10.cell 0 rfl) (And.intro (B10.cell 1 rfl) (B10.cell 2 rfl))) ?_;try simp only [Act.put,zs1,zs2,zs3,zs4,zs5,zs6]
   refine wpAnyZ_takeC [] (i:=29) rfl (by kernel_rfl) (by kernel_rfl) (by kernel_rfl) (by kernel_rfl) (fun _ _ _ h=>h) (Or.inr ⟨by rfl,rfl⟩) (And.intro (B10.cell 0 rfl) (And.intro (B10.cell 1 rfl) (B10.cell 2 rfl))) ?_;try simp only [Act.put,zs1,zs2,zs3,zs4,zs5,zs6]
   refine wpAnyZ_takeC [] (i:=30) rfl (by kernel_rfl) (by kernel_rfl) (by kernel_rfl) (by kernel_rfl) (fun _ _ _ h=>h) (Or.inr ⟨by rfl,rfl⟩) (And.intro (B10.cell 0 rfl) (And.intro (B10.cell 1 rfl) (B10.cell 2 rfl))) ?_;try simp only [Act.put,zs1,zs2,zs3,zs4,zs5,zs6]
   refine wpAnyZ_takeC [] (i:=31) rfl (by kernel_rfl) (by kernel_rfl) (by kernel_rfl) (by kernel_rfl) (fun _ _ _ h=>h) (Or.inr ⟨by rfl,rfl⟩) (And.intro (B10.cell 0 rfl) (And.intro (B10.cell 1 rfl) (B10.cell 2 rfl))) ?_;try simp only [Act.put,zs1,zs2,zs3,zs4,zs5,zs6]
   refine wpAnyZ_takeC [] (i:=32) rfl (by kernel_rfl) (by kernel_rfl) (by kernel_rfl) (by kernel_rfl) (fun _ _ _ h=>h) (Or.inr ⟨by rfl,rfl⟩) (And.intro (B10.cell 0 rfl) (And.intro (B10.cell 1 rfl) (B10.cell 2 rfl))) ?_;try simp only [Act.put,zs1,zs2,zs3,zs4,zs5,zs6]
   refine tkZ [] 33 rfl (And.intro (B10.cell 0 rfl) (And.intro (B10.cell 1 rfl) (B10.cell 2 rfl))) ?_;try simp only [Act.put,zs1,zs2,zs3,zs4,zs5,zs6]
   refine tkZ [] 34 rfl (And.intro (B10.cell 0 rfl) (And.intro (B10.cell 1 rfl) (B10.cell 2 rfl))) ?_;try simp only [Act.put,zs1,zs2,zs3,zs4,zs5,zs6]
   refine wpAnyZ_done (by kernel_rfl) ?_ _;go_wp2_with fail;go_meet
   case rel=>exact ⟨rfl,r0,hm⟩
 case rest =>
 clear B10 o1 o2 r0 hm HL HLX HCI hLl hl1 hc1;obtain ⟨rfl,r0,hm⟩:=hcut;go_wp2_with fail;with_reducible refine (DrawGraphOfAction_any A0 d0 c0 _ _ _o0 hl0 r0).mono ?_
 rintro e wa131 ⟨rk,Al,cl,l,rfl,hrk,hlr,ol,m⟩;replace r0:=r0.mid m oZl;replace hm:=hm.trans m;clear m;have hls:l.length+sumL l≤1048576:=by have:=sumL_le (m:=8) l (fun x hx=>(hlr.2 x hx).1);have:=hlr.1;omega
 obtain ⟨rr,rs,res,b,hga⟩:=GActIs_ex rk l;have hl2:res.length≤1048576:=by have:=hga.lens;omega
 have HGA:=Lib.hid hga;clear hga hlr;have hrl:=ol.rss;go_wp2_with fail;with_reducible refine (impl_GraphOfAction rk Al l cl _ _ _ hrl hls (wf_small (by omega) (by omega)) rr rs res b HGA.out).mono ?_
 rintro e wa132 ⟨A2,c2,rfl,o2,m⟩;replace r0:=r0.mid m oZl;replace ol:=ol.mid m oZl;replace hm:=hm.trans m;clear m;have al:=Mid.alloc wa132 (.cells #[.int .i64 rr,.int .i64 rs,.slice A2 res.length c2] 26);have B14:=Box.new wa132 #[.int .i64 rr,.int .i64 rs,.slice A2 res.length c2] 26;obtain ⟨nB14,hnB14⟩:∃ g,wa132.heap.size=g:=⟨_,rfl⟩
 replace r0:=r0.mid al oZl;replace ol:=ol.mid al oZl;replace o2:=o2.mid al oZl;replace hm:=hm.trans al;rw [hnB14] at B14;obtain ⟨wB14,hwB14⟩:∃ x,wa132.alloc (.cells #[.int .i64 rr,.int .i64 rs,.slice A2 res.length c2] 26)=x:=⟨_,rfl⟩
 rw [hwB14] at r0 ol o2 B14 hm;clear al;clear hrl;have hrl:=ol.rss;go_wp2_with fail;clear hnB14 hwB14;with_reducible refine (spec_GraphOfAction rk Al l cl _ _ _ hrl hls (wf_small (by omega) (by omega)) rr rs res b HGA.out).mono ?_
 rintro e wa133 ⟨A3,c3,rfl,o3,m⟩;replace r0:=r0.mid m oZl;replace ol:=ol.mid m oZl;replace o2:=o2.mid m oZl;replace B14:=B14.mid m oZr;replace hm:=hm.trans m;clear m;have al:=Mid.alloc wa133 (.cells #[.int .i64 rr,.int .i64 rs,.slice A3 res.length c3] 26);have B16:=Box.new wa133 #[.int .i64 rr,.int .i64 rs,.slice A3 res.length c3] 26;obtain ⟨nB16,hnB16⟩:∃ g,wa133.heap.size=g:=⟨_,rfl⟩
 replace r0:=r0.mid al oZl;replace ol:=ol.mid al oZl;replace o2:=o2.mid al oZl;replace o3:=o3.mid al oZl;replace B14:=B14.mid al oZr;replace hm:=hm.trans al;rw [hnB16] at B16;obtain ⟨wB16,hwB16⟩:∃ x,wa133.alloc (.cells #[.int .i64 rr,.int .i64 rs,.slice A3 res.length c3] 26)=x:=⟨_,rfl⟩
 rw [hwB16] at r0 ol o2 o3 B14 B16 hm;clear al;clear hrl;have hc3:=o3.cnt.1;cases b with
 | true =>
  have HFN:=Lib.hid (gact_fin HGA.out);have B14l:=B14.1;have B140:=B14.cell 0 rfl;have B141:=B14.cell 1 rfl;have B142:=B14.cell 2 rfl;have B16l:=B16.1;have B160:=B16.cell 0 rfl;have B161:=B16.cell 1 rfl;have B162:=B16.cell 2 rfl;go_wp2_with fail;clear B14l B140 B141 B142 B16l B160 B161 B162 hnB16 hwB16;with_reducible refine (spec_EqualGraphs rr rs A2 res c2 rr rs A3 res c3 _ _ _ _ _ (OG.rg o2) (OG.rg o3) hl2 hl2 true (by simp)).mono ?_
  rintro e wa134 ⟨rfl,m⟩;replace r0:=r0.mid m oZl;replace ol:=ol.mid m oZl;replace o2:=o2.mid m oZl;replace o3:=o3.mid m oZl;replace B14:=B14.mid m oZr;replace B16:=B16.mid m oZr;replace hm:=hm.trans m;clear m;have B16l:=B16.1;have B160:=B16.cell 0 rfl;have B161:=B16.cell 1 rfl;have B162:=B16.cell 2 rfl;go_wp2_with fail;clear B16l B160 B161 B162;with_reducible refine (impl_IsFiniteIndex rr rs A3 res c3 _ _ _ (OG.rg o3) hl2 hc3 true (iff_of_true rfl HFN.out)).mono ?_
  rintro e wa135 ⟨rfl,m⟩;replace r0:=r0.mid m oZl;replace ol:=ol.mid m oZl;replace o2:=o2.mid m oZl;replace o3:=o3.mid m oZl;replace B14:=B14.mid m oZr;replace B16:=B16.mid m oZr;replace hm:=hm.trans m;clear m;have hb9:=hm.bel;rw [← hL0] at hb9;go_wp2_with fail;go_ret;exact ⟨rfl,hb9⟩
 | false =>
  have B14l:=B14.1;have B140:=B14.cell 0 rfl;have B141:=B14.cell 1 rfl;have B142:=B14.cell 2 rfl;have B16l:=B16.1;have B160:=B16.cell 0 rfl;have B161:=B16.cell 1 rfl;have B162:=B16.cell 2 rfl;go_wp2_with fail;clear B14l B140 B141 B142 B16l B160 B161 B162 hnB16 hwB16;with_reducible refine (spec_EqualGraphs rr rs A2 res c2 rr rs A3 res c3 _ _ _ _ _ (OG.rg o2) (OG.rg o3) hl2 hl2 true (by simp)).mono ?_
  rintro e wa134 ⟨rfl,m⟩;replace r0:=r0.mid m oZl;replace ol:=ol.mid m oZl;replace o2:=o2.mid m oZl;replace o3:=o3.mid m oZl;replace B14:=B14.mid m oZr;replace B16:=B16.mid m oZr;replace hm:=hm.trans m;clear m;have hb9:=hm.bel;rw [← hL0] at hb9;go_wp2_with fail;go_ret;exact ⟨rfl,hb9⟩
end Go.Proofs.YthampgpcajmopaaGreat