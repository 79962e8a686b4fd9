/- Contracts and lemmas of this seat, many texts in one: see the words ahead of each. No condition beyond those typed in each lemma. -/
import Derived.Test.YthampgpcajmopaaGreatAc6
import Derived.Test.YthampgpcajmopaaGreatAc10
import Derived.Test.YthampgpcajmopaaGreatAc7
import Derived.Test.YthampgpcajmopaaGreatAc1
import Derived.Test.YthampgpcajmopaaGreatAc3
import Derived.Test.YthampgpcajmopaaGreatAc2
import Derived.IntWalk
import Derived.Test.YthampgpcajmopaaGreatAc5
import Derived.Test.YthampgpcajmopaaGreatAc4
import Derived.Test.YthampgpcajmopaaGreatAc9
import Derived.Laws.Bits128

namespace Go.Proofs.YthampgpcajmopaaGreat
set_option linter.unusedVariables false
set_option linter.unusedSimpArgs false
set_option maxHeartbeats 40000000
set_option maxRecDepth 100000
section
open Go.RowKit
theorem Eqv.ctxL {a b c:List Int} (ha:LtW a) (hb:LtW b) (hc:LtW c) (h:Eqv b c):Eqv (a++b) (a++c):=Eqv.app ha ha hb hc rfl h
theorem Eqv.ctxR {a b c:List Int} (ha:LtW a) (hb:LtW b) (hc:LtW c) (h:Eqv b c):Eqv (b++a) (c++a):=Eqv.app hb hc ha ha h rfl
def cjw (u z:List Int):List Int:=u++(z++invW u)
theorem cjw_cjw (u v z:List Int):cjw u (cjw v z)=cjw (u++v) z:=by simp [cjw,invW_app]
theorem cjw_nil (z:List Int):cjw [] z=z:=by simp [cjw,invW_nil]
theorem cjw_eqv {u v z:List Int} (hu:LtW u) (hv:LtW v) (hz:LtW z) (h:Eqv u v):Eqv (cjw u z) (cjw v z) :=
 Eqv.app hu hv (hz.app hu.inv) (hz.app hv.inv) h (Eqv.ctxL hz hu.inv hv.inv (Eqv.inv hu hv h))
theorem cjw_inv' {u z:List Int} (hu:LtW u) (hz:LtW z):Eqv (cjw (invW u) (cjw u z)) z:=by
 rw [cjw_cjw];have h1:=cjw_eqv (hu.inv.app hu) LtW.nil hz (Eqv.inv_left hu)
 rwa [cjw_nil] at h1
theorem move_cor {r s:Int} {es:List Ed} {v:Int} (h:IsFol r s es) (hv:0≤v∧v < s):IsCor r (moveA r s es v).1 (moveA r s es v).2:=core_cor (mv_fol h hv).gr
theorem no_edges {r s:Int} (h:IsCor r s []):s=1:=by
 have hs:=h.gr.size;by_cases h1:1 < s
 ·obtain ⟨w,hw⟩:=h.rch 1 (by omega) (by omega)
  cases w with
  | nil=>cases hw
  | cons y t =>
   obtain ⟨q,h2, -⟩:=hw;rcases h2 with ⟨-,h⟩ | ⟨-,h⟩ <;> cases h
 ·omega
theorem tot_read {r s:Int} {es:List Ed} (hf:IsFol r s es) (ht:Tot r s es):∀ {w:List Int} {u:Int},(0≤u∧u < s)→(∀ x∈w,x≠0∧-r≤x∧x≤r)→∃ v,Pa es u w v
 | [],u,_,_=>⟨u,rfl⟩
 | x :: w,u,hu,hw=>by
  obtain ⟨h0,h1,h2⟩:=hw x List.mem_cons_self;obtain ⟨t,ht1⟩:=ht u hu.1 hu.2 x h0 h1 h2;obtain ⟨v,hv⟩:=tot_read hf ht (ht1.rng hf.gr.all).2.1 fun y hy=>hw y (List.mem_cons_of_mem _ hy);exact ⟨v,t,ht1,hv⟩
theorem fin_tot {r s:Int} {es:List Ed} (h:IsFin r s es):Tot r s es:=fun v h0 h1 x hx h2 h3=>by
 have hr:=h.cor.gr.rank;have:=h.full v.toNat (by omega) x (mem_lets.2 (by omega));rw [Int.toNat_of_nonneg h0] at this;exact ⟨_,sp_nextV this⟩
end
section
open Go.RowKit
def InCore (r s:Int) (es:List Ed) (wd:List Int):Prop:=IsFin r s es∧wordP r s es wd=upto s.toNat
def InNormalCoreIs (r0 s0:Int) (d0:List Ed) (d1:List Int) (res0:Bool):Prop:=res0=true↔InCore r0 s0 d0 d1
theorem impl_InNormalCore (r s:Int) (A:Option Addr) (es:List Ed) (c:Nat) (Aw:Option Addr) (wd:List Int) (cw:Nat) (w:World) (lo hi lo' hi':Nat) (hr:RG w lo hi A es) (hw:RV w lo' hi' Aw (ints wd)) (hl:es.length≤1048576) (hcl:es.length≤c) (hwl:wd.length≤1048576) (hok:OkI wd) (b:Bool) (hb:b=true↔InCore r s es wd) :
  Calls Tryz.prog 70 #[graV r s A es.length c,.slice Aw wd.length cw] w fun e w'=>e=.returned (.bool b)∧Mid 0 0 w w':=by
 have HB:=Lib.hid hb;have HOK:=Lib.hid hok;clear hb hok;have hm0:Mid 0 0 w (w.alloc (.cells #[.int .i64 r,.int .i64 s,.slice A es.length c] 26)):=Mid.alloc _ _;have b0:=Box.new w #[.int .i64 r,.int .i64 s,.slice A es.length c] 26;by_cases h:IsFin r s es
 ·obtain ⟨r,n,rfl,rfl⟩:=h.cor.gr.nat
  have hn40:n≤40:=by have:=h.cor.gr.size;omega
  have hFIN:=fun W hh=>impl_IsFiniteIndex r n A es c W lo hi hh hl hcl true (iff_of_true rfl h);have hWP:=fun W hh hh2=>impl_WordPermutation_fin r n A es c Aw wd cw W lo hi lo' hi' hh hh2 hcl h hwl HOK.out;obtain ⟨wp,hwp⟩:∃ wp,wordP r n es wd=wp:=⟨_,rfl⟩
  simp only [hwp] at hWP;have hmin:min ((n:Int).toNat) 40=n:=by omega
  have hID:=fun W=>impl_IdentityPermutation (n:Int) W;simp only [hmin] at hID;have HB2:Hid (b=true↔wp=upto n):=Lib.hid (by rw [HB.out,InCore,hwp,Int.toNat_natCast];exact ⟨fun hh=>hh.2,fun hh=>⟨h,hh⟩⟩);have hwpl:wp.length≤1048576:=by
   have:=WordPermutationIs_len (r0:=r) (s0:=n) (d0:=es) (d1:=wd) (res0:=wp) hwp.symm hl HOK.out hwl;exact this
  have HFIN:=Lib.hid hFIN;have HWP:=Lib.hid hWP;have HID:=Lib.hid hID;clear hFIN hWP hID hwp HB h hmin;go_enter Tryz.func70,Tryz.ntmps70
  go_wp2_with fail;generalize w.alloc (.cells #[.int .i64 r,.int .i64 n,.slice A es.length c] 26)=w3 at b0 hm0 ⊢;have hmd:=Mid.drew1 w3;replace b0:=b0.mid hmd oZr;replace hm0:=hm0.trans hmd;have p0:=b0.cell 0 rfl;have p1:=b0.cell 1 rfl;have p2:=b0.cell 2 rfl;clear hmd;refine wp_region_T (S:=(fun w'=>w'.cell? ⟨w.heap.size,0,none⟩=some (.int .i64 r)∧w'.cell? ⟨w.heap.size,1,none⟩=some (.int .i64 n)∧w'.cell? ⟨w.heap.size,2,none⟩=some (.slice A es.length c))) 11 (by kernel_rfl) ⟨p0,p1,p2⟩ ?_;generalize World.drew w3=wz at b0 hm0 p0 p1 p2 ⊢;have hS:wz.cell? ⟨w.heap.size,0,none⟩=some (.int .i64 r)∧wz.cell? ⟨w.heap.size,1,none⟩=some (.int .i64 n)∧wz.cell? ⟨w.heap.size,2,none⟩=some (.slice A es.length c):=⟨p0,p1,p2⟩
  refine tkT 0 rfl hS ?_;try simp only [Act.put,zs1,zs2,zs3,zs4,zs5,zs6]
  refine rdT 1 rfl (fun K hK=>?_)
  (go_simp;refine (HFIN.out _ (hr.mid hm0 oZl)).mono ?_;rintro en w4 ⟨rfl,hm4⟩;have b1:=b0.mid hm4 oZr;go_wp2_with fail)
  refine hK.out _ _ (Or.inr ⟨b1.cell 0 rfl,b1.cell 1 rfl,b1.cell 2 rfl⟩) (fun _=>?_);clear hK K;try simp only [Act.put,zs1,zs2,zs3,zs4,zs5,zs6]
  replace hm0:=hm0.trans hm4;have hS4:w4.cell? ⟨w.heap.size,0,none⟩=some (.int .i64 r)∧w4.cell? ⟨w.heap.size,1,none⟩=some (.int .i64 n)∧w4.cell? ⟨w.heap.size,2,none⟩=some (.slice A es.length c):=⟨b1.cell 0 rfl,b1.cell 1 rfl,b1.cell 2 rfl⟩
  clear b0 hS p0 p1 p2 hm4 HFIN;refine tkT 2 rfl hS4 ?_;try simp only [Act.put,zs1,zs2,zs3,zs4,zs5,zs6]
  refine tkT 3 rfl hS4 ?_;try simp only [Act.put,zs1,zs2,zs3,zs4,zs5,zs6]
  refine tkT 4 rfl hS4 ?_;try simp only [Act.put,zs1,zs2,zs3,zs4,zs5,zs6]
  refine tkT 6 rfl hS4 ?_;try simp only [Act.put,zs1,zs2,zs3,zs4,zs5,zs6]
  refine tkT 7 rfl hS4 ?_;try simp only [Act.put,zs1,zs2,zs3,zs4,zs5,zs6]
  refine rdT 5 rfl (fun K hK=>?_)
  (go_simp;refine (HWP.out _ (hr.mid hm0 oZl) (hw.mid hm0 oZl)).mono ?_;rintro en w5 ⟨A5,c5,rfl,hov5,hm5⟩;have b2:=b1.mid hm5 oZr;go_wp2_with fail)
  refine hK.out _ _ (Or.inr ⟨b2.cell 0 rfl,b2.cell 1 rfl,b2.cell 2 rfl⟩) (fun _=>?_);clear hK K;try simp only [Act.put,zs1,zs2,zs3,zs4,zs5,zs6]
  replace hm0:=hm0.trans hm5;clear b1 hS4 hm5 HWP;refine rdT 8 rfl (fun K hK=>?_)
  (go_simp;refine (HID.out w5).mono ?_;rintro en w6 ⟨A6,c6,rfl,hid6,hbe6⟩;have hm6:Mid 0 0 w5 w6:=Mid.of_below hbe6;have b3:=b2.mid hm6 oZr;go_wp2_with fail)
  refine hK.out _ _ (Or.inr ⟨b3.cell 0 rfl,b3.cell 1 rfl,b3.cell 2 rfl⟩) (fun _=>?_);clear hK K;try simp only [Act.put,zs1,zs2,zs3,zs4,zs5,zs6]
  replace hm0:=hm0.trans hm6;have hE:=impl_EqualWords A5 A6 wp (upto n) c5 c6 w6 _ _ (hov5.rv.mid hm6 oZl).rs (owns_rv hid6).rs hwpl b HB2.out;rw [upto_len] at hE;have HE:=Lib.hid hE;clear b2 HID HB2 hE hm6 hbe6;refine rdT 9 rfl (fun K hK=>?_)
  (go_simp;(try rw [upto_len]);with_reducible refine HE.out.mono ?_;rintro en w7 ⟨rfl,nd,rfl⟩;have b4:=b3.drewN nd;go_wp2_with fail)
  refine hK.out _ _ (Or.inr ⟨b4.cell 0 rfl,b4.cell 1 rfl,b4.cell 2 rfl⟩) (fun _=>?_);clear hK K;try simp only [Act.put,zs1,zs2,zs3,zs4,zs5,zs6]
  have hS7:(w6.drewN nd).cell? ⟨w.heap.size,0,none⟩=some (.int .i64 r)∧(w6.drewN nd).cell? ⟨w.heap.size,1,none⟩=some (.int .i64 n)∧(w6.drewN nd).cell? ⟨w.heap.size,2,none⟩=some (.slice A es.length c):=⟨b4.cell 0 rfl,b4.cell 1 rfl,b4.cell 2 rfl⟩
  have hmm:=hm0.drewN nd;clear HE b3;refine tkT 10 rfl hS7 ?_;try simp only [Act.put,zs1,zs2,zs3,zs4,zs5,zs6]
  refine rdT 11 rfl (fun K hK=>?_)
  (go_simp)
  refine hK.out _ _ (Or.inl rfl) (fun _=>?_);clear hK K;try simp only [Act.put,zs1,zs2,zs3,zs4,zs5,zs6]
  refine wpAnyT_done (by kernel_rfl) ?_ _;go_wp2_with fail;go_ret;exact ⟨rfl,hmm⟩
 ·obtain rfl:b=false:=bool_no HB.out fun h'=>h h'.1
  have hFIN:=fun W hh=>impl_IsFiniteIndex r s A es c W lo hi hh hl hcl false (iff_of_false Bool.false_ne_true h);have HFIN:=Lib.hid hFIN;clear hFIN h HB;go_enter Tryz.func70,Tryz.ntmps70
  go_wp2_with fail;generalize w.alloc (.cells #[.int .i64 r,.int .i64 s,.slice A es.length c] 26)=w3 at b0 hm0 ⊢;have u0:=wg_cell b0.1 (b0.cell 0 rfl);have u1:=wg_cell b0.1 (b0.cell 1 rfl);have u2:=wg_cell b0.1 (b0.cell 2 rfl);have hA1:=fun m os=>HFIN.out (wg w3 m os) (hr.mid (hm0.trans (Mid.ofWg w3 m os)) oZl);refine wp_region_quiet_wg (by kernel_rfl) (by kernel_rfl) ?_;repeat
   (with_reducible refine wpQuiet_step (fun K hK=>?_))
   go_simp
   first
    | ((with_reducible refine hK _ ?_);clear hK K)
    | (rw [if_neg (by decide)];(with_reducible refine hK _ ?_);clear hK K)
    | (apply Exists.intro;refine ⟨fun _=>?_,hK _ ?_⟩;((go_at_call 47;exact Calls.wg_of (hA1 _ _)));clear hK K)
  with_reducible refine wpQuiet_nil ?_
  intro _ hw';obtain ⟨⟨nq,osq⟩,hw''⟩:=hw';subst hw'';go_wp2_with fail;go_ret;exact ⟨rfl,hm0.trans (Mid.ofWg w3 nq osq)⟩
theorem spec_InNormalCore (r s:Int) (A:Option Addr) (es:List Ed) (c:Nat) (Aw:Option Addr) (wd:List Int) (cw:Nat) (w:World) (lo hi lo' hi':Nat) (hr:RG w lo hi A es) (hw:RV w lo' hi' Aw (ints wd)) (hl:es.length≤1048576) (hwl:wd.length≤1048576) (hok:OkI wd) (b:Bool) (hb:b=true↔InCore r s es wd) :
  Calls Tryz.prog 71 #[graV r s A es.length c,.slice Aw wd.length cw] w fun e w'=>e=.returned (.bool b)∧Mid 0 0 w w':=by
 have HB:=Lib.hid hb;have HOK:=Lib.hid hok;clear hb hok;have hm0:Mid 0 0 w (w.alloc (.cells #[.int .i64 r,.int .i64 s,.slice A es.length c] 26)):=Mid.alloc _ _;have b0:=Box.new w #[.int .i64 r,.int .i64 s,.slice A es.length c] 26;by_cases h:IsFin r s es
 ·obtain ⟨r,n,rfl,rfl⟩:=h.cor.gr.nat
  have hn40:n≤40:=by have:=h.cor.gr.size;omega
  have hFIN:=fun W hh=>spec_IsFiniteIndex r n A es c W lo hi hh hl true (iff_of_true rfl h);have hWP:=fun W hh hh2=>spec_WordPermutation_fin r n A es c Aw wd cw W lo hi lo' hi' hh hh2 h hwl HOK.out;obtain ⟨wp,hwp⟩:∃ wp,wordP r n es wd=wp:=⟨_,rfl⟩
  simp only [hwp] at hWP;have hmin:min ((n:Int).toNat) 40=n:=by omega
  have hID:=fun W=>spec_IdentityPermutation (n:Int) W;simp only [hmin] at hID;have HB2:Hid (b=true↔wp=upto n):=Lib.hid (by rw [HB.out,InCore,hwp,Int.toNat_natCast];exact ⟨fun hh=>hh.2,fun hh=>⟨h,hh⟩⟩);have hwpl:wp.length≤1048576:=by
   have:=WordPermutationIs_len (r0:=r) (s0:=n) (d0:=es) (d1:=wd) (res0:=wp) hwp.symm hl HOK.out hwl;exact this
  have HFIN:=Lib.hid hFIN;have HWP:=Lib.hid hWP;have HID:=Lib.hid hID;clear hFIN hWP hID hwp HB h hmin;go_enter Tryz.func71,Tryz.ntmps71
  go_wp2_with fail;generalize w.alloc (.cells #[.int .i64 r,.int .i64 n,.slice A es.length c] 26)=w3 at b0 hm0 ⊢;have hmd:=Mid.drew1 w3;replace b0:=b0.mid hmd oZr;replace hm0:=hm0.trans hmd;have p0:=b0.cell 0 rfl;have p1:=b0.cell 1 rfl;have p2:=b0.cell 2 rfl;clear hmd;refine wp_region_T (S:=(fun w'=>w'.cell? ⟨w.heap.size,0,none⟩=some (.int .i64 r)∧w'.cell? ⟨w.heap.size,1,none⟩=some (.int .i64 n)∧w'.cell? ⟨w.heap.size,2,none⟩=some (.slice A es.length c))) 11 (by kernel_rfl) ⟨p0,p1,p2⟩ ?_;generalize World.drew w3=wz at b0 hm0 p0 p1 p2 ⊢;have hS:wz.cell? ⟨w.heap.size,0,none⟩=some (.int .i64 r)∧wz.cell? ⟨w.heap.size,1,none⟩=some (.int .i64 n)∧wz.cell? ⟨w.heap.size,2,none⟩=some (.slice A es.length c):=⟨p0,p1,p2⟩
  refine tkT 0 rfl hS ?_;try simp only [Act.put,zs1,zs2,zs3,zs4,zs5,zs6]
  refine rdT 1 rfl (fun K hK=>?_)
  (go_simp;refine (HFIN.out _ (hr.mid hm0 oZl)).mono ?_;rintro en w4 ⟨rfl,hm4⟩;have b1:=b0.mid hm4 oZr;go_wp2_with fail)
  refine hK.out _ _ (Or.inr ⟨b1.cell 0 rfl,b1.cell 1 rfl,b1.cell 2 rfl⟩) (fun _=>?_);clear hK K;try simp only [Act.put,zs1,zs2,zs3,zs4,zs5,zs6]
  replace hm0:=hm0.trans hm4;have hS4:w4.cell? ⟨w.heap.size,0,none⟩=some (.int .i64 r)∧w4.cell? ⟨w.heap.size,1,none⟩=some (.int .i64 n)∧w4.cell? ⟨w.heap.size,2,none⟩=some (.slice A es.length c):=⟨b1.cell 0 rfl,b1.cell 1 rfl,b1.cell 2 rfl⟩
  clear b0 hS p0 p1 p2 hm4 HFIN;refine tkT 2 rfl hS4 ?_;try simp only [Act.put,zs1,zs2,zs3,zs4,zs5,zs6]
  refine tkT 3 rfl hS4 ?_;try simp only [Act.put,zs1,zs2,zs3,zs4,zs5,zs6]
  refine tkT 4 rfl hS4 ?_;try simp only [Act.put,zs1,zs2,zs3,zs4,zs5,zs6]
  refine tkT 6 rfl hS4 ?_;try simp only [Act.put,zs1,zs2,zs3,zs4,zs5,zs6]
  refine tkT 7 rfl hS4 ?_;try simp only [Act.put,zs1,zs2,zs3,zs4,zs5,zs6]
  refine rdT 5 rfl (fun K hK=>?_)
  (go_simp;refine (HWP.out _ (hr.mid hm0 oZl) (hw.mid hm0 oZl)).mono ?_;rintro en w5 ⟨A5,c5,rfl,hov5,hm5⟩;have b2:=b1.mid hm5 oZr;go_wp2_with fail)
  refine hK.out _ _ (Or.inr ⟨b2.cell 0 rfl,b2.cell 1 rfl,b2.cell 2 rfl⟩) (fun _=>?_);clear hK K;try simp only [Act.put,zs1,zs2,zs3,zs4,zs5,zs6]
  replace hm0:=hm0.trans hm5;clear b1 hS4 hm5 HWP;refine rdT 8 rfl (fun K hK=>?_)
  (go_simp;refine (HID.out w5).mono ?_;rintro en w6 ⟨A6,c6,rfl,hid6,hbe6⟩;have hm6:Mid 0 0 w5 w6:=Mid.of_below hbe6;have b3:=b2.mid hm6 oZr;go_wp2_with fail)
  refine hK.out _ _ (Or.inr ⟨b3.cell 0 rfl,b3.cell 1 rfl,b3.cell 2 rfl⟩) (fun _=>?_);clear hK K;try simp only [Act.put,zs1,zs2,zs3,zs4,zs5,zs6]
  replace hm0:=hm0.trans hm6;have hE:=spec_EqualWords A5 A6 wp (upto n) c5 c6 w6 _ _ (hov5.rv.mid hm6 oZl).rs (owns_rv hid6).rs hwpl b HB2.out;rw [upto_len] at hE;have HE:=Lib.hid hE;clear b2 HID HB2 hE hm6 hbe6;refine rdT 9 rfl (fun K hK=>?_)
  (go_simp;(try rw [upto_len]);with_reducible refine HE.out.mono ?_;rintro en w7 ⟨rfl,nd,rfl⟩;have b4:=b3.drewN nd;go_wp2_with fail)
  refine hK.out _ _ (Or.inr ⟨b4.cell 0 rfl,b4.cell 1 rfl,b4.cell 2 rfl⟩) (fun _=>?_);clear hK K;try simp only [Act.put,zs1,zs2,zs3,zs4,zs5,zs6]
  have hS7:(w6.drewN nd).cell? ⟨w.heap.size,0,none⟩=some (.int .i64 r)∧(w6.drewN nd).cell? ⟨w.heap.size,1,none⟩=some (.int .i64 n)∧(w6.drewN nd).cell? ⟨w.heap.size,2,none⟩=some (.slice A es.length c):=⟨b4.cell 0 rfl,b4.cell 1 rfl,b4.cell 2 rfl⟩
  have hmm:=hm0.drewN nd;clear HE b3;refine tkT 10 rfl hS7 ?_;try simp only [Act.put,zs1,zs2,zs3,zs4,zs5,zs6]
  refine rdT 11 rfl (fun K hK=>?_)
  (go_simp)
  refine hK.out _ _ (Or.inl rfl) (fun _=>?_);clear hK K;try simp only [Act.put,zs1,zs2,zs3,zs4,zs5,zs6]
  refine wpAnyT_done (by kernel_rfl) ?_ _;go_wp2_with fail;go_ret;exact ⟨rfl,hmm⟩
 ·obtain rfl:b=false:=bool_no HB.out fun h'=>h h'.1
  have hFIN:=fun W hh=>spec_IsFiniteIndex r s A es c W lo hi hh hl false (iff_of_false Bool.false_ne_true h);have HFIN:=Lib.hid hFIN;clear hFIN h HB;go_enter Tryz.func71,Tryz.ntmps71
  go_wp2_with fail;generalize w.alloc (.cells #[.int .i64 r,.int .i64 s,.slice A es.length c] 26)=w3 at b0 hm0 ⊢;have u0:=wg_cell b0.1 (b0.cell 0 rfl);have u1:=wg_cell b0.1 (b0.cell 1 rfl);have u2:=wg_cell b0.1 (b0.cell 2 rfl);have hA1:=fun m os=>HFIN.out (wg w3 m os) (hr.mid (hm0.trans (Mid.ofWg w3 m os)) oZl);refine wp_region_quiet_wg (by kernel_rfl) (by kernel_rfl) ?_;repeat
   (with_reducible refine wpQuiet_step (fun K hK=>?_))
   go_simp
   first
    | ((with_reducible refine hK _ ?_);clear hK K)
    | (rw [if_neg (by decide)];(with_reducible refine hK _ ?_);clear hK K)
    | (apply Exists.intro;refine ⟨fun _=>?_,hK _ ?_⟩;((go_at_call 120;exact Calls.wg_of (hA1 _ _)));clear hK K)
  with_reducible refine wpQuiet_nil ?_
  intro _ hw';obtain ⟨⟨nq,osq⟩,hw''⟩:=hw';subst hw'';go_wp2_with fail;go_ret;exact ⟨rfl,hm0.trans (Mid.ofWg w3 nq osq)⟩
theorem InNormalCoreIs_ex (r0 s0:Int) (d0:List Ed) (d1:List Int) (hl0:d0.length≤1048576) (o1:OkI d1) (hl1:d1.length≤1048576):∃ res0,InNormalCoreIs r0 s0 d0 d1 res0:=bool_of _
theorem sspec_InNormalCore (r0 s0:Int) (A0:Option Addr) (d0:List Ed) (c0:Nat) (A1:Option Addr) (d1:List Int) (c1:Nat) (w:World) (lo0 hi0:Nat) (h0:OG w lo0 hi0 A0 c0 d0) (hl0:d0.length≤1048576) (lo1 hi1:Nat) (h1:OI w lo1 hi1 A1 c1 d1) (o1:OkI d1) (hl1:d1.length≤1048576) (res0:Bool) (h:InNormalCoreIs r0 s0 d0 d1 res0) :
  Calls Tryz.prog 71 #[.agg #[.int .i64 r0,.int .i64 s0,.slice A0 d0.length c0],.slice A1 d1.length c1] w fun e w'=>e=.returned (.bool res0)∧Mid 0 0 w w' :=
 spec_InNormalCore r0 s0 A0 d0 c0 A1 d1 c1 w lo0 hi0 lo1 hi1 h0.rg (OI.ri h1) hl0 hl1 o1 res0 h
theorem simpl_InNormalCore (r0 s0:Int) (A0:Option Addr) (d0:List Ed) (c0:Nat) (A1:Option Addr) (d1:List Int) (c1:Nat) (w:World) (lo0 hi0:Nat) (h0:OG w lo0 hi0 A0 c0 d0) (hl0:d0.length≤1048576) (lo1 hi1:Nat) (h1:OI w lo1 hi1 A1 c1 d1) (o1:OkI d1) (hl1:d1.length≤1048576) (res0:Bool) (h:InNormalCoreIs r0 s0 d0 d1 res0) :
  Calls Tryz.prog 70 #[.agg #[.int .i64 r0,.int .i64 s0,.slice A0 d0.length c0],.slice A1 d1.length c1] w fun e w'=>e=.returned (.bool res0)∧Mid 0 0 w w' :=
 impl_InNormalCore r0 s0 A0 d0 c0 A1 d1 c1 w lo0 hi0 lo1 hi1 h0.rg (OI.ri h1) hl0 h0.cnt.1 hl1 o1 res0 h
end
section
open Go.RowKit
theorem sortNc (A:Option Addr) (xs ys:List Int) (n c:Nat) (w:World) (lo:Nat) (ho:w.ownsRow lo 3 1 (.slice A n c) n (ints xs)) (hl:n≤1048576) (hy:(xs.mergeSort fun x y=>decide (x≤y))=ys) :
  Calls Tryz.prog 219 #[.slice A n c] w fun e w'=>e=.returned (.tuple #[])∧w'.ownsRow lo 3 1 (.slice A n c) n (ints ys)∧w.grownBy w' (Value.ownBlock (.slice A n c)):=by
 have hn:xs.length=n:=by have:=ho.1;rw [ints_len] at this;omega
 subst hn hy;have h:=sortI A xs c w lo ho hl;unfold Turned at h;rw [List.length_mergeSort] at h;exact h
theorem reverseN (A:Option Addr) (xs ys:List Int) (n c:Nat) (w:World) (lo:Nat) (ho:w.ownsRow lo 3 1 (.slice A n c) n (ints xs)) (hl:n≤1048576) (hy:xs.reverse=ys) :
  Calls Tryz.prog 223 #[.slice A n c] w fun e w'=>e=.returned (.tuple #[])∧w'.ownsRow lo 3 1 (.slice A n c) n (ints ys)∧w.grownBy w' (Value.ownBlock (.slice A n c)):=by
 have hn:xs.length=n:=by have:=ho.1;rw [ints_len] at this;omega
 subst hn hy;have h:=reverseI A xs c w lo ho hl;unfold Turned at h;rw [List.length_reverse] at h;exact h
def CycIs (p res:List Int):Prop:=(IsPerm p→res=cyc p)∧(¬ IsPerm p→res=[])
theorem cyc_len {p:List Int} (h:IsPerm p):(cyc p).length≤p.length:=by
 obtain ⟨vis,out,h2⟩:=CycOut.get h.2.1 p.length (Nat.le_refl _);unfold cyc;rw [h2.st,downL_len];exact h2.len
theorem impl_CycleType (A:Option Addr) (p:List Int) (c B:Nat) (w:World) (hr:Rs w B A (ints p)) (hB:B≤w.heap.size) (hlp:p.length≤1048576) (res:List Int) (hres:CycIs p res) :
  Calls Tryz.prog 197 #[.slice A p.length c] w fun e w'=>RetI 3 res w e w':=by
 have HRES:=Lib.hid hres;clear hres;have hmx:p.length≤maxLen:=by unfold maxLen;omega
 have hb0:=(Below.refl w.heap.size w).alloc (Nat.le_refl _) (.cells #[] 3);have ho0:=owns_empty w 3 1;by_cases hp:IsPerm p
 ·have HP:=Lib.hid hp
  clear hp;go_enter Tryz.func197,Tryz.ntmps197
  go_wp2_with fail;with_reducible refine (impl_IsPermutation A p c B _ (hr.alloc hB _) (by simp;omega) hlp true (iff_of_true rfl HP.out)).mono ?_
  rintro e w1 ⟨rfl,hbp⟩;have hb1:=hb0.trans (hbp.mono hb0.size);have hs1:=hb1.size;have hoe1:=owns_belowS ho0 hbp;go_wp2_with (at_make;refine wpList_mk rfl _ _ 124 rfl 4 (.bool false) 1 undSB infoB rfl .i64 .i64 _ _ p.length rfl rfl rfl rfl (by omega) hmx ?_;intro w2 hown2 hgr2 hsz2)
  have hb2:=hb1.grown hgr2 hs1 (by intro g h;cases h);have ho2:=hoe1.kept hgr2 (.inr (by simp [Value.ownBlock]));have hs2:=hb2.size;clear hoe1 hgr2;go_loopw [3,5,6,7,18] (fun v _ _ _ i wr=>∃ (k:Nat) (vis out:List Int) (Ao:Option Addr) (co:Nat),k≤p.length∧i=.int .i64 k∧v=.slice Ao out.length co∧CycOut p k vis out∧wr.ownsRow w.heap.size 3 1 (.slice Ao out.length co) out.length (ints out)∧wr.ownsRow w1.heap.size 4 1 (.slice (some ⟨w1.heap.size,0,none⟩) p.length p.length) p.length (seenOf p.length vis)∧Below w.heap.size w wr) (fun _ _ _ _ i _=>p.length - (intOf i).toNat)
  case atStart=>exact ⟨0,[],[],_,_,Nat.zero_le _,rfl,rfl,CycOut.zero p,by simpa [ints] using ho2,by rw [seenOf_nil];exact hown2,hb2⟩
  case round =>
   clear ho2 hown2 hb2 hs2;obtain ⟨k,vis,out,Ao,co,hk,rfl,rfl,hco,hown,hseen,hb⟩:=hrel;have HCO:=Lib.hid hco;have hol:=hco.len;clear hco;have hsz:=hb.size;by_cases hlt:k < p.length
   ·have hlt3:(k:Int) < (p.length:Int):=by omega
    go_wp2_with fail;go_loopw [6,7] (fun nv xv wr2=>∃ (f:Nat) (vis':List Int) (x n:Nat),nv=.int .i64 n∧xv=.int .i64 x∧CycAt p vis k f vis' x n∧wr2.ownsRow w.heap.size 3 1 (.slice Ao out.length co) out.length (ints out)∧wr2.ownsRow w1.heap.size 4 1 (.slice (some ⟨w1.heap.size,0,none⟩) p.length p.length) p.length (seenOf p.length vis')∧Below w.heap.size w wr2) (fun nv _ _=>p.length+1 - (intOf nv).toNat)
    case atStart=>exact ⟨p.length+1,vis,k,0,rfl,rfl,CycAt.start HCO.out.hv hlt,hown,hseen,hb⟩
    case round =>
     clear hown hseen hb hsz;obtain ⟨f,vis',x,n,rfl,rfl,hat,hown,hseen,hb⟩:=hrel;have HAT:=Lib.hid hat;have hxl:=hat.hx;have hnl:n≤p.length:=by have:=hat.cnt;have:=hat.hv.le;omega
     clear hat;have hsz:=hb.size;have hx0:(0:Int)≤(x:Int):=by omega
     have hxl3:(x:Int) < (p.length:Int):=by omega
     have hfz:=hseen.frozenAt x;by_cases hm:(x:Int)∈vis'
     ·have hcs:=(hseen.cellAt x (by omega)).trans (seenOf_get hxl)
      rw [decide_eq_true hm] at hcs;have HM:=Lib.hid hm;clear hm;have HN:=Lib.hid (HCO.out.succ HAT.out HM.out);by_cases hn0:0 < n
      ·have hn3:(0:Int) < (n:Int):=by omega
       have hn4:¬ (n:Int)≤0:=by omega
       go_wp2_with (at_builtin;refine wpList_push rfl _ _ 34 rfl w.heap.size 3 (.int .i64 0) 1 8 undSI infoI rfl (by decide) _ _ _ rfl hown 1 [.int .i64 n] rfl rfl (one_of_ints [(n:Int)]) ?c2 ?c3 hsz ?n1)
       case c2=>unfold maxLen;omega
       case c3=>omega
       case n1 =>
        intro v' w3 hown3 hgr3 _;obtain ⟨A3,c3,rfl, -, -⟩:=owns_shape hown3;go_wp2_with fail;go_roundw
        case rel =>
         have h2:=HN.out;rw [if_pos hn0] at h2;refine ⟨k+1,vis',out++[(n:Int)],A3,c3,by omega,by go_num,by simp,h2,?_,?_,hb.grown hgr3 hsz (fun g hg=>(hown.lt g hg).1)⟩
         ·rw [ints_append,List.length_append];exact hown3
         ·exact hseen.kept hgr3 (owns_ne hseen hown (by decide))
        case measure=>simp [intOf];omega
      ·obtain rfl:n=0:=by omega
       go_wp2_with fail;go_roundw
       case rel =>
        have h2:=HN.out;rw [if_neg hn0] at h2;exact ⟨k+1,vis',out,Ao,co,by omega,by go_num,rfl,h2,hown,hseen,hb⟩
       case measure=>simp [intOf];omega
     ·have hcs:=(hseen.cellAt x (by omega)).trans (seenOf_get hxl)
      rw [decide_eq_false hm] at hcs;obtain ⟨f',rfl,hst⟩:=HAT.out.step HP.out.2.1 hm;have HST:=Lib.hid hst;have hnl2:n+1≤p.length:=by have:=hst.cnt;have:=hst.hv.le;omega
      clear hm hst;obtain ⟨b,off,y,rfl,hbB,hy,hc⟩:=((hr.more hB).below hb).int hxl;have hyr:=HP.out.2.1 y (List.mem_of_getElem? hy);obtain ⟨m,rfl⟩:∃ m:Nat,y=(m:Int):=⟨y.toNat,by omega⟩
      have hgd:(p.getD x 0).toNat=m:=by rw [List.getD_eq_getElem?_getD,hy];simp
      have HGD:=Lib.hid hgd;have hset:=owns_set hseen x (.bool true) (seenOf_set hxl);have hbs:=hb.setCell hs1 (.bool true) (p:=⟨w1.heap.size,x,none⟩);have hos:=hown.kept (grown_of_setCell wr w1.heap.size x (.bool true)) (owns_ne hown hseen (by decide));have hcp:(wr.setCell ⟨w1.heap.size,x,none⟩ (.bool true)).cell? ⟨b,off+x,none⟩=some (.int .i64 m):=(World.cell?_setCell_other wr _ _ _ (by intro e;injection e with e;omega)).trans hc;clear hy hgd;go_wp2_with fail;go_roundw
      case rel=>exact ⟨f',vis'++[(x:Int)],m,n+1,by go_num,rfl,by rw [← HGD.out];exact HST.out,hos,hset,hbs⟩
      case measure=>simp [intOf];omega
   ·obtain rfl:k=p.length:=by omega
    skip
    have hres2:res=cyc p:=HRES.out.1 HP.out;have hcy:cyc p=(out.mergeSort fun x y=>decide (x≤y)).reverse:=by unfold cyc;rw [HCO.out.st];rfl
    have HCY:=Lib.hid (hres2.trans hcy);clear hres2 hcy;go_wp2_with fail;with_reducible refine (sortNc Ao out _ out.length co _ _ hown (by omega) rfl).mono ?_
    rintro e w3 ⟨rfl,ho3,hg3⟩;have hb3:=hb.grown hg3 hsz (fun g hg=>(hown.lt g hg).1);go_wp2_with fail;with_reducible refine (reverseN Ao _ _ out.length co _ _ ho3 (by omega) rfl).mono ?_
    rintro e w4 ⟨rfl,ho4,hg4⟩;have hb4:=hb3.grown hg4 hb3.size (fun g hg=>(ho3.lt g hg).1);go_wp2_with fail;go_ret;rw [← HCY.out] at ho4;exact RetI.mk (by have:=ho4.1;rw [ints_len] at this;omega) ho4 hb4
 ·have HN:=Lib.hid hp
  obtain rfl:res=[]:=HRES.out.2 hp;clear hp HRES;go_enter Tryz.func197,Tryz.ntmps197
  go_wp2_with fail;with_reducible refine (impl_IsPermutation A p c B _ (hr.alloc hB _) (by simp;omega) hlp false (iff_of_false Bool.false_ne_true HN.out)).mono ?_
  rintro e w1 ⟨rfl,hbp⟩;go_wp2_with fail;go_ret;exact RetI.mk rfl (owns_belowS ho0 hbp) (hb0.trans (hbp.mono hb0.size))
end
structure ExAt (out:List Int) (a:Nat) (ys:List Int):Prop where
 perm:ys.Perm out
 down:∀ i j x y,i < a→i < j→ys[i]?=some x→ys[j]?=some y→y≤x
structure ExIn (out:List Int) (a b:Nat) (ys:List Int):Prop where
 at':ExAt out a ys
 top:∀ j x y,a < j→j < b→ys[a]?=some x→ys[j]?=some y→y≤x
theorem ExAt.zero (out:List Int):ExAt out 0 out:=⟨List.Perm.refl _,fun i j x y h=>by omega⟩
theorem ExIn.start {out ys:List Int} {a:Nat} (h:ExAt out a ys):ExIn out a (a+1) ys:=⟨h,fun j x y h1 h2=>by omega⟩
theorem ExIn.keep {out ys:List Int} {a b:Nat} {ya yb:Int} (h:ExIn out a b ys) (ha:ys[a]?=some ya) (hb:ys[b]?=some yb) (hle:yb≤ya):ExIn out a (b+1) ys :=
 ⟨h.at',fun j x y h1 h2 hx hy=>by
  by_cases hj:j=b
  ·subst hj
   rw [ha] at hx;rw [hb] at hy;injection hx with hx;injection hy with hy
   omega
  ·exact h.top j x y h1 (by omega) hx hy⟩
theorem ExIn.swap {out ys:List Int} {a b:Nat} {ya yb:Int} (h:ExIn out a b ys) (hab:a < b) (ha:ys[a]?=some ya) (hb:ys[b]?=some yb) (hlt:ya < yb):ExIn out a (b+1) ((ys.set b ya).set a yb):=by
 obtain ⟨hla,hga⟩:=List.getElem?_eq_some_iff.1 ha;obtain ⟨hlb,hgb⟩:=List.getElem?_eq_some_iff.1 hb;have hp:((ys.set b ya).set a yb).Perm ys:=by
  have:((ys.set b ys[a]).set a ys[b]).Perm ys:=List.set_set_perm hlb hla;rw [hga,hgb] at this;exact this
 have get:∀ j z,((ys.set b ya).set a yb)[j]?=some z→(j=a∧z=yb) ∨ (j=b∧z=ya∧j≠a) ∨ (j≠a∧j≠b∧ys[j]?=some z):=by
  intro j z hz;by_cases h1:j=a
  ·subst h1
   rw [List.getElem?_set_self (by simpa using hla)] at hz;injection hz with hz
   exact .inl ⟨rfl,hz.symm⟩
  ·rw [List.getElem?_set_ne (Ne.symm h1)] at hz
   by_cases h2:j=b
   ·subst h2
    rw [List.getElem?_set_self hlb] at hz;injection hz with hz
    exact .inr (.inl ⟨rfl,hz.symm,h1⟩)
   ·rw [List.getElem?_set_ne (Ne.symm h2)] at hz
    exact .inr (.inr ⟨h1,h2,hz⟩)
 refine ⟨⟨hp.trans h.at'.perm,fun i j x y hi hij hx hy=>?_⟩,fun j x y h1 h2 hx hy=>?_⟩
 ·rcases get i x hx with ⟨e,_⟩ | ⟨e,_,_⟩ | ⟨_,_,hx'⟩
  ·omega
  ·omega
  ·rcases get j y hy with ⟨e,rfl⟩ | ⟨e,rfl,_⟩ | ⟨_,_,hy'⟩
   ·exact h.at'.down i b x y hi (by omega) hx' hb
   ·exact h.at'.down i a x y hi hi hx' ha
   ·exact h.at'.down i j x y hi hij hx' hy'
 ·rcases get a x hx with ⟨_,rfl⟩ | ⟨e,_,hne⟩ | ⟨hne,_⟩
  ·rcases get j y hy with ⟨e,_⟩ | ⟨_,rfl,_⟩ | ⟨_,hne,hy'⟩
   ·omega
   ·omega
   ·have:=h.top j ya y h1 (by omega) ha hy'
    omega
  ·exact absurd rfl hne
  ·exact absurd rfl hne
theorem ExIn.done {out ys:List Int} {a:Nat} (h:ExIn out a ys.length ys):ExAt out (a+1) ys :=
 ⟨h.at'.perm,fun i j x y hi hij hx hy=>by
  have hj:=(List.getElem?_eq_some_iff.1 hy).1;by_cases he:i=a
  ·subst he
   exact h.top j x y hij hj hx hy
  ·exact h.at'.down i j x y (by omega) hij hx hy⟩
theorem ExAt.done {out ys:List Int} (h:ExAt out ys.length ys):ys=downL out:=by
 refine down_unique h.perm ?_;rw [List.pairwise_iff_getElem];intro i j hi hj hij;exact h.down i j _ _ hi hij (List.getElem?_eq_getElem hi) (List.getElem?_eq_getElem hj)
theorem ExAt.len {out ys:List Int} {a:Nat} (h:ExAt out a ys):ys.length=out.length:=h.perm.length_eq
section
open Go.RowKit
theorem spec_CycleType (A:Option Addr) (p:List Int) (c B:Nat) (w:World) (hr:Rs w B A (ints p)) (hB:B≤w.heap.size) (hlp:p.length≤1048576) (res:List Int) (hres:CycIs p res) :
  Calls Tryz.prog 198 #[.slice A p.length c] w fun e w'=>RetI 3 res w e w':=by
 have HRES:=Lib.hid hres;clear hres;have hmx:p.length≤maxLen:=by unfold maxLen;omega
 have hb0:=(Below.refl w.heap.size w).alloc (Nat.le_refl _) (.cells #[] 3);have ho0:=owns_empty w 3 1;have hsa:w.heap.size < (w.alloc (.cells #[] 3)).heap.size:=by simp
 by_cases hp:IsPerm p
 ·have HP:=Lib.hid hp
  clear hp;go_enter Tryz.func198,Tryz.ntmps198
  go_wp2_with (at_make;refine wpList_mk rfl _ _ 124 rfl 4 (.bool false) 1 undSB infoB rfl .i64 .i64 _ _ p.length rfl rfl rfl rfl (by omega) hmx ?_;intro w2 hown2 hgr2 hsz2)
  have hb2:=hb0.grown hgr2 hb0.size (by intro g h;cases h);have ho2:=ho0.kept hgr2 (.inr (by simp [Value.ownBlock]));have hs2:=hb2.size;obtain ⟨gs,hgs⟩:∃ gs,gs=(w.alloc (.cells #[] 3)).heap.size:=⟨_,rfl⟩
  have hgs1:w.heap.size≤gs:=by rw [hgs];simp
  simp only [← hgs] at hown2;have HG:=Lib.hid hgs;simp only [World.size_alloc] at hgs;subst hgs;clear ho0 hgr2 HG hsz2 hsa;go_loopw [3,5,6,7] (fun v i _ _ wr=>∃ (k:Nat) (vis out:List Int) (Ao:Option Addr) (co:Nat),k≤p.length∧i=.int .i64 k∧v=.slice Ao out.length co∧CycOut p k vis out∧wr.ownsRow w.heap.size 3 1 (.slice Ao out.length co) out.length (ints out)∧wr.ownsRow (w.heap.size+1) 4 1 (.slice (some ⟨w.heap.size+1,0,none⟩) p.length p.length) p.length (seenOf p.length vis)∧Below w.heap.size w wr) (fun _ i _ _ _=>p.length - (intOf i).toNat)
  case atStart=>exact ⟨0,[],[],_,_,Nat.zero_le _,rfl,rfl,CycOut.zero p,by simpa [ints] using ho2,by rw [seenOf_nil];exact hown2,hb2⟩
  case round =>
   clear ho2 hown2 hb2 hs2;obtain ⟨k,vis,out,Ao,co,hk,rfl,rfl,hco,hown,hseen,hb⟩:=hrel;have HCO:=Lib.hid hco;have hol:=hco.len;clear hco;have hsz:=hb.size;by_cases hlt:k < p.length
   ·have hlt3:(k:Int) < (p.length:Int):=by omega
    go_wp2_with fail;with_reducible refine (spec_IsPermutation A p c _ _ ((hr.more hB).below hb) hlp true (iff_of_true rfl HP.out)).mono ?_
    rintro e w' ⟨rfl,nd,rfl⟩;have hown':=owns_drewN hown nd;have hseen':=owns_drewN hseen nd;have hb':=below_drewN hb nd;go_wp2_with fail;go_loopw [6,7] (fun nv xv wr2=>∃ (f:Nat) (vis':List Int) (x n:Nat),nv=.int .i64 n∧xv=.int .i64 x∧CycAt p vis k f vis' x n∧wr2.ownsRow w.heap.size 3 1 (.slice Ao out.length co) out.length (ints out)∧wr2.ownsRow (w.heap.size+1) 4 1 (.slice (some ⟨w.heap.size+1,0,none⟩) p.length p.length) p.length (seenOf p.length vis')∧Below w.heap.size w wr2) (fun nv _ _=>p.length+1 - (intOf nv).toNat)
    case atStart=>exact ⟨p.length+1,vis,k,0,rfl,rfl,CycAt.start HCO.out.hv hlt,hown',hseen',hb'⟩
    case round =>
     clear hown hseen hb hsz hown' hseen' hb';obtain ⟨f,vis',x,n,rfl,rfl,hat,hown,hseen,hb⟩:=hrel;have HAT:=Lib.hid hat;have hxl:=hat.hx;have hnl:n≤p.length:=by have:=hat.cnt;have:=hat.hv.le;omega
     clear hat;have hsz:=hb.size;have hx0:(0:Int)≤(x:Int):=by omega
     have hxl3:(x:Int) < (p.length:Int):=by omega
     have hfz:=hseen.frozenAt x;by_cases hm:(x:Int)∈vis'
     ·have hcs:=(hseen.cellAt x (by omega)).trans (seenOf_get hxl)
      rw [decide_eq_true hm] at hcs;have HM:=Lib.hid hm;clear hm;have HN:=Lib.hid (HCO.out.succ HAT.out HM.out);by_cases hn0:0 < n
      ·have hn3:(0:Int) < (n:Int):=by omega
       have hn4:¬ (n:Int)≤0:=by omega
       go_wp2_with (at_builtin;refine wpList_push rfl _ _ 34 rfl w.heap.size 3 (.int .i64 0) 1 8 undSI infoI rfl (by decide) _ _ _ rfl hown 1 [.int .i64 n] rfl rfl (one_of_ints [(n:Int)]) ?c2 ?c3 hsz ?n1)
       case c2=>unfold maxLen;omega
       case c3=>omega
       case n1 =>
        intro v' w3 hown3 hgr3 _;obtain ⟨A3,c3,rfl, -, -⟩:=owns_shape hown3;go_wp2_with fail;go_roundw
        case rel =>
         have h2:=HN.out;rw [if_pos hn0] at h2;refine ⟨k+1,vis',out++[(n:Int)],A3,c3,by omega,by go_num,by simp,h2,?_,?_,hb.grown hgr3 hsz (fun g hg=>(hown.lt g hg).1)⟩
         ·rw [ints_append,List.length_append];exact hown3
         ·exact hseen.kept hgr3 (owns_ne hseen hown (by decide))
        case measure=>simp [intOf];omega
      ·obtain rfl:n=0:=by omega
       go_wp2_with fail;go_roundw
       case rel =>
        have h2:=HN.out;rw [if_neg hn0] at h2;exact ⟨k+1,vis',out,Ao,co,by omega,by go_num,rfl,h2,hown,hseen,hb⟩
       case measure=>simp [intOf];omega
     ·have hcs:=(hseen.cellAt x (by omega)).trans (seenOf_get hxl)
      rw [decide_eq_false hm] at hcs;obtain ⟨f',rfl,hst⟩:=HAT.out.step HP.out.2.1 hm;have HST:=Lib.hid hst;have hnl2:n+1≤p.length:=by have:=hst.cnt;have:=hst.hv.le;omega
      clear hm hst;obtain ⟨b,off,y,rfl,hbB,hy,hc⟩:=((hr.more hB).below hb).int hxl;have hyr:=HP.out.2.1 y (List.mem_of_getElem? hy);obtain ⟨m,rfl⟩:∃ m:Nat,y=(m:Int):=⟨y.toNat,by omega⟩
      have hgd:(p.getD x 0).toNat=m:=by rw [List.getD_eq_getElem?_getD,hy];simp
      have HGD:=Lib.hid hgd;have hset:=owns_set hseen x (.bool true) (seenOf_set hxl);have hbs:=hb.setCell (Nat.le_succ w.heap.size) (.bool true) (p:=⟨w.heap.size+1,x,none⟩);have hos:=hown.kept (grown_of_setCell wr (w.heap.size+1) x (.bool true)) (owns_ne hown hseen (by decide));have hcp:(wr.setCell ⟨w.heap.size+1,x,none⟩ (.bool true)).cell? ⟨b,off+x,none⟩=some (.int .i64 m):=(World.cell?_setCell_other wr _ _ _ (by intro e;injection e with e;omega)).trans hc;clear hy hgd;go_wp2_with fail;go_roundw
      case rel=>exact ⟨f',vis'++[(x:Int)],m,n+1,by go_num,rfl,by rw [← HGD.out];exact HST.out,hos,hset,hbs⟩
      case measure=>simp [intOf];omega
   ·obtain rfl:k=p.length:=by omega
    have hres2:res=cyc p:=HRES.out.1 HP.out;have hcy:cyc p=downL out:=by unfold cyc;rw [HCO.out.st]
    have HCY:=Lib.hid (hres2.trans hcy);have hout:out.length≤1048576:=by omega
    clear hres2 hcy hseen;go_wp2_with fail;go_loopw [8,9,10] (fun i _ _ wr2=>∃ (a:Nat) (ys:List Int),a≤out.length∧i=.int .i64 a∧ExAt out a ys∧wr2.ownsRow w.heap.size 3 1 (.slice Ao out.length co) out.length (ints ys)∧Below w.heap.size w wr2) (fun i _ _ _=>out.length - (intOf i).toNat)
    case atStart=>exact ⟨0,out,Nat.zero_le _,rfl,ExAt.zero out,hown,hb⟩
    case round =>
     clear hown hb hsz;obtain ⟨a,ys,ha,rfl,hex,hown,hb⟩:=hrel;have HEX:=Lib.hid hex;have hyl:=hex.len;have HYL:=Lib.hid hyl;clear hex hyl;have hsz:=hb.size;by_cases hla:a < out.length
     ·have hla3:(a:Int) < (out.length:Int):=by omega
      go_wp2_with fail;go_loopw [9,10] (fun j _ wr3=>∃ (b:Nat) (zs:List Int),a < b∧b≤out.length∧j=.int .i64 b∧ExIn out a b zs∧wr3.ownsRow w.heap.size 3 1 (.slice Ao out.length co) out.length (ints zs)∧Below w.heap.size w wr3) (fun j _ _=>out.length - (intOf j).toNat)
      case atStart=>exact ⟨a+1,ys,Nat.lt_succ_self _,hla,by go_num,ExIn.start HEX.out,hown,hb⟩
      case round =>
       clear hown hb hsz;obtain ⟨b,zs,hab,hbl,rfl,hin,hown,hb⟩:=hrel;have HIN:=Lib.hid hin;have hzl:=hin.at'.len;have HZL:=Lib.hid hzl;have hsz:=hb.size;by_cases hlb:b < out.length
       ·obtain ⟨ya,hya⟩:=get_of_lt zs (show a < zs.length by omega)
        obtain ⟨yb,hyb⟩:=get_of_lt zs (show b < zs.length by omega);obtain ⟨g,rfl,hg1,hg2⟩:=owns_addr hown (by omega);have hca:=(hown.cellAt a (by omega)).trans (by rw [ints_get,hya];rfl:(ints zs)[a]?=some (.int .i64 ya));have hcb:=(hown.cellAt b (by omega)).trans (by rw [ints_get,hyb];rfl:(ints zs)[b]?=some (.int .i64 yb));have hfa:=hown.frozenAt a;have hfb:=hown.frozenAt b;have HYA:=Lib.hid hya;have HYB:=Lib.hid hyb;have hlb3:(b:Int) < (out.length:Int):=by omega
        have ha0:(0:Int)≤(a:Int):=by omega
        have hb00:(0:Int)≤(b:Int):=by omega
        clear hin hzl hya hyb;by_cases hgt:ya < yb
        ·have hne:(wr.setCell ⟨g,b,none⟩ (.int .i64 ya)).frozen? ⟨g,a,none⟩=false:=by rw [World.frozen?_setCell];exact hfa
         have hs1:=owns_set hown b (.int .i64 ya) rfl;have hcu:=(hs1.cellAt a (by omega)).trans (by rw [List.getElem?_set_ne (by omega),ints_get,HYA.out];rfl:((ints zs).set b (.int .i64 ya))[a]?=some (.int .i64 ya));have hs2:=owns_set hs1 a (.int .i64 yb) (ys:=ints ((zs.set b ya).set a yb)) (by simp [ints,List.map_set]);have HS2:=Lib.hid hs2;clear hs1 hs2;go_wp2_with fail;go_quiet (fail)
         go_wp2_with fail;go_roundw
         case rel=>exact ⟨b+1,(zs.set b ya).set a yb,by omega,hlb,by go_num,HIN.out.swap hab HYA.out HYB.out hgt,by first | exact owns_drewN HS2.out _ | exact HS2.out,by first | exact below_drewN ((hb.setCell hg1 _).setCell hg1 _) _ | exact (below_drewN hb _).setCell hg1 _ |>.setCell hg1 _⟩
         case measure=>simp [intOf];omega
        ·go_wp2_with fail
         go_quiet (fail)
         go_wp2_with fail;go_roundw
         case rel=>exact ⟨b+1,zs,by omega,hlb,by go_num,HIN.out.keep HYA.out HYB.out (by omega),owns_drewN hown _,below_drewN hb _⟩
         case measure=>simp [intOf];omega
       ·obtain rfl:b=out.length:=by omega
        go_wp2_with fail;go_roundw
        case rel =>
         have h3:=HIN.out;rw [← HZL.out] at h3;exact ⟨a+1,zs,by omega,by go_num,h3.done,hown,hb⟩
        case measure=>simp [intOf];omega
     ·obtain rfl:a=out.length:=by omega
      go_wp2_with fail;go_ret;have h3:=HEX.out;rw [← HYL.out] at h3;have h4:=h3.done;rw [h4,← HCY.out] at hown;have hln:=hown.1;rw [ints_len] at hln;exact RetI.mk (by omega) hown hb
 ·have HN:=Lib.hid hp
  obtain rfl:res=[]:=HRES.out.2 hp;have hpl:0 < p.length:=by
   rcases Nat.eq_zero_or_pos p.length with h | h
   ·have:=List.eq_nil_of_length_eq_zero h
    subst this;exact absurd ⟨by simp,by simp,by simp⟩ hp
   ·exact h
  have hpl3:(0:Int) < (p.length:Int):=by omega
  clear hp HRES;go_enter Tryz.func198,Tryz.ntmps198
  go_wp2_with (at_make;refine wpList_mk rfl _ _ 124 rfl 4 (.bool false) 1 undSB infoB rfl .i64 .i64 _ _ p.length rfl rfl rfl rfl (by omega) hmx ?_;intro w2 hown2 hgr2 hsz2)
  have hb2:=hb0.grown hgr2 hb0.size (by intro g h;cases h);have ho2:=ho0.kept hgr2 (.inr (by simp [Value.ownBlock]));clear hown2 hgr2 hsz2 ho0 hb0;go_loopw [3,5,6,7] (fun v i _ _ wr=>v=.slice (some ⟨w.heap.size,0,none⟩) 0 0∧i=.int .i64 0∧wr.ownsRow w.heap.size 3 1 (.slice (some ⟨w.heap.size,0,none⟩) 0 0) 0 []∧Below w.heap.size w wr) (fun _ i _ _ _=>p.length - (intOf i).toNat)
  case atStart=>exact ⟨rfl,rfl,ho2,hb2⟩
  case round =>
   clear ho2 hb2;obtain ⟨rfl,rfl,ho,hb⟩:=hrel;go_wp2_with fail;with_reducible refine (spec_IsPermutation A p c _ _ ((hr.more hB).below hb) hlp false (iff_of_false Bool.false_ne_true HN.out)).mono ?_
   rintro e w' ⟨rfl,nd,rfl⟩;have ho':=owns_drewN ho nd;have hb':=below_drewN hb nd;go_wp2_with fail;go_loopw [8,9,10] (fun i _ _ wr2=>i=.int .i64 0∧wr2.ownsRow w.heap.size 3 1 (.slice (some ⟨w.heap.size,0,none⟩) 0 0) 0 []∧Below w.heap.size w wr2) (fun i _ _ _=>0)
   case atStart=>exact ⟨rfl,ho',hb'⟩
   case round =>
    obtain ⟨rfl,ho2,hb2⟩:=hrel;go_wp2_with fail;go_ret;exact RetI.mk rfl ho2 hb2
end
section
open Go.RowKit
theorem CycIs.len {p res:List Int} (h:CycIs p res) (hl:p.length≤1048576):res.length≤1048576:=by
 by_cases hp:IsPerm p
 ·rw [h.1 hp]
  have:=cyc_len hp;omega
 ·rw [h.2 hp]
  simp
end
section
open Go.RowKit
def ordStep (n:Nat) (c:Int):Nat:=n / Nat.gcd n c.toNat * c.toNat
def ordN (cy:List Int):Nat:=cy.foldl ordStep 1
structure OrdAt (cy:List Int) (k:Nat) (n:Nat):Prop where
 val:n=ordN (cy.take k)
 pos:1≤n
 le:(n:Int)≤2 ^ (cy.take k).sum.toNat
theorem sum_nonneg {cy:List Int} (h:∀ c∈cy,1≤c):0≤cy.sum:=by
 induction cy with
 | nil=>simp
 | cons c t ih =>
  have:=h c List.mem_cons_self;have:=ih (fun x hx=>h x (List.mem_cons_of_mem _ hx));simp;omega
theorem OrdAt.zero (cy:List Int):OrdAt cy 0 1:=⟨by simp [ordN],by omega,by simp⟩
theorem OrdAt.succ {cy:List Int} {k n c:Nat} (hp:∀ c∈cy,1≤c) (h:OrdAt cy k n) (hc:cy[k]?=some (c:Int)):OrdAt cy (k+1) (n / Nat.gcd n c * c):=by
 have hc1:1≤c:=by have:=hp c (List.mem_of_getElem? hc);omega
 have hg:0 < Nat.gcd n c:=Nat.gcd_pos_of_pos_left _ h.pos;have hdv:Nat.gcd n c≤n:=Nat.le_of_dvd h.pos (Nat.gcd_dvd_left _ _);have hq:1≤n / Nat.gcd n c:=(Nat.one_le_div_iff hg).2 hdv;have hs0:0≤(cy.take k).sum:=sum_nonneg (fun x hx=>hp x (List.mem_of_mem_take hx));refine ⟨?_,Nat.mul_pos hq hc1,?_⟩
 ·rw [take_succ_of cy hc]
  simp [ordN,List.foldl_append,ordStep];rw [show List.foldl ordStep 1 (cy.take k)=n from h.val.symm]
 ·rw [take_succ_of cy hc,List.sum_append]
  have e:((cy.take k).sum+([(c:Int)]:List Int).sum).toNat=(cy.take k).sum.toNat+c:=by simp;omega
  rw [e,Int.pow_add];have h1:(n / Nat.gcd n c:Nat)≤n:=Nat.div_le_self _ _;have h2:c < 2 ^ c:=Nat.lt_two_pow_self;have h3:((n / Nat.gcd n c * c:Nat):Int)≤((n * 2 ^ c:Nat):Int):=by
   have:=Nat.mul_le_mul h1 (Nat.le_of_lt h2);omega
  refine Int.le_trans h3 ?_;rw [Int.natCast_mul];have h4:((2 ^ c:Nat):Int)=2 ^ c:=by simp
  rw [h4];exact Int.mul_le_mul_of_nonneg_right h.le (by rw [← h4];omega)
theorem OrdAt.bound {cy:List Int} {k n:Nat} (hp:∀ c∈cy,1≤c) (hs:cy.sum≤40) (h:OrdAt cy k n):n≤1099511627776:=by
 have h1:(cy.take k).sum≤40:=by
  have e:=List.take_append_drop k cy;have:(cy.take k).sum+(cy.drop k).sum=cy.sum:=by rw [← List.sum_append,e]
  have:=sum_nonneg (fun x hx=>hp x (List.mem_of_mem_drop hx):∀ c∈cy.drop k,1≤c);omega
 have h2:(2:Int) ^ (cy.take k).sum.toNat≤2 ^ 40:=by
  have h3:(2:Nat) ^ (cy.take k).sum.toNat≤2 ^ 40:=Nat.pow_le_pow_right (by omega) (by omega)
  exact_mod_cast h3
 have h5:=Int.le_trans h.le h2;have e:(2:Int) ^ 40=1099511627776:=by decide
 rw [e] at h5;omega
theorem sum_perm {xs ys:List Int} (h:xs.Perm ys):xs.sum=ys.sum:=by
 induction h with
 | nil=>rfl
 | cons x _ ih=>simp [ih]
 | swap x y l=>simp;omega
 | trans _ _ h1 h2=>exact h1.trans h2
theorem cyc_facts {p:List Int} (h:IsPerm p):(∀ c∈cyc p,1≤c)∧(cyc p).sum≤40:=by
 obtain ⟨vis,out,h2⟩:=CycOut.get h.2.1 p.length (Nat.le_refl _);have hp:=downL_perm out;unfold cyc;rw [h2.st];refine ⟨fun c hc=>h2.pos c (hp.mem_iff.1 hc),?_⟩;rw [sum_perm hp,h2.sum];have:=h2.hv.le;have:=h.1;omega
def OrderOfPermutationIs (p:List Int) (res:Int):Prop:=∃ cy,CycIs p cy∧((IsPerm p→res=(ordN cy:Int))∧(¬ IsPerm p→res=0))
theorem OrderOfPermutationIs_ex (p:List Int) (_:OkI p) (_:p.length≤1048576):∃ res,OrderOfPermutationIs p res:=by
 by_cases h:IsPerm p
 ·exact ⟨_,cyc p,⟨fun _=>rfl,fun h'=>absurd h h'⟩,fun _=>rfl,fun h'=>absurd h h'⟩
 ·exact ⟨0,[],⟨fun h'=>absurd h' h,fun _=>rfl⟩,fun h'=>absurd h' h,fun _=>rfl⟩
theorem spec_l17Gcd (a b:Nat) (w:World) (ha:a≤1099511627776) (hb:b≤1099511627776) :
  Calls Tryz.prog 199 #[.int .i64 a,.int .i64 b] w fun e w'=>e=.returned (.int .i64 (Nat.gcd a b:Nat))∧w=w':=by
 go_enter Tryz.func199,Tryz.ntmps199
 go_wp2_with fail;go_loop [0,1,5] (fun x y _=>∃ a' b':Nat,x=.int .i64 a'∧y=.int .i64 b'∧Nat.gcd a' b'=Nat.gcd a b∧a'≤1099511627776∧b'≤1099511627776) (fun _ y _=>(intOf y).toNat)
 case atStart=>exact ⟨a,b,rfl,rfl,rfl,ha,hb⟩
 case round =>
  obtain ⟨a',b',rfl,rfl,hg,ha',hb'⟩:=hrel;have HG:=Lib.hid hg;clear hg;by_cases h0:0 < b'
  ·have h03:(0:Int) < (b':Int):=by omega
   have hml:=Nat.mod_lt a' h0;go_wp2_with fail;go_round
   case rel =>
    refine ⟨b',a' % b',rfl,by first | rfl | go_num,?_,hb',by omega⟩;rw [← HG.out,Nat.gcd_comm a' b',Nat.gcd_comm b' (a' % b'),← Nat.gcd_rec]
   case measure=>simp [intOf];omega
  ·obtain rfl:b'=0:=by omega
   go_wp2_with fail;go_ret;have:=HG.out;rw [Nat.gcd_zero_right] at this;subst this;exact ⟨rfl,rfl⟩
theorem simpl_OrderOfPermutation (A:Option Addr) (p:List Int) (c:Nat) (w:World) (lo hi:Nat) (h:RI w lo hi A p) (_o:OkI p) (hl:p.length≤1048576) (res:Int) (hres:OrderOfPermutationIs p res) :
  Calls Tryz.prog 150 #[.slice A p.length c] w (Stp (.int .i64 res) w):=by
 obtain ⟨cy,hcy,hr1,hr2⟩:=hres;have hr:=h.rs;have HCY:=Lib.hid hcy;have hlc:=hcy.len hl;clear h hcy;by_cases hp:IsPerm p
 ·have HRES:=Lib.hid (hr1 hp)
  have hf:=cyc_facts hp;rw [← HCY.out.1 hp] at hf;have HF:=Lib.hid hf;have HP:=Lib.hid hp;clear hp hr1 hr2 hf;go_enter Tryz.func150,Tryz.ntmps150
  go_wp2_with fail;with_reducible refine (impl_IsPermutation A p c _ _ hr (Nat.le_refl _) hl true (iff_of_true rfl HP.out)).mono ?_
  rintro e w1 ⟨rfl,hb1⟩;have hr1:=(hr.below hb1).more hb1.size;go_wp2_with fail;with_reducible refine (impl_CycleType A p c _ _ hr1 (Nat.le_refl _) hl cy HCY.out).mono ?_
  rintro e w2 ⟨A2,c2,rfl,ho2,hb2⟩;have hrc:Rs w2 w2.heap.size A2 (ints cy):=Rs.of_own ho2;have hm2:=(Mid.of_below (lo:=0) (hi:=0) hb1).trans (Mid.of_below hb2);go_wp2_with fail;go_loopw [3,5,6,7,14] (fun nv _ _ _ i wr=>∃ k n:Nat,k≤cy.length∧i=.int .i64 k∧nv=.int .i64 n∧OrdAt cy k n∧∃ m,wr=w2.drewN m) (fun _ _ _ _ i _=>cy.length - (intOf i).toNat)
  case atStart=>exact ⟨0,1,Nat.zero_le _,rfl,rfl,OrdAt.zero cy,0,rfl⟩
  case round =>
   obtain ⟨k,n,hk,rfl,rfl,hat,md,rfl⟩:=hrel;have HAT:=Lib.hid hat;have hn1:=hat.pos;have hn2:=hat.bound HF.out.1 HF.out.2;clear hat;by_cases hlt:k < cy.length
   ·obtain ⟨b,off,x,rfl, -,hx,hc⟩:=hrc.int hlt
    have hx1:=HF.out.1 x (List.mem_of_getElem? hx);obtain ⟨d,rfl⟩:∃ d:Nat,x=(d:Int):=⟨x.toNat,by omega⟩
    have hnext:=HAT.out.succ HF.out.1 hx;have hnb:=hnext.bound HF.out.1 HF.out.2;have hd40:d≤1099511627776:=by
     have h1:=Nat.div_mul_le_self n (Nat.gcd n d);have hg:0 < Nat.gcd n d:=Nat.gcd_pos_of_pos_left _ hn1;have hq:1≤n / Nat.gcd n d:=(Nat.one_le_div_iff hg).2 (Nat.le_of_dvd hn1 (Nat.gcd_dvd_left _ _));have:=Nat.mul_le_mul_right d hq;omega
    have HNX:=Lib.hid hnext;clear hx hnext;go_wp2_with fail;go_loopw [6,7] (fun av bv wr2=>∃ a b':Nat,av=.int .i64 a∧bv=.int .i64 b'∧Nat.gcd a b'=Nat.gcd n d∧a≤1099511627776∧b'≤1099511627776∧∃ m,wr2=w2.drewN m) (fun _ bv _=>(intOf bv).toNat)
    case atStart=>exact ⟨n,d,rfl,rfl,rfl,hn2,hd40,md,rfl⟩
    case round =>
     obtain ⟨a,b',rfl,rfl,hg,ha,hb,m2,rfl⟩:=hrel;have HG:=Lib.hid hg;clear hg;by_cases h0:b'=0
     ·subst h0
      have hga:=HG.out;rw [Nat.gcd_zero_right] at hga;have ha1:1≤a:=by rw [hga];exact Nat.gcd_pos_of_pos_left _ hn1
      have hnb2:n / a * d≤1099511627776:=by rw [hga];exact hnb
      have HGA:=Lib.hid hga;have hz:(((0:Nat):Int) != 0)=false:=by simp
      have hq0:(0:Int)≤(n:Int) / (a:Int):=Int.ediv_nonneg (by omega) (by omega);have hqe:(n:Int) / (a:Int)=((n / a:Nat):Int):=by simp
      have hmul:(n:Int) / (a:Int) * (d:Int)=((n / a * d:Nat):Int):=by rw [hqe,Int.natCast_mul]
      have hmb:(n:Int) / (a:Int) * (d:Int)≤1099511627776:=by rw [hmul];omega
      have hmb0:0≤(n:Int) / (a:Int) * (d:Int):=by rw [hmul];omega
      have HMUL:=Lib.hid hmul;clear hga hqe hmul;go_wp2_with fail;go_roundw
      case rel =>
       refine ⟨k+1,n / a * d,by omega,by go_num,?_,by rw [HGA.out];exact HNX.out,m2,rfl⟩;have hq1:(n:Int) / (a:Int)≤1099511627776:=by
        have h1:=Nat.div_le_self n a;have e:(n:Int) / (a:Int)=((n / a:Nat):Int):=by simp
        rw [e];omega
       have e1:=IntWalk.wrap64_in ((n:Int) / (a:Int)) ⟨by omega,by omega⟩;have e2:=IntWalk.wrap64_in ((n:Int) / (a:Int) * (d:Int)) ⟨by omega,by omega⟩
       show Value.int .i64 _=Value.int .i64 ((n / a * d:Nat):Int)
       first | rw [e1,e2,HMUL.out] | rw [e2,HMUL.out] | rw [HMUL.out]
      case measure=>simp [intOf];omega
     ·have hz:((b':Int) != 0)=true:=by simp;omega
      have hb1:(1:Int)≤(b':Int):=by omega
      have hml:=Nat.mod_lt a (show 0 < b' by omega);go_wp2_with fail;go_quiet (fail)
      go_wp2_with fail;go_roundw
      case rel =>
       refine ⟨b',a % b',rfl,?_,?_,hb,by omega,_,by first | rfl | exact dn _ _ _⟩
       ·first | rfl | go_num | simp
       ·rw [← HG.out,Nat.gcd_comm a b',Nat.gcd_comm b' (a % b'),← Nat.gcd_rec]
      case measure =>
       have e:((a:Int) % (b':Int))=((a % b':Nat):Int):=by simp
       show ((a:Int) % (b':Int)).toNat < ((b':Int)).toNat
       rw [e];omega
   ·obtain rfl:k=cy.length:=by omega
    go_wp2_with fail;go_ret;have h2:=HAT.out.val;rw [List.take_length] at h2;have h3:=HRES.out;rw [← h2] at h3;subst h3;exact ⟨rfl,hm2.drewN _⟩
 ·obtain rfl:res=0:=hr2 hp
  have HN:=Lib.hid hp;clear hp hr1 hr2;go_enter Tryz.func150,Tryz.ntmps150
  go_wp2_with fail;with_reducible refine (impl_IsPermutation A p c _ _ hr (Nat.le_refl _) hl false (iff_of_false Bool.false_ne_true HN.out)).mono ?_
  rintro e w1 ⟨rfl,hb1⟩;go_wp2_with fail;go_ret;exact ⟨rfl,Mid.of_below hb1⟩
theorem sspec_OrderOfPermutation (A:Option Addr) (p:List Int) (c:Nat) (w:World) (lo hi:Nat) (h:RI w lo hi A p) (_o:OkI p) (hl:p.length≤1048576) (res:Int) (hres:OrderOfPermutationIs p res) :
  Calls Tryz.prog 151 #[.slice A p.length c] w (Stp (.int .i64 res) w):=by
 obtain ⟨cy,hcy,hr1,hr2⟩:=hres;have hr:=h.rs;have HCY:=Lib.hid hcy;have hlc:=hcy.len hl;clear h hcy;by_cases hp:IsPerm p
 ·have HRES:=Lib.hid (hr1 hp)
  have hf:=cyc_facts hp;rw [← HCY.out.1 hp] at hf;have HF:=Lib.hid hf;have HP:=Lib.hid hp;clear hp hr1 hr2 hf;go_enter Tryz.func151,Tryz.ntmps151
  go_wp2_with fail;with_reducible refine (spec_CycleType A p c _ _ hr (Nat.le_refl _) hl cy HCY.out).mono ?_
  rintro e w2 ⟨A2,c2,rfl,ho2,hb2⟩;have hrc:Rs w2 w2.heap.size A2 (ints cy):=Rs.of_own ho2;have hr1:=(hr.below hb2).more hb2.size;have hm2:=Mid.of_below (lo:=0) (hi:=0) hb2;go_wp2_with fail;go_loopw [4,5] (fun nv i wr=>∃ k n:Nat,k≤cy.length∧i=.int .i64 k∧nv=.int .i64 n∧OrdAt cy k n∧∃ m,wr=w2.drewN m) (fun _ i _=>cy.length - (intOf i).toNat)
  case atStart=>exact ⟨0,1,Nat.zero_le _,rfl,rfl,OrdAt.zero cy,0,rfl⟩
  case round =>
   obtain ⟨k,n,hk,rfl,rfl,hat,md,rfl⟩:=hrel;have HAT:=Lib.hid hat;have hn1:=hat.pos;have hn2:=hat.bound HF.out.1 HF.out.2;clear hat;by_cases hlt:k < cy.length
   ·obtain ⟨b,off,x,rfl, -,hx,hc⟩:=hrc.int hlt
    have hx1:=HF.out.1 x (List.mem_of_getElem? hx);obtain ⟨d,rfl⟩:∃ d:Nat,x=(d:Int):=⟨x.toNat,by omega⟩
    have hnext:=HAT.out.succ HF.out.1 hx;have hnb:=hnext.bound HF.out.1 HF.out.2;have hg1:1≤Nat.gcd n d:=Nat.gcd_pos_of_pos_left _ hn1;have hd40:d≤1099511627776:=by
     have hq:1≤n / Nat.gcd n d:=(Nat.one_le_div_iff hg1).2 (Nat.le_of_dvd hn1 (Nat.gcd_dvd_left _ _));have:=Nat.mul_le_mul_right d hq;omega
    have HNX:=Lib.hid hnext;obtain ⟨gg,hgg⟩:∃ gg,gg=Nat.gcd n d:=⟨_,rfl⟩
    rw [← hgg] at hnb hg1;have hC:=fun W=>spec_l17Gcd n d W hn2 hd40;rw [← hgg] at hC;have HC:=Lib.hid hC;have HGG:=Lib.hid hgg;have hk3:(k:Int) < (cy.length:Int):=by omega
    have hk0:(0:Int)≤(k:Int):=by omega
    have hg3:(1:Int)≤(gg:Int):=by omega
    have hn0:(0:Int)≤(n:Int):=by omega
    clear hx hnext hgg hC;go_wp2_with fail;go_quiet ((go_at_call 199;first | exact qz0 (pq (HC.out _)) | exact qz1 (pq (HC.out _))))
    go_wp2_with fail;go_roundw
    case rel =>
     refine ⟨k+1,n / gg * d,by omega,by go_num,?_,by rw [HGG.out];exact HNX.out,_,by first | rfl | exact dn _ _ _⟩;have h1:=Nat.div_le_self n gg;have e:(n:Int) / (gg:Int)=((n / gg:Nat):Int):=by simp
     have p0:(0:Int)≤((n / gg:Nat):Int):=Int.natCast_nonneg _;have p1:((n / gg:Nat):Int)≤1099511627776:=by
      have h5:n / gg≤1099511627776:=Nat.le_trans h1 hn2;exact Int.ofNat_le.2 h5
     have e1:=IntWalk.wrap64_in ((n:Int) / (gg:Int)) ⟨by rw [e];exact Int.le_trans (by decide) p0,by rw [e];exact Int.le_trans p1 (by decide)⟩;have em:(n:Int) / (gg:Int) * (d:Int)=((n / gg * d:Nat):Int):=by rw [e,Int.natCast_mul]
     have q0:(0:Int)≤((n / gg * d:Nat):Int):=Int.natCast_nonneg _;have q1:((n / gg * d:Nat):Int)≤1099511627776:=Int.ofNat_le.2 hnb;have e2:=IntWalk.wrap64_in ((n:Int) / (gg:Int) * (d:Int)) ⟨by rw [em];exact Int.le_trans (by decide) q0,by rw [em];exact Int.le_trans q1 (by decide)⟩
     show Value.int .i64 _=Value.int .i64 ((n / gg * d:Nat):Int)
     first | rw [e1,e2,em] | rw [e2,em] | rw [em]
    case measure=>simp [intOf];omega
   ·obtain rfl:k=cy.length:=by omega
    go_wp2_with fail;with_reducible refine (spec_IsPermutation A p c _ _ (hr1.drewN md) hl true (iff_of_true rfl HP.out)).mono ?_
    rintro e w' ⟨rfl,nd,rfl⟩;go_wp2_with fail;go_ret;have h2:=HAT.out.val;rw [List.take_length] at h2;have h3:=HRES.out;rw [← h2] at h3;subst h3;exact ⟨rfl,by first | exact hm2.drewN _ | exact (hm2.drewN _).drewN _⟩
 ·obtain rfl:res=0:=hr2 hp
  have HN:=Lib.hid hp;obtain rfl:cy=[]:=HCY.out.2 hp;clear hp hr1 hr2;go_enter Tryz.func151,Tryz.ntmps151
  go_wp2_with fail;with_reducible refine (spec_CycleType A p c _ _ hr (Nat.le_refl _) hl [] HCY.out).mono ?_
  rintro e w2 ⟨A2,c2,rfl,ho2,hb2⟩;have hr1:=(hr.below hb2).more hb2.size;have hm2:=Mid.of_below (lo:=0) (hi:=0) hb2;go_wp2_with fail;go_loopw [4,5] (fun _ i wr=>i=.int .i64 0∧wr=w2) (fun _ i _=>0)
  case atStart=>exact ⟨rfl,rfl⟩
  case round =>
   obtain ⟨rfl,rfl⟩:=hrel;go_wp2_with fail;with_reducible refine (spec_IsPermutation A p c _ _ hr1 hl false (iff_of_false Bool.false_ne_true HN.out)).mono ?_
   rintro e w' ⟨rfl,nd,rfl⟩;go_wp2_with fail;go_ret;exact ⟨rfl,hm2.drewN _⟩
end
section
open Go.RowKit
theorem goV_in {r s:Int} {es:List Ed} (hg:∀ e∈es,InG r s e):∀ (w:List Int) {v u:Int},0≤v∧v < s→goV es v w=some u→0≤u∧u < s
 | [],v,u,h,hu=>by
  rw [goV] at hu;injection hu with hu
  subst hu;exact h
 | x :: t,v,u,h,hu=>by
  rw [goV] at hu;split at hu
  ·cases hu
  ·have:=nextV_cases hg v x
   exact goV_in hg t (by omega) hu
theorem wordP_ok (r s:Int) (es:List Ed) (wd:List Int):OkI (wordP r s es wd):=by
 intro x hx;unfold wordP at hx;split at hx
 ·rename_i h
  have hs:=h.1.cor.gr.size;simp only [permTo,List.mem_map,List.mem_range] at hx;obtain ⟨v,hv,rfl⟩:=hx;have h2:=h.2 v hv;cases hq:goV es (v:Int) wd with
  | none=>exact absurd hq h2
  | some u =>
   have:=goV_in h.1.cor.gr.all wd (by omega) hq;simp only [Option.getD_some];omega
 ·cases hx
def OrderModuloIs (r0 s0:Int) (d0:List Ed) (d1:List Int) (res0:Int):Prop:=∃ v,OrderOfPermutationIs (wordP r0 s0 d0 d1) v∧res0=if (wordP r0 s0 d0 d1).length=0 then 0 else v
theorem OrderModuloIs_ex (r0 s0:Int) (d0:List Ed) (d1:List Int) (hl0:d0.length≤1048576) (o1:OkI d1) (hl1:d1.length≤1048576):∃ res0,OrderModuloIs r0 s0 d0 d1 res0:=by
 obtain ⟨v,hv⟩:=OrderOfPermutationIs_ex (wordP r0 s0 d0 d1) (wordP_ok r0 s0 d0 d1) (WordPermutationIs_len (r0:=r0) (s0:=s0) (d0:=d0) (d1:=d1) rfl hl0 o1 hl1);exact ⟨_,v,hv,rfl⟩
theorem sspec_OrderModulo (r0 s0:Int) (A0:Option Addr) (d0:List Ed) (c0:Nat) (A1:Option Addr) (d1:List Int) (c1:Nat) (w:World) (lo0 hi0:Nat) (h0:OG w lo0 hi0 A0 c0 d0) (hl0:d0.length≤1048576) (lo1 hi1:Nat) (h1:OI w lo1 hi1 A1 c1 d1) (o1:OkI d1) (hl1:d1.length≤1048576) (res0:Int) (h:OrderModuloIs r0 s0 d0 d1 res0) :
  Calls Tryz.prog 73 #[.agg #[.int .i64 r0,.int .i64 s0,.slice A0 d0.length c0],.slice A1 d1.length c1] w fun e w'=>e=.returned (.int .i64 res0)∧Mid 0 0 w w':=by
 have hm0:Mid 0 0 w (w.alloc (.cells #[.int .i64 r0,.int .i64 s0,.slice A0 d0.length c0] 26)):=Mid.alloc _ _;have hP:=fun W h0 h1=>sspec_WordPermutation r0 s0 A0 d0 c0 A1 d1 c1 W lo0 hi0 h0 hl0 lo1 hi1 h1 o1 hl1 _ rfl;have hpl:=WordPermutationIs_len (r0:=r0) (s0:=s0) (d0:=d0) (d1:=d1) rfl hl0 o1 hl1;have hpo:=wordP_ok r0 s0 d0 d1;obtain ⟨v,hv,hres⟩:=h;generalize wordP r0 s0 d0 d1=p at hP hpl hpo hv hres;have HP:=Lib.hid hP;have HV:=Lib.hid hv;have HPO:=Lib.hid hpo;clear hP hv hpo;go_enter Tryz.func73,Tryz.ntmps73
 go_wp2_with fail;with_reducible refine (HP.out _ (h0.mid hm0 oZl) (h1.mid hm0 oZl)).mono ?_
 rintro en w1 ⟨A2,c2,rfl,ho2,hm1⟩;by_cases hz:p.length=0
 ·rw [if_pos hz] at hres
  subst hres;have d1:((p.length:Int) == 0)=true:=by rw [hz];rfl
  clear hz;go_wp2_with fail;go_ret;exact ⟨rfl,hm0.trans hm1⟩
 ·rw [if_neg hz] at hres
  subst hres;have d1:((p.length:Int) == 0)=false:=by simp only [beq_eq_false_iff_ne];omega
  clear hz;go_wp2_with fail;with_reducible refine (sspec_OrderOfPermutation A2 p c2 w1 _ _ ho2.ri HPO.out hpl _ HV.out).mono ?_
  rintro en w2 ⟨rfl,hm2⟩;go_wp2_with fail;go_ret;exact ⟨rfl,(hm0.trans hm1).trans hm2⟩
theorem simpl_OrderModulo (r0 s0:Int) (A0:Option Addr) (d0:List Ed) (c0:Nat) (A1:Option Addr) (d1:List Int) (c1:Nat) (w:World) (lo0 hi0:Nat) (h0:OG w lo0 hi0 A0 c0 d0) (hl0:d0.length≤1048576) (lo1 hi1:Nat) (h1:OI w lo1 hi1 A1 c1 d1) (o1:OkI d1) (hl1:d1.length≤1048576) (res0:Int) (h:OrderModuloIs r0 s0 d0 d1 res0) :
  Calls Tryz.prog 72 #[.agg #[.int .i64 r0,.int .i64 s0,.slice A0 d0.length c0],.slice A1 d1.length c1] w fun e w'=>e=.returned (.int .i64 res0)∧Mid 0 0 w w':=by
 have hm0:Mid 0 0 w (w.alloc (.cells #[.int .i64 r0,.int .i64 s0,.slice A0 d0.length c0] 26)):=Mid.alloc _ _;have hP:=fun W h0 h1=>simpl_WordPermutation r0 s0 A0 d0 c0 A1 d1 c1 W lo0 hi0 h0 hl0 lo1 hi1 h1 o1 hl1 _ rfl;have hpl:=WordPermutationIs_len (r0:=r0) (s0:=s0) (d0:=d0) (d1:=d1) rfl hl0 o1 hl1;have hpo:=wordP_ok r0 s0 d0 d1;obtain ⟨v,hv,hres⟩:=h;generalize wordP r0 s0 d0 d1=p at hP hpl hpo hv hres;have HP:=Lib.hid hP;have HV:=Lib.hid hv;have HPO:=Lib.hid hpo;clear hP hv hpo;go_enter Tryz.func72,Tryz.ntmps72
 go_wp2_with fail;with_reducible refine (HP.out _ (h0.mid hm0 oZl) (h1.mid hm0 oZl)).mono ?_
 rintro en w1 ⟨A2,c2,rfl,ho2,hm1⟩;by_cases hz:p.length=0
 ·rw [if_pos hz] at hres
  subst hres;have d1:((p.length:Int) == 0)=true:=by rw [hz];rfl
  clear hz;go_wp2_with fail;go_ret;exact ⟨rfl,hm0.trans hm1⟩
 ·rw [if_neg hz] at hres
  subst hres;have d1:((p.length:Int) == 0)=false:=by simp only [beq_eq_false_iff_ne];omega
  clear hz;go_wp2_with fail;with_reducible refine (simpl_OrderOfPermutation A2 p c2 w1 _ _ ho2.ri HPO.out hpl _ HV.out).mono ?_
  rintro en w2 ⟨rfl,hm2⟩;go_wp2_with fail;go_ret;exact ⟨rfl,(hm0.trans hm1).trans hm2⟩
end
section
open Go.RowKit
theorem spec_GraphOfAction (rank:Int) (A:Option Addr) (l:List (List Int)) (c:Nat) (w:World) (lo hi:Nat) (hr:RSS w lo hi A l) (hl:l.length+sumL l≤1048576) (hwf:(Lit.int .i64 rank).wf=true) (rr rs:Int) (res:List Ed) (b:Bool) (hres:GActIs rank l rr rs res b) :
  Calls Tryz.prog 86 #[.int .i64 rank,.slice A l.length c] w fun e w'=>∃ A1 c1,e=.returned (.tuple #[graV rr rs A1 res.length c1,.bool b])∧OG w' w.heap.size w'.heap.size A1 c1 res∧Mid 0 0 w w':=by
 have HR:=Lib.hid hres;clear hres;obtain ⟨b1,hb1⟩:=bool_of (1≤rank∧rank≤3);have H1:=Lib.hid hb1;have hi1:=inB_rank hb1;clear hb1;have hm0:Mid 0 0 w (w.alloc (.cells #[.int .i64 0,.int .i64 0,.slice none 0 0] 26)):=Mid.alloc _ _;have B2:=Box.new w #[.int .i64 0,.int .i64 0,.slice none 0 0] 26;go_enter Tryz.func86,Tryz.ntmps86
 go_wp2_with fail;generalize w.alloc (.cells #[.int .i64 0,.int .i64 0,.slice none 0 0] 26)=w1 at hm0 B2 ⊢;have hs1:w.heap.size < w1.heap.size:=B2.1;with_reducible refine (l1In_at hi1 _).mono ?_
 rintro en w2 ⟨rfl,rfl⟩;cases b1 with
 | false =>
  have hno:¬ GActOk rank l (n0L l):=fun h=>by have:=H1.out.2 h.rk;cases this
  obtain ⟨rfl,rfl,rfl,rfl⟩:=HR.out.no hno;have z0:=B2.cell 0 rfl;have z1:=B2.cell 1 rfl;have z2:=B2.cell 2 rfl;have zf:=B2.2.2;go_wp2_with fail;refine bodyPost_ret (v:=.tuple #[.agg #[.int .i64 0,.int .i64 0,.slice none 0 0],.bool false]) (by simp [results,Tryz.results86,go_sem,z0,z1,z2,zf]) rfl ⟨none,0,rfl,OG.nil,?_⟩;repeat (first | exact hm0 | refine Mid.storeNew ?_ (by simp;try omega) _)
 | true =>
 have hrk:=H1.out.1 rfl;clear H1 hi1;by_cases hln:(l.length:Int)=rank
 ·have dl:((l.length:Int) != rank)=false:=by simpa using hln
  obtain ⟨B0,o0,Ap0,cp0,p0,rfl, -,hB0,hp0,hc0, -⟩:=(hr.mid hm0 oZl).row (k:=0) (by omega);have hB0s:B0 < w1.heap.size:=by have:=(hr.mid hm0 oZl).size;omega
  have hn0:=n0L_at hp0;have hp0l:p0.length≤1048576:=by have:=len_le_sumL (List.mem_of_getElem? hp0);omega
  simp only [Nat.add_zero] at hc0;generalize hnn:p0.length=n at hc0 hn0 hp0l;have HNN:=Lib.hid hn0;clear hp0 hn0 hnn;have hzl:(0:Int) < (l.length:Int):=by omega
  have HLN:=Lib.hid hln;clear hln;by_cases hz:n=0
  ·have hno:¬ GActOk rank l n:=fun h=>by have:=h.n0;omega
   have dz:((n:Int) == 0)=true:=by rw [hz];rfl
   obtain ⟨rfl,rfl,rfl,rfl⟩:=HR.out.no (by rw [HNN.out];exact hno);have z0:=B2.cell 0 rfl;have z1:=B2.cell 1 rfl;have z2:=B2.cell 2 rfl;have zf:=B2.2.2;go_wp2_with fail;refine bodyPost_ret (v:=.tuple #[.agg #[.int .i64 0,.int .i64 0,.slice none 0 0],.bool false]) (by simp [results,Tryz.results86,go_sem,z0,z1,z2,zf]) rfl ⟨none,0,rfl,OG.nil,?_⟩;repeat (first | exact hm0 | refine Mid.storeNew ?_ (by simp;try omega) _)
  have dz:((n:Int) == 0)=false:=by simp only [beq_eq_false_iff_ne];omega
  have hal:=Mid.alloc w1 (.cells #[.int .i64 rank,.int .i64 n,.slice none 0 0] 26);have Y3:=Box.new w1 #[.int .i64 rank,.int .i64 n,.slice none 0 0] 26;have Y2:=B2.mid hal oZr;have hmy:=hm0.trans hal;go_wp2_with fail;generalize w1.alloc (.cells #[.int .i64 rank,.int .i64 n,.slice none 0 0] 26)=w3 at Y2 Y3 hmy ⊢;have hs3:w1.heap.size < w3.heap.size:=Y3.1;clear hal hm0 B2 hc0;generalize hG:w1.heap.size=Gb at Y3 hs1 hs3 hB0s ⊢;clear hG;have hhw:=hr.size;go_loopw [7] (fun i wr=>∃ (k:Nat) (A2:Option Addr) (c2 hi2:Nat) (xs:List Ed),k≤l.length∧i=.int .i64 k∧Hid (xs=canon (actEs l k))∧Hid (∀ p∈l.take k,IsPerm p∧p.length=n) ∧
   OG wr (Gb+1) hi2 A2 c2 xs ∧
   Box wr w.heap.size [.int .i64 0,.int .i64 0,.slice none 0 0]∧Box wr Gb [.int .i64 rank,.int .i64 n,.slice A2 xs.length c2]∧Mid 0 0 w wr) (fun i _=>l.length - (intOf i).toNat)
  case atStart=>exact ⟨0,none,0,_,[],Nat.zero_le _,rfl,Lib.hid rfl,Lib.hid (by simp),OG.nil,Y2,Y3,hmy⟩
  case round =>
   clear Y2 Y3 hmy;obtain ⟨wo,hwo⟩:∃ wo,wo=wr:=⟨_,rfl⟩
   subst hwo;obtain ⟨k,A2,c2,hi2,xs,hk,rfl,HX,HALL,hown,Z2,Z3,hm⟩:=hrel;have hGo:Gb < wo.heap.size:=Z3.1;have hkr:(k:Int)≤rank:=by have:=HLN.out;omega
   by_cases hlt:k < l.length
   ·obtain ⟨Bp,op,Ap,cp,p,he, -,hBp,hp,hcp,hrp⟩:=(hr.mid hm oZl).row hlt
    injection he with he
    injection he with he1 he2
    subst he1 he2;have hpl:p.length≤1048576:=by have:=len_le_sumL (List.mem_of_getElem? hp);omega
    have hk1:(k:Int) < (l.length:Int):=by omega
    have hk2:(k:Int) < rank:=by have:=HLN.out;omega
    have hk0:(0:Int)≤(k:Int):=by omega
    have hBps:B0 < wo.heap.size:=by omega
    have HP:=Lib.hid hp;obtain ⟨bp,hbp⟩:=bool_of (IsPerm p);have HBP:=Lib.hid hbp;clear hp hbp;have hIP:∀ (m:Nat) (os:Array Obj),Calls Tryz.prog 153 #[.slice Ap p.length cp] (wg wo m os) fun e w''=>e=.returned (.bool bp)∧∃ q:GB,w''=wg wo q.n q.os:=fun m os =>
     Calls.wg_of ((spec_IsPermutation Ap p cp _ (wg wo m os) (hrp.mid (Mid.ofWg wo m os) oZl).rs hpl bp HBP.out).mono (fun e w' ⟨h1,nd,h2⟩=>⟨h1,by rw [h2];exact (Mid.refl 0 0 (wg wo m os)).drewN nd⟩))
    have e0:=wg_cell hBps hcp;have e1:=wg_cell Z3.1 (Z3.cell 1 rfl);cases bp with
    | false =>
     have hno:¬ GActOk rank l n:=fun h=>by have:=HBP.out.2 (h.all p (List.mem_of_getElem? HP.out)).1;cases this
     go_wp2_with fail;refine wp_region_quiet_wg (by kernel_rfl) (by kernel_rfl) ?_;repeat
      (with_reducible refine wpQuiet_step (fun K hK=>?_))
      go_simp
      first
       | ((with_reducible refine hK _ ?_);clear hK K)
       | (rw [if_neg (by decide)];(with_reducible refine hK _ ?_);clear hK K)
       | (apply Exists.intro;refine ⟨fun _=>?_,hK _ ?_⟩;((go_at_call 153;with_reducible exact hIP _ _));clear hK K)
     with_reducible refine wpQuiet_nil ?_
     intro _ hw';obtain ⟨⟨nq,osq⟩,hw''⟩:=hw';subst hw'';have hwg:=Mid.ofWg wo nq osq;generalize wg wo nq osq=w5 at hwg ⊢;have hm9:=hm.trans hwg;have Q2:=Z2.mid hwg oZr;clear e0 e1 hIP;obtain ⟨rfl,rfl,rfl,rfl⟩:=HR.out.no (by rw [HNN.out];exact hno);have z0:=Q2.cell 0 rfl;have z1:=Q2.cell 1 rfl;have z2:=Q2.cell 2 rfl;have zf:=Q2.2.2;go_wp2_with fail;refine bodyPost_ret (v:=.tuple #[.agg #[.int .i64 0,.int .i64 0,.slice none 0 0],.bool false]) (by simp [results,Tryz.results86,go_sem,z0,z1,z2,zf]) rfl ⟨none,0,rfl,OG.nil,?_⟩;repeat (first | exact hm9 | refine Mid.storeNew ?_ (by simp;try omega) _)
    | true =>
    by_cases hpn:p.length=n
    ·have dn:((p.length:Int) != (n:Int))=false:=by rw [hpn];simp
     have hperm:=HBP.out.1 rfl;have hp40:=hperm.1;have HPERM:=Lib.hid hperm;have hpl2:p.length≤40∧(p.length:Int)≤n∧(n:Int)≤p.length:=⟨hp40,by omega,by omega⟩
     have HPN:=Lib.hid hpn;clear hperm hpn;go_wp2_with fail;refine wp_region_quiet_wg (by kernel_rfl) (by kernel_rfl) ?_;repeat
      (with_reducible refine wpQuiet_step (fun K hK=>?_))
      go_simp
      first
       | ((with_reducible refine hK _ ?_);clear hK K)
       | (rw [if_neg (by decide)];(with_reducible refine hK _ ?_);clear hK K)
       | (apply Exists.intro;refine ⟨fun _=>?_,hK _ ?_⟩;((go_at_call 153;with_reducible exact hIP _ _));clear hK K)
     with_reducible refine wpQuiet_nil ?_
     intro _ hw';obtain ⟨⟨nq,osq⟩,hw''⟩:=hw';subst hw'';have hwg:=Mid.ofWg wo nq osq;have hs5:=hwg.size;generalize wg wo nq osq=w5 at hwg hs5 ⊢;have Q2:=Z2.mid hwg oZr;have Q3:=Z3.mid hwg oZr;have hown5:=hown.mid hwg oZl;have hrp5:=hrp.mid hwg oZl;have hcp5:=cell_keep hwg hBps oZr hcp;have hm9:=hm.trans hwg;clear e0 e1 hIP Z2 Z3 hown hrp hcp hm hwg;go_wp2_with fail;go_loopw [8] (fun j wr=>∃ (m:Nat) (A3:Option Addr) (c3 hi3:Nat) (ys:List Ed),m≤n∧j=.int .i64 m∧Hid (ys=canon (actEs l k++permE ((k:Int)+1) p m)) ∧
      OG wr (Gb+1) hi3 A3 c3 ys ∧
      Box wr w.heap.size [.int .i64 0,.int .i64 0,.slice none 0 0]∧Box wr Gb [.int .i64 rank,.int .i64 n,.slice A3 ys.length c3]∧RV wr lo hi Ap (ints p)∧wr.cell? ⟨B0,o0+k,none⟩=some (.slice Ap p.length cp)∧Mid 0 0 w wr) (fun j _=>n - (intOf j).toNat)
     case atStart=>exact ⟨0,A2,c2,hi2,xs,Nat.zero_le _,rfl,Lib.hid (by simpa [permE] using HX.out),hown5,Q2,Q3,hrp5,hcp5,hm9⟩
     case round =>
      clear hown5 Q2 Q3 hrp5 hcp5 hm9 hs5;obtain ⟨m,A3,c3,hi3,ys,hmp,rfl,HY,hown,Z2,Z3,hrp,hcp,hm⟩:=hrel;have hyl:ys.length≤1000:=by
       have h1:=canon_len (actEs l k++permE ((k:Int)+1) p m);rw [← HY.out,List.length_append,permE_len] at h1;have h4:∀ j,j≤k→(actEs l j).length≤j * 40:=by
        intro j
        induction j with
        | zero=>intro _;simp [actEs]
        | succ j ih =>
         intro hj;have hq:=List.getElem?_eq_getElem (l:=l) (i:=j) (by omega);rw [actEs_succ hq,List.length_append,permE_len,Nat.succ_mul];have h5:=ih (by omega);have h6:=(HALL.out (l[j]'(by omega)) (by rw [List.mem_take_iff_getElem];exact ⟨j,by omega,rfl⟩)).1.1;omega
       have h5:=h4 k (Nat.le_refl _);omega
      have z1:=Z3.cell 1 rfl;have hBws:B0 < wr.heap.size:=by have:=hm.size;have:=hr.size;omega
      by_cases hltm:m < n
      ·obtain ⟨Bx,ox,x,rfl,hBx,hx,hcx⟩:=hrp.at (k:=m) (by omega)
       have hm1:(m:Int) < (n:Int):=by omega
       have hmp1:(m:Int) < (p.length:Int):=by omega
       have hm00:(0:Int)≤(m:Int):=by omega
       have hpe:=permE_succ (x:=(k:Int)+1) hx;have HPE:=Lib.hid hpe;have hwk:IntKind.i64.wrap ((k:Int)+1)=(k:Int)+1:=IntWalk.i64_in _ (by omega);have hBxs:Bx < wr.heap.size:=by have:=hrp.1;omega
       clear hx hpe;go_wp2_with fail;have hmd:=Mid.drew1 wr;have U2:=Z2.mid hmd oZr;have U3:=Z3.mid hmd oZr;have hownU:=hown.mid hmd oZl;have hrpU:=hrp.mid hmd oZl;have hmu:=hm.trans hmd;have hsd:=hmd.size;have g2:=U3.cell 2 rfl;have f0:=cell_keep hmd hBws oZr hcp;have f1:=cell_keep hmd hBxs oZr hcx;clear Z2 Z3 hown hrp hcp hcx hm hmd z1;refine wp_region_T (S:=(fun w'=>w'.cell? ⟨Gb,2,none⟩=some (.slice A3 ys.length c3)∧w'.cell? ⟨B0,o0+k,none⟩=some (.slice (some ⟨Bx,ox,none⟩) p.length cp)∧w'.cell? ⟨Bx,ox+m,none⟩=some (.int .i64 x))) 15 (by kernel_rfl) ⟨g2,f0,f1⟩ ?_;generalize World.drew wr=wz at U2 U3 hownU hrpU hmu hsd f0 f1 g2 ⊢;have hS:wz.cell? ⟨Gb,2,none⟩=some (.slice A3 ys.length c3)∧wz.cell? ⟨B0,o0+k,none⟩=some (.slice (some ⟨Bx,ox,none⟩) p.length cp)∧wz.cell? ⟨Bx,ox+m,none⟩=some (.int .i64 x):=⟨g2,f0,f1⟩
       refine tkT 0 rfl hS ?_;try simp only [Act.put,zs1,zs2,zs3,zs4,zs5,zs6]
       refine tkT 1 rfl hS ?_;try simp only [Act.put,zs1,zs2,zs3,zs4,zs5,zs6]
       refine tkT 2 rfl hS ?_;try simp only [Act.put,zs1,zs2,zs3,zs4,zs5,zs6]
       refine tkT 3 rfl hS ?_;try simp only [Act.put,zs1,zs2,zs3,zs4,zs5,zs6]
       refine tkT 4 rfl hS ?_;try simp only [Act.put,zs1,zs2,zs3,zs4,zs5,zs6]
       refine tkT 5 rfl hS ?_;try simp only [Act.put,zs1,zs2,zs3,zs4,zs5,zs6]
       refine tkT 6 rfl hS ?_;try simp only [Act.put,zs1,zs2,zs3,zs4,zs5,zs6]
       refine tkT 7 rfl hS ?_;try simp only [Act.put,zs1,zs2,zs3,zs4,zs5,zs6]
       refine tkT 8 rfl hS ?_;try simp only [Act.put,zs1,zs2,zs3,zs4,zs5,zs6]
       refine tkT 9 rfl hS ?_;try simp only [Act.put,zs1,zs2,zs3,zs4,zs5,zs6]
       refine tkT 10 rfl hS ?_;try simp only [Act.put,zs1,zs2,zs3,zs4,zs5,zs6]
       refine tkT 11 rfl hS ?_;try simp only [Act.put,zs1,zs2,zs3,zs4,zs5,zs6]
       refine tkT 12 rfl hS ?_;try simp only [Act.put,zs1,zs2,zs3,zs4,zs5,zs6]
       have hP:=spec_l4Put A3 ys c3 ⟨(m:Int),(k:Int)+1,x⟩ wz _ _ hownU.rg (by omega);refine rdT 13 rfl (fun K hK=>?_)
       (go_simp;(with_reducible refine hP.mono ?_);rintro en w9 ⟨A9,c9,rfl,ho9,hm9⟩;have T2':=U2.mid hm9 oZr;have T3':=U3.mid hm9 oZr;have f0':=cell_keep hm9 (by omega) oZr f0;have f1':=cell_keep hm9 (by omega) oZr f1;go_wp2_with fail)
       refine hK.out _ _ (Or.inr ⟨T3'.cell 2 rfl,f0',f1'⟩) (fun _=>?_);clear hK K;try simp only [Act.put,zs1,zs2,zs3,zs4,zs5,zs6]
       have hmr9:=hmu.trans hm9;have hrp9:=hrpU.mid hm9 oZl;have hGz:Gb < wz.heap.size:=U3.1;have hS3:=And.intro (T3'.cell 2 rfl) (And.intro f0' f1');have hr2:=T3'.cell 2 rfl;have hrf:=T3'.2.2;clear hS U2 U3 hmu hP hrpU f0 f1 g2;refine tkT 14 rfl hS3 ?_;try simp only [Act.put,zs1,zs2,zs3,zs4,zs5,zs6]
       refine rdT 15 rfl (fun K hK=>?_)
       (go_simp)
       refine hK.out _ _ (Or.inl rfl) (fun _=>?_);clear hK K;try simp only [Act.put,zs1,zs2,zs3,zs4,zs5,zs6]
       refine wpAnyT_done (by kernel_rfl) ?_ _;go_wp2_with fail;go_roundw
       case rel =>
        have hst:=Mid.setCell w9 (lo:=Gb) (hi:=Gb+1) (p:=⟨Gb,2,none⟩) (.slice A9 (putE ⟨(m:Int),(k:Int)+1,x⟩ ys).length c9) (Nat.le_refl _) (Nat.lt_succ_self _);have hb9:B0 < w9.heap.size:=by have:=hm9.size;omega
        refine ⟨m+1,A9,c9,_,putE ⟨(m:Int),(k:Int)+1,x⟩ ys,by omega,by go_num,Lib.hid ?_,(ho9.wide (lo':=Gb+1) hGz (Nat.le_refl _) (Nat.le_refl _)).mid hst (Or.inl (Nat.le_refl _)),T2'.mid hst (Or.inl (by omega)),T3'.set 2 _ (by simp) rfl,hrp9.mid hst (Or.inr (by omega)),cell_keep hst hb9 (Or.inl (by omega)) f0',hmr9.storeNew (by show w.heap.size≤Gb;omega) _⟩;rw [HPE.out,← List.append_assoc,canon,putAll_snoc,HY.out]
        rfl
       case measure=>simp [intOf];omega
      ·obtain rfl:m=n:=by omega
       have hae:=actEs_succ HP.out;rw [HPN.out] at hae;rw [← hae] at HY;go_wp2_with fail;go_roundw
       case rel =>
        refine ⟨k+1,A3,c3,hi3,ys,by omega,by go_num,HY,Lib.hid (fun q hq=>?_),hown,Z2,Z3,hm⟩;rcases (mem_take_succ HP.out).1 hq with hq | hq
        ·exact HALL.out q hq
        ·rw [hq]
         exact ⟨HPERM.out,HPN.out⟩
       case measure=>simp [intOf];omega
    ·have dn:((p.length:Int) != (n:Int))=true:=by rw [bne_iff_ne];omega
     have hno:¬ GActOk rank l n:=fun h=>hpn (h.all p (List.mem_of_getElem? HP.out)).2;go_wp2_with fail;refine wp_region_quiet_wg (by kernel_rfl) (by kernel_rfl) ?_;repeat
      (with_reducible refine wpQuiet_step (fun K hK=>?_))
      go_simp
      first
       | ((with_reducible refine hK _ ?_);clear hK K)
       | (rw [if_neg (by decide)];(with_reducible refine hK _ ?_);clear hK K)
       | (apply Exists.intro;refine ⟨fun _=>?_,hK _ ?_⟩;((go_at_call 153;with_reducible exact hIP _ _));clear hK K)
     with_reducible refine wpQuiet_nil ?_
     intro _ hw';obtain ⟨⟨nq,osq⟩,hw''⟩:=hw';subst hw'';have hwg:=Mid.ofWg wo nq osq;generalize wg wo nq osq=w5 at hwg ⊢;have hm9:=hm.trans hwg;have Q2:=Z2.mid hwg oZr;clear e0 e1 hIP;obtain ⟨rfl,rfl,rfl,rfl⟩:=HR.out.no (by rw [HNN.out];exact hno);have z0:=Q2.cell 0 rfl;have z1:=Q2.cell 1 rfl;have z2:=Q2.cell 2 rfl;have zf:=Q2.2.2;go_wp2_with fail;refine bodyPost_ret (v:=.tuple #[.agg #[.int .i64 0,.int .i64 0,.slice none 0 0],.bool false]) (by simp [results,Tryz.results86,go_sem,z0,z1,z2,zf]) rfl ⟨none,0,rfl,OG.nil,?_⟩;repeat (first | exact hm9 | refine Mid.storeNew ?_ (by simp;try omega) _)
   ·obtain rfl:k=l.length:=by omega
    rw [List.take_length] at HALL;have hok:GActOk rank l n:=⟨hrk,HLN.out,by omega,HALL.out⟩
    obtain ⟨rfl,rfl,hrs,hre⟩:=HR.out.yes (by rw [HNN.out];exact hok);rw [HNN.out] at hrs hre;have hgm:=act_gr hok;have hlr:¬ (l.length:Int) < rank:=by have:=HLN.out;omega
    obtain ⟨rn,rfl⟩:∃ rn:Nat,rank=rn:=⟨rank.toNat,by omega⟩
    have hms:canon (actEs l l.length)=xs:=HX.out.symm;rw [hms] at hgm hrs hre;have hx120:=hgm.len;obtain ⟨q,qs,hQ, -⟩:=nat_gr (coreA_gr (g:=((n:Int),xs)) hgm);rw [hQ] at hrs hre;subst hrs;subst res;have d120:decide (120 < (xs.length:Int))=false:=by simp;omega
    have r0:=Z3.cell 0 rfl;have r1:=Z3.cell 1 rfl;have r2:=Z3.cell 2 rfl;have hP:=spec_CoreGraph rn n A2 xs c2 wo _ _ (OG.rg hown) hgm;rw [hQ] at hP;dsimp only at hP;have HPP:=Lib.hid hP;clear hok HR hgm hQ hms hP;go_wp2_with fail;with_reducible refine HPP.out.mono ?_
    rintro en w8 ⟨A5,c5,rfl,ho8,hm8⟩;clear HPP;have S2:=Z2.mid hm8 oZr;have hm9:=hm.trans hm8;have hs8:w.heap.size < wo.heap.size:=Z2.1;clear r0 r1 r2;have z0:=S2.cell 0 rfl;have z1:=S2.cell 1 rfl;have z2:=S2.cell 2 rfl;have zf:=S2.2.2;go_wp2_with fail;refine bodyPost_ret (v:=.tuple #[.agg #[.int .i64 rn,.int .i64 q,.slice A5 qs.length c5],.bool true]) (by simp [results,Tryz.results86,go_sem,z0,z1,z2,zf]) rfl ⟨A5,c5,rfl,?_,?_⟩
    ·refine OG.wide (OG.mid ho8 (a:=w.heap.size) (b:=w.heap.size+1) ?_ (Or.inl (by omega))) (by omega) (by simp) (Nat.le_refl _)
     repeat (first | exact Mid.refl _ _ _ | refine Mid.stored ?_ _ (by simp;try omega) (by simp;try omega))
    ·repeat (first | exact hm9 | refine Mid.storeNew ?_ (by simp;try omega) _)
 ·have dl:((l.length:Int) != rank)=true:=by simpa using hln
  have hno:¬ GActOk rank l (n0L l):=fun h=>hln h.ln;obtain ⟨rfl,rfl,rfl,rfl⟩:=HR.out.no hno;have z0:=B2.cell 0 rfl;have z1:=B2.cell 1 rfl;have z2:=B2.cell 2 rfl;have zf:=B2.2.2;go_wp2_with fail;refine bodyPost_ret (v:=.tuple #[.agg #[.int .i64 0,.int .i64 0,.slice none 0 0],.bool false]) (by simp [results,Tryz.results86,go_sem,z0,z1,z2,zf]) rfl ⟨none,0,rfl,OG.nil,?_⟩;repeat (first | exact hm0 | refine Mid.storeNew ?_ (by simp;try omega) _)
end
section
open Go.RowKit
end
section
open Go.RowKit
theorem goV_iff {r s:Int} {es:List Ed} (h:IsFol r s es):∀ {w:List Int} {u v:Int},goV es u w=some v↔Pa es u w v
 | [],u,v=>⟨fun e=>Option.some.inj e,fun e=>congrArg some e⟩
 | x :: w,u,v=>by
  rw [goV];by_cases hn:nextV es u x < 0
  ·rw [if_pos hn]
   constructor
   ·intro e;cases e
   ·rintro ⟨t,h1, -⟩
    exact absurd h1 (nextV_no hn h.gr.nn t)
  ·rw [if_neg hn,goV_iff h]
   constructor
   ·exact fun e=>⟨_,sp_nextV (by omega),e⟩
   ·rintro ⟨t,h1,h2⟩
    rwa [nextV_sp h h1]
def InL (r:Nat) (w:List Int):Prop:=∀ x∈w,x∈lets r
theorem nil_inL {r:Nat}:InL r []:=fun x hx=>by cases hx
theorem InL.app {r:Nat} {a b:List Int} (h:InL r a) (k:InL r b):InL r (a++b):=fun x hx=>(List.mem_append.1 hx).elim (h x) (k x)
theorem InL.lt {r:Nat} {w:List Int} (hr:r≤3) (h:InL r w):LtW w:=fun x hx=>by
 have:=mem_lets.1 (h x hx);unfold Lt3;omega
theorem InL.red {r:Nat} {w:List Int} (h:InL r w):InL r (red [] w):=fun x hx=>by
 rcases red_mem hx with hx | hx
 ·cases hx
 ·exact h x hx
theorem InL.inv {r:Nat} (hr:r≤3) {w:List Int} (h:InL r w):InL r (invW w):=fun x hx=>by
 rw [invW_lt (h.lt hr)] at hx;obtain ⟨y,hy,rfl⟩:=List.mem_map.1 (List.mem_reverse.1 hx);have:=mem_lets.1 (h y hy);exact mem_lets.2 (by omega)
theorem InL.cjw {r:Nat} (hr:r≤3) {u z:List Int} (h:InL r u) (k:InL r z):InL r (cjw u z):=h.app (k.app (h.inv hr))
section
variable {r n:Nat} {es:List Ed}
theorem fin_r3 (h:IsFin r n es):r≤3:=by have:=h.cor.gr.rank;omega
theorem fin_rd (h:IsFin r n es) {w:List Int} (hw:InL r w) {v:Int} (hv:0≤v∧v < n):∃ u:Int,(0≤u∧u < n)∧Pa es v w u:=by
 obtain ⟨u,hu⟩:=tot_read h.cor.fol (fin_tot h) (w:=w) hv fun x hx=>by
  have:=mem_lets.1 (hw x hx);omega
 exact ⟨u,hu.rng h.cor.gr.all hv,hu⟩
theorem pm_get (h:IsFin r n es) {w:List Int} (hw:InL r w) {v:Nat} (hv:v < n) {u:Int}:(permTo es w n)[v]?=some u↔Pa es v w u:=by
 obtain ⟨t, -,ht⟩:=fin_rd h hw (v:=(v:Int)) (by omega);have e:=(goV_iff h.cor.fol).2 ht;unfold permTo;rw [List.getElem?_map,List.getElem?_range hv,Option.map_some,e];simp only [Option.getD_some,Option.some.injEq];constructor
 ·rintro rfl;exact ht
 ·exact fun k=>ht.det h.cor.fol k
theorem pm_wordP (h:IsFin r n es) {w:List Int} (hw:InL r w):wordP r n es w=permTo es w n:=wordP_yes h fun v hv=>by
 obtain ⟨t, -,ht⟩:=fin_rd h hw (v:=(v:Int)) (by omega);rw [(goV_iff h.cor.fol).2 ht];exact fun e=>by cases e
theorem pm_perm (h:IsFin r n es) {w:List Int} (hw:InL r w):IsPerm (permTo es w n):=by
 have h40:=h.cor.gr.size;refine ⟨by rw [permTo_len];omega,fun x hx=>?_,?_⟩
 ·obtain ⟨v,hv⟩:=List.mem_iff_getElem?.1 hx
  have hl:=(List.getElem?_eq_some_iff.1 hv).1;rw [permTo_len] at hl ⊢;exact ((pm_get h hw hl).1 hv).rng h.cor.gr.all (by omega)
 ·refine List.pairwise_iff_getElem.2 fun i j hi0 hj hij e0=>?_
  have e:(permTo es w n)[i]?=(permTo es w n)[j]?:=by rw [List.getElem?_eq_getElem hi0,List.getElem?_eq_getElem hj,e0]
  rw [permTo_len] at hj;obtain ⟨t, -,ht⟩:=fin_rd h hw (v:=(i:Int)) (by omega);have e1:=(pm_get h hw (show i < n by omega)).2 ht;have e2:=e.symm.trans e1;have:=Pa.det' h.cor.fol ht ((pm_get h hw hj).1 e2);omega
theorem pm_ext (h:IsFin r n es) {a b:List Int} (ha:InL r a) (hb:InL r b):permTo es a n=permTo es b n↔∀ v:Nat,v < n→∀ u,Pa es v a u↔Pa es v b u:=by
 constructor
 ·intro e v hv u
  rw [← pm_get h ha hv,← pm_get h hb hv,e]
 ·intro hk
  refine List.ext_getElem? fun v=>?_;by_cases hv:v < n
  ·obtain ⟨t, -,ht⟩:=fin_rd h ha (v:=(v:Int)) (by omega)
   rw [(pm_get h ha hv).2 ht,(pm_get h hb hv).2 ((hk v hv t).1 ht)]
  ·rw [List.getElem?_eq_none (by rw [permTo_len];omega),List.getElem?_eq_none (by rw [permTo_len];omega)]
theorem pm_app (h:IsFin r n es) {a b:List Int} (ha:InL r a) (hb:InL r b):composeP (permTo es a n) (permTo es b n)=permTo es (a++b) n:=by
 refine List.ext_getElem? fun v=>?_;by_cases hv:v < n
 ·obtain ⟨t,hti,ht⟩:=fin_rd h ha (v:=(v:Int)) (by omega)
  obtain ⟨t,rfl⟩:=Int.eq_ofNat_of_zero_le hti.1;obtain ⟨u, -,hu⟩:=fin_rd h hb (v:=(t:Int)) hti;rw [(pm_get h (ha.app hb) hv).2 (ht.app hu)];unfold composeP;rw [List.getElem?_map,(pm_get h ha hv).2 ht,Option.map_some,Int.toNat_natCast,List.getD_eq_getElem?_getD,(pm_get h hb (by omega)).2 hu]
  rfl
 ·rw [List.getElem?_eq_none (by unfold composeP;rw [List.length_map,permTo_len];omega),List.getElem?_eq_none (by rw [permTo_len];omega)]
theorem pm_red (h:IsFin r n es) {w:List Int} (hw:InL r w):permTo es (red [] w) n=permTo es w n:=by
 refine (pm_ext h hw.red hw).2 fun v hv u=>?_;obtain ⟨t, -,ht⟩:=fin_rd h hw (v:=(v:Int)) (by omega);have h2:=ht.red h.cor.fol;constructor
 ·intro k;rw [← h2.det h.cor.fol k];exact ht
 ·intro k;rw [← ht.det h.cor.fol k];exact h2
theorem pm_cmp (h:IsFin r n es) {a b:List Int} (ha:InL r a) (hb:InL r b):cmpX (permTo es a n) (permTo es b n)=permTo es (a++b) n:=by
 unfold cmpX;rw [if_pos ⟨pm_perm h ha,pm_perm h hb,by rw [permTo_len,permTo_len]⟩,pm_app h ha hb]
theorem pm_nil (h:IsFin r n es):permTo es [] n=upto n:=by
 unfold permTo upto;exact List.map_congr_left fun v _=>rfl
theorem pm_compose (h:IsFin r n es) {a b:List Int} (ha:InL r a) (hb:InL r b) {res:List Int} (hc:ComposeIs (wordP r n es a) (wordP r n es b) res):res=wordP r n es (red [] (a++b)):=by
 rw [pm_wordP h ha,pm_wordP h hb] at hc;rw [pm_wordP h (ha.app hb).red,pm_red h (ha.app hb),← pm_app h ha hb];exact hc.1 ⟨pm_perm h ha,pm_perm h hb,by rw [permTo_len,permTo_len]⟩
theorem inCore_iff (h:IsFin r n es) {w:List Int} (hw:InL r w):InCore r n es w↔∀ v:Nat,v < n→Pa es v w v:=by
 unfold InCore;rw [pm_wordP h hw,Int.toNat_natCast,← pm_nil h,pm_ext h hw (by intro x hx;cases hx)];constructor
 ·exact fun k v hv=>(k.2 v hv v).2 (Pa.nil es v)
 ·refine fun k=>⟨h,fun v hv u=>⟨fun hp=>(k v hv).det h.cor.fol hp,fun hp=>?_⟩⟩
  have:(v:Int)=u:=hp;rw [← this];exact k v hv
theorem pa_cjw (h:IsFin r n es) {a w:List Int} (ha:InL r a) (hw:InL r w) (hk:∀ v:Nat,v < n→Pa es v w v):∀ v:Nat,v < n→Pa es v (cjw a w) v:=fun v hv=>by
 obtain ⟨t,hti,ht⟩:=fin_rd h ha (v:=(v:Int)) (by omega);obtain ⟨t,rfl⟩:=Int.eq_ofNat_of_zero_le hti.1;exact ht.app ((hk t (by omega)).app (ht.inv h.cor.gr))
theorem core_conj (h:IsFin r n es) {w v:List Int} (hw:InL r w) (hv:InL r v) (hk:InCore r n es w):InCore r n es (red [] (cjw (invW v) w)):=by
 have h3:=fin_r3 h;have hi:=(hv.inv h3).cjw h3 hw;rw [inCore_iff h hi.red];exact fun u hu=>(pa_cjw h (hv.inv h3) hw ((inCore_iff h hw).1 hk) u hu).red h.cor.fol
theorem row_pm (h:IsFin r n es) {x:Int} (hx:x∈lets r):rowL n es x=permTo es [x] n:=by
 refine List.ext_getElem? fun v=>?_;by_cases hv:v < n
 ·unfold rowL
  rw [List.getElem?_map,List.getElem?_range hv,Option.map_some];have hn:=h.full v (by simpa using hv) x (by simpa using hx);exact ((pm_get h (w:=[x]) (fun y hy=>by rw [List.mem_singleton.1 hy];exact hx) hv).2 (pa_one.2 (sp_nextV hn))).symm
 ·rw [List.getElem?_eq_none (by rw [rowL_len];omega),List.getElem?_eq_none (by rw [permTo_len];omega)]
theorem lets_pos {i:Nat} (hi:i < r):((i:Int)+1)∈lets r:=mem_lets.2 (by omega)
theorem inL_one {x:Int} (hx:x∈lets r):InL r [x]:=fun y hy=>by rw [List.mem_singleton.1 hy];exact hx
theorem act_mem {e:Ed}:∀ {k:Nat} {l:List (List Int)},k≤l.length→(e∈actEs l k↔∃ (i v:Nat) (p:List Int),i < k∧l[i]?=some p∧v < p.length∧e=⟨v,(i:Int)+1,p.getD v 0⟩)
 | 0,l,_=>by simp [actEs]
 | k+1,l,hk=>by
  have hp:=List.getElem?_eq_getElem (l:=l) (i:=k) (by omega);rw [actEs_succ hp,List.mem_append,act_mem (k:=k) (by omega)];constructor
  ·rintro (⟨i,v,p,h1,h2⟩ | h1)
   ·exact ⟨i,v,p,by omega,h2⟩
   ·simp only [permE,List.mem_map,List.mem_range] at h1
    obtain ⟨v,hv,rfl⟩:=h1;exact ⟨k,v,_,by omega,hp,hv,rfl⟩
  ·rintro ⟨i,v,p,h1,h2,h3,rfl⟩
   by_cases hi:i=k
   ·subst hi
    rw [hp] at h2;obtain rfl:=Option.some.inj h2;right
    simp only [permE,List.mem_map,List.mem_range];exact ⟨v,h3,rfl⟩
   ·exact .inl ⟨i,v,p,by omega,h2,h3,rfl⟩
theorem own_action (h:IsFin r n es) {rr rs:Int} {res:List Ed} {b:Bool} (hres:GActIs r (actL n es r) rr rs res b):b=true∧rr=r∧rs=n∧res=es:=by
 have hr:=h.cor.gr.rank;have hs:=h.cor.gr.size;have hn0:n0L (actL n es r)=n:=by
  unfold n0L actL;obtain ⟨q,rfl⟩:∃ q,r=q+1:=⟨r - 1,by omega⟩
  rw [List.range_succ_eq_map];simp [rowL_len]
 have hok:GActOk r (actL n es r) n:=by
  refine ⟨hr,by rw [actL_len],by omega,fun p hp=>?_⟩;unfold actL at hp;obtain ⟨i,hi,rfl⟩:=List.mem_map.1 hp;have hi:=List.mem_range.1 hi;rw [row_pm h (lets_pos hi)];exact ⟨pm_perm h (inL_one (lets_pos hi)),permTo_len _ _ _⟩
 have hes:canon (actEs (actL n es r) (actL n es r).length)=es:=by
  refine (canon_eq h.cor.gr.asc fun e=>?_).symm;rw [act_mem (Nat.le_refl _),actL_len];have hrow:∀ i:Nat,i < r→(actL n es r)[i]?=some (rowL n es ((i:Int)+1)):=fun i hi=>by
   unfold actL;rw [List.getElem?_map,List.getElem?_range hi]
   rfl
  have hget:∀ (x:Int) (v:Nat),v < n→(rowL n es x).getD v 0=nextV es v x:=fun x v hv=>by
   unfold rowL;rw [List.getD_eq_getElem?_getD,List.getElem?_map,List.getElem?_range hv]
   rfl
  constructor
  ·intro he
   have hi:=h.cor.gr.all e he;unfold InG at hi;refine ⟨(e.l - 1).toNat,e.a.toNat,_,by omega,hrow _ (by omega),by rw [rowL_len];omega,?_⟩;rw [hget _ _ (by omega)];refine Ed.ext' (by simp only;omega) (by simp only;omega) ?_;simp only;rw [show (((e.l - 1).toNat:Nat):Int)+1=e.l by omega,show ((e.a.toNat:Nat):Int)=e.a by omega,nextV_sp h.cor.fol (sp_edge he (by omega))]
  ·rintro ⟨i,v,p,h1,h2,h3,rfl⟩
   rw [hrow i h1] at h2;obtain rfl:=Option.some.inj h2;rw [rowL_len] at h3;rw [hget _ _ h3];have h4:=sp_nextV (h.full v (by simpa using h3) _ (by simpa using lets_pos h1));rcases h4 with ⟨-,h5⟩ | ⟨h5, -⟩
   ·exact h5
   ·omega
 rcases hres with ⟨h1, -,h2,h3,h4⟩ | ⟨-,h1, -⟩
 ·rw [hn0,hes,core_self h.cor] at h3 h4
  exact ⟨h1,h2,h3,h4⟩
 ·rw [hn0] at h1
  exact absurd hok h1
theorem grpRow_pre {q:List Int}:∀ {t st st':List (List Int)},grpRow q t st=some st'→st <+: st'
 | [],st,st',h=>by
  rw [grpRow] at h;obtain rfl:=Option.some.inj h;exact List.prefix_rfl
 | p :: t,st,st',h=>by
  rw [grpRow] at h;split at h
  ·exact grpRow_pre h
  ·split at h
   ·cases h
   ·exact (List.prefix_append _ _).trans (grpRow_pre h)
theorem grpRow_has {q:List Int}:∀ {t st st':List (List Int)},grpRow q t st=some st'→∀ p∈t,cmpX q p∈st'
 | [],st,st',h,p,hp=>by cases hp
 | p :: t,st,st',h,p',hp=>by
  rw [grpRow] at h;split at h
  ·rename_i hin
   rcases List.mem_cons.1 hp with rfl | hp
   ·exact (grpRow_pre h).subset hin
   ·exact grpRow_has h p' hp
  ·split at h
   ·cases h
   ·rcases List.mem_cons.1 hp with rfl | hp
    ·exact (grpRow_pre h).subset (by simp)
    ·exact grpRow_has h p' hp
theorem grpRow_nd {q:List Int}:∀ {t st st':List (List Int)},st.Nodup→grpRow q t st=some st'→st'.Nodup
 | [],st,st',hn,h=>by
  rw [grpRow] at h;obtain rfl:=Option.some.inj h;exact hn
 | p :: t,st,st',hn,h=>by
  rw [grpRow] at h;split at h
  ·exact grpRow_nd hn h
  ·rename_i hin
   split at h
   ·cases h
   ·exact grpRow_nd (nodup_snoc.2 ⟨hn,hin⟩) h
theorem grpRow_P {P:List Int→Prop} {q:List Int}:∀ {t st st':List (List Int)},(∀ x∈st,P x)→(∀ p∈t,P (cmpX q p))→grpRow q t st=some st'→∀ x∈st',P x
 | [],st,st',h1,h2,h=>by
  rw [grpRow] at h;obtain rfl:=Option.some.inj h;exact h1
 | p :: t,st,st',h1,h2,h=>by
  rw [grpRow] at h;have h3:=fun p' hp=>h2 p' (List.mem_cons_of_mem p hp);split at h
  ·exact grpRow_P h1 h3 h
  ·split at h
   ·cases h
   ·refine grpRow_P (fun x hx=>?_) h3 h
    rcases List.mem_append.1 hx with hx | hx
    ·exact h1 x hx
    ·rw [List.mem_singleton.1 hx]
     exact h2 p List.mem_cons_self
theorem grpRun_facts {P:List Int→Prop} {act:List (List Int)} (hP:∀ q,P q→∀ p∈act,P (cmpX q p)):∀ (f i:Nat) {st:List (List Int)},201≤f+i→st.length≤200→st.Nodup→(∀ x∈st,P x) →
  (∀ j,j < i→∀ q,st[j]?=some q→∀ p∈act,cmpX q p∈st)→grpRun act f i st≠[] →
  (grpRun act f i st).Nodup∧(∀ x∈st,x∈grpRun act f i st)∧(∀ q∈grpRun act f i st,∀ p∈act,cmpX q p∈grpRun act f i st)∧∀ x∈grpRun act f i st,P x
 | 0,i,st,hf,hl,hn,hp,hc,hne=>by
  rw [grpRun];refine ⟨hn,fun x hx=>hx,fun q hq p hp'=>?_,hp⟩;obtain ⟨j,hj⟩:=List.mem_iff_getElem?.1 hq;have:=(List.getElem?_eq_some_iff.1 hj).1;exact hc j (by omega) q hj p hp'
 | f+1,i,st,hf,hl,hn,hp,hc,hne=>by
  cases hq:st[i]? with
  | none =>
   rw [grpRun_end (List.getElem?_eq_none_iff.1 hq)];refine ⟨hn,fun x hx=>hx,fun q hq' p hp'=>?_,hp⟩;obtain ⟨j,hj⟩:=List.mem_iff_getElem?.1 hq';have h1:=(List.getElem?_eq_some_iff.1 hj).1;have h2:=List.getElem?_eq_none_iff.1 hq;exact hc j (by omega) q hj p hp'
  | some q =>
   cases hr:grpRow q act st with
   | none=>exact absurd (grpRun_none hq hr) hne
   | some st' =>
    rw [grpRun_some hq hr] at hne ⊢;have hpre:=grpRow_pre hr;have hqP:=hp q (List.mem_of_getElem? hq);obtain ⟨a,b,c,d⟩:=grpRun_facts hP f (i+1) (st:=st') (by omega) (grpRow_len hl hr) (grpRow_nd hn hr) (grpRow_P hp (hP q hqP) hr) (fun j hj q' hq' p hp'=>by
     have hil:=(List.getElem?_eq_some_iff.1 hq).1;obtain ⟨q2,hq2⟩:∃ q2,st[j]?=some q2:=⟨_,List.getElem?_eq_getElem (by omega)⟩
     have e:=(prefix_get hpre hq2).symm.trans hq';obtain rfl:=Option.some.inj e;by_cases hji:j=i
     ·subst hji
      rw [hq] at hq2;obtain rfl:=Option.some.inj hq2;exact grpRow_has hr p hp'
     ·exact hpre.subset (hc j (by omega) q2 hq2 p hp')) hne
    exact ⟨a,fun x hx=>b x (hpre.subset hx),c,d⟩
theorem nd_sub {α:Type} [BEq α] [LawfulBEq α]:∀ {l m:List α},l.Nodup→(∀ x∈l,x∈m)→m.Nodup→m.length≤l.length→∀ x∈m,x∈l
 | [],m,_,_,_,h,x,hx=>by
  cases m with
  | nil=>exact hx
  | cons y t=>simp at h
 | a :: l,m,hl,hs,hm,h,x,hx=>by
  by_cases hxa:x=a
  ·rw [hxa];exact List.mem_cons_self
  ·have hl2:=List.nodup_cons.1 hl
   have ham:=hs a List.mem_cons_self;have h1:=List.length_erase_of_mem ham;refine List.mem_cons_of_mem _ (nd_sub (m:=m.erase a) hl2.2 (fun y hy=>?_) (hm.erase a) (by simp at h;omega) x ?_)
   ·have hya:y≠a:=fun e=>hl2.1 (e ▸ hy)
    exact (List.mem_erase_of_ne hya).2 (hs y (List.mem_cons_of_mem _ hy))
   ·exact (List.mem_erase_of_ne hxa).2 hx
structure GrpOk (r n:Nat) (es:List Ed) (L:List (List Int)):Prop where
 fin:IsFin r n es
 nd:L.Nodup
 one:permTo es [] n∈L
 word:∀ q∈L,∃ w,InL r w∧q=permTo es w n
 mul:∀ a,InL r a→permTo es a n∈L→∀ i:Nat,i < r→permTo es (a++[(i:Int)+1]) n∈L
theorem grp_ok (h:IsFin r n es) (hne:grpI r n es≠[]):GrpOk r n es (grpI r n es):=by
 rw [grpI_yes h] at hne ⊢;have hrow:∀ i:Nat,i < r→rowL n es ((i:Int)+1)∈actL n es r:=fun i hi=>List.mem_map.2 ⟨i,List.mem_range.2 hi,rfl⟩;obtain ⟨a,b,c,d⟩:=grpRun_facts (P:=fun q=>∃ w,InL r w∧q=permTo es w n) (act:=actL n es r) (fun q hq p hp=>by
  obtain ⟨w,hw,rfl⟩:=hq;obtain ⟨i,hi,rfl⟩:=List.mem_map.1 hp;have hi:=List.mem_range.1 hi;rw [row_pm h (lets_pos hi),pm_cmp h hw (inL_one (lets_pos hi))];exact ⟨_,hw.app (inL_one (lets_pos hi)),rfl⟩) 201 0 (st:=[upto n]) (by omega) (by simp) (by simp) (fun x hx=>by
   rw [List.mem_singleton.1 hx,← pm_nil h];exact ⟨[],nil_inL,rfl⟩) (fun j hj=>by omega) hne
 refine ⟨h,a,by rw [pm_nil h];exact b _ (by simp),d,fun w hw hin i hi=>?_⟩;have:=c _ hin _ (hrow i hi)
 rwa [row_pm h (lets_pos hi),pm_cmp h hw (inL_one (lets_pos hi))] at this
section
variable {L:List (List Int)}
theorem pm_cancel (h:IsFin r n es) {a b c:List Int} (ha:InL r a) (hb:InL r b) (hc:InL r c) (e:permTo es (a++c) n=permTo es (b++c) n):permTo es a n=permTo es b n:=by
 refine (pm_ext h ha hb).2 fun v hv u=>?_;have key:∀ {a b:List Int},InL r a→InL r b→permTo es (a++c) n=permTo es (b++c) n→∀ u,Pa es v a u→Pa es v b u:=by
  intro a b ha hb e u hp;have hu:=hp.rng h.cor.gr.all (by omega);obtain ⟨t, -,ht⟩:=fin_rd h hc hu;obtain ⟨q,h1,h2⟩:=pa_app.1 (((pm_ext h (ha.app hc) (hb.app hc)).1 e v hv t).1 (hp.app ht))
  rwa [Pa.det' h.cor.fol ht h2]
 exact ⟨key ha hb e u,key hb ha e.symm u⟩
theorem GrpOk.perm (h:GrpOk r n es L) {i:Nat} (hi:i < r):List.Perm (L.map fun q=>cmpX q (permTo es [(i:Int)+1] n)) L:=by
 have hx:=inL_one (lets_pos hi);have hmem:∀ q∈L,cmpX q (permTo es [(i:Int)+1] n)∈L:=fun q hq=>by
  obtain ⟨w,hw,rfl⟩:=h.word q hq;rw [pm_cmp h.fin hw hx];exact h.mul w hw hq i hi
 have hnd:(L.map fun q=>cmpX q (permTo es [(i:Int)+1] n)).Nodup:=by
  refine List.pairwise_map.2 (h.nd.imp_of_mem fun {p q} hp hq hne e=>hne ?_);obtain ⟨a,ha,rfl⟩:=h.word p hp;obtain ⟨b,hb,rfl⟩:=h.word q hq;rw [pm_cmp h.fin ha hx,pm_cmp h.fin hb hx] at e;exact pm_cancel h.fin ha hb hx e
 have hsub:∀ y∈L.map (fun q=>cmpX q (permTo es [(i:Int)+1] n)),y∈L:=fun y hy=>by
  obtain ⟨q,hq,rfl⟩:=List.mem_map.1 hy;exact hmem q hq
 exact (List.perm_ext_iff_of_nodup hnd h.nd).2 fun y=>⟨hsub y,nd_sub hnd hsub h.nd (by simp) y⟩
def cntV (L:List (List Int)) (v:Int):Nat:=L.countP fun q=>decide (q[0]?=some v)
theorem GrpOk.n0 (h:GrpOk r n es L):0 < n:=by have:=h.fin.cor.gr.size;omega
theorem GrpOk.cnt (h:GrpOk r n es L) {i:Nat} (hi:i < r) {v u:Int} (hs:Sp es v ((i:Int)+1) u):cntV L u=cntV L v:=by
 unfold cntV;rw [← (h.perm hi).countP_eq,List.countP_map];refine List.countP_congr fun q hq=>?_;obtain ⟨w,hw,rfl⟩:=h.word q hq;have hx:=inL_one (lets_pos hi);simp only [Function.comp,decide_eq_true_eq];rw [pm_cmp h.fin hw hx,pm_get h.fin (hw.app hx) h.n0,pm_get h.fin hw h.n0,pa_app];constructor
 ·rintro ⟨t,h1,h2⟩
  rwa [Pa.det' h.fin.cor.fol (pa_one.2 hs) h2]
 ·exact fun h1=>⟨v,h1,pa_one.2 hs⟩
theorem GrpOk.cnt_path (h:GrpOk r n es L):∀ {w:List Int} {u v:Int},Pa es u w v→cntV L v=cntV L u
 | [],u,v,hp=>by rw [show u=v from hp]
 | x :: w,u,v,⟨t,h1,h2⟩=>by
  rw [h.cnt_path h2];have hg:=h1.rng h.fin.cor.gr.all;rcases Int.lt_or_gt_of_ne hg.2.2.1 with hx | hx
  ·have:=h.cnt (i:=(-x - 1).toNat) (by omega) (v:=t) (u:=u) (by rw [show (((-x - 1).toNat:Nat):Int)+1 = -x by omega];exact h1.neg)
   exact this.symm
  ·exact h.cnt (i:=(x - 1).toNat) (by omega) (v:=u) (u:=t) (by rw [show (((x - 1).toNat:Nat):Int)+1=x by omega];exact h1)
theorem GrpOk.cnt0 (h:GrpOk r n es L) {v:Int} (hv:0≤v∧v < n):cntV L v=cntV L 0:=by
 obtain ⟨w,hw⟩:=h.fin.cor.rch v hv.1 hv.2;exact h.cnt_path hw
theorem sum_add_f (f g:Nat→Nat):∀ l:List Nat,(l.map fun v=>f v+g v).sum=(l.map f).sum+(l.map g).sum
 | []=>rfl
 | x :: l=>by
  simp only [List.map_cons,List.sum_cons];rw [sum_add_f f g l];omega
theorem sum_one (v:Nat):∀ n:Nat,((List.range n).map fun u=>if u=v then 1 else 0).sum=if v < n then 1 else 0
 | 0=>by simp
 | n+1=>by
  rw [List.range_succ,List.map_append,List.sum_append,sum_one v n];simp only [List.map_cons,List.map_nil,List.sum_cons,List.sum_nil];by_cases h1:v < n
  ·rw [if_pos h1,if_neg (by omega),if_pos (by omega)]
   rfl
  ·by_cases h2:n=v
   ·rw [if_neg h1,if_pos h2,if_pos (by omega)]
    rfl
   ·rw [if_neg h1,if_neg h2,if_neg (by omega)]
    rfl
theorem sum_cnt {n:Nat}:∀ (L:List (List Int)),(∀ q∈L,∃ v:Nat,v < n∧q[0]?=some (v:Int))→L.length=((List.range n).map fun (v:Nat)=>cntV L (v:Int)).sum
 | [],_=>by
  have:((List.range n).map fun (v:Nat)=>cntV [] (v:Int))=(List.range n).map fun _=>0:=List.map_congr_left fun v _=>rfl;rw [this];clear this
  induction n with
  | zero=>rfl
  | succ n ih=>rw [List.range_succ,List.map_append,List.sum_append,← ih (by simp)];rfl
 | q :: L,h=>by
  obtain ⟨v,hv,hq⟩:=h q List.mem_cons_self;have e:((List.range n).map fun (u:Nat)=>cntV (q :: L) (u:Int))=(List.range n).map fun (u:Nat)=>cntV L (u:Int)+if u=v then 1 else 0:=List.map_congr_left fun u _=>by
   unfold cntV;rw [List.countP_cons,hq];by_cases huv:u=v
   ·subst huv;simp
   ·rw [if_neg huv,if_neg]
    simp only [Option.some.injEq,decide_eq_true_eq];omega
  rw [e,sum_add_f,sum_one,if_pos hv,← sum_cnt L fun q' hq'=>h q' (List.mem_cons_of_mem _ hq'),List.length_cons]
theorem sum_const (c:Nat) (f:Nat→Nat):∀ n:Nat,(∀ v,v < n→f v=c)→((List.range n).map f).sum=n * c
 | 0,_=>by simp
 | n+1,h=>by
  rw [List.range_succ,List.map_append,List.sum_append,sum_const c f n fun v hv=>h v (by omega)];simp only [List.map_cons,List.map_nil,List.sum_cons,List.sum_nil];rw [h n (by omega),Nat.succ_mul];omega
theorem GrpOk.len (h:GrpOk r n es L):L.length=n * cntV L 0:=by
 rw [sum_cnt L fun q hq=>?_]
 ·exact sum_const _ _ n fun v hv=>h.cnt0 (by omega)
 ·obtain ⟨w,hw,rfl⟩:=h.word q hq
  obtain ⟨u,hu,hp⟩:=fin_rd h.fin hw (v:=0) (by have:=h.n0;omega);obtain ⟨u,rfl⟩:=Int.eq_ofNat_of_zero_le hu.1;exact ⟨u,by omega,(pm_get h.fin hw h.n0).2 hp⟩
theorem GrpOk.all (h:GrpOk r n es L) {w:List Int} (hw:InL r w):permTo es w n∈L:=by
 have key:∀ (k:Nat) (w:List Int),w.length=k→InL r w→permTo es w n∈L:=by
  intro k
  induction k with
  | zero =>
   intro w hk _;rw [List.length_eq_zero_iff.1 hk];exact h.one
  | succ k ih =>
   intro w hk hw;rcases snoc_cases w with rfl | ⟨t,x,rfl⟩
   ·simp at hk
   ·have ht:InL r t:=fun y hy=>hw y (List.mem_append_left _ hy)
    have hx:=mem_lets.1 (hw x (by simp));have hin:=ih t (by simpa using hk) ht;rcases Int.lt_or_gt_of_ne hx.1 with hn | hp
    ·have hi:(-x - 1).toNat < r:=by omega
     have e:(((-x - 1).toNat:Nat):Int)+1 = -x:=by omega
     have hp:=(h.perm hi).mem_iff.2 hin;obtain ⟨q,hq,hqe⟩:=List.mem_map.1 hp;obtain ⟨a,ha,rfl⟩:=h.word q hq;rw [pm_cmp h.fin ha (inL_one (lets_pos hi)),e] at hqe;have hnx:InL r [-x]:=by rw [← e];exact inL_one (lets_pos hi)
     have hxx:InL r [x]:=inL_one (hw x (by simp));have:permTo es (t++[x]) n=permTo es a n:=by
      refine (pm_cancel h.fin ha hw hnx ?_).symm;rw [hqe,List.append_assoc];refine (pm_ext h.fin ht (ht.app (hxx.app hnx))).2 fun v hv u=>?_;constructor
      ·intro hp1
       have hu:=hp1.rng h.fin.cor.gr.all (by omega);obtain ⟨z, -,hz⟩:=fin_rd h.fin hxx hu;exact hp1.app (hz.app (pa_one.2 (pa_one.1 hz).neg))
      ·intro hp1
       obtain ⟨z,h1,h2⟩:=pa_app.1 hp1;obtain ⟨y,h3,h4⟩:=pa_app.1 h2;have h5:=(pa_one.1 h3).neg
       rwa [← h.fin.cor.fol.det h5 (pa_one.1 h4)]
     rw [this];exact hq
    ·have:=h.mul t ht hin (x - 1).toNat (by omega)
     rwa [show (((x - 1).toNat:Nat):Int)+1=x by omega] at this
 exact key _ w rfl hw
def Nrm (r s:Int) (es:List Ed):Prop:=(IsCor r s es∧es=[]) ∨ (IsFin r s es∧∀ v:Nat,v < s.toNat→moveA r s es v=(s,es))
theorem cnt_one {P:List Int→Bool}:∀ {L:List (List Int)},L.Nodup→∀ {a:List Int},a∈L→P a=true→(L.countP P=1↔∀ q∈L,P q=true→q=a)
 | [],_,a,ha,_=>by cases ha
 | b :: L,hn,a,ha,hp=>by
  have hn2:=List.nodup_cons.1 hn;rw [List.countP_cons];rcases List.mem_cons.1 ha with rfl | ha
  ·rw [if_pos hp]
   constructor
   ·intro h q hq hpq
    rcases List.mem_cons.1 hq with rfl | hq
    ·rfl
    ·have h0:L.countP P=0:=by omega
     exact absurd hpq (by simpa using List.countP_eq_zero.1 h0 q hq)
   ·intro h
    have h0:L.countP P=0:=List.countP_eq_zero.2 fun q hq hpq=>hn2.1 (by rw [← h q (List.mem_cons_of_mem _ hq) hpq];exact hq);omega
  ·have hba:b≠a:=fun e=>hn2.1 (e ▸ ha)
   constructor
   ·intro h q hq hpq
    have h1:0 < L.countP P:=List.countP_pos_iff.2 ⟨a,ha,hp⟩;have hb:P b≠true:=fun hb=>by rw [if_pos hb] at h;omega
    rw [if_neg hb] at h;rcases List.mem_cons.1 hq with rfl | hq
    ·exact absurd hpq hb
    ·exact (cnt_one hn2.2 ha hp).1 (by omega) q hq hpq
   ·intro h
    have hb:P b≠true:=fun hb=>hba (h b List.mem_cons_self hb);rw [if_neg hb,(cnt_one hn2.2 ha hp).2 fun q hq=>h q (List.mem_cons_of_mem _ hq)]
theorem GrpOk.normal (h:GrpOk r n es L):Nrm r n es↔L.length=n:=by
 have hn0:=h.n0;have hf:=h.fin.cor.fol;have h3:=fin_r3 h.fin;have hr1:=h.fin.cor.gr.rank;have hlen:=h.len;have hone:cntV L 0=1↔∀ w,InL r w→Pa es 0 w 0→∀ v:Nat,v < n→Pa es v w v:=by
  unfold cntV;rw [cnt_one h.nd h.one (by simp only [decide_eq_true_eq];exact (pm_get h.fin nil_inL hn0).2 (Pa.nil es _))];constructor
  ·intro k w hw hp v hv
   have:=k _ (h.all hw) (by simp only [decide_eq_true_eq];exact (pm_get h.fin hw hn0).2 hp);exact ((pm_ext h.fin hw nil_inL).1 this v hv v).2 (Pa.nil es _)
  ·intro k q hq hp
   obtain ⟨w,hw,rfl⟩:=h.word q hq;simp only [decide_eq_true_eq] at hp;have:=k w hw ((pm_get h.fin hw hn0).1 hp);refine (pm_ext h.fin hw nil_inL).2 fun v hv u=>⟨fun hp1=>(this v hv).det hf hp1,fun hp1=>?_⟩
   have e:(v:Int)=u:=hp1;rw [← e];exact this v hv
 have hl1:L.length=n↔cntV L 0=1:=by
  rw [hlen];constructor
  ·intro e
   have:n * cntV L 0=n * 1:=by omega
   exact Nat.eq_of_mul_eq_mul_left hn0 this
  ·intro e;rw [e,Nat.mul_one]
 rw [hl1,hone];constructor
 ·rintro (⟨-,rfl⟩ | ⟨-,hm⟩)
  ·exfalso
   have:=h.fin.full 0 (by simpa using hn0) 1 (mem_lets.2 (by omega));have h2:=sp_nextV this;rcases h2 with ⟨-,h⟩ | ⟨h, -⟩
   ·cases h
   ·omega
  ·intro w hw hp v hv
   have lw:=hw.lt h3;have e:=hm v (by simpa using hv);have h1:=moveA_lang hf (v:=(v:Int)) (by omega) lw;rw [e] at h1;have h2:=h1.1 (InS.mk hf hp);obtain ⟨u, -,hu⟩:=fin_rd h.fin hw (v:=(v:Int)) (by omega)
   rwa [(hu.red hf).det hf h2] at hu
 ·intro hk
  refine .inr ⟨h.fin,fun v hv=>?_⟩;have hvn:v < n:=by simpa using hv
  obtain ⟨e1,e2⟩:=core_uniqI (move_cor hf (v:=(v:Int)) (by omega)) h.fin.cor fun z lz=>by
   rw [moveA_lang hf (by omega) lz];have hin:∀ {u:Int},Pa es u (red [] z) u→0≤u∧u < n→InL r (red [] z):=fun {u} hp hu x hx=>by
    have:=hp.lets h.fin.cor.gr.all x hx;exact mem_lets.2 (by omega)
   constructor
   ·intro hp
    have hw:=hin hp (by omega);obtain ⟨t,ht⟩:=h.fin.cor.rch v (by omega) (by omega);have htl:InL r t:=fun x hx=>by
     have:=ht.lets h.fin.cor.gr.all x hx;exact mem_lets.2 (by omega)
    -- t z t⁻¹ is a loop at the base,so it moves nothing
    have h4:=hk (cjw t (red [] z)) (htl.cjw h3 hw) (ht.app (hp.app (ht.inv h.fin.cor.gr)));have h5:=pa_cjw h.fin (htl.inv h3) (htl.cjw h3 hw) h4 0 hn0;have h6:=h5.red hf;have l3:=lt_red lz;rw [show red [] (cjw (invW t) (cjw t (red [] z)))=red [] z from (cjw_inv' (htl.lt h3) l3).trans (red_idem lz)] at h6;exact h6
   ·intro hp
    exact hk _ (hin hp (by omega)) hp v hvn
  exact Prod.ext e1 e2
end
end
end
section
open Go.RowKit
theorem impl_IsTrivial (r s:Int) (A:Option Addr) (es:List Ed) (c:Nat) (w:World) (lo hi:Nat) (hr:RG w lo hi A es) (hl:es.length≤1048576) (hcl:es.length≤c) (b:Bool) (hb:b=true↔IsCor r s es∧s=1∧es=[]) :
  Calls Tryz.prog 158 #[graV r s A es.length c] w fun e w'=>e=.returned (.bool b)∧Mid 0 0 w w':=by
 have hm0:Mid 0 0 w (w.alloc (.cells #[.int .i64 r,.int .i64 s,.slice A es.length c] 26)):=Mid.alloc _ _;have B0:=Box.new w #[.int .i64 r,.int .i64 s,.slice A es.length c] 26;obtain ⟨bc,hbc⟩:∃ b:Bool,b=true↔IsCor r s es:=by classical exact ⟨decide (IsCor r s es),by simp⟩
 have HB:=Lib.hid hb;have HBC:=Lib.hid hbc;clear hb hbc;have p0:=B0.cell 0 rfl;have p1:=B0.cell 1 rfl;have p2:=B0.cell 2 rfl;go_enter Tryz.func158,Tryz.ntmps158
 go_wp2_with fail;generalize w.alloc (.cells #[.int .i64 r,.int .i64 s,.slice A es.length c] 26)=w1 at hm0 B0 p0 p1 p2 ⊢;with_reducible refine (impl_IsCore r s A es c w1 lo hi (hr.mid hm0 oZl) hl hcl bc HBC.out).mono ?_
 rintro en w2 ⟨rfl,hm2⟩;clear p0 p1 p2;replace B0:=B0.mid hm2 oZr;replace hm0:=hm0.trans hm2;cases bc with
 | false =>
  obtain rfl:b=false:=by
   cases b with
   | false=>rfl
   | true=>exact absurd (HBC.out.2 (HB.out.1 rfl).1) (by simp)
  go_wp2_with fail;go_ret;exact ⟨rfl,hm0⟩
 | true =>
  have hco:=HBC.out.1 rfl;by_cases hs1:s=1
  ·have hs1b:(s == 1)=true:=by simp [hs1]
   have HS:=Lib.hid hs1;have HCO:=Lib.hid hco;clear hs1 hco;obtain ⟨L,hL⟩:∃ l,es.length=l:=⟨_,rfl⟩
   rw [hL] at B0;by_cases he:L=0
   ·obtain rfl:b=true:=HB.out.2 ⟨HCO.out,HS.out,List.length_eq_zero_iff.1 (by omega)⟩
    subst he;clear hL;have p0:=B0.cell 0 rfl;have p1:=B0.cell 1 rfl;have p2:=B0.cell 2 rfl;go_wp2_with fail;go_ret;exact ⟨rfl,hm0⟩
   ·obtain rfl:b=false:=by
     cases b with
     | false=>rfl
     | true=>exact absurd (show L=0 by rw [← hL,(HB.out.1 rfl).2.2];rfl) he
    have he2:((L:Int) == 0)=false:=by simp;omega
    have he3:¬ (L:Int)=0:=by omega
    clear hL;have p0:=B0.cell 0 rfl;have p1:=B0.cell 1 rfl;have p2:=B0.cell 2 rfl;go_wp2_with fail;go_ret;exact ⟨rfl,hm0⟩
  ·obtain rfl:b=false:=by
    cases b with
    | false=>rfl
    | true=>exact absurd (HB.out.1 rfl).2.1 hs1
   have hs1b:(s == 1)=false:=by simp [hs1]
   clear hco;have p0:=B0.cell 0 rfl;have p1:=B0.cell 1 rfl;have p2:=B0.cell 2 rfl;go_wp2_with fail;go_ret;exact ⟨rfl,hm0⟩
noncomputable def nrmC (r n:Nat) (es:List Ed) (k:Nat):Nat:=by
 classical
 exact ((List.range k).filter fun (v:Nat)=>decide (moveA r n es (v:Int)=((n:Int),es))).length
theorem nrmC_succ (r n:Nat) (es:List Ed) (k:Nat) (b:Bool) (hb:b=true↔moveA r n es (k:Int)=((n:Int),es)):nrmC r n es (k+1)=nrmC r n es k+(if b=true then 1 else 0):=by
 classical
 unfold nrmC;rw [List.range_succ,List.filter_append,List.length_append];cases b with
 | true=>simp [hb.1 rfl]
 | false =>
  have:¬ moveA r n es (k:Int)=((n:Int),es):=fun h=>by simpa using hb.2 h
  simp [this]
theorem nrmC_le (r n:Nat) (es:List Ed) (k:Nat):nrmC r n es k≤k:=by
 classical
 unfold nrmC;have:=List.length_filter_le (fun v=>decide (moveA r n es ((v:Nat):Int)=((n:Int),es))) (List.range k)
 rwa [List.length_range] at this
theorem nrmC_all (r n:Nat) (es:List Ed):nrmC r n es n=n↔∀ v:Nat,v < n→moveA r n es (v:Int)=((n:Int),es):=by
 classical
 unfold nrmC;have h:=List.length_filter_eq_length_iff (l:=List.range n) (p:=fun v=>decide (moveA r n es ((v:Nat):Int)=((n:Int),es)));rw [List.length_range] at h;rw [h];simp
theorem impl_NormalizerWordsF (r n:Nat) (A:Option Addr) (es:List Ed) (c:Nat) (w:World) (lo hi:Nat) (hr:RG w lo hi A es) (hlo:hi≤w.heap.size) (hcl:es.length≤c) (hf:IsFin r n es) :
  Calls Tryz.prog 159 #[graV r n A es.length c] w fun e w'=>∃ A1 c1,e=.returned (.slice A1 (nrmC r n es n) c1)∧Mid 0 0 w w':=by
 have hsz:=hf.cor.gr.size;have hel:=hf.cor.gr.len;have HF:=Lib.hid hf;clear hf;have hm0:Mid 0 0 w ((w.alloc (.cells #[.int .i64 r,.int .i64 n,.slice A es.length c] 26)).alloc (.cells #[] 34)):=(Mid.alloc _ _).trans (Mid.alloc _ _);have B0:=(Box.new w #[.int .i64 r,.int .i64 n,.slice A es.length c] 26).mid (Mid.alloc _ (.cells #[] 34)) oZr;have ho:=owns_empty (w.alloc (.cells #[.int .i64 r,.int .i64 n,.slice A es.length c] 26)) 34 1;rw [World.size_alloc] at ho;replace hr:=hr.mid hm0 oZl;go_enter Tryz.func159,Tryz.ntmps159
 have p0:=B0.cell 0 rfl;have p1:=B0.cell 1 rfl;have p2:=B0.cell 2 rfl;go_wp2_with fail;try rw [World.size_alloc]
 generalize (w.alloc (.cells #[.int .i64 r,.int .i64 n,.slice A es.length c] 26)).alloc (.cells #[] 34)=w1 at hm0 B0 ho hr p0 p1 p2 ⊢;with_reducible refine (impl_IsFiniteIndex r n A es c w1 lo hi hr (by omega) hcl true (iff_of_true rfl HF.out)).mono ?_
 rintro en w2 ⟨rfl,hm2⟩;clear p0 p1 p2;replace B0:=B0.mid hm2 oZr;replace hm0:=hm0.trans hm2;replace hr:=hr.mid hm2 oZl;replace ho:=owns_mid ho hm2 oZl;have hsb:=B0.1;obtain ⟨g,hg⟩:∃ g,w.heap.size=g:=⟨_,rfl⟩
 have HN0:Hid (0=nrmC r n es 0):=Lib.hid (by simp [nrmC]);clear hm2;rw [hg] at ho B0 hsb hlo;go_wp2_with fail;try rw [hg]
 have hwg:w.heap.size≤g:=by omega
 clear hg;have hsg:g+1≤w2.heap.size:=hsb;clear hsb;go_loopw [3,4] (fun lv iv wr=>∃ (i L:Nat) (Ax:Option Addr) (cx:Nat) (vs:List Value),iv=.int .i64 i∧lv=.slice Ax L cx∧i≤n∧Hid (L=nrmC r n es i)∧L≤i∧wr.ownsRow (g+1) 34 1 (.slice Ax L cx) L vs∧RG wr lo hi A es∧Box wr g [.int .i64 r,.int .i64 n,.slice A es.length c]∧g+1≤wr.heap.size∧Mid 0 0 w wr) (fun _ iv _=>n - (intOf iv).toNat)
 case atStart=>exact ⟨0,0,_,_,_,by go_num,rfl,Nat.zero_le _,HN0,Nat.le_refl _,ho,hr,B0,hsg,hm0⟩
 case round =>
  clear ho hr B0 hsg hm0 HN0;obtain ⟨i,L,Ax,cx,vs,rfl,rfl,hi2,HN,hLi,ho,hr,B0,hsg,hm⟩:=hrel;by_cases hlt:i < n
  ·have hlt2:(i:Int) < (n:Int):=by omega
   have p0:=B0.cell 0 rfl;have p1:=B0.cell 1 rfl;have p2:=B0.cell 2 rfl;go_wp2_with fail;obtain ⟨rs,res,hmv⟩:∃ a b,moveA r n es (i:Int)=(a,b):=⟨_,_,rfl⟩
   have hgl:=(moveA_gr HF.out.cor.gr (show 0≤(i:Int)∧(i:Int) < (n:Int) by omega)).len;rw [hmv] at hgl;have hMI:MoveIs r n es (i:Int) rs res true:=.inl ⟨rfl,⟨HF.out.cor.fol,by omega,by omega⟩,by rw [hmv],by rw [hmv]⟩;obtain ⟨b,hb⟩:∃ b:Bool,b=true↔moveA r n es (i:Int)=((n:Int),es):=by classical exact ⟨decide (moveA r n es (i:Int)=((n:Int),es)),by simp⟩
   have HNS:=Lib.hid (nrmC_succ r n es i b hb);have HB:Hid (b=true↔(r:Int)=r∧rs=n∧res=es):=Lib.hid (by rw [hb,hmv];simp);have HMI:=Lib.hid hMI;simp only at hgl;clear hmv hMI hb;with_reducible refine (impl_MoveBase r n A es c (i:Int) _ lo hi hr (by omega) hcl (by omega) rs res true HMI.out).mono ?_
   rintro en w3 ⟨A1,c1,rfl,o1,m3⟩;clear p0 p1 p2;have al:=Mid.alloc w3 (.cells #[.int .i64 r,.int .i64 rs,.slice A1 res.length c1] 26);have B5:=Box.new w3 #[.int .i64 r,.int .i64 rs,.slice A1 res.length c1] 26;have mm:=m3.trans al;replace B0:=B0.mid mm oZr;replace hr:=hr.mid mm oZl;replace ho:=owns_mid ho mm oZl;replace hm:=hm.trans mm;replace hsg:=Nat.le_trans hsg mm.size;have o2:=o1.mid al oZl;obtain ⟨gb,hgb⟩:∃ x,w3.heap.size=x:=⟨_,rfl⟩
   rw [hgb] at B5 o2;obtain ⟨w4,hw4⟩:∃ x,w3.alloc (.cells #[.int .i64 r,.int .i64 rs,.slice A1 res.length c1] 26)=x:=⟨_,rfl⟩
   rw [hw4] at B0 B5 hr ho hm hsg o2;clear o1 m3 al mm;have p0:=B0.cell 0 rfl;have p1:=B0.cell 1 rfl;have p2:=B0.cell 2 rfl;have q0:=B5.cell 0 rfl;have q1:=B5.cell 1 rfl;have q2:=B5.cell 2 rfl;have hB5:=B5.1;have hB0:=B0.1;go_wp2_with fail;try rw [hw4]
   clear hw4 hgb;with_reducible refine (impl_EqualGraphs r rs A1 res c1 r n A es c _ _ _ _ _ (OG.rg o2) hr (by omega) (by omega) b (HB.out.trans (by simp))).mono ?_
   rintro en w5 ⟨rfl,m5⟩;clear p0 p1 p2 q0 q1 q2 B5 o2 hB5 hB0;replace B0:=B0.mid m5 oZr;replace hr:=hr.mid m5 oZl;replace ho:=owns_mid ho m5 oZl;replace hm:=hm.trans m5;replace hsg:=Nat.le_trans hsg m5.size;clear m5;cases b with
   | false =>
    go_wp2_with fail;go_roundw
    case rel=>exact ⟨i+1,L,Ax,cx,vs,by go_num,rfl,by omega,Lib.hid (by have h1:=HNS.out;have h2:=HN.out;simp at h1;omega),by omega,ho,hr,B0,hsg,hm⟩
    case measure=>simp [intOf];omega
   | true =>
    have p0:=B0.cell 0 rfl;have p1:=B0.cell 1 rfl;have p2:=B0.cell 2 rfl;go_wp2_with fail;with_reducible refine (impl_TreeWord r n i A es c _ lo hi hr hcl HF.out.cor hlt).mono ?_
    rintro en w6 ⟨A6,c6,rfl,h6,m6⟩;clear p0 p1 p2 h6;obtain ⟨W6,hW6⟩:∃ x,(wordV r es (i:Int)).length=x:=⟨_,rfl⟩
    rw [hW6];clear hW6;replace B0:=B0.mid m6 oZr;replace hr:=hr.mid m6 oZl;replace ho:=owns_mid ho m6 oZl;replace hm:=hm.trans m6;replace hsg:=Nat.le_trans hsg m6.size;clear m6;go_wp2_with (at_builtin;refine wpList_push (news:=[.slice A6 W6 c6]) rfl _ _ 41 rfl (g+1) 34 (.slice none 0 0) 1 24 undSSI infoSI rfl (by decide) _ _ _ rfl ho 1 rfl rfl ?c1 ?c2 ?c3 hsg ?next)
    case c1 =>
     intro u hu;simp at hu;subst hu
     rfl
    case c2=>unfold maxLen;omega
    case c3=>omega
    case next =>
     intro v7 w7 ho7 hgr7 hat7;obtain ⟨A7,c7,rfl, -, -⟩:=owns_shape ho7;have m7:=Mid.of_grownRow ho hgr7;go_wp2_with fail;go_roundw
     case rel=>exact ⟨i+1,L+1,A7,c7,_,by go_num,rfl,by omega,Lib.hid (by have h1:=HNS.out;have h2:=HN.out;simp at h1;omega),by omega,ho7,hr.mid m7 (Or.inr (by omega)),B0.mid m7 (Or.inl (by omega)),Nat.le_trans hsg m7.size,hm.transNew m7 (Or.inl (by omega))⟩
     case measure=>simp [intOf];omega
  ·have hlt2:¬ (i:Int) < (n:Int):=by omega
   obtain rfl:i=n:=by omega
   have p0:=B0.cell 0 rfl;have p1:=B0.cell 1 rfl;have p2:=B0.cell 2 rfl;go_wp2_with fail;go_ret;exact ⟨⟨Ax,cx,by rw [← HN.out];rfl⟩,hm⟩
theorem impl_IsNormal (r s:Int) (A:Option Addr) (es:List Ed) (c:Nat) (w:World) (lo hi:Nat) (hr:RG w lo hi A es) (hl:es.length≤1048576) (hcl:es.length≤c) (b:Bool) (hb:b=true↔Nrm r s es) :
  Calls Tryz.prog 84 #[graV r s A es.length c] w fun e w'=>e=.returned (.bool b)∧Mid 0 0 w w':=by
 have hm0:Mid 0 0 w (w.alloc (.cells #[.int .i64 r,.int .i64 s,.slice A es.length c] 26)):=Mid.alloc _ _;have B0:=Box.new w #[.int .i64 r,.int .i64 s,.slice A es.length c] 26;obtain ⟨bt,hbt⟩:∃ b:Bool,b=true↔IsCor r s es∧s=1∧es=[]:=by classical exact ⟨decide (IsCor r s es∧s=1∧es=[]),by simp⟩
 obtain ⟨bf,hbf⟩:∃ b:Bool,b=true↔IsFin r s es:=by classical exact ⟨decide (IsFin r s es),by simp⟩
 have htn:(IsCor r s es∧s=1∧es=[])↔(IsCor r s es∧es=[]):=⟨fun h=>⟨h.1,h.2.2⟩,fun h=>⟨h.1,no_edges (h.2 ▸ h.1),h.2⟩⟩
 have HB:=Lib.hid hb;have HT:=Lib.hid hbt;have HF:=Lib.hid hbf;have HTN:=Lib.hid htn;clear hb hbt hbf htn;have hrh:=hr.1;replace hr:=hr.mid hm0 oZl;go_enter Tryz.func84,Tryz.ntmps84
 go_wp2_with fail;generalize w.alloc (.cells #[.int .i64 r,.int .i64 s,.slice A es.length c] 26)=w1 at hm0 B0 hr ⊢;have hmd:=Mid.drew1 w1;replace B0:=B0.mid hmd oZr;replace hm0:=hm0.trans hmd;replace hr:=hr.mid hmd oZl;clear hmd;have p0:=B0.cell 0 rfl;have p1:=B0.cell 1 rfl;have p2:=B0.cell 2 rfl;obtain ⟨g,hg⟩:∃ g,w.heap.size=g:=⟨_,rfl⟩
 rw [hg] at B0 p0 p1 p2 hrh;try rw [hg]
 clear hg;refine wp_region_Z (S:=(fun w'=>w'.cell? ⟨g,0,none⟩=some (.int .i64 r)∧w'.cell? ⟨g,1,none⟩=some (.int .i64 s)∧w'.cell? ⟨g,2,none⟩=some (.slice A es.length c))) [] (by kernel_rfl) ⟨p0,p1,p2⟩ ?_;generalize World.drew w1=wz at B0 hr hm0 p0 p1 p2 ⊢;have hS:wz.cell? ⟨g,0,none⟩=some (.int .i64 r)∧wz.cell? ⟨g,1,none⟩=some (.int .i64 s)∧wz.cell? ⟨g,2,none⟩=some (.slice A es.length c):=⟨p0,p1,p2⟩
 have gl:=B0.1;refine tkZ [] 0 rfl hS ?_;try simp only [Act.put,zs1,zs2,zs3,zs4,zs5,zs6]
 clear hS p0 p1 p2;refine rdZ 1 rfl (fun K hK=>?_)
 (go_simp;(with_reducible refine (impl_IsTrivial r s A es c wz lo hi hr hl hcl bt HT.out).mono ?_);rintro en w2 ⟨rfl,m2⟩;have B2:=B0.mid m2 oZr;go_wp2_with fail)
 refine hK.out _ _ (Or.inr ⟨B2.cell 0 rfl,B2.cell 1 rfl,B2.cell 2 rfl⟩) (fun _=>?_);clear hK K;try simp only [Act.put,zs1,zs2,zs3,zs4,zs5,zs6]
 replace hr:=hr.mid m2 oZl;replace hm0:=hm0.trans m2;have gl2:=B2.1;clear m2 B0 gl;cases bt with
 | true =>
  obtain rfl:b=true:=HB.out.2 (.inl (HTN.out.1 (HT.out.1 rfl)));refine tkZ [] 2 rfl (And.intro (B2.cell 0 rfl) (And.intro (B2.cell 1 rfl) (B2.cell 2 rfl))) ?_;try simp only [Act.put,zs1,zs2,zs3,zs4,zs5,zs6]
  refine wpAnyZ_takeC [] (i:=3) rfl (by kernel_rfl) (by kernel_rfl) (by kernel_rfl) (by kernel_rfl) (fun _ _ _ h=>h) (Or.inr ⟨by rfl,rfl⟩) (And.intro (B2.cell 0 rfl) (And.intro (B2.cell 1 rfl) (B2.cell 2 rfl))) ?_;try simp only [Act.put,zs1,zs2,zs3,zs4,zs5,zs6]
  refine wpAnyZ_takeC [] (i:=4) rfl (by kernel_rfl) (by kernel_rfl) (by kernel_rfl) (by kernel_rfl) (fun _ _ _ h=>h) (Or.inr ⟨by rfl,rfl⟩) (And.intro (B2.cell 0 rfl) (And.intro (B2.cell 1 rfl) (B2.cell 2 rfl))) ?_;try simp only [Act.put,zs1,zs2,zs3,zs4,zs5,zs6]
  refine wpAnyZ_takeC [] (i:=5) rfl (by kernel_rfl) (by kernel_rfl) (by kernel_rfl) (by kernel_rfl) (fun _ _ _ h=>h) (Or.inr ⟨by rfl,rfl⟩) (And.intro (B2.cell 0 rfl) (And.intro (B2.cell 1 rfl) (B2.cell 2 rfl))) ?_;try simp only [Act.put,zs1,zs2,zs3,zs4,zs5,zs6]
  refine wpAnyZ_takeC [] (i:=6) rfl (by kernel_rfl) (by kernel_rfl) (by kernel_rfl) (by kernel_rfl) (fun _ _ _ h=>h) (Or.inr ⟨by rfl,rfl⟩) (And.intro (B2.cell 0 rfl) (And.intro (B2.cell 1 rfl) (B2.cell 2 rfl))) ?_;try simp only [Act.put,zs1,zs2,zs3,zs4,zs5,zs6]
  refine wpAnyZ_takeC [] (i:=7) rfl (by kernel_rfl) (by kernel_rfl) (by kernel_rfl) (by kernel_rfl) (fun _ _ _ h=>h) (Or.inr ⟨by rfl,rfl⟩) (And.intro (B2.cell 0 rfl) (And.intro (B2.cell 1 rfl) (B2.cell 2 rfl))) ?_;try simp only [Act.put,zs1,zs2,zs3,zs4,zs5,zs6]
  refine wpAnyZ_takeC [] (i:=8) rfl (by kernel_rfl) (by kernel_rfl) (by kernel_rfl) (by kernel_rfl) (fun _ _ _ h=>h) (Or.inr ⟨by rfl,rfl⟩) (And.intro (B2.cell 0 rfl) (And.intro (B2.cell 1 rfl) (B2.cell 2 rfl))) ?_;try simp only [Act.put,zs1,zs2,zs3,zs4,zs5,zs6]
  refine wpAnyZ_takeC [] (i:=9) rfl (by kernel_rfl) (by kernel_rfl) (by kernel_rfl) (by kernel_rfl) (fun _ _ _ h=>h) (Or.inr ⟨by rfl,rfl⟩) (And.intro (B2.cell 0 rfl) (And.intro (B2.cell 1 rfl) (B2.cell 2 rfl))) ?_;try simp only [Act.put,zs1,zs2,zs3,zs4,zs5,zs6]
  refine wpAnyZ_takeC [] (i:=10) rfl (by kernel_rfl) (by kernel_rfl) (by kernel_rfl) (by kernel_rfl) (fun _ _ _ h=>h) (Or.inr ⟨by rfl,rfl⟩) (And.intro (B2.cell 0 rfl) (And.intro (B2.cell 1 rfl) (B2.cell 2 rfl))) ?_;try simp only [Act.put,zs1,zs2,zs3,zs4,zs5,zs6]
  refine wpAnyZ_takeC [] (i:=11) rfl (by kernel_rfl) (by kernel_rfl) (by kernel_rfl) (by kernel_rfl) (fun _ _ _ h=>h) (Or.inr ⟨by rfl,rfl⟩) (And.intro (B2.cell 0 rfl) (And.intro (B2.cell 1 rfl) (B2.cell 2 rfl))) ?_;try simp only [Act.put,zs1,zs2,zs3,zs4,zs5,zs6]
  refine wpAnyZ_takeC [] (i:=12) rfl (by kernel_rfl) (by kernel_rfl) (by kernel_rfl) (by kernel_rfl) (fun _ _ _ h=>h) (Or.inr ⟨by rfl,rfl⟩) (And.intro (B2.cell 0 rfl) (And.intro (B2.cell 1 rfl) (B2.cell 2 rfl))) ?_;try simp only [Act.put,zs1,zs2,zs3,zs4,zs5,zs6]
  refine tkZ [] 13 rfl (And.intro (B2.cell 0 rfl) (And.intro (B2.cell 1 rfl) (B2.cell 2 rfl))) ?_;try simp only [Act.put,zs1,zs2,zs3,zs4,zs5,zs6]
  refine tkZ [] 14 rfl (And.intro (B2.cell 0 rfl) (And.intro (B2.cell 1 rfl) (B2.cell 2 rfl))) ?_;try simp only [Act.put,zs1,zs2,zs3,zs4,zs5,zs6]
  refine wpAnyZ_done (by kernel_rfl) ?_ _;go_wp2_with fail;go_ret;exact ⟨rfl,hm0⟩
 | false =>
  have hnt:¬ (IsCor r s es∧es=[]):=fun h=>by simpa using HT.out.2 (HTN.out.2 h)
  refine tkZ [] 2 rfl (And.intro (B2.cell 0 rfl) (And.intro (B2.cell 1 rfl) (B2.cell 2 rfl))) ?_;try simp only [Act.put,zs1,zs2,zs3,zs4,zs5,zs6]
  refine tkZ [] 3 rfl (And.intro (B2.cell 0 rfl) (And.intro (B2.cell 1 rfl) (B2.cell 2 rfl))) ?_;try simp only [Act.put,zs1,zs2,zs3,zs4,zs5,zs6]
  refine rdZ 4 rfl (fun K hK=>?_)
  (go_simp;(with_reducible refine (impl_IsFiniteIndex r s A es c w2 lo hi hr hl hcl bf HF.out).mono ?_);rintro en w3 ⟨rfl,m3⟩;have B3:=B2.mid m3 oZr;go_wp2_with fail)
  refine hK.out _ _ (Or.inr ⟨B3.cell 0 rfl,B3.cell 1 rfl,B3.cell 2 rfl⟩) (fun _=>?_);clear hK K;try simp only [Act.put,zs1,zs2,zs3,zs4,zs5,zs6]
  replace hr:=hr.mid m3 oZl;replace hm0:=hm0.trans m3;have gl3:=B3.1;have hsz3:=m3.size;clear m3 B2 gl2;cases bf with
  | false =>
   obtain rfl:b=false:=by
    cases b with
    | false=>rfl
    | true =>
     rcases HB.out.1 rfl with h | h
     ·exact absurd h hnt
     ·exact absurd (HF.out.2 h.1) (by simp)
   clear hnt;refine tkZ [] 5 rfl (And.intro (B3.cell 0 rfl) (And.intro (B3.cell 1 rfl) (B3.cell 2 rfl))) ?_;try simp only [Act.put,zs1,zs2,zs3,zs4,zs5,zs6]
   refine wpAnyZ_takeC [] (i:=6) rfl (by kernel_rfl) (by kernel_rfl) (by kernel_rfl) (by kernel_rfl) (fun _ _ _ h=>h) (Or.inr ⟨by rfl,rfl⟩) (And.intro (B3.cell 0 rfl) (And.intro (B3.cell 1 rfl) (B3.cell 2 rfl))) ?_;try simp only [Act.put,zs1,zs2,zs3,zs4,zs5,zs6]
   refine wpAnyZ_takeC [] (i:=7) rfl (by kernel_rfl) (by kernel_rfl) (by kernel_rfl) (by kernel_rfl) (fun _ _ _ h=>h) (Or.inr ⟨by rfl,rfl⟩) (And.intro (B3.cell 0 rfl) (And.intro (B3.cell 1 rfl) (B3.cell 2 rfl))) ?_;try simp only [Act.put,zs1,zs2,zs3,zs4,zs5,zs6]
   refine wpAnyZ_takeC [] (i:=8) rfl (by kernel_rfl) (by kernel_rfl) (by kernel_rfl) (by kernel_rfl) (fun _ _ _ h=>h) (Or.inr ⟨by rfl,rfl⟩) (And.intro (B3.cell 0 rfl) (And.intro (B3.cell 1 rfl) (B3.cell 2 rfl))) ?_;try simp only [Act.put,zs1,zs2,zs3,zs4,zs5,zs6]
   refine wpAnyZ_takeC [] (i:=9) rfl (by kernel_rfl) (by kernel_rfl) (by kernel_rfl) (by kernel_rfl) (fun _ _ _ h=>h) (Or.inr ⟨by rfl,rfl⟩) (And.intro (B3.cell 0 rfl) (And.intro (B3.cell 1 rfl) (B3.cell 2 rfl))) ?_;try simp only [Act.put,zs1,zs2,zs3,zs4,zs5,zs6]
   refine wpAnyZ_takeC [] (i:=10) rfl (by kernel_rfl) (by kernel_rfl) (by kernel_rfl) (by kernel_rfl) (fun _ _ _ h=>h) (Or.inr ⟨by rfl,rfl⟩) (And.intro (B3.cell 0 rfl) (And.intro (B3.cell 1 rfl) (B3.cell 2 rfl))) ?_;try simp only [Act.put,zs1,zs2,zs3,zs4,zs5,zs6]
   refine wpAnyZ_takeC [] (i:=11) rfl (by kernel_rfl) (by kernel_rfl) (by kernel_rfl) (by kernel_rfl) (fun _ _ _ h=>h) (Or.inr ⟨by rfl,rfl⟩) (And.intro (B3.cell 0 rfl) (And.intro (B3.cell 1 rfl) (B3.cell 2 rfl))) ?_;try simp only [Act.put,zs1,zs2,zs3,zs4,zs5,zs6]
   refine tkZ [] 12 rfl (And.intro (B3.cell 0 rfl) (And.intro (B3.cell 1 rfl) (B3.cell 2 rfl))) ?_;try simp only [Act.put,zs1,zs2,zs3,zs4,zs5,zs6]
   refine tkZ [] 13 rfl (And.intro (B3.cell 0 rfl) (And.intro (B3.cell 1 rfl) (B3.cell 2 rfl))) ?_;try simp only [Act.put,zs1,zs2,zs3,zs4,zs5,zs6]
   refine tkZ [] 14 rfl (And.intro (B3.cell 0 rfl) (And.intro (B3.cell 1 rfl) (B3.cell 2 rfl))) ?_;try simp only [Act.put,zs1,zs2,zs3,zs4,zs5,zs6]
   refine wpAnyZ_done (by kernel_rfl) ?_ _;go_wp2_with fail;go_ret;exact ⟨rfl,hm0⟩
  | true =>
   have hf:=HF.out.1 rfl;obtain ⟨r,n,rfl,rfl⟩:=hf.cor.gr.nat;have hbn:b=true↔nrmC r n es n=n:=by
    rw [HB.out,nrmC_all];constructor
    ·rintro (h | h)
     ·exact absurd h hnt
     ·exact fun v hv=>h.2 v (by omega)
    ·exact fun h=>.inr ⟨hf,fun v hv=>h v (by omega)⟩
   have hcn:=nrmC_le r n es n;have hNW:=impl_NormalizerWordsF r n A es c w3 lo hi hr hr.1 hcl hf;obtain ⟨k,hk⟩:∃ k,nrmC r n es n=k:=⟨_,rfl⟩
   rw [hk] at hbn hNW hcn;have hbk:((k:Int) == (n:Int))=b:=by
    cases b with
    | true=>simp [hbn.1 rfl]
    | false =>
     have:¬ k=n:=fun h=>by simpa using hbn.2 h
     simp;omega
   have HNW:=Lib.hid hNW;have hn40:=hf.cor.gr.size;clear hnt hbn hNW hk hf;refine tkZ [] 5 rfl (And.intro (B3.cell 0 rfl) (And.intro (B3.cell 1 rfl) (B3.cell 2 rfl))) ?_;try simp only [Act.put,zs1,zs2,zs3,zs4,zs5,zs6]
   refine tkZ [] 6 rfl (And.intro (B3.cell 0 rfl) (And.intro (B3.cell 1 rfl) (B3.cell 2 rfl))) ?_;try simp only [Act.put,zs1,zs2,zs3,zs4,zs5,zs6]
   refine tkZ [] 9 rfl (And.intro (B3.cell 0 rfl) (And.intro (B3.cell 1 rfl) (B3.cell 2 rfl))) ?_;try simp only [Act.put,zs1,zs2,zs3,zs4,zs5,zs6]
   refine tkZ [] 10 rfl (And.intro (B3.cell 0 rfl) (And.intro (B3.cell 1 rfl) (B3.cell 2 rfl))) ?_;try simp only [Act.put,zs1,zs2,zs3,zs4,zs5,zs6]
   refine rdZ 7 rfl (fun K hK=>?_)
   (go_simp;(with_reducible refine (HNW.out).mono ?_);rintro en w4 ⟨A4,c4,rfl,m4⟩;have B4:=B3.mid m4 oZr;go_wp2_with fail)
   refine hK.out _ _ (Or.inr ⟨B4.cell 0 rfl,B4.cell 1 rfl,B4.cell 2 rfl⟩) (fun _=>?_);clear hK K;try simp only [Act.put,zs1,zs2,zs3,zs4,zs5,zs6]
   replace hm0:=hm0.trans m4;have gl4:=B4.1;clear m4 B3 gl3;refine tkZ [] 8 rfl (And.intro (B4.cell 0 rfl) (And.intro (B4.cell 1 rfl) (B4.cell 2 rfl))) ?_;try simp only [Act.put,zs1,zs2,zs3,zs4,zs5,zs6]
   refine tkZ [] 11 rfl (And.intro (B4.cell 0 rfl) (And.intro (B4.cell 1 rfl) (B4.cell 2 rfl))) ?_;try simp only [Act.put,zs1,zs2,zs3,zs4,zs5,zs6]
   refine tkZ [] 12 rfl (And.intro (B4.cell 0 rfl) (And.intro (B4.cell 1 rfl) (B4.cell 2 rfl))) ?_;try simp only [Act.put,zs1,zs2,zs3,zs4,zs5,zs6]
   refine tkZ [] 13 rfl (And.intro (B4.cell 0 rfl) (And.intro (B4.cell 1 rfl) (B4.cell 2 rfl))) ?_;try simp only [Act.put,zs1,zs2,zs3,zs4,zs5,zs6]
   refine tkZ [] 14 rfl (And.intro (B4.cell 0 rfl) (And.intro (B4.cell 1 rfl) (B4.cell 2 rfl))) ?_;try simp only [Act.put,zs1,zs2,zs3,zs4,zs5,zs6]
   refine wpAnyZ_done (by kernel_rfl) ?_ _;go_wp2_with fail;go_ret;exact ⟨rfl,hm0⟩
end
section
open Go.RowKit
theorem and255 (n:Int):bits .and .i64 n 255=n % 256:=by
 have h255:(BitVec.ofInt 64 255).toNat=2 ^ 8 - 1:=by decide
 have key:(BitVec.ofInt 64 n &&& BitVec.ofInt 64 255).toNat=(n % ((2 ^ 64:Nat):Int)).toNat % 2 ^ 8:=by
  rw [BitVec.toNat_and,BitVec.toNat_ofInt,h255,Nat.and_two_pow_sub_one_eq_mod]
 show IntKind.i64.wrap ((BitVec.ofInt 64 n &&& BitVec.ofInt 64 255).toNat:Nat)=n % 256
 rw [key,IntKind.wrap_i64];omega
theorem and30 (n:Int):bits .and .i64 n 1073741823=n % 1073741824:=by
 have h30:(BitVec.ofInt 64 1073741823).toNat=2 ^ 30 - 1:=by decide
 have key:(BitVec.ofInt 64 n &&& BitVec.ofInt 64 1073741823).toNat=(n % ((2 ^ 64:Nat):Int)).toNat % 2 ^ 30:=by
  rw [BitVec.toNat_and,BitVec.toNat_ofInt,h30,Nat.and_two_pow_sub_one_eq_mod]
 show IntKind.i64.wrap ((BitVec.ofInt 64 n &&& BitVec.ofInt 64 1073741823).toNat:Nat)=n % 1073741824
 rw [key,IntKind.wrap_i64];omega
def byts (xs:List Int):List Value:=xs.map (Value.int .u8)
theorem byts_len (xs:List Int):(byts xs).length=xs.length:=by simp [byts]
def OkB (xs:List Int):Prop:=∀ x∈xs,0≤x∧x≤255
theorem Rs.byte {w:World} {B:Nat} {A:Option Addr} {xs:List Int} (h:Rs w B A (byts xs)) {k:Nat} (hk:k < xs.length) :
  ∃ b off x,A=some ⟨b,off,none⟩∧b < B∧xs[k]?=some x∧w.cell? ⟨b,off+k,none⟩=some (.int .u8 x):=by
 obtain ⟨b,off,u,e,hb,hu,hc⟩:=h.at (j:=k) (by rw [byts_len];exact hk);obtain ⟨x,hx⟩:=get_of_lt xs hk;unfold byts at hu;rw [List.getElem?_map,hx] at hu;simp at hu;subst hu;exact ⟨b,off,x,e,hb,hx,hc⟩
def Cur (w:World) (p:Nat) (A:Option Addr) (bs:List Int) (c:Nat):Prop :=
 ∃ (i:Nat) (h:Int),i≤bs.length∧(-9223372036854775808≤h∧h≤9223372036854775807)∧Box w p [.slice A bs.length c,.int .i64 i,.int .i64 h]∧RV w 0 p A (byts bs)
theorem Cur.mid {w w':World} {p:Nat} {A:Option Addr} {bs:List Int} {c a b:Nat} (h:Cur w p A bs c) (m:Mid a b w w') (hd:p < a ∨ b=0):Cur w' p A bs c:=by
 obtain ⟨i,x,h1,h2,h3,h4⟩:=h;exact ⟨i,x,h1,h2,h3.mid m (by omega),h4.mid m (by omega)⟩
theorem Cur.lt {w:World} {p:Nat} {A:Option Addr} {bs:List Int} {c:Nat} (h:Cur w p A bs c):p < w.heap.size:=by
 obtain ⟨i,x,h1,h2,h3,h4⟩:=h;exact h3.1
theorem l1Byte_any (p:Nat) (A:Option Addr) (bs:List Int) (c:Nat) (w:World) (hb:OkB bs) (hl:bs.length≤1048576) (h:Cur w p A bs c) :
  Calls Tryz.prog 191 #[.pointer (some ⟨p,0,none⟩)] w fun e w'=>∃ x:Nat,e=.returned (.int .i64 x)∧x < 256∧Cur w' p A bs c∧Mid p (p+1) w w':=by
 obtain ⟨i,s,hi,hs,hbox,hrv⟩:=h;have cc0:=hbox.cell 0 rfl;have cc1:=hbox.cell 1 rfl;have cc2:=hbox.cell 2 rfl;have hfz:=hbox.2.2;have hpw:=hbox.1;go_enter Tryz.func191,Tryz.ntmps191
 go_wp2_with fail;obtain ⟨s2,hs2⟩:∃ x,wrap64 (wrap64 (s * 6364136223846793005)+1442695040888963407)=x:=⟨_,rfl⟩
 have hs2b:-9223372036854775808≤s2∧s2≤9223372036854775807:=by rw [← hs2];unfold wrap64;omega
 rw [hs2];clear hs2;have hbox1:=hbox.set 2 (.int .i64 s2) (by simp) rfl;have hm1:Mid p (p+1) w (w.setCell ⟨p,2,none⟩ (.int .i64 s2)):=Mid.setCell w _ (Nat.le_refl _) (Nat.lt_succ_self _);have hrv1:=hrv.mid hm1 (Or.inr (Nat.le_refl _));generalize w.setCell ⟨p,2,none⟩ (.int .i64 s2)=w1 at hbox1 hm1 hrv1 ⊢;clear cc0 cc1 cc2 hbox hrv hpw hfz;have cc0:=hbox1.cell 0 rfl;have cc1:=hbox1.cell 1 rfl;have cc2:=hbox1.cell 2 rfl;have hfz:=hbox1.2.2;have hpw:=hbox1.1;go_quiet (fail)
 go_wp2_with fail;obtain ⟨x1,hx1⟩:∃ x:Nat,bits BinOp.and IntKind.i64 (bits BinOp.xor IntKind.i64 (s2 / 8589934592) (s2 / 35184372088832)) 255=x:=⟨_,(Int.toNat_of_nonneg (by rw [and255];omega)).symm⟩
 have hx1b:x1 < 256:=by rw [and255] at hx1;omega
 rw [hx1];clear hx1;have hm2:=hm1.drewN nq;have hbox2:=hbox1.drewN nq;have hrv2:RV (w1.drewN nq) 0 p A (byts bs):=hrv1;generalize w1.drewN nq=w2 at hbox2 hm2 hrv2 ⊢;clear cc0 cc1 cc2 hbox1 hrv1 hpw hfz hm1;have cc0:=hbox2.cell 0 rfl;have cc1:=hbox2.cell 1 rfl;have cc2:=hbox2.cell 2 rfl;have hfz:=hbox2.2.2;have hpw:=hbox2.1;by_cases hlt:i < bs.length
 ·go_quiet (fail)
  have hm3:=hm2.drewN nq;have hbox3:=hbox2.drewN nq;have hrv3:RV (w2.drewN nq) 0 p A (byts bs):=hrv2;generalize w2.drewN nq=w3 at hbox3 hm3 hrv3 ⊢;clear cc0 cc1 cc2 hbox2 hrv2 hpw hfz hm2;have cc0:=hbox3.cell 0 rfl;have cc1:=hbox3.cell 1 rfl;have cc2:=hbox3.cell 2 rfl;have hfz:=hbox3.2.2;have hpw:=hbox3.1;go_wp2_with fail;obtain ⟨B,off,y,rfl,hB,hy,hcy⟩:=hrv3.rs.byte hlt;have hyb:=hb y (List.mem_of_getElem? hy);clear hy;go_quiet (fail)
  go_wp2_with fail;obtain ⟨x2,hx2⟩:∃ x:Nat,bits BinOp.and IntKind.i64 ((x1:Int)+y) 255=x:=⟨_,(Int.toNat_of_nonneg (by rw [and255];omega)).symm⟩
  have hx2b:x2 < 256:=by rw [and255] at hx2;omega
  rw [hx2];go_ret;have hm4:=(hm3.drewN nq).trans (Mid.setCell (w3.drewN nq) (p:=⟨p,1,none⟩) (.int .i64 ((i:Int)+1)) (Nat.le_refl _) (Nat.lt_succ_self _));refine ⟨x2,rfl,hx2b,⟨i+1,s2,by omega,hs2b,?_,?_⟩,hm4⟩
  ·simpa using (hbox3.drewN nq).set 1 (.int .i64 ((i:Int)+1)) (by simp) rfl
  ·exact RV.mid (w:=w3.drewN nq) hrv3 (Mid.setCell (w3.drewN nq) (p:=⟨p,1,none⟩) (.int .i64 ((i:Int)+1)) (Nat.le_refl _) (Nat.lt_succ_self _)) (Or.inr (Nat.le_refl _))
 ·go_quiet (fail)
  go_wp2_with fail;go_ret;exact ⟨x1,rfl,hx1b,⟨i,s2,hi,hs2b,hbox2.drewN _,hrv2⟩,hm2.drewN _⟩
theorem l1Below_pos (n:Nat) (hn:0 < n) (hn2:n≤1048576) (p:Nat) (A:Option Addr) (bs:List Int) (c:Nat) (w:World) (hb:OkB bs) (hl:bs.length≤1048576) (h:Cur w p A bs c) :
  Calls Tryz.prog 127 #[.pointer (some ⟨p,0,none⟩),.int .i64 n] w fun e w'=>∃ x:Nat,e=.returned (.int .i64 x)∧x < n∧Cur w' p A bs c∧Mid p (p+1) w w':=by
 have hn0:¬ n=0:=by omega
 by_cases hs:n≤256
 ·go_enter Tryz.func127,Tryz.ntmps127
  go_wp2_with fail;with_reducible refine (l1Byte_any p A bs c _ hb hl h).mono ?_
  rintro e w1 ⟨x,rfl,hx,h1,m1⟩;go_wp2_with fail;go_ret;exact ⟨x % n,rfl,Nat.mod_lt _ hn,h1,m1⟩
 ·go_enter Tryz.func127,Tryz.ntmps127
  go_wp2_with fail;with_reducible refine (l1Byte_any p A bs c _ hb hl h).mono ?_
  rintro e w1 ⟨x,rfl,hx,h1,m1⟩;go_wp2_with fail;with_reducible refine (l1Byte_any p A bs c _ hb hl h1).mono ?_
  rintro e w2 ⟨y,rfl,hy,h2,m2⟩;go_wp2_with fail;with_reducible refine (l1Byte_any p A bs c _ hb hl h2).mono ?_
  rintro e w3 ⟨z,rfl,hz,h3,m3⟩;go_wp2_with fail;with_reducible refine (l1Byte_any p A bs c _ hb hl h3).mono ?_
  rintro e w4 ⟨t,rfl,ht,h4,m4⟩;go_wp2_with fail;go_ret;exact ⟨(x * 16777216+y * 65536+z * 256+t) % n,by simp,Nat.mod_lt _ hn,h4,((m1.trans m2).trans m3).trans m4⟩
theorem l1Once_any (n:Nat) (hn:0 < n) (hn2:n≤1048576) (p:Nat) (A:Option Addr) (bs:List Int) (c:Nat) (w:World) (hb:OkB bs) (hl:bs.length≤1048576) (h:Cur w p A bs c) :
  Calls Tryz.prog 125 #[.pointer (some ⟨p,0,none⟩),.int .i64 n] w fun e w'=>∃ x:Bool,e=.returned (.bool x)∧Cur w' p A bs c∧Mid p (p+1) w w':=by
 go_enter Tryz.func125,Tryz.ntmps125
 go_wp2_with fail;with_reducible refine (l1Below_pos n hn hn2 p A bs c _ hb hl h).mono ?_
 rintro e w1 ⟨x,rfl,hx,h1,m1⟩;go_wp2_with fail;all_goals
  go_ret;exact ⟨_,rfl,h1,m1⟩
theorem l1PickInt_any (B:Option Addr) (xs:List Int) (d:Nat) (hne:0 < xs.length) (hln:xs.length≤1048576) (p:Nat) (A:Option Addr) (bs:List Int) (c:Nat) (w:World) (lo hi:Nat) (hx:RI w lo hi B xs) (hp:p < lo ∨ hi≤p) (hb:OkB bs) (hl:bs.length≤1048576) (h:Cur w p A bs c) :
  Calls Tryz.prog 216 #[.pointer (some ⟨p,0,none⟩),.slice B xs.length d] w fun e w'=>∃ x:Int,e=.returned (.int .i64 x)∧x∈xs∧Cur w' p A bs c∧Mid p (p+1) w w':=by
 go_enter Tryz.func216,Tryz.ntmps216
 go_wp2_with fail;with_reducible refine (l1Below_pos xs.length hne hln p A bs c _ hb hl h).mono ?_
 rintro e w1 ⟨k,rfl,hk,h1,m1⟩;have hx1:=hx.mid m1 (by omega);obtain ⟨b,off,x,rfl, -,hxx,hcx⟩:=hx1.rs.int hk;have hmem:=List.mem_of_getElem? hxx;clear hxx;go_wp2_with fail;go_ret;exact ⟨x,rfl,hmem,h1,m1⟩
theorem l1BelowI (n:Int) (hn:0 < n) (hn2:n≤1048576) (p:Nat) (A:Option Addr) (bs:List Int) (c:Nat) (w:World) (hb:OkB bs) (hl:bs.length≤1048576) (h:Cur w p A bs c) :
  Calls Tryz.prog 127 #[.pointer (some ⟨p,0,none⟩),.int .i64 n] w fun e w'=>∃ x:Nat,e=.returned (.int .i64 x)∧(x:Int) < n∧Cur w' p A bs c∧Mid p (p+1) w w':=by
 obtain ⟨m,rfl⟩:=Int.eq_ofNat_of_zero_le (by omega:0≤n);exact (l1Below_pos m (by omega) (by omega) p A bs c w hb hl h).mono fun _ _ ⟨x,he,hx,h⟩=>⟨x,he,by omega,h⟩
theorem l1OnceI (n:Int) (hn:0 < n) (hn2:n≤1048576) (p:Nat) (A:Option Addr) (bs:List Int) (c:Nat) (w:World) (hb:OkB bs) (hl:bs.length≤1048576) (h:Cur w p A bs c) :
  Calls Tryz.prog 125 #[.pointer (some ⟨p,0,none⟩),.int .i64 n] w fun e w'=>∃ x:Bool,e=.returned (.bool x)∧Cur w' p A bs c∧Mid p (p+1) w w':=by
 obtain ⟨m,rfl⟩:=Int.eq_ofNat_of_zero_le (by omega:0≤n);exact l1Once_any m (by omega) (by omega) p A bs c w hb hl h
theorem l1PickIntN (B:Option Addr) (xs:List Int) (n d:Nat) (hxn:xs.length=n) (hne:0 < n) (hln:n≤1048576) (p:Nat) (A:Option Addr) (bs:List Int) (c:Nat) (w:World) (lo hi:Nat) (hx:RI w lo hi B xs) (hp:p < lo ∨ hi≤p) (hb:OkB bs) (hl:bs.length≤1048576) (h:Cur w p A bs c) :
  Calls Tryz.prog 216 #[.pointer (some ⟨p,0,none⟩),.slice B n d] w fun e w'=>∃ x:Int,e=.returned (.int .i64 x)∧x∈xs∧Cur w' p A bs c∧Mid p (p+1) w w':=by
 subst hxn;exact l1PickInt_any B xs d hne hln p A bs c w lo hi hx hp hb hl h
theorem l1New_any (A:Option Addr) (bs:List Int) (c:Nat) (w:World) (hi:Nat) (hb:OkB bs) (hl:bs.length≤1048576) (hr:RV w 0 hi A (byts bs)) :
  Calls Tryz.prog 110 #[.slice A bs.length c] w fun e w'=>∃ p,e=.returned (.pointer (some ⟨p,0,none⟩))∧w.heap.size≤p∧Cur w' p A bs c∧Mid 0 0 w w':=by
 have hfin:∀ x:Int,(0≤x∧x≤1073741824)→Cur (w.alloc (.cells #[.slice A bs.length c,.int .i64 0,.int .i64 x] 117)) w.heap.size A bs c:=fun x hx =>
  ⟨0,x,Nat.zero_le _,by omega,by simpa using Box.new w #[.slice A bs.length c,.int .i64 0,.int .i64 x] 117,(hr.mid (Mid.alloc w _) oZl).wide (Nat.zero_le _) hr.1 (by simp)⟩
 have hfin:=Lib.hid hfin;go_enter Tryz.func110,Tryz.ntmps110
 go_wp2_with fail;go_loop [3,4] (fun hv i=>∃ (k:Nat) (x:Int),k≤bs.length∧i=.int .i64 k∧hv=.int .i64 x∧(0≤x∧x≤1073741824)) (fun _ i=>bs.length - (intOf i).toNat)
 case atStart=>exact ⟨0,_,Nat.zero_le _,rfl,rfl,by omega,by omega⟩
 case round =>
  obtain ⟨k,x,hk,rfl,rfl,hx⟩:=hrel;by_cases hlt:k < bs.length
  ·obtain ⟨K,hK⟩:∃ x:Bool,decide ((k:Int) < 4000)=x:=⟨_,rfl⟩
   cases K
   ·go_wp2_with fail
    go_ret;exact ⟨w.heap.size,rfl,Nat.le_refl _,hfin.out x hx,Mid.alloc _ _⟩
   ·obtain ⟨b,off,y,rfl, -,hy,hcy⟩:=hr.rs.byte hlt
    have hyb:=hb y (List.mem_of_getElem? hy);clear hy;go_wp2_with fail;obtain ⟨x2,hx2⟩:∃ z,bits BinOp.and IntKind.i64 (x * 131+y+7) 1073741823=z:=⟨_,rfl⟩
    have hx2b:0≤x2∧x2≤1073741824:=by rw [and30] at hx2;omega
    rw [hx2];go_round
    case rel=>exact ⟨k+1,x2,by omega,by go_num,rfl,hx2b⟩
    case measure=>simp [intOf];omega
  ·go_wp2_with fail
   go_ret;exact ⟨w.heap.size,rfl,Nat.le_refl _,hfin.out x hx,Mid.alloc _ _⟩
end
section
open Go.RowKit
theorem LtW.ok {w:List Int} (h:LtW w):OkI w:=fun x hx=>by
 have:=h x hx;unfold Lt3 at this;omega
def natV:Value→Nat
 | .int _ n=>n.toNat
 | _=>0
theorem l2Of_any (r:Int) (hr1:1≤r) (hr3:r≤3) (m:Int) (hm0:0≤m) (hm2:m≤24) (p:Nat) (A:Option Addr) (bs:List Int) (c:Nat) (w:World) (hb:OkB bs) (hl:bs.length≤1048576) (h:Cur w p A bs c) :
  Calls Tryz.prog 112 #[.pointer (some ⟨p,0,none⟩),.int .i64 r,.int .i64 m] w fun e w'=>∃ A' c' xs,e=.returned (.slice A' (List.length xs) c')∧(((xs.length:Nat):Int)≤m∧LtW xs∧Rd xs)∧OI w' w.heap.size w'.heap.size A' c' xs∧Cur w' p A bs c∧Mid p (p+1) w w':=by
 have hpw:=h.lt;have hal:=Mid.alloc w (.cells #[] 3);have ho:=owns_empty w 3 1;have h0:=h.mid hal (Or.inr rfl);go_enter Tryz.func112,Tryz.ntmps112
 go_wp2_with fail;with_reducible refine (l1BelowI (m+1) (by omega) (by omega) p A bs c _ hb hl h0).mono ?_
 rintro e w1 ⟨n0,rfl,hn0,h1,m1⟩;have ho1:=owns_mid ho m1 (Or.inl (by omega));have hm1:=hal.zero.trans m1;have hs1:=hm1.size;clear h0 hal m1 ho;go_wp2_with fail;go_loopw [7,8] (fun wv nv wr=>∃ (xs:List Int) (n:Nat) (Ax:Option Addr) (cx L:Nat),nv=.int .i64 n∧wv=.slice Ax L cx∧Hid (xs.length=L)∧(L:Int)+(n:Int)≤m∧Hid (LtW xs)∧wr.ownsRow w.heap.size 3 1 (.slice Ax L cx) L (ints xs)∧Cur wr p A bs c∧Mid p (p+1) w wr)
  (fun _ nv _=>natV nv)
 case atStart=>exact ⟨[],n0,_,_,0,rfl,rfl,Lib.hid rfl,by omega,Lib.hid LtW.nil,by simpa [ints] using ho1,h1,hm1⟩
 case round =>
  obtain ⟨xs,n,Ax,cx,L,rfl,rfl,HL,hLm,HW,ho,hc,hm⟩:=hrel;have hs:=hm.size;by_cases hlt:0 < n
  ·go_wp2_with fail
   with_reducible refine (l1BelowI r (by omega) (by omega) p A bs c _ hb hl hc).mono ?_
   rintro e w2 ⟨x,rfl,hx,hc2,m2⟩;have ho2:=owns_mid ho m2 (Or.inl hpw);have hm2:=hm.trans m2;have ew1:IntKind.i64.wrap (1+(x:Int))=1+(x:Int):=IntWalk.i64_in _ (by omega);clear ho hc m2;go_wp2_with fail;with_reducible refine (l1OnceI 2 (by decide) (by decide) p A bs c _ hb hl hc2).mono ?_
   rintro e w3 ⟨b,rfl,hc3,m3⟩;have ho3:=owns_mid ho2 m3 (Or.inl hpw);have hm3:=hm2.trans m3;have hs3:=hm3.size;clear ho2 hc2 m3 hm2 hm;have key:∀ y:Int,(y=1+(x:Int) ∨ y = -(1+(x:Int)))→Lt3 y:=fun y hy=>by
    unfold Lt3;omega
   have KEY:=Lib.hid key;clear key;cases b
   ·go_wp2_with (at_builtin;refine wpList_push rfl _ _ 34 rfl w.heap.size 3 (.int .i64 0) 1 8 undSI infoI rfl (by decide) _ _ _ rfl ho3 1 [.int .i64 (1+(x:Int))] rfl rfl ?c1 ?c2 ?c3 hs3 ?next)
    case c1=>exact one_of_ints [1+(x:Int)]
    case c2=>unfold maxLen;omega
    case c3=>omega
    case next =>
     intro v4 w4 ho4 hgr4 hat4;obtain ⟨A4,c4,rfl, -, -⟩:=owns_shape ho4;have m4:Mid w.heap.size w3.heap.size w3 w4:=Mid.of_grownRow ho3 hgr4;go_wp2_with fail;go_roundw
     case rel =>
      refine ⟨xs++[1+(x:Int)],n - 1,A4,c4,L+1,by go_num,rfl,Lib.hid (by simp [HL.out]),by omega,Lib.hid (HW.out.app (LtW.one (KEY.out _ (.inl rfl)))),by rw [ints_append];exact ho4,hc3.mid m4 (Or.inl hpw),hm3.transNew m4 (Or.inl (Nat.le_refl _))⟩
     case measure=>simp [natV];omega
   ·go_wp2_with (at_builtin;refine wpList_push rfl _ _ 34 rfl w.heap.size 3 (.int .i64 0) 1 8 undSI infoI rfl (by decide) _ _ _ rfl ho3 1 [.int .i64 (-(1+(x:Int)))] rfl rfl ?c1 ?c2 ?c3 hs3 ?next)
    case c1=>exact one_of_ints [-(1+(x:Int))]
    case c2=>unfold maxLen;omega
    case c3=>omega
    case next =>
     intro v4 w4 ho4 hgr4 hat4;obtain ⟨A4,c4,rfl, -, -⟩:=owns_shape ho4;have m4:Mid w.heap.size w3.heap.size w3 w4:=Mid.of_grownRow ho3 hgr4;go_wp2_with fail;go_roundw
     case rel =>
      refine ⟨xs++[-(1+(x:Int))],n - 1,A4,c4,L+1,by go_num,rfl,Lib.hid (by simp [HL.out]),by omega,Lib.hid (HW.out.app (LtW.one (KEY.out _ (.inr rfl)))),by rw [ints_append];exact ho4,hc3.mid m4 (Or.inl hpw),hm3.transNew m4 (Or.inl (Nat.le_refl _))⟩
     case measure=>simp [natV];omega
  ·have hok:=HW.out.ok
   have hxl:=HL.out;have hrs:=Rs.of_own ho;have hc5:Calls Tryz.prog 109 #[.slice Ax L cx] wr fun e w'=>RetI 3 (red [] xs) wr e w':=by
    have:=spec_ReduceLetters Ax xs cx wr wr.heap.size hrs (Nat.le_refl _) hok (by omega)
    rwa [hxl] at this
   clear hok hxl hrs;go_wp2_with fail;with_reducible refine hc5.mono ?_
   rintro e w5 ⟨A5,c5,rfl,ho5,hb5⟩;go_wp2_with fail;go_ret;have hlen:=red_nil_len xs;have hL:=HL.out;have m5:Mid 0 0 wr w5:=Mid.of_below hb5;exact ⟨A5,c5,red [] xs,rfl,⟨by omega,lt_red HW.out,rd_red HW.out⟩,(OV.new ho5).wide hs (Nat.le_refl _) (Nat.le_refl _),hc.mid m5 (Or.inr rfl),hm.trans m5.zero⟩
end
end Go.Proofs.YthampgpcajmopaaGreat
