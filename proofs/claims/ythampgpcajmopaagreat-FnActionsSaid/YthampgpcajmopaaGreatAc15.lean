/- Contracts and lemmas of this seat, many texts in one: see the words ahead of each. No condition beyond those typed in each lemma. -/
import Derived.Test.YthampgpcajmopaaGreatAc14
import Derived.Test.YthampgpcajmopaaGreatAc5
import Derived.Test.YthampgpcajmopaaGreatAc9
import Derived.Test.YthampgpcajmopaaGreatAc3
import Derived.Test.YthampgpcajmopaaGreatAc12
import Derived.Test.YthampgpcajmopaaGreatAc1
import Derived.Test.YthampgpcajmopaaGreatAc11
import Derived.Test.YthampgpcajmopaaGreatAc6
import Derived.Test.YthampgpcajmopaaGreatAc8
import Derived.Maps.OwnSet
import Derived.DeepKeys4
import Derived.Test.YthampgpcajmopaaGreatAc10
import Derived.Test.YthampgpcajmopaaGreatAc2

namespace Go.Proofs.YthampgpcajmopaaGreat
set_option linter.unusedVariables false
set_option linter.unusedSimpArgs false
set_option maxHeartbeats 40000000
set_option maxRecDepth 100000
section
open Go.RowKit
theorem RetI.toOI {tI:TypeId} {xs:List Int} {w:World} {e:Ending} {w':World} (h:RetI 3 xs w e w'):∃ A2 c2,e=.returned (.slice A2 xs.length c2)∧OI w' w.heap.size w'.heap.size A2 c2 xs∧Mid 0 0 w w':=by
 obtain ⟨A,c,he,ho,hm⟩:=RetI.get h;exact ⟨A,c,he,⟨Nat.le_refl _,ho,fun g hg=>(ho.lt g hg).2⟩,hm⟩
theorem invW_okI {p:List Int} (h:LtW p):OkI (invW p):=fun x hx=>by
 have:=h.inv x hx;unfold Lt3 at this;omega
end
section
open Go.RowKit
def cwR (xs ys:List Int):List Int:=red [] (red [] (invW ys++xs)++ys)
theorem cwR_ok {xs ys:List Int} (h:OkI xs) (k:OkI ys) (hi:OkI (invW ys)):OkI (cwR xs ys):=red_ok (okI_app (red_ok (okI_app hi h)) k)
theorem cwR_len (xs ys:List Int):(cwR xs ys).length≤xs.length+2 * ys.length:=by
 have h1:=red_nil_len (invW ys++xs);have h2:=red_nil_len (red [] (invW ys++xs)++ys);unfold cwR;rw [List.length_append] at h1 h2;rw [invW_len] at h1;omega
theorem cwR_eqv {xs ys:List Int} (hx:LtW xs) (hy:LtW ys):LtW (cwR xs ys)∧Eqv (cwR xs ys) (cjw (invW ys) xs):=by
 have h1:=hy.inv.app hx;have h2:=(lt_red h1).app hy;refine ⟨lt_red h2,(Eqv.toRed h2).trans ?_⟩;unfold cjw;rw [invW_invW hy,← List.append_assoc];exact Eqv.ctxR hy (lt_red h1) h1 (Eqv.toRed h1)
theorem spec_ConjugateWord (A:Option Addr) (xs:List Int) (c:Nat) (A':Option Addr) (ys:List Int) (c':Nat) (w:World) (lo hi lo' hi':Nat) (hr:RV w lo hi A (ints xs)) (hr':RV w lo' hi' A' (ints ys)) (hok:OkI xs) (hok':OkI ys) (hoki:OkI (invW ys)) (hl:xs.length≤100000) (hl':ys.length≤100000) :
  Calls Tryz.prog 31 #[.slice A xs.length c,.slice A' ys.length c'] w fun e w'=>∃ A2 c2,e=.returned (.slice A2 (cwR xs ys).length c2)∧OI w' w.heap.size w'.heap.size A2 c2 (cwR xs ys)∧Mid 0 0 w w':=by
 have H1:=Lib.hid (spec_InvertWord A' ys c' _ w hr'.rsS (Nat.le_refl _) hok' (by omega));have HO:=Lib.hid hok;have HO':=Lib.hid hok';have HOI:=Lib.hid hoki;clear hok hok' hoki;go_enter Tryz.func31,Tryz.ntmps31
 go_wp2_with fail;with_reducible refine (H1.out).mono ?_
 rintro e1 w1 h1;obtain ⟨A1,c1,rfl,o1,m1⟩:=RetI.toOI (tI:=3) h1;have r1:=o1.ri.rsS;have hr1:=hr.mid m1 oZl;have hr1':=hr'.mid m1 oZl;have hlI:(invW ys).length≤100000:=by rw [invW_len];exact hl'
 have H2:=Lib.hid (spec_MultiplyWords A1 A (invW ys) xs c1 c w1 r1 hr1.rsS HOI.out HO.out (by omega));have hs1:=m1.size;clear h1 r1 H1 o1 hr hr';go_wp2_with fail;with_reducible refine (H2.out).mono ?_
 rintro e2 w2 h2;obtain ⟨A2,c2,rfl,o2,m2⟩:=RetI.toOI (tI:=3) h2;have r2:=o2.ri.rsS;have hr2':=hr1'.mid m2 oZl;have hlI2:(red [] (invW ys++xs)).length≤200000:=by have:=red_nil_len (invW ys++xs);rw [List.length_append] at this;omega
 have H3:=Lib.hid (spec_MultiplyWords A2 A' (red [] (invW ys++xs)) ys c2 c' w2 r2 hr2'.rsS (red_ok (okI_app HOI.out HO.out)) HO'.out (by omega));have hs2:=m2.size;clear h2 r2 H2 o2 hr1 hr1';go_wp2_with fail;with_reducible refine (H3.out).mono ?_
 rintro e3 w3 h3;obtain ⟨A3,c3,rfl,o3,m3⟩:=RetI.toOI (tI:=3) h3;have m9:=Lib.hid ((m1.trans m2).trans m3);have o9:=Lib.hid (o3.wide (lo':=w.heap.size) (by omega) o3.size (Nat.le_refl _));clear h3 H3 m1 m2 m3 o3;go_wp2_with fail;go_ret;exact ⟨A3,c3,rfl,o9.out,m9.out⟩
end
section
open Go.RowKit
theorem spec_ConjugateWordV (A:Option Addr) (xs:List Int) (c:Nat) (A':Option Addr) (ys:List Int) (c':Nat) (w:World) (lo hi lo' hi':Nat) (hr:RV w lo hi A (ints xs)) (hr':RV w lo' hi' A' (ints ys)) (hok:OkI xs) (hok':OkI ys) (hoki:OkI (invW ys)) (hl:xs.length≤100000) (hl':ys.length≤100000) (z:List Int) (hz:cwR xs ys=z) :
  Calls Tryz.prog 31 #[.slice A xs.length c,.slice A' ys.length c'] w fun e w'=>∃ A2 c2,e=.returned (.slice A2 z.length c2)∧OI w' w.heap.size w'.heap.size A2 c2 z∧Mid 0 0 w w':=by
 subst hz;exact spec_ConjugateWord A xs c A' ys c' w lo hi lo' hi' hr hr' hok hok' hoki hl hl'
theorem sameInts_eq (A:Option Addr) (xs:List Int) (c:Nat) (A':Option Addr) (c':Nat) (w:World) (lo hi lo' hi':Nat) (h:RI w lo hi A xs) (h':RI w lo' hi' A' xs) (hl:xs.length≤1048576) :
  Calls Tryz.prog 37 #[.slice A xs.length c,.slice A' xs.length c'] w fun e w'=>e=.returned (.bool true)∧Mid 0 0 w w':=by
 refine (sameInts_any A xs c A' xs c' w lo hi lo' hi' h h' hl hl true (by simp)).mono ?_;rintro e w' ⟨rfl,h⟩;exact ⟨rfl,h⟩
theorem cw_okI {r s:Int} {es es':List Ed} {x u:List Int} (hx:OkI x) (hu:LtW u):OkI (cwR x u):=cwR_ok hx (ltW_okI hu) (invW_okI hu)
end
section
open Go.RowKit
theorem sameWords_eq (A:Option Addr) (l:List (List Int)) (c:Nat) (A':Option Addr) (c':Nat) (w:World) (lo hi lo' hi':Nat) (h:RSS w lo hi A l) (h':RSS w lo' hi' A' l) (hl:l.length≤1048576) (hlx:∀ x∈l,x.length≤1048576) :
  Calls Tryz.prog 67 #[.slice A l.length c,.slice A' l.length c'] w fun e w'=>e=.returned (.bool true)∧Mid 0 0 w w':=by
 have HLX:=Lib.hid hlx;clear hlx;have hm:=Mid.refl 0 0 w;go_enter Tryz.func67,Tryz.ntmps67
 go_wp2_with fail;go_loopw [5] (fun iv wr=>∃ i:Nat,iv=.int .i64 i∧i≤l.length∧RSS wr lo hi A l∧RSS wr lo' hi' A' l∧Mid 0 0 w wr) (fun iv _=>l.length - (intOf iv).toNat)
 case atStart=>exact ⟨0,by go_num,Nat.zero_le _,h,h',hm⟩
 case round =>
  clear h h' hm;obtain ⟨i,rfl,hi2,h,h',hm⟩:=hrel;have hi0:(0:Int)≤(i:Int):=by omega
  by_cases hlt:i < l.length
  ·have hlt2:(i:Int) < (l.length:Int):=by omega
   obtain ⟨b1,f1,A1,c1,x,hA1, -,hb1,hx,hc1,hr1⟩:=h.row hlt;obtain ⟨b2,f2,A2,c2,y,hA2, -,hb2,hy,hc2,hr2⟩:=h'.row hlt;obtain rfl:x=y:=by rw [hx] at hy;exact Option.some.inj hy
   have hxl:=HLX.out x (List.mem_of_getElem? hx);have hw1:b1 < wr.heap.size:=Nat.lt_of_lt_of_le hb1 h.size;have hw2:b2 < wr.heap.size:=Nat.lt_of_lt_of_le hb2 h'.size;subst hA1;subst hA2;clear hx hy;have k1:=wg_cell hw1 hc1;have k2:=wg_cell hw2 hc2;have hq0:=fun m os=>sameInts_eq A1 x c1 A2 c2 (wg wr m os) _ _ _ _ (hr1.mid (Mid.ofWg wr m os) oZl) (hr2.mid (Mid.ofWg wr m os) oZl) hxl;go_upto_region 6 with fail
   clear hc1 hc2;refine wp_region_quiet_wg (by kernel_rfl) (by kernel_rfl) ?_;repeat
    (with_reducible refine wpQuiet_step (fun K hK=>?_))
    go_simp
    first
     | ((with_reducible refine hK _ ?_);clear hK K)
     | (rw [if_neg (by decide)];(with_reducible refine hK _ ?_);clear hK K)
     | (apply Exists.intro;refine ⟨fun _=>?_,hK _ ?_⟩;((go_at_call 37;with_reducible exact Calls.wg_of (hq0 _ _)));clear hK K)
   with_reducible refine wpQuiet_nil ?_
   intro _ hw';obtain ⟨⟨nq,osq⟩,hw''⟩:=hw';subst hw'';have hwg:=Mid.ofWg wr nq osq;generalize wg wr nq osq=w6 at hwg ⊢;replace h:=h.mid hwg oZl;replace h':=h'.mid hwg oZl;replace hm:=hm.trans hwg;clear hwg hq0 k1 k2 hr1 hr2;go_wp2_with fail;go_roundw
   case rel=>exact ⟨i+1,by go_num,by omega,h,h',hm⟩
   case measure=>simp [intOf];omega
  ·have hlt2:¬ (i:Int) < (l.length:Int):=by omega
   go_wp2_with fail;go_ret;exact ⟨rfl,hm⟩
end
section
open Go.RowKit
theorem spec_IsWordM (rank:Int) (A:Option Addr) (xs:List Int) (c:Nat) (w:World) (lo hi:Nat) (hr:RI w lo hi A xs) (hok:OkI xs) (hl:xs.length≤4194304) (b:Bool) (hb:b=true↔IsW rank xs) :
  Calls Tryz.prog 74 #[.int .i64 rank,.slice A xs.length c] w fun e w'=>e=.returned (.bool b)∧Mid 0 0 w w':=by
 refine (spec_IsWord rank A xs c w _ (RV.rsS hr) hok hl b hb).mono ?_;rintro e w' ⟨rfl,n,rfl⟩;exact ⟨rfl,(Mid.refl 0 0 w).drewN n⟩
theorem isW_b (r:Int) (xs:List Int):∃ b:Bool,b=true↔IsW r xs:=by
 classical
 exact ⟨decide (IsW r xs),by simp⟩
theorem nrm_b (r s:Int) (es:List Ed):∃ b:Bool,b=true↔Nrm r s es:=by
 classical
 exact ⟨decide (Nrm r s es),by simp⟩
theorem spec_ComposeI (A:Option Addr) (p:List Int) (c:Nat) (A':Option Addr) (q:List Int) (c':Nat) (w:World) (lo hi lo' hi':Nat) (hr:RI w lo hi A p) (hr':RI w lo' hi' A' q) (hlp:p.length≤1048576) (hlq:q.length≤1048576) (res:List Int) (hres:ComposeIs p q res) :
  Calls Tryz.prog 77 #[.slice A p.length c,.slice A' q.length c'] w fun e w'=>∃ A2 c2,e=.returned (.slice A2 res.length c2)∧OI w' w.heap.size w'.heap.size A2 c2 res∧Mid 0 0 w w':=by
 refine (spec_Compose A p c _ A' q c' _ w (RV.rsS hr) (Nat.le_refl _) (RV.rsS hr') (Nat.le_refl _) hlp hlq res hres).mono ?_;exact fun e w' h=>RetI.toOI (tI:=3) h
theorem ComposeIs_exI (p q:List Int):∃ res,ComposeIs p q res:=by
 by_cases h:IsPerm p∧IsPerm q∧p.length=q.length
 ·exact ⟨composeP p q,fun _=>rfl,fun k=>absurd h k⟩
 ·exact ⟨[],fun k=>absurd k h,fun _=>rfl⟩
theorem spec_MultiplyI (A:Option Addr) (xs:List Int) (c:Nat) (A':Option Addr) (ys:List Int) (c':Nat) (w:World) (lo hi lo' hi':Nat) (hr:RI w lo hi A xs) (hr':RI w lo' hi' A' ys) (hok:OkI xs) (hok':OkI ys) (hl:xs.length≤100000) (hl':ys.length≤100000) (z:List Int) (hz:red [] (xs++ys)=z) :
  Calls Tryz.prog 76 #[.slice A xs.length c,.slice A' ys.length c'] w fun e w'=>∃ A2 c2,e=.returned (.slice A2 z.length c2)∧OI w' w.heap.size w'.heap.size A2 c2 z∧Mid 0 0 w w':=by
 subst hz;refine (spec_MultiplyWords A A' xs ys c c' w (RV.rsS hr) (RV.rsS hr') hok hok' (by omega)).mono ?_;exact fun e w' h=>RetI.toOI (tI:=3) h
structure ActOk (r s:Int) (es:List Ed) (xs:List Int):Prop where
 fin:IsFin r s es
 word:IsW r xs
theorem actOk {r s:Int} {es:List Ed} {xs p:List Int} (hp:WordPermutationIs r s es xs p) (h0:0 < p.length) (hw:IsW r xs):ActOk r s es xs:=by
 refine ⟨?_,hw⟩;by_cases hf:IsFin r s es
 ·exact hf
 ·have h1:p=wordP r s es xs:=hp
  rw [wordP_inf hf] at h1;rw [h1] at h0;simp at h0
theorem isW_inL {r:Nat} {xs:List Int} (h:IsW r xs):InL r xs:=fun x hx=>by
 have:=h.2.2.2.1 x hx;exact mem_lets.2 (by omega)
theorem ltR_inL {r:Nat} {xs:List Int} (h:LtR r xs):InL r xs:=fun x hx=>by
 have:=h x hx;exact mem_lets.2 (by omega)
theorem perm_zero {r n:Nat} {es:List Ed} (h:IsFin r n es) {xs:List Int} (hx:InL r xs):∃ u:Int,(wordP r n es xs)[0]?=some u∧(u=0↔InS es xs):=by
 have hn:0 < n:=by have:=h.cor.gr.size;omega
 obtain ⟨u,hu,hp⟩:=fin_rd h hx (v:=0) (by omega);refine ⟨u,?_,?_⟩
 ·rw [pm_wordP h hx]
  exact (pm_get h hx hn).2 hp
 ·constructor
  ·rintro rfl
   exact InS.mk h.cor.fol hp
  ·intro hi
   have hl:Pa es 0 (red [] xs) 0:=hi;have hr:=(pm_get h (hx.red) hn).2 hl;rw [pm_red h hx,(pm_get h hx hn).2 hp] at hr;exact Option.some.inj hr
theorem inS_b' (es:List Ed) (w:List Int):∃ b:Bool,b=true↔InS es w:=by
 classical
 exact ⟨decide (InS es w),by simp⟩
theorem act_compose {r n:Nat} {es:List Ed} (h:IsFin r n es) {xs vs:List Int} (hx:InL r xs) (hv:InL r vs) {p q px:List Int} (hp:WordPermutationIs r n es xs p) (hq:WordPermutationIs r n es vs q) (hpx:WordPermutationIs r n es (red [] (xs++vs)) px):ComposeIs p q px:=by
 obtain ⟨res,hres⟩:=ComposeIs_exI p q;have h1:p=wordP r n es xs:=hp;have h2:q=wordP r n es vs:=hq;have h3:px=wordP r n es (red [] (xs++vs)):=hpx;have h4:=hres;rw [h1,h2] at h4;have h5:=pm_compose h hx hv h4;rw [h3,← h5];exact hres
theorem act_conj {r n:Nat} {es:List Ed} (h:IsFin r n es) {xs vs:List Int} (hx:InL r xs) (hv:InL r vs) (hk:InCore r n es xs):InCore r n es (cwR xs vs):=by
 have h3:=fin_r3 h;have h1:=core_conj h hx hv hk;have lx:=hx.lt h3;have lv:=hv.lt h3;have e:cwR xs vs=red [] (cjw (invW vs) xs):=by
  have h2:=(cwR_eqv lx lv).2;have h4:red [] (cwR xs vs)=cwR xs vs:=red_self (rd_red ((lt_red (lv.inv.app lx)).app lv)) (cwR_eqv lx lv).1;rw [← h4];exact h2
 rw [e];exact h1
end
section
open Go.RowKit
theorem impl_GroupElements_fin (r n:Nat) (A:Option Addr) (es:List Ed) (c:Nat) (w:World) (lo hi:Nat) (hr:RG w lo hi A es) (hcl:es.length≤c) (hf:IsFin r n es) (R:List (List Int)) (hR:grpI r n es=R) :
  Calls Tryz.prog 80 #[graV r n A es.length c] w fun e w'=>∃ A1 c1,e=.returned (.slice A1 R.length c1)∧OSS w' w.heap.size w'.heap.size 34 3 A1 c1 R∧Mid 0 0 w w':=by
 have hg:=hf.cor.gr;have hn40:n≤40:=by have:=hg.size;omega
 have hr3:1≤r∧r≤3:=by have:=hg.rank;omega
 have hl:=hg.len;have HF:=Lib.hid hf;have HR:=Lib.hid (by rw [← hR];exact (grpI_yes hf).symm:grpRun (actL n es r) 201 0 [upto n]=R);have hal0:=actL_len n es r;have hasum:=actL_sum n es r;obtain ⟨act,hact⟩:∃ act,actL n es r=act:=⟨_,rfl⟩
 have hAC:=fun W h=>impl_ActionOf_fin r n A es c W lo hi h hcl hf;rw [hact] at HR hal0 hasum;simp only [hact] at hAC;have HAC:=Lib.hid hAC;have hall:Hid (∀ p∈act,p.length≤40):=Lib.hid (by
  intro p hp;rw [← hact] at hp;simp only [actL,List.mem_map,List.mem_range] at hp;obtain ⟨i, -,rfl⟩:=hp;rw [rowL_len];exact hn40)
 have hmin:min ((n:Int).toNat) 40=n:=by omega
 have hID:=fun W=>impl_IdentityPermutation (n:Int) W;simp only [hmin] at hID;have HID:=Lib.hid hID;clear hf hg hR hact hAC hID hmin hasum;have hm0:Mid 0 0 w ((w.alloc (.cells #[.int .i64 r,.int .i64 n,.slice A es.length c] 26)).alloc (.cells #[] 34)):=(Mid.alloc _ _).trans (Mid.alloc _ _);have b0:=(Box.new w #[.int .i64 r,.int .i64 n,.slice A es.length c] 26).mid (Mid.alloc _ (.cells #[] 34)) oZr;have O0:=owns_empty (w.alloc (.cells #[.int .i64 r,.int .i64 n,.slice A es.length c] 26)) 34 1;rw [World.size_alloc] at O0;go_enter Tryz.func80,Tryz.ntmps80
 go_wp2_with fail;with_reducible refine (impl_IsFiniteIndex r n A es c _ _ _ (hr.mid hm0 oZl) (by omega) hcl true (iff_of_true rfl HF.out)).mono ?_
 rintro en w1 ⟨rfl,hm1⟩;replace b0:=b0.mid hm1 oZr;replace O0:=owns_mid O0 hm1 oZl;replace hm0:=hm0.trans hm1;have hs1:w.heap.size+1 < w1.heap.size:=(O0.lt (w.heap.size+1) rfl).2;have p0:=b0.cell 0 rfl;have p1:=b0.cell 1 rfl;have p2:=b0.cell 2 rfl;clear hm1;go_wp2_with fail;with_reducible refine (HAC.out _ (hr.mid hm0 oZl)).mono ?_
 rintro en w2 ⟨Aa,ca,rfl,hoss,hm2⟩;replace b0:=b0.mid hm2 oZr;replace O0:=owns_mid O0 hm2 oZl;replace hm0:=hm0.trans hm2;have hs2:=hm2.size;have hG0:Grp w2 (w.heap.size+1) w1.heap.size w2.heap.size (some ⟨w.heap.size+1,0,none⟩) 0 0 [] Aa act:=⟨O0,OwnRows.nil,hoss.rss,fun g hg=>by injection hg with hg;simp only at hg;omega,by omega⟩
 clear p0 p1 p2 hm2 hoss O0 HAC;have p0:=b0.cell 0 rfl;have p1:=b0.cell 1 rfl;have p2:=b0.cell 2 rfl;go_wp2_with fail;with_reducible refine (HID.out w2).mono ?_
 rintro en w3 ⟨A3,c3,rfl,hid3,hbe3⟩;have hm3:Mid 0 0 w2 w3:=Mid.of_below hbe3;have hm03:=hm0.trans hm3;have HG0:=Lib.hid hG0;have HI3:=Lib.hid hid3;clear p0 p1 p2 b0 hbe3 hid3 hG0 HID;generalize (some (⟨w.heap.size+1,0,none⟩:Addr))=A0 at HG0 ⊢;go_wp2_with (at_builtin;refine wpList_pushG rfl _ _ rfl rfl HG0.out hm3 ⟨A3,c3,upto n⟩ HI3.out rfl (Nat.zero_le _) ?_;intro A4 c4 w4 hG4 hm4)
 have hm04:=hm03.transNew hm4 (Or.inl (Nat.le_succ _));have hst:([]:List Row)++[(⟨A3,c3,upto n⟩:Row)]=[⟨A3,c3,upto n⟩]:=rfl;rw [hst] at hG4;clear hst hm4 hm03 hm3 hm0 HG0 HI3;generalize w1.heap.size=Ba at hG4;generalize w2.heap.size=Bb at hG4;obtain ⟨lo0,hlo0⟩:∃ lo0,w.heap.size+1=lo0:=⟨_,rfl⟩
 have hlo1:w.heap.size≤lo0:=by omega
 rw [hlo0] at hG4;go_loopw [3,5] (fun out i wr=>∃ (i0:Nat) (rows:List Row) (A5:Option Addr) (n5 c5:Nat),i=.int .i64 i0∧out=.slice A5 n5 c5∧Hid (i0≤n5∧n5≤200)∧Hid (grpRun act (201 - i0) i0 (rowsD rows)=R)∧Hid (∀ x∈rowsD rows,x.length≤40) ∧
   Hid (Grp wr lo0 Ba Bb A5 n5 c5 rows Aa act)∧Mid 0 0 w wr) (fun out i _=>201 - (intOf i).toNat)
 case atStart=>exact ⟨0,[⟨A3,c3,upto n⟩],_,1,_,rfl,rfl,Lib.hid ⟨Nat.zero_le _,by omega⟩,HR,Lib.hid (fun x hx=>by simp [rowsD] at hx;rw [hx,upto_len];exact hn40),Lib.hid hG4,hm04⟩
 case round =>
  clear hG4 hm04 HR;obtain ⟨wo,hwo⟩:∃ wo,wo=wr:=⟨_,rfl⟩
  subst hwo;obtain ⟨i0,rows,A5,n5,c5,rfl,rfl,HI,HRUN,HLEN,HG,hm⟩:=hrel;have hi0:=HI.out;by_cases hlt:i0 < n5
  ·have hlt1:(i0:Int) < (n5:Int):=by omega
   obtain ⟨q,hq⟩:∃ q,(rowsD rows)[i0]?=some q:=⟨_,List.getElem?_eq_getElem (by rw [rowsD_len,HG.out.len];exact hlt)⟩
   have HQ:=Lib.hid hq;have HQ1:=Lib.hid hq;obtain ⟨RR,hRR⟩:∃ RR,grpRow q act (rowsD rows)=RR:=⟨_,rfl⟩
   have HRR:=Lib.hid hRR;have hq40:Hid (q.length≤40):=Lib.hid (HLEN.out q (List.mem_of_getElem? hq));clear hq hRR;go_wp2_with fail;go_loopw [3,33] (fun out kv wr=>∃ (k:Nat) (rows:List Row) (A6:Option Addr) (n6 c6:Nat),kv=.int .i64 k∧out=.slice A6 n6 c6∧Hid (k≤act.length∧i0 < n6∧n6≤200)∧Hid ((rowsD rows)[i0]?=some q)∧Hid (grpRow q (act.drop k) (rowsD rows)=RR)∧Hid (∀ x∈rowsD rows,x.length≤40) ∧
     Hid (Grp wr lo0 Ba Bb A6 n6 c6 rows Aa act)∧Mid 0 0 w wr) (fun out kv _=>act.length - (intOf kv).toNat)
   case atStart=>exact ⟨0,rows,A5,n5,c5,rfl,rfl,Lib.hid ⟨Nat.zero_le _,hlt,hi0.2⟩,HQ,HRR,HLEN,HG,hm⟩
   case round =>
    clear HG HLEN hm HQ;obtain ⟨wp,hwp⟩:∃ wp,wp=wr:=⟨_,rfl⟩
    subst hwp;obtain ⟨k,rowsK,A6,n6,c6,rfl,rfl,HK,HQ,HROW,HLEN,HG,hm⟩:=hrel;obtain ⟨hk,hin,hn6⟩:=HK.out;by_cases hltk:k < act.length
    ·have hltk1:(k:Int) < (act.length:Int):=by omega
     have hk0:(0:Int)≤(k:Int):=by omega
     obtain ⟨Bo,oo,Aq,cq,q',rfl,hlB,hBo,hq',hcq,hrq⟩:=HG.out.row hin;have hqq:q'=q:=by
      have:=HQ.out;rw [hq'] at this;injection this
     subst hqq;obtain ⟨Bt,ot,Ap,cp,p,rfl, -,hBt,hp,hcp,hrp⟩:=HG.out.act.row hltk;have hBts:Bt < wp.heap.size:=by have:=HG.out.act.size;omega
     have hp40:=hall.out p (List.mem_of_getElem? hp);have hq40':=hq40.out;have hi1:(i0:Int) < (n6:Int):=by omega
     have hi00:(0:Int)≤(i0:Int):=by omega
     have hdr:act.drop k=p :: act.drop (k+1):=by
      obtain ⟨h1,h2⟩:=List.getElem?_eq_some_iff.1 hp;rw [← h2,← List.drop_eq_getElem_cons h1]
     have HDR:=Lib.hid hdr;have HIN:=Lib.hid (show i0 < n6 from hin);have hCP:=fun W (h1:RV W lo0 wp.heap.size Aq (ints q')) (h2:RV W Ba Bb Ap (ints p))=>impl_Compose Aq q' cq _ Ap p cp _ W h1.rs h1.1 h2.rs h2.1 (by omega) (by omega) (cmpX q' p) (cmpX_is q' p);obtain ⟨x,hx⟩:∃ x,cmpX q' p=x:=⟨_,rfl⟩
     simp only [hx] at hCP;have hx40:Hid (x.length≤40):=Lib.hid (by rw [← hx];exact cmpX_len q' p);have Himpl:=Lib.hid hx;have HCP:=Lib.hid hCP;clear hq' hp hdr hx hCP hin;go_wp2_with fail;with_reducible refine (HCP.out _ hrq hrp).mono ?_
     rintro en w6 ⟨A7,c7,rfl,hown7,hbe7⟩;have hm7:Mid 0 0 wp w6:=Mid.of_below hbe7;clear hcq hcp hrq hrp HCP hbe7;have HG7:=Lib.hid (HG.out.mid hm7);have hm8:=hm.trans hm7;have hx40':=hx40.out;have HOW7:=Lib.hid hown7;clear hown7;go_wp2_with fail;go_loopw [9,45] (fun kn mv wr=>∃ (m:Nat) (b:Bool),mv=.int .i64 m∧kn=.bool b∧Hid (m≤n6)∧Hid (b=true↔x∈(rowsD rowsK).take m)∧Mid 0 0 w6 wr) (fun kn mv _=>n6 - (intOf mv).toNat)
     case atStart=>exact ⟨0,false,rfl,rfl,Lib.hid (Nat.zero_le _),Lib.hid (by simp),Mid.refl _ _ _⟩
     case round =>
      obtain ⟨wq,hwq⟩:∃ wq,wq=wr:=⟨_,rfl⟩
      subst hwq;obtain ⟨m,b,rfl,rfl,HM,HB,hmm⟩:=hrel;have hmn:=HM.out;by_cases hltm:m < n6
      ·have hltm1:(m:Int) < (n6:Int):=by omega
       have hm00:(0:Int)≤(m:Int):=by omega
       have hG8:=HG7.out.mid hmm;obtain ⟨By,oy,Ay,cy,y,hAy, -,hBy,hy,hcy,hry⟩:=hG8.row hltm;injection hAy with hAy
       injection hAy with hA1 hA2
       subst hA1 hA2;have HY:=Lib.hid hy;have hy40:=HLEN.out y (List.mem_of_getElem? hy);have hrx:=(owns_rv (owns_mid HOW7.out hmm oZl))
       have hrxs:Rs wq wq.heap.size A7 (ints x):=hrx.rs;cases b with
       | true =>
        have HB2:Hid (true=true↔x∈(rowsD rowsK).take (m+1)):=Lib.hid (by rw [mem_take_succ HY.out];exact iff_of_true rfl (Or.inl (HB.out.1 rfl)));clear hy hry hrx hrxs hG8;go_wp2_with fail;go_roundw
        case rel=>exact ⟨m+1,true,by go_num,rfl,Lib.hid hltm,HB2,hmm⟩
        case measure=>simp [intOf];omega
       | false =>
        obtain ⟨v,hv⟩:=bool_of (x=y);have HV:=Lib.hid hv;have HB2:Hid (v=true↔x∈(rowsD rowsK).take (m+1)):=Lib.hid (by
         rw [mem_take_succ HY.out,HV.out];constructor
         ·exact fun h=>Or.inr h
         ·rintro (h | h)
          ·have:=HB.out.2 h
           cases this
          ·exact h)
        clear hy hv hrx hG8;go_wp2_with fail;with_reducible refine (impl_EqualWords A7 Ay x y c7 cy wq _ _ hrxs hry.rs (by omega) v HV.out).mono ?_
        rintro en w9 ⟨rfl,nd,rfl⟩;go_wp2_with fail;go_roundw
        case rel=>exact ⟨m+1,v,by go_num,rfl,Lib.hid hltm,HB2,hmm.trans ((Mid.refl 0 0 wq).drewN nd)⟩
        case measure=>simp [intOf];omega
      ·obtain rfl:m=n6:=by omega
       have htk:(rowsD rowsK).take m=rowsD rowsK:=List.take_of_length_le (by rw [rowsD_len,HG7.out.len];exact Nat.le_refl _);have HB3:Hid (b=true↔x∈rowsD rowsK):=Lib.hid (by rw [← htk];exact HB.out);have hG8:=HG7.out.mid hmm;have hm9:=hm8.trans hmm;have hrw:=HROW.out;rw [HDR.out] at hrw;have hmi:=hm7.trans hmm;clear HB htk;cases b with
       | true =>
        rw [grpRow_in (by rw [Himpl.out];exact HB3.out.1 rfl)] at hrw;have HROW2:=Lib.hid hrw;clear hrw;go_wp2_with fail;go_roundw
        case rel=>exact ⟨k+1,rowsK,_,m,c6,by go_num,rfl,Lib.hid ⟨hltk,HIN.out,hn6⟩,HQ,HROW2,HLEN,Lib.hid hG8,hm9⟩
        case measure=>simp [intOf];omega
       | false =>
        have hnin:cmpX q' p ∉ rowsD rowsK:=fun h=>by rw [Himpl.out] at h;have:=HB3.out.2 h;cases this
        have hlen:(rowsD rowsK).length=m:=by rw [rowsD_len,HG7.out.len]
        by_cases h200:m=200
        ·rw [grpRow_full hnin (by rw [hlen];exact h200)] at hrw
         have hfin:=HRUN.out;rw [show 201 - i0=(200 - i0)+1 by have:=HI.out;omega,grpRun_none HQ1.out (HRR.out.trans hrw.symm)] at hfin;subst h200 hfin;clear hrw hnin hlen;go_wp2_with fail;go_ret;refine ⟨some ⟨wq.heap.size,0,none⟩,0,rfl,?_,?_⟩
         ·have h1:=OSS.mk' (xss:=[]) (owns_empty wq 34 1) (OwnRows.nil (tI:=3)) rfl
          exact h1.wide (by have:=hm9.size;omega) (Nat.le_refl _) (Nat.le_refl _)
         ·exact hm9.trans (Mid.alloc _ _)
        ·rw [grpRow_new hnin (by rw [hlen];exact h200),Himpl.out] at hrw
         have d200:((m:Int) == 200)=false:=by simp only [beq_eq_false_iff_ne];omega
         have d200':decide ((200:Int)≤(m:Int))=false:=by simp;omega
         have HROW2:=Lib.hid hrw;have HOW8:=Lib.hid (owns_mid HOW7.out hmm oZl);clear hrw hnin hlen hG8;go_wp2_with (at_builtin;refine wpList_pushG rfl _ _ rfl rfl HG.out hmi ⟨A7,c7,x⟩ HOW8.out rfl (by omega) ?_;intro A10 c10 w10 hG10 hm10)
         go_roundw
         case rel =>
          refine ⟨k+1,rowsK++[⟨A7,c7,x⟩],A10,m+1,c10,by go_num,rfl,Lib.hid ⟨hltk,by have:=HIN.out;omega,by omega⟩,Lib.hid ?_,?_,Lib.hid ?_,Lib.hid hG10,hm9.transNew hm10 (Or.inl hlo1)⟩
          ·rw [rowsD_append]
           exact prefix_get (List.prefix_append _ _) HQ.out
          ·rw [rowsD_append]
           exact HROW2
          ·intro z hz
           rw [rowsD_append] at hz;rcases List.mem_append.1 hz with hz | hz
           ·exact HLEN.out z hz
           ·simp [rowsD] at hz
            rw [hz];exact hx40.out
         case measure=>simp [intOf];omega
    ·obtain rfl:k=act.length:=by omega
     have hrw:=HROW.out;rw [List.drop_length,grpRow] at hrw;have hfin:=HRUN.out;rw [show 201 - i0=(200 - i0)+1 by have:=HI.out;omega,grpRun_some HQ1.out (HRR.out.trans hrw.symm)] at hfin;have HFIN:=Lib.hid hfin;clear hrw hfin;go_wp2_with fail;go_roundw
     case rel=>exact ⟨i0+1,rowsK,A6,n6,c6,by go_num,rfl,Lib.hid ⟨by omega,hn6⟩,Lib.hid (by rw [show 201 - (i0+1)=200 - i0 by omega];exact HFIN.out),HLEN,HG,hm⟩
     case measure=>simp [intOf];omega
  ·obtain rfl:i0=n5:=by omega
   have hfin:=HRUN.out;rw [grpRun_end (by rw [rowsD_len,HG.out.len];exact Nat.le_refl _)] at hfin;have hlen:R.length=i0:=by rw [← hfin,rowsD_len,HG.out.len]
   have hoss:=OSS.mk' HG.out.out (HG.out.rows.wide HG.out.lob (Nat.le_refl _) (Nat.le_refl _)) hfin;have HL:=Lib.hid hlen;clear hlen hfin;go_wp2_with fail;go_ret;exact ⟨A5,c5,by rw [HL.out];rfl,hoss.wide hlo1 (Nat.le_refl _) (Nat.le_refl _),hm⟩
end
section
open Go.RowKit
theorem spec_GroupElements_fin (r n:Nat) (A:Option Addr) (es:List Ed) (c:Nat) (w:World) (lo hi:Nat) (hr:RG w lo hi A es) (hf:IsFin r n es) (R:List (List Int)) (hR:grpI r n es=R) :
  Calls Tryz.prog 81 #[graV r n A es.length c] w fun e w'=>∃ A1 c1,e=.returned (.slice A1 R.length c1)∧OSS w' w.heap.size w'.heap.size 34 3 A1 c1 R∧Mid 0 0 w w':=by
 have hg:=hf.cor.gr;have hn40:n≤40:=by have:=hg.size;omega
 have hr3:1≤r∧r≤3:=by have:=hg.rank;omega
 have hl:=hg.len;have HF:=Lib.hid hf;have HR:=Lib.hid (by rw [← hR];exact (grpI_yes hf).symm:grpRun (actL n es r) 201 0 [upto n]=R);have hal0:=actL_len n es r;have hasum:=actL_sum n es r;obtain ⟨act,hact⟩:∃ act,actL n es r=act:=⟨_,rfl⟩
 have hAC:=fun W h=>spec_ActionOf_fin r n A es c W lo hi h hf;rw [hact] at HR hal0 hasum;simp only [hact] at hAC;have HAC:=Lib.hid hAC;have hall:Hid (∀ p∈act,p.length≤40):=Lib.hid (by
  intro p hp;rw [← hact] at hp;simp only [actL,List.mem_map,List.mem_range] at hp;obtain ⟨i, -,rfl⟩:=hp;rw [rowL_len];exact hn40)
 have hmin:min ((n:Int).toNat) 40=n:=by omega
 have hID:=fun W=>spec_IdentityPermutation (n:Int) W;simp only [hmin] at hID;have HID:=Lib.hid hID;clear hf hg hR hact hAC hID hmin hasum;have hm0:Mid 0 0 w (w.alloc (.cells #[.int .i64 r,.int .i64 n,.slice A es.length c] 26)):=Mid.alloc _ _;have b0:=Box.new w #[.int .i64 r,.int .i64 n,.slice A es.length c] 26;have hane:((act.length:Int) == 0)=false:=by rw [hal0];simp only [beq_eq_false_iff_ne];omega
 go_enter Tryz.func81,Tryz.ntmps81
 go_wp2_with fail;generalize w.alloc (.cells #[.int .i64 r,.int .i64 n,.slice A es.length c] 26)=w1 at hm0 b0 ⊢;with_reducible refine (HAC.out _ (hr.mid hm0 oZl)).mono ?_
 rintro en w2 ⟨Aa,ca,rfl,hoss,hm2⟩;have hs1:=hm0.size;replace b0:=b0.mid hm2 oZr;replace hm0:=hm0.trans hm2;have hs2:=hm2.size;have p0:=b0.cell 0 rfl;have p1:=b0.cell 1 rfl;have p2:=b0.cell 2 rfl;go_wp2_with fail;with_reducible refine (HID.out w2).mono ?_
 rintro en w3 ⟨A3,c3,rfl,hid3,hbe3⟩;have hm3:Mid 0 0 w2 w3:=Mid.of_below hbe3;have hm03:=hm0.trans hm3;have hs3:=hm3.size;have hal:=Mid.alloc w3 (.cells #[.slice A3 (upto n).length c3] 34);have hm04:=hm03.trans hal;have hG4:Grp (w3.alloc (.cells #[.slice A3 (upto n).length c3] 34)) w2.heap.size w1.heap.size w2.heap.size (some ⟨w3.heap.size,0,none⟩) 1 1 [⟨A3,c3,upto n⟩] Aa act:=by
  refine ⟨owns_base (owns_lit w3 34 (.slice A3 (upto n).length c3)) hs3,?_,(hoss.rss.mid hm3 oZl).mid hal oZl,fun g hg=>by injection hg with hg;simp only at hg;omega,Nat.le_refl _⟩;refine ⟨fun q hq=>?_,by simp⟩;simp at hq;subst hq;have h1:=owns_mid hid3 hal oZl;exact ⟨Nat.le_refl _,h1,fun g hg=>(h1.lt g hg).2⟩
 clear p0 p1 p2 hm2 hoss HAC hid3 hbe3 HID;go_wp2_with fail;generalize w3.alloc (.cells #[.slice A3 (upto n).length c3] 34)=w4 at hG4 hm04 ⊢;obtain ⟨lo0,hlo0⟩:∃ lo0,w2.heap.size=lo0:=⟨_,rfl⟩
 have hlo1:w.heap.size≤lo0:=by omega
 rw [hlo0] at hG4;clear hal hm03 hm3 hm0;generalize w1.heap.size=Ba at hG4;obtain ⟨Bb,hBb⟩:∃ Bb,lo0=Bb:=⟨_,rfl⟩
 go_loopw [4,5] (fun out i wr=>∃ (i0:Nat) (rows:List Row) (A5:Option Addr) (n5 c5:Nat),i=.int .i64 i0∧out=.slice A5 n5 c5∧Hid (i0≤n5∧n5≤200)∧Hid (grpRun act (201 - i0) i0 (rowsD rows)=R)∧Hid (∀ x∈rowsD rows,x.length≤40) ∧
   Hid (Grp wr lo0 Ba lo0 A5 n5 c5 rows Aa act)∧Mid 0 0 w wr) (fun out i _=>201 - (intOf i).toNat)
 case atStart=>exact ⟨0,[⟨A3,c3,upto n⟩],_,1,_,rfl,rfl,Lib.hid ⟨Nat.zero_le _,by omega⟩,HR,Lib.hid (fun x hx=>by simp [rowsD] at hx;rw [hx,upto_len];exact hn40),Lib.hid hG4,hm04⟩
 case round =>
  clear hG4 hm04 HR;obtain ⟨wo,hwo⟩:∃ wo,wo=wr:=⟨_,rfl⟩
  subst hwo;obtain ⟨i0,rows,A5,n5,c5,rfl,rfl,HI,HRUN,HLEN,HG,hm⟩:=hrel;have hi0:=HI.out;by_cases hlt:i0 < n5
  ·have hlt1:(i0:Int) < (n5:Int):=by omega
   obtain ⟨q,hq⟩:∃ q,(rowsD rows)[i0]?=some q:=⟨_,List.getElem?_eq_getElem (by rw [rowsD_len,HG.out.len];exact hlt)⟩
   have HQ:=Lib.hid hq;have HQ1:=Lib.hid hq;obtain ⟨RR,hRR⟩:∃ RR,grpRow q act (rowsD rows)=RR:=⟨_,rfl⟩
   have HRR:=Lib.hid hRR;have hq40:Hid (q.length≤40):=Lib.hid (HLEN.out q (List.mem_of_getElem? hq));clear hq hRR;go_wp2_with fail;go_loopw [4,6] (fun out kv wr=>∃ (k:Nat) (rows:List Row) (A6:Option Addr) (n6 c6:Nat),kv=.int .i64 k∧out=.slice A6 n6 c6∧Hid (k≤act.length∧i0 < n6∧n6≤200)∧Hid ((rowsD rows)[i0]?=some q)∧Hid (grpRow q (act.drop k) (rowsD rows)=RR)∧Hid (∀ x∈rowsD rows,x.length≤40) ∧
     Hid (Grp wr lo0 Ba lo0 A6 n6 c6 rows Aa act)∧Mid 0 0 w wr) (fun out kv _=>act.length - (intOf kv).toNat)
   case atStart=>exact ⟨0,rows,A5,n5,c5,rfl,rfl,Lib.hid ⟨Nat.zero_le _,hlt,hi0.2⟩,HQ,HRR,HLEN,HG,hm⟩
   case round =>
    clear HG HLEN hm HQ;obtain ⟨wp,hwp⟩:∃ wp,wp=wr:=⟨_,rfl⟩
    subst hwp;obtain ⟨k,rowsK,A6,n6,c6,rfl,rfl,HK,HQ,HROW,HLEN,HG,hm⟩:=hrel;obtain ⟨hk,hin,hn6⟩:=HK.out;by_cases hltk:k < act.length
    ·have hltk1:(k:Int) < (act.length:Int):=by omega
     have hk0:(0:Int)≤(k:Int):=by omega
     obtain ⟨Bo,oo,Aq,cq,q',rfl,hlB,hBo,hq',hcq,hrq⟩:=HG.out.row hin;have hqq:q'=q:=by
      have:=HQ.out;rw [hq'] at this;injection this
     subst hqq;obtain ⟨Bt,ot,Ap,cp,p,rfl, -,hBt,hp,hcp,hrp⟩:=HG.out.act.row hltk;have hBts:Bt < wp.heap.size:=by have:=HG.out.act.size;omega
     have hp40:=hall.out p (List.mem_of_getElem? hp);have hq40':=hq40.out;have hi1:(i0:Int) < (n6:Int):=by omega
     have hi00:(0:Int)≤(i0:Int):=by omega
     have hdr:act.drop k=p :: act.drop (k+1):=by
      obtain ⟨h1,h2⟩:=List.getElem?_eq_some_iff.1 hp;rw [← h2,← List.drop_eq_getElem_cons h1]
     have HDR:=Lib.hid hdr;have HIN:=Lib.hid (show i0 < n6 from hin);have hCP:=fun W (h1:RV W lo0 wp.heap.size Aq (ints q')) (h2:RV W Ba lo0 Ap (ints p))=>spec_Compose Aq q' cq _ Ap p cp _ W h1.rs h1.1 h2.rs h2.1 (by omega) (by omega) (cmpX q' p) (cmpX_is q' p);obtain ⟨x,hx⟩:∃ x,cmpX q' p=x:=⟨_,rfl⟩
     simp only [hx] at hCP;have hx40:Hid (x.length≤40):=Lib.hid (by rw [← hx];exact cmpX_len q' p);have Hspec:=Lib.hid hx;have HCP:=Lib.hid hCP;clear hq' hp hdr hx hCP hin;have e0:=wg_cell hBo hcq;have e1:=wg_cell hBts hcp;go_wp2_with fail;have hmd:=Mid.drew1 wp;have hcq1:=cell_keep hmd hBo oZr hcq;have hcp1:=cell_keep hmd hBts oZr hcp;have hrq1:=hrq.mid hmd oZl;have hrp1:=hrp.mid hmd oZl;have HG1:=Lib.hid (HG.out.mid hmd);have hms:=hmd.size;clear hcq hcp hrq hrp e0 e1;refine wp_region_T (S:=(fun w'=>w'.cell? ⟨Bo,oo+i0,none⟩=some (.slice Aq q'.length cq)∧w'.cell? ⟨Bt,ot+k,none⟩=some (.slice Ap p.length cp))) 9 (by kernel_rfl) ⟨hcq1,hcp1⟩ ?_;generalize World.drew wp=wz at hcq1 hcp1 hrq1 hrp1 HG1 hmd hms ⊢;refine tkT 0 rfl ⟨hcq1,hcp1⟩ ?_;try simp only [Act.put,zs1,zs2,zs3,zs4,zs5,zs6]
     refine tkT 1 rfl ⟨hcq1,hcp1⟩ ?_;try simp only [Act.put,zs1,zs2,zs3,zs4,zs5,zs6]
     refine tkT 2 rfl ⟨hcq1,hcp1⟩ ?_;try simp only [Act.put,zs1,zs2,zs3,zs4,zs5,zs6]
     refine tkT 3 rfl ⟨hcq1,hcp1⟩ ?_;try simp only [Act.put,zs1,zs2,zs3,zs4,zs5,zs6]
     refine tkT 4 rfl ⟨hcq1,hcp1⟩ ?_;try simp only [Act.put,zs1,zs2,zs3,zs4,zs5,zs6]
     refine tkT 5 rfl ⟨hcq1,hcp1⟩ ?_;try simp only [Act.put,zs1,zs2,zs3,zs4,zs5,zs6]
     refine tkT 6 rfl ⟨hcq1,hcp1⟩ ?_;try simp only [Act.put,zs1,zs2,zs3,zs4,zs5,zs6]
     refine tkT 7 rfl ⟨hcq1,hcp1⟩ ?_;try simp only [Act.put,zs1,zs2,zs3,zs4,zs5,zs6]
     refine rdT 8 rfl (fun K hK=>?_)
     (go_simp;refine (HCP.out _ hrq1 hrp1).mono ?_;rintro en w6 ⟨A7,c7,rfl,hown7,hbe7⟩;have hm7':Mid 0 0 wz w6:=Mid.of_below hbe7;go_wp2_with fail)
     refine hK.out _ _ (Or.inr ⟨cell_keep hm7' (by omega) oZr hcq1,cell_keep hm7' (by omega) oZr hcp1⟩) (fun _=>?_);clear hK K;try simp only [Act.put,zs1,zs2,zs3,zs4,zs5,zs6]
     refine rdT 9 rfl (fun K hK=>?_);go_simp;refine hK.out _ _ (Or.inl rfl) (fun _=>?_);clear hK K;try simp only [Act.put,zs1,zs2,zs3,zs4,zs5,zs6]
     refine wpAnyT_done (by kernel_rfl) ?_ _;have hm7:Mid 0 0 wp w6:=hmd.trans hm7';replace hown7:=owns_base hown7 hms;clear hcq1 hcp1 hrq1 hrp1 HCP hbe7 hm7' hmd;have HG7:=Lib.hid (HG.out.mid hm7);have hm8:=hm.trans hm7;have hx40':=hx40.out;have HOW7:=Lib.hid hown7;clear hown7;go_wp2_with fail;go_loopw [8,9] (fun kn mv wr=>∃ (m:Nat) (b:Bool),mv=.int .i64 m∧kn=.bool b∧Hid (m≤n6)∧Hid (b=true↔x∈(rowsD rowsK).take m)∧Mid 0 0 w6 wr) (fun kn mv _=>n6 - (intOf mv).toNat)
     case atStart=>exact ⟨0,false,rfl,rfl,Lib.hid (Nat.zero_le _),Lib.hid (by simp),Mid.refl _ _ _⟩
     case round =>
      obtain ⟨wq,hwq⟩:∃ wq,wq=wr:=⟨_,rfl⟩
      subst hwq;obtain ⟨m,b,rfl,rfl,HM,HB,hmm⟩:=hrel;have hmn:=HM.out;by_cases hltm:m < n6
      ·have hltm1:(m:Int) < (n6:Int):=by omega
       have hm00:(0:Int)≤(m:Int):=by omega
       have hG8:=HG7.out.mid hmm;obtain ⟨By,oy,Ay,cy,y,hAy, -,hBy,hy,hcy,hry⟩:=hG8.row hltm;injection hAy with hAy
       injection hAy with hA1 hA2
       subst hA1 hA2;have HY:=Lib.hid hy;have hy40:=HLEN.out y (List.mem_of_getElem? hy);have hrx:=(owns_rv (owns_mid HOW7.out hmm oZl))
       have hrxs:Rs wq wq.heap.size A7 (ints x):=hrx.rs;cases b with
       | true =>
        have HB2:Hid (true=true↔x∈(rowsD rowsK).take (m+1)):=Lib.hid (by rw [mem_take_succ HY.out];exact iff_of_true rfl (Or.inl (HB.out.1 rfl)));clear hy hry hrx hrxs hG8;go_wp2_with fail;go_roundw
        case rel=>exact ⟨m+1,true,by go_num,rfl,Lib.hid hltm,HB2,hmm⟩
        case measure=>simp [intOf];omega
       | false =>
        obtain ⟨v,hv⟩:=bool_of (y=x);have HV:=Lib.hid hv;have HB2:Hid (v=true↔x∈(rowsD rowsK).take (m+1)):=Lib.hid (by
         rw [mem_take_succ HY.out,HV.out];constructor
         ·exact fun h=>Or.inr h.symm
         ·rintro (h | h)
          ·have:=HB.out.2 h
           cases this
          ·exact h.symm)
        clear hy hv hrx hG8;go_wp2_with fail;with_reducible refine (spec_EqualWords Ay A7 y x cy c7 wq _ _ hry.rs hrxs (by omega) v HV.out).mono ?_
        rintro en w9 ⟨rfl,nd,rfl⟩;go_wp2_with fail;go_roundw
        case rel=>exact ⟨m+1,v,by go_num,rfl,Lib.hid hltm,HB2,hmm.trans ((Mid.refl 0 0 wq).drewN nd)⟩
        case measure=>simp [intOf];omega
      ·obtain rfl:m=n6:=by omega
       have htk:(rowsD rowsK).take m=rowsD rowsK:=List.take_of_length_le (by rw [rowsD_len,HG7.out.len];exact Nat.le_refl _);have HB3:Hid (b=true↔x∈rowsD rowsK):=Lib.hid (by rw [← htk];exact HB.out);have hG8:=HG7.out.mid hmm;have hm9:=hm8.trans hmm;have hrw:=HROW.out;rw [HDR.out] at hrw;have hmi:=hm7.trans hmm;clear HB htk;cases b with
       | true =>
        rw [grpRow_in (by rw [Hspec.out];exact HB3.out.1 rfl)] at hrw;have HROW2:=Lib.hid hrw;clear hrw;go_wp2_with fail;go_roundw
        case rel=>exact ⟨k+1,rowsK,_,m,c6,by go_num,rfl,Lib.hid ⟨hltk,HIN.out,hn6⟩,HQ,HROW2,HLEN,Lib.hid hG8,hm9⟩
        case measure=>simp [intOf];omega
       | false =>
        have hnin:cmpX q' p ∉ rowsD rowsK:=fun h=>by rw [Hspec.out] at h;have:=HB3.out.2 h;cases this
        have hlen:(rowsD rowsK).length=m:=by rw [rowsD_len,HG7.out.len]
        by_cases h200:m=200
        ·rw [grpRow_full hnin (by rw [hlen];exact h200)] at hrw
         have hfin:=HRUN.out;rw [show 201 - i0=(200 - i0)+1 by have:=HI.out;omega,grpRun_none HQ1.out (HRR.out.trans hrw.symm)] at hfin;subst h200 hfin;clear hrw hnin hlen;go_wp2_with fail;go_ret;refine ⟨some ⟨wq.heap.size,0,none⟩,0,rfl,?_,?_⟩
         ·have h1:=OSS.mk' (xss:=[]) (owns_empty wq 34 1) (OwnRows.nil (tI:=3)) rfl
          exact h1.wide (by have:=hm9.size;omega) (Nat.le_refl _) (Nat.le_refl _)
         ·exact hm9.trans (Mid.alloc _ _)
        ·rw [grpRow_new hnin (by rw [hlen];exact h200),Hspec.out] at hrw
         have d200:((m:Int) == 200)=false:=by simp only [beq_eq_false_iff_ne];omega
         have d200':decide ((200:Int)≤(m:Int))=false:=by simp;omega
         have HROW2:=Lib.hid hrw;have HOW8:=Lib.hid (owns_mid HOW7.out hmm oZl);clear hrw hnin hlen hG8;go_wp2_with (at_builtin;refine wpList_pushG rfl _ _ rfl rfl HG.out hmi ⟨A7,c7,x⟩ HOW8.out rfl (by omega) ?_;intro A10 c10 w10 hG10 hm10)
         go_roundw
         case rel =>
          refine ⟨k+1,rowsK++[⟨A7,c7,x⟩],A10,m+1,c10,by go_num,rfl,Lib.hid ⟨hltk,by have:=HIN.out;omega,by omega⟩,Lib.hid ?_,?_,Lib.hid ?_,Lib.hid hG10,hm9.transNew hm10 (Or.inl hlo1)⟩
          ·rw [rowsD_append]
           exact prefix_get (List.prefix_append _ _) HQ.out
          ·rw [rowsD_append]
           exact HROW2
          ·intro z hz
           rw [rowsD_append] at hz;rcases List.mem_append.1 hz with hz | hz
           ·exact HLEN.out z hz
           ·simp [rowsD] at hz
            rw [hz];exact hx40.out
         case measure=>simp [intOf];omega
    ·obtain rfl:k=act.length:=by omega
     have hrw:=HROW.out;rw [List.drop_length,grpRow] at hrw;have hfin:=HRUN.out;rw [show 201 - i0=(200 - i0)+1 by have:=HI.out;omega,grpRun_some HQ1.out (HRR.out.trans hrw.symm)] at hfin;have HFIN:=Lib.hid hfin;clear hrw hfin;go_wp2_with fail;go_roundw
     case rel=>exact ⟨i0+1,rowsK,A6,n6,c6,by go_num,rfl,Lib.hid ⟨by omega,hn6⟩,Lib.hid (by rw [show 201 - (i0+1)=200 - i0 by omega];exact HFIN.out),HLEN,HG,hm⟩
     case measure=>simp [intOf];omega
  ·obtain rfl:i0=n5:=by omega
   have hfin:=HRUN.out;rw [grpRun_end (by rw [rowsD_len,HG.out.len];exact Nat.le_refl _)] at hfin;have hlen:R.length=i0:=by rw [← hfin,rowsD_len,HG.out.len]
   have hoss:=OSS.mk' HG.out.out (HG.out.rows.wide HG.out.lob (Nat.le_refl _) (Nat.le_refl _)) hfin;have HL:=Lib.hid hlen;clear hlen hfin;go_wp2_with fail;go_ret;exact ⟨A5,c5,by rw [HL.out];rfl,hoss.wide hlo1 (Nat.le_refl _) (Nat.le_refl _),hm⟩
end
section
open Go.RowKit
def coreIx (r s:Int) (es:List Ed):Int→Prop:=fun res=>res=if (grpI r s es).length=0 then -1 else ((grpI r s es).length:Int)
def GroupElementsIs (r0 s0:Int) (d0:List Ed) (res0:List (List Int)):Prop:=res0=grpI r0 s0 d0
theorem GroupElementsIs_ex (r0 s0:Int) (d0:List Ed) (hl0:d0.length≤1048576):∃ res0,GroupElementsIs r0 s0 d0 res0:=⟨_,rfl⟩
theorem GroupElementsIs_len {r0 s0:Int} {d0:List Ed} {res0:List (List Int)} (h:GroupElementsIs r0 s0 d0 res0) (hl0:d0.length≤1048576):res0.length+sumL res0≤1048576:=by
 obtain rfl:res0=_:=h;have h1:=grpI_len r0 s0 d0;have h2:=grpI_sum r0 s0 d0;omega
def CoreIndexIs (r0 s0:Int) (d0:List Ed) (res0:Int):Prop:=coreIx r0 s0 d0 res0
theorem CoreIndexIs_ex (r0 s0:Int) (d0:List Ed) (hl0:d0.length≤1048576):∃ res0,CoreIndexIs r0 s0 d0 res0:=⟨_,rfl⟩
theorem spec_GroupElements_no (r s:Int) (A:Option Addr) (es:List Ed) (c:Nat) (w:World) (lo hi:Nat) (hr:RG w lo hi A es) (hl:es.length≤1048576) (hf:¬ IsFin r s es) :
  Calls Tryz.prog 81 #[graV r s A es.length c] w fun e w'=>∃ A1 c1,e=.returned (.slice A1 0 c1)∧OSS w' w.heap.size w'.heap.size 34 3 A1 c1 []∧Mid 0 0 w w':=by
 have HF:=Lib.hid hf;clear hf;have hm0:Mid 0 0 w (w.alloc (.cells #[.int .i64 r,.int .i64 s,.slice A es.length c] 26)):=Mid.alloc _ _;go_enter Tryz.func81,Tryz.ntmps81
 go_wp2_with fail;with_reducible refine (spec_ActionOf_no r s A es c _ _ _ (hr.mid hm0 oZl) hl HF.out).mono ?_
 rintro en w1 ⟨A1,c1,rfl, -,hm1⟩;replace hm0:=hm0.trans hm1;have hoss:=(OSS.mk' (tI:=3) (rows:=[]) (xss:=[]) (owns_empty w1 34 1) OwnRows.nil rfl).wide (lo':=w.heap.size) hm0.size (Nat.le_refl _) (Nat.le_refl _);go_wp2_with fail;go_ret;exact ⟨_,_,rfl,hoss,hm0.trans (Mid.alloc _ _)⟩
theorem spec_GroupElements (r s:Int) (A:Option Addr) (es:List Ed) (c:Nat) (w:World) (lo hi:Nat) (hr:RG w lo hi A es) (hl:es.length≤1048576) (R:List (List Int)) (hR:R=grpI r s es) :
  Calls Tryz.prog 81 #[graV r s A es.length c] w fun e w'=>∃ A1 c1,e=.returned (.slice A1 R.length c1)∧OSS w' w.heap.size w'.heap.size 34 3 A1 c1 R∧Mid 0 0 w w':=by
 by_cases h:IsFin r s es
 ·obtain ⟨k,n,rfl,rfl⟩:=h.cor.gr.nat
  exact spec_GroupElements_fin k n A es c w lo hi hr h R hR.symm
 ·rw [grpI_no h] at hR
  subst hR;exact spec_GroupElements_no r s A es c w lo hi hr hl h
theorem sspec_GroupElements (r0 s0:Int) (A0:Option Addr) (d0:List Ed) (c0:Nat) (w:World) (lo0 hi0:Nat) (h0:OG w lo0 hi0 A0 c0 d0) (hl0:d0.length≤1048576) (res0:List (List Int)) (h:GroupElementsIs r0 s0 d0 res0) :
  Calls Tryz.prog 81 #[.agg #[.int .i64 r0,.int .i64 s0,.slice A0 d0.length c0]] w fun e w'=>∃ (A:Option Addr) (c:Nat),e=.returned (.slice A res0.length c)∧OSS w' w.heap.size w'.heap.size 34 3 A c res0∧Mid 0 0 w w' :=
 spec_GroupElements r0 s0 A0 d0 c0 w lo0 hi0 h0.rg hl0 res0 h
theorem sspec_CoreIndex (r0 s0:Int) (A0:Option Addr) (d0:List Ed) (c0:Nat) (w:World) (lo0 hi0:Nat) (h0:OG w lo0 hi0 A0 c0 d0) (hl0:d0.length≤1048576) (res0:Int) (h:CoreIndexIs r0 s0 d0 res0) :
  Calls Tryz.prog 83 #[.agg #[.int .i64 r0,.int .i64 s0,.slice A0 d0.length c0]] w fun e w'=>e=.returned (.int .i64 res0)∧Mid 0 0 w w':=by
 have hm0:Mid 0 0 w (w.alloc (.cells #[.int .i64 r0,.int .i64 s0,.slice A0 d0.length c0] 26)):=Mid.alloc _ _;have hP:=fun W hh=>spec_GroupElements r0 s0 A0 d0 c0 W lo0 hi0 hh hl0 _ rfl;have hk:=grpI_len r0 s0 d0;have hres:res0=if (grpI r0 s0 d0).length=0 then -1 else ((grpI r0 s0 d0).length:Int):=h
 generalize grpI r0 s0 d0=R at hP hk hres;have HP:=Lib.hid hP;have h0':=h0.rg;clear hP h h0;go_enter Tryz.func83,Tryz.ntmps83
 go_wp2_with fail;with_reducible refine (HP.out _ (h0'.mid hm0 oZl)).mono ?_
 rintro en w1 ⟨A1,c1,rfl, -,hm1⟩;by_cases hz:R.length=0
 ·rw [if_pos hz] at hres
  subst hres;have d1:((R.length:Int) == 0)=true:=by rw [hz];rfl
  go_wp2_with fail;go_ret;exact ⟨rfl,hm0.trans hm1⟩
 ·rw [if_neg hz] at hres
  subst hres;have d1:((R.length:Int) == 0)=false:=by simp only [beq_eq_false_iff_ne];omega
  have d2:0 < R.length:=by omega
  clear hz;go_wp2_with fail;go_ret;exact ⟨rfl,hm0.trans hm1⟩
theorem impl_GroupElements_no (r s:Int) (A:Option Addr) (es:List Ed) (c:Nat) (w:World) (lo hi:Nat) (hr:RG w lo hi A es) (hl:es.length≤1048576) (hcl:es.length≤c) (hf:¬ IsFin r s es) :
  Calls Tryz.prog 80 #[graV r s A es.length c] w fun e w'=>∃ A1 c1,e=.returned (.slice A1 0 c1)∧OSS w' w.heap.size w'.heap.size 34 3 A1 c1 []∧Mid 0 0 w w':=by
 have HF:=Lib.hid hf;clear hf;have hm0:Mid 0 0 w ((w.alloc (.cells #[.int .i64 r,.int .i64 s,.slice A es.length c] 26)).alloc (.cells #[] 34)):=(Mid.alloc _ _).trans (Mid.alloc _ _);have O0:=owns_empty (w.alloc (.cells #[.int .i64 r,.int .i64 s,.slice A es.length c] 26)) 34 1;rw [World.size_alloc] at O0;go_enter Tryz.func80,Tryz.ntmps80
 go_wp2_with fail;with_reducible refine (impl_IsFiniteIndex r s A es c _ _ _ (hr.mid hm0 oZl) hl hcl false (iff_of_false Bool.false_ne_true HF.out)).mono ?_
 rintro en w1 ⟨rfl,hm1⟩;replace O0:=owns_mid O0 hm1 oZl;replace hm0:=hm0.trans hm1;have hoss:=(OSS.mk' (tI:=3) (rows:=[]) (xss:=[]) O0 OwnRows.nil rfl).wide (lo':=w.heap.size) (Nat.le_succ _) (Nat.le_refl _) (Nat.le_refl _);go_wp2_with fail;go_ret;exact ⟨_,_,rfl,hoss,hm0⟩
theorem impl_GroupElements (r s:Int) (A:Option Addr) (es:List Ed) (c:Nat) (w:World) (lo hi:Nat) (hr:RG w lo hi A es) (hl:es.length≤1048576) (hcl:es.length≤c) (R:List (List Int)) (hR:R=grpI r s es) :
  Calls Tryz.prog 80 #[graV r s A es.length c] w fun e w'=>∃ A1 c1,e=.returned (.slice A1 R.length c1)∧OSS w' w.heap.size w'.heap.size 34 3 A1 c1 R∧Mid 0 0 w w':=by
 by_cases h:IsFin r s es
 ·obtain ⟨k,n,rfl,rfl⟩:=h.cor.gr.nat
  exact impl_GroupElements_fin k n A es c w lo hi hr hcl h R hR.symm
 ·rw [grpI_no h] at hR
  subst hR;exact impl_GroupElements_no r s A es c w lo hi hr hl hcl h
theorem simpl_GroupElements (r0 s0:Int) (A0:Option Addr) (d0:List Ed) (c0:Nat) (w:World) (lo0 hi0:Nat) (h0:OG w lo0 hi0 A0 c0 d0) (hl0:d0.length≤1048576) (res0:List (List Int)) (h:GroupElementsIs r0 s0 d0 res0) :
  Calls Tryz.prog 80 #[.agg #[.int .i64 r0,.int .i64 s0,.slice A0 d0.length c0]] w fun e w'=>∃ (A:Option Addr) (c:Nat),e=.returned (.slice A res0.length c)∧OSS w' w.heap.size w'.heap.size 34 3 A c res0∧Mid 0 0 w w' :=
 impl_GroupElements r0 s0 A0 d0 c0 w lo0 hi0 h0.rg hl0 h0.cnt.1 res0 h
theorem simpl_CoreIndex (r0 s0:Int) (A0:Option Addr) (d0:List Ed) (c0:Nat) (w:World) (lo0 hi0:Nat) (h0:OG w lo0 hi0 A0 c0 d0) (hl0:d0.length≤1048576) (res0:Int) (h:CoreIndexIs r0 s0 d0 res0) :
  Calls Tryz.prog 82 #[.agg #[.int .i64 r0,.int .i64 s0,.slice A0 d0.length c0]] w fun e w'=>e=.returned (.int .i64 res0)∧Mid 0 0 w w':=by
 have hm0:Mid 0 0 w (w.alloc (.cells #[.int .i64 r0,.int .i64 s0,.slice A0 d0.length c0] 26)):=Mid.alloc _ _;have hP:=fun W hh=>impl_GroupElements r0 s0 A0 d0 c0 W lo0 hi0 hh hl0 h0.cnt.1 _ rfl;have hk:=grpI_len r0 s0 d0;have hres:res0=if (grpI r0 s0 d0).length=0 then -1 else ((grpI r0 s0 d0).length:Int):=h
 generalize grpI r0 s0 d0=R at hP hk hres;have HP:=Lib.hid hP;have h0':=h0.rg;clear hP h h0;go_enter Tryz.func82,Tryz.ntmps82
 go_wp2_with fail;with_reducible refine (HP.out _ (h0'.mid hm0 oZl)).mono ?_
 rintro en w1 ⟨A1,c1,rfl, -,hm1⟩;by_cases hz:R.length=0
 ·rw [if_pos hz] at hres
  subst hres;have d1:((R.length:Int) == 0)=true:=by rw [hz];rfl
  go_wp2_with fail;go_ret;exact ⟨rfl,hm0.trans hm1⟩
 ·rw [if_neg hz] at hres
  subst hres;have d1:((R.length:Int) == 0)=false:=by simp only [beq_eq_false_iff_ne];omega
  have d2:0 < R.length:=by omega
  clear hz;go_wp2_with fail;go_ret;exact ⟨rfl,hm0.trans hm1⟩
end
section
open Go.RowKit
theorem perm_all {p:List Int} (h:IsPerm p) {v:Int} (h0:0≤v) (h1:v < p.length):v∈p:=by
 refine nd_sub (m:=(List.range p.length).map fun (k:Nat)=>(k:Int)) h.2.2 ?_ ?_ ?_ v ?_
 ·intro x hx
  have:=h.2.1 x hx;exact List.mem_map.2 ⟨x.toNat,List.mem_range.2 (by omega),by omega⟩
 ·unfold List.Nodup
  rw [List.pairwise_map];exact (List.pairwise_lt_range (n:=p.length)).imp fun h=>by omega
 ·simp
 ·exact List.mem_map.2 ⟨v.toNat,List.mem_range.2 (by omega),by omega⟩
section
variable {rank:Int} {l:List (List Int)} {n:Nat}
theorem act_edge {e:Ed}:e∈canon (actEs l l.length)↔∃ (i v:Nat) (p:List Int),l[i]?=some p∧v < p.length∧e=⟨v,(i:Int)+1,p.getD v 0⟩:=by
 rw [mem_canon,act_mem (Nat.le_refl _)];constructor
 ·rintro ⟨i,v,p, -,h2⟩;exact ⟨i,v,p,h2⟩
 ·rintro ⟨i,v,p,h2,h3⟩;exact ⟨i,v,p,(List.getElem?_eq_some_iff.1 h2).1,h2,h3⟩
theorem act_fol (h:GActOk rank l n):IsFol rank n (canon (actEs l l.length)):=by
 refine ⟨act_gr h,?_⟩;have hnd:(canon (actEs l l.length)).Nodup:=asc_nodup (asc_canon _);refine List.Pairwise.imp_of_mem ?_ hnd;rintro e f he hf hne ⟨hl,hc⟩;obtain ⟨i,v,p,h1,h2,rfl⟩:=act_edge.1 he;obtain ⟨j,u,q,h3,h4,rfl⟩:=act_edge.1 hf;simp only at hl hc;obtain rfl:i=j:=by omega
 rw [h1] at h3;obtain rfl:=Option.some.inj h3;refine hne ?_;obtain rfl:v=u:=by
  rcases hc with hc | hc
  ·omega
  ·have hp:=(h.all p (List.mem_of_getElem? h1)).1.2.2
   rw [List.getD_eq_getElem?_getD,List.getD_eq_getElem?_getD,List.getElem?_eq_getElem h2,List.getElem?_eq_getElem h4] at hc;have e3:p[v]=p[u]:=by simpa using hc
   have a1:=hp.idxOf_getElem v h2;have a2:=hp.idxOf_getElem u h4;rw [e3] at a1;omega
 rfl
theorem act_tot (h:GActOk rank l n):Tot rank n (canon (actEs l l.length)):=fun v h0 h1 x hx h2 h3=>by
 have hln:=h.ln;have hi:(x.natAbs - 1) < l.length:=by omega
 have hp:=List.getElem?_eq_getElem hi;obtain ⟨hperm,hpl⟩:=h.all _ (List.getElem_mem hi);generalize l[x.natAbs - 1]=p at hp hperm hpl;rcases Int.lt_or_gt_of_ne hx with hneg | hpos
 ·obtain ⟨k,hk⟩:=List.mem_iff_getElem?.1 (perm_all hperm h0 (by omega))
  have hkl:=(List.getElem?_eq_some_iff.1 hk).1;refine ⟨k,.inr ⟨hneg,act_edge.2 ⟨_,k,p,hp,hkl,?_⟩⟩⟩;refine Ed.ext' rfl (by simp only;omega) ?_;simp only;rw [List.getD_eq_getElem?_getD,hk]
  rfl
 ·refine ⟨p.getD v.toNat 0,.inl ⟨hpos,act_edge.2 ⟨_,v.toNat,p,hp,by omega,?_⟩⟩⟩
  exact Ed.ext' (by simp only;omega) (by simp only;omega) rfl
end
def TotR (r:Int) (es:List Ed):Prop:=∀ v w,Pa es 0 w v→∀ x,x≠0→-r≤x→x≤r→∃ t,Sp es v x t
theorem trim_totR {r:Int}:∀ (n:Nat) {g:Int × List Ed},IsFol r g.1 g.2→TotR r g.2→TotR r (trimA n g).2
 | 0,g,_,h=>h
 | n+1,g,hf,h=>by
  cases hl:leaf g.1 g.2 with
  | none=>rw [trimA_none hl];exact h
  | some v =>
   rw [trimA_some hl];obtain ⟨h1,h2,h3⟩:=leaf_spec hl;have hrk:=hf.gr.rank;have hs:=hf.gr.size;have hno:∀ w,¬ Pa g.2 0 w v:=fun w hw=>by
    rcases h3 with h3 | h3
    ·obtain ⟨t,ht⟩:=h v w hw 1 (by decide) (by omega) (by omega)
     obtain ⟨t',ht'⟩:=h v w hw (-1) (by decide) (by omega) (by omega);have:Two g.2 v:=⟨1, -1,t,t',by decide,ht,ht'⟩
     have:=this.deg;omega
    ·exact h3 ((conn_pa hf.gr.all).2 ⟨w,hw⟩)
   refine trim_totR n (cut_fol hf h1 h2) fun u' w hw x hx hx1 hx2=>?_;have hz:=but_zero h1 (show v < g.1.toNat by omega);obtain ⟨u,hu,hi,hp⟩:=part_pa_to (ord:=but v g.1.toNat) (es:=g.2) hw 0 (mem_butV.2 (by omega)) hz;obtain ⟨t,ht⟩:=h u w hp x hx hx1 hx2;have htr:=(ht.rng hf.gr.all).2.1;refine ⟨idxI (but v g.1.toNat) t,part_sp.2 ⟨u,t,hu,mem_butV.2 ⟨htr.1,by omega,fun e=>?_⟩,hi,rfl,ht⟩⟩;rw [e] at ht;exact hno _ (hp.snoc ht)
theorem core_totR {r s:Int} {es:List Ed} (hf:IsFol r s es) (ht:TotR r es):Tot r (coreA r (s,es)).1 (coreA r (s,es)).2:=by
 have e:coreA r (s,es)=canonG r (trimA 40 (s,es)):=by
  unfold coreA;rw [foldA_nil (g:=(s,es)) (folds_nil.2 hf.fol)]
 have hf2:IsFol r (trimA 40 (s,es)).1 (trimA 40 (s,es)).2:=trimA_fol 40 (g:=(s,es)) hf;have ht2:TotR r (trimA 40 (s,es)).2:=trim_totR 40 (g:=(s,es)) hf ht;rw [e];generalize trimA 40 (s,es)=g at hf2 ht2;rw [canonG_val hf2];have hsz:=hf2.gr.size;have hnd:=(ordE_len hf2.gr (v:=0) (Int.le_refl _) (by omega)).2.2;refine fun i h0 hi x hx hx1 hx2=>?_;obtain ⟨k,rfl⟩:=Int.eq_ofNat_of_zero_le h0;have hk:k < (ordE r g.2 0).length:=by simpa using hi
 have hm:(ordE r g.2 0)[k]∈ordE r g.2 0:=List.getElem_mem hk;have hid:idxI (ordE r g.2 0) ((ordE r g.2 0)[k])=k:=idxI_at hnd.1 (List.getElem?_eq_getElem hk);generalize (ordE r g.2 0)[k]=u at hm hid;obtain ⟨p,hp,hpu⟩:=List.mem_map.1 hm;have hpa:Pa g.2 0 p.2 u:=by
  have:=bfs_pa g.2 (lets r.toNat) 0 p hp
  rwa [hpu] at this
 obtain ⟨t,hs⟩:=ht2 u _ hpa x hx hx1 hx2;exact ⟨idxI (ordE r g.2 0) t,part_sp.2 ⟨u,t,hm,bfs_reach hf2 (Int.le_refl _) (by omega) hm (pa_one.2 hs),hid,rfl,hs⟩⟩
theorem gact_fin {rank:Int} {l:List (List Int)} {rr rs:Int} {res:List Ed} (h:GActIs rank l rr rs res true):IsFin rr rs res:=by
 rcases h with ⟨-,h,rfl,rfl,rfl⟩ | ⟨h, -⟩
 ·have hf:=act_fol h
  have ht:TotR rr (canon (actEs l l.length)):=fun v w hw x hx h1 h2=>by
   have hv:=hw.rng hf.gr.all (by have:=h.n0;omega);exact act_tot h v hv.1 hv.2 x hx h1 h2
  have h2:=core_totR hf ht;have hc:=core_cor (act_gr h);obtain ⟨a,n,ha,hn⟩:=hc.gr.nat;refine ⟨hc,?_⟩;have hc2:=hc.fol;rw [hn] at h2 hc2 ⊢;have ha2:rr=(a:Int):=ha;rw [ha2] at h2 hc2 ⊢;intro v hv x hx;have hx2:=mem_lets.1 hx;exact h2.full hc2 v (by omega) (by omega) x hx2.1 (by omega) (by omega)
 ·cases h
theorem grp_facts {r s:Int} {es:List Ed} {L:List (List Int)} (h:GroupElementsIs r s es L) (h0:0 < L.length):∃ a n:Nat,r=a∧s=n∧0 < n∧(∃ k:Nat,L.length=n * k)∧(Nrm r s es↔L.length=n):=by
 have e:L=grpI r s es:=h;by_cases hf:IsFin r s es
 ·obtain ⟨a,n,rfl,rfl⟩:=hf.cor.gr.nat
  have hg:=grp_ok hf (by intro hn;rw [e,hn] at h0;simp at h0);rw [← e] at hg;exact ⟨a,n,rfl,rfl,hg.n0,⟨_,hg.len⟩,hg.normal⟩
 ·rw [e,grpI_no hf] at h0
  simp at h0
end
section
open Go.RowKit
open Go.Maps (Keyed)
theorem wf_small {x:Int} (h1:-1048577≤x) (h2:x≤1048577):(Lit.int .i64 x).wf=true:=by
 have e1:IntKind.min .i64 = -9223372036854775808:=by decide
 have e2:IntKind.max .i64=9223372036854775807:=by decide
 simp only [Lit.wf,e1,e2,Bool.and_eq_true,decide_eq_true_eq];omega
section
variable {w:World} {ops:Array Oper} {rest:List Oper} {o:Oper} {a:Act} {Q:Exit→Act→World→Prop} {b:Nat} {st:PS}
end
end
section
open Go.RowKit
theorem le_sumL:∀ {l:List (List Int)} {x:List Int},x∈l→x.length≤sumL l
 | a :: l,x,h=>by
  rcases List.mem_cons.1 h with rfl | h
  ·simp [sumL]
  ·have:=le_sumL h
   simp only [sumL] at this ⊢;simp;omega
end
section
open Go.RowKit
end
section
open Go.ChangeShapes Go.WideShapes Go.ChangeAt Go.RowKit
open Go.Joins
theorem undSU:Tryz.prog.underlying 22=some (.slice 5):=by kernel_rfl
theorem undU:Tryz.prog.underlying 5=some (.int .u8):=by kernel_rfl
theorem cellsU:Tryz.prog.cellsOf 5=1:=by kernel_rfl
section
variable {H:Type} {enc:TypeId × Value→H} {P:Program} {W:World} {T E:TypeId}
theorem byts_of_cells (uT:P.underlying T=some (.slice E)) (uE:P.underlying E=some (.int .u8)) (cE:P.cellsOf E=1) {fuel:Nat} {A:Option Addr} {len c:Nat} {x:DataW H × List MemPlace}
  (h:DataW.trod enc P W 0 (fun _=>true) true fuel T [.slice A len c]=some x):∃ xs:List Int,len=xs.length∧RV W 0 W.heap.size A (byts xs)∧OkB xs∧xs.length≤9223372036854775807:=by
 rcases open_ints uT uE cE h with ⟨hcs,_⟩ | ⟨a,l,cc,zs,hcs,_,hl,hm,hz,_,hcell,hwz⟩
 ·simp at hcs
  obtain ⟨rfl,rfl,rfl⟩:=hcs;exact ⟨[],rfl,⟨Nat.le_refl _,fun hn=>absurd rfl hn⟩,fun x hx=>by simp at hx,by simp⟩
 ·simp at hcs
  obtain ⟨rfl,rfl,rfl⟩:=hcs;simp at hz;refine ⟨zs.take len,by simp;omega,⟨Nat.le_refl _,fun hn=>?_⟩,fun x hx=>bounds_u8 (hwz x (List.mem_of_mem_take hx)),by unfold maxLen at hm;simp;omega⟩;have hp:0 < zs.length:=by
   rcases Nat.eq_zero_or_pos zs.length with h0 | h0
   ·have:=List.eq_nil_of_length_eq_zero h0
    subst this;simp [byts] at hn
   ·exact h0
  obtain ⟨b,off,rfl,hc⟩:=ints_at hcell hp;refine ⟨b,off,rfl,Nat.zero_le _,World.block_lt_of_cell? _ _ (hc 0 hp),fun j u hu=>?_⟩;have hj:j < zs.length:=by
   have:=(List.getElem?_eq_some_iff.1 hu).1;simp [byts] at this;omega
  rw [hc j hj];unfold byts at hu;rw [List.getElem?_map,List.getElem?_take] at hu;split at hu
  ·rw [List.getElem?_eq_getElem hj] at hu
   simp at hu;rw [← hu];simp [List.getD,List.getElem?_eq_getElem hj]
  ·simp at hu
theorem open_byteS (uT:P.underlying T=some (.slice E)) (uE:P.underlying E=some (.int .u8)) (cE:P.cellsOf E=1) {r:Reach} {base:Nat} {v:Value} {d:DataW H} {ps:List MemPlace}
  (hok:Value.okWide P W r base T v) (h:DataW.Trod enc P W 0 (fun _=>true) true T v d ps):∃ A xs c,v=.slice A (List.length xs) c∧RV W 0 W.heap.size A (byts xs)∧OkB xs∧xs.length≤9223372036854775807:=by
 obtain ⟨A,len,c,rfl⟩:=okWide_slice uT hok;obtain ⟨fuel,hf⟩:=h;obtain ⟨xs,rfl,h1,h2⟩:=byts_of_cells (A:=A) (len:=len) (c:=c) uT uE cE (by simpa [Value.cells] using hf);exact ⟨A,xs,c,rfl,h1,h2⟩
end
end
end Go.Proofs.YthampgpcajmopaaGreat
