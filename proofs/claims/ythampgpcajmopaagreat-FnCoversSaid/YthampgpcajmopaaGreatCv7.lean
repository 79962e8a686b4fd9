/- Contracts and lemmas of this seat, many texts in one: see the words ahead of each. No condition beyond those typed in each lemma. -/
import Derived.Test.YthampgpcajmopaaGreatCv6
import Derived.Test.YthampgpcajmopaaGreatCv5
import Derived.Test.YthampgpcajmopaaGreatCv4
import Derived.Test.YthampgpcajmopaaGreatCv3
import Derived.Test.YthampgpcajmopaaGreatCv1
import Derived.Test.YthampgpcajmopaaGreatCv2

namespace Go.Proofs.YthampgpcajmopaaGreat
set_option linter.unusedVariables false
set_option linter.unusedSimpArgs false
set_option maxHeartbeats 40000000
set_option maxRecDepth 100000
section
open Go.RowKit
theorem spec_AddPath (r s:Int) (A:Option Addr) (es:List Ed) (c:Nat) (u:Int) (Aw:Option Addr) (wd:List Int) (cw:Nat) (v:Int) (w:World) (lo hi lo' hi':Nat)
  (hr:RG w lo hi A es) (hw:RV w lo' hi' Aw (ints wd)) (hl:es.length≤1048576) (hwl:wd.length≤1048576) (hok:OkI wd) (rs:Int) (res:List Ed) (b:Bool) (hres:PathIs r s es u wd v rs res b) :
  Calls Tryz.prog 116 #[graV r s A es.length c,.int .i64 u,.slice Aw wd.length cw,.int .i64 v] w fun e w'=>∃ A1 c1,e=.returned (.tuple #[graV r rs A1 res.length c1,.bool b])∧OG w' w.heap.size w'.heap.size A1 c1 res∧Mid 0 0 w w':=by
 have HR:=Lib.hid hres;have HOK:=Lib.hid hok;clear hres hok;obtain ⟨b1,hb1⟩:=bool_of (IsGr r s es);obtain ⟨b2,hb2⟩:=bool_of (0≤u∧u < s);obtain ⟨b3,hb3⟩:=bool_of (0≤v∧v < s);obtain ⟨b4,hb4⟩:=bool_of (IsW r wd);have H1:=Lib.hid hb1;have H2:=Lib.hid hb2;have H3:=Lib.hid hb3;have H4:=Lib.hid hb4;clear hb1 hb2 hb3 hb4;have hm0:Mid 0 0 w ((w.alloc (.cells #[.int .i64 r,.int .i64 s,.slice A es.length c] 26)).alloc (.cells #[.int .i64 0,.int .i64 0,.slice none 0 0] 26)):=(Mid.alloc _ _).trans (Mid.alloc _ _);have B0:=(Box.new w #[.int .i64 r,.int .i64 s,.slice A es.length c] 26).mid (Mid.alloc _ (.cells #[.int .i64 0,.int .i64 0,.slice none 0 0] 26)) oZr;have B2:=Box.new (w.alloc (.cells #[.int .i64 r,.int .i64 s,.slice A es.length c] 26)) #[.int .i64 0,.int .i64 0,.slice none 0 0] 26;simp only [World.size_alloc] at B2;go_enter Tryz.func116,Tryz.ntmps116
 go_wp2_with fail;generalize hw1:((w.alloc (.cells #[.int .i64 r,.int .i64 s,.slice A es.length c] 26)).alloc (.cells #[.int .i64 0,.int .i64 0,.slice none 0 0] 26))=w1 at hm0 B0 B2 ⊢;have hs1:w1.heap.size=w.heap.size+1+1:=by rw [← hw1];simp
 have HS:=Lib.hid hs1;clear hw1 hs1;with_reducible refine (spec_l4Copy r s A es c _ _ _ (hr.mid hm0 oZl) hl).mono ?_
 rintro en w2 ⟨A1,c1,rfl,ho2,hm2⟩;have hal:=Mid.alloc w2 (.cells #[.int .i64 r,.int .i64 s,.slice A1 es.length c1] 26);have Y3:=Box.new w2 #[.int .i64 r,.int .i64 s,.slice A1 es.length c1] 26;replace B0:=B0.mid hm2 oZr;replace B2:=B2.mid hm2 oZr;replace hm0:=hm0.trans hm2;replace B0:=B0.mid hal oZr;replace B2:=B2.mid hal oZr;replace hm0:=hm0.trans hal;have hG2:w.heap.size+1 < w2.heap.size:=by have:=HS.out;have:=hm2.size;omega
 have ho5:=(ho2.mid hal oZl)
 have hlt2:=ho2.ov.2.2;have hb2k:Value.ownBlock (.slice A1 es.length c1)≠some w2.heap.size:=fun h=>by have:=hlt2 _ h;omega
 have p0:=B0.cell 0 rfl;have p1:=B0.cell 1 rfl;have p2:=B0.cell 2 rfl;go_wp2_with fail;generalize w2.alloc (.cells #[.int .i64 r,.int .i64 s,.slice A1 es.length c1] 26)=w3 at hm0 B0 B2 Y3 ho5 p0 p1 p2 ⊢;have hG3:w2.heap.size < w3.heap.size:=Y3.1;have HOW:=Lib.hid ho5.ov.2.1;have HBK:=Lib.hid hb2k;have ho6:=ho5.wide (Nat.le_refl _) (Nat.le_refl _) (Nat.le_of_lt hG3);generalize hG:w2.heap.size=G at Y3 hG2 hG3 ho5 HBK ⊢;have HGW:=Lib.hid (show w1.heap.size≤G by rw [← hG];exact hm2.size);clear hG hal hm2 hlt2 hb2k ho2 ho6;with_reducible refine (spec_IsGraph r s A es c _ _ _ (hr.mid hm0 oZl).rv hl b1 H1.out).mono ?_
 rintro en w4 ⟨rfl,hm4⟩;replace B0:=B0.mid hm4 oZr;replace B2:=B2.mid hm4 oZr;replace Y3:=Y3.mid hm4 oZr;replace ho5:=ho5.mid hm4 oZl;replace hm0:=hm0.trans hm4;replace HOW:=Lib.hid (owns_mid HOW.out hm4 oZl);clear hm4;cases b1 with
 | false =>
  have hno:¬ PathOk r s es u wd v:=fun h=>by have:=H1.out.2 h.gr;cases this
  clear p0 p1 p2;obtain ⟨rfl,rfl,rfl⟩:=HR.out.no hno;have a0:=B2.cell 0 rfl;have a1:=B2.cell 1 rfl;have a2:=B2.cell 2 rfl;have q0:=Y3.cell 0 rfl;have q1:=Y3.cell 1 rfl;have q2:=Y3.cell 2 rfl;have af:=B2.2.2;go_wp2_with fail;refine bodyPost_ret (v:=.tuple #[.agg #[.int .i64 r,.int .i64 rs,.slice A1 res.length c1],.bool false]) (by simp [results,Tryz.results116,go_sem,a0,a1,a2,af,q0,q1,q2]) rfl ⟨A1,c1,rfl,?_,?_⟩
  ·refine OG.wide (OG.mid ho5 (a:=w.heap.size) (b:=w.heap.size+2) ?_ (Or.inl (by have:=HS.out;omega))) (by have:=HS.out;omega) (by have:=ho5.size;simp;omega) (Nat.le_refl _)
   repeat (first | exact Mid.refl _ _ _ | refine Mid.stored ?_ _ (by simp;try omega) (by simp;try omega))
  ·repeat (first | exact hm0 | refine Mid.storeNew ?_ (by simp;try omega) _)
 | true =>
 have hgr:=H1.out.1 rfl;have hsz:=hgr.size;have hln:=hgr.len;have hrk:=hgr.rank;have GR:=Lib.hid hgr;clear hgr H1;have hwsub:IntKind.i64.wrap (s - 1)=s - 1:=IntWalk.i64_in _ (by omega);clear p0 p1 p2;have p0:=B0.cell 0 rfl;have p1:=B0.cell 1 rfl;have p2:=B0.cell 2 rfl;go_wp2_with fail;with_reducible refine (l1In_at (has_bool hsz.1 hsz.2 H2.out).2 _).mono ?_
 rintro en w5 ⟨rfl,rfl⟩;cases b2 with
 | false =>
  have hno:¬ PathOk r s es u wd v:=fun h=>by have:=H2.out.2 h.u0;cases this
  clear p0 p1 p2;obtain ⟨rfl,rfl,rfl⟩:=HR.out.no hno;have a0:=B2.cell 0 rfl;have a1:=B2.cell 1 rfl;have a2:=B2.cell 2 rfl;have q0:=Y3.cell 0 rfl;have q1:=Y3.cell 1 rfl;have q2:=Y3.cell 2 rfl;have af:=B2.2.2;go_wp2_with fail;refine bodyPost_ret (v:=.tuple #[.agg #[.int .i64 r,.int .i64 rs,.slice A1 res.length c1],.bool false]) (by simp [results,Tryz.results116,go_sem,a0,a1,a2,af,q0,q1,q2]) rfl ⟨A1,c1,rfl,?_,?_⟩
  ·refine OG.wide (OG.mid ho5 (a:=w.heap.size) (b:=w.heap.size+2) ?_ (Or.inl (by have:=HS.out;omega))) (by have:=HS.out;omega) (by have:=ho5.size;simp;omega) (Nat.le_refl _)
   repeat (first | exact Mid.refl _ _ _ | refine Mid.stored ?_ _ (by simp;try omega) (by simp;try omega))
  ·repeat (first | exact hm0 | refine Mid.storeNew ?_ (by simp;try omega) _)
 | true =>
 have hxu:=H2.out.1 rfl;clear H2;clear p0 p1 p2;have p0:=B0.cell 0 rfl;have p1:=B0.cell 1 rfl;have p2:=B0.cell 2 rfl;go_wp2_with fail;with_reducible refine (l1In_at (has_bool hsz.1 hsz.2 H3.out).2 _).mono ?_
 rintro en w6 ⟨rfl,rfl⟩;cases b3 with
 | false =>
  have hno:¬ PathOk r s es u wd v:=fun h=>by have:=H3.out.2 h.v0;cases this
  clear p0 p1 p2;obtain ⟨rfl,rfl,rfl⟩:=HR.out.no hno;have a0:=B2.cell 0 rfl;have a1:=B2.cell 1 rfl;have a2:=B2.cell 2 rfl;have q0:=Y3.cell 0 rfl;have q1:=Y3.cell 1 rfl;have q2:=Y3.cell 2 rfl;have af:=B2.2.2;go_wp2_with fail;refine bodyPost_ret (v:=.tuple #[.agg #[.int .i64 r,.int .i64 rs,.slice A1 res.length c1],.bool false]) (by simp [results,Tryz.results116,go_sem,a0,a1,a2,af,q0,q1,q2]) rfl ⟨A1,c1,rfl,?_,?_⟩
  ·refine OG.wide (OG.mid ho5 (a:=w.heap.size) (b:=w.heap.size+2) ?_ (Or.inl (by have:=HS.out;omega))) (by have:=HS.out;omega) (by have:=ho5.size;simp;omega) (Nat.le_refl _)
   repeat (first | exact Mid.refl _ _ _ | refine Mid.stored ?_ _ (by simp;try omega) (by simp;try omega))
  ·repeat (first | exact hm0 | refine Mid.storeNew ?_ (by simp;try omega) _)
 | true =>
 have hxv:=H3.out.1 rfl;clear H3;clear p0 p1 p2;have p0:=B0.cell 0 rfl;have p1:=B0.cell 1 rfl;have p2:=B0.cell 2 rfl;go_wp2_with fail;with_reducible refine (spec_IsWord r Aw wd cw _ _ ((hw.mid hm0 oZl).rs) HOK.out (by omega) b4 H4.out).mono ?_
 rintro en w7 ⟨rfl,nd,hwd7⟩;have hm7:Mid 0 0 w4 w7:=by rw [hwd7];exact (Mid.refl 0 0 w4).drewN nd
 clear hwd7;replace B0:=B0.mid hm7 oZr;replace B2:=B2.mid hm7 oZr;replace Y3:=Y3.mid hm7 oZr;replace ho5:=ho5.mid hm7 oZl;replace hm0:=hm0.trans hm7;replace HOW:=Lib.hid (owns_mid HOW.out hm7 oZl);clear hm7;cases b4 with
 | false =>
  have hno:¬ PathOk r s es u wd v:=fun h=>by have:=H4.out.2 h.word;cases this
  clear p0 p1 p2;obtain ⟨rfl,rfl,rfl⟩:=HR.out.no hno;have a0:=B2.cell 0 rfl;have a1:=B2.cell 1 rfl;have a2:=B2.cell 2 rfl;have q0:=Y3.cell 0 rfl;have q1:=Y3.cell 1 rfl;have q2:=Y3.cell 2 rfl;have af:=B2.2.2;go_wp2_with fail;refine bodyPost_ret (v:=.tuple #[.agg #[.int .i64 r,.int .i64 rs,.slice A1 res.length c1],.bool false]) (by simp [results,Tryz.results116,go_sem,a0,a1,a2,af,q0,q1,q2]) rfl ⟨A1,c1,rfl,?_,?_⟩
  ·refine OG.wide (OG.mid ho5 (a:=w.heap.size) (b:=w.heap.size+2) ?_ (Or.inl (by have:=HS.out;omega))) (by have:=HS.out;omega) (by have:=ho5.size;simp;omega) (Nat.le_refl _)
   repeat (first | exact Mid.refl _ _ _ | refine Mid.stored ?_ _ (by simp;try omega) (by simp;try omega))
  ·repeat (first | exact hm0 | refine Mid.storeNew ?_ (by simp;try omega) _)
 | true =>
 have hwd:=H4.out.1 rfl;have hwd24:=hwd.2.2.1;have HWD:=Lib.hid hwd;clear hwd H4;clear p0 p1 p2;have p0:=B0.cell 0 rfl;have p1:=B0.cell 1 rfl;have p2:=B0.cell 2 rfl;by_cases hne:wd=[]
 ·subst hne
  have hno:¬ PathOk r s es u [] v:=fun h=>h.ne rfl;clear p0 p1 p2;obtain ⟨rfl,rfl,rfl⟩:=HR.out.no hno;have a0:=B2.cell 0 rfl;have a1:=B2.cell 1 rfl;have a2:=B2.cell 2 rfl;have q0:=Y3.cell 0 rfl;have q1:=Y3.cell 1 rfl;have q2:=Y3.cell 2 rfl;have af:=B2.2.2;go_wp2_with fail;refine bodyPost_ret (v:=.tuple #[.agg #[.int .i64 r,.int .i64 rs,.slice A1 res.length c1],.bool false]) (by simp [results,Tryz.results116,go_sem,a0,a1,a2,af,q0,q1,q2]) rfl ⟨A1,c1,rfl,?_,?_⟩
  ·refine OG.wide (OG.mid ho5 (a:=w.heap.size) (b:=w.heap.size+2) ?_ (Or.inl (by have:=HS.out;omega))) (by have:=HS.out;omega) (by have:=ho5.size;simp;omega) (Nat.le_refl _)
   repeat (first | exact Mid.refl _ _ _ | refine Mid.stored ?_ _ (by simp;try omega) (by simp;try omega))
  ·repeat (first | exact hm0 | refine Mid.storeNew ?_ (by simp;try omega) _)
 have hpos:0 < wd.length:=List.length_pos_iff.2 hne;have d4:((wd.length:Int) == 0)=false:=by simp only [beq_eq_false_iff_ne];omega
 have HNE:=Lib.hid hne;clear hne;clear p0 p1 p2;have p0:=B0.cell 0 rfl;have p1:=B0.cell 1 rfl;have p2:=B0.cell 2 rfl;have d5':IntKind.i64.wrap (s+(wd.length:Int))=s+(wd.length:Int):=IntWalk.i64_in _ (by omega);have d5'':IntKind.i64.wrap (s+(wd.length:Int) - 1)=s+(wd.length:Int) - 1:=IntWalk.i64_in _ (by omega);by_cases hsl:40 < s+(wd.length:Int) - 1
 ·have hno:¬ PathOk r s es u wd v:=fun h=>by have:=h.sz;omega
  have d5:decide (40 < s+(wd.length:Int) - 1)=true:=by simpa using hsl
  clear p1;clear p0 p2;have p0:=B0.cell 0 rfl;have p1:=B0.cell 1 rfl;have p2:=B0.cell 2 rfl;obtain ⟨rfl,rfl,rfl⟩:=HR.out.no hno;have a0:=B2.cell 0 rfl;have a1:=B2.cell 1 rfl;have a2:=B2.cell 2 rfl;have q0:=Y3.cell 0 rfl;have q1:=Y3.cell 1 rfl;have q2:=Y3.cell 2 rfl;have af:=B2.2.2;go_wp2_with fail;refine bodyPost_ret (v:=.tuple #[.agg #[.int .i64 r,.int .i64 rs,.slice A1 res.length c1],.bool false]) (by simp [results,Tryz.results116,go_sem,a0,a1,a2,af,q0,q1,q2]) rfl ⟨A1,c1,rfl,?_,?_⟩
  ·refine OG.wide (OG.mid ho5 (a:=w.heap.size) (b:=w.heap.size+2) ?_ (Or.inl (by have:=HS.out;omega))) (by have:=HS.out;omega) (by have:=ho5.size;simp;omega) (Nat.le_refl _)
   repeat (first | exact Mid.refl _ _ _ | refine Mid.stored ?_ _ (by simp;try omega) (by simp;try omega))
  ·repeat (first | exact hm0 | refine Mid.storeNew ?_ (by simp;try omega) _)
 have d5:decide (40 < s+(wd.length:Int) - 1)=false:=by simpa using hsl
 by_cases hll:120 < es.length+wd.length
 ·have hno:¬ PathOk r s es u wd v:=fun h=>by have:=h.ln;omega
  have d6:decide (120 < (es.length:Int)+(wd.length:Int))=true:=by simp;omega
  obtain ⟨rfl,rfl,rfl⟩:=HR.out.no hno;have a0:=B2.cell 0 rfl;have a1:=B2.cell 1 rfl;have a2:=B2.cell 2 rfl;have q0:=Y3.cell 0 rfl;have q1:=Y3.cell 1 rfl;have q2:=Y3.cell 2 rfl;have af:=B2.2.2;go_wp2_with fail;refine bodyPost_ret (v:=.tuple #[.agg #[.int .i64 r,.int .i64 rs,.slice A1 res.length c1],.bool false]) (by simp [results,Tryz.results116,go_sem,a0,a1,a2,af,q0,q1,q2]) rfl ⟨A1,c1,rfl,?_,?_⟩
  ·refine OG.wide (OG.mid ho5 (a:=w.heap.size) (b:=w.heap.size+2) ?_ (Or.inl (by have:=HS.out;omega))) (by have:=HS.out;omega) (by have:=ho5.size;simp;omega) (Nat.le_refl _)
   repeat (first | exact Mid.refl _ _ _ | refine Mid.stored ?_ _ (by simp;try omega) (by simp;try omega))
  ·repeat (first | exact hm0 | refine Mid.storeNew ?_ (by simp;try omega) _)
 have d6:decide (120 < (es.length:Int)+(wd.length:Int))=false:=by simp;omega
 obtain ⟨rfl,hrs,hre⟩:=HR.out.yes ⟨GR.out,hxu,hxv,HWD.out,HNE.out,by omega,by omega⟩;have HRS:=Lib.hid hrs;have HRE:=Lib.hid hre;have hasc:=Lib.hid GR.out.asc;clear hrs hre HR;have hwn:IntKind.i64.wrap ((wd.length:Int) - 1)=(wd.length:Int) - 1:=IntWalk.i64_in _ (by omega);have hletb:=Lib.hid HWD.out.2.2.2.1;have q0:=Y3.cell 0 rfl;have q1:=Y3.cell 1 rfl;have q2:=Y3.cell 2 rfl;go_wp2_with fail;clear p0 p1 p2 q0 q1 q2;go_loopw [11,12] (fun at_ i wr=>∃ (k:Nat) (A2:Option Addr) (c2 lo2 hi2:Nat) (xs:List Ed) (sz:Int),k≤wd.length∧i=.int .i64 k∧at_=.int .i64 (pathV u s wd.length v k)∧Hid (sz=s+((min k (wd.length - 1):Nat):Int))∧Hid (xs=putAll es (pathE u s wd v k)) ∧
  OG wr lo2 hi2 A2 c2 xs∧(hi2≤G ∨ G+1≤lo2)∧w1.heap.size≤lo2 ∧
  Box wr w.heap.size [.int .i64 r,.int .i64 s,.slice A es.length c]∧Box wr (w.heap.size+1) [.int .i64 0,.int .i64 0,.slice none 0 0] ∧
  Box wr G [.int .i64 r,.int .i64 sz,.slice A2 xs.length c2]∧Mid 0 0 w wr) (fun _ i _=>wd.length - (intOf i).toNat)
 case atStart=>exact ⟨0,A1,c1,_,_,es,s,Nat.zero_le _,rfl,rfl,Lib.hid (by simp),Lib.hid (by simp [pathE,putAll]),ho5,.inl (Nat.le_refl _),Nat.le_refl _,B0,B2,Y3,hm0⟩
 case round =>
  clear B0 B2 Y3 hm0 ho5 HOW HBK hG3;obtain ⟨k,A2,c2,lo2,hi2,xs,sz,hk,rfl,rfl,HSZ,HX,hown,hdis,hlo2,Z0,Z2,Z3,hmr⟩:=hrel;have hszv:=HSZ.out;have hxl:xs.length≤1000:=by
   have h1:=putAll_len es (pathE u s wd v k);rw [← HX.out,pathE_len] at h1;omega
  by_cases hlt:k < wd.length
  ·obtain ⟨B,off,x,rfl,hbh,hx,hcx⟩:=(hw.mid hmr oZl).at hlt
   have hxb:=hletb.out x (List.mem_of_getElem? hx);have hkn:(k:Int) < (wd.length:Int):=by omega
   have hk0:(0:Int)≤(k:Int):=by omega
   have hpe:=pathE_succ (u:=u) (s:=s) (v:=v) hx;have HPE:=Lib.hid hpe;have hGr:G < wr.heap.size:=Z3.1;have hBw:B < wr.heap.size:=by have:=hw.1;have:=hmr.size;omega
   have hBG:B < G:=by have:=hw.1;omega
   have hw1r:w1.heap.size≤wr.heap.size:=by have:=HGW.out;omega
   clear hx hpe;generalize hat:pathV u s wd.length v k=at0 at HPE ⊢;clear hat;rcases (by omega:0 < x ∨ x < 0) with hx0 | hx0
   ·have dx:decide (0 < x)=true:=by simpa using hx0
    have hst0:∀ t,stepE at0 x t=⟨at0,x,t⟩:=fun t=>by rw [stepE,if_neg (by omega)]
    rw [hst0] at HPE;clear hst0;by_cases hlast:k+1 < wd.length
    ·have hmin:((min k (wd.length - 1):Nat):Int)=(k:Int):=by rw [Nat.min_eq_left (by omega)]
     have hmin2:((min (k+1) (wd.length - 1):Nat):Int)=(k:Int)+1:=by rw [Nat.min_eq_left (by omega)];rfl
     rw [hmin] at hszv;subst hszv;have hto:pathV u s wd.length v (k+1)=s+(k:Int):=by
      rw [pathV,if_neg (by omega),if_pos hlast];omega
     rw [hto] at HPE;have dk:decide ((k:Int)+1 < (wd.length:Int))=true:=by simp;omega
     have hws:IntKind.i64.wrap (s+(k:Int)+1)=s+(k:Int)+1:=IntWalk.i64_in _ (by omega);have q1:=Z3.cell 1 rfl;have qf:=Z3.2.2;have hst:=Mid.setCell wr (lo:=G) (hi:=G+1) (p:=⟨G,1,none⟩) (.int .i64 (s+(k:Int)+1)) (Nat.le_refl _) (Nat.lt_succ_self _);have V0:=Z0.mid hst (Or.inl (by omega));have V2:=Z2.mid hst (Or.inl (by omega));have V3:=Z3.set 1 (.int .i64 (s+(k:Int)+1)) (by simp) rfl;have hownV:=hown.mid hst (by omega);have hcV:=cell_keep hst hBw (Or.inl hBG) hcx;have hmv:=hmr.storeNew (p:=⟨G,1,none⟩) (by show w.heap.size≤G;omega) (.int .i64 (s+(k:Int)+1));have hsV:(wr.setCell ⟨G,1,none⟩ (.int .i64 (s+(k:Int)+1))).heap.size=wr.heap.size:=by simp
     go_wp2_with fail;clear dk dx;generalize wr.setCell ⟨G,1,none⟩ (.int .i64 (s+(k:Int)+1))=wx at V0 V2 V3 hownV hmv hsV hcV ⊢;have hnsz:Hid (s+(k:Int)+1=s+((min (k+1) (wd.length - 1):Nat):Int)):=Lib.hid (by rw [hmin2];omega);clear Z0 Z2 Z3 hown hmr q1 qf hst hcx hmin hmin2 HSZ;simp only [List.set_cons_succ,List.set_cons_zero] at V3;generalize s+(k:Int)+1=sz' at V3 hnsz;generalize s+(k:Int)=to at HPE hto ⊢;have hGx:G < wx.heap.size:=V3.1;have hmd:=Mid.drew1 wx;have U0:=V0.mid hmd oZr;have U2:=V2.mid hmd oZr;have U3:=V3.mid hmd oZr;have hownU:=hownV.mid hmd oZl;have hmu:=hmv.trans hmd;have g2:=U3.cell 2 rfl;have f0:=cell_keep hmd (by omega) oZr hcV;clear V0 V2 V3 hownV hmv hmd hcV;refine wp_region_T (S:=(fun w'=>w'.cell? ⟨G,2,none⟩=some (.slice A2 xs.length c2)∧w'.cell? ⟨B,off+k,none⟩=some (.int .i64 x))) 11 (by kernel_rfl) ⟨g2,f0⟩ ?_;generalize World.drew wx=wz at U0 U2 U3 hownU hmu f0 g2 ⊢;have hS:wz.cell? ⟨G,2,none⟩=some (.slice A2 xs.length c2)∧wz.cell? ⟨B,off+k,none⟩=some (.int .i64 x):=⟨g2,f0⟩
     refine tkT 0 rfl hS ?_;try simp only [Act.put,zs1,zs2,zs3,zs4,zs5,zs6]
     refine tkT 1 rfl hS ?_;try simp only [Act.put,zs1,zs2,zs3,zs4,zs5,zs6]
     refine tkT 2 rfl hS ?_;try simp only [Act.put,zs1,zs2,zs3,zs4,zs5,zs6]
     refine tkT 3 rfl hS ?_;try simp only [Act.put,zs1,zs2,zs3,zs4,zs5,zs6]
     refine tkT 4 rfl hS ?_;try simp only [Act.put,zs1,zs2,zs3,zs4,zs5,zs6]
     refine tkT 5 rfl hS ?_;try simp only [Act.put,zs1,zs2,zs3,zs4,zs5,zs6]
     refine tkT 6 rfl hS ?_;try simp only [Act.put,zs1,zs2,zs3,zs4,zs5,zs6]
     refine tkT 7 rfl hS ?_;try simp only [Act.put,zs1,zs2,zs3,zs4,zs5,zs6]
     refine tkT 8 rfl hS ?_;try simp only [Act.put,zs1,zs2,zs3,zs4,zs5,zs6]
     have hP:=spec_l4Put A2 xs c2 ⟨at0,x,to⟩ wz _ _ hownU.rg (by omega);refine rdT 9 rfl (fun K hK=>?_)
     (go_simp;(with_reducible refine hP.mono ?_);rintro en w9 ⟨A9,c9,rfl,ho9,hm9⟩;have T0':=U0.mid hm9 oZr;have T2':=U2.mid hm9 oZr;have T3':=U3.mid hm9 oZr;have f0':=cell_keep hm9 (by have:=U3.1;omega) oZr f0;go_wp2_with fail)
     refine hK.out _ _ (Or.inr ⟨T3'.cell 2 rfl,f0'⟩) (fun _=>?_);clear hK K;try simp only [Act.put,zs1,zs2,zs3,zs4,zs5,zs6]
     have hmr9:=hmu.trans hm9;have hGz:G < wz.heap.size:=U3.1;have hS3:=And.intro (T3'.cell 2 rfl) f0';have hr2:=T3'.cell 2 rfl;have hrf:=T3'.2.2;clear hS U0 U2 U3 hmu hP;refine tkT 10 rfl hS3 ?_;try simp only [Act.put,zs1,zs2,zs3,zs4,zs5,zs6]
     refine rdT 11 rfl (fun K hK=>?_)
     (go_simp)
     refine hK.out _ _ (Or.inl rfl) (fun _=>?_);clear hK K;try simp only [Act.put,zs1,zs2,zs3,zs4,zs5,zs6]
     refine wpAnyT_done (by kernel_rfl) ?_ _;go_wp2_with fail;go_roundw
     case rel =>
      have hst:=Mid.setCell w9 (lo:=G) (hi:=G+1) (p:=⟨G,2,none⟩) (.slice A9 (putE ⟨at0,x,to⟩ xs).length c9) (Nat.le_refl _) (Nat.lt_succ_self _);refine ⟨k+1,A9,c9,_,_,putE ⟨at0,x,to⟩ xs,sz',by omega,by go_num,by rw [hto],hnsz,Lib.hid ?_,ho9.mid hst (Or.inl (by omega)),.inr (by omega),by have:=HGW.out;omega,T0'.mid hst (Or.inl (by omega)),T2'.mid hst (Or.inl (by omega)),T3'.set 2 _ (by simp) rfl,hmr9.storeNew (by show w.heap.size≤G;omega) _⟩;rw [HPE.out,putAll_snoc,← HX.out]
     case measure=>simp [intOf];omega
    ·have hkl:k+1=wd.length:=by omega
     have hmin:min k (wd.length - 1)=min (k+1) (wd.length - 1):=by omega
     have hnsz:Hid (sz=s+((min (k+1) (wd.length - 1):Nat):Int)):=Lib.hid (by rw [hszv,hmin]);have hto:pathV u s wd.length v (k+1)=v:=by
      rw [pathV,if_neg (by omega),if_neg (by omega)]
     rw [hto] at HPE;have dk:decide ((k:Int)+1 < (wd.length:Int))=false:=by simp;omega
     clear hszv hmin HSZ;generalize sz=sz' at Z3 hnsz;go_wp2_with fail;clear dk dx;have V0:=Z0;have V2:=Z2;have V3:=Z3;have hownV:=hown;have hmv:=hmr;have hcV:=hcx;obtain ⟨wx,hwx⟩:∃ wx,wr=wx:=⟨_,rfl⟩
     have hsV:wx.heap.size=wr.heap.size:=by rw [hwx]
     rw [hwx] at V0 V2 V3 hownV hmv hcV ⊢;clear Z0 Z2 Z3 hown hmr hcx;have hGx:G < wx.heap.size:=V3.1;have hmd:=Mid.drew1 wx;have U0:=V0.mid hmd oZr;have U2:=V2.mid hmd oZr;have U3:=V3.mid hmd oZr;have hownU:=hownV.mid hmd oZl;have hmu:=hmv.trans hmd;have g2:=U3.cell 2 rfl;have f0:=cell_keep hmd (by omega) oZr hcV;clear V0 V2 V3 hownV hmv hmd hcV;refine wp_region_T (S:=(fun w'=>w'.cell? ⟨G,2,none⟩=some (.slice A2 xs.length c2)∧w'.cell? ⟨B,off+k,none⟩=some (.int .i64 x))) 11 (by kernel_rfl) ⟨g2,f0⟩ ?_;generalize World.drew wx=wz at U0 U2 U3 hownU hmu f0 g2 ⊢;have hS:wz.cell? ⟨G,2,none⟩=some (.slice A2 xs.length c2)∧wz.cell? ⟨B,off+k,none⟩=some (.int .i64 x):=⟨g2,f0⟩
     refine tkT 0 rfl hS ?_;try simp only [Act.put,zs1,zs2,zs3,zs4,zs5,zs6]
     refine tkT 1 rfl hS ?_;try simp only [Act.put,zs1,zs2,zs3,zs4,zs5,zs6]
     refine tkT 2 rfl hS ?_;try simp only [Act.put,zs1,zs2,zs3,zs4,zs5,zs6]
     refine tkT 3 rfl hS ?_;try simp only [Act.put,zs1,zs2,zs3,zs4,zs5,zs6]
     refine tkT 4 rfl hS ?_;try simp only [Act.put,zs1,zs2,zs3,zs4,zs5,zs6]
     refine tkT 5 rfl hS ?_;try simp only [Act.put,zs1,zs2,zs3,zs4,zs5,zs6]
     refine tkT 6 rfl hS ?_;try simp only [Act.put,zs1,zs2,zs3,zs4,zs5,zs6]
     refine tkT 7 rfl hS ?_;try simp only [Act.put,zs1,zs2,zs3,zs4,zs5,zs6]
     refine tkT 8 rfl hS ?_;try simp only [Act.put,zs1,zs2,zs3,zs4,zs5,zs6]
     have hP:=spec_l4Put A2 xs c2 ⟨at0,x,v⟩ wz _ _ hownU.rg (by omega);refine rdT 9 rfl (fun K hK=>?_)
     (go_simp;(with_reducible refine hP.mono ?_);rintro en w9 ⟨A9,c9,rfl,ho9,hm9⟩;have T0':=U0.mid hm9 oZr;have T2':=U2.mid hm9 oZr;have T3':=U3.mid hm9 oZr;have f0':=cell_keep hm9 (by have:=U3.1;omega) oZr f0;go_wp2_with fail)
     refine hK.out _ _ (Or.inr ⟨T3'.cell 2 rfl,f0'⟩) (fun _=>?_);clear hK K;try simp only [Act.put,zs1,zs2,zs3,zs4,zs5,zs6]
     have hmr9:=hmu.trans hm9;have hGz:G < wz.heap.size:=U3.1;have hS3:=And.intro (T3'.cell 2 rfl) f0';have hr2:=T3'.cell 2 rfl;have hrf:=T3'.2.2;clear hS U0 U2 U3 hmu hP;refine tkT 10 rfl hS3 ?_;try simp only [Act.put,zs1,zs2,zs3,zs4,zs5,zs6]
     refine rdT 11 rfl (fun K hK=>?_)
     (go_simp)
     refine hK.out _ _ (Or.inl rfl) (fun _=>?_);clear hK K;try simp only [Act.put,zs1,zs2,zs3,zs4,zs5,zs6]
     refine wpAnyT_done (by kernel_rfl) ?_ _;go_wp2_with fail;go_roundw
     case rel =>
      have hst:=Mid.setCell w9 (lo:=G) (hi:=G+1) (p:=⟨G,2,none⟩) (.slice A9 (putE ⟨at0,x,v⟩ xs).length c9) (Nat.le_refl _) (Nat.lt_succ_self _);refine ⟨k+1,A9,c9,_,_,putE ⟨at0,x,v⟩ xs,sz',by omega,by go_num,by rw [hto],hnsz,Lib.hid ?_,ho9.mid hst (Or.inl (by omega)),.inr (by omega),by have:=HGW.out;omega,T0'.mid hst (Or.inl (by omega)),T2'.mid hst (Or.inl (by omega)),T3'.set 2 _ (by simp) rfl,hmr9.storeNew (by show w.heap.size≤G;omega) _⟩;rw [HPE.out,putAll_snoc,← HX.out]
     case measure=>simp [intOf];omega
   ·have dx:decide (0 < x)=false:=by simp;omega
    have hst0:∀ t,stepE at0 x t=⟨t, -x,at0⟩:=fun t=>by rw [stepE,if_pos hx0]
    have hwx1:IntKind.i64.wrap (-x) = -x:=IntWalk.i64_in _ (by omega);have hwx2:wrap64 (-x) = -x:=by unfold wrap64;omega
    rw [hst0] at HPE;clear hst0;by_cases hlast:k+1 < wd.length
    ·have hmin:((min k (wd.length - 1):Nat):Int)=(k:Int):=by rw [Nat.min_eq_left (by omega)]
     have hmin2:((min (k+1) (wd.length - 1):Nat):Int)=(k:Int)+1:=by rw [Nat.min_eq_left (by omega)];rfl
     rw [hmin] at hszv;subst hszv;have hto:pathV u s wd.length v (k+1)=s+(k:Int):=by
      rw [pathV,if_neg (by omega),if_pos hlast];omega
     rw [hto] at HPE;have dk:decide ((k:Int)+1 < (wd.length:Int))=true:=by simp;omega
     have hws:IntKind.i64.wrap (s+(k:Int)+1)=s+(k:Int)+1:=IntWalk.i64_in _ (by omega);have q1:=Z3.cell 1 rfl;have qf:=Z3.2.2;have hst:=Mid.setCell wr (lo:=G) (hi:=G+1) (p:=⟨G,1,none⟩) (.int .i64 (s+(k:Int)+1)) (Nat.le_refl _) (Nat.lt_succ_self _);have V0:=Z0.mid hst (Or.inl (by omega));have V2:=Z2.mid hst (Or.inl (by omega));have V3:=Z3.set 1 (.int .i64 (s+(k:Int)+1)) (by simp) rfl;have hownV:=hown.mid hst (by omega);have hcV:=cell_keep hst hBw (Or.inl hBG) hcx;have hmv:=hmr.storeNew (p:=⟨G,1,none⟩) (by show w.heap.size≤G;omega) (.int .i64 (s+(k:Int)+1));have hsV:(wr.setCell ⟨G,1,none⟩ (.int .i64 (s+(k:Int)+1))).heap.size=wr.heap.size:=by simp
     go_wp2_with fail;clear dk dx;generalize wr.setCell ⟨G,1,none⟩ (.int .i64 (s+(k:Int)+1))=wx at V0 V2 V3 hownV hmv hsV hcV ⊢;have hnsz:Hid (s+(k:Int)+1=s+((min (k+1) (wd.length - 1):Nat):Int)):=Lib.hid (by rw [hmin2];omega);clear Z0 Z2 Z3 hown hmr q1 qf hst hcx hmin hmin2 HSZ;simp only [List.set_cons_succ,List.set_cons_zero] at V3;generalize s+(k:Int)+1=sz' at V3 hnsz;generalize s+(k:Int)=to at HPE hto ⊢;have hGx:G < wx.heap.size:=V3.1;have hmd:=Mid.drew1 wx;have U0:=V0.mid hmd oZr;have U2:=V2.mid hmd oZr;have U3:=V3.mid hmd oZr;have hownU:=hownV.mid hmd oZl;have hmu:=hmv.trans hmd;have g2:=U3.cell 2 rfl;have f0:=cell_keep hmd (by omega) oZr hcV;clear V0 V2 V3 hownV hmv hmd hcV;refine wp_region_T (S:=(fun w'=>w'.cell? ⟨G,2,none⟩=some (.slice A2 xs.length c2)∧w'.cell? ⟨B,off+k,none⟩=some (.int .i64 x))) 12 (by kernel_rfl) ⟨g2,f0⟩ ?_;generalize World.drew wx=wz at U0 U2 U3 hownU hmu f0 g2 ⊢;have hS:wz.cell? ⟨G,2,none⟩=some (.slice A2 xs.length c2)∧wz.cell? ⟨B,off+k,none⟩=some (.int .i64 x):=⟨g2,f0⟩
     refine tkT 0 rfl hS ?_;try simp only [Act.put,zs1,zs2,zs3,zs4,zs5,zs6]
     refine tkT 1 rfl hS ?_;try simp only [Act.put,zs1,zs2,zs3,zs4,zs5,zs6]
     refine tkT 2 rfl hS ?_;try simp only [Act.put,zs1,zs2,zs3,zs4,zs5,zs6]
     refine tkT 3 rfl hS ?_;try simp only [Act.put,zs1,zs2,zs3,zs4,zs5,zs6]
     refine tkT 4 rfl hS ?_;try simp only [Act.put,zs1,zs2,zs3,zs4,zs5,zs6]
     refine tkT 5 rfl hS ?_;try simp only [Act.put,zs1,zs2,zs3,zs4,zs5,zs6]
     refine tkT 6 rfl hS ?_;try simp only [Act.put,zs1,zs2,zs3,zs4,zs5,zs6]
     refine tkT 7 rfl hS ?_;try simp only [Act.put,zs1,zs2,zs3,zs4,zs5,zs6]
     refine tkT 8 rfl hS ?_;try simp only [Act.put,zs1,zs2,zs3,zs4,zs5,zs6]
     refine tkT 9 rfl hS ?_;try simp only [Act.put,zs1,zs2,zs3,zs4,zs5,zs6]
     have hP:=spec_l4Put A2 xs c2 ⟨to, -x,at0⟩ wz _ _ hownU.rg (by omega);refine rdT 10 rfl (fun K hK=>?_)
     (go_simp;(try simp only [hwx1,hwx2]);(with_reducible refine hP.mono ?_);rintro en w9 ⟨A9,c9,rfl,ho9,hm9⟩;have T0':=U0.mid hm9 oZr;have T2':=U2.mid hm9 oZr;have T3':=U3.mid hm9 oZr;have f0':=cell_keep hm9 (by have:=U3.1;omega) oZr f0;go_wp2_with fail)
     refine hK.out _ _ (Or.inr ⟨T3'.cell 2 rfl,f0'⟩) (fun _=>?_);clear hK K;try simp only [Act.put,zs1,zs2,zs3,zs4,zs5,zs6]
     have hmr9:=hmu.trans hm9;have hGz:G < wz.heap.size:=U3.1;have hS3:=And.intro (T3'.cell 2 rfl) f0';have hr2:=T3'.cell 2 rfl;have hrf:=T3'.2.2;clear hS U0 U2 U3 hmu hP;refine tkT 11 rfl hS3 ?_;try simp only [Act.put,zs1,zs2,zs3,zs4,zs5,zs6]
     refine rdT 12 rfl (fun K hK=>?_)
     (go_simp)
     refine hK.out _ _ (Or.inl rfl) (fun _=>?_);clear hK K;try simp only [Act.put,zs1,zs2,zs3,zs4,zs5,zs6]
     refine wpAnyT_done (by kernel_rfl) ?_ _;go_wp2_with fail;go_roundw
     case rel =>
      have hst:=Mid.setCell w9 (lo:=G) (hi:=G+1) (p:=⟨G,2,none⟩) (.slice A9 (putE ⟨to, -x,at0⟩ xs).length c9) (Nat.le_refl _) (Nat.lt_succ_self _);refine ⟨k+1,A9,c9,_,_,putE ⟨to, -x,at0⟩ xs,sz',by omega,by go_num,by rw [hto],hnsz,Lib.hid ?_,ho9.mid hst (Or.inl (by omega)),.inr (by omega),by have:=HGW.out;omega,T0'.mid hst (Or.inl (by omega)),T2'.mid hst (Or.inl (by omega)),T3'.set 2 _ (by simp) rfl,hmr9.storeNew (by show w.heap.size≤G;omega) _⟩;rw [HPE.out,putAll_snoc,← HX.out]
     case measure=>simp [intOf];omega
    ·have hkl:k+1=wd.length:=by omega
     have hmin:min k (wd.length - 1)=min (k+1) (wd.length - 1):=by omega
     have hnsz:Hid (sz=s+((min (k+1) (wd.length - 1):Nat):Int)):=Lib.hid (by rw [hszv,hmin]);have hto:pathV u s wd.length v (k+1)=v:=by
      rw [pathV,if_neg (by omega),if_neg (by omega)]
     rw [hto] at HPE;have dk:decide ((k:Int)+1 < (wd.length:Int))=false:=by simp;omega
     clear hszv hmin HSZ;generalize sz=sz' at Z3 hnsz;go_wp2_with fail;clear dk dx;have V0:=Z0;have V2:=Z2;have V3:=Z3;have hownV:=hown;have hmv:=hmr;have hcV:=hcx;obtain ⟨wx,hwx⟩:∃ wx,wr=wx:=⟨_,rfl⟩
     have hsV:wx.heap.size=wr.heap.size:=by rw [hwx]
     rw [hwx] at V0 V2 V3 hownV hmv hcV ⊢;clear Z0 Z2 Z3 hown hmr hcx;have hGx:G < wx.heap.size:=V3.1;have hmd:=Mid.drew1 wx;have U0:=V0.mid hmd oZr;have U2:=V2.mid hmd oZr;have U3:=V3.mid hmd oZr;have hownU:=hownV.mid hmd oZl;have hmu:=hmv.trans hmd;have g2:=U3.cell 2 rfl;have f0:=cell_keep hmd (by omega) oZr hcV;clear V0 V2 V3 hownV hmv hmd hcV;refine wp_region_T (S:=(fun w'=>w'.cell? ⟨G,2,none⟩=some (.slice A2 xs.length c2)∧w'.cell? ⟨B,off+k,none⟩=some (.int .i64 x))) 12 (by kernel_rfl) ⟨g2,f0⟩ ?_;generalize World.drew wx=wz at U0 U2 U3 hownU hmu f0 g2 ⊢;have hS:wz.cell? ⟨G,2,none⟩=some (.slice A2 xs.length c2)∧wz.cell? ⟨B,off+k,none⟩=some (.int .i64 x):=⟨g2,f0⟩
     refine tkT 0 rfl hS ?_;try simp only [Act.put,zs1,zs2,zs3,zs4,zs5,zs6]
     refine tkT 1 rfl hS ?_;try simp only [Act.put,zs1,zs2,zs3,zs4,zs5,zs6]
     refine tkT 2 rfl hS ?_;try simp only [Act.put,zs1,zs2,zs3,zs4,zs5,zs6]
     refine tkT 3 rfl hS ?_;try simp only [Act.put,zs1,zs2,zs3,zs4,zs5,zs6]
     refine tkT 4 rfl hS ?_;try simp only [Act.put,zs1,zs2,zs3,zs4,zs5,zs6]
     refine tkT 5 rfl hS ?_;try simp only [Act.put,zs1,zs2,zs3,zs4,zs5,zs6]
     refine tkT 6 rfl hS ?_;try simp only [Act.put,zs1,zs2,zs3,zs4,zs5,zs6]
     refine tkT 7 rfl hS ?_;try simp only [Act.put,zs1,zs2,zs3,zs4,zs5,zs6]
     refine tkT 8 rfl hS ?_;try simp only [Act.put,zs1,zs2,zs3,zs4,zs5,zs6]
     refine tkT 9 rfl hS ?_;try simp only [Act.put,zs1,zs2,zs3,zs4,zs5,zs6]
     have hP:=spec_l4Put A2 xs c2 ⟨v, -x,at0⟩ wz _ _ hownU.rg (by omega);refine rdT 10 rfl (fun K hK=>?_)
     (go_simp;(try simp only [hwx1,hwx2]);(with_reducible refine hP.mono ?_);rintro en w9 ⟨A9,c9,rfl,ho9,hm9⟩;have T0':=U0.mid hm9 oZr;have T2':=U2.mid hm9 oZr;have T3':=U3.mid hm9 oZr;have f0':=cell_keep hm9 (by have:=U3.1;omega) oZr f0;go_wp2_with fail)
     refine hK.out _ _ (Or.inr ⟨T3'.cell 2 rfl,f0'⟩) (fun _=>?_);clear hK K;try simp only [Act.put,zs1,zs2,zs3,zs4,zs5,zs6]
     have hmr9:=hmu.trans hm9;have hGz:G < wz.heap.size:=U3.1;have hS3:=And.intro (T3'.cell 2 rfl) f0';have hr2:=T3'.cell 2 rfl;have hrf:=T3'.2.2;clear hS U0 U2 U3 hmu hP;refine tkT 11 rfl hS3 ?_;try simp only [Act.put,zs1,zs2,zs3,zs4,zs5,zs6]
     refine rdT 12 rfl (fun K hK=>?_)
     (go_simp)
     refine hK.out _ _ (Or.inl rfl) (fun _=>?_);clear hK K;try simp only [Act.put,zs1,zs2,zs3,zs4,zs5,zs6]
     refine wpAnyT_done (by kernel_rfl) ?_ _;go_wp2_with fail;go_roundw
     case rel =>
      have hst:=Mid.setCell w9 (lo:=G) (hi:=G+1) (p:=⟨G,2,none⟩) (.slice A9 (putE ⟨v, -x,at0⟩ xs).length c9) (Nat.le_refl _) (Nat.lt_succ_self _);refine ⟨k+1,A9,c9,_,_,putE ⟨v, -x,at0⟩ xs,sz',by omega,by go_num,by rw [hto],hnsz,Lib.hid ?_,ho9.mid hst (Or.inl (by omega)),.inr (by omega),by have:=HGW.out;omega,T0'.mid hst (Or.inl (by omega)),T2'.mid hst (Or.inl (by omega)),T3'.set 2 _ (by simp) rfl,hmr9.storeNew (by show w.heap.size≤G;omega) _⟩;rw [HPE.out,putAll_snoc,← HX.out]
     case measure=>simp [intOf];omega
  ·obtain rfl:k=wd.length:=by omega
   have hszf:sz=s+(wd.length:Int) - 1:=by rw [hszv,Nat.min_eq_right (by omega)];omega
   subst hszf;have hxx:=HX.out;rw [putAll_canon hasc.out] at hxx;have hGr:G < wr.heap.size:=Z3.1;have HXX:=Lib.hid hxx;clear hszv hxx;have a0:=Z2.cell 0 rfl;have a1:=Z2.cell 1 rfl;have a2:=Z2.cell 2 rfl;have b0:=Z3.cell 0 rfl;have b1:=Z3.cell 1 rfl;have b2:=Z3.cell 2 rfl;have af:=Z2.2.2;have bf:=Z3.2.2;go_wp2_with fail;have hcl:(w.heap.size+1 == G)=false:=by simp;omega
   refine bodyPost_ret (v:=.tuple #[.agg #[.int .i64 r,.int .i64 (s+(wd.length:Int) - 1),.slice A2 xs.length c2],.bool true]) (by simp [results,Tryz.results116,go_sem,a0,a1,a2,b0,b1,b2,af,bf]) rfl ⟨A2,c2,?_,?_,?_⟩
   ·rw [HRS.out,HRE.out,HXX.out]
   ·rw [HRE.out,← HXX.out]
    refine OG.wide (OG.mid hown (a:=w.heap.size) (b:=w.heap.size+2) ?_ (Or.inl (by have:=HS.out;omega))) (by have:=HS.out;omega) (by have:=hown.size;simp;omega) (Nat.le_refl _);repeat (first | exact Mid.refl _ _ _ | refine Mid.stored ?_ _ (by simp;try omega) (by simp;try omega))
   ·repeat (first | exact hmr | refine Mid.storeNew ?_ (by simp;try omega) _)
end
section
open Go.RowKit
theorem spec_TrimGraph (r:Int) (n:Nat) (A:Option Addr) (es:List Ed) (c:Nat) (w:World) (lo hi:Nat) (hr:RG w lo hi A es) (hg:IsGr r n es) :
  Calls Tryz.prog 168 #[graV r n A es.length c] w fun e w'=>∃ A1 c1 Al nl cl,e=.returned (.tuple #[graV r (trimA 40 ((n:Int),es)).1 A1 (trimA 40 ((n:Int),es)).2.length c1,.slice Al nl cl])∧OG w' w.heap.size w'.heap.size A1 c1 (trimA 40 ((n:Int),es)).2∧Mid 0 0 w w':=by
 have hn40:n≤40:=by have:=hg.size;omega
 have hl:=hg.len;have hm0:Mid 0 0 w ((w.alloc (.cells #[.int .i64 r,.int .i64 n,.slice A es.length c] 26)).alloc (.cells #[.int .i64 0,.int .i64 0,.slice none 0 0] 26)):=(Mid.alloc _ _).trans (Mid.alloc _ _);have b0:=(Box.new w #[.int .i64 r,.int .i64 n,.slice A es.length c] 26).mid (Mid.alloc _ (.cells #[.int .i64 0,.int .i64 0,.slice none 0 0] 26)) oZr;have b2:=Box.new (w.alloc (.cells #[.int .i64 r,.int .i64 n,.slice A es.length c] 26)) #[.int .i64 0,.int .i64 0,.slice none 0 0] 26;simp only [World.size_alloc] at b2;have HG:=Lib.hid hg;obtain ⟨T,hT⟩:∃ T,trimA 40 ((n:Int),es)=T:=⟨_,rfl⟩
 rw [hT];have HT:=Lib.hid hT;clear hg hT;go_enter Tryz.func168,Tryz.ntmps168
 go_wp2_with fail;generalize hw1:((w.alloc (.cells #[.int .i64 r,.int .i64 n,.slice A es.length c] 26)).alloc (.cells #[.int .i64 0,.int .i64 0,.slice none 0 0] 26))=w1 at hm0 b0 b2 ⊢;clear hw1;with_reducible refine (spec_l4Copy r n A es c _ _ _ (hr.mid hm0 oZl) (by omega)).mono ?_
 rintro en w2 ⟨A1,c1,rfl,ho,hm2⟩;have hsz12:=hm0.size;have hs2:w.heap.size+1 < w1.heap.size:=b2.1;replace b0:=b0.mid hm2 oZr;replace b2:=b2.mid hm2 oZr;replace hm0:=hm0.trans hm2;have hsz2:=hm2.size;have hown0:=owns_base (base':=w.heap.size+2) ho.ov.2.1 hs2;have hbk0:Value.ownBlock (.slice A1 es.length c1)≠some w2.heap.size:=fun h=>by have:=ho.ov.2.2 _ h;omega
 have hal:=(Mid.alloc w2 (.cells #[.int .i64 r,.int .i64 n,.slice A1 es.length c1] 26)).trans (Mid.alloc (w2.alloc (.cells #[.int .i64 r,.int .i64 n,.slice A1 es.length c1] 26)) (.cells #[] 3));have Y3:=(Box.new w2 #[.int .i64 r,.int .i64 n,.slice A1 es.length c1] 26).mid (Mid.alloc (w2.alloc (.cells #[.int .i64 r,.int .i64 n,.slice A1 es.length c1] 26)) (.cells #[] 3)) oZr;have O0:=owns_empty (w2.alloc (.cells #[.int .i64 r,.int .i64 n,.slice A1 es.length c1] 26)) 3 1;rw [World.size_alloc] at O0;have hbs0:=b0.1;have p0:=b0.cell 0 rfl;have p1:=b0.cell 1 rfl;have p2:=b0.cell 2 rfl;replace b0:=b0.mid hal oZr;replace b2:=b2.mid hal oZr;replace hown0:=owns_mid hown0 hal oZl;replace hm0:=hm0.trans hal;go_wp2_with fail;clear p0 p1 p2;have hsA:((w2.alloc (.cells #[.int .i64 r,.int .i64 n,.slice A1 es.length c1] 26)).alloc (.cells #[] 3)).heap.size=w2.heap.size+2:=by simp
 generalize hw3:(w2.alloc (.cells #[.int .i64 r,.int .i64 n,.slice A1 es.length c1] 26)).alloc (.cells #[] 3)=w3 at Y3 O0 b0 b2 hown0 hm0 hsA ⊢;obtain ⟨G,hG⟩:∃ G,w2.heap.size=G:=⟨_,rfl⟩
 rw [hG] at Y3 O0 hbk0 hsA hsz2 hbs0 ⊢;clear hw3 hal hm2 ho hG;have hGw:w.heap.size+2≤G:=by omega
 clear hsA hsz2 hs2 hsz12 hbs0;go_loopw [5,6] (fun l i wr=>∃ (k:Nat) (Al:Option Addr) (nl cl:Nat),k≤n∧i=.int .i64 k∧l=.slice Al nl cl∧Hid ((upto k).length=nl)∧wr.ownsRow (G+1) 3 1 (.slice Al nl cl) nl (ints (upto k)) ∧
   Hid (wr.ownsRow (w.heap.size+2) 68 3 (.slice A1 es.length c1) es.length (ints (edI es)))∧Box wr w.heap.size [.int .i64 r,.int .i64 n,.slice A es.length c]∧Box wr (w.heap.size+1) [.int .i64 0,.int .i64 0,.slice none 0 0]∧Box wr G [.int .i64 r,.int .i64 n,.slice A1 es.length c1]∧Mid 0 0 w wr) (fun _ i _=>n - (intOf i).toNat)
 case atStart=>exact ⟨0,_,0,0,Nat.zero_le _,rfl,rfl,Lib.hid rfl,O0,Lib.hid hown0,b0,b2,Y3,hm0⟩
 case round =>
  clear O0 hown0 b0 b2 Y3 hm0;obtain ⟨wo,hwo⟩:∃ wo,wo=wr:=⟨_,rfl⟩
  subst hwo;obtain ⟨k,Al,nl,cl,hk,rfl,rfl,HN,hleft,HE,b0,b2,Y3,hm⟩:=hrel;obtain rfl:k=nl:=by rw [← HN.out,upto_len]
  have p0:=b0.cell 0 rfl;have p1:=b0.cell 1 rfl;have p2:=b0.cell 2 rfl;by_cases hlt:k < n
  ·have hk1:(k:Int) < (n:Int):=by omega
   go_wp2_with fail;with_reducible refine (spec_IsGraph r n A es c _ _ _ (hr.mid hm oZl).rv (by omega) true (iff_of_true rfl HG.out)).mono ?_
   rintro en w4 ⟨rfl,hm4⟩;have hE4:=owns_mid HE.out hm4 oZl;replace b0:=b0.mid hm4 oZr;replace b2:=b2.mid hm4 oZr;replace Y3:=Y3.mid hm4 oZr;replace hleft:=owns_mid hleft hm4 oZl;replace hm:=hm.trans hm4;have hGo:G+1≤w4.heap.size:=Y3.1;have HL:=Lib.hid hleft;clear hleft HE;go_wp2_with (at_builtin;refine wpList_pushI2 rfl _ _ rfl (G+1) Al k cl (upto k) rfl HL.out k rfl (by omega) hGo ?_;intro A9 c9 w9 hl9 hgr9 hat9)
   clear hat9;have hm9:=Mid.of_grownRow HL.out hgr9;have hE9:=hE4.kept hgr9 (owns_ne hE4 HL.out (by decide));go_roundw
   case rel=>exact ⟨k+1,A9,k+1,c9,by omega,by go_num,rfl,Lib.hid (by rw [upto_len]),by rw [upto_succ];exact hl9,Lib.hid hE9,b0.mid hm9 (Or.inl (by omega)),b2.mid hm9 (Or.inl (by omega)),Y3.mid hm9 (Or.inl (by omega)),hm.transNew hm9 (Or.inl (by omega))⟩
   case measure=>simp [intOf];omega
  ·obtain rfl:k=n:=by omega
   go_wp2_with fail;clear p0 p1 p2;have hGo:=Y3.1;go_loopw [5,7] (fun l iv wr=>∃ (i m s:Nat) (es1:List Ed) (A2:Option Addr) (c2:Nat) (Al:Option Addr) (cl:Nat) (xs:List Int),l=.slice Al s cl∧iv=.int .i64 i∧i+m=40∧Hid (trimA m ((s:Int),es1)=T)∧s≤m∧Hid (IsGr r s es1)∧wr.ownsRow (G+1) 3 1 (.slice Al s cl) s (ints xs) ∧
     Hid (wr.ownsRow (w.heap.size+2) 68 3 (.slice A2 es1.length c2) es1.length (ints (edI es1)))∧Hid (Value.ownBlock (.slice A2 es1.length c2)≠some G)∧Box wr w.heap.size [.int .i64 r,.int .i64 k,.slice A es.length c]∧Box wr (w.heap.size+1) [.int .i64 0,.int .i64 0,.slice none 0 0]∧Box wr G [.int .i64 r,.int .i64 s,.slice A2 es1.length c2]∧Mid 0 0 w wr) (fun _ iv _=>40 - (intOf iv).toNat)
   case atStart=>exact ⟨0,40,k,es,A1,c1,Al,cl,upto k,rfl,rfl,by omega,HT,hn40,HG,hleft,HE,Lib.hid hbk0,b0,b2,Y3,hm⟩
   case round =>
    clear hleft HE b0 b2 Y3 hm HN hGo;obtain ⟨wj,hwj⟩:∃ wj,wj=wr:=⟨_,rfl⟩
    subst hwj;obtain ⟨i,m,s,es1,A2,c2,Al,cl,xs,rfl,rfl,him,HTm,hsm,HGs,hleft,HE,HBK,b0,b2,Y3,hm⟩:=hrel;have hs1:1≤s:=by have:=HGs.out.size;omega
    have hs40:s≤40:=by have:=HGs.out.size;omega
    have hl1:=HGs.out.len;have hi40:(i:Int) < 40:=by omega
    have p0:=b0.cell 0 rfl;have p1:=b0.cell 1 rfl;have p2:=b0.cell 2 rfl;go_wp2_with fail;with_reducible refine (spec_IsGraph r k A es c _ _ _ (hr.mid hm oZl).rv (by omega) true (iff_of_true rfl HG.out)).mono ?_
    rintro en w4 ⟨rfl,hm4⟩;have hE4:=owns_mid HE.out hm4 oZl;replace HE:=Lib.hid hE4;replace b0:=b0.mid hm4 oZr;replace b2:=b2.mid hm4 oZr;replace Y3:=Y3.mid hm4 oZr;replace hleft:=owns_mid hleft hm4 oZl;replace hm:=hm.trans hm4;clear p0 p1 p2 hE4 hm4;have y0:=Y3.cell 0 rfl;have y1:=Y3.cell 1 rfl;have y2:=Y3.cell 2 rfl;go_wp2_with fail;with_reducible refine (spec_l8Leaf r s A2 es1 c2 _ _ _ (owns_rv HE.out).rg HGs.out).mono ?_
    rintro en w5 ⟨rfl,hm5⟩;have hE5:=owns_mid HE.out hm5 oZl;replace HE:=Lib.hid hE5;replace b0:=b0.mid hm5 oZr;replace b2:=b2.mid hm5 oZr;replace Y3:=Y3.mid hm5 oZr;replace hleft:=owns_mid hleft hm5 oZl;replace hm:=hm.trans hm5;clear y0 y1 y2 hE5 hm5;have y0:=Y3.cell 0 rfl;have y1:=Y3.cell 1 rfl;have y2:=Y3.cell 2 rfl;cases hlf:leaf s es1 with
    | none =>
     have hTT:=HTm.out;rw [trimA_none hlf] at hTT;have HTT:=Lib.hid hTT;rw [leafI_none hlf];have z0:=b2.cell 0 rfl;have z1:=b2.cell 1 rfl;have z2:=b2.cell 2 rfl;have zf:=b2.2.2;have hbs:=b2.1;clear hTT hlf;go_wp2_with fail;have hcl:(w.heap.size+1 == G)=false:=by simp;omega
     refine bodyPost_ret (v:=.tuple #[.agg #[.int .i64 r,.int .i64 s,.slice A2 es1.length c2],.slice Al s cl]) (by simp [results,Tryz.results168,go_sem,z0,z1,z2,zf,y0,y1,y2]) rfl ⟨A2,c2,Al,s,cl,by rw [← HTT.out],?_,?_⟩
     ·rw [← HTT.out]
      have h0:OG w5 (w.heap.size+2) w5.heap.size A2 c2 es1:=⟨Nat.le_refl _,HE.out,fun g hg=>(HE.out.lt g hg).2⟩
      refine OG.wide (OG.mid h0 (a:=w.heap.size+1) (b:=w.heap.size+2) ?_ (Or.inl (Nat.le_refl _))) (by omega) (by simp) (Nat.le_refl _);repeat (first | exact Mid.refl _ _ _ | refine Mid.stored ?_ _ (by simp;try omega) (by simp;try omega))
     ·repeat (first | exact hm | refine Mid.storeNew ?_ (by simp;try omega) _)
    | some g =>
     obtain ⟨hg1,hgs', -⟩:=leaf_spec hlf;have hgs:g < s:=by omega
     obtain ⟨m',rfl⟩:∃ m',m=m'+1:=⟨m - 1,by omega⟩
     have hTT:=HTm.out;rw [trimA_some hlf] at hTT;have HTT:=Lib.hid hTT;have HCG:=Lib.hid (cutV_gr (g:=((s:Int),es1)) HGs.out hg1 hgs');rw [leafI_some hlf];have dg0:decide ((g:Int) < 0)=false:=by simp
     clear hTT hlf hgs';obtain ⟨wk,hwk⟩:∃ wk,wk=w5:=⟨_,rfl⟩
     subst hwk;go_wp2_with fail;have hal:=(Mid.alloc wk (.cells #[] 3)).trans (Mid.alloc (wk.alloc (.cells #[] 3)) (.cells #[] 3));have T0:TwoI ((wk.alloc (.cells #[] 3)).alloc (.cells #[] 3)) wk.heap.size (.slice (some ⟨wk.heap.size,0,none⟩) 0 0) (.slice (some ⟨wk.heap.size+1,0,none⟩) 0 0) 0 0 [] []:=by
      refine ⟨(owns_empty wk 3 1).alloc _,?_,?_⟩
      ·have h:=owns_empty (wk.alloc (.cells #[] 3)) 3 1
       rw [World.size_alloc] at h;exact owns_base h (Nat.le_succ _)
      ·simp [Value.ownBlock]
     clear y0 y1 y2;go_loopw [9,10,11] (fun o rs kv wr=>∃ (kk:Nat) (Ao:Option Addr) (co:Nat) (Ar:Option Addr) (cr no:Nat) (ys:List Int),kk≤s∧kv=.int .i64 kk∧o=.slice Ao no co∧rs=.slice Ar no cr∧Hid ((but g kk).length=no)∧Hid (TwoI wr wk.heap.size (.slice Ao no co) (.slice Ar no cr) no no (but g kk) ys)∧Mid 0 0 wk wr) (fun _ _ kv _=>s - (intOf kv).toNat)
     case atStart=>exact ⟨0,_,0,_,0,0,[],Nat.zero_le _,rfl,rfl,rfl,Lib.hid rfl,Lib.hid T0,hal⟩
     case round =>
      clear T0 hal;obtain ⟨kk,Ao,co,Ar,cr,no,ys,hkk,rfl,rfl,rfl,HNo,HT2,hmy⟩:=hrel;have hno:no≤40:=by
       have h1:(but g kk).length≤kk:=by unfold but;rw [List.length_map];exact Nat.le_trans (List.length_filter_le _ _) (by simp)
       have h2:=HNo.out;omega
      have Y4:=Y3.mid hmy oZr;have y0:=Y4.cell 0 rfl;have y1:=Y4.cell 1 rfl;have y2:=Y4.cell 2 rfl;by_cases hlt:kk < s
      ·have hbs:=but_succ g kk
       have hk3:(kk:Int) < (s:Int):=by omega
       have hk0:(0:Int)≤(kk:Int):=by omega
       by_cases hkg:kk=g
       ·have d3:((kk:Int) != (g:Int))=false:=by simp;omega
        rw [if_pos hkg] at hbs;have HBS:=Lib.hid hbs;clear hbs hkg;go_wp2_with fail;go_roundw
        case rel=>exact ⟨kk+1,Ao,co,Ar,cr,no,ys,by omega,by go_num,rfl,rfl,by rw [HBS.out];exact HNo,by rw [HBS.out];exact HT2,hmy⟩
        case measure=>simp [intOf];omega
       ·have d3:((kk:Int) != (g:Int))=true:=by simp;omega
        rw [if_neg hkg] at hbs;have HBS:=Lib.hid hbs;have hsz:=hmy.size;obtain ⟨gl,rfl,hgl1,hgl2⟩:=owns_addr hleft (show 0 < s by omega);obtain ⟨y,hy⟩:=get_of_lt xs (show kk < xs.length by have h:=hleft.1;simp [ints] at h;omega);have hyc:∀ W:World,Mid wk.heap.size W.heap.size wk W→True:=fun _ _=>trivial;have HLF:=Lib.hid hleft;have HY:=Lib.hid hy;clear hbs hkg hy hyc;go_wp2_with (first | (at_builtin;refine wpList_push2 rfl _ _ rfl wk.heap.size Ao no co (but g kk) _ _ _ rfl HT2.out kk rfl (by omega) hsz ?_;intro A7 c7 w7 ht7 hm7;have hmw:=hmy.transNew hm7 (Or.inl (Nat.le_refl _));have hcx:=((owns_mid HLF.out hmw oZl).cellAt kk (by omega)).trans (show (ints xs)[kk]?=some (.int .i64 y) by simp [ints,HY.out]);have hsz7:=hmw.size;have HT7:=Lib.hid ht7.swap;clear ht7) | (at_builtin;refine wpList_push2 rfl _ _ rfl wk.heap.size Ar no cr ys _ _ _ rfl HT7.out y rfl (by omega) hsz7 ?_;intro A9 c9 w9 ht9 hm9))
        go_roundw
        case rel=>exact ⟨kk+1,A7,c7,A9,c9,no+1,ys++[y],by omega,by go_num,rfl,rfl,Lib.hid (by rw [HBS.out,List.length_append,HNo.out];rfl),Lib.hid (by rw [HBS.out];exact ht9.swap),hmw.transNew hm9 (Or.inl (Nat.le_refl _))⟩
        case measure=>simp [intOf];omega
      ·obtain rfl:kk=s:=by omega
       have hln:(but g kk).length=no:=HNo.out;have hn1:no=kk - 1:=by rw [← hln,but_len g hgs]
       obtain ⟨es2,hes2⟩:∃ es2,partE (but g kk) es1=es2:=⟨_,rfl⟩
       have hcv:cutV ((kk:Int),es1) g=((no:Int),es2):=by unfold cutV;simp only [Int.toNat_natCast];rw [hln,hes2]
       have hE6:=owns_mid HE.out hmy oZl;have hP:=spec_RenumberGraph r kk A2 es1 c2 Ao (but g kk) co wr _ _ _ _ (owns_rv hE6).rg (owns_rv HT2.out.f) HGs.out (but_nodup g kk) (fun x hx=>but_range hx) (by omega);have HN1:=Lib.hid hn1;rw [hln,hes2] at hP;have HP:=Lib.hid hP;have hTT2:=HTT.out;rw [hcv] at hTT2;have hgr2:=HCG.out;rw [hcv] at hgr2;have HTT2:=Lib.hid hTT2;have HG2:=Lib.hid hgr2;have hwks:G+1≤wk.heap.size:=Y3.1;have hto:=HT2.out.t;clear hP hTT2 hgr2 hcv hes2 hln HTT HCG HE hE6 hn1;go_wp2_with fail;with_reducible refine HP.out.mono ?_
       rintro en w8 ⟨A3,c3,rfl,hog,hm8⟩;clear HP;have hogw:wk.heap.size≤wr.heap.size:=hmy.size;replace hto:=owns_mid hto hm8 oZl;have hm28:=hmy.trans hm8;clear Y4 y0 y1 y2;replace b0:=b0.mid hm28 oZr;replace b2:=b2.mid hm28 oZr;replace Y3:=Y3.mid hm28 oZr;replace hm:=hm.trans hm28;clear hmy hm8 hm28;have y0:=Y3.cell 0 rfl;have y1:=Y3.cell 1 rfl;have y2:=Y3.cell 2 rfl;have yf:=Y3.2.2;go_wp2_with fail;have hst:=(Mid.setAt w8 G 0 (.int .i64 r)).trans ((Mid.setAt (w8.setCell ⟨G,0,none⟩ (.int .i64 r)) G 1 (.int .i64 no)).trans (Mid.setAt ((w8.setCell ⟨G,0,none⟩ (.int .i64 r)).setCell ⟨G,1,none⟩ (.int .i64 no)) G 2 (.slice A3 es2.length c3)));have Y5:=((Y3.set 0 (.int .i64 r) (by simp) rfl).set 1 (.int .i64 no) (by simp) rfl).set 2 (.slice A3 es2.length c3) (by simp) rfl;have hm5:=((hm.storeNew (p:=⟨G,0,none⟩) (by show w.heap.size≤G;omega) (.int .i64 r)).storeNew (p:=⟨G,1,none⟩) (by show w.heap.size≤G;omega) (.int .i64 no)).storeNew (p:=⟨G,2,none⟩) (by show w.heap.size≤G;omega) (.slice A3 es2.length c3);replace b0:=b0.mid hst (Or.inl (by omega));replace b2:=b2.mid hst (Or.inl (by omega));replace hto:=owns_base (owns_mid hto hst (Or.inl hwks)) hwks;have hoe:=(OG.mid hog hst (Or.inl (by omega))).ov.2.1;have hbk9:Value.ownBlock (.slice A3 es2.length c3)≠some G:=fun h=>by have:=(hoe.lt _ h).1;omega
       go_roundw
       case rel=>exact ⟨i+1,m',no,es2,A3,c3,Ar,cr,ys,rfl,by go_num,by omega,HTT2,by have:=HN1.out;omega,HG2,hto,Lib.hid (owns_base hoe (by omega)),Lib.hid hbk9,b0,b2,Y5,hm5⟩
       case measure=>simp [intOf];omega
end
section
open Go.RowKit
theorem nat_gr {r:Int} {g:Int × List Ed} (h:IsGr r g.1 g.2):∃ (n:Nat) (es:List Ed),g=((n:Int),es)∧IsGr r n es:=by
 obtain ⟨s,es⟩:=g;have h1:1≤s:=h.size.1;obtain ⟨n,rfl⟩:∃ n:Nat,s=n:=⟨s.toNat,by omega⟩
 exact ⟨n,es,rfl,h⟩
theorem hcl_of {w:World} {lo hi:Nat} {A:Option Addr} {c:Nat} {es:List Ed} (h:OG w lo hi A c es):es.length≤c:=by
 obtain ⟨A',c',hv0,hsc,hcm⟩:=owns_shape h.ov.2.1;injection hv0 with _ _ hv0
 omega
theorem spec_CoreGraph (r n:Nat) (A:Option Addr) (es:List Ed) (c:Nat) (w:World) (lo hi:Nat) (hr:RG w lo hi A es) (hg:IsGr r n es) :
  Calls Tryz.prog 91 #[graV r n A es.length c] w fun e w'=>∃ A1 c1,e=.returned (graV r (coreA r ((n:Int),es)).1 A1 (coreA r ((n:Int),es)).2.length c1)∧OG w' w.heap.size w'.heap.size A1 c1 (coreA r ((n:Int),es)).2∧Mid 0 0 w w':=by
 obtain ⟨f,fs,hF,hgf⟩:=nat_gr (foldA_gr 40 (g:=((n:Int),es)) hg);obtain ⟨t,ts,hT,hgt⟩:=nat_gr (trimA_gr 40 (g:=((f:Int),fs)) hgf);obtain ⟨q,qs,hQ, -⟩:=nat_gr (canonG_gr (g:=((t:Int),ts)) hgt);have hcore:coreA r ((n:Int),es)=((q:Int),qs):=by rw [coreA,hF,hT,hQ]
 rw [hcore];have hm0:Mid 0 0 w ((w.alloc (.cells #[.int .i64 r,.int .i64 n,.slice A es.length c] 26)).alloc (.cells #[.int .i64 0,.int .i64 0,.slice none 0 0] 26)):=(Mid.alloc _ _).trans (Mid.alloc _ _);have b2:=Box.new (w.alloc (.cells #[.int .i64 r,.int .i64 n,.slice A es.length c] 26)) #[.int .i64 0,.int .i64 0,.slice none 0 0] 26;simp only [World.size_alloc] at b2;have HG:=Lib.hid hg;have HGF:=Lib.hid hgf;have HGT:=Lib.hid hgt;have HF:=Lib.hid hF;have HT:=Lib.hid hT;have HQ:=Lib.hid hQ;clear hg hgf hgt hF hT hQ hcore;go_enter Tryz.func91,Tryz.ntmps91
 go_wp2_with fail;generalize ((w.alloc (.cells #[.int .i64 r,.int .i64 n,.slice A es.length c] 26)).alloc (.cells #[.int .i64 0,.int .i64 0,.slice none 0 0] 26))=w1 at hm0 b2 ⊢;have hP1:=spec_FoldAll r n A es c w1 _ _ (hr.mid hm0 oZl) HG.out;rw [HF.out] at hP1;with_reducible refine hP1.mono ?_
 rintro en w2 ⟨A1,c1,Al,nl,cl,rfl,ho1,hm2⟩;clear hP1;have hs1:w.heap.size+1 < w1.heap.size:=b2.1;have hs2:=hm2.size;have ha2:=Mid.alloc w2 (.cells #[.int .i64 r,.int .i64 f,.slice A1 fs.length c1] 26);have Y1:=Box.new w2 #[.int .i64 r,.int .i64 f,.slice A1 fs.length c1] 26;replace b2:=b2.mid hm2 oZr;replace hm0:=hm0.trans hm2;replace b2:=b2.mid ha2 oZr;replace ho1:=ho1.mid ha2 oZl;replace hm0:=hm0.trans ha2;dsimp only;go_wp2_with fail;generalize w2.alloc (.cells #[.int .i64 r,.int .i64 f,.slice A1 fs.length c1] 26)=w3 at hm0 b2 ho1 Y1 ha2 ⊢;have hP2:=spec_TrimGraph r f A1 fs c1 w3 _ _ (OG.rg ho1) HGF.out;rw [HT.out] at hP2;with_reducible refine hP2.mono ?_
 rintro en w4 ⟨A3,c3,Al3,nl3,cl3,rfl,ho3,hm4⟩;clear hP2;have hs3:=ha2.size;have hs4:=hm4.size;have ha4:=Mid.alloc w4 (.cells #[.int .i64 r,.int .i64 t,.slice A3 ts.length c3] 26);replace b2:=b2.mid hm4 oZr;replace hm0:=hm0.trans hm4;replace b2:=b2.mid ha4 oZr;replace ho3:=ho3.mid ha4 oZl;replace hm0:=hm0.trans ha4;dsimp only;go_wp2_with fail;generalize w4.alloc (.cells #[.int .i64 r,.int .i64 t,.slice A3 ts.length c3] 26)=w5 at hm0 b2 ho3 ha4 ⊢;have hP3:=spec_CanonicalGraph r t A3 ts c3 w5 _ _ (OG.rg ho3) HGT.out;rw [HQ.out] at hP3;with_reducible refine hP3.mono ?_
 rintro en w6 ⟨A5,c5,rfl,ho5,hm6⟩;clear hP3;have hs5:=ha4.size;replace b2:=b2.mid hm6 oZr;replace hm0:=hm0.trans hm6;have z0:=b2.cell 0 rfl;have z1:=b2.cell 1 rfl;have z2:=b2.cell 2 rfl;have zf:=b2.2.2;dsimp only at ho5;dsimp only;go_wp2_with fail;refine bodyPost_ret (v:=.agg #[.int .i64 r,.int .i64 q,.slice A5 qs.length c5]) (by simp [results,Tryz.results91,go_sem,z0,z1,z2,zf]) rfl ⟨A5,c5,rfl,?_,?_⟩
 ·refine OG.wide (OG.mid ho5 (a:=w.heap.size+1) (b:=w.heap.size+2) ?_ (Or.inl (by omega))) (by omega) (by simp) (Nat.le_refl _)
  repeat (first | exact Mid.refl _ _ _ | refine Mid.stored ?_ _ (by simp;try omega) (by simp;try omega))
 ·repeat (first | exact hm0 | refine Mid.storeNew ?_ (by simp;try omega) _)
theorem impl_CoreGraph (r n:Nat) (A:Option Addr) (es:List Ed) (c:Nat) (w:World) (lo hi:Nat) (hr:RG w lo hi A es) (hg:IsGr r n es) :
  Calls Tryz.prog 89 #[graV r n A es.length c] w fun e w'=>∃ A1 c1,e=.returned (graV r (coreA r ((n:Int),es)).1 A1 (coreA r ((n:Int),es)).2.length c1)∧OG w' w.heap.size w'.heap.size A1 c1 (coreA r ((n:Int),es)).2∧Mid 0 0 w w':=by
 obtain ⟨f,fs,hF,hgf⟩:=nat_gr (foldA_gr 40 (g:=((n:Int),es)) hg);obtain ⟨t,ts,hT,hgt⟩:=nat_gr (trimA_gr 40 (g:=((f:Int),fs)) hgf);obtain ⟨q,qs,hQ, -⟩:=nat_gr (canonG_gr (g:=((t:Int),ts)) hgt);have hcore:coreA r ((n:Int),es)=((q:Int),qs):=by rw [coreA,hF,hT,hQ]
 rw [hcore];have hm0:Mid 0 0 w ((w.alloc (.cells #[.int .i64 r,.int .i64 n,.slice A es.length c] 26)).alloc (.cells #[.int .i64 0,.int .i64 0,.slice none 0 0] 26)):=(Mid.alloc _ _).trans (Mid.alloc _ _);have b2:=Box.new (w.alloc (.cells #[.int .i64 r,.int .i64 n,.slice A es.length c] 26)) #[.int .i64 0,.int .i64 0,.slice none 0 0] 26;simp only [World.size_alloc] at b2;have HG:=Lib.hid hg;have HGF:=Lib.hid hgf;have HGT:=Lib.hid hgt;have HF:=Lib.hid hF;have HT:=Lib.hid hT;have HQ:=Lib.hid hQ;clear hg hgf hgt hF hT hQ hcore;go_enter Tryz.func89,Tryz.ntmps89
 go_wp2_with fail;generalize ((w.alloc (.cells #[.int .i64 r,.int .i64 n,.slice A es.length c] 26)).alloc (.cells #[.int .i64 0,.int .i64 0,.slice none 0 0] 26))=w1 at hm0 b2 ⊢;have hP1:=impl_FoldAll r n A es c w1 _ _ (hr.mid hm0 oZl) HG.out;rw [HF.out] at hP1;with_reducible refine hP1.mono ?_
 rintro en w2 ⟨A1,c1,Al,nl,cl,rfl,ho1,hm2⟩;clear hP1;have hs1:w.heap.size+1 < w1.heap.size:=b2.1;have hs2:=hm2.size;have ha2:=Mid.alloc w2 (.cells #[.int .i64 r,.int .i64 f,.slice A1 fs.length c1] 26);have Y1:=Box.new w2 #[.int .i64 r,.int .i64 f,.slice A1 fs.length c1] 26;replace b2:=b2.mid hm2 oZr;replace hm0:=hm0.trans hm2;replace b2:=b2.mid ha2 oZr;replace ho1:=ho1.mid ha2 oZl;replace hm0:=hm0.trans ha2;dsimp only;go_wp2_with fail;generalize w2.alloc (.cells #[.int .i64 r,.int .i64 f,.slice A1 fs.length c1] 26)=w3 at hm0 b2 ho1 Y1 ha2 ⊢;have hP2:=impl_TrimGraph r f A1 fs c1 w3 _ _ (OG.rg ho1) HGF.out;rw [HT.out] at hP2;with_reducible refine hP2.mono ?_
 rintro en w4 ⟨A3,c3,Al3,nl3,cl3,rfl,ho3,hm4⟩;clear hP2;have hs3:=ha2.size;have hs4:=hm4.size;have ha4:=Mid.alloc w4 (.cells #[.int .i64 r,.int .i64 t,.slice A3 ts.length c3] 26);replace b2:=b2.mid hm4 oZr;replace hm0:=hm0.trans hm4;replace b2:=b2.mid ha4 oZr;replace ho3:=ho3.mid ha4 oZl;replace hm0:=hm0.trans ha4;dsimp only;go_wp2_with fail;generalize w4.alloc (.cells #[.int .i64 r,.int .i64 t,.slice A3 ts.length c3] 26)=w5 at hm0 b2 ho3 ha4 ⊢;have hP3:=impl_CanonicalGraph r t A3 ts c3 w5 _ _ (OG.rg ho3) (hcl_of ho3) HGT.out;rw [HQ.out] at hP3;with_reducible refine hP3.mono ?_
 rintro en w6 ⟨A5,c5,rfl,ho5,hm6⟩;clear hP3;have hs5:=ha4.size;replace b2:=b2.mid hm6 oZr;replace hm0:=hm0.trans hm6;have z0:=b2.cell 0 rfl;have z1:=b2.cell 1 rfl;have z2:=b2.cell 2 rfl;have zf:=b2.2.2;dsimp only at ho5;dsimp only;go_wp2_with fail;refine bodyPost_ret (v:=.agg #[.int .i64 r,.int .i64 q,.slice A5 qs.length c5]) (by simp [results,Tryz.results89,go_sem,z0,z1,z2,zf]) rfl ⟨A5,c5,rfl,?_,?_⟩
 ·refine OG.wide (OG.mid ho5 (a:=w.heap.size+1) (b:=w.heap.size+2) ?_ (Or.inl (by omega))) (by omega) (by simp) (Nat.le_refl _)
  repeat (first | exact Mid.refl _ _ _ | refine Mid.stored ?_ _ (by simp;try omega) (by simp;try omega))
 ·repeat (first | exact hm0 | refine Mid.storeNew ?_ (by simp;try omega) _)
end
section
open Go.RowKit
theorem rankI_bnd {r s:Int} {es:List Ed} (hl:es.length≤1048576):-1≤rankI r s es+40∧rankI r s es≤1048577:=by
 unfold rankI;split
 ·rename_i h
  have h1:=h.fol.gr.size;have h2:=h.fol.gr.len;omega
 ·omega
end
section
open Go.RowKit
theorem spec_AddPetal (r s:Int) (A:Option Addr) (es:List Ed) (c:Nat) (Aw:Option Addr) (wd:List Int) (cw:Nat) (w:World) (lo hi lo' hi':Nat) (hr:RG w lo hi A es) (hw:RV w lo' hi' Aw (ints wd)) (hl:es.length≤1048576) (hwl:wd.length≤1048576) (hok:OkI wd) (rs:Int) (res:List Ed) (b:Bool) (hres:PathIs r s es 0 wd 0 rs res b) :
  Calls Tryz.prog 105 #[graV r s A es.length c,.slice Aw wd.length cw] w fun e w'=>∃ A1 c1,e=.returned (.tuple #[graV r rs A1 res.length c1,.bool b])∧OG w' w.heap.size w'.heap.size A1 c1 res∧Mid 0 0 w w':=by
 have hm0:Mid 0 0 w ((w.alloc (.cells #[.int .i64 r,.int .i64 s,.slice A es.length c] 26)).alloc (.cells #[.int .i64 0,.int .i64 0,.slice none 0 0] 26)):=(Mid.alloc _ _).trans (Mid.alloc _ _);have b0:=(Box.new w #[.int .i64 r,.int .i64 s,.slice A es.length c] 26).mid (Mid.alloc _ (.cells #[.int .i64 0,.int .i64 0,.slice none 0 0] 26)) oZr;have b2:=Box.new (w.alloc (.cells #[.int .i64 r,.int .i64 s,.slice A es.length c] 26)) #[.int .i64 0,.int .i64 0,.slice none 0 0] 26;simp only [World.size_alloc] at b2;have HR:=Lib.hid hres;have HOK:=Lib.hid hok;clear hres hok;go_enter Tryz.func105,Tryz.ntmps105
 go_wp2_with fail;generalize ((w.alloc (.cells #[.int .i64 r,.int .i64 s,.slice A es.length c] 26)).alloc (.cells #[.int .i64 0,.int .i64 0,.slice none 0 0] 26))=w1 at hm0 b0 b2 ⊢;have hs1:w.heap.size+1 < w1.heap.size:=b2.1;with_reducible refine (spec_AddPath r s A es c 0 Aw wd cw 0 w1 _ _ _ _ (hr.mid hm0 oZl) (hw.mid hm0 oZl) hl hwl HOK.out rs res b HR.out).mono ?_
 rintro en w2 ⟨A2,c2,rfl,ho2,hm2⟩;replace b0:=b0.mid hm2 oZr;replace b2:=b2.mid hm2 oZr;replace hm0:=hm0.trans hm2;have hs2:=hm2.size;have ha2:=Mid.alloc w2 (.cells #[.int .i64 r,.int .i64 rs,.slice A2 res.length c2] 26);have Y2:=Box.new w2 #[.int .i64 r,.int .i64 rs,.slice A2 res.length c2] 26;have hs4:w.heap.size+1 < w2.heap.size:=by omega
 have hs5:w.heap.size < w2.heap.size:=by omega
 have q0:=Y2.cell 0 rfl;have q1:=Y2.cell 1 rfl;have q2:=Y2.cell 2 rfl;have z0:=b2.cell 0 rfl;have z1:=b2.cell 1 rfl;have z2:=b2.cell 2 rfl;have zf:=b2.2.2;clear ha2;go_wp2_with fail;refine bodyPost_ret (v:=.tuple #[.agg #[.int .i64 r,.int .i64 rs,.slice A2 res.length c2],.bool b]) (by simp [results,Tryz.results105,go_sem,z0,z1,z2,zf,q0,q1,q2,hs4,hs5,World.cell?_alloc_lt]) rfl ⟨A2,c2,rfl,?_,?_⟩
 ·refine OG.wide (OG.mid ho2 (a:=w.heap.size+1) (b:=w.heap.size+2) ?_ (Or.inl (by omega))) (by omega) (by simp;try omega) (Nat.le_refl _)
  repeat (first | exact Mid.refl _ _ _ | refine Mid.trans ?_ (Mid.zero (Mid.alloc _ _)) | refine Mid.stored ?_ _ (by simp;try omega) (by simp;try omega))
 ·repeat (first | exact hm0 | refine Mid.trans ?_ (Mid.alloc _ _) | refine Mid.storeNew ?_ (by simp;try omega) _)
end
section
open Go.RowKit
theorem inB_rank {x:Int} {b:Bool} (hb:b=true↔1≤x∧x≤3):inB x 1 3=b:=by
 cases b with
 | true=>have:=hb.1 rfl;unfold inB;simp;omega
 | false =>
  have h:¬ (1≤x∧x≤3):=fun h=>by have:=hb.2 h;cases this
  unfold inB;simp;omega
end
section
open Go.RowKit
def AreW (rk:Int) (d:List (List Int)):Prop:=1≤rk∧rk≤3∧d.length≤6∧(∀ xs∈d,IsW rk xs)∧sumL d < 40
theorem spec_TotalLength (A:Option Addr) (d:List (List Int)) (c:Nat) (w:World) (lo hi:Nat) (hr:RSS w lo hi A d) (hl:d.length+sumL d≤1048576) :
  Calls Tryz.prog 268 #[.slice A d.length c] w fun e w'=>e=.returned (.int .i64 (sumL d:Nat))∧w=w':=by
 go_enter Tryz.func268,Tryz.ntmps268
 go_wp2_with fail;go_loop [3,4] (fun n i=>∃ k:Nat,k≤d.length∧i=.int .i64 k∧n=.int .i64 (sumL (d.take k):Nat)) (fun _ i=>d.length - (intOf i).toNat)
 case atStart=>exact ⟨0,Nat.zero_le _,rfl,by simp [sumL]⟩
 case round =>
  obtain ⟨k,hk,rfl,rfl⟩:=hrel;have hs:=sumL_take_le d k;by_cases hlt:k < d.length
  ·obtain ⟨b,off,A1,c1,xs,rfl, -, -,hx,hcx, -⟩:=hr.row hlt
   have hst:=sumL_take_succ hx;have hs2:=sumL_take_le d (k+1);have hsum:sumL (d.take k)+xs.length≤1048576:=by omega
   have hlt3:(k:Int) < (d.length:Int):=by omega
   have HST:=Lib.hid hst;clear hst hs2 hx;go_wp2_with fail;go_round
   case rel=>exact ⟨k+1,by omega,by go_num,by rw [HST.out];go_num⟩
   case measure=>simp [intOf];omega
  ·obtain rfl:k=d.length:=by omega
   go_wp2_with fail;go_ret;exact ⟨by first | rfl | rw [List.take_length] | simp,rfl⟩
theorem bool_false {r:Bool} {p:Prop} (h:r=true↔p) (hn:¬ p):r=false:=by
 cases r with
 | false=>rfl
 | true=>exact absurd (h.1 rfl) hn
theorem spec_AreWords (rk:Int) (A:Option Addr) (d:List (List Int)) (c:Nat) (w:World) (lo hi:Nat) (hr:RSS w lo hi A d) (hok:∀ xs∈d,OkI xs) (hl:d.length+sumL d≤1048576) (r:Bool) (hres:r=true↔AreW rk d) :
  Calls Tryz.prog 262 #[.int .i64 rk,.slice A d.length c] w fun e w'=>e=.returned (.bool r)∧∃ n,w'=w.drewN n:=by
 have HOK:=Lib.hid hok;have HR:=Lib.hid hres;clear hok hres;go_enter Tryz.func262,Tryz.ntmps262
 go_wp2_with fail;go_loopw [5] (fun i wr=>∃ k:Nat,k≤d.length∧i=.int .i64 k∧WordsTo rk d k∧∃ n,wr=w.drewN n) (fun i _=>d.length - (intOf i).toNat)
 case atStart=>exact ⟨0,Nat.zero_le _,rfl,WordsTo.zero _ _,0,rfl⟩
 case round =>
  obtain ⟨k,hk,rfl,hw,nd,rfl⟩:=hrel;have HW:=Lib.hid hw;clear hw;by_cases hlt:k < d.length
  ·obtain ⟨b,off,A1,c1,xs,rfl, -, -,hx,hcx,hrx⟩:=hr.row hlt
   have hlx:=row_le (List.mem_of_getElem? hx) hl;have hox:=HOK.out xs (List.mem_of_getElem? hx);have HOX:=Lib.hid hox;have HX:=Lib.hid hx;have hlt3:(k:Int) < (d.length:Int):=by omega
   clear hx hox;obtain ⟨v,hv⟩:=bool_ofR (IsW rk xs);have HV:=Lib.hid hv;clear hv;cases hvc:v with
   | false =>
    subst hvc;go_wp2_with fail;with_reducible refine (spec_IsWord rk A1 xs c1 _ _ (hrx.rs.drewN nd) HOX.out hlx false HV.out).mono ?_
    rintro e w' ⟨rfl,n2,rfl⟩;go_wp2_with fail;go_ret;obtain rfl:r=false:=bool_false HR.out (fun h=>by have:=HV.out.2 (h.2.2.2.1 xs (List.mem_of_getElem? HX.out));cases this);exact ⟨rfl,_,by first | rfl | exact dn _ _ _⟩
   | true =>
    subst hvc;have HV2:=Lib.hid (HV.out.1 rfl);clear HV;go_wp2_with fail;with_reducible refine (spec_IsWord rk A1 xs c1 _ _ (hrx.rs.drewN nd) HOX.out hlx true (iff_of_true rfl HV2.out)).mono ?_
    rintro e w' ⟨rfl,n2,rfl⟩;go_wp2_with fail;go_roundw
    case rel=>exact ⟨k+1,by omega,by go_num,HW.out.succ HX.out HV2.out,_,by first | rfl | exact dn _ _ _⟩
    case measure=>simp [intOf];omega
  ·obtain rfl:k=d.length:=by omega
   by_cases hb:inB rk 1 3=false
   ·obtain rfl:r=false:=bool_false HR.out (fun h=>by simp [inB] at hb;have:=h.1;have:=h.2.1;omega)
    have HB:=Lib.hid hb;clear hb;go_wp2_with fail;with_reducible refine (l1In_any _ _ _ _).mono ?_
    rintro e w' ⟨rfl,rfl⟩;rw [HB.out];go_wp2_with fail;go_ret;exact ⟨rfl,_,rfl⟩
   ·have hb':inB rk 1 3=true:=by simpa using hb
    have HB:=Lib.hid hb';have hrk:1≤rk∧rk≤3:=by simpa [inB] using hb'
    clear hb hb';by_cases h6:6 < d.length
    ·obtain rfl:r=false:=bool_false HR.out (fun h=>by have:=h.2.2.1;omega)
     have h63:¬ (d.length:Int)≤6:=by omega
     go_wp2_with fail;with_reducible refine (l1In_any _ _ _ _).mono ?_
     rintro e w' ⟨rfl,rfl⟩;rw [HB.out];go_wp2_with fail;go_ret;exact ⟨by first | rfl | (simp;omega),_,rfl⟩
    ·have h63:(d.length:Int)≤6:=by omega
     by_cases h40:sumL d < 40
     ·obtain rfl:r=true:=HR.out.2 ⟨hrk.1,hrk.2,by omega,wordsTo_all.1 HW.out,h40⟩
      have h403:(sumL d:Int) < 40:=by omega
      go_wp2_with fail;with_reducible refine (l1In_any _ _ _ _).mono ?_
      rintro e w' ⟨rfl,rfl⟩;rw [HB.out];go_wp2_with fail;with_reducible refine (spec_TotalLength A d c (w.drewN nd) _ _ (hr.mid ((Mid.refl 0 0 w).drewN nd) oZl) hl).mono ?_
      rintro e w' ⟨rfl,rfl⟩;go_wp2_with fail;go_ret;exact ⟨by simp [h403],_,rfl⟩
     ·obtain rfl:r=false:=bool_false HR.out (fun h=>h40 h.2.2.2.2)
      have h403:¬ (sumL d:Int) < 40:=by omega
      go_wp2_with fail;with_reducible refine (l1In_any _ _ _ _).mono ?_
      rintro e w' ⟨rfl,rfl⟩;rw [HB.out];go_wp2_with fail;with_reducible refine (spec_TotalLength A d c (w.drewN nd) _ _ (hr.mid ((Mid.refl 0 0 w).drewN nd) oZl) hl).mono ?_
      rintro e w' ⟨rfl,rfl⟩;go_wp2_with fail;go_ret;exact ⟨by simp;omega,_,rfl⟩
end
section
open Go.RowKit
theorem empty_gr {r:Int} (h:1≤r∧r≤3):IsGr r 1 []:=⟨h,by omega,by simp,by simp,List.Pairwise.nil⟩
structure FlOk (r:Int) (l:List (List Int)) (k:Nat) (g:Int × List Ed):Prop where
 gr:IsGr r g.1 g.2
 sz:g.1≤1+(sumL (l.take k):Nat)
 ln:g.2.length≤sumL (l.take k)
theorem FlOk.path {r:Int} {l:List (List Int)} {k:Nat} {g:Int × List Ed} {w:List Int} (ha:AreW r l) (h:FlOk r l k g) (hw:l[k]?=some w) (hn:w≠[]):PathOk r g.1 g.2 0 w 0:=by
 have h1:=sumL_take_succ hw;have h2:=sumL_take_le l (k+1);have h3:=ha.2.2.2.2;have h4:=h.sz;have h5:=h.ln;have h6:=h.gr.size;exact ⟨h.gr,by omega,by omega,ha.2.2.2.1 w (List.mem_of_getElem? hw),hn,by omega,by omega⟩
theorem FlOk.step {r:Int} {l:List (List Int)} {k:Nat} {g:Int × List Ed} {w:List Int} (ha:AreW r l) (h:FlOk r l k g) (hw:l[k]?=some w):FlOk r l (k+1) (petalA g w):=by
 have h1:=sumL_take_succ hw;by_cases hn:w=[]
 ·subst hn
  have h4:=h.sz;have h5:=h.ln;simp only [List.length_nil] at h1;rw [petalA,if_pos rfl];exact ⟨h.gr,by omega,by omega⟩
 ·have hp:=h.path ha hw hn
  have h4:=h.sz;have h5:=h.ln;have h6:=canon_len (g.2++pathE 0 g.1 w 0 w.length);have h7:0 < w.length:=List.length_pos_iff.2 hn;rw [List.length_append,pathE_len] at h6;rw [petalA,if_neg hn];exact ⟨path_gr hp,by simp only;omega,by simp only;omega⟩
theorem FlOk.zero {r:Int} (l:List (List Int)) (h:1≤r∧r≤3):FlOk r l 0 (1,[]):=⟨empty_gr h,by simp [sumL],by simp⟩
theorem fl_ok {r:Int} {l:List (List Int)} (ha:AreW r l):∀ k,k≤l.length→FlOk r l k (flowA (l.take k) (1,[]))
 | 0,_=>FlOk.zero l ⟨ha.1,ha.2.1⟩
 | k+1,hk=>by
  have hw:=List.getElem?_eq_getElem (l:=l) (i:=k) (by omega);rw [flowA_take hw];exact (fl_ok ha k (by omega)).step ha hw
def FlIs (rank:Int) (l:List (List Int)) (rr rs:Int) (res:List Ed) (b:Bool):Prop :=
 (b=true∧AreW rank l∧rr=rank∧rs=(flowA l (1,[])).1∧res=(flowA l (1,[])).2) ∨ (b=false∧¬ AreW rank l∧rr=0∧rs=0∧res=[])
def SubIs (rank:Int) (l:List (List Int)) (rr rs:Int) (res:List Ed) (b:Bool):Prop :=
 (b=true∧AreW rank l∧rr=rank∧rs=(coreA rank (flowA l (1,[]))).1∧res=(coreA rank (flowA l (1,[]))).2) ∨ (b=false∧¬ AreW rank l∧rr=0∧rs=0∧res=[])
theorem SubIs_ex (rank:Int) (l:List (List Int)):∃ rr rs res b,SubIs rank l rr rs res b:=by
 by_cases h:AreW rank l
 ·exact ⟨_,_,_,_,.inl ⟨rfl,h,rfl,rfl,rfl⟩⟩
 ·exact ⟨_,_,_,_,.inr ⟨rfl,h,rfl,rfl,rfl⟩⟩
theorem flow_gr {r:Int} {l:List (List Int)} (ha:AreW r l):IsGr r (flowA l (1,[])).1 (flowA l (1,[])).2:=by
 have:=(fl_ok ha l.length (Nat.le_refl _)).gr;rw [List.take_length] at this;exact this
theorem spec_NewGraph (rank:Int) (w:World) (h:1≤rank∧rank≤3) :
  Calls Tryz.prog 224 #[.int .i64 rank] w fun e w'=>e=.returned (.tuple #[graV rank 1 none 0 0,.bool true])∧Mid 0 0 w w':=by
 have hm0:Mid 0 0 w (w.alloc (.cells #[.int .i64 0,.int .i64 0,.slice none 0 0] 26)):=Mid.alloc _ _;have b2:=Box.new w #[.int .i64 0,.int .i64 0,.slice none 0 0] 26;have hi1:inB rank 1 3=true:=inB_rank (iff_of_true rfl h);go_enter Tryz.func224,Tryz.ntmps224
 go_wp2_with fail;generalize w.alloc (.cells #[.int .i64 0,.int .i64 0,.slice none 0 0] 26)=w1 at hm0 b2 ⊢;have hs1:w.heap.size < w1.heap.size:=b2.1;with_reducible refine (l1In_at hi1 _).mono ?_
 rintro en w2 ⟨rfl,rfl⟩;have z0:=b2.cell 0 rfl;have z1:=b2.cell 1 rfl;have z2:=b2.cell 2 rfl;have zf:=b2.2.2;go_wp2_with fail;refine bodyPost_ret (v:=.tuple #[.agg #[.int .i64 rank,.int .i64 1,.slice none 0 0],.bool true]) (by simp [results,Tryz.results224,go_sem,z0,z1,z2,zf]) rfl ⟨rfl,?_⟩;repeat (first | exact hm0 | refine Mid.storeNew ?_ (by simp;try omega) _)
theorem spec_FlowerOf (rank:Int) (A:Option Addr) (l:List (List Int)) (c:Nat) (w:World) (lo hi:Nat) (hr:RSS w lo hi A l) (hok:∀ xs∈l,OkI xs) (hl:l.length+sumL l≤1048576) (rr rs:Int) (res:List Ed) (b:Bool) (hres:FlIs rank l rr rs res b) :
  Calls Tryz.prog 243 #[.int .i64 rank,.slice A l.length c] w fun e w'=>∃ A1 c1,e=.returned (.tuple #[graV rr rs A1 res.length c1,.bool b])∧OG w' w.heap.size w'.heap.size A1 c1 res∧Mid 0 0 w w':=by
 have HR:=Lib.hid hres;have HOK:=Lib.hid hok;clear hres hok;obtain ⟨b1,hb1⟩:=bool_of (AreW rank l);have H1:=Lib.hid hb1;clear hb1;have hm0:Mid 0 0 w (w.alloc (.cells #[.int .i64 0,.int .i64 0,.slice none 0 0] 26)):=Mid.alloc _ _;have b2:=Box.new w #[.int .i64 0,.int .i64 0,.slice none 0 0] 26;go_enter Tryz.func243,Tryz.ntmps243
 go_wp2_with fail;generalize w.alloc (.cells #[.int .i64 0,.int .i64 0,.slice none 0 0] 26)=w1 at hm0 b2 ⊢;have hs1:w.heap.size < w1.heap.size:=b2.1;with_reducible refine (spec_AreWords rank A l c w1 _ _ (hr.mid hm0 oZl) HOK.out hl b1 H1.out).mono ?_
 rintro en w2 ⟨rfl,nd,hw2⟩;have hm2:Mid 0 0 w1 w2:=by rw [hw2];exact (Mid.refl 0 0 w1).drewN nd
 replace b2:=b2.mid hm2 oZr;replace hm0:=hm0.trans hm2;clear hw2 hm2;cases b1 with
 | false =>
  have hno:¬ AreW rank l:=fun h=>by have:=H1.out.2 h;cases this
  obtain ⟨rfl,rfl,rfl,rfl⟩:b=false∧rr=0∧rs=0∧res=[]:=by
   rcases HR.out with ⟨-,h, -⟩ | ⟨h1, -,h2⟩
   ·exact absurd h hno
   ·exact ⟨h1,h2⟩
  have z0:=b2.cell 0 rfl;have z1:=b2.cell 1 rfl;have z2:=b2.cell 2 rfl;have zf:=b2.2.2;clear hno HR;go_wp2_with fail;refine bodyPost_ret (v:=.tuple #[.agg #[.int .i64 0,.int .i64 0,.slice none 0 0],.bool false]) (by simp [results,Tryz.results243,go_sem,z0,z1,z2,zf]) rfl ⟨none,0,rfl,?_,?_⟩
  ·exact ⟨Nat.le_refl _,⟨rfl,.inl ⟨rfl,rfl⟩⟩,fun g hg=>by simp [Value.ownBlock] at hg⟩
  ·repeat (first | exact hm0 | refine Mid.trans ?_ (Mid.alloc _ _) | refine Mid.storeNew ?_ (by simp;try omega) _)
 | true =>
 have hare:=H1.out.1 rfl;have HA:=Lib.hid hare;have hrk:1≤rank∧rank≤3:=⟨hare.1,hare.2.1⟩
 obtain ⟨rfl,rfl,hrs,hre⟩:b=true∧rr=rank∧rs=(flowA l (1,[])).1∧res=(flowA l (1,[])).2:=by
  rcases HR.out with ⟨h1, -,h2⟩ | ⟨-,h, -⟩
  ·exact ⟨h1,h2⟩
  ·exact absurd hare h
 have HRS:=Lib.hid hrs;have HRE:=Lib.hid hre;clear hare H1 HR hrs hre;go_wp2_with fail;with_reducible refine (spec_NewGraph rr _ hrk).mono ?_
 rintro en w4 ⟨rfl,hm4⟩;have hs4:=hm4.size;have ha4:=Mid.alloc w4 (.cells #[.int .i64 rr,.int .i64 1,.slice none 0 0] 26);have Y4:=Box.new w4 #[.int .i64 rr,.int .i64 1,.slice none 0 0] 26;replace b2:=b2.mid hm4 oZr;replace hm0:=hm0.trans hm4;have hb4:=b2.1;replace b2:=b2.mid ha4 oZr;replace hm0:=hm0.trans ha4;go_wp2_with fail;generalize w4.alloc (.cells #[.int .i64 rr,.int .i64 1,.slice none 0 0] 26)=w5 at b2 Y4 hm0 ⊢;have hs5:w4.heap.size < w5.heap.size:=Y4.1;clear ha4 hm4;generalize hG:w4.heap.size=Gb at Y4 hb4 hs5;clear hG hs4;have hhi:=hr.size;go_loopw [8] (fun i wr=>∃ (k:Nat) (A2:Option Addr) (c2 hi2:Nat) (g:Int × List Ed),k≤l.length∧i=.int .i64 k∧Hid (g=flowA (l.take k) (1,[]))∧Hid (FlOk rr l k g)∧OG wr (Gb+1) hi2 A2 c2 g.2 ∧
   Box wr w.heap.size [.int .i64 0,.int .i64 0,.slice none 0 0]∧Box wr Gb [.int .i64 rr,.int .i64 g.1,.slice A2 g.2.length c2]∧Mid 0 0 w wr) (fun i _=>l.length - (intOf i).toNat)
 case atStart=>exact ⟨0,none,0,_,(1,[]),Nat.zero_le _,rfl,Lib.hid rfl,Lib.hid (FlOk.zero l hrk),OG.nil,b2,Y4,hm0⟩
 case round =>
  clear b2 Y4 hm0 hs5;obtain ⟨wo,hwo⟩:∃ wo,wo=wr:=⟨_,rfl⟩
  subst hwo;obtain ⟨k,A2,c2,hi2,⟨gs,ge⟩,hk,rfl,HGE,HFL,hown,Z2,Z3,hm⟩:=hrel;dsimp only at hown Z3;have hGo:Gb < wo.heap.size:=Z3.1;have hgl:=HFL.out.gr.len;dsimp only at hgl;by_cases hlt:k < l.length
  ·obtain ⟨Bp,op,Ap,cp,p,rfl, -,hBp,hp,hcp,hrp⟩:=(hr.mid hm oZl).row hlt
   have hpl:p.length≤1048576:=by have:=len_le_sumL (List.mem_of_getElem? hp);omega
   have hk1:(k:Int) < (l.length:Int):=by omega
   have hk0:(0:Int)≤(k:Int):=by omega
   have hBps:Bp < wo.heap.size:=by omega
   have HP:=Lib.hid hp;have hft:=flowA_take hp (1,[]);rw [← HGE.out] at hft;have HFT:=Lib.hid hft;have HST:=Lib.hid (HFL.out.step HA.out hp);clear hp hft;obtain ⟨bb,hPI⟩:∃ bb,PathIs rr gs ge 0 p 0 (petalA (gs,ge) p).1 (petalA (gs,ge) p).2 bb:=by
    by_cases hne:p=[]
    ·subst hne
     rw [petalA,if_pos rfl];exact ⟨false,.inr ⟨rfl,fun h=>h.ne rfl,rfl,rfl⟩⟩
    ·rw [petalA,if_neg hne]
     exact ⟨true,.inl ⟨rfl,HFL.out.path HA.out HP.out hne,rfl,rfl⟩⟩
   obtain ⟨g',hg'⟩:∃ g',petalA (gs,ge) p=g':=⟨_,rfl⟩
   rw [hg'] at hPI;have HG2:Hid (g'=flowA (l.take (k+1)) (1,[])):=Lib.hid (by rw [HFT.out,← hg']);have HF2:Hid (FlOk rr l (k+1) g'):=Lib.hid (by rw [← hg'];exact HST.out);have hP:=fun W (h1:RG W (Gb+1) hi2 A2 ge) (h2:RV W lo hi Ap (ints p))=>spec_AddPetal rr gs A2 ge c2 Ap p cp W _ _ _ _ h1 h2 (by omega) hpl (HOK.out p (List.mem_of_getElem? HP.out)) g'.1 g'.2 bb hPI;have HPP:=Lib.hid hP;clear hg' HST HFT hPI hP;go_wp2_with fail;have hmd:=Mid.drew1 wo;have hsd:=hmd.size;replace Z2:=Z2.mid hmd oZr;replace Z3:=Z3.mid hmd oZr;replace hown:=hown.mid hmd oZl;replace hm:=hm.trans hmd;replace hrp:=hrp.mid hmd oZl;replace hcp:=cell_keep hmd hBps oZr hcp;have q0:=Z3.cell 0 rfl;have q1:=Z3.cell 1 rfl;have q2:=Z3.cell 2 rfl;clear hmd;refine wp_region_Z (S:=(fun w'=>(w'.cell? ⟨Gb,0,none⟩=some (.int .i64 rr)∧w'.cell? ⟨Gb,1,none⟩=some (.int .i64 gs)∧w'.cell? ⟨Gb,2,none⟩=some (.slice A2 ge.length c2))∧w'.cell? ⟨Bp,op+k,none⟩=some (.slice Ap p.length cp))) [] (by kernel_rfl) ⟨⟨q0,q1,q2⟩,hcp⟩ ?_;generalize World.drew wo=wz at Z2 Z3 hown hm hrp hcp q0 q1 q2 hsd ⊢;have hS:(wz.cell? ⟨Gb,0,none⟩=some (.int .i64 rr)∧wz.cell? ⟨Gb,1,none⟩=some (.int .i64 gs)∧wz.cell? ⟨Gb,2,none⟩=some (.slice A2 ge.length c2))∧wz.cell? ⟨Bp,op+k,none⟩=some (.slice Ap p.length cp):=⟨⟨q0,q1,q2⟩,hcp⟩
   have hBz:Bp < wz.heap.size:=by omega
   refine tkZ [] 0 rfl hS ?_;try simp only [Act.put,zs1,zs2,zs3,zs4,zs5,zs6]
   refine tkZ [] 1 rfl hS ?_;try simp only [Act.put,zs1,zs2,zs3,zs4,zs5,zs6]
   refine tkZ [] 2 rfl hS ?_;try simp only [Act.put,zs1,zs2,zs3,zs4,zs5,zs6]
   refine tkZ [] 3 rfl hS ?_;try simp only [Act.put,zs1,zs2,zs3,zs4,zs5,zs6]
   refine tkZ [] 4 rfl hS ?_;try simp only [Act.put,zs1,zs2,zs3,zs4,zs5,zs6]
   refine wpAnyZ_ready (rs:=[5,9]) (by kernel_rfl) (by simp) (AllReadyZ.cons rfl (fun K hK=>?_) (AllReadyZ.cons rfl (fun K hK=>?_) AllReadyZ.nil))
   ·(go_simp;(with_reducible refine (HPP.out _ hown.rg hrp).mono ?_);rintro en w10 ⟨A6,c6,rfl,ho6,hm10⟩;have Z30:=Z3.mid hm10 oZr;have hcp0:=cell_keep hm10 hBz oZr hcp;go_wp2_with fail)
    refine hK.out _ _ (Or.inr ⟨⟨Z30.cell 0 rfl,Z30.cell 1 rfl,Z30.cell 2 rfl⟩,hcp0⟩) (fun _=>?_);clear hK K;try simp only [Act.put,zs1,zs2,zs3,zs4,zs5,zs6]
    replace Z2:=Z2.mid hm10 oZr;replace hm:=hm.trans hm10;have hs10:=hm10.size;have hS10:=And.intro (And.intro (Z30.cell 0 rfl) (And.intro (Z30.cell 1 rfl) (Z30.cell 2 rfl))) hcp0;clear Z3 hS q0 q1 q2 hown HPP;refine tkZ [] 6 rfl hS10 ?_;try simp only [Act.put,zs1,zs2,zs3,zs4,zs5,zs6]
    refine tkZ [] 7 rfl hS10 ?_;try simp only [Act.put,zs1,zs2,zs3,zs4,zs5,zs6]
    refine tkZ [] 8 rfl hS10 ?_;try simp only [Act.put,zs1,zs2,zs3,zs4,zs5,zs6]
    have hal:=Mid.alloc w10 (.cells #[.int .i64 0,.int .i64 0,.slice none 0 0] 26);have Z31:=Z30.mid hal oZr;have hcp1:=cell_keep hal (by omega) oZr hcp0;refine rdZ 9 rfl (fun K hK=>?_);go_simp;refine hK.out _ _ (Or.inr ⟨⟨Z31.cell 0 rfl,Z31.cell 1 rfl,Z31.cell 2 rfl⟩,hcp1⟩) (fun _=>?_);clear hK K;try simp only [Act.put,zs1,zs2,zs3,zs4,zs5,zs6]
    clear hal Z31 hcp1;have hal:=Mid.alloc w10 (.cells #[.int .i64 rr,.int .i64 g'.1,.slice A6 g'.2.length c6] 26);have Z31:=Z30.mid hal oZr;have hcp1:=cell_keep hal (by omega) oZr hcp0;refine rdZ 10 rfl (fun K hK=>?_);go_simp;refine hK.out _ _ (Or.inr ⟨⟨Z31.cell 0 rfl,Z31.cell 1 rfl,Z31.cell 2 rfl⟩,hcp1⟩) (fun _=>?_);clear hK K;try simp only [Act.put,zs1,zs2,zs3,zs4,zs5,zs6]
    refine rdZ 11 rfl (fun K hK=>?_);go_simp;refine hK.out _ _ (Or.inr ⟨⟨Z31.cell 0 rfl,Z31.cell 1 rfl,Z31.cell 2 rfl⟩,hcp1⟩) (fun _=>?_);clear hK K;try simp only [Act.put,zs1,zs2,zs3,zs4,zs5,zs6]
    refine wpAnyZ_done (by kernel_rfl) ?_ _;have Zx:=Box.new w10 #[.int .i64 rr,.int .i64 g'.1,.slice A6 g'.2.length c6] 26;replace ho6:=ho6.mid hal oZl;replace Z2:=Z2.mid hal oZr;replace hm:=hm.trans hal;have hgz:Gb+1≤w10.heap.size:=by omega
    have Z3:=Z31;clear Z30 Z31 hS10 hal hcp0 hcp1 hm10;generalize w10.alloc (.cells #[.int .i64 rr,.int .i64 g'.1,.slice A6 g'.2.length c6] 26)=w11 at Z2 Z3 Zx ho6 hm ⊢;generalize w10.heap.size=Gz at Zx hgz ho6 ⊢;have hst:=((Mid.setCell w11 (lo:=Gb) (hi:=Gb+1) (p:=⟨Gb,0,none⟩) (.int .i64 rr) (Nat.le_refl _) (Nat.lt_succ_self _)).trans (Mid.setCell _ (lo:=Gb) (hi:=Gb+1) (p:=⟨Gb,1,none⟩) (.int .i64 g'.1) (Nat.le_refl _) (Nat.lt_succ_self _))).trans (Mid.setCell _ (lo:=Gb) (hi:=Gb+1) (p:=⟨Gb,2,none⟩) (.slice A6 g'.2.length c6) (Nat.le_refl _) (Nat.lt_succ_self _));have Y7:=((Z3.set 0 (.int .i64 rr) (by simp) rfl).set 1 (.int .i64 g'.1) (by simp) rfl).set 2 (.slice A6 g'.2.length c6) (by simp) rfl;simp only [List.set_cons_succ,List.set_cons_zero] at Y7;have x0:=Zx.cell 0 rfl;have x1:=Zx.cell 1 rfl;have x2:=Zx.cell 2 rfl;have q0:=Z3.cell 0 rfl;have q1:=Z3.cell 1 rfl;have q2:=Z3.cell 2 rfl;have qf:=Z3.2.2;go_wp2_with fail;go_roundw
    case rel=>exact ⟨k+1,A6,c6,_,g',hlt,by go_num,HG2,HF2,(ho6.wide (lo':=Gb+1) (by omega) (Nat.le_refl _) ho6.size).mid hst (Or.inl (Nat.le_refl _)),Z2.mid hst (Or.inl (by omega)),Y7,((hm.storeNew (p:=⟨Gb,0,none⟩) (by show w.heap.size≤Gb;omega) (.int .i64 rr)).storeNew (p:=⟨Gb,1,none⟩) (by show w.heap.size≤Gb;omega) (.int .i64 g'.1)).storeNew (p:=⟨Gb,2,none⟩) (by show w.heap.size≤Gb;omega) (.slice A6 g'.2.length c6)⟩
    case measure=>simp [intOf];omega
   ·have hal:=Mid.alloc wz (.cells #[.int .i64 0,.int .i64 0,.slice none 0 0] 26)
    have Z31:=Z3.mid hal oZr;have hcp1:=cell_keep hal hBz oZr hcp;have Zx:=Box.new wz #[.int .i64 0,.int .i64 0,.slice none 0 0] 26;have hown1:=hown.mid hal oZl;have hrp1:=hrp.mid hal oZl;have hsl:=hal.size;go_simp;refine hK.out _ _ (Or.inr ⟨⟨Z31.cell 0 rfl,Z31.cell 1 rfl,Z31.cell 2 rfl⟩,hcp1⟩) (fun _=>?_);clear hK K;try simp only [Act.put,zs1,zs2,zs3,zs4,zs5,zs6]
    replace Z2:=Z2.mid hal oZr;replace hm:=hm.trans hal;clear Z3 hS q0 q1 q2 hown hrp hcp hal;have hzb:wz.heap.size < (wz.alloc (.cells #[.int .i64 0,.int .i64 0,.slice none 0 0] 26)).heap.size:=Zx.1;generalize wz.alloc (.cells #[.int .i64 0,.int .i64 0,.slice none 0 0] 26)=wy at Z31 Zx hown1 hrp1 hcp1 Z2 hm hsl hzb ⊢;have hBy:Bp < wy.heap.size:=by omega
    refine rdZ 5 rfl (fun K hK=>?_)
    (go_simp;(with_reducible refine (HPP.out _ hown1.rg hrp1).mono ?_);rintro en w10 ⟨A6,c6,rfl,ho6,hm10⟩;have Z30:=Z31.mid hm10 oZr;have hcp0:=cell_keep hm10 hBy oZr hcp1;go_wp2_with fail)
    refine hK.out _ _ (Or.inr ⟨⟨Z30.cell 0 rfl,Z30.cell 1 rfl,Z30.cell 2 rfl⟩,hcp0⟩) (fun _=>?_);clear hK K;try simp only [Act.put,zs1,zs2,zs3,zs4,zs5,zs6]
    replace Z2:=Z2.mid hm10 oZr;replace Zx:=Zx.mid hm10 oZr;replace hm:=hm.trans hm10;have hs10:=hm10.size;have hS10:=And.intro (And.intro (Z30.cell 0 rfl) (And.intro (Z30.cell 1 rfl) (Z30.cell 2 rfl))) hcp0;clear Z31 hown1 HPP hrp1 hcp1;refine tkZ [] 6 rfl hS10 ?_;try simp only [Act.put,zs1,zs2,zs3,zs4,zs5,zs6]
    refine tkZ [] 7 rfl hS10 ?_;try simp only [Act.put,zs1,zs2,zs3,zs4,zs5,zs6]
    refine tkZ [] 8 rfl hS10 ?_;try simp only [Act.put,zs1,zs2,zs3,zs4,zs5,zs6]
    have zzf:=Zx.2.2;have zz0:=Zx.cell 0 rfl;have zz1:=Zx.cell 1 rfl;have zz2:=Zx.cell 2 rfl;have hst:=((Mid.setCell w10 (lo:=wz.heap.size) (hi:=wz.heap.size+1) (p:=⟨wz.heap.size,0,none⟩) (.int .i64 rr) (Nat.le_refl _) (Nat.lt_succ_self _)).trans (Mid.setCell _ (lo:=wz.heap.size) (hi:=wz.heap.size+1) (p:=⟨wz.heap.size,1,none⟩) (.int .i64 g'.1) (Nat.le_refl _) (Nat.lt_succ_self _))).trans (Mid.setCell _ (lo:=wz.heap.size) (hi:=wz.heap.size+1) (p:=⟨wz.heap.size,2,none⟩) (.slice A6 g'.2.length c6) (Nat.le_refl _) (Nat.lt_succ_self _));have Z32:=Z30.mid hst (Or.inl (by omega));have hcp2:=cell_keep hst (by omega) (Or.inl hBz) hcp0;refine rdZ 10 rfl (fun K hK=>?_);go_simp;refine hK.out _ _ (Or.inr ⟨⟨Z32.cell 0 rfl,Z32.cell 1 rfl,Z32.cell 2 rfl⟩,hcp2⟩) (fun _=>?_);clear hK K;try simp only [Act.put,zs1,zs2,zs3,zs4,zs5,zs6]
    refine rdZ 11 rfl (fun K hK=>?_);go_simp;refine hK.out _ _ (Or.inr ⟨⟨Z32.cell 0 rfl,Z32.cell 1 rfl,Z32.cell 2 rfl⟩,hcp2⟩) (fun _=>?_);clear hK K;try simp only [Act.put,zs1,zs2,zs3,zs4,zs5,zs6]
    refine wpAnyZ_done (by kernel_rfl) ?_ _;replace ho6:=ho6.mid hst (Or.inl (by omega));replace Z2:=Z2.mid hst (Or.inl (by omega));replace Zx:=((Zx.set 0 (.int .i64 rr) (by simp) rfl).set 1 (.int .i64 g'.1) (by simp) rfl).set 2 (.slice A6 g'.2.length c6) (by simp) rfl;simp only [List.set_cons_succ,List.set_cons_zero] at Zx;replace hm:=((hm.storeNew (p:=⟨wz.heap.size,0,none⟩) (by show w.heap.size≤wz.heap.size;omega) (.int .i64 rr)).storeNew (p:=⟨wz.heap.size,1,none⟩) (by show w.heap.size≤wz.heap.size;omega) (.int .i64 g'.1)).storeNew (p:=⟨wz.heap.size,2,none⟩) (by show w.heap.size≤wz.heap.size;omega) (.slice A6 g'.2.length c6);have hgz:Gb+1≤wz.heap.size:=by omega
    have Z3:=Z32;clear Z30 Z32 hS10 hst hcp0 hcp2 hm10 zz0 zz1 zz2 zzf;generalize ((w10.setCell ⟨wz.heap.size,0,none⟩ (.int .i64 rr)).setCell ⟨wz.heap.size,1,none⟩ (.int .i64 g'.1)).setCell ⟨wz.heap.size,2,none⟩ (.slice A6 g'.2.length c6)=w11 at Z2 Z3 Zx ho6 hm ⊢;generalize wz.heap.size=Gz at Zx hgz hzb ⊢;have hst:=((Mid.setCell w11 (lo:=Gb) (hi:=Gb+1) (p:=⟨Gb,0,none⟩) (.int .i64 rr) (Nat.le_refl _) (Nat.lt_succ_self _)).trans (Mid.setCell _ (lo:=Gb) (hi:=Gb+1) (p:=⟨Gb,1,none⟩) (.int .i64 g'.1) (Nat.le_refl _) (Nat.lt_succ_self _))).trans (Mid.setCell _ (lo:=Gb) (hi:=Gb+1) (p:=⟨Gb,2,none⟩) (.slice A6 g'.2.length c6) (Nat.le_refl _) (Nat.lt_succ_self _));have Y7:=((Z3.set 0 (.int .i64 rr) (by simp) rfl).set 1 (.int .i64 g'.1) (by simp) rfl).set 2 (.slice A6 g'.2.length c6) (by simp) rfl;simp only [List.set_cons_succ,List.set_cons_zero] at Y7;have x0:=Zx.cell 0 rfl;have x1:=Zx.cell 1 rfl;have x2:=Zx.cell 2 rfl;have q0:=Z3.cell 0 rfl;have q1:=Z3.cell 1 rfl;have q2:=Z3.cell 2 rfl;have qf:=Z3.2.2;go_wp2_with fail;go_roundw
    case rel=>exact ⟨k+1,A6,c6,_,g',hlt,by go_num,HG2,HF2,(ho6.wide (lo':=Gb+1) (by omega) (Nat.le_refl _) ho6.size).mid hst (Or.inl (Nat.le_refl _)),Z2.mid hst (Or.inl (by omega)),Y7,((hm.storeNew (p:=⟨Gb,0,none⟩) (by show w.heap.size≤Gb;omega) (.int .i64 rr)).storeNew (p:=⟨Gb,1,none⟩) (by show w.heap.size≤Gb;omega) (.int .i64 g'.1)).storeNew (p:=⟨Gb,2,none⟩) (by show w.heap.size≤Gb;omega) (.slice A6 g'.2.length c6)⟩
    case measure=>simp [intOf];omega
  ·obtain rfl:k=l.length:=by omega
   rw [List.take_length] at HGE;have hrs2:rs=gs:=by rw [HRS.out,← HGE.out]
   have hre2:res=ge:=by rw [HRE.out,← HGE.out]
   clear HRS HRE HGE HFL;subst hrs2;subst res;have z0:=Z2.cell 0 rfl;have z1:=Z2.cell 1 rfl;have z2:=Z2.cell 2 rfl;have q0:=Z3.cell 0 rfl;have q1:=Z3.cell 1 rfl;have q2:=Z3.cell 2 rfl;have zf:=Z2.2.2;have hcl:(w.heap.size == Gb)=false:=by simp;omega
   go_wp2_with fail;refine bodyPost_ret (v:=.tuple #[.agg #[.int .i64 rr,.int .i64 rs,.slice A2 ge.length c2],.bool true]) (by simp [results,Tryz.results243,go_sem,z0,z1,z2,zf,q0,q1,q2]) rfl ⟨A2,c2,rfl,?_,?_⟩
   ·refine OG.wide (OG.mid hown (a:=w.heap.size) (b:=w.heap.size+1) ?_ (Or.inl (by omega))) (by omega) (by have:=hown.size;simp;omega) (Nat.le_refl _)
    repeat (first | exact Mid.refl _ _ _ | refine Mid.stored ?_ _ (by simp;try omega) (by simp;try omega))
   ·repeat (first | exact hm | refine Mid.storeNew ?_ (by simp;try omega) _)
theorem spec_SubgroupOf (rank:Int) (A:Option Addr) (l:List (List Int)) (c:Nat) (w:World) (lo hi:Nat) (hr:RSS w lo hi A l) (hok:∀ xs∈l,OkI xs) (hl:l.length+sumL l≤1048576) (rr rs:Int) (res:List Ed) (b:Bool) (hres:SubIs rank l rr rs res b) :
  Calls Tryz.prog 226 #[.int .i64 rank,.slice A l.length c] w fun e w'=>∃ A1 c1,e=.returned (.tuple #[graV rr rs A1 res.length c1,.bool b])∧OG w' w.heap.size w'.heap.size A1 c1 res∧Mid 0 0 w w':=by
 have HOK:=Lib.hid hok;clear hok;have hm0:Mid 0 0 w (w.alloc (.cells #[.int .i64 0,.int .i64 0,.slice none 0 0] 26)):=Mid.alloc _ _;have b2:=Box.new w #[.int .i64 0,.int .i64 0,.slice none 0 0] 26;by_cases ha:AreW rank l
 ·obtain ⟨rfl,rfl,hrs,hre⟩:b=true∧rr=rank∧rs=(coreA rank (flowA l (1,[]))).1∧res=(coreA rank (flowA l (1,[]))).2:=by
   rcases hres with ⟨h1, -,h2⟩ | ⟨-,h, -⟩
   ·exact ⟨h1,h2⟩
   ·exact absurd ha h
  have hfg:=flow_gr ha;obtain ⟨rn,rfl⟩:∃ rn:Nat,rr=rn:=⟨rr.toNat,by have:=hfg.rank;omega⟩
  have hFI:FlIs rn l rn (flowA l (1,[])).1 (flowA l (1,[])).2 true:=.inl ⟨rfl,ha,rfl,rfl,rfl⟩;obtain ⟨⟨fs,ms⟩,hF⟩:∃ F,flowA l (1,[])=F:=⟨_,rfl⟩
  rw [hF] at hFI hrs hre hfg;obtain ⟨sn,rfl⟩:∃ sn:Nat,fs=sn:=⟨fs.toNat,by have:=hfg.size;simp only at this;omega⟩
  obtain ⟨q,qs,hQ, -⟩:=nat_gr (coreA_gr (g:=((sn:Int),ms)) hfg);rw [hQ] at hrs hre;subst hrs;subst res;have HFI:=Lib.hid hFI;have HFG:=Lib.hid hfg;have HQ:=Lib.hid hQ;clear hres ha hFI hfg hF hQ;go_enter Tryz.func226,Tryz.ntmps226
  go_wp2_with fail;generalize w.alloc (.cells #[.int .i64 0,.int .i64 0,.slice none 0 0] 26)=w1 at hm0 b2 ⊢;have hs1:w.heap.size < w1.heap.size:=b2.1;with_reducible refine (spec_FlowerOf rn A l c w1 _ _ (hr.mid hm0 oZl) HOK.out hl rn sn ms true HFI.out).mono ?_
  rintro en w4 ⟨A4,c4,rfl,ho4,hm4⟩;have hs4:=hm4.size;have ha4:=Mid.alloc w4 (.cells #[.int .i64 rn,.int .i64 sn,.slice A4 ms.length c4] 26);have Y4:=Box.new w4 #[.int .i64 rn,.int .i64 sn,.slice A4 ms.length c4] 26;replace b2:=b2.mid hm4 oZr;replace hm0:=hm0.trans hm4;replace b2:=b2.mid ha4 oZr;replace ho4:=ho4.mid ha4 oZl;replace hm0:=hm0.trans ha4;have hsa:=ha4.size;have y0:=Y4.cell 0 rfl;have y1:=Y4.cell 1 rfl;have y2:=Y4.cell 2 rfl;have hP:=spec_CoreGraph rn sn A4 ms c4 (w4.alloc (.cells #[.int .i64 rn,.int .i64 sn,.slice A4 ms.length c4] 26)) _ _ (OG.rg ho4) HFG.out;rw [HQ.out] at hP;dsimp only at hP;have HPP:=Lib.hid hP;clear hP;go_wp2_with fail;with_reducible refine HPP.out.mono ?_
  rintro en w6 ⟨A5,c5,rfl,ho5,hm6⟩;clear HPP;replace b2:=b2.mid hm6 oZr;replace hm0:=hm0.trans hm6;have z0:=b2.cell 0 rfl;have z1:=b2.cell 1 rfl;have z2:=b2.cell 2 rfl;have zf:=b2.2.2;go_wp2_with fail;refine bodyPost_ret (v:=.tuple #[.agg #[.int .i64 rn,.int .i64 q,.slice A5 qs.length c5],.bool true]) (by simp [results,Tryz.results226,go_sem,z0,z1,z2,zf]) rfl ⟨A5,c5,rfl,?_,?_⟩
  ·refine OG.wide (OG.mid ho5 (a:=w.heap.size) (b:=w.heap.size+1) ?_ (Or.inl (by omega))) (by omega) (by simp) (Nat.le_refl _)
   repeat (first | exact Mid.refl _ _ _ | refine Mid.stored ?_ _ (by simp;try omega) (by simp;try omega))
  ·repeat (first | exact hm0 | refine Mid.storeNew ?_ (by simp;try omega) _)
 ·obtain ⟨rfl,rfl,rfl,rfl⟩:b=false∧rr=0∧rs=0∧res=[]:=by
   rcases hres with ⟨-,h, -⟩ | ⟨h1, -,h2⟩
   ·exact absurd h ha
   ·exact ⟨h1,h2⟩
  have hFI:FlIs rank l 0 0 [] false:=.inr ⟨rfl,ha,rfl,rfl,rfl⟩;have HFI:=Lib.hid hFI;clear hres ha hFI;go_enter Tryz.func226,Tryz.ntmps226
  go_wp2_with fail;generalize w.alloc (.cells #[.int .i64 0,.int .i64 0,.slice none 0 0] 26)=w1 at hm0 b2 ⊢;have hs1:w.heap.size < w1.heap.size:=b2.1;with_reducible refine (spec_FlowerOf rank A l c w1 _ _ (hr.mid hm0 oZl) HOK.out hl 0 0 [] false HFI.out).mono ?_
  rintro en w4 ⟨A4,c4,rfl, -,hm4⟩;replace b2:=b2.mid hm4 oZr;replace hm0:=hm0.trans hm4;have hb23:w.heap.size < w4.heap.size:=b2.1;have z0:=b2.cell 0 rfl;have z1:=b2.cell 1 rfl;have z2:=b2.cell 2 rfl;have zf:=b2.2.2;go_wp2_with fail;refine bodyPost_ret (v:=.tuple #[.agg #[.int .i64 0,.int .i64 0,.slice none 0 0],.bool false]) (by simp [results,Tryz.results226,go_sem,z0,z1,z2,zf,hb23,World.cell?_alloc_lt]) rfl ⟨none,0,rfl,?_,?_⟩
  ·exact ⟨Nat.le_refl _,⟨rfl,.inl ⟨rfl,rfl⟩⟩,fun g hg=>by simp [Value.ownBlock] at hg⟩
  ·repeat (first | exact hm0 | refine Mid.trans ?_ (Mid.alloc _ _) | refine Mid.storeNew ?_ (by simp;try omega) _)
end
section
open Go.RowKit
theorem DrG.fold {r n:Nat} {es:List Ed} (h:IsGr r n es):DrG r (foldA 40 ((n:Int),es)).1 (foldA 40 ((n:Int),es)).2:=DrG.of_gr (foldA_gr 40 (g:=((n:Int),es)) h)
theorem l5Graph_any (p:Nat) (A:Option Addr) (bs:List Int) (c:Nat) (w:World) (hb:OkB bs) (hl:bs.length≤1048576) (h:Cur w p A bs c) :
  Calls Tryz.prog 140 #[.pointer (some ⟨p,0,none⟩)] w fun e w'=>∃ r s A' c' es,e=.returned (graV r s A' (List.length es) c')∧DrG r s es∧OG w' w.heap.size w'.heap.size A' c' es∧Cur w' p A bs c∧Mid p (p+1) w w':=by
 have hpw:=h.lt;have hal:=Mid.alloc w (.cells #[.int .i64 0,.int .i64 0,.slice none 0 0] 26);have B2:=Box.new w #[.int .i64 0,.int .i64 0,.slice none 0 0] 26;have h0:=h.mid hal (Or.inr rfl);go_enter Tryz.func140,Tryz.ntmps140
 go_wp2_with fail;generalize (w.alloc (.cells #[.int .i64 0,.int .i64 0,.slice none 0 0] 26))=w1 at B2 h0 hal ⊢;have hs1:w.heap.size < w1.heap.size:=B2.1;with_reducible refine (l1OnceI 4 (by decide) (by decide) p A bs c _ hb hl h0).mono ?_
 rintro e w2 ⟨q,rfl,h2,m2⟩;have hs2:=m2.size;replace B2:=B2.mid m2 (Or.inr (by omega));replace hal:=hal.zero.trans m2;clear h0 m2;cases q with
 | true =>
  go_wp2_with fail;with_reducible refine (l4Any_any p A bs c _ hb hl h2).mono ?_
  rintro e w3 ⟨r,s,Ae,ce,es,rfl,hg,hO,hC,m3⟩;have hs3:=m3.size;replace B2:=B2.mid m3 (Or.inr (by omega));have hM:=hal.trans m3;have HG:=Lib.hid hg;obtain ⟨L,hL⟩:∃ l,es.length=l:=⟨_,rfl⟩
  have HL:=Lib.hid hL;rw [hL];clear hg hL hal h2 m3;have q0:=B2.cell 0 rfl;have q1:=B2.cell 1 rfl;have q2:=B2.cell 2 rfl;have qf:=B2.2.2;have ql:=B2.1;have hst:=((Mid.setCell w3 (lo:=w.heap.size) (hi:=w.heap.size+1) (p:=⟨w.heap.size,0,none⟩) (.int .i64 r) (Nat.le_refl _) (Nat.lt_succ_self _)).trans (Mid.setCell _ (lo:=w.heap.size) (hi:=w.heap.size+1) (p:=⟨w.heap.size,1,none⟩) (.int .i64 s) (Nat.le_refl _) (Nat.lt_succ_self _))).trans (Mid.setCell _ (lo:=w.heap.size) (hi:=w.heap.size+1) (p:=⟨w.heap.size,2,none⟩) (.slice Ae L ce) (Nat.le_refl _) (Nat.lt_succ_self _));have O9:=Lib.hid ((hO.mid hst (Or.inl (by omega))).wide (lo':=w.heap.size) (by omega) (Nat.le_trans hO.size hst.size) (Nat.le_refl _));have C9:=Lib.hid (hC.mid hst (Or.inl hpw));have M9:=Lib.hid (hM.transNew hst (Or.inl (Nat.le_refl _)));clear hst hO hC hM;go_wp2_with fail;refine bodyPost_ret (v:=.agg #[.int .i64 r,.int .i64 s,.slice Ae L ce]) (by simp [results,Tryz.results140,go_sem,q0,q1,q2,qf]) rfl ⟨r,s,Ae,ce,es,?_,HG.out,O9.out,C9.out,M9.out⟩;rw [HL.out]
 | false =>
  go_wp2_with fail;with_reducible refine (l4Graph_any p A bs c _ hb hl h2).mono ?_
  rintro e w3 ⟨r,n,Ae,ce,es,rfl,⟨hg,hn5,he8⟩,hO,hC,m3⟩;have hs3:=m3.size;replace B2:=B2.mid m3 (Or.inr (by omega));have hM:=hal.trans m3;have HG:=Lib.hid hg;clear hal h2 m3;have hF:=spec_FoldAll r n Ae es ce w3 _ _ hO.rg HG.out;have hD:=DrG.fold HG.out;obtain ⟨fs,hfs⟩:∃ x,(foldA 40 ((n:Int),es)).1=x:=⟨_,rfl⟩
  obtain ⟨fe,hfe⟩:∃ x,(foldA 40 ((n:Int),es)).2=x:=⟨_,rfl⟩
  rw [hfs,hfe] at hF hD;obtain ⟨L,hL⟩:∃ l,fe.length=l:=⟨_,rfl⟩
  rw [hL] at hF;have HL:=Lib.hid hL;have HD:=Lib.hid hD;have HF:Hid (Calls Tryz.prog 167 #[.agg #[.int .i64 r,.int .i64 n,.slice Ae es.length ce]] w3 fun e w'=>∃ A1 c1 Al nl cl,e=.returned (.tuple #[.agg #[.int .i64 r,.int .i64 fs,.slice A1 L c1],.slice Al nl cl])∧OG w' w3.heap.size w'.heap.size A1 c1 fe∧Mid 0 0 w3 w'):=Lib.hid hF;clear hF hD hfs hfe hg hn5 he8 hL;go_wp2_with fail;with_reducible refine (HF.out).mono ?_
  rintro e w4 ⟨A1,c1,Al,nl,cl,rfl,hO4,m4⟩;have hs4:=m4.size;replace B2:=B2.mid m4 oZr;replace hC:=hC.mid m4 (Or.inr rfl);replace hM:=hM.trans m4.zero;have al5:=Mid.alloc w4 (.cells #[.int .i64 r,.int .i64 fs,.slice A1 L c1] 26);have G5:=Box.new w4 #[.int .i64 r,.int .i64 fs,.slice A1 L c1] 26;replace B2:=B2.mid al5 oZr;replace hC:=hC.mid al5 (Or.inr rfl);replace hM:=hM.trans al5.zero;have hO5:=(hO4.mid al5 oZl)
  have hs5:=al5.size;obtain ⟨w5,hw5⟩:∃ x,w4.alloc (.cells #[.int .i64 r,.int .i64 fs,.slice A1 L c1] 26)=x:=⟨_,rfl⟩
  rw [hw5] at B2 hC hM hO5 hs5 G5;clear hO hO4 m4 al5 HF;have g0:=G5.cell 0 rfl;have g1:=G5.cell 1 rfl;have g2:=G5.cell 2 rfl;have gl:=G5.1;have q0:=B2.cell 0 rfl;have q1:=B2.cell 1 rfl;have q2:=B2.cell 2 rfl;have qf:=B2.2.2;have ql:=B2.1;have hst:=((Mid.setCell w5 (lo:=w.heap.size) (hi:=w.heap.size+1) (p:=⟨w.heap.size,0,none⟩) (.int .i64 r) (Nat.le_refl _) (Nat.lt_succ_self _)).trans (Mid.setCell _ (lo:=w.heap.size) (hi:=w.heap.size+1) (p:=⟨w.heap.size,1,none⟩) (.int .i64 fs) (Nat.le_refl _) (Nat.lt_succ_self _))).trans (Mid.setCell _ (lo:=w.heap.size) (hi:=w.heap.size+1) (p:=⟨w.heap.size,2,none⟩) (.slice A1 L c1) (Nat.le_refl _) (Nat.lt_succ_self _));have O9:=Lib.hid ((hO5.mid hst (Or.inl (by omega))).wide (lo':=w.heap.size) (by omega) (Nat.le_trans hO5.size hst.size) (Nat.le_refl _));have C9:=Lib.hid (hC.mid hst (Or.inl hpw));have M9:=Lib.hid (hM.transNew hst (Or.inl (Nat.le_refl _)));clear hst hO5 hC hM;go_wp2_with fail;refine bodyPost_ret (v:=.agg #[.int .i64 r,.int .i64 fs,.slice A1 L c1]) (by simp [results,Tryz.results140,go_sem,q0,q1,q2,qf]) rfl ⟨r,fs,A1,c1,fe,?_,HD.out,O9.out,C9.out,M9.out⟩;rw [HL.out]
end
section
open Go.RowKit
theorem DrG.sub {rank:Int} {l:List (List Int)} {rr rs:Int} {res:List Ed} {b:Bool} (h:SubIs rank l rr rs res b):DrG rr rs res:=by
 rcases h with ⟨-,h,rfl,rfl,rfl⟩ | ⟨-, -,rfl,rfl,rfl⟩
 ·exact DrG.of_gr (coreA_gr (flow_gr h))
 ·exact DrG.zero
theorem l9Sub_any (p:Nat) (A:Option Addr) (bs:List Int) (c:Nat) (w:World) (hb:OkB bs) (hl:bs.length≤1048576) (h:Cur w p A bs c) :
  Calls Tryz.prog 213 #[.pointer (some ⟨p,0,none⟩)] w fun e w'=>∃ r s A' c' es,e=.returned (graV r s A' (List.length es) c')∧DrG r s es∧OG w' w.heap.size w'.heap.size A' c' es∧Cur w' p A bs c∧Mid p (p+1) w w':=by
 have hpw:=h.lt;have hal:=Mid.alloc w (.cells #[.int .i64 0,.int .i64 0,.slice none 0 0] 26);have B2:=Box.new w #[.int .i64 0,.int .i64 0,.slice none 0 0] 26;have h0:=h.mid hal (Or.inr rfl);go_enter Tryz.func213,Tryz.ntmps213
 have hal2:=Mid.alloc (w.alloc (.cells #[.int .i64 0,.int .i64 0,.slice none 0 0] 26)) (.cells #[.int .i64 1,.int .i64 2,.int .i64 2,.int .i64 2,.int .i64 2,.int .i64 3] 3);have hbx:=Box.new (w.alloc (.cells #[.int .i64 0,.int .i64 0,.slice none 0 0] 26)) #[.int .i64 1,.int .i64 2,.int .i64 2,.int .i64 2,.int .i64 2,.int .i64 3] 3;rw [World.size_alloc] at hbx;replace B2:=B2.mid hal2 oZr;replace h0:=h0.mid hal2 (Or.inr rfl);have hm0:=hal.trans hal2;go_wp2_with fail;generalize (w.alloc (.cells #[.int .i64 0,.int .i64 0,.slice none 0 0] 26)).alloc (.cells #[.int .i64 1,.int .i64 2,.int .i64 2,.int .i64 2,.int .i64 2,.int .i64 3] 3)=w1 at hbx B2 h0 hm0 ⊢;have hs1:w.heap.size+1 < w1.heap.size:=hbx.1;have hri:RI w1 (w.heap.size+1) (w.heap.size+1+1) (some ⟨w.heap.size+1,0,none⟩) [1,2,2,2,2,3] :=
  ⟨hs1,fun _=>⟨w.heap.size+1,0,rfl,Nat.le_refl _,Nat.lt_succ_self _,fun j u hu=>by rw [Nat.zero_add];exact hbx.2.1 j u (by simpa [ints] using hu)⟩⟩
 with_reducible refine (l1PickIntN (some ⟨w.heap.size+1,0,none⟩) [1,2,2,2,2,3] 6 6 rfl (by decide) (by decide) p A bs c _ (w.heap.size+1) _ hri (Or.inl (by omega)) hb hl h0).mono ?_
 rintro e w2 ⟨r,rfl,hrm,h2,m2⟩;have hr:1≤r∧r≤3:=by simp at hrm;omega
 replace B2:=B2.mid m2 (Or.inr (by omega));have hm2:=hm0.zero.trans m2;have hs2:=m2.size;clear hri hbx hrm h0 hm0 hal hal2 m2;go_wp2_with fail;with_reducible refine (l6Words_any r hr.1 hr.2 p A bs c _ hb hl h2).mono ?_
 rintro e w3 ⟨Al,cl,rows,rfl,⟨hl3,hw⟩,hL,h3,m3⟩;have hs3:=m3.size;replace B2:=B2.mid m3 (Or.inr (by omega));have hm3:=hm2.trans m3;obtain ⟨l,hrl⟩:∃ l,rowsD rows=l:=⟨_,rfl⟩
 have hll:rows.length=l.length:=by rw [← hrl,rowsD_len]
 have hoss:=hL.oss hrl;rw [hrl] at hw hl3;have hsu:=hw.sum;obtain ⟨rr,rs,res,b,hres⟩:=SubIs_ex r l;have hF:=spec_SubgroupOf r Al l cl w3 _ _ hoss.rss hw.ok.2 (by omega) rr rs res b hres;have HD:=Lib.hid (DrG.sub hres);obtain ⟨L,hLe⟩:∃ x,res.length=x:=⟨_,rfl⟩
 rw [hLe] at hF;have HL:=Lib.hid hLe;have HF:Hid (Calls Tryz.prog 226 #[.int .i64 r,.slice Al l.length cl] w3 fun e w'=>∃ A1 c1,e=.returned (.tuple #[.agg #[.int .i64 rr,.int .i64 rs,.slice A1 L c1],.bool b])∧OG w' w3.heap.size w'.heap.size A1 c1 res∧Mid 0 0 w3 w'):=Lib.hid hF;rw [hll];clear hF hres hLe hsu hoss hw hl3 hll hrl hL h2 hm2 m3;go_wp2_with fail;with_reducible refine (HF.out).mono ?_
 rintro e w4 ⟨A1,c1,rfl,hO4,m4⟩;have hs4:=m4.size;replace B2:=B2.mid m4 oZr;have hC:=h3.mid m4 (Or.inr rfl);have hM:=hm3.trans m4.zero;have al5:=Mid.alloc w4 (.cells #[.int .i64 rr,.int .i64 rs,.slice A1 L c1] 26);have G5:=Box.new w4 #[.int .i64 rr,.int .i64 rs,.slice A1 L c1] 26;replace B2:=B2.mid al5 oZr;replace hC:=hC.mid al5 (Or.inr rfl);replace hM:=hM.trans al5.zero;have hO5:=(hO4.mid al5 oZl)
 have hs5:=al5.size;obtain ⟨w5,hw5⟩:∃ x,w4.alloc (.cells #[.int .i64 rr,.int .i64 rs,.slice A1 L c1] 26)=x:=⟨_,rfl⟩
 rw [hw5] at B2 hC hM hO5 hs5 G5;clear h3 hm3 hO4 m4 al5 HF;have g0:=G5.cell 0 rfl;have g1:=G5.cell 1 rfl;have g2:=G5.cell 2 rfl;have gl:=G5.1;have q0:=B2.cell 0 rfl;have q1:=B2.cell 1 rfl;have q2:=B2.cell 2 rfl;have qf:=B2.2.2;have ql:=B2.1;have hst:=((Mid.setCell w5 (lo:=w.heap.size) (hi:=w.heap.size+1) (p:=⟨w.heap.size,0,none⟩) (.int .i64 rr) (Nat.le_refl _) (Nat.lt_succ_self _)).trans (Mid.setCell _ (lo:=w.heap.size) (hi:=w.heap.size+1) (p:=⟨w.heap.size,1,none⟩) (.int .i64 rs) (Nat.le_refl _) (Nat.lt_succ_self _))).trans (Mid.setCell _ (lo:=w.heap.size) (hi:=w.heap.size+1) (p:=⟨w.heap.size,2,none⟩) (.slice A1 L c1) (Nat.le_refl _) (Nat.lt_succ_self _));have O9:=Lib.hid ((hO5.mid hst (Or.inl (by omega))).wide (lo':=w.heap.size) (by omega) (Nat.le_trans hO5.size hst.size) (Nat.le_refl _));have C9:=Lib.hid (hC.mid hst (Or.inl hpw));have M9:=Lib.hid (hM.transNew hst (Or.inl (Nat.le_refl _)));clear hst hO5 hC hM;go_wp2_with fail;refine bodyPost_ret (v:=.agg #[.int .i64 rr,.int .i64 rs,.slice A1 L c1]) (by simp [results,Tryz.results213,go_sem,q0,q1,q2,qf]) rfl ⟨rr,rs,A1,c1,res,?_,HD.out,O9.out,C9.out,M9.out⟩;rw [HL.out]
theorem l9Any_any (p:Nat) (A:Option Addr) (bs:List Int) (c:Nat) (w:World) (hb:OkB bs) (hl:bs.length≤1048576) (h:Cur w p A bs c) :
  Calls Tryz.prog 180 #[.pointer (some ⟨p,0,none⟩)] w fun e w'=>∃ r s A' c' es,e=.returned (graV r s A' (List.length es) c')∧DrG r s es∧OG w' w.heap.size w'.heap.size A' c' es∧Cur w' p A bs c∧Mid p (p+1) w w':=by
 have hpw:=h.lt;have hal:=Mid.alloc w (.cells #[.int .i64 0,.int .i64 0,.slice none 0 0] 26);have B2:=Box.new w #[.int .i64 0,.int .i64 0,.slice none 0 0] 26;have h0:=h.mid hal (Or.inr rfl);go_enter Tryz.func180,Tryz.ntmps180
 go_wp2_with fail;generalize (w.alloc (.cells #[.int .i64 0,.int .i64 0,.slice none 0 0] 26))=w1 at B2 h0 hal ⊢;have hs1:w.heap.size < w1.heap.size:=B2.1;with_reducible refine (l1OnceI 8 (by decide) (by decide) p A bs c _ hb hl h0).mono ?_
 rintro e w2 ⟨q,rfl,h2,m2⟩;have hs2:=m2.size;replace B2:=B2.mid m2 (Or.inr (by omega));replace hal:=hal.zero.trans m2;clear h0 m2;cases q
 ·go_wp2_with fail
  with_reducible refine (l9Sub_any p A bs c _ hb hl h2).mono ?_
  rintro e w3 ⟨r,s,Ae,ce,es,rfl,hg,hO,hC,m3⟩;have hs3:=m3.size;replace B2:=B2.mid m3 (Or.inr (by omega));have hM:=hal.trans m3;have HG:=Lib.hid hg;obtain ⟨L,hL⟩:∃ l,es.length=l:=⟨_,rfl⟩
  have HL:=Lib.hid hL;rw [hL];clear hg hL hal h2 m3;have q0:=B2.cell 0 rfl;have q1:=B2.cell 1 rfl;have q2:=B2.cell 2 rfl;have qf:=B2.2.2;have ql:=B2.1;have hst:=((Mid.setCell w3 (lo:=w.heap.size) (hi:=w.heap.size+1) (p:=⟨w.heap.size,0,none⟩) (.int .i64 r) (Nat.le_refl _) (Nat.lt_succ_self _)).trans (Mid.setCell _ (lo:=w.heap.size) (hi:=w.heap.size+1) (p:=⟨w.heap.size,1,none⟩) (.int .i64 s) (Nat.le_refl _) (Nat.lt_succ_self _))).trans (Mid.setCell _ (lo:=w.heap.size) (hi:=w.heap.size+1) (p:=⟨w.heap.size,2,none⟩) (.slice Ae L ce) (Nat.le_refl _) (Nat.lt_succ_self _));have O9:=Lib.hid ((hO.mid hst (Or.inl (by omega))).wide (lo':=w.heap.size) (by omega) (Nat.le_trans hO.size hst.size) (Nat.le_refl _));have C9:=Lib.hid (hC.mid hst (Or.inl hpw));have M9:=Lib.hid (hM.transNew hst (Or.inl (Nat.le_refl _)));clear hst hO hC hM;go_wp2_with fail;refine bodyPost_ret (v:=.agg #[.int .i64 r,.int .i64 s,.slice Ae L ce]) (by simp [results,Tryz.results180,go_sem,q0,q1,q2,qf]) rfl ⟨r,s,Ae,ce,es,?_,HG.out,O9.out,C9.out,M9.out⟩;rw [HL.out]
 ·go_wp2_with fail
  with_reducible refine (l4Any_any p A bs c _ hb hl h2).mono ?_
  rintro e w3 ⟨r,s,Ae,ce,es,rfl,hg,hO,hC,m3⟩;have hs3:=m3.size;replace B2:=B2.mid m3 (Or.inr (by omega));have hM:=hal.trans m3;have HG:=Lib.hid hg;obtain ⟨L,hL⟩:∃ l,es.length=l:=⟨_,rfl⟩
  have HL:=Lib.hid hL;rw [hL];clear hg hL hal h2 m3;have q0:=B2.cell 0 rfl;have q1:=B2.cell 1 rfl;have q2:=B2.cell 2 rfl;have qf:=B2.2.2;have ql:=B2.1;have hst:=((Mid.setCell w3 (lo:=w.heap.size) (hi:=w.heap.size+1) (p:=⟨w.heap.size,0,none⟩) (.int .i64 r) (Nat.le_refl _) (Nat.lt_succ_self _)).trans (Mid.setCell _ (lo:=w.heap.size) (hi:=w.heap.size+1) (p:=⟨w.heap.size,1,none⟩) (.int .i64 s) (Nat.le_refl _) (Nat.lt_succ_self _))).trans (Mid.setCell _ (lo:=w.heap.size) (hi:=w.heap.size+1) (p:=⟨w.heap.size,2,none⟩) (.slice Ae L ce) (Nat.le_refl _) (Nat.lt_succ_self _));have O9:=Lib.hid ((hO.mid hst (Or.inl (by omega))).wide (lo':=w.heap.size) (by omega) (Nat.le_trans hO.size hst.size) (Nat.le_refl _));have C9:=Lib.hid (hC.mid hst (Or.inl hpw));have M9:=Lib.hid (hM.transNew hst (Or.inl (Nat.le_refl _)));clear hst hO hC hM;go_wp2_with fail;refine bodyPost_ret (v:=.agg #[.int .i64 r,.int .i64 s,.slice Ae L ce]) (by simp [results,Tryz.results180,go_sem,q0,q1,q2,qf]) rfl ⟨r,s,Ae,ce,es,?_,HG.out,O9.out,C9.out,M9.out⟩;rw [HL.out]
end
section
open Go.RowKit
end
section
open Go.RowKit
end
end Go.Proofs.YthampgpcajmopaaGreat
