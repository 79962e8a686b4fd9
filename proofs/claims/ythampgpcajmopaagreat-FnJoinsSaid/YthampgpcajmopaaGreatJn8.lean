/- Contracts and lemmas of this seat, many texts in one: see the words ahead of each. No condition beyond those typed in each lemma. -/
import Derived.Test.YthampgpcajmopaaGreatJn7
import Derived.Test.YthampgpcajmopaaGreatJn3
import Derived.Test.YthampgpcajmopaaGreatJn6
import Derived.Test.YthampgpcajmopaaGreatJn5
import Derived.Test.YthampgpcajmopaaGreatJn1
import Derived.Test.YthampgpcajmopaaGreatJn4
import Derived.Deep.RegionHeld3
import Derived.Test.YthampgpcajmopaaGreatJn2

namespace Go.Proofs.YthampgpcajmopaaGreat
set_option linter.unusedVariables false
set_option linter.unusedSimpArgs false
set_option maxHeartbeats 40000000
set_option maxRecDepth 100000
section
open Go.RowKit
end
section
open Go.RowKit
theorem spec_GlueAtBase (r s:Int) (A:Option Addr) (es:List Ed) (c:Nat) (r' s':Int) (A':Option Addr) (es':List Ed) (c':Nat) (w:World) (lo hi lo' hi':Nat)
  (hr:RG w lo hi A es) (hr':RG w lo' hi' A' es') (hl:es.length≤1048576) (hl':es'.length≤1048576) (rr rs:Int) (res:List Ed) (b:Bool) (hres:GlueAtBaseIs r s es r' s' es' rr rs res b) :
  Calls Tryz.prog 12 #[graV r s A es.length c,graV r' s' A' es'.length c'] w fun e w'=>∃ A1 c1,e=.returned (.tuple #[graV rr rs A1 res.length c1,.bool b])∧OG w' w.heap.size w'.heap.size A1 c1 res∧Mid 0 0 w w':=by
 have HR:=Lib.hid hres;clear hres;obtain ⟨b1,hb1⟩:=bool_of (IsGr r s es);obtain ⟨b2,hb2⟩:=bool_of (IsGr r' s' es');have H1:=Lib.hid hb1;have H2:=Lib.hid hb2;clear hb1 hb2;have hm0:Mid 0 0 w (((w.alloc (.cells #[.int .i64 r,.int .i64 s,.slice A es.length c] 26)).alloc (.cells #[.int .i64 r',.int .i64 s',.slice A' es'.length c'] 26)).alloc (.cells #[.int .i64 0,.int .i64 0,.slice none 0 0] 26)):=((Mid.alloc _ _).trans (Mid.alloc _ _)).trans (Mid.alloc _ _);have B0:=((Box.new w #[.int .i64 r,.int .i64 s,.slice A es.length c] 26).mid (Mid.alloc _ (.cells #[.int .i64 r',.int .i64 s',.slice A' es'.length c'] 26)) oZr).mid (Mid.alloc _ (.cells #[.int .i64 0,.int .i64 0,.slice none 0 0] 26)) oZr;have B1:=(Box.new (w.alloc (.cells #[.int .i64 r,.int .i64 s,.slice A es.length c] 26)) #[.int .i64 r',.int .i64 s',.slice A' es'.length c'] 26).mid (Mid.alloc _ (.cells #[.int .i64 0,.int .i64 0,.slice none 0 0] 26)) oZr;have B2:=Box.new ((w.alloc (.cells #[.int .i64 r,.int .i64 s,.slice A es.length c] 26)).alloc (.cells #[.int .i64 r',.int .i64 s',.slice A' es'.length c'] 26)) #[.int .i64 0,.int .i64 0,.slice none 0 0] 26;simp only [World.size_alloc] at B1 B2;go_enter Tryz.func12,Tryz.ntmps12
 go_wp2_with fail;generalize hw1:(((w.alloc (.cells #[.int .i64 r,.int .i64 s,.slice A es.length c] 26)).alloc (.cells #[.int .i64 r',.int .i64 s',.slice A' es'.length c'] 26)).alloc (.cells #[.int .i64 0,.int .i64 0,.slice none 0 0] 26))=w1 at hm0 B0 B1 B2 ⊢;have hs1:w1.heap.size=w.heap.size+1+1+1:=by rw [← hw1];simp
 have HS:=Lib.hid hs1;clear hw1 hs1;with_reducible refine (spec_IsGraph r s A es c _ _ _ (hr.mid hm0 oZl).rv hl b1 H1.out).mono ?_
 rintro en w2 ⟨rfl,hm2⟩;have C0:=B0.mid hm2 oZr;have C1:=B1.mid hm2 oZr;have C2:=B2.mid hm2 oZr;have p0:=C0.cell 0 rfl;have p1:=C0.cell 1 rfl;have p2:=C0.cell 2 rfl;have q0:=C1.cell 0 rfl;have q1:=C1.cell 1 rfl;have q2:=C1.cell 2 rfl;have z0:=C2.cell 0 rfl;have z1:=C2.cell 1 rfl;have z2:=C2.cell 2 rfl;have zf:=C2.2.2;have hm:=hm0.trans hm2;cases b1 with
 | false =>
  have hno:¬ GlueOk r s es r' s' es':=fun h=>by have:=H1.out.2 h.g1;cases this
  obtain ⟨rfl,rfl,rfl,rfl⟩:=HR.out.no hno;go_wp2_with fail;refine bodyPost_ret (v:=.tuple #[.agg #[.int .i64 0,.int .i64 0,.slice none 0 0],.bool false]) (by simp [results,Tryz.results12,go_sem,z0,z1,z2,zf]) rfl ⟨none,0,rfl,OG.nil,?_⟩;repeat (first | exact hm | refine Mid.storeNew ?_ (by simp;try omega) _)
 | true =>
 have G1h:=Lib.hid (H1.out.1 rfl);clear B0 B1 B2;go_wp2_with fail;with_reducible refine (spec_IsGraph r' s' A' es' c' _ _ _ (hr'.mid hm oZl).rv hl' b2 H2.out).mono ?_
 rintro en w3 ⟨rfl,hm3⟩;have D0:=C0.mid hm3 oZr;have D1:=C1.mid hm3 oZr;have D2:=C2.mid hm3 oZr;clear p0 p1 p2 q0 q1 q2 z0 z1 z2 zf C0 C1 C2;have p0:=D0.cell 0 rfl;have p1:=D0.cell 1 rfl;have p2:=D0.cell 2 rfl;have q0:=D1.cell 0 rfl;have q1:=D1.cell 1 rfl;have q2:=D1.cell 2 rfl;have z0:=D2.cell 0 rfl;have z1:=D2.cell 1 rfl;have z2:=D2.cell 2 rfl;have zf:=D2.2.2;have hmm:=hm.trans hm3;have hw33:w.heap.size+3≤w3.heap.size:=by have h1:=HS.out;have h2:=hm2.size;have h3:=hm3.size;omega
 clear hm0 hm2 hm hm3;cases b2 with
 | false =>
  have hno:¬ GlueOk r s es r' s' es':=fun h=>by have:=H2.out.2 h.g2;cases this
  obtain ⟨rfl,rfl,rfl,rfl⟩:=HR.out.no hno;go_wp2_with fail;refine bodyPost_ret (v:=.tuple #[.agg #[.int .i64 0,.int .i64 0,.slice none 0 0],.bool false]) (by simp [results,Tryz.results12,go_sem,z0,z1,z2,zf]) rfl ⟨none,0,rfl,OG.nil,?_⟩;repeat (first | exact hmm | refine Mid.storeNew ?_ (by simp;try omega) _)
 | true =>
 have G2h:=Lib.hid (H2.out.1 rfl);clear H1 H2;have hsz:=G1h.out.size;have hsz':=G2h.out.size;by_cases hok:GlueOk r s es r' s' es'
 ·obtain ⟨rfl,hrr,hrs,hre⟩:=HR.out.yes hok
  have h1a:(r != r')=false:=by simpa using hok.rk
  have h2a:decide (40 < s+s' - 1)=false:=by have:=hok.sz;simp;omega
  have h3a:decide (120 < (es.length:Int)+(es'.length:Int))=false:=by have:=hok.ln;simp;omega
  have HRR:=Lib.hid hrr;have HRS:=Lib.hid hrs;have HRE:=Lib.hid hre;have hln:=hok.ln;have hasc:=Lib.hid hok.g1.asc;clear hrr hrs hre hok HR;go_wp2_with fail;with_reducible refine (spec_l4Copy r s A es c _ _ _ (hr.mid hmm oZl) hl).mono ?_
  rintro en w4 ⟨A1,c1,rfl,ho4,hm4⟩;have E0:=D0.mid hm4 oZr;have E1:=D1.mid hm4 oZr;have E2:=D2.mid hm4 oZr;have hal:=Mid.alloc w4 (.cells #[.int .i64 r,.int .i64 (s+s' - 1),.slice A1 es.length c1] 26);have Y0:=E0.mid hal oZr;have Y1:=E1.mid hal oZr;have Y2:=E2.mid hal oZr;have Y3:=Box.new w4 #[.int .i64 r,.int .i64 (s+s' - 1),.slice A1 es.length c1] 26;have hzs:=hm4.size;have hmy:=(hmm.trans hm4).trans hal;have ho5:=ho4.mid hal oZl;clear p0 p1 p2 q0 q1 q2 z0 z1 z2 zf D0 D1 D2;have p1:=E0.cell 1 rfl;have q1:=E1.cell 1 rfl;have q2:=E1.cell 2 rfl;have hz0:=E0.1;have hz1:=E1.1;have hz2:=E2.1;clear E0 E1 E2;go_wp2_with fail;clear p1 q1 q2;generalize hw5:w4.alloc (.cells #[.int .i64 r,.int .i64 (s+s' - 1),.slice A1 es.length c1] 26)=w5 at Y0 Y1 Y2 Y3 hmy ho5 ⊢;have hs5:w4.heap.size+1≤w5.heap.size:=by rw [← hw5];simp
  clear hw5 hal ho4;generalize hG:w4.heap.size=G at Y3 hs5 hz2 hzs ho5 ⊢;clear hG;have hGw:w.heap.size+2 < G:=by omega
  have hw3:w.heap.size≤w3.heap.size:=hmm.size;go_loopw [7,8] (fun i _ wr=>∃ (k:Nat) (A2:Option Addr) (c2 lo2 hi2:Nat) (xs:List Ed),k≤es'.length∧i=.int .i64 k∧Hid (xs=putAll es (glueE s (es'.take k))) ∧
   OG wr lo2 hi2 A2 c2 xs∧(hi2≤G ∨ G+1≤lo2)∧w3.heap.size≤lo2 ∧
   Box wr w.heap.size [.int .i64 r,.int .i64 s,.slice A es.length c]∧Box wr (w.heap.size+1) [.int .i64 r',.int .i64 s',.slice A' es'.length c']∧Box wr (w.heap.size+1+1) [.int .i64 0,.int .i64 0,.slice none 0 0] ∧
   Box wr G [.int .i64 r,.int .i64 (s+s' - 1),.slice A2 xs.length c2]∧Mid 0 0 w wr) (fun i _ _=>es'.length - (intOf i).toNat)
  case atStart=>exact ⟨0,A1,c1,_,_,es,Nat.zero_le _,rfl,Lib.hid rfl,ho5,.inl (Nat.le_refl _),Nat.le_refl _,Y0,Y1,Y2,Y3,hmy⟩
  case round =>
   obtain ⟨k,A2,c2,lo2,hi2,xs,hk,rfl,HX,hown,hdis,hlo2,Z0,Z1,Z2,Z3,hmr⟩:=hrel;have hxl:xs.length≤240:=by
    have h1:=putAll_len es (glueE s (es'.take k));rw [← HX.out] at h1;simp [glueE] at h1;omega
   have p1:=Z0.cell 1 rfl;have q2:=Z1.cell 2 rfl;have z2:=Z3.cell 2 rfl;have zf:=Z3.2.2;by_cases hlt:k < es'.length
   ·obtain ⟨B,off,e,rfl, -,hbh,he,e0,e1,e2⟩:=(hr'.mid hmr oZl).ed hlt
    have hin:InG _ s' e:=G2h.out.all e (List.mem_of_getElem? he);obtain ⟨i1,i2,i3,i4,i5,i6⟩:=hin;have HE:=Lib.hid he;have hk0:(0:Int)≤(k:Int):=by omega
    have hkn:(k:Int) < (es'.length:Int):=by omega
    have hGr:G < wr.heap.size:=Z3.1;have h0r:w.heap.size < wr.heap.size:=Z0.1;obtain ⟨x,hx⟩:∃ x,glueV s e.a=x:=⟨_,rfl⟩
    obtain ⟨y,hy⟩:∃ y,glueV s e.b=y:=⟨_,rfl⟩
    have hal:=Mid.alloc wr (.cells #[.int .i64 x,.int .i64 e.l,.int .i64 y] 68);have hP:=fun W lo hi h=>spec_l4Put A2 xs c2 ⟨x,e.l,y⟩ W lo hi h (by omega);have hF:glueF s e=⟨x,e.l,y⟩:=by simp [glueF,hx,hy]
    have HF:=Lib.hid hF;clear he hF;have hx':(decide (0 < e.a)=true∧x=e.a+s - 1) ∨ (decide (0 < e.a)=false∧x=e.a):=by
     unfold glueV at hx;split at hx
     ·right;simp;omega
     ·left;simp;omega
    have hy':(decide (0 < e.b)=true∧y=e.b+s - 1) ∨ (decide (0 < e.b)=false∧y=e.b):=by
     unfold glueV at hy;split at hy
     ·right;simp;omega
     ·left;simp;omega
    clear hx hy;rcases hx' with ⟨hda,rfl⟩ | ⟨hda,rfl⟩ <;> rcases hy' with ⟨hdb,rfl⟩ | ⟨hdb,rfl⟩
    all_goals
     go_wp2_with fail;with_reducible refine (hP _ _ _ (hown.mid hal oZl).rg).mono ?_
     rintro en w6 ⟨A3,c3,rfl,ho6,hm6⟩;have R0:=(Z0.mid hal oZr).mid hm6 oZr;have R1:=(Z1.mid hal oZr).mid hm6 oZr;have R2:=(Z2.mid hal oZr).mid hm6 oZr;have R3:=(Z3.mid hal oZr).mid hm6 oZr;have hm7:=(hmr.trans hal).trans hm6;have r2:=R3.cell 2 rfl;have rf:=R3.2.2;have hrs:=hmr.size;have hg1:w6.heap.size≤G ∨ G+1≤wr.heap.size+1:=Or.inr (by omega);have hg2:G+1≤wr.heap.size+1:=by omega
     have hg3:w3.heap.size≤wr.heap.size+1:=by omega
     rw [World.size_alloc] at ho6;clear p1 q2 z2 zf e0 e1 e2;go_wp2_with fail;go_roundw
     case rel =>
      have hst:=fun u=>Mid.setCell w6 (lo:=G) (hi:=G+1) (p:=⟨G,2,none⟩) u (Nat.le_refl _) (Nat.lt_succ_self _);refine ⟨k+1,A3,c3,wr.heap.size+1,w6.heap.size,_,by omega,by go_num,Lib.hid ?_,ho6.mid (hst _) (Or.inl hg2),.inr hg2,hg3,R0.mid (hst _) (Or.inl (by omega)),R1.mid (hst _) (Or.inl (by omega)),R2.mid (hst _) (Or.inl (by omega)),R3.set 2 _ (by simp) rfl,hm7.storeNew (by show w.heap.size≤G;omega) _⟩;rw [take_snoc HE.out,show glueE s (es'.take k++[e])=glueE s (es'.take k)++[glueF s e] by simp [glueE],putAll_snoc,← HX.out,HF.out]
     case measure=>simp [intOf];omega
   ·obtain rfl:k=es'.length:=by omega
    have hG6:G < wr.heap.size:=Z3.1;clear p1 q2 z2 zf;have a0:=Z2.cell 0 rfl;have a1:=Z2.cell 1 rfl;have a2:=Z2.cell 2 rfl;have b0:=Z3.cell 0 rfl;have b1:=Z3.cell 1 rfl;have b2:=Z3.cell 2 rfl;have af:=Z2.2.2;have bf:=Z3.2.2;have q2:=Z1.cell 2 rfl;go_wp2_with fail;have hcl:(w.heap.size+1+1 == G)=false:=by simp;omega
    refine bodyPost_ret (v:=.tuple #[.agg #[.int .i64 r,.int .i64 (s+s' - 1),.slice A2 xs.length c2],.bool true]) (by simp [results,Tryz.results12,go_sem,a0,a1,a2,b0,b1,b2,af,bf]) rfl ⟨A2,c2,?_,?_,?_⟩
    ·have hxx:=HX.out
     rw [List.take_length,putAll_canon hasc.out] at hxx;rw [HRR.out,HRS.out,HRE.out,hxx]
    ·have hxx:=HX.out
     rw [List.take_length,putAll_canon hasc.out] at hxx;rw [HRE.out,← hxx];refine OG.wide (OG.mid hown (a:=w.heap.size) (b:=w.heap.size+3) ?_ (Or.inl (by omega))) (by omega) (by have:=hown.size;simpa using this) (Nat.le_refl _);repeat (first | exact Mid.refl _ _ _ | refine Mid.stored ?_ _ (by simp;try omega) (by simp;try omega))
    ·repeat (first | exact hmr | refine Mid.storeNew ?_ (by simp;try omega) _)
 ·obtain ⟨rfl,rfl,rfl,rfl⟩:=HR.out.no hok
  have hc:r≠r' ∨ (r=r'∧40 < s+s' - 1) ∨ (r=r'∧¬ 40 < s+s' - 1∧120 < es.length+es'.length):=by
   by_cases h1:r=r'
   ·by_cases h2:40 < s+s' - 1
    ·exact .inr (.inl ⟨h1,h2⟩)
    ·refine .inr (.inr ⟨h1,h2,?_⟩)
     refine Classical.byContradiction fun h3=>hok ⟨G1h.out,G2h.out,h1,by omega,by omega⟩
   ·exact .inl h1
  clear hok;rcases hc with h1 | ⟨h1,h2⟩ | ⟨h1,h2,h3⟩
  ·have h1a:(r != r')=true:=by simpa using h1
   go_wp2_with fail;refine bodyPost_ret (v:=.tuple #[.agg #[.int .i64 0,.int .i64 0,.slice none 0 0],.bool false]) (by simp [results,Tryz.results12,go_sem,z0,z1,z2,zf]) rfl ⟨none,0,rfl,OG.nil,?_⟩;repeat (first | exact hmm | refine Mid.storeNew ?_ (by simp;try omega) _)
  ·have h1a:(r != r')=false:=by simpa using h1
   have h2a:decide (40 < s+s' - 1)=true:=by simpa using h2
   clear h1;go_wp2_with fail;refine bodyPost_ret (v:=.tuple #[.agg #[.int .i64 0,.int .i64 0,.slice none 0 0],.bool false]) (by simp [results,Tryz.results12,go_sem,z0,z1,z2,zf]) rfl ⟨none,0,rfl,OG.nil,?_⟩;repeat (first | exact hmm | refine Mid.storeNew ?_ (by simp;try omega) _)
  ·have h1a:(r != r')=false:=by simpa using h1
   have h2a:decide (40 < s+s' - 1)=false:=by simpa using h2
   have h3a:decide (120 < (es.length:Int)+(es'.length:Int))=true:=by simp;omega
   clear h1;go_wp2_with fail;refine bodyPost_ret (v:=.tuple #[.agg #[.int .i64 0,.int .i64 0,.slice none 0 0],.bool false]) (by simp [results,Tryz.results12,go_sem,z0,z1,z2,zf]) rfl ⟨none,0,rfl,OG.nil,?_⟩;repeat (first | exact hmm | refine Mid.storeNew ?_ (by simp;try omega) _)
end
section
open Go.RowKit
theorem glue_gr {r s:Int} {es:List Ed} {r' s':Int} {es':List Ed} (h:GlueOk r s es r' s' es'):IsGr r (s+s' - 1) (canon (es++glueE s es')):=by
 have hs:=h.g1.size;have hs':=h.g2.size;refine ⟨h.g1.rank,⟨by omega,h.sz⟩,?_,?_,asc_canon _⟩
 ·have h1:=canon_len (es++glueE s es')
  have h2:=h.ln;unfold glueE at h1 ⊢;rw [List.length_append,List.length_map] at h1;omega
 ·intro e he
  have hk:=h.rk;rcases List.mem_append.1 (mem_canon.1 he) with h1 | h1
  ·have:=h.g1.all e h1
   unfold InG at this ⊢;omega
  ·obtain ⟨f,hf,rfl⟩:=List.mem_map.1 h1
   have:=h.g2.all f hf;unfold InG at this ⊢;simp only [glueF,glueV];refine ⟨?_,?_,?_,?_,?_,?_⟩ <;> (try split) <;> omega
def JoinIs (r s:Int) (es:List Ed) (r' s':Int) (es':List Ed) (rr rs:Int) (res:List Ed) (b:Bool):Prop :=
 (b=true∧(GlueOk r s es r' s' es'∧IsCor r s es∧IsCor r' s' es')∧rr=r∧rs=(coreA r (s+s' - 1,canon (es++glueE s es'))).1∧res=(coreA r (s+s' - 1,canon (es++glueE s es'))).2) ∨
 (b=false∧¬ (GlueOk r s es r' s' es'∧IsCor r s es∧IsCor r' s' es')∧rr=0∧rs=0∧res=[])
theorem JoinIs.no {r s:Int} {es:List Ed} {r' s':Int} {es':List Ed} {rr rs:Int} {res:List Ed} {b:Bool} (h:JoinIs r s es r' s' es' rr rs res b) (hn:¬ (GlueOk r s es r' s' es'∧IsCor r s es∧IsCor r' s' es')):b=false∧rr=0∧rs=0∧res=[]:=by
 rcases h with ⟨-,h, -⟩ | ⟨h1, -,h2⟩
 ·exact absurd h hn
 ·exact ⟨h1,h2⟩
theorem JoinIs.yes {r s:Int} {es:List Ed} {r' s':Int} {es':List Ed} {rr rs:Int} {res:List Ed} {b:Bool} (h:JoinIs r s es r' s' es' rr rs res b) (hn:GlueOk r s es r' s' es'∧IsCor r s es∧IsCor r' s' es'):b=true∧r=rr∧rs=(coreA r (s+s' - 1,canon (es++glueE s es'))).1∧res=(coreA r (s+s' - 1,canon (es++glueE s es'))).2:=by
 rcases h with ⟨h1, -,h2,h3⟩ | ⟨-,h, -⟩
 ·exact ⟨h1,h2.symm,h3⟩
 ·exact absurd hn h
theorem spec_JoinOf (r s:Int) (A:Option Addr) (es:List Ed) (c:Nat) (r' s':Int) (A':Option Addr) (es':List Ed) (c':Nat) (w:World) (lo hi lo' hi':Nat) (hr:RG w lo hi A es) (hr':RG w lo' hi' A' es') (hl:es.length≤1048576) (hl':es'.length≤1048576) (rr rs:Int) (res:List Ed) (b:Bool) (hres:JoinIs r s es r' s' es' rr rs res b) :
  Calls Tryz.prog 10 #[graV r s A es.length c,graV r' s' A' es'.length c'] w fun e w'=>∃ A1 c1,e=.returned (.tuple #[graV rr rs A1 res.length c1,.bool b])∧OG w' w.heap.size w'.heap.size A1 c1 res∧Mid 0 0 w w':=by
 have hm0:Mid 0 0 w (((w.alloc (.cells #[.int .i64 r,.int .i64 s,.slice A es.length c] 26)).alloc (.cells #[.int .i64 r',.int .i64 s',.slice A' es'.length c'] 26)).alloc (.cells #[.int .i64 0,.int .i64 0,.slice none 0 0] 26)):=((Mid.alloc _ _).trans (Mid.alloc _ _)).trans (Mid.alloc _ _);have b0:=((Box.new w #[.int .i64 r,.int .i64 s,.slice A es.length c] 26).mid (Mid.alloc _ (.cells #[.int .i64 r',.int .i64 s',.slice A' es'.length c'] 26)) oZr).mid (Mid.alloc _ (.cells #[.int .i64 0,.int .i64 0,.slice none 0 0] 26)) oZr;have b1:=(Box.new (w.alloc (.cells #[.int .i64 r,.int .i64 s,.slice A es.length c] 26)) #[.int .i64 r',.int .i64 s',.slice A' es'.length c'] 26).mid (Mid.alloc _ (.cells #[.int .i64 0,.int .i64 0,.slice none 0 0] 26)) oZr;have b2:=Box.new ((w.alloc (.cells #[.int .i64 r,.int .i64 s,.slice A es.length c] 26)).alloc (.cells #[.int .i64 r',.int .i64 s',.slice A' es'.length c'] 26)) #[.int .i64 0,.int .i64 0,.slice none 0 0] 26;simp only [World.size_alloc,Nat.add_assoc,Nat.reduceAdd] at b1 b2;have HR:=Lib.hid hres;clear hres;go_enter Tryz.func10,Tryz.ntmps10
 go_wp2_with fail;generalize (((w.alloc (.cells #[.int .i64 r,.int .i64 s,.slice A es.length c] 26)).alloc (.cells #[.int .i64 r',.int .i64 s',.slice A' es'.length c'] 26)).alloc (.cells #[.int .i64 0,.int .i64 0,.slice none 0 0] 26))=w1 at hm0 b0 b1 b2 ⊢;have hs1:w.heap.size+2 < w1.heap.size:=b2.1;by_cases hf:GlueOk r s es r' s' es'
 ·have HF:=Lib.hid hf
  clear hf;obtain ⟨ms,hms⟩:∃ ms,canon (es++glueE s es')=ms:=⟨_,rfl⟩
  have hgm:=glue_gr HF.out;rw [hms] at hgm;have HGM:=Lib.hid hgm;have HMS:=Lib.hid hms;clear hgm;have hCI:GlueAtBaseIs r s es r' s' es' r (s+s' - 1) ms true:=Or.inl ⟨rfl,HF.out,rfl,rfl,hms.symm⟩;obtain ⟨sn,hsn⟩:∃ sn:Nat,s+s' - 1=sn:=⟨(s+s' - 1).toNat,by have:=HGM.out.size;omega⟩
  rw [hsn] at hCI HGM;have HSN:=Lib.hid hsn;clear hsn;with_reducible refine (spec_GlueAtBase r s A es c r' s' A' es' c' w1 _ _ _ _ (hr.mid hm0 oZl) (hr'.mid hm0 oZl) hl hl' r sn ms true hCI).mono ?_
  rintro en w2 ⟨A2,c2,rfl,ho2,hm2⟩;clear hms hCI;have hs2:=hm2.size;have ha2:=Mid.alloc w2 (.cells #[.int .i64 r,.int .i64 sn,.slice A2 ms.length c2] 26);have Y2:=Box.new w2 #[.int .i64 r,.int .i64 sn,.slice A2 ms.length c2] 26;replace b0:=b0.mid hm2 oZr;replace b1:=b1.mid hm2 oZr;replace b2:=b2.mid hm2 oZr;replace hm0:=hm0.trans hm2;replace b0:=b0.mid ha2 oZr;replace b1:=b1.mid ha2 oZr;replace b2:=b2.mid ha2 oZr;replace ho2:=ho2.mid ha2 oZl;replace hm0:=hm0.trans ha2;have p0:=b0.cell 0 rfl;have p1:=b0.cell 1 rfl;have p2:=b0.cell 2 rfl;go_wp2_with fail;generalize w2.alloc (.cells #[.int .i64 r,.int .i64 sn,.slice A2 ms.length c2] 26)=w3 at hm0 b0 b1 b2 ho2 Y2 ha2 p0 p1 p2 ⊢;have hs3:=ha2.size;by_cases hc:IsCor r s es
  ·have HC:=Lib.hid hc
   clear hc;with_reducible refine (spec_IsSubgroup r s A es c _ _ _ (hr.mid hm0 oZl) hl true (iff_of_true rfl HC.out)).mono ?_
   rintro en w4 ⟨rfl,hm4⟩;have hs4:=hm4.size;replace b0:=b0.mid hm4 oZr;replace b1:=b1.mid hm4 oZr;replace b2:=b2.mid hm4 oZr;replace Y2:=Y2.mid hm4 oZr;replace ho2:=ho2.mid hm4 oZl;replace hm0:=hm0.trans hm4;clear p0 p1 p2;have p0:=b1.cell 0 rfl;have p1:=b1.cell 1 rfl;have p2:=b1.cell 2 rfl;by_cases hd:IsCor r' s' es'
   ·have HD:=Lib.hid hd
    obtain ⟨hb,hrr,hrs,hre⟩:=HR.out.yes ⟨HF.out,HC.out,hd⟩;clear hd HR;go_wp2_with fail;with_reducible refine (spec_IsSubgroup r' s' A' es' c' _ _ _ (hr'.mid hm0 oZl) hl' true (iff_of_true rfl HD.out)).mono ?_
    rintro en w5 ⟨rfl,hm5⟩;have hs5:=hm5.size;replace b2:=b2.mid hm5 oZr;replace Y2:=Y2.mid hm5 oZr;replace ho2:=ho2.mid hm5 oZl;replace hm0:=hm0.trans hm5;clear p0 p1 p2;have y0:=Y2.cell 0 rfl;have y1:=Y2.cell 1 rfl;have y2:=Y2.cell 2 rfl;obtain ⟨rn,rfl⟩:∃ rn:Nat,r=rn:=⟨r.toNat,by have:=HF.out.g1.rank;omega⟩
    rw [HMS.out,HSN.out] at hrs hre;obtain ⟨q,qs,hQ, -⟩:=nat_gr (coreA_gr (g:=((sn:Int),ms)) HGM.out);have hP:=spec_CoreGraph rn sn A2 ms c2 w5 _ _ (OG.rg ho2) HGM.out;rw [hQ] at hP hrs hre;dsimp only at hP hrs hre;have HP:=Lib.hid hP;have HALL:=Lib.hid (And.intro hb (And.intro hrr (And.intro hrs hre)));clear hP hQ hb hrr hrs hre;go_wp2_with fail;with_reducible refine HP.out.mono ?_
    rintro en w6 ⟨A5,c5,rfl,ho5,hm6⟩;clear HP;replace b2:=b2.mid hm6 oZr;replace hm0:=hm0.trans hm6;have z0:=b2.cell 0 rfl;have z1:=b2.cell 1 rfl;have z2:=b2.cell 2 rfl;have zf:=b2.2.2;go_wp2_with fail;refine bodyPost_ret (v:=.tuple #[.agg #[.int .i64 rn,.int .i64 q,.slice A5 qs.length c5],.bool true]) (by simp [results,Tryz.results10,go_sem,z0,z1,z2,zf]) rfl ⟨A5,c5,by rw [HALL.out.1,← HALL.out.2.1,HALL.out.2.2.1,HALL.out.2.2.2],?_,?_⟩
    ·rw [HALL.out.2.2.2]
     refine OG.wide (OG.mid ho5 (a:=w.heap.size+1) (b:=w.heap.size+3) ?_ (Or.inl (by omega))) (by omega) (by simp) (Nat.le_refl _);repeat (first | exact Mid.refl _ _ _ | refine Mid.stored ?_ _ (by simp;try omega) (by simp;try omega))
    ·repeat (first | exact hm0 | refine Mid.storeNew ?_ (by simp;try omega) _)
   ·obtain ⟨rfl,rfl,rfl,rfl⟩:=HR.out.no fun h=>hd h.2.2
    have HD:=Lib.hid hd;clear hd HR;go_wp2_with fail;with_reducible refine (spec_IsSubgroup r' s' A' es' c' _ _ _ (hr'.mid hm0 oZl) hl' false (iff_of_false Bool.false_ne_true HD.out)).mono ?_
    rintro en w5 ⟨rfl,hm5⟩;replace b2:=b2.mid hm5 oZr;replace hm0:=hm0.trans hm5;have z0:=b2.cell 0 rfl;have z1:=b2.cell 1 rfl;have z2:=b2.cell 2 rfl;have zf:=b2.2.2;clear p0 p1 p2;go_wp2_with fail;refine bodyPost_ret (v:=.tuple #[.agg #[.int .i64 0,.int .i64 0,.slice none 0 0],.bool false]) (by simp [results,Tryz.results10,go_sem,z0,z1,z2,zf]) rfl ⟨none,0,rfl,?_,?_⟩
    ·exact ⟨Nat.le_refl _,⟨rfl,.inl ⟨rfl,rfl⟩⟩,fun g hg=>by simp [Value.ownBlock] at hg⟩
    ·repeat (first | exact hm0 | refine Mid.trans ?_ (Mid.alloc _ _) | refine Mid.storeNew ?_ (by simp;try omega) _)
  ·obtain ⟨rfl,rfl,rfl,rfl⟩:=HR.out.no fun h=>hc h.2.1
   have HC:=Lib.hid hc;clear hc HR;with_reducible refine (spec_IsSubgroup r s A es c _ _ _ (hr.mid hm0 oZl) hl false (iff_of_false Bool.false_ne_true HC.out)).mono ?_
   rintro en w4 ⟨rfl,hm4⟩;replace b2:=b2.mid hm4 oZr;replace hm0:=hm0.trans hm4;have z0:=b2.cell 0 rfl;have z1:=b2.cell 1 rfl;have z2:=b2.cell 2 rfl;have zf:=b2.2.2;clear p0 p1 p2;go_wp2_with fail;refine bodyPost_ret (v:=.tuple #[.agg #[.int .i64 0,.int .i64 0,.slice none 0 0],.bool false]) (by simp [results,Tryz.results10,go_sem,z0,z1,z2,zf]) rfl ⟨none,0,rfl,?_,?_⟩
   ·exact ⟨Nat.le_refl _,⟨rfl,.inl ⟨rfl,rfl⟩⟩,fun g hg=>by simp [Value.ownBlock] at hg⟩
   ·repeat (first | exact hm0 | refine Mid.trans ?_ (Mid.alloc _ _) | refine Mid.storeNew ?_ (by simp;try omega) _)
 ·obtain ⟨rfl,rfl,rfl,rfl⟩:=HR.out.no fun h=>hf h.1
  have hCI:GlueAtBaseIs r s es r' s' es' 0 0 [] false:=Or.inr ⟨rfl,hf,rfl,rfl,rfl⟩;with_reducible refine (spec_GlueAtBase r s A es c r' s' A' es' c' w1 _ _ _ _ (hr.mid hm0 oZl) (hr'.mid hm0 oZl) hl hl' 0 0 [] false hCI).mono ?_
  rintro en w2 ⟨A2,c2,rfl,ho2,hm2⟩;have hs2:=hm2.size;clear hf HR hCI;replace b2:=b2.mid hm2 oZr;replace hm0:=hm0.trans hm2;have hb22:w.heap.size+2 < w2.heap.size:=b2.1;have hb23:w.heap.size+1 < w2.heap.size:=by omega
  have z0:=b2.cell 0 rfl;have z1:=b2.cell 1 rfl;have z2:=b2.cell 2 rfl;have zf:=b2.2.2;go_wp2_with fail;refine bodyPost_ret (v:=.tuple #[.agg #[.int .i64 0,.int .i64 0,.slice none 0 0],.bool false]) (by simp [results,Tryz.results10,go_sem,z0,z1,z2,zf,hb22,hb23,World.cell?_alloc_lt]) rfl ⟨none,0,rfl,?_,?_⟩
  ·exact ⟨Nat.le_refl _,⟨rfl,.inl ⟨rfl,rfl⟩⟩,fun g hg=>by simp [Value.ownBlock] at hg⟩
  ·repeat (first | exact hm0 | refine Mid.trans ?_ (Mid.alloc _ _) | refine Mid.storeNew ?_ (by simp;try omega) _)
theorem impl_JoinOf (r s:Int) (A:Option Addr) (es:List Ed) (c:Nat) (r' s':Int) (A':Option Addr) (es':List Ed) (c':Nat) (w:World) (lo hi lo' hi':Nat) (hr:RG w lo hi A es) (hr':RG w lo' hi' A' es') (hl:es.length≤1048576) (hl':es'.length≤1048576) (hcl:es.length≤c) (hcl':es'.length≤c') (rr rs:Int) (res:List Ed) (b:Bool) (hres:JoinIs r s es r' s' es' rr rs res b) :
  Calls Tryz.prog 9 #[graV r s A es.length c,graV r' s' A' es'.length c'] w fun e w'=>∃ A1 c1,e=.returned (.tuple #[graV rr rs A1 res.length c1,.bool b])∧OG w' w.heap.size w'.heap.size A1 c1 res∧Mid 0 0 w w':=by
 have hm0:Mid 0 0 w (((w.alloc (.cells #[.int .i64 r,.int .i64 s,.slice A es.length c] 26)).alloc (.cells #[.int .i64 r',.int .i64 s',.slice A' es'.length c'] 26)).alloc (.cells #[.int .i64 0,.int .i64 0,.slice none 0 0] 26)):=((Mid.alloc _ _).trans (Mid.alloc _ _)).trans (Mid.alloc _ _);have b0:=((Box.new w #[.int .i64 r,.int .i64 s,.slice A es.length c] 26).mid (Mid.alloc _ (.cells #[.int .i64 r',.int .i64 s',.slice A' es'.length c'] 26)) oZr).mid (Mid.alloc _ (.cells #[.int .i64 0,.int .i64 0,.slice none 0 0] 26)) oZr;have b1:=(Box.new (w.alloc (.cells #[.int .i64 r,.int .i64 s,.slice A es.length c] 26)) #[.int .i64 r',.int .i64 s',.slice A' es'.length c'] 26).mid (Mid.alloc _ (.cells #[.int .i64 0,.int .i64 0,.slice none 0 0] 26)) oZr;have b2:=Box.new ((w.alloc (.cells #[.int .i64 r,.int .i64 s,.slice A es.length c] 26)).alloc (.cells #[.int .i64 r',.int .i64 s',.slice A' es'.length c'] 26)) #[.int .i64 0,.int .i64 0,.slice none 0 0] 26;simp only [World.size_alloc,Nat.add_assoc,Nat.reduceAdd] at b1 b2;have HR:=Lib.hid hres;clear hres;go_enter Tryz.func9,Tryz.ntmps9
 go_wp2_with fail;generalize (((w.alloc (.cells #[.int .i64 r,.int .i64 s,.slice A es.length c] 26)).alloc (.cells #[.int .i64 r',.int .i64 s',.slice A' es'.length c'] 26)).alloc (.cells #[.int .i64 0,.int .i64 0,.slice none 0 0] 26))=w1 at hm0 b0 b1 b2 ⊢;have hs1:w.heap.size+2 < w1.heap.size:=b2.1;by_cases hf:GlueOk r s es r' s' es'
 ·have HF:=Lib.hid hf
  clear hf;obtain ⟨ms,hms⟩:∃ ms,canon (es++glueE s es')=ms:=⟨_,rfl⟩
  have hgm:=glue_gr HF.out;rw [hms] at hgm;have HGM:=Lib.hid hgm;have HMS:=Lib.hid hms;clear hgm;have hCI:GlueAtBaseIs r s es r' s' es' r (s+s' - 1) ms true:=Or.inl ⟨rfl,HF.out,rfl,rfl,hms.symm⟩;obtain ⟨sn,hsn⟩:∃ sn:Nat,s+s' - 1=sn:=⟨(s+s' - 1).toNat,by have:=HGM.out.size;omega⟩
  rw [hsn] at hCI HGM;have HSN:=Lib.hid hsn;clear hsn;with_reducible refine (impl_GlueAtBase r s A es c r' s' A' es' c' w1 _ _ _ _ (hr.mid hm0 oZl) (hr'.mid hm0 oZl) hl hl' r sn ms true hCI).mono ?_
  rintro en w2 ⟨A2,c2,rfl,ho2,hm2⟩;clear hms hCI;have hs2:=hm2.size;have ha2:=Mid.alloc w2 (.cells #[.int .i64 r,.int .i64 sn,.slice A2 ms.length c2] 26);have Y2:=Box.new w2 #[.int .i64 r,.int .i64 sn,.slice A2 ms.length c2] 26;replace b0:=b0.mid hm2 oZr;replace b1:=b1.mid hm2 oZr;replace b2:=b2.mid hm2 oZr;replace hm0:=hm0.trans hm2;replace b0:=b0.mid ha2 oZr;replace b1:=b1.mid ha2 oZr;replace b2:=b2.mid ha2 oZr;replace ho2:=ho2.mid ha2 oZl;replace hm0:=hm0.trans ha2;have p0:=b0.cell 0 rfl;have p1:=b0.cell 1 rfl;have p2:=b0.cell 2 rfl;go_wp2_with fail;generalize w2.alloc (.cells #[.int .i64 r,.int .i64 sn,.slice A2 ms.length c2] 26)=w3 at hm0 b0 b1 b2 ho2 Y2 ha2 p0 p1 p2 ⊢;have hs3:=ha2.size;by_cases hc:IsCor r s es
  ·have HC:=Lib.hid hc
   clear hc;with_reducible refine (impl_IsCore r s A es c _ _ _ (hr.mid hm0 oZl) hl hcl true (iff_of_true rfl HC.out)).mono ?_
   rintro en w4 ⟨rfl,hm4⟩;have hs4:=hm4.size;replace b0:=b0.mid hm4 oZr;replace b1:=b1.mid hm4 oZr;replace b2:=b2.mid hm4 oZr;replace Y2:=Y2.mid hm4 oZr;replace ho2:=ho2.mid hm4 oZl;replace hm0:=hm0.trans hm4;clear p0 p1 p2;have p0:=b1.cell 0 rfl;have p1:=b1.cell 1 rfl;have p2:=b1.cell 2 rfl;by_cases hd:IsCor r' s' es'
   ·have HD:=Lib.hid hd
    obtain ⟨hb,hrr,hrs,hre⟩:=HR.out.yes ⟨HF.out,HC.out,hd⟩;clear hd HR;go_wp2_with fail;with_reducible refine (impl_IsCore r' s' A' es' c' _ _ _ (hr'.mid hm0 oZl) hl' hcl' true (iff_of_true rfl HD.out)).mono ?_
    rintro en w5 ⟨rfl,hm5⟩;have hs5:=hm5.size;replace b2:=b2.mid hm5 oZr;replace Y2:=Y2.mid hm5 oZr;replace ho2:=ho2.mid hm5 oZl;replace hm0:=hm0.trans hm5;clear p0 p1 p2;have y0:=Y2.cell 0 rfl;have y1:=Y2.cell 1 rfl;have y2:=Y2.cell 2 rfl;obtain ⟨rn,rfl⟩:∃ rn:Nat,r=rn:=⟨r.toNat,by have:=HF.out.g1.rank;omega⟩
    rw [HMS.out,HSN.out] at hrs hre;obtain ⟨q,qs,hQ, -⟩:=nat_gr (coreA_gr (g:=((sn:Int),ms)) HGM.out);have hP:=impl_CoreGraph rn sn A2 ms c2 w5 _ _ (OG.rg ho2) HGM.out;rw [hQ] at hP hrs hre;dsimp only at hP hrs hre;have HP:=Lib.hid hP;have HALL:=Lib.hid (And.intro hb (And.intro hrr (And.intro hrs hre)));clear hP hQ hb hrr hrs hre;go_wp2_with fail;with_reducible refine HP.out.mono ?_
    rintro en w6 ⟨A5,c5,rfl,ho5,hm6⟩;clear HP;replace b2:=b2.mid hm6 oZr;replace hm0:=hm0.trans hm6;have z0:=b2.cell 0 rfl;have z1:=b2.cell 1 rfl;have z2:=b2.cell 2 rfl;have zf:=b2.2.2;go_wp2_with fail;refine bodyPost_ret (v:=.tuple #[.agg #[.int .i64 rn,.int .i64 q,.slice A5 qs.length c5],.bool true]) (by simp [results,Tryz.results9,go_sem,z0,z1,z2,zf]) rfl ⟨A5,c5,by rw [HALL.out.1,← HALL.out.2.1,HALL.out.2.2.1,HALL.out.2.2.2],?_,?_⟩
    ·rw [HALL.out.2.2.2]
     refine OG.wide (OG.mid ho5 (a:=w.heap.size+1) (b:=w.heap.size+3) ?_ (Or.inl (by omega))) (by omega) (by simp) (Nat.le_refl _);repeat (first | exact Mid.refl _ _ _ | refine Mid.stored ?_ _ (by simp;try omega) (by simp;try omega))
    ·repeat (first | exact hm0 | refine Mid.storeNew ?_ (by simp;try omega) _)
   ·obtain ⟨rfl,rfl,rfl,rfl⟩:=HR.out.no fun h=>hd h.2.2
    have HD:=Lib.hid hd;clear hd HR;go_wp2_with fail;with_reducible refine (impl_IsCore r' s' A' es' c' _ _ _ (hr'.mid hm0 oZl) hl' hcl' false (iff_of_false Bool.false_ne_true HD.out)).mono ?_
    rintro en w5 ⟨rfl,hm5⟩;replace b2:=b2.mid hm5 oZr;replace hm0:=hm0.trans hm5;have z0:=b2.cell 0 rfl;have z1:=b2.cell 1 rfl;have z2:=b2.cell 2 rfl;have zf:=b2.2.2;clear p0 p1 p2;go_wp2_with fail;refine bodyPost_ret (v:=.tuple #[.agg #[.int .i64 0,.int .i64 0,.slice none 0 0],.bool false]) (by simp [results,Tryz.results9,go_sem,z0,z1,z2,zf]) rfl ⟨none,0,rfl,?_,?_⟩
    ·exact ⟨Nat.le_refl _,⟨rfl,.inl ⟨rfl,rfl⟩⟩,fun g hg=>by simp [Value.ownBlock] at hg⟩
    ·repeat (first | exact hm0 | refine Mid.trans ?_ (Mid.alloc _ _) | refine Mid.storeNew ?_ (by simp;try omega) _)
  ·obtain ⟨rfl,rfl,rfl,rfl⟩:=HR.out.no fun h=>hc h.2.1
   have HC:=Lib.hid hc;clear hc HR;with_reducible refine (impl_IsCore r s A es c _ _ _ (hr.mid hm0 oZl) hl hcl false (iff_of_false Bool.false_ne_true HC.out)).mono ?_
   rintro en w4 ⟨rfl,hm4⟩;replace b2:=b2.mid hm4 oZr;replace hm0:=hm0.trans hm4;have z0:=b2.cell 0 rfl;have z1:=b2.cell 1 rfl;have z2:=b2.cell 2 rfl;have zf:=b2.2.2;clear p0 p1 p2;go_wp2_with fail;refine bodyPost_ret (v:=.tuple #[.agg #[.int .i64 0,.int .i64 0,.slice none 0 0],.bool false]) (by simp [results,Tryz.results9,go_sem,z0,z1,z2,zf]) rfl ⟨none,0,rfl,?_,?_⟩
   ·exact ⟨Nat.le_refl _,⟨rfl,.inl ⟨rfl,rfl⟩⟩,fun g hg=>by simp [Value.ownBlock] at hg⟩
   ·repeat (first | exact hm0 | refine Mid.trans ?_ (Mid.alloc _ _) | refine Mid.storeNew ?_ (by simp;try omega) _)
 ·obtain ⟨rfl,rfl,rfl,rfl⟩:=HR.out.no fun h=>hf h.1
  have hCI:GlueAtBaseIs r s es r' s' es' 0 0 [] false:=Or.inr ⟨rfl,hf,rfl,rfl,rfl⟩;with_reducible refine (impl_GlueAtBase r s A es c r' s' A' es' c' w1 _ _ _ _ (hr.mid hm0 oZl) (hr'.mid hm0 oZl) hl hl' 0 0 [] false hCI).mono ?_
  rintro en w2 ⟨A2,c2,rfl,ho2,hm2⟩;have hs2:=hm2.size;clear hf HR hCI;replace b2:=b2.mid hm2 oZr;replace hm0:=hm0.trans hm2;have hb22:w.heap.size+2 < w2.heap.size:=b2.1;have hb23:w.heap.size+1 < w2.heap.size:=by omega
  have z0:=b2.cell 0 rfl;have z1:=b2.cell 1 rfl;have z2:=b2.cell 2 rfl;have zf:=b2.2.2;go_wp2_with fail;refine bodyPost_ret (v:=.tuple #[.agg #[.int .i64 0,.int .i64 0,.slice none 0 0],.bool false]) (by simp [results,Tryz.results9,go_sem,z0,z1,z2,zf,hb22,hb23,World.cell?_alloc_lt]) rfl ⟨none,0,rfl,?_,?_⟩
  ·exact ⟨Nat.le_refl _,⟨rfl,.inl ⟨rfl,rfl⟩⟩,fun g hg=>by simp [Value.ownBlock] at hg⟩
  ·repeat (first | exact hm0 | refine Mid.trans ?_ (Mid.alloc _ _) | refine Mid.storeNew ?_ (by simp;try omega) _)
end
section
open Go.RowKit
def JoinOfIs (r0 s0:Int) (d0:List Ed) (r1 s1:Int) (d1:List Ed) (rr0 rs0:Int) (res0:List Ed) (res1:Bool):Prop:=JoinIs r0 s0 d0 r1 s1 d1 rr0 rs0 res0 res1
theorem JoinOfIs_ex (r0 s0:Int) (d0:List Ed) (r1 s1:Int) (d1:List Ed) (hl0:d0.length≤1048576) (hl1:d1.length≤1048576):∃ rr0 rs0 res0 res1,JoinOfIs r0 s0 d0 r1 s1 d1 rr0 rs0 res0 res1:=by
 by_cases h:GlueOk r0 s0 d0 r1 s1 d1∧IsCor r0 s0 d0∧IsCor r1 s1 d1
 ·exact ⟨_,_,_,_,.inl ⟨rfl,h,rfl,rfl,rfl⟩⟩
 ·exact ⟨_,_,_,_,.inr ⟨rfl,h,rfl,rfl,rfl⟩⟩
theorem JoinOfIs_len {r0 s0:Int} {d0:List Ed} {r1 s1:Int} {d1:List Ed} {rr0 rs0:Int} {res0:List Ed} {res1:Bool} (h:JoinOfIs r0 s0 d0 r1 s1 d1 rr0 rs0 res0 res1) (hl0:d0.length≤1048576) (hl1:d1.length≤1048576):res0.length≤1048576:=by
 rcases h with ⟨-,h, -, -,rfl⟩ | ⟨-, -, -, -,rfl⟩
 ·have h1:=(coreA_gr (g:=(s0+s1 - 1,canon (d0++glueE s0 d1))) (glue_gr h.1)).len
  omega
 ·simp
theorem sspec_JoinOf (r0 s0:Int) (A0:Option Addr) (d0:List Ed) (c0:Nat) (r1 s1:Int) (A1:Option Addr) (d1:List Ed) (c1:Nat) (w:World) (lo0 hi0:Nat) (h0:OG w lo0 hi0 A0 c0 d0) (hl0:d0.length≤1048576) (lo1 hi1:Nat) (h1:OG w lo1 hi1 A1 c1 d1) (hl1:d1.length≤1048576) (rr0 rs0:Int) (res0:List Ed) (res1:Bool) (h:JoinOfIs r0 s0 d0 r1 s1 d1 rr0 rs0 res0 res1) :
  Calls Tryz.prog 10 #[.agg #[.int .i64 r0,.int .i64 s0,.slice A0 d0.length c0],.agg #[.int .i64 r1,.int .i64 s1,.slice A1 d1.length c1]] w fun e w'=>∃ (A:Option Addr) (c:Nat),e=.returned (.tuple #[.agg #[.int .i64 rr0,.int .i64 rs0,.slice A res0.length c],.bool res1])∧OG w' w.heap.size w'.heap.size A c res0∧Mid 0 0 w w' :=
 spec_JoinOf r0 s0 A0 d0 c0 r1 s1 A1 d1 c1 w lo0 hi0 lo1 hi1 h0.rg h1.rg hl0 hl1 rr0 rs0 res0 res1 h
theorem simpl_JoinOf (r0 s0:Int) (A0:Option Addr) (d0:List Ed) (c0:Nat) (r1 s1:Int) (A1:Option Addr) (d1:List Ed) (c1:Nat) (w:World) (lo0 hi0:Nat) (h0:OG w lo0 hi0 A0 c0 d0) (hl0:d0.length≤1048576) (lo1 hi1:Nat) (h1:OG w lo1 hi1 A1 c1 d1) (hl1:d1.length≤1048576) (rr0 rs0:Int) (res0:List Ed) (res1:Bool) (h:JoinOfIs r0 s0 d0 r1 s1 d1 rr0 rs0 res0 res1) :
  Calls Tryz.prog 9 #[.agg #[.int .i64 r0,.int .i64 s0,.slice A0 d0.length c0],.agg #[.int .i64 r1,.int .i64 s1,.slice A1 d1.length c1]] w fun e w'=>∃ (A:Option Addr) (c:Nat),e=.returned (.tuple #[.agg #[.int .i64 rr0,.int .i64 rs0,.slice A res0.length c],.bool res1])∧OG w' w.heap.size w'.heap.size A c res0∧Mid 0 0 w w' :=
 impl_JoinOf r0 s0 A0 d0 c0 r1 s1 A1 d1 c1 w lo0 hi0 lo1 hi1 h0.rg h1.rg hl0 hl1 h0.cnt.1 h1.cnt.1 rr0 rs0 res0 res1 h
end
section
open Go.RowKit
end
section
open Go.RowKit
theorem rankI_bnd {r s:Int} {es:List Ed} (hl:es.length≤1048576):-1≤rankI r s es+40∧rankI r s es≤1048577:=by
 unfold rankI;split
 ·rename_i h
  have h1:=h.fol.gr.size;have h2:=h.fol.gr.len;omega
 ·omega
end
section
open Go.RowKit
theorem JoinIs.lens {r s:Int} {es:List Ed} {r' s':Int} {es':List Ed} {rr rs:Int} {res:List Ed} {b:Bool} (h:JoinIs r s es r' s' es' rr rs res b):res.length≤120:=by
 rcases h with ⟨-,h, -, -,rfl⟩ | ⟨-, -, -, -,rfl⟩
 ·exact (coreA_gr (g:=(s+s' - 1,canon (es++glueE s es'))) (glue_gr h.1)).len
 ·simp
noncomputable def dropI (r s:Int) (es:List Ed) (r' s':Int) (es':List Ed) (rr rs:Int) (res:List Ed) (b:Bool):Int:=if b=true then rankI r s es+rankI r' s' es' - rankI rr rs res else -1
theorem spec_RankDrop (r s:Int) (A:Option Addr) (es:List Ed) (c:Nat) (r' s':Int) (A':Option Addr) (es':List Ed) (c':Nat) (w:World) (lo hi lo' hi':Nat) (hr:RG w lo hi A es) (hr':RG w lo' hi' A' es') (hl:es.length≤1048576) (hl':es'.length≤1048576) (rr rs:Int) (res:List Ed) (b:Bool) (hres:JoinIs r s es r' s' es' rr rs res b) :
  Calls Tryz.prog 15 #[graV r s A es.length c,graV r' s' A' es'.length c'] w fun e w'=>e=.returned (.int .i64 (dropI r s es r' s' es' rr rs res b))∧Mid 0 0 w w':=by
 have hm0:Mid 0 0 w ((w.alloc (.cells #[.int .i64 r,.int .i64 s,.slice A es.length c] 26)).alloc (.cells #[.int .i64 r',.int .i64 s',.slice A' es'.length c'] 26)):=(Mid.alloc _ _).trans (Mid.alloc _ _);have b0:=(Box.new w #[.int .i64 r,.int .i64 s,.slice A es.length c] 26).mid (Mid.alloc _ (.cells #[.int .i64 r',.int .i64 s',.slice A' es'.length c'] 26)) oZr;have b1:=Box.new (w.alloc (.cells #[.int .i64 r,.int .i64 s,.slice A es.length c] 26)) #[.int .i64 r',.int .i64 s',.slice A' es'.length c'] 26;simp only [World.size_alloc] at b1;have hl2:=hres.lens;have hl3:res.length≤1048576:=by omega
 obtain ⟨k1,k2⟩:=rankI_bnd (r:=r) (s:=s) hl;obtain ⟨k3,k4⟩:=rankI_bnd (r:=r') (s:=s') hl';obtain ⟨k5,k6⟩:=rankI_bnd (r:=rr) (s:=rs) hl3;have HR:=Lib.hid hres;have hJ:=fun W hh hh'=>spec_JoinOf r s A es c r' s' A' es' c' W lo hi lo' hi' hh hh' hl hl' rr rs res b HR.out;have h1:=fun W hh=>spec_RankOf r s A es c W lo hi hh hl;have h2:=fun W hh=>spec_RankOf r' s' A' es' c' W lo' hi' hh hl';have h3:=fun A c W lo hi hh=>spec_RankOf rr rs A res c W lo hi hh hl3;have hdr:dropI r s es r' s' es' rr rs res b=if b=true then rankI r s es+rankI r' s' es' - rankI rr rs res else -1:=rfl
 generalize dropI r s es r' s' es' rr rs res b=dd at hdr ⊢;generalize rankI r s es=x1 at k1 k2 h1 hdr;generalize rankI r' s' es'=x2 at k3 k4 h2 hdr;generalize rankI rr rs res=x3 at k5 k6 h3 hdr;have HJ:=Lib.hid hJ;have H1:=Lib.hid h1;have H2:=Lib.hid h2;have H3:=Lib.hid h3;have HD:=Lib.hid hdr;clear hJ h1 h2 h3 hdr hres HR;go_enter Tryz.func15,Tryz.ntmps15
 go_wp2_with fail;generalize ((w.alloc (.cells #[.int .i64 r,.int .i64 s,.slice A es.length c] 26)).alloc (.cells #[.int .i64 r',.int .i64 s',.slice A' es'.length c'] 26))=w1 at hm0 b0 b1 ⊢;with_reducible refine (HJ.out w1 (hr.mid hm0 oZl) (hr'.mid hm0 oZl)).mono ?_
 rintro en w2 ⟨A2,c2,rfl,ho2,hm2⟩;have hcl2:=ho2.cnt.1;have ha2:=Mid.alloc w2 (.cells #[.int .i64 rr,.int .i64 rs,.slice A2 res.length c2] 26);have Y2:=Box.new w2 #[.int .i64 rr,.int .i64 rs,.slice A2 res.length c2] 26;replace b0:=b0.mid hm2 oZr;replace b1:=b1.mid hm2 oZr;replace hm0:=hm0.trans hm2;replace b0:=b0.mid ha2 oZr;replace b1:=b1.mid ha2 oZr;replace ho2:=ho2.mid ha2 oZl;replace hm0:=hm0.trans ha2;clear hm2 HJ;cases b with
 | false =>
  go_wp2_with fail;go_ret;exact ⟨by rw [HD.out];rfl,hm0⟩
 | true =>
  have hdd:dd=x1+x2 - x3:=by rw [HD.out];rfl
  subst hdd;have hw1:IntKind.i64.wrap (x1+x2)=x1+x2:=IntWalk.i64_in _ (by omega);have hw2:IntKind.i64.wrap (x1+x2 - x3)=x1+x2 - x3:=IntWalk.i64_in _ (by omega);go_wp2_with fail;generalize w2.alloc (.cells #[.int .i64 rr,.int .i64 rs,.slice A2 res.length c2] 26)=w3 at hm0 b0 b1 ho2 Y2 ha2 ⊢;have u0:=wg_cell b0.1 (b0.cell 0 rfl);have u1:=wg_cell b0.1 (b0.cell 1 rfl);have u2:=wg_cell b0.1 (b0.cell 2 rfl);have v0:=wg_cell b1.1 (b1.cell 0 rfl);have v1:=wg_cell b1.1 (b1.cell 1 rfl);have v2:=wg_cell b1.1 (b1.cell 2 rfl);have y0:=wg_cell Y2.1 (Y2.cell 0 rfl);have y1:=wg_cell Y2.1 (Y2.cell 1 rfl);have y2:=wg_cell Y2.1 (Y2.cell 2 rfl);have hA1:=fun m os=>H1.out (wg w3 m os) (hr.mid (hm0.trans (Mid.ofWg w3 m os)) oZl);have hA2:=fun m os=>H2.out (wg w3 m os) (hr'.mid (hm0.trans (Mid.ofWg w3 m os)) oZl);have hA3:=fun m os=>H3.out A2 c2 (wg w3 m os) _ _ (ho2.rg.mid (Mid.ofWg w3 m os) oZl);refine wp_region_quiet_wg (by kernel_rfl) (by kernel_rfl) ?_;repeat
   (with_reducible refine wpQuiet_step (fun K hK=>?_))
   go_simp
   first
    | ((with_reducible refine hK _ ?_);clear hK K)
    | (rw [if_neg (by decide)];(with_reducible refine hK _ ?_);clear hK K)
    | (apply Exists.intro;refine ⟨fun _=>?_,hK _ ?_⟩;((first | (go_at_call 19;with_reducible exact Calls.wg_of (hA1 _ _)) | (go_at_call 19;with_reducible exact Calls.wg_of (hA2 _ _)) | (go_at_call 19;with_reducible exact Calls.wg_of (hA3 _ _))));clear hK K)
  with_reducible refine wpQuiet_nil ?_
  intro _ hw';obtain ⟨⟨nq,osq⟩,hw''⟩:=hw';subst hw'';go_wp2_with fail;go_ret;exact ⟨by first | rfl | (rw [hw1,hw2]) | (congr 1),hm0.trans (Mid.ofWg w3 nq osq)⟩
theorem impl_RankDrop (r s:Int) (A:Option Addr) (es:List Ed) (c:Nat) (r' s':Int) (A':Option Addr) (es':List Ed) (c':Nat) (w:World) (lo hi lo' hi':Nat) (hr:RG w lo hi A es) (hr':RG w lo' hi' A' es') (hl:es.length≤1048576) (hl':es'.length≤1048576) (hcl:es.length≤c) (hcl':es'.length≤c') (rr rs:Int) (res:List Ed) (b:Bool) (hres:JoinIs r s es r' s' es' rr rs res b) :
  Calls Tryz.prog 14 #[graV r s A es.length c,graV r' s' A' es'.length c'] w fun e w'=>e=.returned (.int .i64 (dropI r s es r' s' es' rr rs res b))∧Mid 0 0 w w':=by
 have hm0:Mid 0 0 w ((w.alloc (.cells #[.int .i64 r,.int .i64 s,.slice A es.length c] 26)).alloc (.cells #[.int .i64 r',.int .i64 s',.slice A' es'.length c'] 26)):=(Mid.alloc _ _).trans (Mid.alloc _ _);have b0:=(Box.new w #[.int .i64 r,.int .i64 s,.slice A es.length c] 26).mid (Mid.alloc _ (.cells #[.int .i64 r',.int .i64 s',.slice A' es'.length c'] 26)) oZr;have b1:=Box.new (w.alloc (.cells #[.int .i64 r,.int .i64 s,.slice A es.length c] 26)) #[.int .i64 r',.int .i64 s',.slice A' es'.length c'] 26;simp only [World.size_alloc] at b1;have hl2:=hres.lens;have hl3:res.length≤1048576:=by omega
 obtain ⟨k1,k2⟩:=rankI_bnd (r:=r) (s:=s) hl;obtain ⟨k3,k4⟩:=rankI_bnd (r:=r') (s:=s') hl';obtain ⟨k5,k6⟩:=rankI_bnd (r:=rr) (s:=rs) hl3;have HR:=Lib.hid hres;have hJ:=fun W hh hh'=>impl_JoinOf r s A es c r' s' A' es' c' W lo hi lo' hi' hh hh' hl hl' hcl hcl' rr rs res b HR.out;have h1:=fun W hh=>impl_RankOf r s A es c W lo hi hh hl hcl;have h2:=fun W hh=>impl_RankOf r' s' A' es' c' W lo' hi' hh hl' hcl';have h3:=fun A c W lo hi hh hc=>impl_RankOf rr rs A res c W lo hi hh hl3 hc;have hdr:dropI r s es r' s' es' rr rs res b=if b=true then rankI r s es+rankI r' s' es' - rankI rr rs res else -1:=rfl
 generalize dropI r s es r' s' es' rr rs res b=dd at hdr ⊢;generalize rankI r s es=x1 at k1 k2 h1 hdr;generalize rankI r' s' es'=x2 at k3 k4 h2 hdr;generalize rankI rr rs res=x3 at k5 k6 h3 hdr;have HJ:=Lib.hid hJ;have H1:=Lib.hid h1;have H2:=Lib.hid h2;have H3:=Lib.hid h3;have HD:=Lib.hid hdr;clear hJ h1 h2 h3 hdr hres HR;go_enter Tryz.func14,Tryz.ntmps14
 go_wp2_with fail;generalize ((w.alloc (.cells #[.int .i64 r,.int .i64 s,.slice A es.length c] 26)).alloc (.cells #[.int .i64 r',.int .i64 s',.slice A' es'.length c'] 26))=w1 at hm0 b0 b1 ⊢;with_reducible refine (HJ.out w1 (hr.mid hm0 oZl) (hr'.mid hm0 oZl)).mono ?_
 rintro en w2 ⟨A2,c2,rfl,ho2,hm2⟩;have hcl2:=ho2.cnt.1;have ha2:=Mid.alloc w2 (.cells #[.int .i64 rr,.int .i64 rs,.slice A2 res.length c2] 26);have Y2:=Box.new w2 #[.int .i64 rr,.int .i64 rs,.slice A2 res.length c2] 26;replace b0:=b0.mid hm2 oZr;replace b1:=b1.mid hm2 oZr;replace hm0:=hm0.trans hm2;replace b0:=b0.mid ha2 oZr;replace b1:=b1.mid ha2 oZr;replace ho2:=ho2.mid ha2 oZl;replace hm0:=hm0.trans ha2;clear hm2 HJ;cases b with
 | false =>
  go_wp2_with fail;go_ret;exact ⟨by rw [HD.out];rfl,hm0⟩
 | true =>
  have hdd:dd=x1+x2 - x3:=by rw [HD.out];rfl
  subst hdd;have hw1:IntKind.i64.wrap (x1+x2)=x1+x2:=IntWalk.i64_in _ (by omega);have hw2:IntKind.i64.wrap (x1+x2 - x3)=x1+x2 - x3:=IntWalk.i64_in _ (by omega);go_wp2_with fail;generalize w2.alloc (.cells #[.int .i64 rr,.int .i64 rs,.slice A2 res.length c2] 26)=w3 at hm0 b0 b1 ho2 Y2 ha2 ⊢;have u0:=wg_cell b0.1 (b0.cell 0 rfl);have u1:=wg_cell b0.1 (b0.cell 1 rfl);have u2:=wg_cell b0.1 (b0.cell 2 rfl);have v0:=wg_cell b1.1 (b1.cell 0 rfl);have v1:=wg_cell b1.1 (b1.cell 1 rfl);have v2:=wg_cell b1.1 (b1.cell 2 rfl);have y0:=wg_cell Y2.1 (Y2.cell 0 rfl);have y1:=wg_cell Y2.1 (Y2.cell 1 rfl);have y2:=wg_cell Y2.1 (Y2.cell 2 rfl);have hA1:=fun m os=>H1.out (wg w3 m os) (hr.mid (hm0.trans (Mid.ofWg w3 m os)) oZl);have hA2:=fun m os=>H2.out (wg w3 m os) (hr'.mid (hm0.trans (Mid.ofWg w3 m os)) oZl);have hA3:=fun m os=>H3.out A2 c2 (wg w3 m os) _ _ (ho2.rg.mid (Mid.ofWg w3 m os) oZl) hcl2;refine wp_region_quiet_wg (by kernel_rfl) (by kernel_rfl) ?_;repeat
   (with_reducible refine wpQuiet_step (fun K hK=>?_))
   go_simp
   first
    | ((with_reducible refine hK _ ?_);clear hK K)
    | (rw [if_neg (by decide)];(with_reducible refine hK _ ?_);clear hK K)
    | (apply Exists.intro;refine ⟨fun _=>?_,hK _ ?_⟩;((first | (go_at_call 18;with_reducible exact Calls.wg_of (hA1 _ _)) | (go_at_call 18;with_reducible exact Calls.wg_of (hA2 _ _)) | (go_at_call 18;with_reducible exact Calls.wg_of (hA3 _ _))));clear hK K)
  with_reducible refine wpQuiet_nil ?_
  intro _ hw';obtain ⟨⟨nq,osq⟩,hw''⟩:=hw';subst hw'';go_wp2_with fail;go_ret;exact ⟨by first | rfl | (rw [hw1,hw2]) | (congr 1),hm0.trans (Mid.ofWg w3 nq osq)⟩
def RankDropIs (r0 s0:Int) (d0:List Ed) (r1 s1:Int) (d1:List Ed) (res0:Int):Prop:=∃ rr rs res b,JoinIs r0 s0 d0 r1 s1 d1 rr rs res b∧res0=dropI r0 s0 d0 r1 s1 d1 rr rs res b
theorem RankDropIs_ex (r0 s0:Int) (d0:List Ed) (r1 s1:Int) (d1:List Ed) (hl0:d0.length≤1048576) (hl1:d1.length≤1048576):∃ res0,RankDropIs r0 s0 d0 r1 s1 d1 res0:=by
 obtain ⟨rr,rs,res,b,h⟩:=JoinOfIs_ex r0 s0 d0 r1 s1 d1 hl0 hl1;exact ⟨_,rr,rs,res,b,h,rfl⟩
theorem sspec_RankDrop (r0 s0:Int) (A0:Option Addr) (d0:List Ed) (c0:Nat) (r1 s1:Int) (A1:Option Addr) (d1:List Ed) (c1:Nat) (w:World) (lo0 hi0:Nat) (h0:OG w lo0 hi0 A0 c0 d0) (hl0:d0.length≤1048576) (lo1 hi1:Nat) (h1:OG w lo1 hi1 A1 c1 d1) (hl1:d1.length≤1048576) (res0:Int) (h:RankDropIs r0 s0 d0 r1 s1 d1 res0) :
  Calls Tryz.prog 15 #[.agg #[.int .i64 r0,.int .i64 s0,.slice A0 d0.length c0],.agg #[.int .i64 r1,.int .i64 s1,.slice A1 d1.length c1]] w fun e w'=>e=.returned (.int .i64 res0)∧Mid 0 0 w w':=by
 obtain ⟨rr,rs,res,b,hj,rfl⟩:=h;exact spec_RankDrop r0 s0 A0 d0 c0 r1 s1 A1 d1 c1 w lo0 hi0 lo1 hi1 h0.rg h1.rg hl0 hl1 rr rs res b hj
theorem simpl_RankDrop (r0 s0:Int) (A0:Option Addr) (d0:List Ed) (c0:Nat) (r1 s1:Int) (A1:Option Addr) (d1:List Ed) (c1:Nat) (w:World) (lo0 hi0:Nat) (h0:OG w lo0 hi0 A0 c0 d0) (hl0:d0.length≤1048576) (lo1 hi1:Nat) (h1:OG w lo1 hi1 A1 c1 d1) (hl1:d1.length≤1048576) (res0:Int) (h:RankDropIs r0 s0 d0 r1 s1 d1 res0) :
  Calls Tryz.prog 14 #[.agg #[.int .i64 r0,.int .i64 s0,.slice A0 d0.length c0],.agg #[.int .i64 r1,.int .i64 s1,.slice A1 d1.length c1]] w fun e w'=>e=.returned (.int .i64 res0)∧Mid 0 0 w w':=by
 obtain ⟨rr,rs,res,b,hj,rfl⟩:=h;exact impl_RankDrop r0 s0 A0 d0 c0 r1 s1 A1 d1 c1 w lo0 hi0 lo1 hi1 h0.rg h1.rg hl0 hl1 h0.cnt.1 h1.cnt.1 rr rs res b hj
end
section
open Go.RowKit
def MarkerX (P:Prop):Prop:=P
theorem MarkerX.to {P:Prop} (h:MarkerX P):P:=h
theorem pcode_nat {na nb N:Nat} (hN:(na:Int) * (nb:Int)=(N:Int)) {p:Int × Int} (h:PIn na nb p):∃ q a b m:Nat,p=((a:Int),(b:Int))∧a < na∧b < nb∧(a:Int) * (nb:Int)=(m:Int)∧(m:Int)+(b:Int)=(q:Int)∧q < N∧pcode nb p=(q:Int)∧m≤q ∧
  Int.tdiv (q:Int) (nb:Int)=(a:Int)∧Int.tmod (q:Int) (nb:Int)=(b:Int):=by
 have h1:=pcode_rng h;have h2:=pcode_tdiv h;obtain ⟨x,y⟩:=p;obtain ⟨i1,i2,i3,i4⟩:=h;simp only at i1 i2 i3 i4;obtain ⟨a,rfl⟩:∃ a:Nat,x=a:=⟨x.toNat,by omega⟩
 obtain ⟨b,rfl⟩:∃ b:Nat,y=b:=⟨y.toNat,by omega⟩
 obtain ⟨m,hm⟩:∃ m:Nat,(a:Int) * (nb:Int)=(m:Int):=⟨a * nb,by simp⟩
 have h3:pcode nb ((a:Int),(b:Int))=((m+b:Nat):Int):=by
  unfold pcode;simp only;rw [hm];omega
 rw [h3,hN] at h1;rw [h3] at h2;exact ⟨m+b,a,b,m,rfl,by omega,by omega,hm,by omega,by omega,h3,by omega,h2.1,h2.2⟩
theorem pbStep_no1 {ea eb:List Ed} {p:Int × Int} {st:PS} {x:Int} (h:nextV ea p.1 x < 0):pbStep ea eb p st x=st:=by
 unfold pbStep;rw [if_pos (Or.inl h)]
theorem pbStep_no2 {ea eb:List Ed} {p:Int × Int} {st:PS} {x:Int} (h:nextV eb p.2 x < 0):pbStep ea eb p st x=st:=by
 unfold pbStep;rw [if_pos (Or.inr (Or.inl h))]
theorem pbStep_no3 {ea eb:List Ed} {p:Int × Int} {st:PS} {x:Int} (h:pbNext ea eb p x∈st):pbStep ea eb p st x=st:=by
 unfold pbStep;rw [if_pos (Or.inr (Or.inr h))]
theorem pbStep_yes {ea eb:List Ed} {p:Int × Int} {st:PS} {x:Int} (h1:¬ nextV ea p.1 x < 0) (h2:¬ nextV eb p.2 x < 0) (h3:pbNext ea eb p x ∉ st):pbStep ea eb p st x=st++[pbNext ea eb p x]:=by
 unfold pbStep;rw [if_neg (fun h=>h.elim h1 fun h=>h.elim h2 h3)]
theorem spec_l14Pairs (r na nb u v:Nat) (A B:Option Addr) (ea eb:List Ed) (c d:Nat) (w:World) (lo hi lo2 hi2:Nat) (hr:RG w lo hi A ea) (hr2:RG w lo2 hi2 B eb) (hg:IsGr r na ea) (hg2:IsGr r nb eb) (hu:u < na) (hv:v < nb) :
  Calls Tryz.prog 176 #[graV r na A ea.length c,graV r nb B eb.length d,.int .i64 u,.int .i64 v] w fun e w'=>∃ A1 c1,e=.returned (.slice A1 (pairsOf ea eb (lets r) (u,v)).length c1)∧RV w' 0 w'.heap.size A1 (ints ((pairsOf ea eb (lets r) (u,v)).map (pcode nb)))∧Mid 0 0 w w':=by
 have hna:na≤40:=by have:=hg.size;omega
 have hnb:nb≤40:=by have:=hg2.size;omega
 have hnb1:(0:Int) < (nb:Int):=by have:=hg2.size;omega
 have hnb0:¬ nb=0:=by omega
 have hr3:r≤3:=by have:=hg.rank;omega
 have hl:=hg.len;have hl2:=hg2.len;have hgl:∀ e∈ea,1≤e.l∧e.l≤3:=fun e he=>by have:=hg.all e he;unfold InG at this;omega
 have hgl2:∀ e∈eb,1≤e.l∧e.l≤3:=fun e he=>by have:=hg2.all e he;unfold InG at this;omega
 have hp0:PIn na nb ((u:Int),(v:Int)):=⟨Int.natCast_nonneg _,Int.ofNat_lt.2 hu,Int.natCast_nonneg _,Int.ofNat_lt.2 hv⟩
 have hmulb:(na:Int) * (nb:Int)≤40 * 40:=Int.mul_le_mul (by omega) (by omega) (by omega) (by omega);obtain ⟨N,hN⟩:∃ N:Nat,(na:Int) * (nb:Int)=(N:Int):=⟨na * nb,by simp⟩
 have hN16:N≤1600:=by rw [hN] at hmulb;omega
 obtain ⟨q0,u',v',m0,hpq, -, -,hm0e,hq0e,hq0,hpc0,hmq0, -, -⟩:=pcode_nat hN hp0;simp only [Prod.mk.injEq,Int.ofNat_inj] at hpq;obtain ⟨rfl,rfl⟩:=hpq;have hmx:N≤maxLen:=by unfold maxLen;omega
 have HP0:=Lib.hid hp0;have HPC:=Lib.hid hpc0;have HG:=Lib.hid hg;have HG2:=Lib.hid hg2;have HGL:=Lib.hid hgl;have HGL2:=Lib.hid hgl2;have HNN:=Lib.hid hN;have hm0:Mid 0 0 w ((w.alloc (.cells #[.int .i64 r,.int .i64 na,.slice A ea.length c] 26)).alloc (.cells #[.int .i64 r,.int .i64 nb,.slice B eb.length d] 26)):=(Mid.alloc _ _).trans (Mid.alloc _ _);have B0:=(Box.new w #[.int .i64 r,.int .i64 na,.slice A ea.length c] 26).mid (Mid.alloc _ (.cells #[.int .i64 r,.int .i64 nb,.slice B eb.length d] 26)) oZr;have B1:=Box.new (w.alloc (.cells #[.int .i64 r,.int .i64 na,.slice A ea.length c] 26)) #[.int .i64 r,.int .i64 nb,.slice B eb.length d] 26;rw [World.size_alloc] at B1;clear hg hg2 hgl hgl2 hp0 hpc0 hmulb;go_enter Tryz.func176,Tryz.ntmps176
 have p0:=B0.cell 0 rfl;have p1:=B0.cell 1 rfl;have p2:=B0.cell 2 rfl;have p'0:=B1.cell 0 rfl;have p'1:=B1.cell 1 rfl;have p'2:=B1.cell 2 rfl;go_wp2_with (at_make;refine MarkerX.to ?_)
 unfold MarkerX;refine wpList_mk rfl _ _ 124 rfl 4 (.bool false) 1 undSB infoB rfl .i64 .i64 _ _ N rfl rfl rfl rfl (by omega) hmx ?_;intro w2 hown2 hgr2 hsz2;simp only [World.size_alloc] at hown2 hsz2;have hm2:=hm0.trans (Mid.of_grown hgr2 (by intro g h;cases h));have hmg:=Mid.of_grown (lo:=0) (hi:=0) hgr2 (by intro g h;cases h);have hst2:=Mid.setAt w2 (w.heap.size+1+1) q0 (.bool true);replace B0:=B0.mid hmg oZr;replace B1:=B1.mid hmg oZr;clear hmg hm0 hgr2 p0 p1 p2 p'0 p'1 p'2;have B0s:=B0.mid hst2 (Or.inl (by omega));have B1s:=B1.mid hst2 (Or.inl (by omega));have hwa:w.heap.size < w2.heap.size:=by omega
 have hwb:w.heap.size+1 < w2.heap.size:=by omega
 have p0:=B0s.cell 0 rfl;have p'0:=B1s.cell 0 rfl;have p'1:=B1.cell 1 rfl;have hal:=hown2.alloc (.cells #[.int .i64 q0] 3);have hfz:=hal.frozenAt q0;obtain ⟨u0, -,hcs⟩:=owns_cell hal hq0;clear hal;have O0:=owns_lit (w2.setCell ⟨w.heap.size+1+1,q0,none⟩ (.bool true)) 3 (.int .i64 q0);have hset:=owns_set (ys:=seenOf N [(q0:Int)]) hown2 q0 (.bool true) (by rw [← seenOf_nil,seenOf_set hq0];rfl);have hms:=Mid.storeNew hm2 (p:=⟨w.heap.size+1+1,q0,none⟩) (Nat.le_succ_of_le (Nat.le_succ_of_le (Nat.le_refl _))) (.bool true);have hal:=Mid.alloc (w2.setCell ⟨w.heap.size+1+1,q0,none⟩ (.bool true)) (.cells #[.int .i64 q0] 3);simp only [World.size_setCell] at O0;go_wp2_with fail;with_reducible refine (spec_l5Letters r _ (by omega)).mono ?_
 rintro en w4 ⟨A4,c4,rfl,hL4,hm4⟩;have hs4:w2.heap.size+1≤w4.heap.size:=by have:=hm4.size;simpa using this
 rw [World.size_alloc,World.size_setCell] at hL4;replace B0s:=B0s.mid hal oZr;replace B1s:=B1s.mid hal oZr;replace hset:=owns_mid hset hal oZl;replace hms:=hms.trans hal;replace B0s:=B0s.mid hm4 oZr;replace B1s:=B1s.mid hm4 oZr;replace hset:=owns_mid hset hm4 oZl;replace O0:=owns_mid O0 hm4 oZl;replace hms:=hms.trans hm4;have hst0:(pbSt ea eb (lets r) ((u:Int),(v:Int)) 0).map (pcode nb)=[(q0:Int)]:=by
  show [pcode nb ((u:Int),(v:Int))]=_
  rw [HPC.out]
 have HST0:=Lib.hid hst0;clear p0 p'0 p'1 hal hm4 hm2 hst2 hcs hfz hown2 B0 B1 hst0 hm0e hq0e;have HLL:=Lib.hid (lets_len r);obtain ⟨LL,hLL⟩:∃ LL,(lets r).length=LL:=⟨_,rfl⟩
 have hLL6:LL≤6:=by have:=HLL.out;omega
 rw [hLL];have HLn:=Lib.hid hLL;clear hLL;go_wp2_with fail;go_loopw [10,12] (fun ord iv wr=>∃ (i n1:Nat) (A1:Option Addr) (c1:Nat),i≤n1∧iv=.int .i64 i∧ord=.slice A1 n1 c1∧Hid ((pbSt ea eb (lets r) (u,v) i).length=n1) ∧
   wr.ownsRow w2.heap.size 3 1 (.slice A1 n1 c1) n1 (ints ((pbSt ea eb (lets r) (u,v) i).map (pcode nb)))∧wr.ownsRow (w.heap.size+1+1) 4 1 (.slice (some ⟨w.heap.size+1+1,0,none⟩) N N) N (seenOf N ((pbSt ea eb (lets r) (u,v) i).map (pcode nb))) ∧
     Hid (RV wr (w2.heap.size+1) w4.heap.size A4 (ints (lets r)))∧Hid (∀ g,Value.ownBlock (.slice A1 n1 c1)=some g→g < w2.heap.size+1 ∨ w4.heap.size≤g)∧Box wr w.heap.size [.int .i64 r,.int .i64 na,.slice A ea.length c]∧Box wr (w.heap.size+1) [.int .i64 r,.int .i64 nb,.slice B eb.length d]∧Mid 0 0 w wr) (fun _ i _=>(1601 - intOf i).toNat)
 case atStart=>exact ⟨0,1,_,1,Nat.zero_le _,rfl,rfl,Lib.hid rfl,by rw [HST0.out];exact O0,by rw [HST0.out];exact hset,Lib.hid hL4,Lib.hid (fun g hg=>by injection hg with hg;simp at hg;omega),B0s,B1s,hms⟩
 case round =>
  clear O0 hset hL4 B0s B1s hms;obtain ⟨wo,hwo⟩:∃ wo,wo=wr:=⟨_,rfl⟩
  subst hwo;obtain ⟨i,n1,A1,c1,hin,rfl,rfl,HN,hord,hsee,HL4,HD,bx,bz,hm⟩:=hrel;have hn1:n1≤1600:=by have h1:=pb_len (lets r) HG.out HG2.out HP0.out i;have h2:=HN.out;omega
  have HOK:=Lib.hid (pbSt_ok (lets r) HG.out.all HG2.out.all HP0.out i);by_cases hlt:i < n1
  ·obtain ⟨p,hp⟩:=get_of_lt (pbSt ea eb (lets r) (u,v) i) (show i < (pbSt ea eb (lets r) (u,v) i).length by rw [HN.out];exact hlt)
   have hpin:=HOK.out.rng p (List.mem_of_getElem? hp);obtain ⟨q,a,b,m,rfl,ha,hb, -, -,hq,hpc, -,hqd,hqm⟩:=pcode_nat HNN.out hpin;have HP:=Lib.hid hp;have HQ:=Lib.hid hpc;have hNX:=Lib.hid (pbSt_succ hp);have hi0:(0:Int)≤(i:Int):=by omega
   clear hp hpin hpc;go_wp2_with fail;go_loopw [10,13] (fun ord jv wr=>∃ (j n1:Nat) (A1:Option Addr) (c1:Nat),j≤LL∧jv=.int .i64 j∧ord=.slice A1 n1 c1∧Hid ((pbRow ea eb ((lets r).take j) (a,b) (pbSt ea eb (lets r) (u,v) i)).length=n1) ∧
     wr.ownsRow w2.heap.size 3 1 (.slice A1 n1 c1) n1 (ints ((pbRow ea eb ((lets r).take j) (a,b) (pbSt ea eb (lets r) (u,v) i)).map (pcode nb)))∧wr.ownsRow (w.heap.size+1+1) 4 1 (.slice (some ⟨w.heap.size+1+1,0,none⟩) N N) N (seenOf N ((pbRow ea eb ((lets r).take j) (a,b) (pbSt ea eb (lets r) (u,v) i)).map (pcode nb))) ∧
     Hid (RV wr (w2.heap.size+1) w4.heap.size A4 (ints (lets r)))∧Hid (∀ g,Value.ownBlock (.slice A1 n1 c1)=some g→g < w2.heap.size+1 ∨ w4.heap.size≤g)∧Box wr w.heap.size [.int .i64 r,.int .i64 na,.slice A ea.length c]∧Box wr (w.heap.size+1) [.int .i64 r,.int .i64 nb,.slice B eb.length d]∧Mid 0 0 w wr) (fun _ j _=>LL - (intOf j).toNat)
   case atStart=>exact ⟨0,n1,_,c1,Nat.zero_le _,rfl,rfl,by rw [List.take_zero];exact HN,hord,hsee,HL4,HD,bx,bz,hm⟩
   case round =>
    clear hord hsee HL4 HD bx bz hm;obtain ⟨j,n1,A1,c1,hj,rfl,rfl,HN,hord,hsee,HL4,HD,bx,bz,hm⟩:=hrel;obtain ⟨stj,hstj⟩:∃ st,pbRow ea eb ((lets r).take j) (a,b) (pbSt ea eb (lets r) (u,v) i)=st:=⟨_,rfl⟩
    have hokj:PbOk na nb stj:=by rw [← hstj];exact PbOk.row HG.out.all HG2.out.all _ _ HOK.out
    have hpj:stj[i]?=some ((a:Int),(b:Int)):=by rw [← hstj];exact prefix_get (pbRow_pre _ _ _ _ _) HP.out
    rw [hstj] at HN hord hsee;have hn1b:n1≤1600:=by
     have h1:=hokj.len (Int.natCast_nonneg _) (Int.natCast_nonneg _);have h2:=HN.out;rw [HNN.out] at h1;omega
    by_cases hlt2:j < LL
    ·obtain ⟨B4,o4,x,rfl,hB4,hx,hcx⟩:=HL4.out.at (k:=j) (by rw [HLn.out];exact hlt2)
     have hxm:=lets_le (List.mem_of_getElem? hx);have hnx:=pbRow_take (ea:=ea) (eb:=eb) (p:=((a:Int),(b:Int))) (st:=pbSt ea eb (lets r) (u,v) i) hx;rw [hstj] at hnx;have hj0:(0:Int)≤(j:Int):=by omega
     have hj1:(j:Int) < (LL:Int):=by omega
     have hil:i < n1:=by have h1:=(List.getElem?_eq_some_iff.1 hpj).1;have h2:=HN.out;omega
     have hi1:(i:Int) < (n1:Int):=by omega
     obtain ⟨g1,rfl,hg1,hg1s⟩:=owns_addr hord (show 0 < n1 by omega);have hcu:wr.cell? ⟨g1,i,none⟩=some (.int .i64 q):=(hord.cellAt i (by omega)).trans (by rw [ints_get,List.getElem?_map,hpj];show some (Value.int .i64 (pcode nb ((a:Int),(b:Int))))=_;rw [HQ.out]);have hB4s:B4 < wr.heap.size:=Nat.lt_of_lt_of_le hB4 HL4.out.1;have hcs1:=nextV_cases HG.out.all (a:Int) x;have hcs2:=nextV_cases HG2.out.all (b:Int) x;have HOJ:=Lib.hid hokj;have HNX0:=Lib.hid hnx;have HX:=Lib.hid hx;have HPJ:=Lib.hid hpj;have HCS1:=Lib.hid hcs1;have HCS2:=Lib.hid hcs2;have hwa:IntKind.i64.wrap (a:Int)=(a:Int):=IntWalk.i64_in _ (by omega);have hwb:IntKind.i64.wrap (b:Int)=(b:Int):=IntWalk.i64_in _ (by omega);have k0:=wg_cell bx.1 (bx.cell 0 rfl);have k1:=wg_cell bx.1 (bx.cell 1 rfl);have k2:=wg_cell bx.1 (bx.cell 2 rfl);have k3:=wg_cell hg1s hcu;have k4:=wg_cell hB4s hcx;have k5:=wg_cell bz.1 (bz.cell 1 rfl);have hA:=fun m os=>spec_NextVertex r na A ea c a x (wg wr m os) lo hi (hr.mid (hm.trans (Mid.ofWg wr m os)) oZl) (by omega) HGL.out (by omega) (by omega);clear hx hokj hpj hstj hcu hcx hnx hcs1 hcs2;go_wp2_with fail;refine wp_region_quiet_wg (by kernel_rfl) (by kernel_rfl) ?_;repeat
      (with_reducible refine wpQuiet_step (fun K hK=>?_))
      go_simp
      first
       | ((with_reducible refine hK _ ?_);clear hK K)
       | (rw [if_neg (by decide)];(with_reducible refine hK _ ?_);clear hK K)
       | (apply Exists.intro;refine ⟨fun _=>?_,hK _ ?_⟩;((go_at_call 138;exact Calls.wg_of (hA _ _)));clear hK K)
     with_reducible refine wpQuiet_nil ?_
     intro _ hw';obtain ⟨⟨nq,osq⟩,hw''⟩:=hw';subst hw'';have hwg:=Mid.ofWg wr nq osq;generalize wg wr nq osq=w6 at hwg ⊢;replace bx:=bx.mid hwg oZr;replace bz:=bz.mid hwg oZr;replace hord:=owns_mid hord hwg oZl;replace hsee:=owns_mid hsee hwg oZl;replace hm:=hm.trans hwg;replace HL4:=Lib.hid (HL4.out.mid hwg oZl);have hg1s6:=Nat.lt_of_lt_of_le hg1s hwg.size;have hB4s6:B4 < w6.heap.size:=Nat.lt_of_lt_of_le hB4 HL4.out.1;obtain ⟨B5,o5,x5,hBe,hB5,hx5,hcx5⟩:=HL4.out.at (k:=j) (by rw [HLn.out];exact hlt2);injection hBe with hBe
     injection hBe with hBe1 hBe2
     subst hBe1;subst hBe2;have hxx:x5=x:=by have h:=HX.out;rw [hx5] at h;injection h
     subst hxx;have hcu6:w6.cell? ⟨g1,i,none⟩=some (.int .i64 q):=(hord.cellAt i (by omega)).trans (by rw [ints_get,List.getElem?_map,HPJ.out];show some (Value.int .i64 (pcode nb ((a:Int),(b:Int))))=_;rw [HQ.out]);clear k0 k1 k2 k3 k4 k5 hA;have k0:=wg_cell bz.1 (bz.cell 0 rfl);have k1:=wg_cell bz.1 (bz.cell 1 rfl);have k2:=wg_cell bz.1 (bz.cell 2 rfl);have k3:=wg_cell hg1s6 hcu6;have k4:=wg_cell hB4s6 hcx5;have hA:=fun m os=>spec_NextVertex r nb B eb d b x5 (wg w6 m os) lo2 hi2 (hr2.mid (hm.trans (Mid.ofWg w6 m os)) oZl) (by omega) HGL2.out (by omega) (by omega);clear hx5 hcx5 hcu6;go_wp2_with fail;refine wp_region_quiet_wg (by kernel_rfl) (by kernel_rfl) ?_;repeat
      (with_reducible refine wpQuiet_step (fun K hK=>?_))
      go_simp
      first
       | ((with_reducible refine hK _ ?_);clear hK K)
       | (rw [if_neg (by decide)];(with_reducible refine hK _ ?_);clear hK K)
       | (apply Exists.intro;refine ⟨fun _=>?_,hK _ ?_⟩;((go_at_call 138;exact Calls.wg_of (hA _ _)));clear hK K)
     with_reducible refine wpQuiet_nil ?_
     intro _ hw';obtain ⟨⟨nq,osq⟩,hw''⟩:=hw';subst hw'';have hwg2:=Mid.ofWg w6 nq osq;generalize wg w6 nq osq=w7 at hwg2 ⊢;replace bx:=bx.mid hwg2 oZr;replace bz:=bz.mid hwg2 oZr;replace hord:=owns_mid hord hwg2 oZl;replace hsee:=owns_mid hsee hwg2 oZl;replace hm:=hm.trans hwg2;replace HL4:=Lib.hid (HL4.out.mid hwg2 oZl);clear k0 k1 k2 k3 k4 hA hwg hwg2 hg1s6 hB4s6 hB4s hg1s;have k1:=bz.cell 1 rfl;by_cases ht1:nextV ea a x5 < 0
     ·have b1:decide (0≤nextV ea a x5)=false:=by simp;omega
      have HNX:=Lib.hid (HNX0.out.trans (pbStep_no1 ht1));clear ht1;go_wp2_with fail;go_roundw
      case rel=>exact ⟨j+1,n1,_,c1,by omega,by go_num,rfl,by rw [HNX.out];exact HN,by rw [HNX.out];exact hord,by rw [HNX.out];exact hsee,HL4,HD,bx,bz,hm⟩
      case measure=>simp [intOf];omega
     ·have b1:decide (0≤nextV ea a x5)=true:=by simp;omega
      by_cases ht2:nextV eb b x5 < 0
      ·have b2:decide (0≤nextV eb b x5)=false:=by simp;omega
       have HNX:=Lib.hid (HNX0.out.trans (pbStep_no2 ht2));clear ht1 ht2;go_wp2_with fail;go_roundw
       case rel=>exact ⟨j+1,n1,_,c1,by omega,by go_num,rfl,by rw [HNX.out];exact HN,by rw [HNX.out];exact hord,by rw [HNX.out];exact hsee,HL4,HD,bx,bz,hm⟩
       case measure=>simp [intOf];omega
      ·have hpin2:=pbNext_in HG.out.all HG2.out.all ((a:Int),(b:Int)) ht1 ht2
       obtain ⟨q',x',y',m',hpe,hx',hy',hme',hqe',hq',hpc',hmq', -, -⟩:=pcode_nat HNN.out hpin2;have htx:nextV ea a x5=(x':Int):=congrArg Prod.fst hpe;have hty:nextV eb b x5=(y':Int):=congrArg Prod.snd hpe;have HMEM:=Lib.hid (HOJ.out.mem hpin2);have HQ':=Lib.hid hpc';have HT1:=Lib.hid ht1;have HT2:=Lib.hid ht2;simp only [htx,hty];clear b1 ht1 ht2 hpe htx hty hpin2 hpc';have c1':decide ((0:Int)≤(x':Int))=true:=by simp
       have c2':decide ((0:Int)≤(y':Int))=true:=by simp
       obtain ⟨bb,hbb⟩:∃ bb:Bool,decide ((q':Int)∈stj.map (pcode nb))=bb:=⟨_,rfl⟩
       have hcs:=(hsee.cellAt q' (by omega)).trans (seenOf_get hq');rw [hbb] at hcs;cases bb with
       | true =>
        have hin':=HMEM.out.1 (by rw [HQ'.out];exact of_decide_eq_true hbb);have HNX:=Lib.hid (HNX0.out.trans (pbStep_no3 hin'));clear hbb hin';go_wp2_with fail;go_roundw
        case rel=>exact ⟨j+1,n1,_,c1,by omega,by go_num,rfl,by rw [HNX.out];exact HN,by rw [HNX.out];exact hord,by rw [HNX.out];exact hsee,HL4,HD,bx,bz,hm⟩
        case measure=>simp [intOf];omega
       | false =>
        have hnin:pbNext ea eb ((a:Int),(b:Int)) x5 ∉ stj:=fun h=>by
         have:=HMEM.out.2 h;rw [HQ'.out] at this;exact absurd this (of_decide_eq_false hbb)
        have HNX:=Lib.hid (HNX0.out.trans (pbStep_yes HT1.out HT2.out hnin));have HMAP:Hid ((stj++[pbNext ea eb ((a:Int),(b:Int)) x5]).map (pcode nb)=stj.map (pcode nb)++[(q':Int)]):=Lib.hid (by rw [List.map_append,← HQ'.out];rfl);have hst7:=Mid.setAt w7 (w.heap.size+1+1) q' (.bool true);have hfz:=hsee.frozenAt q';have hse8:=owns_set hsee q' (.bool true) (seenOf_set hq');have hord8:=owns_mid hord hst7 (Or.inl (by omega));have bx8:=bx.mid hst7 (Or.inl (by omega));have bz8:=bz.mid hst7 (Or.inl (by omega));have hm8:=hm.transNew hst7 (Or.inl (by omega));have HL8:=Lib.hid (HL4.out.mid hst7 (Or.inl (by omega)));have HO9:=Lib.hid hord8;have HS9:=Lib.hid hse8;have hsz7:w2.heap.size≤w7.heap.size:=by have:=HL4.out.1;omega
        have k1':=bz8.cell 1 rfl;clear hbb hnin hord hord8 hsee hse8 hst7;go_wp2_with (at_builtin;refine wpList_pushI2 rfl _ _ rfl w2.heap.size _ n1 c1 (stj.map (pcode nb)) rfl HO9.out q' (by rw [World.size_setCell];rfl) (by omega) (by rw [World.size_setCell];exact hsz7) ?_;intro A10 c10 w10 hord10 hgr10 hat10)
        rw [World.size_setCell] at hat10;have hm10:=Mid.of_grownRow HO9.out hgr10;have bx10:=bx8.mid hm10 (Or.inl (by omega));have bz10:=bz8.mid hm10 (Or.inl (by omega));have hsee10:=owns_other HS9.out hgr10 (fun h=>by simp [Value.ownBlock] at h;omega);have hL10:=HL8.out.grown hgr10 HD.out;have hmm10:=hm8.transNew hm10 (Or.inl (by omega));have hw47:w4.heap.size≤w7.heap.size:=HL4.out.1;have HD10:Hid (∀ g,Value.ownBlock (.slice A10 (n1+1) c10)=some g→g < w2.heap.size+1 ∨ w4.heap.size≤g):=Lib.hid (by
         intro g hg;rcases hat10 with h | h
         ·exact HD.out g (h.symm.trans hg)
         ·rw [h] at hg
          injection hg with hg
          omega)
        have HL10:=Lib.hid hL10;clear hL10 hat10 hgr10;go_roundw
        case rel=>exact ⟨j+1,n1+1,A10,c10,by omega,by go_num,rfl,Lib.hid (by rw [HNX.out,List.length_append,HN.out];rfl),by rw [HNX.out,HMAP.out];exact hord10,by rw [HNX.out,HMAP.out];exact hsee10,HL10,HD10,bx10,bz10,hmm10⟩
        case measure=>simp [intOf];omega
    ·obtain rfl:j=LL:=by omega
     have htk:(lets r).take j=lets r:=List.take_of_length_le (by rw [HLn.out];exact Nat.le_refl _);rw [htk] at hstj;have hnx:=hNX.out;rw [hstj] at hnx;have HNX:=Lib.hid hnx;have hin1:i+1≤n1:=by have h1:=(List.getElem?_eq_some_iff.1 hpj).1;have h2:=HN.out;omega
     clear hnx hstj hpj;go_wp2_with fail;go_roundw
     case rel=>exact ⟨i+1,n1,A1,c1,hin1,by go_num,rfl,by rw [HNX.out];exact HN,by rw [HNX.out];exact hord,by rw [HNX.out];exact hsee,HL4,HD,bx,bz,hm⟩
     case measure=>simp [intOf];omega
  ·obtain rfl:i=n1:=by omega
   have HPE:=Lib.hid (pairs_eq HG.out HG2.out HP0.out HN.out);go_wp2_with fail;go_ret;exact ⟨A1,c1,by rw [HPE.out,HN.out];rfl,by rw [HPE.out];exact (owns_rv hord).wide (Nat.zero_le _) (Nat.le_refl _) (Nat.le_refl _),hm⟩
end
section
open Go.RowKit
def WordsAt (w:World) (H B:Nat) (vals:List Value) (st:BS):Prop:=∀ p∈st,p.2≠[]→∃ b cw,vals[p.1.toNat]?=some (.slice (some ⟨b,0,none⟩) p.2.length cw)∧b < H∧b≠B∧b < w.heap.size∧∀ j u,(ints p.2)[j]?=some u→w.cell? ⟨b,j,none⟩=some u
theorem WordsAt.mid {w w':World} {H B:Nat} {vals:List Value} {st:BS} (h:WordsAt w H B vals st) (m:Mid 0 0 w w'):WordsAt w' H B vals st:=fun p hp hn=>by
 obtain ⟨b,cw,h1,h2,h3,h4,h5⟩:=h p hp hn;exact ⟨b,cw,h1,h2,h3,Nat.lt_of_lt_of_le h4 m.size,fun j u hu=>cell_keep m h4 oZr (h5 j u hu)⟩
theorem WordsAt.grown {w w':World} {H B:Nat} {vals:List Value} {st:BS} {row:Option Nat} (h:WordsAt w H B vals st) (hg:w.grownBy w' row) (hd:∀ g,row=some g→g=B ∨ H≤g):WordsAt w' H B vals st:=fun p hp hn=>by
 obtain ⟨b,cw,h1,h2,h3,h4,h5⟩:=h p hp hn;refine ⟨b,cw,h1,h2,h3,Nat.lt_of_lt_of_le h4 hg.size,fun j u hu=>(World.cell?_of_block (hg.block b h4 (fun e=>?_))).trans (h5 j u hu)⟩;rcases hd b e.symm with h0 | h0
 ·exact h3 h0
 ·omega
theorem TreeSt.wordsAt {w w1:World} {g n:Nat} {oB:Option Nat} {vals:List Value} {st:BS} {B:Nat} {e:TypeId} {size:Nat} {v:Value} (h:TreeSt w g oB n vals st) (hB:∀ j,w.cell? ⟨B,j,none⟩=none):WordsAt w w.heap.size B vals st:=fun p hp hn=>by
 obtain ⟨b,c,h1,h2,h3,h4,h5⟩:=h.on p hp;refine ⟨b,c,h1,h5,?_,h5,h2⟩;intro hb;subst hb;have hl:0 < p.2.length:=List.length_pos_iff.2 hn;have:=h2 0 (.int .i64 p.2[0]) (by rw [ints_get,List.getElem?_eq_getElem hl];rfl);rw [hB] at this;cases this
theorem ob_oneT {b g n c:Nat} (h:Value.ownBlock (.slice (some ⟨b,0,none⟩) n c)=some g):g=b:=(Option.some.inj (show some b=some g from h)).symm
theorem rv_get0 {w:World} {lo hi b j:Nat} {cs:List Value} {u:Value} (h:RV w lo hi (some ⟨b,0,none⟩) cs) (hu:cs[j]?=some u):w.cell? ⟨b,j,none⟩=some u:=by
 obtain ⟨b',off,e, -, -,hc⟩:=h.2 (by intro h0;subst h0;simp at hu);injection e with e
 injection e with e1 e2
 subst e1 e2;have:=hc j u hu;rw [Nat.zero_add] at this;exact this
theorem impl_treeEdges (r n:Nat) (A:Option Addr) (es:List Ed) (c:Nat) (w:World) (lo hi:Nat) (hr:RG w lo hi A es) (hf:IsFol r n es) :
  Calls Tryz.prog 212 #[graV r n A es.length c] w fun e w'=>∃ A1 c1,e=.returned (.slice A1 (canon (treeE es (bfs es (lets r) 0))).length c1)∧OG w' w.heap.size w'.heap.size A1 c1 (canon (treeE es (bfs es (lets r) 0)))∧Mid 0 0 w w':=by
 have hg:=hf.gr;have hn1:0 < n:=by have:=hg.size;omega
 have hn40:n≤40:=by have:=hg.size;omega
 have hl:=hg.len;have hgl:∀ e∈es,1≤e.l∧e.l≤3:=fun e he=>by have:=hg.all e he;have:=hg.rank;unfold InG at *;omega
 have hr3:r≤3:=by have:=hg.rank;omega
 have hbok:=bfs_ok (L:=lets r) (v:=0) hg.all (Int.le_refl _) (show (0:Int) < (n:Int) by omega);have hpar:=bfs_par es (lets r) 0;have hm0:Mid 0 0 w ((w.alloc (.cells #[.int .i64 r,.int .i64 n,.slice A es.length c] 26)).alloc (.cells #[] 68)):=(Mid.alloc _ _).trans (Mid.alloc _ _);have B0:=(Box.new w #[.int .i64 r,.int .i64 n,.slice A es.length c] 26).mid (Mid.alloc _ (.cells #[] 68)) oZr;have O0:=owns_empty (w.alloc (.cells #[.int .i64 r,.int .i64 n,.slice A es.length c] 26)) 68 3;have hB:∀ j,((w.alloc (.cells #[.int .i64 r,.int .i64 n,.slice A es.length c] 26)).alloc (.cells #[] 68)).cell? ⟨w.heap.size+1,j,none⟩=none:=fun j=>by
  have h:=World.cell?_alloc_new (w.alloc (.cells #[.int .i64 r,.int .i64 n,.slice A es.length c] 26)) #[] 68 j;rw [World.size_alloc] at h;rw [h]
  rfl
 simp only [World.size_alloc] at O0;have p0:=B0.cell 0 rfl;have p1:=B0.cell 1 rfl;have p2:=B0.cell 2 rfl;go_enter Tryz.func212,Tryz.ntmps212
 go_wp2_with fail;generalize (w.alloc (.cells #[.int .i64 r,.int .i64 n,.slice A es.length c] 26)).alloc (.cells #[] 68)=w1 at hm0 B0 O0 hB p0 p1 p2 ⊢;have hs1:w.heap.size+1 < w1.heap.size:=(O0.lt _ rfl).2;have hrg1:=hr.mid hm0 oZl;have hT:=impl_tree r n 0 A es c w1 lo hi hrg1 hg hn1;have h00:((0:Nat):Int)=0:=rfl;rw [h00] at hT;have hor:ordE r es 0=(bfs es (lets r) 0).map Prod.fst:=by unfold ordE;rw [Int.toNat_natCast]
 rw [hor] at hT;generalize hST:bfs es (lets r) 0=ST at hT hbok hpar ⊢;have HTL:=Lib.hid hT;have HSTE:=Lib.hid hST;clear hT h00 hor hST;with_reducible refine HTL.out.mono ?_
 rintro en w2 ⟨A1,c1,rfl,hm2,hord,vals,hval,hts⟩;have hlen:(ST.map Prod.fst).length=ST.length:=List.length_map ..;rw [hlen] at hord hts ⊢;have hM1:0 < ST.length:=List.length_pos_iff.2 hpar.ne;have hM40:ST.length≤n:=by have:=hbok.len (by omega);omega
 obtain ⟨m,hm⟩:∃ m,ST.length=m+1:=⟨ST.length - 1,by omega⟩
 have HM:=Lib.hid hm;rw [hm] at hord hts ⊢;obtain ⟨g1,rfl,hg11,hg12⟩:=owns_addr hord (Nat.succ_pos m);have hcap:=owns_cap hord;have hs2:=hm2.size;have hWD:=hts.wordsAt (w1:=w2) (e:=68) (size:=3) (v:=undef) (B:=w.heap.size+1) (fun j=>(World.cell?_of_block (hm2.block _ (by simpa using hs1) (by omega))).trans (hB j));have hRO:=(owns_rv hord).wide (lo':=w.heap.size+2) (hi':=w2.heap.size) (by omega) (Nat.le_refl _) (Nat.le_refl _);have hRV:=(owns_rv hval).wide (lo':=w.heap.size+2) (hi':=w2.heap.size) (by omega) (Nat.le_refl _) (Nat.le_refl _);clear p0 p1 p2 hord hval hts hlen hB HTL;replace B0:=B0.mid hm2 oZr;replace O0:=owns_mid O0 hm2 oZl;replace hm0:=hm0.trans hm2;have HO0:Hid (w2.ownsRow (w.heap.size+1) 68 3 (.slice (some ⟨w.heap.size+1,0,none⟩) 0 0) 0 (ints (edI ((treeE es ST).take 0)))):=Lib.hid O0;have HD0:Hid (∀ g,Value.ownBlock (.slice (some (⟨w.heap.size+1,0,none⟩:Addr)) 0 0)=some g→g=w.heap.size+1 ∨ w2.heap.size≤g):=Lib.hid (fun g hg=>.inl (ob_oneT hg));have HRO:=Lib.hid hRO;have HRV:=Lib.hid hRV;have HWD:=Lib.hid hWD;have hH2:w.heap.size+2≤w2.heap.size:=by omega
 clear O0 hRO hRV hWD hm2;generalize (some (⟨w.heap.size+1,0,none⟩:Addr))=A0 at HO0 HD0 ⊢;generalize hH:w2.heap.size=H2 at HRO HRV HWD HD0 hH2 hg12;generalize w1.heap.size+1=gv at HRV ⊢;have hsz2:H2≤w2.heap.size:=Nat.le_of_eq hH.symm;clear hH;by_cases hc1:c1=1
 ·subst hc1
  obtain rfl:m=0:=by omega
  have hT0:treeE es ST=[]:=by
   cases hST:ST with
   | nil=>rfl
   | cons p t =>
    have:=HM.out;rw [hST,List.length_cons] at this;have:t=[]:=List.eq_nil_of_length_eq_zero (by omega);subst this
    rfl
  have hnil:=HO0.out;rw [hT0] at hnil;have HT0:=Lib.hid hT0;clear hT0;go_wp2_with fail;go_loopw [3,20] (fun ov kv wr=>ov=.slice A0 0 0∧kv=.int .i64 0∧wr=w2) (fun _ _ _=>0)
  case atStart=>exact ⟨rfl,rfl,rfl⟩
  case round =>
   obtain ⟨rfl,rfl,rfl⟩:=hrel;have hrg:RG wr w.heap.size wr.heap.size A0 []:=(RV.wide (owns_rv hnil) (Nat.le_succ _) (Nat.le_refl _) (Nat.le_refl _))
   have HS:=Lib.hid (impl_sortedN A0 [] 0 0 wr _ _ rfl hrg (by omega));clear hrg hnil;go_wp2_with fail;with_reducible refine HS.out.mono ?_
   rintro en w5 ⟨A5,c5,rfl,hO5,hm5⟩;go_wp2_with fail;go_ret;rw [HSTE.out,HT0.out];exact ⟨A5,c5,rfl,hO5.wide hm0.size (Nat.le_refl _) (Nat.le_refl _),hm0.trans hm5⟩
 ·go_wp2_with fail
  go_loopw [3,20] (fun ov kv wr=>∃ (k:Nat) (A2:Option Addr) (c2:Nat),kv=.int .i64 k∧ov=.slice A2 k c2∧k≤m∧Hid (wr.ownsRow (w.heap.size+1) 68 3 (.slice A2 k c2) k (ints (edI ((treeE es ST).take k))))∧Hid (∀ g,Value.ownBlock (.slice A2 k c2)=some g→g=w.heap.size+1 ∨ H2≤g)∧Hid (RV wr (w.heap.size+2) H2 (some ⟨g1,0,none⟩) (ints (ST.map Prod.fst)))∧Hid (RV wr (w.heap.size+2) H2 (some ⟨gv,0,none⟩) vals)∧Hid (WordsAt wr H2 (w.heap.size+1) vals ST)∧Box wr w.heap.size [.int .i64 r,.int .i64 n,.slice A es.length c]∧H2≤wr.heap.size∧Mid 0 0 w wr) (fun _ kv _=>m - (intOf kv).toNat)
  case atStart=>exact ⟨0,A0,0,rfl,rfl,Nat.zero_le _,HO0,HD0,HRO,HRV,HWD,B0,hsz2,hm0⟩
  case round =>
   clear HO0 HD0 HRO HRV HWD B0 hsz2 hm0 hrg1;obtain ⟨wo,hwo⟩:∃ wo,wo=wr:=⟨_,rfl⟩
   subst hwo;obtain ⟨k,A2,c2,rfl,rfl,hk,HO,HD,HRO,HRV,HWD,B0,hsz,hm0⟩:=hrel;by_cases hlt:k < m
   ·obtain ⟨p,hp⟩:=get_of_lt ST (show k+1 < ST.length by rw [HM.out];omega)
    have hpm:=List.mem_of_getElem? hp;have hpt:p∈ST.tail:=by
     have h:ST.tail[k]?=some p:=by
      cases hST:ST with
      | nil=>rw [hST] at hp;simp at hp
      | cons a t=>rw [hST] at hp;simpa using hp
     exact List.mem_of_getElem? h
    have hed:(treeE es ST)[k]?=some (edgeOf es p):=by
     unfold treeE;cases hST:ST with
     | nil=>rw [hST] at hp;simp at hp
     | cons a t=>rw [hST] at hp;simp at hp;simp [hp]
    obtain ⟨p', -,x,hxL,hpe, -⟩:=hpar.par p hpt;have hx3:=mem_lets.1 hxL;have hp2:p.2=p'.2++[x]:=by rw [hpe]
    have hrng:=hbok.rng p hpm;obtain ⟨pv,hpv⟩:∃ n:Nat,p.1=n:=⟨p.1.toNat,by omega⟩
    obtain ⟨bw,cw,hvw,hbwH,hbwB,hbws,hcw⟩:=HWD.out p hpm (by rw [hp2];simp);obtain ⟨q,hq⟩:∃ q,p'.2.length=q:=⟨_,rfl⟩
    have hpl:p.2.length=q+1:=by rw [hp2,List.length_append,hq];rfl
    have hcx:=hcw q (.int .i64 x) (by rw [ints_get,hp2,List.getElem?_append_right (by omega),hq];simp);rw [hpv,Int.toNat_natCast,hpl] at hvw;have hcv:=rv_get0 HRV.out hvw;have hco:=rv_get0 HRO.out (show (ints (ST.map Prod.fst))[k+1]?=some (.int .i64 (pv:Int)) by rw [ints_get,List.getElem?_map,hp,← hpv];rfl);have heo:edgeOf es p=stepE (nextV es (pv:Int) (-x)) x (pv:Int):=by unfold edgeOf;rw [hp2,lastL_snoc,hpv]
    have hql:q≤100:=by
     have h1:=hbok.wl (k+1) p hp;have h2:=HM.out;omega
    have hwq:IntKind.i64.wrap (((q+1:Nat):Int) - 1)=(q:Int):=by rw [IntWalk.i64_in _ (by omega)];omega
    have hwn:IntKind.i64.wrap (-x) = -x:=IntWalk.i64_in _ (by omega);have hgvs:gv < wo.heap.size:=by obtain ⟨_,_,e, -,h, -⟩:=HRV.out.2 (by intro h0;rw [h0] at hvw;simp at hvw);injection e with e;injection e with e;have:=HRV.out.1;omega
    have hg1s:g1 < wo.heap.size:=by omega
    have hpvn:(pv:Int) < (n:Int):=by omega
    have hpv0:(0:Int)≤(pv:Int):=by omega
    have hk0:(0:Int)≤(k:Int):=by omega
    have hkm:(k:Int) < (m:Int):=by omega
    have hq0:(0:Int)≤(q:Int):=by omega
    have hqq:(q:Int) < (((q+1:Nat)):Int):=by omega
    rw [show k+1=1+k by omega] at hco;have HED:=Lib.hid hed;have HEO:=Lib.hid heo;have hNV:=impl_NextVertex r n A es c pv (-x) wo lo hi (hr.mid hm0 oZl) (by omega) hgl (by omega) (by omega);have hbb:w.heap.size < wo.heap.size:=B0.1;obtain ⟨u,hu⟩:∃ u,nextV es (pv:Int) (-x)=u:=⟨_,rfl⟩
    rw [hu] at hNV;have HNU:=Lib.hid hu;have z0:=B0.cell 0 rfl;have z1:=B0.cell 1 rfl;have z2:=B0.cell 2 rfl;clear hp hpm hpt hed hpe hp2 hpv hcw hvw hpl heo hq hu;go_wp2_with fail;with_reducible refine hNV.mono ?_
    rintro en w3 ⟨rfl,hm3⟩;have hST:=impl_step u x (pv:Int) w3 (by omega) (by omega);have HO3:=Lib.hid (owns_mid HO.out hm3 oZl);have HRO3:=Lib.hid (HRO.out.mid hm3 oZl);have HRV3:=Lib.hid (HRV.out.mid hm3 oZl);have HWD3:=Lib.hid (HWD.out.mid hm3);have B3:=B0.mid hm3 oZr;have hs3:=hm3.size;have hm03:=hm0.trans hm3;clear HO HRO HRV HWD B0 hm0 hm3 z0 z1 z2 hcx hcv hco hNV;go_wp2_with fail;with_reducible refine hST.mono ?_
    rintro en w4 ⟨rfl,hm4⟩;have HO4:=Lib.hid (owns_mid HO3.out hm4 oZl);have HRO4:=Lib.hid (HRO3.out.mid hm4 oZl);have HRV4:=Lib.hid (HRV3.out.mid hm4 oZl);have HWD4:=Lib.hid (HWD3.out.mid hm4);have B4:=B3.mid hm4 oZr;have hs4:=hm4.size;have hm04:=hm03.trans hm4;have HED2:Hid ((treeE es ST)[k]?=some (stepE u x (pv:Int))):=Lib.hid (by rw [HED.out,HEO.out,HNU.out]);clear HO3 HRO3 HRV3 HWD3 B3 hm03 hm4 hST HED HEO HNU;generalize stepE u x (pv:Int)=ed at HED2 ⊢;go_wp2_with (at_builtin;refine MarkerX.to ?_)
    unfold MarkerX;refine wpList_pushE2 rfl _ _ rfl (w.heap.size+1) A2 k c2 _ rfl HO4.out ed rfl (by omega) (by omega) ?_;intro A6 c6 w6 ho6 hgr6 hat6;have HO6:Hid (w6.ownsRow (w.heap.size+1) 68 3 (.slice A6 (k+1) c6) (k+1) (ints (edI ((treeE es ST).take (k+1))))):=Lib.hid (by
     obtain ⟨h1,h2⟩:=List.getElem?_eq_some_iff.1 HED2.out;rw [List.take_succ_eq_append_getElem h1,h2];exact ho6)
    have HRO6:=Lib.hid (HRO4.out.grown hgr6 (fun g hg=>by rcases HD.out g hg with h | h <;> omega));have HRV6:=Lib.hid (HRV4.out.grown hgr6 (fun g hg=>by rcases HD.out g hg with h | h <;> omega));have HWD6:=Lib.hid (HWD4.out.grown hgr6 HD.out);have B6:=B4.grown hgr6 (by intro h0;have:=HD.out _ h0;omega);have hm06:=hm04.grownNew hgr6 (fun g hg=>by have:=(HO4.out.lt g hg).1;omega);have hs6:=hgr6.size;have HD6:Hid (∀ g,Value.ownBlock (.slice A6 (k+1) c6)=some g→g=w.heap.size+1 ∨ H2≤g):=Lib.hid (by
     intro g hg;rcases hat6 with h | h
     ·exact HD.out g (h ▸ hg)
     ·rw [h] at hg
      injection hg with hg
      omega)
    clear ho6 hgr6 hat6 HO4 HRO4 HRV4 HWD4 B4 hm04 HD HED2;go_wp2_with fail;go_roundw
    case rel=>exact ⟨k+1,A6,c6,by go_num,rfl,by omega,HO6,HD6,HRO6,HRV6,HWD6,B6,by omega,hm06⟩
    case measure=>simp [intOf];omega
   ·obtain rfl:k=m:=by omega
    have htl:(treeE es ST).length=k:=by unfold treeE;rw [List.length_map,List.length_tail,HM.out];rfl
    have ho:=HO.out;rw [List.take_of_length_le (by omega)] at ho;have hrg:RG wo w.heap.size wo.heap.size A2 (treeE es ST):=(RV.wide (owns_rv ho) (Nat.le_succ _) (Nat.le_refl _) (Nat.le_refl _))
    have HS:=Lib.hid (impl_sortedN A2 (treeE es ST) k c2 wo _ _ htl hrg (by omega));clear hrg ho htl HO HD HRO HRV HWD B0;go_wp2_with fail;with_reducible refine HS.out.mono ?_
    rintro en w5 ⟨A5,c5,rfl,hO5,hm5⟩;go_wp2_with fail;go_ret;rw [HSTE.out];exact ⟨A5,c5,rfl,hO5.wide hm0.size (Nat.le_refl _) (Nat.le_refl _),hm0.trans hm5⟩
end
section
open Go.RowKit
end
section
open Go.RowKit
end
section
open Go.RowKit
section
variable {w w':World} {lo a b:Nat} {A:Option Addr} {n c:Nat} {rows:List Row} {Aa:Option Addr} {act:List (List Int)}
end
section
variable {W:World} {ops:Array Oper} {rest:List Oper} {o:Oper} {ac:Act} {Q:Exit→Act→World→Prop}
end
end
section
open Go.RowKit
section
variable {P:Program} (w:World)
end
section
variable {W:World} {ops:Array Oper} {rest:List Oper} {o:Oper} {a:Act} {Q:Exit→Act→World→Prop}
end
section
variable {W:World} {ops:Array Oper} {rest:List Oper} {o:Oper} {ac:Act} {Q:Exit→Act→World→Prop}
end
end
section
def oneW (f:List Int→Int→Bool) (L:List Int) (w:List Int):List (List Int):=(L.filter (f w)).map fun x=>w++[x]
def layStep (f:List Int→Int→Bool) (L:List Int) (l:List (List Int)):List (List Int):=l.flatMap (oneW f L)
def lay (f:List Int→Int→Bool) (L:List Int):Nat→List (List Int)
 | 0=>[[]]
 | n+1=>layStep f L (lay f L n)
def pre (f:List Int→Int→Bool) (L:List Int):Nat→List (List Int)
 | 0=>[]
 | n+1=>pre f L n++lay f L n
section
variable {f:List Int→Int→Bool} {L:List Int}
theorem oneW_len (w:List Int):(oneW f L w).length≤L.length:=by
 unfold oneW;rw [List.length_map];exact List.length_filter_le _ _
theorem layStep_len (l:List (List Int)):(layStep f L l).length≤l.length * L.length:=by
 induction l with
 | nil=>simp [layStep]
 | cons w t ih =>
  have h1:=oneW_len (f:=f) (L:=L) w;have h2:layStep f L (w :: t)=oneW f L w++layStep f L t:=rfl;rw [h2,List.length_append,List.length_cons,Nat.succ_mul];omega
theorem lay_len (hL:L.length≤6):∀ n,(lay f L n).length≤6 ^ n
 | 0=>by simp [lay]
 | n+1=>by
  have h1:=lay_len hL n;have h2:=layStep_len (f:=f) (L:=L) (lay f L n);have h3:(lay f L n).length * L.length≤6 ^ n * 6:=Nat.mul_le_mul h1 hL;rw [Nat.pow_succ];exact Nat.le_trans h2 h3
theorem lay_b (hL:L.length≤6) {n:Nat} (hn:n≤5):(lay f L n).length≤7776:=by
 have h1:=lay_len (f:=f) hL n;have h2:6 ^ n≤6 ^ 5:=Nat.pow_le_pow_right (by omega) hn;omega
theorem pre_b (hL:L.length≤6):∀ {n:Nat},n≤6→(pre f L n).length≤n * 7776
 | 0,_=>by simp [pre]
 | n+1,hn=>by
  have h1:=pre_b hL (n:=n) (by omega);have h2:=lay_b (f:=f) hL (n:=n) (by omega);rw [pre,List.length_append];omega
theorem mem_layStep {l:List (List Int)} {v:List Int}:v∈layStep f L l↔∃ w∈l,∃ x∈L,f w x=true∧v=w++[x]:=by
 unfold layStep oneW;simp only [List.mem_flatMap,List.mem_map,List.mem_filter];constructor
 ·rintro ⟨w,hw,x,⟨hx,hf⟩,rfl⟩
  exact ⟨w,hw,x,hx,hf,rfl⟩
 ·rintro ⟨w,hw,x,hx,hf,rfl⟩
  exact ⟨w,hw,x,⟨hx,hf⟩,rfl⟩
theorem lay_ok:∀ {n:Nat} {v:List Int},v∈lay f L n→v.length=n∧∀ x∈v,x∈L
 | 0,v,h=>by simp [lay] at h;subst h;simp
 | n+1,v,h=>by
  obtain ⟨w,hw,x,hx, -,rfl⟩:=mem_layStep.1 h;obtain ⟨h1,h2⟩:=lay_ok hw;refine ⟨by simp [h1],fun y hy=>?_⟩;rcases List.mem_append.1 hy with hy | hy
  ·exact h2 y hy
  ·simp at hy
   subst hy;exact hx
theorem pre_ok:∀ {n:Nat} {v:List Int},v∈pre f L n→v.length < n∧∀ x∈v,x∈L
 | 0,v,h=>by simp [pre] at h
 | n+1,v,h=>by
  rcases List.mem_append.1 h with h | h
  ·have:=pre_ok h
   exact ⟨by omega,this.2⟩
  ·have:=lay_ok h
   exact ⟨by omega,this.2⟩
theorem layStep_take {l:List (List Int)} {k:Nat} {w:List Int} (h:l[k]?=some w):layStep f L (l.take (k+1))=layStep f L (l.take k)++oneW f L w:=by
 obtain ⟨hk,h'⟩:=List.getElem?_eq_some_iff.1 h;rw [List.take_succ_eq_append_getElem hk,h'];unfold layStep;rw [List.flatMap_append];simp
theorem oneW_yes {w:List Int} {j:Nat} {x:Int} (h:L[j]?=some x) (hf:f w x=true):oneW f (L.take (j+1)) w=oneW f (L.take j) w++[w++[x]]:=by
 obtain ⟨hk,h'⟩:=List.getElem?_eq_some_iff.1 h;rw [List.take_succ_eq_append_getElem hk,h'];unfold oneW;rw [List.filter_append,List.map_append];simp [hf]
theorem oneW_no {w:List Int} {j:Nat} {x:Int} (h:L[j]?=some x) (hf:f w x=false):oneW f (L.take (j+1)) w=oneW f (L.take j) w:=by
 obtain ⟨hk,h'⟩:=List.getElem?_eq_some_iff.1 h;rw [List.take_succ_eq_append_getElem hk,h'];unfold oneW;rw [List.filter_append,List.map_append];simp [hf]
end
def okB (w:List Int) (x:Int):Bool:=!(w.getLast? == some (-x))
theorem okB_snoc (w:List Int) (y x:Int):okB (w++[y]) x=!(y == -x):=by simp [okB]
end
section
open Go.RowKit
end
section
open Go.RowKit
theorem impl_InvertWord (A:Option Addr) (xs:List Int) (c B:Nat) (w:World) (hr:Rs w B A (ints xs)) (hB:B≤w.heap.size) (hok:OkI xs) (hl:xs.length≤4194304) :
  Calls Tryz.prog 124 #[.slice A xs.length c] w fun e w'=>RetI 3 (invW xs) w e w':=by
 have HOK:=Lib.hid hok;clear hok;have hmx:xs.length≤maxLen:=by unfold maxLen;omega
 obtain ⟨i0,hi,hz0,hz1,hz2⟩:=info_parts infoI;have hby:i0.bytes * xs.length≤281474976710656:=by rw [hz2];omega
 go_enter Tryz.func124,Tryz.ntmps124
 go_wp2_with (at_make;refine wpList_make_own _ rfl _ _ 34 rfl w.heap.size 3 i0 (.int .i64 0) 1 undSI hi hz0 hz1 .i64 .i64 _ xs.length rfl rfl rfl hby hmx (Nat.le_refl _) ?_;intro w1 hown1 hgr1)
 have hb1:=below_none hgr1;clear hi hz0 hz1 hz2 hby;go_loopw [3,4] (fun v i wr=>∃ j:Nat,j≤xs.length∧i=.int .i64 ((j:Int) - 1)∧wr.ownsRow w.heap.size 3 1 v (xs.length - j) (ints (invW (xs.drop j)))∧Below w.heap.size w wr)
  (fun _ i _=>(intOf i+1).toNat)
 case atStart=>exact ⟨xs.length,Nat.le_refl _,rfl,by simpa [invW,ints] using hown1,hb1⟩
 case round =>
  obtain ⟨j,hj,rfl,hown,hb⟩:=hrel;have hsz:=hb.size;cases j with
  | zero =>
   go_wp2_with fail;go_ret;exact RetI.mk (by rw [invW_len]) (by simpa using hown) hb
  | succ m =>
   rw [show (((m+1:Nat):Int) - 1)=(m:Int) from by omega];obtain ⟨b,off,x,rfl, -,hx,hc⟩:=((hr.more hB).below hb).int (show m < xs.length by omega);have hbx:=HOK.out x (List.mem_of_getElem? hx);have HW:=Lib.hid (wrap_neg hbx.1 hbx.2);have HX:=Lib.hid hx;clear hx hbx;go_wp2_with (at_builtin;refine wpList_push rfl _ _ 34 rfl w.heap.size 3 (.int .i64 0) 1 8 undSI infoI rfl (by decide) _ _ _ rfl hown 1 [.int .i64 (wrap64 (-x))] rfl rfl ?c1 ?c2 ?c3 hsz ?next)
   case c1=>exact one_of_ints [wrap64 (-x)]
   case c2=>unfold maxLen;omega
   case c3=>omega
   case next =>
    intro v' w1 hown1 hgr _;go_wp2_with fail;go_roundw
    case rel =>
     refine ⟨m,by omega,rfl,?_,hb.grown hgr hsz (fun g hg=>(hown.lt g hg).1)⟩;rw [drop_of xs HX.out,invW_cons,ints_append,show xs.length - m=xs.length - (m+1)+1 from by omega,← HW.out];exact hown1
    case measure=>simp [intOf]
def halfN (xs:List Int):Nat:=(xs.length+1) / 2
def halfA (xs:List Int):List Int:=xs.take (halfN xs)
def halfB (xs:List Int):List Int:=(invW xs).take (halfN xs)
def halves (xs:List Int):List Int × List Int:=if 0 < cmpW (halfA xs) (halfB xs) then (halfB xs,halfA xs) else (halfA xs,halfB xs)
theorem okI_invW {xs:List Int} (h:OkI xs):OkI (invW xs):=by
 intro x hx;unfold invW at hx;rw [List.mem_reverse,List.mem_map] at hx;obtain ⟨y,hy,rfl⟩:=hx;have:=h y hy;unfold negI minI;split <;> omega
end
section
open Go.RowKit
end
section
open Go.RowKit
theorem pushE {w':World} {lo:Nat} {A2:Option Addr} {n c2:Nat} {xs:List Int} {y:Int} (h:w'.ownsRow lo 3 1 (.slice A2 (n+1) c2) (n+1) (ints (xs++[y]))) (hl:xs.length=n):w'.ownsRow lo 3 1 (Row.v ⟨A2,c2,xs++[y]⟩) (xs++[y]).length (ints (xs++[y])):=by
 have:(xs++[y]).length=n+1:=by rw [List.length_append,hl];rfl
 unfold Row.v;rw [this];exact h
end
section
open Go.RowKit
def WordsTo (rk:Int) (d:List (List Int)) (k:Nat):Prop:=∀ j xs,j < k→d[j]?=some xs→IsW rk xs
theorem WordsTo.zero (rk:Int) (d:List (List Int)):WordsTo rk d 0:=fun j x h=>absurd h (Nat.not_lt_zero j)
theorem WordsTo.succ {rk:Int} {d:List (List Int)} {k:Nat} {x:List Int} (h:WordsTo rk d k) (hx:d[k]?=some x) (hl:IsW rk x):WordsTo rk d (k+1):=by
 intro j z hj hz;rcases Nat.lt_or_eq_of_le (Nat.le_of_lt_succ hj) with h1 | rfl
 ·exact h j z h1 hz
 ·rw [hx] at hz
  obtain rfl:=Option.some.inj hz;exact hl
theorem wordsTo_all {rk:Int} {d:List (List Int)}:WordsTo rk d d.length↔∀ xs∈d,IsW rk xs:=by
 constructor
 ·intro h x hx
  obtain ⟨j,hj⟩:=List.mem_iff_getElem?.1 hx;exact h j x (List.getElem?_eq_some_iff.1 hj).1 hj
 ·exact fun h j x _ hx=>h x (List.mem_of_getElem? hx)
theorem bool_ofR (p:Prop):∃ r:Bool,r=true↔p:=by
 by_cases h:p
 ·exact ⟨true,by simp [h]⟩
 ·exact ⟨false,by simp [h]⟩
theorem row_le {d:List (List Int)} {xs:List Int} (h:xs∈d) (hl:d.length+sumL d≤1048576):xs.length≤4194304:=by
 have:=len_le_sumL h;omega
end
section
open Go.RowKit
def PrOut (w wr:World) (v:Value) (out:List Int):Prop:=wr.ownsRow w.heap.size 3 1 v out.length (ints out)∧Below w.heap.size w wr
theorem impl_product (A:Option Addr) (d:List (List Int)) (c:Nat) (w:World) (lo hi:Nat) (hr:RSS w lo hi A d) (hok:∀ xs∈d,OkI xs) (hl:d.length≤4194304) (hs:sumL d≤268435456) :
  Calls Tryz.prog 122 #[.slice A d.length c] w fun e w'=>RetI 3 (red [] d.flatten) w e w':=by
 have HOK:=Lib.hid hok;clear hok;have hb0:=(Below.refl w.heap.size w).alloc (Nat.le_refl _) (.cells #[] 3);have ho0:=owns_empty w 3 1;go_enter Tryz.func122,Tryz.ntmps122
 go_wp2_with fail;go_loopw [3,5,7,11] (fun v _ _ i wr=>∃ k:Nat,k≤d.length∧i=.int .i64 k∧PrOut w wr v (red [] (d.take k).flatten)) (fun _ _ _ i _=>d.length - (intOf i).toNat)
 case atStart=>exact ⟨0,Nat.zero_le _,rfl,by simpa [red,ints] using ho0,hb0⟩
 case round =>
  obtain ⟨k,hk,rfl,hown,hb⟩:=hrel;by_cases hlt:k < d.length
  ·obtain ⟨b,off,A',c',xs,rfl, -,hbh,hx,hc,hrx⟩:=hr.row hlt
   have hhi:=hr.size;have hcw:wr.cell? ⟨b,off+k,none⟩=some (.slice A' xs.length c'):=(hb.cell (by simp;omega)).trans hc;have hm:=List.mem_of_getElem? hx;have hox:=HOK.out xs hm;have hlx:=len_le_sumL hm;have hlx1:xs.length≤268435456:=by omega
   obtain ⟨out0,hout0⟩:∃ o,o=red [] (d.take k).flatten:=⟨_,rfl⟩
   have hstep:=red_flatten_step d hx;rw [← hout0] at hown hstep;have hok0:OkI out0:=by
    rw [hout0];exact red_ok (okI_flatten fun ys hy=>HOK.out ys (List.mem_of_mem_take hy))
   have hl0:out0.length+xs.length≤268435456:=by
    have h1:=red_nil_len (d.take k).flatten;rw [← hout0,sumL_flatten] at h1;have h2:=sumL_take_succ hx;have h3:=sumL_take_le d (k+1);omega
   have HX:=Lib.hid hx;have HS:=Lib.hid hstep;have HO0:=Lib.hid hok0;have HOX:=Lib.hid hox;clear hx hm hox hout0 hstep hok0 hlx;go_wp2_with fail;go_loopw [3,7,17] (fun v _ j wr2=>∃ l:Nat,l≤xs.length∧j=.int .i64 l∧PrOut w wr2 v (red out0 (xs.take l))) (fun _ _ j _=>xs.length - (intOf j).toNat)
   case atStart=>exact ⟨0,Nat.zero_le _,rfl,hown,hb⟩
   case round =>
    clear hown hb hcw;obtain ⟨l,hlk,rfl,hown,hb⟩:=hrel;have hsz:=hb.size;by_cases hl2:l < xs.length
    ·obtain ⟨b',off',x,rfl, -,hxx,hcx⟩:=((hrx.rs.more hhi).below hb).int hl2
     have hst:=red_step xs hxx out0;have hbx:=HOX.out x (List.mem_of_getElem? hxx);have hlen:=red_len out0 (xs.take l);rw [List.length_take] at hlen;obtain ⟨out1,ho1⟩:∃ o,o=red out0 (xs.take l):=⟨_,rfl⟩
     rw [← ho1] at hown hst hlen;have hok1:OkI out1:=fun y hy=>by
      rw [ho1] at hy;rcases red_mem hy with h1 | h1
      ·exact HO0.out y h1
      ·exact HOX.out y (List.mem_of_mem_take h1)
     clear ho1 hxx;have HST:=Lib.hid hst;have HBX:=Lib.hid hbx;clear hst hbx;rcases Nat.eq_zero_or_pos out1.length with he | hp
     ·obtain rfl:=List.eq_nil_of_length_eq_zero he
      clear he hok1 hlen;obtain ⟨A1,c1,rfl, -, -⟩:=owns_shape hown;go_wp2_with (at_builtin;refine wpList_push rfl _ _ 34 rfl w.heap.size 3 (.int .i64 0) 1 8 undSI infoI rfl (by decide) _ _ _ rfl hown 1 [.int .i64 x] rfl rfl (one_of_ints [x]) (by unfold maxLen;simp) (by simp) hsz ?n1)
      case n1 =>
       intro v' w1 hown1 hgr _;go_wp2_with fail;go_roundw
       case rel =>
        refine ⟨l+1,by omega,by go_num,?_,hb.grown hgr hsz (fun g hg=>(hown.lt g hg).1)⟩;rw [HST.out,redStep_empty];exact hown1
       case measure=>simp [intOf];omega
     ·obtain ⟨ys,a,rfl⟩:=eq_concat out1 hp
      have hba:=hok1 a (by simp);rw [List.length_append] at hown hlen;simp only [List.length_cons,List.length_nil,Nat.zero_add] at hown hlen;clear hp hok1;obtain ⟨A1,c1,rfl,hnc, -⟩:=owns_shape hown;obtain ⟨g,rfl, -, -⟩:=owns_addr hown (Nat.succ_pos _);have hca:wr.cell? ⟨g,ys.length,none⟩=some (.int .i64 a):=by
       rw [hown.cellAt ys.length (by omega)];simp [ints]
      have HA:=Lib.hid hba;obtain ⟨ha1,ha2⟩:=hba;by_cases hI:invB a x=true
      ·have HI:=Lib.hid hI
       clear hI;have hys:ys.length≤c1:=by omega
       go_wp2_with fail;refine (impl_areInverse _ _ _ ha1 ha2).mono ?_;rintro e w' ⟨rfl,rfl⟩;rw [HI.out];go_wp2_with fail;go_roundw
       case rel =>
        refine ⟨l+1,by omega,by go_num,?_,hb⟩;rw [HST.out,redStep_pop HI.out];have h1:=owns_cut hown (Nat.le_succ ys.length);rw [Nat.mul_one,ints_append,List.take_left' (ints_len ys)] at h1;exact h1
       case measure=>simp [intOf];omega
      ·have hI':invB a x=false:=by simpa using hI
       have HI:=Lib.hid hI';clear hI hI';go_wp2_with fail;refine (impl_areInverse _ _ _ ha1 ha2).mono ?_;rintro e w' ⟨rfl,rfl⟩;rw [HI.out];go_wp2_with (at_builtin;refine wpList_push rfl _ _ 34 rfl w.heap.size 3 (.int .i64 0) 1 8 undSI infoI rfl (by decide) _ _ _ rfl hown 1 [.int .i64 x] rfl rfl (one_of_ints [x]) (by unfold maxLen;omega) (by omega) hsz ?n2)
       case n2 =>
        intro v' w1 hown1 hgr _;go_wp2_with fail;go_roundw
        case rel =>
         refine ⟨l+1,by omega,by go_num,?_,hb.grown hgr hsz (fun g hg=>(hown.lt g hg).1)⟩;rw [HST.out,redStep_push HI.out,ints_append,List.length_append,List.length_append];exact hown1
        case measure=>simp [intOf];omega
    ·obtain rfl:l=xs.length:=by omega
     rw [List.take_length] at hown;go_wp2_with fail;go_roundw
     case rel =>
      refine ⟨k+1,by omega,by go_num,?_,hb⟩;rw [HS.out];exact hown
     case measure=>simp [intOf];omega
  ·obtain rfl:k=d.length:=by omega
   rw [List.take_length] at hown;go_wp2_with fail;go_ret;exact RetI.mk rfl hown hb
end
section
open Go.RowKit
end
section
open Go.RowKit
end
end Go.Proofs.YthampgpcajmopaaGreat
