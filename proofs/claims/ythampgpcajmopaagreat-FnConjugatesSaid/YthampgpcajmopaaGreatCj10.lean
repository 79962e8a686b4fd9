/- Contracts and lemmas of this seat, many texts in one: see the words ahead of each. No condition beyond those typed in each lemma. -/
import Derived.Test.YthampgpcajmopaaGreatCj6
import Derived.Test.YthampgpcajmopaaGreatCj8
import Derived.Test.YthampgpcajmopaaGreatCj1
import Derived.Test.YthampgpcajmopaaGreatCj4
import Derived.Test.YthampgpcajmopaaGreatCj3
import Derived.Test.YthampgpcajmopaaGreatCj9
import Derived.Test.YthampgpcajmopaaGreatCj7
import Derived.Test.YthampgpcajmopaaGreatCj2
import Derived.Test.YthampgpcajmopaaGreatCj5

namespace Go.Proofs.YthampgpcajmopaaGreat
set_option linter.unusedVariables false
set_option linter.unusedSimpArgs false
set_option maxHeartbeats 40000000
set_option maxRecDepth 100000
section
open Go.RowKit
theorem spec_AddPetal (r s:Int) (A:Option Addr) (es:List Ed) (c:Nat) (Aw:Option Addr) (wd:List Int) (cw:Nat) (w:World) (lo hi lo' hi':Nat) (hr:RG w lo hi A es) (hw:RV w lo' hi' Aw (ints wd)) (hl:es.length≤1048576) (hwl:wd.length≤1048576) (hok:OkI wd) (rs:Int) (res:List Ed) (b:Bool) (hres:PathIs r s es 0 wd 0 rs res b) :
  Calls Tryz.prog 105 #[graV r s A es.length c,.slice Aw wd.length cw] w fun e w'=>∃ A1 c1,e=.returned (.tuple #[graV r rs A1 res.length c1,.bool b])∧OG w' w.heap.size w'.heap.size A1 c1 res∧Mid 0 0 w w':=by
 have hm0:Mid 0 0 w ((w.alloc (.cells #[.int .i64 r,.int .i64 s,.slice A es.length c] 26)).alloc (.cells #[.int .i64 0,.int .i64 0,.slice none 0 0] 26)):=(Mid.alloc _ _).trans (Mid.alloc _ _);have b0:=(Box.new w #[.int .i64 r,.int .i64 s,.slice A es.length c] 26).mid (Mid.alloc _ (.cells #[.int .i64 0,.int .i64 0,.slice none 0 0] 26)) oZr;have b2:=Box.new (w.alloc (.cells #[.int .i64 r,.int .i64 s,.slice A es.length c] 26)) #[.int .i64 0,.int .i64 0,.slice none 0 0] 26;simp only [World.size_alloc] at b2;have HR:=Lib.hid hres;have HOK:=Lib.hid hok;clear hres hok;go_enter Tryz.func105,Tryz.ntmps105
 go_wp2_with fail;generalize ((w.alloc (.cells #[.int .i64 r,.int .i64 s,.slice A es.length c] 26)).alloc (.cells #[.int .i64 0,.int .i64 0,.slice none 0 0] 26))=w1 at hm0 b0 b2 ⊢;have hs1:w.heap.size+1 < w1.heap.size:=b2.1;with_reducible refine (spec_AddPath r s A es c 0 Aw wd cw 0 w1 _ _ _ _ (hr.mid hm0 oZl) (hw.mid hm0 oZl) hl hwl HOK.out rs res b HR.out).mono ?_
 rintro en w2 ⟨A2,c2,rfl,ho2,hm2⟩;replace b0:=b0.mid hm2 oZr;replace b2:=b2.mid hm2 oZr;replace hm0:=hm0.trans hm2;have hs2:=hm2.size;have ha2:=Mid.alloc w2 (.cells #[.int .i64 r,.int .i64 rs,.slice A2 res.length c2] 26);have Y2:=Box.new w2 #[.int .i64 r,.int .i64 rs,.slice A2 res.length c2] 26;have hs4:w.heap.size+1 < w2.heap.size:=by omega
 have hs5:w.heap.size < w2.heap.size:=by omega
 have q0:=Y2.cell 0 rfl;have q1:=Y2.cell 1 rfl;have q2:=Y2.cell 2 rfl;have z0:=b2.cell 0 rfl;have z1:=b2.cell 1 rfl;have z2:=b2.cell 2 rfl;have zf:=b2.2.2;clear ha2;go_wp2_with fail;refine bodyPost_ret (v:=.tuple #[.agg #[.int .i64 r,.int .i64 rs,.slice A2 res.length c2],.bool b]) (by simp [results,Tryz.results105,go_sem,z0,z1,z2,zf,q0,q1,q2,hs4,hs5,World.cell?_alloc_lt]) rfl ⟨A2,c2,rfl,?_,?_⟩
 ·refine OG.wide (OG.mid ho2 (a:=w.heap.size+1) (b:=w.heap.size+2) ?_ (Or.inl (by omega))) (by omega) (by simp;try omega) (Nat.le_refl _)
  repeat (first | exact Mid.refl _ _ _ | refine Mid.trans ?_ (Mid.zero (Mid.alloc _ _)) | refine Mid.stored ?_ _ (by simp;try omega) (by simp;try omega))
 ·repeat (first | exact hm0 | refine Mid.trans ?_ (Mid.alloc _ _) | refine Mid.storeNew ?_ (by simp;try omega) _)
end
section
open Go.RowKit
theorem inB_rank {x:Int} {b:Bool} (hb:b=true↔1≤x∧x≤3):inB x 1 3=b:=by
 cases b with
 | true=>have:=hb.1 rfl;unfold inB;simp;omega
 | false =>
  have h:¬ (1≤x∧x≤3):=fun h=>by have:=hb.2 h;cases this
  unfold inB;simp;omega
end
section
open Go.RowKit
def AreW (rk:Int) (d:List (List Int)):Prop:=1≤rk∧rk≤3∧d.length≤6∧(∀ xs∈d,IsW rk xs)∧sumL d < 40
theorem spec_TotalLength (A:Option Addr) (d:List (List Int)) (c:Nat) (w:World) (lo hi:Nat) (hr:RSS w lo hi A d) (hl:d.length+sumL d≤1048576) :
  Calls Tryz.prog 268 #[.slice A d.length c] w fun e w'=>e=.returned (.int .i64 (sumL d:Nat))∧w=w':=by
 go_enter Tryz.func268,Tryz.ntmps268
 go_wp2_with fail;go_loop [3,4] (fun n i=>∃ k:Nat,k≤d.length∧i=.int .i64 k∧n=.int .i64 (sumL (d.take k):Nat)) (fun _ i=>d.length - (intOf i).toNat)
 case atStart=>exact ⟨0,Nat.zero_le _,rfl,by simp [sumL]⟩
 case round =>
  obtain ⟨k,hk,rfl,rfl⟩:=hrel;have hs:=sumL_take_le d k;by_cases hlt:k < d.length
  ·obtain ⟨b,off,A1,c1,xs,rfl, -, -,hx,hcx, -⟩:=hr.row hlt
   have hst:=sumL_take_succ hx;have hs2:=sumL_take_le d (k+1);have hsum:sumL (d.take k)+xs.length≤1048576:=by omega
   have hlt3:(k:Int) < (d.length:Int):=by omega
   have HST:=Lib.hid hst;clear hst hs2 hx;go_wp2_with fail;go_round
   case rel=>exact ⟨k+1,by omega,by go_num,by rw [HST.out];go_num⟩
   case measure=>simp [intOf];omega
  ·obtain rfl:k=d.length:=by omega
   go_wp2_with fail;go_ret;exact ⟨by first | rfl | rw [List.take_length] | simp,rfl⟩
theorem bool_false {r:Bool} {p:Prop} (h:r=true↔p) (hn:¬ p):r=false:=by
 cases r with
 | false=>rfl
 | true=>exact absurd (h.1 rfl) hn
theorem spec_AreWords (rk:Int) (A:Option Addr) (d:List (List Int)) (c:Nat) (w:World) (lo hi:Nat) (hr:RSS w lo hi A d) (hok:∀ xs∈d,OkI xs) (hl:d.length+sumL d≤1048576) (r:Bool) (hres:r=true↔AreW rk d) :
  Calls Tryz.prog 262 #[.int .i64 rk,.slice A d.length c] w fun e w'=>e=.returned (.bool r)∧∃ n,w'=w.drewN n:=by
 have HOK:=Lib.hid hok;have HR:=Lib.hid hres;clear hok hres;go_enter Tryz.func262,Tryz.ntmps262
 go_wp2_with fail;go_loopw [5] (fun i wr=>∃ k:Nat,k≤d.length∧i=.int .i64 k∧WordsTo rk d k∧∃ n,wr=w.drewN n) (fun i _=>d.length - (intOf i).toNat)
 case atStart=>exact ⟨0,Nat.zero_le _,rfl,WordsTo.zero _ _,0,rfl⟩
 case round =>
  obtain ⟨k,hk,rfl,hw,nd,rfl⟩:=hrel;have HW:=Lib.hid hw;clear hw;by_cases hlt:k < d.length
  ·obtain ⟨b,off,A1,c1,xs,rfl, -, -,hx,hcx,hrx⟩:=hr.row hlt
   have hlx:=row_le (List.mem_of_getElem? hx) hl;have hox:=HOK.out xs (List.mem_of_getElem? hx);have HOX:=Lib.hid hox;have HX:=Lib.hid hx;have hlt3:(k:Int) < (d.length:Int):=by omega
   clear hx hox;obtain ⟨v,hv⟩:=bool_ofR (IsW rk xs);have HV:=Lib.hid hv;clear hv;cases hvc:v with
   | false =>
    subst hvc;go_wp2_with fail;with_reducible refine (spec_IsWord rk A1 xs c1 _ _ (hrx.rs.drewN nd) HOX.out hlx false HV.out).mono ?_
    rintro e w' ⟨rfl,n2,rfl⟩;go_wp2_with fail;go_ret;obtain rfl:r=false:=bool_false HR.out (fun h=>by have:=HV.out.2 (h.2.2.2.1 xs (List.mem_of_getElem? HX.out));cases this);exact ⟨rfl,_,by first | rfl | exact dn _ _ _⟩
   | true =>
    subst hvc;have HV2:=Lib.hid (HV.out.1 rfl);clear HV;go_wp2_with fail;with_reducible refine (spec_IsWord rk A1 xs c1 _ _ (hrx.rs.drewN nd) HOX.out hlx true (iff_of_true rfl HV2.out)).mono ?_
    rintro e w' ⟨rfl,n2,rfl⟩;go_wp2_with fail;go_roundw
    case rel=>exact ⟨k+1,by omega,by go_num,HW.out.succ HX.out HV2.out,_,by first | rfl | exact dn _ _ _⟩
    case measure=>simp [intOf];omega
  ·obtain rfl:k=d.length:=by omega
   by_cases hb:inB rk 1 3=false
   ·obtain rfl:r=false:=bool_false HR.out (fun h=>by simp [inB] at hb;have:=h.1;have:=h.2.1;omega)
    have HB:=Lib.hid hb;clear hb;go_wp2_with fail;with_reducible refine (l1In_any _ _ _ _).mono ?_
    rintro e w' ⟨rfl,rfl⟩;rw [HB.out];go_wp2_with fail;go_ret;exact ⟨rfl,_,rfl⟩
   ·have hb':inB rk 1 3=true:=by simpa using hb
    have HB:=Lib.hid hb';have hrk:1≤rk∧rk≤3:=by simpa [inB] using hb'
    clear hb hb';by_cases h6:6 < d.length
    ·obtain rfl:r=false:=bool_false HR.out (fun h=>by have:=h.2.2.1;omega)
     have h63:¬ (d.length:Int)≤6:=by omega
     go_wp2_with fail;with_reducible refine (l1In_any _ _ _ _).mono ?_
     rintro e w' ⟨rfl,rfl⟩;rw [HB.out];go_wp2_with fail;go_ret;exact ⟨by first | rfl | (simp;omega),_,rfl⟩
    ·have h63:(d.length:Int)≤6:=by omega
     by_cases h40:sumL d < 40
     ·obtain rfl:r=true:=HR.out.2 ⟨hrk.1,hrk.2,by omega,wordsTo_all.1 HW.out,h40⟩
      have h403:(sumL d:Int) < 40:=by omega
      go_wp2_with fail;with_reducible refine (l1In_any _ _ _ _).mono ?_
      rintro e w' ⟨rfl,rfl⟩;rw [HB.out];go_wp2_with fail;with_reducible refine (spec_TotalLength A d c (w.drewN nd) _ _ (hr.mid ((Mid.refl 0 0 w).drewN nd) oZl) hl).mono ?_
      rintro e w' ⟨rfl,rfl⟩;go_wp2_with fail;go_ret;exact ⟨by simp [h403],_,rfl⟩
     ·obtain rfl:r=false:=bool_false HR.out (fun h=>h40 h.2.2.2.2)
      have h403:¬ (sumL d:Int) < 40:=by omega
      go_wp2_with fail;with_reducible refine (l1In_any _ _ _ _).mono ?_
      rintro e w' ⟨rfl,rfl⟩;rw [HB.out];go_wp2_with fail;with_reducible refine (spec_TotalLength A d c (w.drewN nd) _ _ (hr.mid ((Mid.refl 0 0 w).drewN nd) oZl) hl).mono ?_
      rintro e w' ⟨rfl,rfl⟩;go_wp2_with fail;go_ret;exact ⟨by simp;omega,_,rfl⟩
end
section
open Go.RowKit
theorem empty_gr {r:Int} (h:1≤r∧r≤3):IsGr r 1 []:=⟨h,by omega,by simp,by simp,List.Pairwise.nil⟩
structure FlOk (r:Int) (l:List (List Int)) (k:Nat) (g:Int × List Ed):Prop where
 gr:IsGr r g.1 g.2
 sz:g.1≤1+(sumL (l.take k):Nat)
 ln:g.2.length≤sumL (l.take k)
theorem FlOk.path {r:Int} {l:List (List Int)} {k:Nat} {g:Int × List Ed} {w:List Int} (ha:AreW r l) (h:FlOk r l k g) (hw:l[k]?=some w) (hn:w≠[]):PathOk r g.1 g.2 0 w 0:=by
 have h1:=sumL_take_succ hw;have h2:=sumL_take_le l (k+1);have h3:=ha.2.2.2.2;have h4:=h.sz;have h5:=h.ln;have h6:=h.gr.size;exact ⟨h.gr,by omega,by omega,ha.2.2.2.1 w (List.mem_of_getElem? hw),hn,by omega,by omega⟩
theorem FlOk.step {r:Int} {l:List (List Int)} {k:Nat} {g:Int × List Ed} {w:List Int} (ha:AreW r l) (h:FlOk r l k g) (hw:l[k]?=some w):FlOk r l (k+1) (petalA g w):=by
 have h1:=sumL_take_succ hw;by_cases hn:w=[]
 ·subst hn
  have h4:=h.sz;have h5:=h.ln;simp only [List.length_nil] at h1;rw [petalA,if_pos rfl];exact ⟨h.gr,by omega,by omega⟩
 ·have hp:=h.path ha hw hn
  have h4:=h.sz;have h5:=h.ln;have h6:=canon_len (g.2++pathE 0 g.1 w 0 w.length);have h7:0 < w.length:=List.length_pos_iff.2 hn;rw [List.length_append,pathE_len] at h6;rw [petalA,if_neg hn];exact ⟨path_gr hp,by simp only;omega,by simp only;omega⟩
theorem FlOk.zero {r:Int} (l:List (List Int)) (h:1≤r∧r≤3):FlOk r l 0 (1,[]):=⟨empty_gr h,by simp [sumL],by simp⟩
theorem fl_ok {r:Int} {l:List (List Int)} (ha:AreW r l):∀ k,k≤l.length→FlOk r l k (flowA (l.take k) (1,[]))
 | 0,_=>FlOk.zero l ⟨ha.1,ha.2.1⟩
 | k+1,hk=>by
  have hw:=List.getElem?_eq_getElem (l:=l) (i:=k) (by omega);rw [flowA_take hw];exact (fl_ok ha k (by omega)).step ha hw
def FlIs (rank:Int) (l:List (List Int)) (rr rs:Int) (res:List Ed) (b:Bool):Prop :=
 (b=true∧AreW rank l∧rr=rank∧rs=(flowA l (1,[])).1∧res=(flowA l (1,[])).2) ∨ (b=false∧¬ AreW rank l∧rr=0∧rs=0∧res=[])
def SubIs (rank:Int) (l:List (List Int)) (rr rs:Int) (res:List Ed) (b:Bool):Prop :=
 (b=true∧AreW rank l∧rr=rank∧rs=(coreA rank (flowA l (1,[]))).1∧res=(coreA rank (flowA l (1,[]))).2) ∨ (b=false∧¬ AreW rank l∧rr=0∧rs=0∧res=[])
theorem SubIs_ex (rank:Int) (l:List (List Int)):∃ rr rs res b,SubIs rank l rr rs res b:=by
 by_cases h:AreW rank l
 ·exact ⟨_,_,_,_,.inl ⟨rfl,h,rfl,rfl,rfl⟩⟩
 ·exact ⟨_,_,_,_,.inr ⟨rfl,h,rfl,rfl,rfl⟩⟩
theorem flow_gr {r:Int} {l:List (List Int)} (ha:AreW r l):IsGr r (flowA l (1,[])).1 (flowA l (1,[])).2:=by
 have:=(fl_ok ha l.length (Nat.le_refl _)).gr;rw [List.take_length] at this;exact this
theorem spec_NewGraph (rank:Int) (w:World) (h:1≤rank∧rank≤3) :
  Calls Tryz.prog 224 #[.int .i64 rank] w fun e w'=>e=.returned (.tuple #[graV rank 1 none 0 0,.bool true])∧Mid 0 0 w w':=by
 have hm0:Mid 0 0 w (w.alloc (.cells #[.int .i64 0,.int .i64 0,.slice none 0 0] 26)):=Mid.alloc _ _;have b2:=Box.new w #[.int .i64 0,.int .i64 0,.slice none 0 0] 26;have hi1:inB rank 1 3=true:=inB_rank (iff_of_true rfl h);go_enter Tryz.func224,Tryz.ntmps224
 go_wp2_with fail;generalize w.alloc (.cells #[.int .i64 0,.int .i64 0,.slice none 0 0] 26)=w1 at hm0 b2 ⊢;have hs1:w.heap.size < w1.heap.size:=b2.1;with_reducible refine (l1In_at hi1 _).mono ?_
 rintro en w2 ⟨rfl,rfl⟩;have z0:=b2.cell 0 rfl;have z1:=b2.cell 1 rfl;have z2:=b2.cell 2 rfl;have zf:=b2.2.2;go_wp2_with fail;refine bodyPost_ret (v:=.tuple #[.agg #[.int .i64 rank,.int .i64 1,.slice none 0 0],.bool true]) (by simp [results,Tryz.results224,go_sem,z0,z1,z2,zf]) rfl ⟨rfl,?_⟩;repeat (first | exact hm0 | refine Mid.storeNew ?_ (by simp;try omega) _)
theorem spec_FlowerOf (rank:Int) (A:Option Addr) (l:List (List Int)) (c:Nat) (w:World) (lo hi:Nat) (hr:RSS w lo hi A l) (hok:∀ xs∈l,OkI xs) (hl:l.length+sumL l≤1048576) (rr rs:Int) (res:List Ed) (b:Bool) (hres:FlIs rank l rr rs res b) :
  Calls Tryz.prog 243 #[.int .i64 rank,.slice A l.length c] w fun e w'=>∃ A1 c1,e=.returned (.tuple #[graV rr rs A1 res.length c1,.bool b])∧OG w' w.heap.size w'.heap.size A1 c1 res∧Mid 0 0 w w':=by
 have HR:=Lib.hid hres;have HOK:=Lib.hid hok;clear hres hok;obtain ⟨b1,hb1⟩:=bool_of (AreW rank l);have H1:=Lib.hid hb1;clear hb1;have hm0:Mid 0 0 w (w.alloc (.cells #[.int .i64 0,.int .i64 0,.slice none 0 0] 26)):=Mid.alloc _ _;have b2:=Box.new w #[.int .i64 0,.int .i64 0,.slice none 0 0] 26;go_enter Tryz.func243,Tryz.ntmps243
 go_wp2_with fail;generalize w.alloc (.cells #[.int .i64 0,.int .i64 0,.slice none 0 0] 26)=w1 at hm0 b2 ⊢;have hs1:w.heap.size < w1.heap.size:=b2.1;with_reducible refine (spec_AreWords rank A l c w1 _ _ (hr.mid hm0 oZl) HOK.out hl b1 H1.out).mono ?_
 rintro en w2 ⟨rfl,nd,hw2⟩;have hm2:Mid 0 0 w1 w2:=by rw [hw2];exact (Mid.refl 0 0 w1).drewN nd
 replace b2:=b2.mid hm2 oZr;replace hm0:=hm0.trans hm2;clear hw2 hm2;cases b1 with
 | false =>
  have hno:¬ AreW rank l:=fun h=>by have:=H1.out.2 h;cases this
  obtain ⟨rfl,rfl,rfl,rfl⟩:b=false∧rr=0∧rs=0∧res=[]:=by
   rcases HR.out with ⟨-,h, -⟩ | ⟨h1, -,h2⟩
   ·exact absurd h hno
   ·exact ⟨h1,h2⟩
  have z0:=b2.cell 0 rfl;have z1:=b2.cell 1 rfl;have z2:=b2.cell 2 rfl;have zf:=b2.2.2;clear hno HR;go_wp2_with fail;refine bodyPost_ret (v:=.tuple #[.agg #[.int .i64 0,.int .i64 0,.slice none 0 0],.bool false]) (by simp [results,Tryz.results243,go_sem,z0,z1,z2,zf]) rfl ⟨none,0,rfl,?_,?_⟩
  ·exact ⟨Nat.le_refl _,⟨rfl,.inl ⟨rfl,rfl⟩⟩,fun g hg=>by simp [Value.ownBlock] at hg⟩
  ·repeat (first | exact hm0 | refine Mid.trans ?_ (Mid.alloc _ _) | refine Mid.storeNew ?_ (by simp;try omega) _)
 | true =>
 have hare:=H1.out.1 rfl;have HA:=Lib.hid hare;have hrk:1≤rank∧rank≤3:=⟨hare.1,hare.2.1⟩
 obtain ⟨rfl,rfl,hrs,hre⟩:b=true∧rr=rank∧rs=(flowA l (1,[])).1∧res=(flowA l (1,[])).2:=by
  rcases HR.out with ⟨h1, -,h2⟩ | ⟨-,h, -⟩
  ·exact ⟨h1,h2⟩
  ·exact absurd hare h
 have HRS:=Lib.hid hrs;have HRE:=Lib.hid hre;clear hare H1 HR hrs hre;go_wp2_with fail;with_reducible refine (spec_NewGraph rr _ hrk).mono ?_
 rintro en w4 ⟨rfl,hm4⟩;have hs4:=hm4.size;have ha4:=Mid.alloc w4 (.cells #[.int .i64 rr,.int .i64 1,.slice none 0 0] 26);have Y4:=Box.new w4 #[.int .i64 rr,.int .i64 1,.slice none 0 0] 26;replace b2:=b2.mid hm4 oZr;replace hm0:=hm0.trans hm4;have hb4:=b2.1;replace b2:=b2.mid ha4 oZr;replace hm0:=hm0.trans ha4;go_wp2_with fail;generalize w4.alloc (.cells #[.int .i64 rr,.int .i64 1,.slice none 0 0] 26)=w5 at b2 Y4 hm0 ⊢;have hs5:w4.heap.size < w5.heap.size:=Y4.1;clear ha4 hm4;generalize hG:w4.heap.size=Gb at Y4 hb4 hs5;clear hG hs4;have hhi:=hr.size;go_loopw [8] (fun i wr=>∃ (k:Nat) (A2:Option Addr) (c2 hi2:Nat) (g:Int × List Ed),k≤l.length∧i=.int .i64 k∧Hid (g=flowA (l.take k) (1,[]))∧Hid (FlOk rr l k g)∧OG wr (Gb+1) hi2 A2 c2 g.2 ∧
   Box wr w.heap.size [.int .i64 0,.int .i64 0,.slice none 0 0]∧Box wr Gb [.int .i64 rr,.int .i64 g.1,.slice A2 g.2.length c2]∧Mid 0 0 w wr) (fun i _=>l.length - (intOf i).toNat)
 case atStart=>exact ⟨0,none,0,_,(1,[]),Nat.zero_le _,rfl,Lib.hid rfl,Lib.hid (FlOk.zero l hrk),OG.nil,b2,Y4,hm0⟩
 case round =>
  clear b2 Y4 hm0 hs5;obtain ⟨wo,hwo⟩:∃ wo,wo=wr:=⟨_,rfl⟩
  subst hwo;obtain ⟨k,A2,c2,hi2,⟨gs,ge⟩,hk,rfl,HGE,HFL,hown,Z2,Z3,hm⟩:=hrel;dsimp only at hown Z3;have hGo:Gb < wo.heap.size:=Z3.1;have hgl:=HFL.out.gr.len;dsimp only at hgl;by_cases hlt:k < l.length
  ·obtain ⟨Bp,op,Ap,cp,p,rfl, -,hBp,hp,hcp,hrp⟩:=(hr.mid hm oZl).row hlt
   have hpl:p.length≤1048576:=by have:=len_le_sumL (List.mem_of_getElem? hp);omega
   have hk1:(k:Int) < (l.length:Int):=by omega
   have hk0:(0:Int)≤(k:Int):=by omega
   have hBps:Bp < wo.heap.size:=by omega
   have HP:=Lib.hid hp;have hft:=flowA_take hp (1,[]);rw [← HGE.out] at hft;have HFT:=Lib.hid hft;have HST:=Lib.hid (HFL.out.step HA.out hp);clear hp hft;obtain ⟨bb,hPI⟩:∃ bb,PathIs rr gs ge 0 p 0 (petalA (gs,ge) p).1 (petalA (gs,ge) p).2 bb:=by
    by_cases hne:p=[]
    ·subst hne
     rw [petalA,if_pos rfl];exact ⟨false,.inr ⟨rfl,fun h=>h.ne rfl,rfl,rfl⟩⟩
    ·rw [petalA,if_neg hne]
     exact ⟨true,.inl ⟨rfl,HFL.out.path HA.out HP.out hne,rfl,rfl⟩⟩
   obtain ⟨g',hg'⟩:∃ g',petalA (gs,ge) p=g':=⟨_,rfl⟩
   rw [hg'] at hPI;have HG2:Hid (g'=flowA (l.take (k+1)) (1,[])):=Lib.hid (by rw [HFT.out,← hg']);have HF2:Hid (FlOk rr l (k+1) g'):=Lib.hid (by rw [← hg'];exact HST.out);have hP:=fun W (h1:RG W (Gb+1) hi2 A2 ge) (h2:RV W lo hi Ap (ints p))=>spec_AddPetal rr gs A2 ge c2 Ap p cp W _ _ _ _ h1 h2 (by omega) hpl (HOK.out p (List.mem_of_getElem? HP.out)) g'.1 g'.2 bb hPI;have HPP:=Lib.hid hP;clear hg' HST HFT hPI hP;go_wp2_with fail;have hmd:=Mid.drew1 wo;have hsd:=hmd.size;replace Z2:=Z2.mid hmd oZr;replace Z3:=Z3.mid hmd oZr;replace hown:=hown.mid hmd oZl;replace hm:=hm.trans hmd;replace hrp:=hrp.mid hmd oZl;replace hcp:=cell_keep hmd hBps oZr hcp;have q0:=Z3.cell 0 rfl;have q1:=Z3.cell 1 rfl;have q2:=Z3.cell 2 rfl;clear hmd;refine wp_region_Z (S:=(fun w'=>(w'.cell? ⟨Gb,0,none⟩=some (.int .i64 rr)∧w'.cell? ⟨Gb,1,none⟩=some (.int .i64 gs)∧w'.cell? ⟨Gb,2,none⟩=some (.slice A2 ge.length c2))∧w'.cell? ⟨Bp,op+k,none⟩=some (.slice Ap p.length cp))) [] (by kernel_rfl) ⟨⟨q0,q1,q2⟩,hcp⟩ ?_;generalize World.drew wo=wz at Z2 Z3 hown hm hrp hcp q0 q1 q2 hsd ⊢;have hS:(wz.cell? ⟨Gb,0,none⟩=some (.int .i64 rr)∧wz.cell? ⟨Gb,1,none⟩=some (.int .i64 gs)∧wz.cell? ⟨Gb,2,none⟩=some (.slice A2 ge.length c2))∧wz.cell? ⟨Bp,op+k,none⟩=some (.slice Ap p.length cp):=⟨⟨q0,q1,q2⟩,hcp⟩
   have hBz:Bp < wz.heap.size:=by omega
   refine tkZ [] 0 rfl hS ?_;try simp only [Act.put,zs1,zs2,zs3,zs4,zs5,zs6]
   refine tkZ [] 1 rfl hS ?_;try simp only [Act.put,zs1,zs2,zs3,zs4,zs5,zs6]
   refine tkZ [] 2 rfl hS ?_;try simp only [Act.put,zs1,zs2,zs3,zs4,zs5,zs6]
   refine tkZ [] 3 rfl hS ?_;try simp only [Act.put,zs1,zs2,zs3,zs4,zs5,zs6]
   refine tkZ [] 4 rfl hS ?_;try simp only [Act.put,zs1,zs2,zs3,zs4,zs5,zs6]
   refine wpAnyZ_ready (rs:=[5,9]) (by kernel_rfl) (by simp) (AllReadyZ.cons rfl (fun K hK=>?_) (AllReadyZ.cons rfl (fun K hK=>?_) AllReadyZ.nil))
   ·(go_simp;(with_reducible refine (HPP.out _ hown.rg hrp).mono ?_);rintro en w10 ⟨A6,c6,rfl,ho6,hm10⟩;have Z30:=Z3.mid hm10 oZr;have hcp0:=cell_keep hm10 hBz oZr hcp;go_wp2_with fail)
    refine hK.out _ _ (Or.inr ⟨⟨Z30.cell 0 rfl,Z30.cell 1 rfl,Z30.cell 2 rfl⟩,hcp0⟩) (fun _=>?_);clear hK K;try simp only [Act.put,zs1,zs2,zs3,zs4,zs5,zs6]
    replace Z2:=Z2.mid hm10 oZr;replace hm:=hm.trans hm10;have hs10:=hm10.size;have hS10:=And.intro (And.intro (Z30.cell 0 rfl) (And.intro (Z30.cell 1 rfl) (Z30.cell 2 rfl))) hcp0;clear Z3 hS q0 q1 q2 hown HPP;refine tkZ [] 6 rfl hS10 ?_;try simp only [Act.put,zs1,zs2,zs3,zs4,zs5,zs6]
    refine tkZ [] 7 rfl hS10 ?_;try simp only [Act.put,zs1,zs2,zs3,zs4,zs5,zs6]
    refine tkZ [] 8 rfl hS10 ?_;try simp only [Act.put,zs1,zs2,zs3,zs4,zs5,zs6]
    have hal:=Mid.alloc w10 (.cells #[.int .i64 0,.int .i64 0,.slice none 0 0] 26);have Z31:=Z30.mid hal oZr;have hcp1:=cell_keep hal (by omega) oZr hcp0;refine rdZ 9 rfl (fun K hK=>?_);go_simp;refine hK.out _ _ (Or.inr ⟨⟨Z31.cell 0 rfl,Z31.cell 1 rfl,Z31.cell 2 rfl⟩,hcp1⟩) (fun _=>?_);clear hK K;try simp only [Act.put,zs1,zs2,zs3,zs4,zs5,zs6]
    clear hal Z31 hcp1;have hal:=Mid.alloc w10 (.cells #[.int .i64 rr,.int .i64 g'.1,.slice A6 g'.2.length c6] 26);have Z31:=Z30.mid hal oZr;have hcp1:=cell_keep hal (by omega) oZr hcp0;refine rdZ 10 rfl (fun K hK=>?_);go_simp;refine hK.out _ _ (Or.inr ⟨⟨Z31.cell 0 rfl,Z31.cell 1 rfl,Z31.cell 2 rfl⟩,hcp1⟩) (fun _=>?_);clear hK K;try simp only [Act.put,zs1,zs2,zs3,zs4,zs5,zs6]
    refine rdZ 11 rfl (fun K hK=>?_);go_simp;refine hK.out _ _ (Or.inr ⟨⟨Z31.cell 0 rfl,Z31.cell 1 rfl,Z31.cell 2 rfl⟩,hcp1⟩) (fun _=>?_);clear hK K;try simp only [Act.put,zs1,zs2,zs3,zs4,zs5,zs6]
    refine wpAnyZ_done (by kernel_rfl) ?_ _;have Zx:=Box.new w10 #[.int .i64 rr,.int .i64 g'.1,.slice A6 g'.2.length c6] 26;replace ho6:=ho6.mid hal oZl;replace Z2:=Z2.mid hal oZr;replace hm:=hm.trans hal;have hgz:Gb+1≤w10.heap.size:=by omega
    have Z3:=Z31;clear Z30 Z31 hS10 hal hcp0 hcp1 hm10;generalize w10.alloc (.cells #[.int .i64 rr,.int .i64 g'.1,.slice A6 g'.2.length c6] 26)=w11 at Z2 Z3 Zx ho6 hm ⊢;generalize w10.heap.size=Gz at Zx hgz ho6 ⊢;have hst:=((Mid.setCell w11 (lo:=Gb) (hi:=Gb+1) (p:=⟨Gb,0,none⟩) (.int .i64 rr) (Nat.le_refl _) (Nat.lt_succ_self _)).trans (Mid.setCell _ (lo:=Gb) (hi:=Gb+1) (p:=⟨Gb,1,none⟩) (.int .i64 g'.1) (Nat.le_refl _) (Nat.lt_succ_self _))).trans (Mid.setCell _ (lo:=Gb) (hi:=Gb+1) (p:=⟨Gb,2,none⟩) (.slice A6 g'.2.length c6) (Nat.le_refl _) (Nat.lt_succ_self _));have Y7:=((Z3.set 0 (.int .i64 rr) (by simp) rfl).set 1 (.int .i64 g'.1) (by simp) rfl).set 2 (.slice A6 g'.2.length c6) (by simp) rfl;simp only [List.set_cons_succ,List.set_cons_zero] at Y7;have x0:=Zx.cell 0 rfl;have x1:=Zx.cell 1 rfl;have x2:=Zx.cell 2 rfl;have q0:=Z3.cell 0 rfl;have q1:=Z3.cell 1 rfl;have q2:=Z3.cell 2 rfl;have qf:=Z3.2.2;go_wp2_with fail;go_roundw
    case rel=>exact ⟨k+1,A6,c6,_,g',hlt,by go_num,HG2,HF2,(ho6.wide (lo':=Gb+1) (by omega) (Nat.le_refl _) ho6.size).mid hst (Or.inl (Nat.le_refl _)),Z2.mid hst (Or.inl (by omega)),Y7,((hm.storeNew (p:=⟨Gb,0,none⟩) (by show w.heap.size≤Gb;omega) (.int .i64 rr)).storeNew (p:=⟨Gb,1,none⟩) (by show w.heap.size≤Gb;omega) (.int .i64 g'.1)).storeNew (p:=⟨Gb,2,none⟩) (by show w.heap.size≤Gb;omega) (.slice A6 g'.2.length c6)⟩
    case measure=>simp [intOf];omega
   ·have hal:=Mid.alloc wz (.cells #[.int .i64 0,.int .i64 0,.slice none 0 0] 26)
    have Z31:=Z3.mid hal oZr;have hcp1:=cell_keep hal hBz oZr hcp;have Zx:=Box.new wz #[.int .i64 0,.int .i64 0,.slice none 0 0] 26;have hown1:=hown.mid hal oZl;have hrp1:=hrp.mid hal oZl;have hsl:=hal.size;go_simp;refine hK.out _ _ (Or.inr ⟨⟨Z31.cell 0 rfl,Z31.cell 1 rfl,Z31.cell 2 rfl⟩,hcp1⟩) (fun _=>?_);clear hK K;try simp only [Act.put,zs1,zs2,zs3,zs4,zs5,zs6]
    replace Z2:=Z2.mid hal oZr;replace hm:=hm.trans hal;clear Z3 hS q0 q1 q2 hown hrp hcp hal;have hzb:wz.heap.size < (wz.alloc (.cells #[.int .i64 0,.int .i64 0,.slice none 0 0] 26)).heap.size:=Zx.1;generalize wz.alloc (.cells #[.int .i64 0,.int .i64 0,.slice none 0 0] 26)=wy at Z31 Zx hown1 hrp1 hcp1 Z2 hm hsl hzb ⊢;have hBy:Bp < wy.heap.size:=by omega
    refine rdZ 5 rfl (fun K hK=>?_)
    (go_simp;(with_reducible refine (HPP.out _ hown1.rg hrp1).mono ?_);rintro en w10 ⟨A6,c6,rfl,ho6,hm10⟩;have Z30:=Z31.mid hm10 oZr;have hcp0:=cell_keep hm10 hBy oZr hcp1;go_wp2_with fail)
    refine hK.out _ _ (Or.inr ⟨⟨Z30.cell 0 rfl,Z30.cell 1 rfl,Z30.cell 2 rfl⟩,hcp0⟩) (fun _=>?_);clear hK K;try simp only [Act.put,zs1,zs2,zs3,zs4,zs5,zs6]
    replace Z2:=Z2.mid hm10 oZr;replace Zx:=Zx.mid hm10 oZr;replace hm:=hm.trans hm10;have hs10:=hm10.size;have hS10:=And.intro (And.intro (Z30.cell 0 rfl) (And.intro (Z30.cell 1 rfl) (Z30.cell 2 rfl))) hcp0;clear Z31 hown1 HPP hrp1 hcp1;refine tkZ [] 6 rfl hS10 ?_;try simp only [Act.put,zs1,zs2,zs3,zs4,zs5,zs6]
    refine tkZ [] 7 rfl hS10 ?_;try simp only [Act.put,zs1,zs2,zs3,zs4,zs5,zs6]
    refine tkZ [] 8 rfl hS10 ?_;try simp only [Act.put,zs1,zs2,zs3,zs4,zs5,zs6]
    have zzf:=Zx.2.2;have zz0:=Zx.cell 0 rfl;have zz1:=Zx.cell 1 rfl;have zz2:=Zx.cell 2 rfl;have hst:=((Mid.setCell w10 (lo:=wz.heap.size) (hi:=wz.heap.size+1) (p:=⟨wz.heap.size,0,none⟩) (.int .i64 rr) (Nat.le_refl _) (Nat.lt_succ_self _)).trans (Mid.setCell _ (lo:=wz.heap.size) (hi:=wz.heap.size+1) (p:=⟨wz.heap.size,1,none⟩) (.int .i64 g'.1) (Nat.le_refl _) (Nat.lt_succ_self _))).trans (Mid.setCell _ (lo:=wz.heap.size) (hi:=wz.heap.size+1) (p:=⟨wz.heap.size,2,none⟩) (.slice A6 g'.2.length c6) (Nat.le_refl _) (Nat.lt_succ_self _));have Z32:=Z30.mid hst (Or.inl (by omega));have hcp2:=cell_keep hst (by omega) (Or.inl hBz) hcp0;refine rdZ 10 rfl (fun K hK=>?_);go_simp;refine hK.out _ _ (Or.inr ⟨⟨Z32.cell 0 rfl,Z32.cell 1 rfl,Z32.cell 2 rfl⟩,hcp2⟩) (fun _=>?_);clear hK K;try simp only [Act.put,zs1,zs2,zs3,zs4,zs5,zs6]
    refine rdZ 11 rfl (fun K hK=>?_);go_simp;refine hK.out _ _ (Or.inr ⟨⟨Z32.cell 0 rfl,Z32.cell 1 rfl,Z32.cell 2 rfl⟩,hcp2⟩) (fun _=>?_);clear hK K;try simp only [Act.put,zs1,zs2,zs3,zs4,zs5,zs6]
    refine wpAnyZ_done (by kernel_rfl) ?_ _;replace ho6:=ho6.mid hst (Or.inl (by omega));replace Z2:=Z2.mid hst (Or.inl (by omega));replace Zx:=((Zx.set 0 (.int .i64 rr) (by simp) rfl).set 1 (.int .i64 g'.1) (by simp) rfl).set 2 (.slice A6 g'.2.length c6) (by simp) rfl;simp only [List.set_cons_succ,List.set_cons_zero] at Zx;replace hm:=((hm.storeNew (p:=⟨wz.heap.size,0,none⟩) (by show w.heap.size≤wz.heap.size;omega) (.int .i64 rr)).storeNew (p:=⟨wz.heap.size,1,none⟩) (by show w.heap.size≤wz.heap.size;omega) (.int .i64 g'.1)).storeNew (p:=⟨wz.heap.size,2,none⟩) (by show w.heap.size≤wz.heap.size;omega) (.slice A6 g'.2.length c6);have hgz:Gb+1≤wz.heap.size:=by omega
    have Z3:=Z32;clear Z30 Z32 hS10 hst hcp0 hcp2 hm10 zz0 zz1 zz2 zzf;generalize ((w10.setCell ⟨wz.heap.size,0,none⟩ (.int .i64 rr)).setCell ⟨wz.heap.size,1,none⟩ (.int .i64 g'.1)).setCell ⟨wz.heap.size,2,none⟩ (.slice A6 g'.2.length c6)=w11 at Z2 Z3 Zx ho6 hm ⊢;generalize wz.heap.size=Gz at Zx hgz hzb ⊢;have hst:=((Mid.setCell w11 (lo:=Gb) (hi:=Gb+1) (p:=⟨Gb,0,none⟩) (.int .i64 rr) (Nat.le_refl _) (Nat.lt_succ_self _)).trans (Mid.setCell _ (lo:=Gb) (hi:=Gb+1) (p:=⟨Gb,1,none⟩) (.int .i64 g'.1) (Nat.le_refl _) (Nat.lt_succ_self _))).trans (Mid.setCell _ (lo:=Gb) (hi:=Gb+1) (p:=⟨Gb,2,none⟩) (.slice A6 g'.2.length c6) (Nat.le_refl _) (Nat.lt_succ_self _));have Y7:=((Z3.set 0 (.int .i64 rr) (by simp) rfl).set 1 (.int .i64 g'.1) (by simp) rfl).set 2 (.slice A6 g'.2.length c6) (by simp) rfl;simp only [List.set_cons_succ,List.set_cons_zero] at Y7;have x0:=Zx.cell 0 rfl;have x1:=Zx.cell 1 rfl;have x2:=Zx.cell 2 rfl;have q0:=Z3.cell 0 rfl;have q1:=Z3.cell 1 rfl;have q2:=Z3.cell 2 rfl;have qf:=Z3.2.2;go_wp2_with fail;go_roundw
    case rel=>exact ⟨k+1,A6,c6,_,g',hlt,by go_num,HG2,HF2,(ho6.wide (lo':=Gb+1) (by omega) (Nat.le_refl _) ho6.size).mid hst (Or.inl (Nat.le_refl _)),Z2.mid hst (Or.inl (by omega)),Y7,((hm.storeNew (p:=⟨Gb,0,none⟩) (by show w.heap.size≤Gb;omega) (.int .i64 rr)).storeNew (p:=⟨Gb,1,none⟩) (by show w.heap.size≤Gb;omega) (.int .i64 g'.1)).storeNew (p:=⟨Gb,2,none⟩) (by show w.heap.size≤Gb;omega) (.slice A6 g'.2.length c6)⟩
    case measure=>simp [intOf];omega
  ·obtain rfl:k=l.length:=by omega
   rw [List.take_length] at HGE;have hrs2:rs=gs:=by rw [HRS.out,← HGE.out]
   have hre2:res=ge:=by rw [HRE.out,← HGE.out]
   clear HRS HRE HGE HFL;subst hrs2;subst res;have z0:=Z2.cell 0 rfl;have z1:=Z2.cell 1 rfl;have z2:=Z2.cell 2 rfl;have q0:=Z3.cell 0 rfl;have q1:=Z3.cell 1 rfl;have q2:=Z3.cell 2 rfl;have zf:=Z2.2.2;have hcl:(w.heap.size == Gb)=false:=by simp;omega
   go_wp2_with fail;refine bodyPost_ret (v:=.tuple #[.agg #[.int .i64 rr,.int .i64 rs,.slice A2 ge.length c2],.bool true]) (by simp [results,Tryz.results243,go_sem,z0,z1,z2,zf,q0,q1,q2]) rfl ⟨A2,c2,rfl,?_,?_⟩
   ·refine OG.wide (OG.mid hown (a:=w.heap.size) (b:=w.heap.size+1) ?_ (Or.inl (by omega))) (by omega) (by have:=hown.size;simp;omega) (Nat.le_refl _)
    repeat (first | exact Mid.refl _ _ _ | refine Mid.stored ?_ _ (by simp;try omega) (by simp;try omega))
   ·repeat (first | exact hm | refine Mid.storeNew ?_ (by simp;try omega) _)
theorem spec_SubgroupOf (rank:Int) (A:Option Addr) (l:List (List Int)) (c:Nat) (w:World) (lo hi:Nat) (hr:RSS w lo hi A l) (hok:∀ xs∈l,OkI xs) (hl:l.length+sumL l≤1048576) (rr rs:Int) (res:List Ed) (b:Bool) (hres:SubIs rank l rr rs res b) :
  Calls Tryz.prog 226 #[.int .i64 rank,.slice A l.length c] w fun e w'=>∃ A1 c1,e=.returned (.tuple #[graV rr rs A1 res.length c1,.bool b])∧OG w' w.heap.size w'.heap.size A1 c1 res∧Mid 0 0 w w':=by
 have HOK:=Lib.hid hok;clear hok;have hm0:Mid 0 0 w (w.alloc (.cells #[.int .i64 0,.int .i64 0,.slice none 0 0] 26)):=Mid.alloc _ _;have b2:=Box.new w #[.int .i64 0,.int .i64 0,.slice none 0 0] 26;by_cases ha:AreW rank l
 ·obtain ⟨rfl,rfl,hrs,hre⟩:b=true∧rr=rank∧rs=(coreA rank (flowA l (1,[]))).1∧res=(coreA rank (flowA l (1,[]))).2:=by
   rcases hres with ⟨h1, -,h2⟩ | ⟨-,h, -⟩
   ·exact ⟨h1,h2⟩
   ·exact absurd ha h
  have hfg:=flow_gr ha;obtain ⟨rn,rfl⟩:∃ rn:Nat,rr=rn:=⟨rr.toNat,by have:=hfg.rank;omega⟩
  have hFI:FlIs rn l rn (flowA l (1,[])).1 (flowA l (1,[])).2 true:=.inl ⟨rfl,ha,rfl,rfl,rfl⟩;obtain ⟨⟨fs,ms⟩,hF⟩:∃ F,flowA l (1,[])=F:=⟨_,rfl⟩
  rw [hF] at hFI hrs hre hfg;obtain ⟨sn,rfl⟩:∃ sn:Nat,fs=sn:=⟨fs.toNat,by have:=hfg.size;simp only at this;omega⟩
  obtain ⟨q,qs,hQ, -⟩:=nat_gr (coreA_gr (g:=((sn:Int),ms)) hfg);rw [hQ] at hrs hre;subst hrs;subst res;have HFI:=Lib.hid hFI;have HFG:=Lib.hid hfg;have HQ:=Lib.hid hQ;clear hres ha hFI hfg hF hQ;go_enter Tryz.func226,Tryz.ntmps226
  go_wp2_with fail;generalize w.alloc (.cells #[.int .i64 0,.int .i64 0,.slice none 0 0] 26)=w1 at hm0 b2 ⊢;have hs1:w.heap.size < w1.heap.size:=b2.1;with_reducible refine (spec_FlowerOf rn A l c w1 _ _ (hr.mid hm0 oZl) HOK.out hl rn sn ms true HFI.out).mono ?_
  rintro en w4 ⟨A4,c4,rfl,ho4,hm4⟩;have hs4:=hm4.size;have ha4:=Mid.alloc w4 (.cells #[.int .i64 rn,.int .i64 sn,.slice A4 ms.length c4] 26);have Y4:=Box.new w4 #[.int .i64 rn,.int .i64 sn,.slice A4 ms.length c4] 26;replace b2:=b2.mid hm4 oZr;replace hm0:=hm0.trans hm4;replace b2:=b2.mid ha4 oZr;replace ho4:=ho4.mid ha4 oZl;replace hm0:=hm0.trans ha4;have hsa:=ha4.size;have y0:=Y4.cell 0 rfl;have y1:=Y4.cell 1 rfl;have y2:=Y4.cell 2 rfl;have hP:=spec_CoreGraph rn sn A4 ms c4 (w4.alloc (.cells #[.int .i64 rn,.int .i64 sn,.slice A4 ms.length c4] 26)) _ _ (OG.rg ho4) HFG.out;rw [HQ.out] at hP;dsimp only at hP;have HPP:=Lib.hid hP;clear hP;go_wp2_with fail;with_reducible refine HPP.out.mono ?_
  rintro en w6 ⟨A5,c5,rfl,ho5,hm6⟩;clear HPP;replace b2:=b2.mid hm6 oZr;replace hm0:=hm0.trans hm6;have z0:=b2.cell 0 rfl;have z1:=b2.cell 1 rfl;have z2:=b2.cell 2 rfl;have zf:=b2.2.2;go_wp2_with fail;refine bodyPost_ret (v:=.tuple #[.agg #[.int .i64 rn,.int .i64 q,.slice A5 qs.length c5],.bool true]) (by simp [results,Tryz.results226,go_sem,z0,z1,z2,zf]) rfl ⟨A5,c5,rfl,?_,?_⟩
  ·refine OG.wide (OG.mid ho5 (a:=w.heap.size) (b:=w.heap.size+1) ?_ (Or.inl (by omega))) (by omega) (by simp) (Nat.le_refl _)
   repeat (first | exact Mid.refl _ _ _ | refine Mid.stored ?_ _ (by simp;try omega) (by simp;try omega))
  ·repeat (first | exact hm0 | refine Mid.storeNew ?_ (by simp;try omega) _)
 ·obtain ⟨rfl,rfl,rfl,rfl⟩:b=false∧rr=0∧rs=0∧res=[]:=by
   rcases hres with ⟨-,h, -⟩ | ⟨h1, -,h2⟩
   ·exact absurd h ha
   ·exact ⟨h1,h2⟩
  have hFI:FlIs rank l 0 0 [] false:=.inr ⟨rfl,ha,rfl,rfl,rfl⟩;have HFI:=Lib.hid hFI;clear hres ha hFI;go_enter Tryz.func226,Tryz.ntmps226
  go_wp2_with fail;generalize w.alloc (.cells #[.int .i64 0,.int .i64 0,.slice none 0 0] 26)=w1 at hm0 b2 ⊢;have hs1:w.heap.size < w1.heap.size:=b2.1;with_reducible refine (spec_FlowerOf rank A l c w1 _ _ (hr.mid hm0 oZl) HOK.out hl 0 0 [] false HFI.out).mono ?_
  rintro en w4 ⟨A4,c4,rfl, -,hm4⟩;replace b2:=b2.mid hm4 oZr;replace hm0:=hm0.trans hm4;have hb23:w.heap.size < w4.heap.size:=b2.1;have z0:=b2.cell 0 rfl;have z1:=b2.cell 1 rfl;have z2:=b2.cell 2 rfl;have zf:=b2.2.2;go_wp2_with fail;refine bodyPost_ret (v:=.tuple #[.agg #[.int .i64 0,.int .i64 0,.slice none 0 0],.bool false]) (by simp [results,Tryz.results226,go_sem,z0,z1,z2,zf,hb23,World.cell?_alloc_lt]) rfl ⟨none,0,rfl,?_,?_⟩
  ·exact ⟨Nat.le_refl _,⟨rfl,.inl ⟨rfl,rfl⟩⟩,fun g hg=>by simp [Value.ownBlock] at hg⟩
  ·repeat (first | exact hm0 | refine Mid.trans ?_ (Mid.alloc _ _) | refine Mid.storeNew ?_ (by simp;try omega) _)
end
section
open Go.RowKit
noncomputable def basA (r:Int) (es:List Ed):List (List Int):=(notIn (treeE es (bfs es (lets r.toNat) 0)) es).map (basisW r.toNat es)
theorem basisW_ok {r n:Nat} {es:List Ed} (h:IsCor r n es) {e:Ed} (he:e∈es):(basisW r es e).length≤81∧OkI (basisW r es e):=by
 have hin:=h.gr.all e he;have hr:=h.gr.rank;have hn:=h.gr.size;unfold InG at hin;obtain ⟨a,l,b⟩:=e;simp only at hin;obtain ⟨pa,rfl⟩:∃ m:Nat,a=m:=⟨a.toNat,by omega⟩
 obtain ⟨pb,rfl⟩:∃ m:Nat,b=m:=⟨b.toNat,by omega⟩
 obtain ⟨h1,h2⟩:=wordV_ok h (v:=pa) (by omega);obtain ⟨h3,h4⟩:=wordV_ok h (v:=pb) (by omega);unfold basisW;simp only;refine ⟨?_,red_ok ?_⟩
 ·have h5:=red_nil_len (wordV r es (pa:Int)++[l]++invW (wordV r es (pb:Int)))
  rw [List.length_append,List.length_append,invW_len] at h5;simp only [List.length_cons,List.length_nil] at h5;omega
 ·intro x hx
  rcases List.mem_append.1 hx with hx | hx
  ·rcases List.mem_append.1 hx with hx | hx
   ·have:=mem_lets.1 (h2 x hx)
    omega
   ·simp at hx
    subst hx;omega
  ·exact okI_invW (fun y hy=>by have:=mem_lets.1 (h4 y hy);omega) x hx
theorem basA_len {r n:Nat} {es:List Ed} (h:IsCor r n es):(basA r es).length≤120:=by
 have h1:=notIn_len (treeE es (bfs es (lets r) 0)) es;have h2:=h.gr.len;unfold basA;rw [List.length_map,Int.toNat_natCast];omega
theorem basA_ok {r n:Nat} {es:List Ed} (h:IsCor r n es) {x:List Int} (hx:x∈basA r es):x.length≤81∧OkI x:=by
 unfold basA at hx;obtain ⟨e,he,rfl⟩:=List.mem_map.1 hx;rw [Int.toNat_natCast] at he ⊢;exact basisW_ok h (List.mem_filter.1 he).1
theorem spec_BasisA (r n:Nat) (A:Option Addr) (es:List Ed) (c:Nat) (w:World) (lo hi:Nat) (hr:RG w lo hi A es) (hco:IsCor r n es) :
  Calls Tryz.prog 30 #[graV r n A es.length c] w fun e w'=>∃ A1 c1,e=.returned (.slice A1 (basA r es).length c1)∧OSS w' w.heap.size w'.heap.size 34 3 A1 c1 (basA r es)∧Mid 0 0 w w':=by
 have h:=spec_BasisOf r n A es c w lo hi hr hco _ rfl;unfold basA;rw [Int.toNat_natCast];exact h
end
section
open Go.RowKit
theorem RSS.lit {w:World} (rows:List Row) (tSI:TypeId) (h:∀ r∈rows,Rs w w.heap.size r.A (ints r.xs)):RSS (w.alloc (.cells (rowsV rows).toArray tSI)) 0 (w.heap.size+1) (some ⟨w.heap.size,0,none⟩) (rowsD rows):=by
 refine ⟨rows,rfl,⟨by simp,fun _=>⟨w.heap.size,0,rfl,Nat.zero_le _,Nat.lt_succ_self _,fun j u hu=>?_⟩⟩,fun r hr=>⟨by simp,fun hn=>?_⟩⟩
 ·rw [Nat.zero_add,World.cell?_alloc_new]
  simpa using hu
 ·obtain ⟨b,off,e,hb,hc⟩:=(h r hr).alloc (Nat.le_refl _) (.cells (rowsV rows).toArray tSI) hn
  exact ⟨b,off,e,Nat.zero_le _,by omega,hc⟩
end
section
open Go.RowKit
theorem loop_inS {r s:Int} {es:List Ed} (h:IsFol r s es) {wd:List Int}:LoopP es (red [] wd)↔InS es wd:=by
 rw [inS_rdA h];unfold LoopP;constructor
 ·rintro ⟨h1,h2⟩
  exact Prod.ext h2 h1
 ·intro e
  rw [e];exact ⟨rfl,rfl⟩
theorem impl_ReduceLetters (A:Option Addr) (xs:List Int) (c:Nat) (w:World) (B:Nat) (hr:Rs w B A (ints xs)) (hB:B≤w.heap.size) (hok:OkI xs) (hl:xs.length≤268435456) :
  Calls Tryz.prog 107 #[.slice A xs.length c] w fun e w'=>∃ A2 c2,e=.returned (.slice A2 (red [] xs).length c2)∧w'.ownsRow w.heap.size 3 1 (.slice A2 (red [] xs).length c2) (red [] xs).length (ints (red [] xs))∧Mid 0 0 w w':=by
 have h:=RSS.lit (w:=w) [⟨A,c,xs⟩] 34 (by intro r hr2;simp at hr2;rcases hr2 with rfl;exact hr.more hB);have h2:=impl_product (some ⟨w.heap.size,0,none⟩) [xs] 1 _ _ _ h (by intro zs hz;simp at hz;rcases hz with rfl;exact hok) (by simp) (by simp [sumL];omega);have e:[xs].flatten=xs:=by simp
 rw [e] at h2;have H2:Hid (Calls Tryz.prog 122 #[.slice (some ⟨w.heap.size,0,none⟩) 1 1] (w.alloc (.cells #[.slice A xs.length c] 34)) fun e w'=>RetI 3 (red [] xs) (w.alloc (.cells #[.slice A xs.length c] 34)) e w'):=Lib.hid h2;have hal:=Mid.alloc w (.cells #[.slice A xs.length c] 34);have hsz:(w.alloc (.cells #[.slice A xs.length c] 34)).heap.size=w.heap.size+1:=by simp
 clear h h2 e hok;go_enter Tryz.func107,Tryz.ntmps107
 go_wp2_with fail;with_reducible refine H2.out.mono ?_
 rintro e w2 ⟨A2,c2,rfl,ho,hb⟩;go_wp2_with fail;go_ret;exact ⟨A2,c2,rfl,owns_base ho (by omega),hal.trans (Mid.of_below hb)⟩
theorem impl_Contains (r s:Int) (A:Option Addr) (es:List Ed) (c:Nat) (Aw:Option Addr) (wd:List Int) (cw:Nat) (w:World) (lo hi lo' hi':Nat) (hr:RG w lo hi A es) (hw:RV w lo' hi' Aw (ints wd)) (hl:es.length≤1048576) (hcl:es.length≤c) (hwl:wd.length≤1048576) (hok:OkI wd) (b:Bool) (hb:b=true↔IsCor r s es∧InS es wd) :
  Calls Tryz.prog 23 #[graV r s A es.length c,.slice Aw wd.length cw] w fun e w'=>e=.returned (.bool b)∧Mid 0 0 w w':=by
 have hm0:Mid 0 0 w (w.alloc (.cells #[.int .i64 r,.int .i64 s,.slice A es.length c] 26)):=Mid.alloc _ _;have b0:=Box.new w #[.int .i64 r,.int .i64 s,.slice A es.length c] 26;have HB:=Lib.hid hb;have HOK:=Lib.hid hok;have HRL:=Lib.hid (fun W (h:RV W lo' hi' Aw (ints wd))=>impl_ReduceLetters Aw wd cw W hi' h.rs h.1 hok (by omega));clear hb hok;by_cases h:IsCor r s es
 ·obtain ⟨r,n,rfl,rfl⟩:=h.gr.nat
  have HC:=Lib.hid h;clear h;have hrl:(red [] wd).length≤1048576:=by have:=red_nil_len wd;omega
  have HRO:=Lib.hid (red_ok HOK.out);obtain ⟨rw0,hrw⟩:∃ x,red [] wd=x:=⟨_,rfl⟩
  have hL:b=true↔LoopP es rw0:=by
   rw [← hrw,loop_inS HC.out.fol,HB.out];exact ⟨fun h=>h.2,fun h=>⟨HC.out,h⟩⟩
  have HL:=Lib.hid hL;rw [hrw] at HRL hrl HRO;clear HB hrw hL;go_enter Tryz.func23,Tryz.ntmps23
  go_wp2_with fail;generalize (w.alloc (.cells #[.int .i64 r,.int .i64 n,.slice A es.length c] 26))=w1 at hm0 b0 ⊢;have hmd:=Mid.drew1 w1;replace b0:=b0.mid hmd oZr;replace hm0:=hm0.trans hmd;have p0:=b0.cell 0 rfl;have p1:=b0.cell 1 rfl;have p2:=b0.cell 2 rfl;clear hmd;refine wp_region_Z (S:=(fun w'=>w'.cell? ⟨w.heap.size,0,none⟩=some (.int .i64 r)∧w'.cell? ⟨w.heap.size,1,none⟩=some (.int .i64 n)∧w'.cell? ⟨w.heap.size,2,none⟩=some (.slice A es.length c))) [] (by kernel_rfl) ⟨p0,p1,p2⟩ ?_;generalize World.drew w1=wz at b0 hm0 p0 p1 p2 ⊢;have hS:wz.cell? ⟨w.heap.size,0,none⟩=some (.int .i64 r)∧wz.cell? ⟨w.heap.size,1,none⟩=some (.int .i64 n)∧wz.cell? ⟨w.heap.size,2,none⟩=some (.slice A es.length c):=⟨p0,p1,p2⟩
  refine tkZ [] 0 rfl hS ?_;try simp only [Act.put,zs1,zs2,zs3,zs4,zs5,zs6]
  refine rdZ 1 rfl (fun K hK=>?_)
  (go_simp;(with_reducible refine (impl_IsCore r n A es c _ _ _ (hr.mid hm0 oZl) hl hcl true (iff_of_true rfl HC.out)).mono ?_);rintro en w4 ⟨rfl,hm4⟩;have b04:=b0.mid hm4 oZr;go_wp2_with fail)
  refine hK.out _ _ (Or.inr ⟨b04.cell 0 rfl,b04.cell 1 rfl,b04.cell 2 rfl⟩) (fun _=>?_);clear hK K;try simp only [Act.put,zs1,zs2,zs3,zs4,zs5,zs6]
  replace hm0:=hm0.trans hm4;clear hS p0 p1 p2 b0;have hS4:=And.intro (b04.cell 0 rfl) (And.intro (b04.cell 1 rfl) (b04.cell 2 rfl));refine tkZ [] 2 rfl hS4 ?_;try simp only [Act.put,zs1,zs2,zs3,zs4,zs5,zs6]
  refine tkZ [] 3 rfl hS4 ?_;try simp only [Act.put,zs1,zs2,zs3,zs4,zs5,zs6]
  refine tkZ [] 4 rfl hS4 ?_;try simp only [Act.put,zs1,zs2,zs3,zs4,zs5,zs6]
  clear hS4;refine rdZ 5 rfl (fun K hK=>?_)
  (go_simp;(with_reducible refine (HRL.out _ (hw.mid hm0 oZl)).mono ?_);rintro en w5 ⟨A5,c5,rfl,ho5,hm5⟩;have b05:=b04.mid hm5 oZr;go_wp2_with fail)
  refine hK.out _ _ (Or.inr ⟨b05.cell 0 rfl,b05.cell 1 rfl,b05.cell 2 rfl⟩) (fun _=>?_);clear hK K;try simp only [Act.put,zs1,zs2,zs3,zs4,zs5,zs6]
  replace hm0:=hm0.trans hm5;clear b04;refine rdZ 6 rfl (fun K hK=>?_)
  (go_simp;(with_reducible refine (impl_loops r n A es c A5 rw0 c5 _ _ _ _ _ (hr.mid hm0 oZl) (RV.of_rs (Rs.of_own ho5) (Nat.le_refl _)) HC.out.gr hrl HRO.out b HL.out).mono ?_);rintro en w6 ⟨rfl,hm6⟩;have b06:=b05.mid hm6 oZr;go_wp2_with fail)
  refine hK.out _ _ (Or.inr ⟨b06.cell 0 rfl,b06.cell 1 rfl,b06.cell 2 rfl⟩) (fun _=>?_);clear hK K;try simp only [Act.put,zs1,zs2,zs3,zs4,zs5,zs6]
  replace hm0:=hm0.trans hm6;clear b05 ho5;have hS6:=And.intro (b06.cell 0 rfl) (And.intro (b06.cell 1 rfl) (b06.cell 2 rfl));refine tkZ [] 7 rfl hS6 ?_;try simp only [Act.put,zs1,zs2,zs3,zs4,zs5,zs6]
  refine rdZ 8 rfl (fun K hK=>?_);go_simp;refine hK.out _ _ (Or.inr hS6) (fun _=>?_);clear hK K;try simp only [Act.put,zs1,zs2,zs3,zs4,zs5,zs6]
  refine wpAnyZ_done (by kernel_rfl) ?_ _;go_wp2_with fail;go_ret;exact ⟨rfl,hm0⟩
 ·have hbf:b=false:=by
   cases b
   ·rfl
   ·exact absurd (HB.out.mp rfl).1 h
  subst hbf;have HN:=Lib.hid h;clear h HB HRL HOK;go_enter Tryz.func23,Tryz.ntmps23
  go_wp2_with fail;generalize (w.alloc (.cells #[.int .i64 r,.int .i64 s,.slice A es.length c] 26))=w1 at hm0 b0 ⊢;have hmd:=Mid.drew1 w1;replace b0:=b0.mid hmd oZr;replace hm0:=hm0.trans hmd;have p0:=b0.cell 0 rfl;have p1:=b0.cell 1 rfl;have p2:=b0.cell 2 rfl;clear hmd;refine wp_region_Z (S:=(fun w'=>w'.cell? ⟨w.heap.size,0,none⟩=some (.int .i64 r)∧w'.cell? ⟨w.heap.size,1,none⟩=some (.int .i64 s)∧w'.cell? ⟨w.heap.size,2,none⟩=some (.slice A es.length c))) [] (by kernel_rfl) ⟨p0,p1,p2⟩ ?_;generalize World.drew w1=wz at b0 hm0 p0 p1 p2 ⊢;have hS:wz.cell? ⟨w.heap.size,0,none⟩=some (.int .i64 r)∧wz.cell? ⟨w.heap.size,1,none⟩=some (.int .i64 s)∧wz.cell? ⟨w.heap.size,2,none⟩=some (.slice A es.length c):=⟨p0,p1,p2⟩
  refine tkZ [] 0 rfl hS ?_;try simp only [Act.put,zs1,zs2,zs3,zs4,zs5,zs6]
  refine rdZ 1 rfl (fun K hK=>?_)
  (go_simp;(with_reducible refine (impl_IsCore r s A es c _ _ _ (hr.mid hm0 oZl) hl hcl false (iff_of_false (by simp) HN.out)).mono ?_);rintro en w4 ⟨rfl,hm4⟩;have b04:=b0.mid hm4 oZr;go_wp2_with fail)
  refine hK.out _ _ (Or.inr ⟨b04.cell 0 rfl,b04.cell 1 rfl,b04.cell 2 rfl⟩) (fun _=>?_);clear hK K;try simp only [Act.put,zs1,zs2,zs3,zs4,zs5,zs6]
  replace hm0:=hm0.trans hm4;clear hS p0 p1 p2 b0;have hS4:=And.intro (b04.cell 0 rfl) (And.intro (b04.cell 1 rfl) (b04.cell 2 rfl));refine tkZ [] 2 rfl hS4 ?_;try simp only [Act.put,zs1,zs2,zs3,zs4,zs5,zs6]
  refine wpAnyZ_takeC [] (i:=3) rfl (by kernel_rfl) (by kernel_rfl) (by kernel_rfl) (by kernel_rfl) (fun _ _ _ h=>h) (Or.inr ⟨by rfl,rfl⟩) hS4 ?_;try simp only [Act.put,zs1,zs2,zs3,zs4,zs5,zs6]
  refine wpAnyZ_takeC [] (i:=4) rfl (by kernel_rfl) (by kernel_rfl) (by kernel_rfl) (by kernel_rfl) (fun _ _ _ h=>h) (Or.inr ⟨by rfl,rfl⟩) hS4 ?_;try simp only [Act.put,zs1,zs2,zs3,zs4,zs5,zs6]
  refine rdZ 5 rfl (fun K hK=>?_);go_simp;refine hK.out _ _ (Or.inr hS4) (fun _=>?_);clear hK K;try simp only [Act.put,zs1,zs2,zs3,zs4,zs5,zs6]
  refine rdZ 6 rfl (fun K hK=>?_);go_simp;refine hK.out _ _ (Or.inr hS4) (fun _=>?_);clear hK K;try simp only [Act.put,zs1,zs2,zs3,zs4,zs5,zs6]
  refine tkZ [] 7 rfl hS4 ?_;try simp only [Act.put,zs1,zs2,zs3,zs4,zs5,zs6]
  refine rdZ 8 rfl (fun K hK=>?_);go_simp;refine hK.out _ _ (Or.inr hS4) (fun _=>?_);clear hK K;try simp only [Act.put,zs1,zs2,zs3,zs4,zs5,zs6]
  refine wpAnyZ_done (by kernel_rfl) ?_ _;go_wp2_with fail;go_ret;exact ⟨rfl,hm0⟩
end
section
open Go.RowKit
theorem isFin_of {r s:Int} {es:List Ed} (h:IsCor r s es) (ht:Tot r s es):IsFin r s es:=⟨h,fun v hv x hx=>by
 have hs:=h.gr.size;have hx2:=mem_lets.1 hx;exact ht.full h.fol v (by omega) (by omega) x hx2.1 (by omega) (by omega)⟩
theorem rankI_cor {r s:Int} {es:List Ed} (h:IsCor r s es):rankI r s es=(es.length:Int) - s+1:=if_pos h
theorem isW_lt {r:Int} {w:List Int} (h:IsW r w):LtW w∧Rd w:=by
 have h1:=h.2.2.2;have hl:LtW w:=fun x hx=>by
  have h2:=h1.1 x hx;have h3:=h.1;have h4:=h.2.1;unfold Lt3;omega
 refine ⟨hl,fun a b x e=>?_⟩;have e1:w[a.length]?=some x:=by rw [e];simp
 have e2:w[a.length+1]?=some (-x):=by
  rw [e,List.getElem?_append_right (by omega)];simp
 have:=h1.2 a.length x (-x) e1 e2;omega
theorem basA_eq {r:Int} {es:List Ed}:basA r es=basisG r.toNat es:=rfl
end
section
open Go.RowKit
theorem Eqv.ctxL {a b c:List Int} (ha:LtW a) (hb:LtW b) (hc:LtW c) (h:Eqv b c):Eqv (a++b) (a++c):=Eqv.app ha ha hb hc rfl h
theorem Eqv.ctxR {a b c:List Int} (ha:LtW a) (hb:LtW b) (hc:LtW c) (h:Eqv b c):Eqv (b++a) (c++a):=Eqv.app hb hc ha ha h rfl
theorem invW_app3 (a b c:List Int):invW (a++(b++c))=invW c++(invW b++invW a):=by simp [invW_app]
def cjw (u z:List Int):List Int:=u++(z++invW u)
theorem cjw_lt {u z:List Int} (hu:LtW u) (hz:LtW z):LtW (cjw u z):=hu.app (hz.app hu.inv)
theorem cjw_cjw (u v z:List Int):cjw u (cjw v z)=cjw (u++v) z:=by simp [cjw,invW_app]
theorem cjw_nil (z:List Int):cjw [] z=z:=by simp [cjw,invW_nil]
theorem cjw_eqv {u v z:List Int} (hu:LtW u) (hv:LtW v) (hz:LtW z) (h:Eqv u v):Eqv (cjw u z) (cjw v z) :=
 Eqv.app hu hv (hz.app hu.inv) (hz.app hv.inv) h (Eqv.ctxL hz hu.inv hv.inv (Eqv.inv hu hv h))
theorem cjw_eqvZ {u z y:List Int} (hu:LtW u) (hz:LtW z) (hy:LtW y) (h:Eqv z y):Eqv (cjw u z) (cjw u y) :=
 Eqv.ctxL hu (hz.app hu.inv) (hy.app hu.inv) (Eqv.ctxR hu.inv hz hy h)
theorem cjw_inv {u z:List Int} (hu:LtW u) (hz:LtW z):Eqv (cjw u (cjw (invW u) z)) z:=by
 rw [cjw_cjw];have h1:=cjw_eqv (hu.app hu.inv) LtW.nil hz (Eqv.inv_right hu)
 rwa [cjw_nil] at h1
theorem cjw_inv' {u z:List Int} (hu:LtW u) (hz:LtW z):Eqv (cjw (invW u) (cjw u z)) z:=by
 rw [cjw_cjw];have h1:=cjw_eqv (hu.inv.app hu) LtW.nil hz (Eqv.inv_left hu)
 rwa [cjw_nil] at h1
def Cj (es es':List Ed) (u:List Int):Prop:=∀ z,LtW z→(InS es' z↔InS es (cjw u z))
theorem Cj.trans {es es' fs:List Ed} {u v:List Int} (h:Cj es es' u) (k:Cj es' fs v) (lv:LtW v):Cj es fs (u++v):=fun z lz=>by
 rw [k z lz,h _ (cjw_lt lv lz),cjw_cjw]
theorem Cj.symm {es es':List Ed} {u:List Int} (h:Cj es es' u) (lu:LtW u):Cj es' es (invW u):=fun z lz=>by
 rw [h _ (cjw_lt lu.inv lz)];exact (InS.eqv (cjw_inv lu lz)).symm
theorem Cj.refl (es:List Ed):Cj es es []:=fun z lz=>by rw [cjw_nil]
theorem Cj.eqv {es es':List Ed} {u v:List Int} (h:Cj es es' u) (lu:LtW u) (lv:LtW v) (e:Eqv u v):Cj es es' v:=fun z lz=>by
 rw [h z lz];exact InS.eqv (cjw_eqv lu lv lz e)
theorem move_cj {r s:Int} {es:List Ed} {v:Int} (h:IsFol r s es) (hv:0≤v∧v < s) {t:List Int} (ht:Pa es 0 t v):Cj es (moveA r s es v).2 t:=fun z lz=>by
 rw [moveA_lang h hv lz];exact loop_at h ht lz
theorem move_cor {r s:Int} {es:List Ed} {v:Int} (h:IsFol r s es) (hv:0≤v∧v < s):IsCor r (moveA r s es v).1 (moveA r s es v).2:=core_cor (mv_fol h hv).gr
theorem mv_two {r s:Int} {es:List Ed} {v:Int} (h:IsFol r s es) (hv:0≤v∧v < s) (hr:Rch s es) (h2:∀ u,0≤u→u < s→u≠v→Two es u):leaf s (partE (mvOrd s v) es)=none:=by
 have hf:=mv_fol h hv;refine (leaf_none_iff hf).2 fun i h1 h3=>?_;refine ⟨?_,mv_rch h hv hr i (by omega) h3⟩;have ho:=mvOrd_ok hv;obtain ⟨k,rfl⟩:=Int.eq_ofNat_of_zero_le (show 0≤i by omega);have hk:k < (mvOrd s v).length:=by omega
 have hm:(mvOrd s v)[k]∈mvOrd s v:=List.getElem_mem hk;have hid:idxI (mvOrd s v) ((mvOrd s v)[k])=k:=idxI_at ho.2.1 (List.getElem?_eq_getElem hk);generalize (mvOrd s v)[k]=u at hm hid;have hu:=ho.2.2 u hm;have hne:u≠v:=by
  rintro rfl;have:=mv_zero hv;omega
 obtain ⟨y,z,t,t',hyz,h4,h5⟩:=h2 u hu.1 hu.2 hne;have r4:=(h4.rng h.gr.all).2.1;have r5:=(h5.rng h.gr.all).2.1;exact ⟨y,z,_,_,hyz,part_sp.2 ⟨u,t,hm,mv_mem hv r4,hid,rfl,h4⟩,part_sp.2 ⟨u,t',hm,mv_mem hv r5,hid,rfl,h5⟩⟩
theorem two_pos {es:List Ed} {v:Int} {y t:Int} (h:Sp es v y t):1≤deg es v:=by
 obtain ⟨e,he,h1, -⟩:=h.degE;have:=deg_one he v;omega
theorem deg_pos {r s:Int} {es:List Ed} (h:IsFol r s es) (hr:Rch s es) (hs:1 < s) {u:Int} (hu:0≤u∧u < s):1≤deg es u:=by
 obtain ⟨v,hv,hne⟩:∃ v:Int,(0≤v∧v < s)∧v≠u:=by
  by_cases h0:u=0
  ·exact ⟨1,by omega,by omega⟩
  ·exact ⟨0,by omega,fun e=>h0 e.symm⟩
 obtain ⟨a,ha⟩:=hr u hu.1 hu.2;obtain ⟨b,hb⟩:=hr v hv.1 hv.2;have hp:=(ha.inv h.gr).app hb;cases hw:invW a++b with
 | nil=>rw [hw] at hp;exact absurd hp.symm hne
 | cons y t =>
  rw [hw] at hp;obtain ⟨q,h1, -⟩:=hp;exact two_pos h1
def Cyc (s:Int) (es:List Ed):Prop:=¬ (1 < s∧deg es 0=1)
theorem cyc_two {r s:Int} {es:List Ed} (h:IsCor r s es) (hc:Cyc s es) (hs:1 < s):∀ u,0≤u→u < s→Two es u:=fun u h0 h1=>by
 by_cases hu:u=0
 ·subst hu
  have:=deg_pos h.fol h.rch hs ⟨h0,h1⟩;unfold Cyc at hc;exact two_of_deg h.fol (by omega)
 ·exact ((leaf_none_iff h.fol).1 h.leaf u (by omega) h1).1
theorem coreA_none {r s:Int} {es:List Ed} (h:IsFol r s es) (hr:Rch s es) (hl:leaf s es=none):(coreA r (s,es)).1=s∧(coreA r (s,es)).2.length=es.length:=by
 have h1:=core_chi_fol h hr;have h2:(coreA r (s,es)).1=s:=by
  unfold coreA;rw [foldA_nil (g:=(s,es)) (folds_nil.2 h.fol),trimA_none (g:=(s,es)) hl];exact (canonG_chi (g:=(s,es)) h hr).2
 unfold chi at h1;rw [h2] at h1;exact ⟨h2,by simp only at h1;omega⟩
theorem move_same {r s:Int} {es:List Ed} {v:Int} (h:IsCor r s es) (hc:Cyc s es) (hv:0≤v∧v < s):(moveA r s es v).1=s∧(moveA r s es v).2.length=es.length:=by
 have hf:=mv_fol h.fol hv;have hl:leaf s (partE (mvOrd s v) es)=none:=by
  by_cases hs:1 < s
  ·exact mv_two h.fol hv h.rch fun u h0 h1 _=>cyc_two h hc hs u h0 h1
  ·exact (leaf_none_iff hf).2 fun i h1 h2=>by omega
 have h1:=coreA_none hf (mv_rch h.fol hv h.rch) hl;have h2:=moveA_chi h.fol hv h.rch;unfold moveA at h2 ⊢;refine ⟨h1.1,?_⟩;unfold chi at h2;rw [h1.1] at h2;simp only at h2;omega
theorem move_less {r s:Int} {es:List Ed} {x v:Int} (h:IsCor r s es) (hs:1 < s) (hd:deg es 0=1) (hx:Sp es 0 x v):(moveA r s es v).1 < s:=by
 have hg:=hx.rng h.gr.all;have hv:=hg.2.1;have hf:=mv_fol h.fol hv;have hr:=mv_rch h.fol hv h.rch;have hne:(0:Int)≠v:=by
  rintro rfl;have hx0:=hg.2.2.1;have:=(show Two es 0 from ⟨x, -x,0,0,by omega,hx,hx.neg⟩).deg;omega
 have hm0:(0:Int)∈mvOrd s v:=mv_mem hv (by omega);have hi1:idxI (mvOrd s v) 0≠0:=fun e=>hne (idxI_inj hm0 (mv_mem hv hv) (e.trans (mv_zero hv).symm));have hi2:0≤idxI (mvOrd s v) 0:=idxI_mem.2 hm0;have hi3:=idxI_lt hi2;have ho:=(mvOrd_ok hv).1;have hl:leaf s (partE (mvOrd s v) es)≠none:=fun e=>by
  obtain ⟨⟨y,z,t,t',hyz,h4,h5⟩, -⟩:=(leaf_none_iff hf).1 e (idxI (mvOrd s v) 0) (by omega) (by omega);obtain ⟨u,q,hu, -,e1, -,h6⟩:=part_sp.1 h4;obtain ⟨u',q',hu', -,e1', -,h7⟩:=part_sp.1 h5;obtain rfl:=idxI_inj hu hm0 e1;obtain rfl:=idxI_inj hu' hm0 e1';have:=(show Two es 0 from ⟨y,z,_,_,hyz,h6,h7⟩).deg;omega
 have h1:=trimA_chi 40 (g:=(s,partE (mvOrd s v) es)) hf hr;have h3:=trimA_fol 40 (g:=(s,partE (mvOrd s v) es)) hf;have h4:=trimA_size 40 (g:=(s,partE (mvOrd s v) es));have h5:(trimA 40 (s,partE (mvOrd s v) es)).1≠(s,partE (mvOrd s v) es).1:=fun e=>hl ((trimA_same (n:=40) (g:=(s,partE (mvOrd s v) es)) (by omega)).1 e);unfold moveA coreA;rw [foldA_nil (g:=(s,partE (mvOrd s v) es)) (folds_nil.2 hf.fol)];generalize trimA 40 (s,partE (mvOrd s v) es)=g at h1 h3 h4 h5 ⊢;rw [(canonG_chi h3 h1.2).2];simp only at h4 h5;omega
def fstL (r:Int) (es:List Ed):Option Int:=(lets r.toNat).find? fun x=>decide (0≤nextV es 0 x)
theorem fstL_some {r:Int} {es:List Ed} {x:Int} (h:fstL r es=some x):x∈lets r.toNat∧0≤nextV es 0 x∧Sp es 0 x (nextV es 0 x):=by
 have h1:=List.find?_some h;have h2:=List.mem_of_find?_eq_some h;simp at h1;exact ⟨h2,h1,sp_nextV h1⟩
theorem fstL_ex {r s:Int} {es:List Ed} (h:IsFol r s es) {y t:Int} (hs:Sp es 0 y t):∃ x,fstL r es=some x:=by
 cases e:fstL r es with
 | some x=>exact ⟨x,rfl⟩
 | none =>
  have hr:=hs.rng h.gr.all;have:=List.find?_eq_none.1 e y (mem_lets.2 (by have:=h.gr.rank;omega));simp only [decide_eq_true_eq] at this;rw [nextV_sp h hs] at this;omega
open Classical in
noncomputable def cycA (r:Int):Nat→(Int × List Ed) × List Int→(Int × List Ed) × List Int
 | 0,q=>q
 | n+1,q=>if 1 < q.1.1∧deg q.1.2 0=1 then (match fstL r q.1.2 with
  | none=>q
  | some x=>cycA r n (moveA r q.1.1 q.1.2 (nextV q.1.2 0 x),q.2++[x])) else q
theorem cycA_stop {r:Int} {n:Nat} {q:(Int × List Ed) × List Int} (h:¬ (1 < q.1.1∧deg q.1.2 0=1)):cycA r n q=q:=by
 cases n with
 | zero=>rfl
 | succ n=>rw [cycA,if_neg h]
theorem cycA_go {r:Int} {n:Nat} {q:(Int × List Ed) × List Int} (h:1 < q.1.1∧deg q.1.2 0=1) {x:Int} (hx:fstL r q.1.2=some x):cycA r (n+1) q=cycA r n (moveA r q.1.1 q.1.2 (nextV q.1.2 0 x),q.2++[x]):=by
 rw [cycA,if_pos h,hx]
structure CycOk (r s:Int) (es:List Ed) (q:(Int × List Ed) × List Int):Prop where
 cor:IsCor r q.1.1 q.1.2
 lt:LtW q.2
 lt':∀ x∈q.2,x∈lets r.toNat
 cj:Cj es q.1.2 q.2
 chi':chi q.1=chi (s,es)
 len:(q.2.length:Int)+q.1.1≤s
theorem CycOk.start {r s:Int} {es:List Ed} (h:IsCor r s es):CycOk r s es ((s,es),[]):=⟨h,LtW.nil,by simp,Cj.refl es,rfl,by simp⟩
theorem CycOk.step {r s:Int} {es:List Ed} {q:(Int × List Ed) × List Int} (h:CycOk r s es q) (hc:1 < q.1.1∧deg q.1.2 0=1) {x:Int} (hx:fstL r q.1.2=some x) :
  CycOk r s es (moveA r q.1.1 q.1.2 (nextV q.1.2 0 x),q.2++[x])∧(moveA r q.1.1 q.1.2 (nextV q.1.2 0 x)).1 < q.1.1:=by
 obtain ⟨h1,h2,h3⟩:=fstL_some hx;have hv:=(h3.rng h.cor.gr.all).2.1;have hless:=move_less h.cor hc.1 hc.2 h3;have hlt:Lt3 x:=h3.lt3 h.cor.gr;refine ⟨⟨move_cor h.cor.fol hv,h.lt.app (LtW.one hlt),fun y hy=>?_,h.cj.trans (move_cj h.cor.fol hv (pa_one.2 h3)) (LtW.one hlt),?_,?_⟩,hless⟩
 ·rcases List.mem_append.1 hy with hy | hy
  ·exact h.lt' y hy
  ·rw [List.mem_singleton.1 hy];exact h1
 ·rw [← h.chi']
  exact moveA_chi h.cor.fol hv h.cor.rch
 ·have:=h.len
  simp only [List.length_append,List.length_singleton];omega
theorem CycOk.next {r s:Int} {es:List Ed} {q:(Int × List Ed) × List Int} (h:CycOk r s es q) (hc:1 < q.1.1∧deg q.1.2 0=1):∃ x,fstL r q.1.2=some x:=by
 have h1:=deg_pos h.cor.fol h.cor.rch hc.1 (u:=0) (by omega);obtain ⟨v,hv⟩:∃ v:Int,v=1:=⟨_,rfl⟩
 obtain ⟨w,hw⟩:=h.cor.rch v (by omega) (by omega);cases w with
 | nil=>have:(0:Int)=v:=hw;omega
 | cons y t =>
  obtain ⟨q',h2, -⟩:=hw;exact fstL_ex h.cor.fol h2
theorem CycOk.run {r s:Int} {es:List Ed}:∀ (n:Nat) {q:(Int × List Ed) × List Int},CycOk r s es q→q.1.1≤n→CycOk r s es (cycA r n q)∧Cyc (cycA r n q).1.1 (cycA r n q).1.2
 | 0,q,h,hn=>⟨h,fun hc=>by have h1:1 < q.1.1:=hc.1;simp at hn;omega⟩
 | n+1,q,h,hn=>by
  by_cases hc:1 < q.1.1∧deg q.1.2 0=1
  ·obtain ⟨x,hx⟩:=h.next hc
   obtain ⟨h1,h2⟩:=h.step hc hx;rw [cycA_go hc hx];exact CycOk.run n h1 (by simp only;omega)
  ·rw [cycA_stop hc]
   exact ⟨h,hc⟩
theorem cyc_ok {r s:Int} {es:List Ed} (h:IsCor r s es):CycOk r s es (cycA r 40 ((s,es),[]))∧Cyc (cycA r 40 ((s,es),[])).1.1 (cycA r 40 ((s,es),[])).1.2:=CycOk.run 40 (CycOk.start h) (by have:=h.gr.size;simp only;omega)
theorem start_loop {r n:Nat} {es:List Ed} (h:IsCor r n es) {y t:Int} (hs:Sp es 0 y t):∃ w,LtW (y :: w)∧Rd (y :: w)∧Pa es 0 (y :: w) 0:=by
 have hg:=hs.rng h.gr.all;obtain ⟨t,rfl⟩:=Int.eq_ofNat_of_zero_le hg.2.1.1;have hy0:=hg.2.2.1;have he:=(sp_stepE.1 hs).2;have key:∀ {w:List Int},Rd w→Pa es 0 w 0→(∃ w',w=y :: w')→∃ w,LtW (y :: w)∧Rd (y :: w)∧Pa es 0 (y :: w) 0:=by
  rintro w h1 h2 ⟨w',rfl⟩;exact ⟨w',h2.lt h.gr,h1,h2⟩
 have ext:∀ {a b:Nat} {l:Int},(⟨a,l,b⟩:Ed)∈extraE r es→((∃ w',wordV r es a++l :: invW (wordV r es b)=y :: w') ∨ (∃ w',wordV r es b++(-l) :: invW (wordV r es a)=y :: w'))→∃ w,LtW (y :: w)∧Rd (y :: w)∧Pa es 0 (y :: w) 0:=by
  intro a b l hx hc;have h1:=loop_rd h hx;have h2:=basis_pa h (extraE_mem hx);have l2:=h2.lt h.gr;rcases hc with hc | hc
  ·exact key h1 h2 hc
  ·have e:invW (wordV r es a++l :: invW (wordV r es b))=wordV r es b++(-l) :: invW (wordV r es a):=by
    have lb:LtW (wordV r es b):=by
     have:=l2.right.tail.inv;have hi:=h.gr.all _ (extraE_mem hx);simp only [InG] at hi;exact (wordV_pa h (show b < n by omega)).lt h.gr
    rw [show wordV r es a++l :: invW (wordV r es b)=wordV r es a++([l]++invW (wordV r es b)) by simp,invW_app3,invW_invW lb];have hl3:Lt3 l:=l2.right.head;have:invW [l]=[-l]:=by simp [invW,hl3.negI]
    rw [this];simp
   have h3:=h1.inv l2;have h4:=h2.inv h.gr;rw [e] at h3 h4;exact key h3 h4 hc
 by_cases htr:stepE 0 y t∈treeE es (bfs es (lets r) 0)
 ·obtain ⟨p,q,x,hp,hq,e,h1,h2⟩:=treeE_word h htr
  have hx0:=(h1.rng h.gr.all).2.2.1;rcases stepE_inj hy0 hx0 e with ⟨e1,e2,e3⟩ | ⟨e1,e2,e3⟩
  ·have hp0:p=0:=by omega
   subst hp0;have hq0:q≠0:=by
    rintro rfl;rw [show ((0:Nat):Int)=0 from rfl,wordV_zero h] at h2;simp at h2
   rw [show ((0:Nat):Int)=0 from rfl,wordV_zero h,List.nil_append] at h2;obtain ⟨e',he',u,hu,⟨t',ht'⟩,hc⟩:=extra_above h hq hq0;obtain ⟨a,b,ee,ha,hb, -⟩:=edge_nat h.gr (extraE_mem he');rw [ee] at he' hc;simp only at hc;rw [h2] at ht';rcases hc with hc | hc
   ·have:u=a:=by omega
    subst this;exact ext he' (.inl ⟨_,by rw [ht',← e2];rfl⟩)
   ·have:u=b:=by omega
    subst this;exact ext he' (.inr ⟨_,by rw [ht',← e2];rfl⟩)
  ·have hq0:q=0:=by omega
   subst hq0;rw [show ((0:Nat):Int)=0 from rfl,wordV_zero h] at h2;simp at h2
 ·have hx:stepE 0 y t∈extraE r es:=mem_extraE.2 ⟨he,htr⟩
  unfold stepE at hx;split at hx
  ·refine ext (a:=t) (b:=0) (l:=-y) hx (.inr ⟨invW (wordV r es t),?_⟩)
   rw [show ((0:Nat):Int)=0 from rfl,wordV_zero h,List.nil_append,Int.neg_neg]
  ·refine ext (a:=0) (b:=t) (l:=y) hx (.inl ⟨invW (wordV r es t),?_⟩)
   rw [show ((0:Nat):Int)=0 from rfl,wordV_zero h,List.nil_append]
theorem base_two {r s:Int} {es:List Ed} (h:IsCor r s es) (hc:Cyc s es) (hne:es≠[]):Two es 0:=by
 have hs:=h.gr.size;by_cases h1:1 < s
 ·exact cyc_two h hc h1 0 (Int.le_refl _) (by omega)
 ·obtain ⟨e,he⟩:=List.exists_mem_of_ne_nil es hne
  have hi:=h.gr.all e he;unfold InG at hi;have hsp:=sp_edge he (by omega);rw [show e.a=0 by omega,show e.b=0 by omega] at hsp;exact ⟨e.l, -e.l,0,0,by omega,hsp,hsp.neg⟩
theorem no_edges {r s:Int} (h:IsCor r s []):s=1:=by
 have hs:=h.gr.size;by_cases h1:1 < s
 ·obtain ⟨w,hw⟩:=h.rch 1 (by omega) (by omega)
  cases w with
  | nil=>cases hw
  | cons y t =>
   obtain ⟨q,h2, -⟩:=hw;rcases h2 with ⟨-,h⟩ | ⟨-,h⟩ <;> cases h
 ·omega
theorem triv_in {r s:Int} (h:IsCor r s []) {z:List Int} (lz:LtW z):InS [] z↔red [] z=[]:=by
 unfold InS;constructor
 ·intro hp
  cases e:red [] z with
  | nil=>rfl
  | cons y t =>
   rw [e] at hp;obtain ⟨q,h2, -⟩:=hp;rcases h2 with ⟨-,h⟩ | ⟨-,h⟩ <;> cases h
 ·intro e
  rw [e];exact Pa.nil _ _
theorem conj_vertex {r s:Int} {es:List Ed} {s':Int} {es':List Ed} (hx:IsCor r s es) (hy:IsCor r s' es') (hyc:Cyc s' es') {u:List Int} (lu:LtW u) (hl:Cj es es' u):∃ v:Int,(0≤v∧v < s)∧moveA r s es v=(s',es'):=by
 have hs:=hx.gr.size;have lu':=lt_red lu;have hl':Cj es es' (red [] u):=hl.eqv lu lu' (Eqv.toRed lu).symm;have ru':=rd_red lu;generalize red [] u=w at lu' hl' ru';by_cases hfull:(rdA es 0 w).2=w.length
 ·have hp:=rdA_pa hfull
  have hv:=hp.rng hx.gr.all (by omega);refine ⟨_,hv,?_⟩;obtain ⟨e1,e2⟩:=core_uniqI (move_cor hx.fol hv) hy fun z lz=>(move_cj hx.fol hv hp z lz).trans (hl' z lz).symm;exact Prod.ext e1 e2
 ·-- the word leaves the graph
  obtain ⟨a,y,b,v,e,hp,hno⟩:∃ a y b v,w=a++y :: b∧Pa es 0 a v∧∀ t,¬ Sp es v y t:=by
   have key:∀ (w:List Int) (q:Int),(rdA es q w).2≠w.length→∃ a y b v,w=a++y :: b∧Pa es q a v∧∀ t,¬ Sp es v y t:=by
    intro w
    induction w with
    | nil=>intro q h;exact absurd rfl h
    | cons y t ih =>
     intro q h;rw [rdA] at h;by_cases hn:nextV es q y < 0
     ·exact ⟨[],y,t,q,rfl,rfl,nextV_no hn hx.gr.nn⟩
     ·rw [if_neg hn] at h
      obtain ⟨a,y',b,v,e,h1,h2⟩:=ih (nextV es q y) (by simp only [List.length_cons] at h;omega);exact ⟨y :: a,y',b,v,by rw [e];rfl,⟨_,sp_nextV (by omega),h1⟩,h2⟩
   exact key w 0 hfull
  have la:LtW a:=hp.lt hx.gr;have lb:LtW (y :: b):=by rw [e] at lu';exact lu'.right
  have rb:Rd (y :: b):=by rw [e] at ru';exact ru'.right
  -- what lies in the other one begins alike
  have hform:∀ z,LtW z→InS es' z→red [] z=[] ∨ ∃ h,red [] z=invW (y :: b)++h:=by
   intro z lz hz;have h1:=(hl' z lz).1 hz;rw [e,← cjw_cjw] at h1;have h2:Pa es v (red [] (cjw (y :: b) z)) v:=(loop_at hx.fol hp (cjw_lt lb lz)).2 h1;have lc:=cjw_lt lb lz;have rc:=rd_red lc;have lr:=lt_red lc;have hz2:Eqv (cjw (invW (y :: b)) (red [] (cjw (y :: b) z))) z:=(cjw_eqvZ lb.inv lr lc (Eqv.toRed lc)).trans (cjw_inv' lb lz);generalize red [] (cjw (y :: b) z)=h at h2 rc lr hz2;cases h with
   | nil =>
    left
    unfold cjw at hz2;rw [List.nil_append,invW_invW lb] at hz2;exact hz2.symm.trans (Eqv.inv_left lb)
   | cons c t =>
    right
    have hrd:Rd (invW (y :: b)++((c :: t)++(y :: b))):=by
     have h3:Rd ((c :: t)++(y :: b)):=by
      rcases snoc_cases (c :: t) with e2 | ⟨t2,d,e2⟩
      ·cases e2
      ·rw [e2] at rc h2 ⊢
       rw [List.append_assoc];refine Rd.join rc (Rd.cons rb fun z2 s2 e3 hz3=>?_);have e4:=(List.cons.inj e3).1;obtain ⟨q, -,h5⟩:=pa_app.1 h2;have h6:=(pa_one.1 h5).neg;rw [← hz3,← e4] at h6;exact hno _ h6
     have h4:invW (y :: b)=invW b++[-y]:=by
      rw [show y :: b=[y]++b from rfl,invW_app];simp [invW,lb.head.negI]
     have h5:=rb.inv lb;rw [h4] at h5 ⊢;rw [List.append_assoc];refine Rd.join h5 (Rd.cons h3 fun z2 s2 e3 hz3=>?_);have e4:=(List.cons.inj e3).1;obtain ⟨q,h6, -⟩:=h2;rw [Int.neg_neg] at hz3;rw [e4,hz3] at h6;exact hno _ h6
    unfold cjw at hz2;rw [invW_invW lb] at hz2;have h6:=red_self hrd (lb.inv.app (lr.app lb));have h7:red [] z=red [] (invW (y :: b)++((c :: t)++(y :: b))):=hz2.symm;exact ⟨_,h7.trans h6⟩
  by_cases htr:es'=[]
  ·subst htr
   have h1:=no_edges hy;refine ⟨0,by omega,?_⟩;have h0:(0:Int)≤0∧0 < s:=by omega
   obtain ⟨e1,e2⟩:=core_uniqI (move_cor hx.fol h0) hy fun z lz=>by
    rw [move_cj hx.fol h0 (Pa.nil es 0) z lz,cjw_nil,triv_in hy lz,(hl'.symm lu') z lz,triv_in hy (cjw_lt lu'.inv lz)];constructor
    ·intro h
     have:=cjw_eqvZ (u:=w) lu' (cjw_lt lu'.inv lz) LtW.nil (show Eqv _ [] from h);have h2:=(cjw_inv lu' lz).symm.trans this;have h3:Eqv (cjw w []) []:=by
      unfold cjw;rw [List.nil_append];exact Eqv.inv_right lu'
     exact h2.trans h3
    ·intro h
     have:=cjw_eqvZ (u:=invW w) lu'.inv lz LtW.nil (show Eqv z [] from h);have h9:Eqv (cjw (invW w) []) []:=by
      unfold cjw;rw [List.nil_append];exact Eqv.inv_right lu'.inv
     exact this.trans h9
   exact Prod.ext e1 e2
  ·exfalso
   obtain ⟨y1,y2,t1,t2,hne,h1,h2⟩:=base_two hy hyc htr;obtain ⟨r',n',rfl,rfl⟩:=hy.gr.nat;have two:∀ {y' t':Int},Sp es' 0 y' t'→∃ q,invW (y :: b)=y' :: q:=by
    intro y' t' hs;obtain ⟨z,lz,rz,pz⟩:=start_loop hy hs;rcases hform _ lz (InS.mk hy.fol pz) with h3 | ⟨h,h3⟩
    ·rw [red_self rz lz] at h3;cases h3
    ·rw [red_self rz lz] at h3
     cases h4:invW (y :: b) with
     | nil =>
      have:=congrArg List.length h4;simp [invW] at this
     | cons c q =>
      rw [h4] at h3;injection h3 with h5 h6
      exact ⟨q,by rw [h5]⟩
   obtain ⟨q1,e1⟩:=two h1;obtain ⟨q2,e2⟩:=two h2;rw [e1] at e2;injection e2 with e3
   exact hne e3
theorem tot_read {r s:Int} {es:List Ed} (hf:IsFol r s es) (ht:Tot r s es):∀ {w:List Int} {u:Int},(0≤u∧u < s)→(∀ x∈w,x≠0∧-r≤x∧x≤r)→∃ v,Pa es u w v
 | [],u,_,_=>⟨u,rfl⟩
 | x :: w,u,hu,hw=>by
  obtain ⟨h0,h1,h2⟩:=hw x List.mem_cons_self;obtain ⟨t,ht1⟩:=ht u hu.1 hu.2 x h0 h1 h2;obtain ⟨v,hv⟩:=tot_read hf ht (ht1.rng hf.gr.all).2.1 fun y hy=>hw y (List.mem_cons_of_mem _ hy);exact ⟨v,t,ht1,hv⟩
theorem fin_tot {r s:Int} {es:List Ed} (h:IsFin r s es):Tot r s es:=fun v h0 h1 x hx h2 h3=>by
 have hr:=h.cor.gr.rank;have:=h.full v.toNat (by omega) x (mem_lets.2 (by omega));rw [Int.toNat_of_nonneg h0] at this;exact ⟨_,sp_nextV this⟩
theorem conj_fin {r s:Int} {es:List Ed} {s':Int} {es':List Ed} (hx:IsFin r s es) (hy:IsCor r s' es') {u:List Int} (lu:LtW u) (hu:∀ x∈u, -r≤x∧x≤r) (hl:Cj es es' u):s'=s∧IsFin r s' es':=by
 have ht:=fin_tot hx;have hs:=hx.cor.gr.size;obtain ⟨v,hp⟩:=tot_read (w:=u) (u:=0) hx.cor.fol ht (by omega) fun x h=>⟨(lu x h).1,hu x h⟩
 have hv:=hp.rng hx.cor.gr.all (by omega);obtain ⟨e1,e2⟩:=core_uniqI (move_cor hx.cor.fol hv) hy fun z lz=>(move_cj hx.cor.fol hv hp z lz).trans (hl z lz).symm;have ht2:Tot r s (partE (mvOrd s v) es):=fun i h0 h1 x hx0 h2 h3=>by
  have ho:=mvOrd_ok hv;obtain ⟨k,rfl⟩:=Int.eq_ofNat_of_zero_le h0;have hk:k < (mvOrd s v).length:=by omega
  have hm:(mvOrd s v)[k]∈mvOrd s v:=List.getElem_mem hk;have hid:idxI (mvOrd s v) ((mvOrd s v)[k])=k:=idxI_at ho.2.1 (List.getElem?_eq_getElem hk);generalize (mvOrd s v)[k]=q at hm hid;have hq:=ho.2.2 q hm;obtain ⟨t,h4⟩:=ht q hq.1 hq.2 x hx0 h2 h3;exact ⟨_,part_sp.2 ⟨q,t,hm,mv_mem hv (h4.rng hx.cor.gr.all).2.1,hid,rfl,h4⟩⟩
 have h5:=core_tot (mv_fol hx.cor.fol hv) ht2 (mv_rch hx.cor.fol hv hx.cor.rch);unfold moveA at e1 e2;rw [e1,e2] at h5;obtain ⟨h6,h7⟩:=h5;exact ⟨h6,isFin_of hy (by rw [h6];exact h7)⟩
structure CjFacts (r s:Int) (es:List Ed) (wd:List Int) (rr rs:Int) (res:List Ed):Prop where
 c1:IsCor r s es
 wd':IsW r wd
 rr':rr=r
 cor:IsCor r rs res
 cj:Cj es res wd
 chi':chi (rs,res)=chi (s,es)
theorem isW_rng {r:Int} {w:List Int} (h:IsW r w):∀ x∈w, -r≤x∧x≤r:=fun x hx=>by
 have:=h.2.2.2.1 x hx;omega
theorem cj_facts {r s:Int} {es:List Ed} {wd:List Int} {rr rs:Int} {res:List Ed} (h:CjIs r s es wd rr rs res true):CjFacts r s es wd rr rs res:=by
 rcases h with ⟨-,h, -⟩ | ⟨⟨hc,hw⟩,b1,s2,es2,x,he,⟨-,h, -⟩ | ⟨rfl,rfl,hm⟩⟩
 ·cases h
 ·cases h
 ·have hf2:=he.fol hc.fol
  have hg2:=he.gr hc.gr;have f:=he.facts hc.fol;have hr2:=f.rch hc.rch;rcases hm with ⟨-, -,rfl,rfl⟩ | ⟨h, -⟩
  ·refine ⟨hc,hw,rfl,move_cor hf2 hg2.2,fun z lz=>?_,?_⟩
   ·rw [move_cj hf2 hg2.2 f.read z lz,f.lang _ (cjw_lt (isW_lt hw).1 lz)]
   ·have h1:=moveA_chi hf2 hg2.2 hr2
    have h2:=core_chi_fol hf2 hr2;obtain ⟨e1,e2⟩:=core_uniqI (core_cor hf2.gr) hc fun z lz=>(core_lang hf2.gr lz).trans ((genL_inS hf2 lz).trans (f.lang z lz));have e3:coreA rr (s2,es2)=(s,es):=Prod.ext e1 e2;rw [e3] at h2;rw [show ((moveA rr s2 es2 x).1,(moveA rr s2 es2 x).2)=moveA rr s2 es2 x from rfl,h1,← h2]
  ·cases h
theorem CjFacts.fin {r s:Int} {es:List Ed} {wd:List Int} {rr rs:Int} {res:List Ed} (h:CjFacts r s es wd rr rs res):(IsFin r s es↔IsFin r rs res)∧(IsFin r s es→rs=s):=by
 have lw:=(isW_lt h.wd').1;have hr:=h.c1.gr.rank;have h1:IsFin r s es→rs=s∧IsFin r rs res:=fun hf=>conj_fin hf h.cor lw (isW_rng h.wd') h.cj;have h2:IsFin r rs res→s=rs∧IsFin r s es:=fun hf=>conj_fin hf h.c1 lw.inv (fun x hx=>by
  rw [invW_lt lw] at hx;obtain ⟨y,hy,rfl⟩:=List.mem_map.1 (List.mem_reverse.1 hx);have:=isW_rng h.wd' y hy;omega) (h.cj.symm lw)
 exact ⟨⟨fun k=>(h1 k).2,fun k=>(h2 k).2⟩,fun k=>(h1 k).1⟩
theorem CjFacts.rank {r s:Int} {es:List Ed} {wd:List Int} {rr rs:Int} {res:List Ed} (h:CjFacts r s es wd rr rs res):rankI rr rs res=rankI r s es:=by
 obtain ⟨c1,hw,rfl,cor,cj,hchi⟩:=h;rw [rankI_cor c1,rankI_cor cor];unfold chi at hchi;simp only at hchi;omega
noncomputable def acV (r:Int) (x y:Int × List Ed):Option Nat:=by
 classical
 exact (List.range x.1.toNat).find? fun v=>decide (moveA r x.1 x.2 (v:Int)=y)
def AcIs (r s:Int) (es:List Ed) (r' s':Int) (es':List Ed) (wd:List Int) (b:Bool):Prop :=
 (¬ (IsCor r s es∧IsCor r' s' es'∧r=r')∧b=false∧wd=[]) ∨
 ((IsCor r s es∧IsCor r' s' es'∧r=r')∧((acV r (cycA r 40 ((s,es),[])).1 (cycA r 40 ((s',es'),[])).1=none∧b=false∧wd=[]) ∨
  ∃ v:Nat,acV r (cycA r 40 ((s,es),[])).1 (cycA r 40 ((s',es'),[])).1=some v∧b=true∧wd=red [] ((cycA r 40 ((s,es),[])).2++(wordV r.toNat (cycA r 40 ((s,es),[])).1.2 v++invW (cycA r 40 ((s',es'),[])).2))))
theorem AcIs_ex (r s:Int) (es:List Ed) (r' s':Int) (es':List Ed):∃ wd b,AcIs r s es r' s' es' wd b:=by
 by_cases h:IsCor r s es∧IsCor r' s' es'∧r=r'
 ·cases e:acV r (cycA r 40 ((s,es),[])).1 (cycA r 40 ((s',es'),[])).1 with
  | none=>exact ⟨_,_,.inr ⟨h,.inl ⟨e,rfl,rfl⟩⟩⟩
  | some v=>exact ⟨_,_,.inr ⟨h,.inr ⟨v,e,rfl,rfl⟩⟩⟩
 ·exact ⟨_,_,.inl ⟨h,rfl,rfl⟩⟩
theorem acV_some {r:Int} {x y:Int × List Ed} {v:Nat} (h:acV r x y=some v):(v:Int) < x.1∧moveA r x.1 x.2 v=y∧∀ u:Nat,u < v→moveA r x.1 x.2 u≠y:=by
 classical
 unfold acV at h;have h1:=List.find?_some h;have h2:=List.mem_of_find?_eq_some h;have h3:=List.mem_range.1 h2;simp at h1;refine ⟨by omega,h1,fun u hu hm=>?_⟩;obtain ⟨-,as1,bs1,e,h4⟩:=List.find?_eq_some_iff_append.1 h;have e2:as1.length=v:=by
  have h5:(List.range x.1.toNat)[as1.length]?=some v:=by rw [e];simp
  rw [List.getElem?_range (by have:=congrArg List.length e;simp at this;omega)] at h5;exact Option.some.inj h5
 have h6:as1[u]?=some u:=by
  have h7:(List.range x.1.toNat)[u]?=some u:=List.getElem?_range (by omega);rw [e,List.getElem?_append_left (by omega)] at h7;exact h7
 have:=h4 u (List.mem_of_getElem? h6);simp [hm] at this
theorem acV_none {r:Int} {x y:Int × List Ed} (h:acV r x y=none):∀ v:Nat,(v:Int) < x.1→moveA r x.1 x.2 v≠y:=fun v hv hm=>by
 classical
 unfold acV at h;have:=List.find?_eq_none.1 h v (List.mem_range.2 (by omega));simp [hm] at this
theorem ac_facts {r s:Int} {es:List Ed} {r' s':Int} {es':List Ed} {wd:List Int} (h:AcIs r s es r' s' es' wd true) :
  IsCor r s es∧IsCor r' s' es'∧r=r'∧LtW wd∧Rd wd∧(∀ x∈wd,x∈lets r.toNat)∧Cj es es' wd∧rankI r s es=rankI r' s' es':=by
 rcases h with ⟨-,h, -⟩ | ⟨⟨h1,h2,rfl⟩,⟨-,h, -⟩ | ⟨v,hv, -,rfl⟩⟩
 ·cases h
 ·cases h
 ·obtain ⟨a,n,rfl,rfl⟩:=h1.gr.nat
  obtain ⟨o1, -⟩:=cyc_ok h1;obtain ⟨o2, -⟩:=cyc_ok h2;generalize cycA a 40 (((n:Int),es),[])=X at o1 hv ⊢;generalize cycA a 40 ((s',es'),[])=Y at o2 hv ⊢;obtain ⟨⟨sx,ex⟩,p⟩:=X;obtain ⟨⟨sy,ey⟩,q⟩:=Y;obtain ⟨hlt,hm, -⟩:=acV_some hv;have cx:=o1.cor;simp only at hlt hm cx ⊢;obtain ⟨m,rfl⟩:=Int.eq_ofNat_of_zero_le (show 0≤sx by have:=cx.gr.size;omega);have hvm:v < m:=by omega
  have hp:=wordV_pa cx hvm;have lp:=o1.lt;have lq:=o2.lt;have lw:=hp.lt cx.gr;have l2:=lp.app (lw.app lq.inv);simp only at lp lq l2;have o1l:=o1.lt';have o2l:=o2.lt';rw [Int.toNat_natCast] at o1l o2l;rw [Int.toNat_natCast];have hcj:=((o1.cj.trans (move_cj cx.fol (by omega) hp) lw))
  rw [show (moveA a m ex v).2=ey by rw [hm]] at hcj;have hcj2:=hcj.trans (o2.cj.symm lq) lq.inv;simp only [List.append_assoc] at hcj2;refine ⟨h1,h2,trivial,lt_red l2,rd_red l2,fun x hx=>?_,hcj2.eqv l2 (lt_red l2) (Eqv.toRed l2).symm,?_⟩
  ·rcases red_mem hx with hx | hx
   ·cases hx
   ·rcases List.mem_append.1 hx with hx | hx
    ·exact o1l x hx
    ·rcases List.mem_append.1 hx with hx | hx
     ·exact (wordV_ok cx hvm).2 x hx
     ·rw [invW_lt lq] at hx
      obtain ⟨y,hy,rfl⟩:=List.mem_map.1 (List.mem_reverse.1 hx);have:=mem_lets.1 (o2l y hy);exact mem_lets.2 (by omega)
  ·have c1:=o1.chi'
   have c2:=o2.chi';have c3:=moveA_chi cx.fol (v:=(v:Int)) (by omega) cx.rch;rw [hm] at c3;simp only at c1 c2;rw [rankI_cor h1,rankI_cor h2];unfold chi at c1 c2 c3;simp only at c1 c2 c3;omega
theorem ac_found {r s:Int} {es:List Ed} {s':Int} {es':List Ed} {wd:List Int} {b:Bool} {u:List Int} (lu:LtW u) (hl:Cj es es' u) (h1:IsCor r s es) (h2:IsCor r s' es') (h:AcIs r s es r s' es' wd b):b=true:=by
 rcases h with ⟨h, -⟩ | ⟨-,⟨hn, -⟩ | ⟨v, -,h, -⟩⟩
 ·exact absurd ⟨h1,h2,rfl⟩ h
 ·obtain ⟨o1,k1⟩:=cyc_ok h1
  obtain ⟨o2,k2⟩:=cyc_ok h2;generalize cycA r 40 ((s,es),[])=X at o1 k1 hn;generalize cycA r 40 ((s',es'),[])=Y at o2 k2 hn;obtain ⟨⟨sx,ex⟩,p⟩:=X;obtain ⟨⟨sy,ey⟩,q⟩:=Y;have hcj:=((o1.cj.symm o1.lt).trans hl lu).trans o2.cj o2.lt;obtain ⟨v,hv,e⟩:=conj_vertex o1.cor o2.cor k2 ((o1.lt.inv.app lu).app o2.lt) hcj;obtain ⟨v,rfl⟩:=Int.eq_ofNat_of_zero_le hv.1;exact absurd e (acV_none hn v hv.2)
 ·exact h
end
section
open Go.RowKit
theorem find_at {p:Int→Bool} {x:Int}:∀ {l:List Int} {j:Nat},l[j]?=some x→p x=true→(∀ i,i < j→∀ y,l[i]?=some y→p y=false)→l.find? p=some x
 | [],j,h,_,_=>by simp at h
 | y :: t,0,h,hp,_=>by
  obtain rfl:=Option.some.inj h;rw [List.find?_cons,hp]
 | y :: t,j+1,h,hp,hb=>by
  rw [List.find?_cons,hb 0 (by omega) y rfl];exact find_at (l:=t) (j:=j) h hp fun i hi z hz=>hb (i+1) (by omega) z hz
theorem fstL_at {r:Nat} {es:List Ed} {j:Nat} {x:Int} (hx:(lets r)[j]?=some x) (hn:0≤nextV es 0 x) (hb:∀ i,i < j→∀ y,(lets r)[i]?=some y→nextV es 0 y < 0):fstL r es=some x:=by
 unfold fstL;rw [Int.toNat_natCast];exact find_at hx (by simpa using hn) fun i hi y hy=>by have:=hb i hi y hy;simp;omega
theorem fstL_out {r:Nat} {es:List Ed} (hb:∀ i,i < (lets r).length→∀ y,(lets r)[i]?=some y→nextV es 0 y < 0) {x:Int}:fstL r es≠some x:=fun h=>by
 obtain ⟨h1,h2, -⟩:=fstL_some h;rw [Int.toNat_natCast] at h1;obtain ⟨i,hi⟩:=List.mem_iff_getElem?.1 h1;have:=hb i (List.getElem?_eq_some_iff.1 hi).1 x hi;omega
def CycIs (r s:Int) (es:List Ed) (Q:(Int × List Ed) × List Int):Prop:=(IsCor r s es∧cycA r 40 ((s,es),[])=Q) ∨ (¬ IsCor r s es∧Q=((s,es),[]))
theorem CycIs_ex (r s:Int) (es:List Ed):∃ Q,CycIs r s es Q:=by
 by_cases h:IsCor r s es
 ·exact ⟨_,.inl ⟨h,rfl⟩⟩
 ·exact ⟨_,.inr ⟨h,rfl⟩⟩
theorem impl_CyclicGraph_cor (r n:Nat) (A:Option Addr) (es:List Ed) (c:Nat) (w:World) (lo hi:Nat) (hr:RG w lo hi A es) (hcl:es.length≤c) (hco:IsCor r n es) (Q:(Int × List Ed) × List Int) (hQ:cycA r 40 (((n:Int),es),[])=Q) :
  Calls Tryz.prog 42 #[graV r n A es.length c] w fun e w'=>∃ A1 c1 A2 c2,e=.returned (.tuple #[graV r Q.1.1 A1 Q.1.2.length c1,.slice A2 Q.2.length c2])∧OG w' w.heap.size w'.heap.size A1 c1 Q.1.2∧OI w' w.heap.size w'.heap.size A2 c2 Q.2∧Mid 0 0 w w':=by
 have hn40:n≤40:=by have:=hco.gr.size;omega
 have hr3:r≤3:=by have:=hco.gr.rank;omega
 have hl:=hco.gr.len;have hm0:Mid 0 0 w ((w.alloc (.cells #[.int .i64 r,.int .i64 n,.slice A es.length c] 26)).alloc (.cells #[.int .i64 0,.int .i64 0,.slice none 0 0] 26)):=(Mid.alloc _ _).trans (Mid.alloc _ _);have b0:=(Box.new w #[.int .i64 r,.int .i64 n,.slice A es.length c] 26).mid (Mid.alloc _ (.cells #[.int .i64 0,.int .i64 0,.slice none 0 0] 26)) oZr;have b2:=Box.new (w.alloc (.cells #[.int .i64 r,.int .i64 n,.slice A es.length c] 26)) #[.int .i64 0,.int .i64 0,.slice none 0 0] 26;simp only [World.size_alloc] at b2;have HCO:=Lib.hid hco;have HQ:=Lib.hid hQ;have HS0:=Lib.hid (CycOk.start hco);clear hco hQ;go_enter Tryz.func42,Tryz.ntmps42
 go_wp2_with fail;generalize hw1:((w.alloc (.cells #[.int .i64 r,.int .i64 n,.slice A es.length c] 26)).alloc (.cells #[.int .i64 0,.int .i64 0,.slice none 0 0] 26))=w1 at hm0 b0 b2 ⊢;clear hw1;with_reducible refine (impl_copyGraph r n A es c _ _ _ (hr.mid hm0 oZl) (by omega)).mono ?_
 rintro en w2 ⟨A1,c1,rfl,ho,hm2⟩;have hs2:w.heap.size+1 < w1.heap.size:=b2.1;replace b0:=b0.mid hm2 oZr;replace b2:=b2.mid hm2 oZr;replace hm0:=hm0.trans hm2;have hsz2:=hm2.size;have hown0:=owns_base (base':=w.heap.size+2) ho.ov.2.1 hs2;have hbk0:Value.ownBlock (.slice A1 es.length c1)≠some w2.heap.size:=fun h=>by have:=ho.ov.2.2 _ h;omega
 have hal:=(Mid.alloc w2 (.cells #[.int .i64 r,.int .i64 n,.slice A1 es.length c1] 26)).trans (Mid.alloc (w2.alloc (.cells #[.int .i64 r,.int .i64 n,.slice A1 es.length c1] 26)) (.cells #[] 3));have Y3:=(Box.new w2 #[.int .i64 r,.int .i64 n,.slice A1 es.length c1] 26).mid (Mid.alloc (w2.alloc (.cells #[.int .i64 r,.int .i64 n,.slice A1 es.length c1] 26)) (.cells #[] 3)) oZr;have O0:=owns_empty (w2.alloc (.cells #[.int .i64 r,.int .i64 n,.slice A1 es.length c1] 26)) 3 1;rw [World.size_alloc] at O0;replace b0:=b0.mid hal oZr;replace b2:=b2.mid hal oZr;replace hown0:=owns_mid hown0 hal oZl;replace hm0:=hm0.trans hal;have hw3:(w2.alloc (.cells #[.int .i64 r,.int .i64 n,.slice A1 es.length c1] 26)).alloc (.cells #[] 3)=(w2.alloc (.cells #[.int .i64 r,.int .i64 n,.slice A1 es.length c1] 26)).alloc (.cells #[] 3):=rfl;go_upto_region 3 with fail
 generalize hw3:(w2.alloc (.cells #[.int .i64 r,.int .i64 n,.slice A1 es.length c1] 26)).alloc (.cells #[] 3)=w3 at Y3 O0 b0 b2 hown0 hm0 ⊢;obtain ⟨G,hG⟩:∃ G,w2.heap.size=G:=⟨_,rfl⟩
 rw [hG] at Y3 O0 hbk0 hsz2 ⊢;have hGw:w.heap.size+2≤G:=by omega
 clear hw3 hal hm2 ho hG hsz2 hs2;have p0:=b0.cell 0 rfl;have p1:=b0.cell 1 rfl;have p2:=b0.cell 2 rfl;go_wp2_with fail;with_reducible refine (impl_IsCore r n A es c _ _ _ (hr.mid hm0 oZl) (by omega) hcl true (iff_of_true rfl HCO.out)).mono ?_
 rintro en w4 ⟨rfl,hm4⟩;replace Y3:=Y3.mid hm4 oZr;replace b2:=b2.mid hm4 oZr;replace hown0:=owns_mid hown0 hm4 oZl;replace O0:=owns_mid O0 hm4 oZl;replace hm0:=hm0.trans hm4;clear p0 p1 p2 hm4 b0;go_wp2_with fail;go_loopw [5] (fun l wr=>∃ (m s1:Nat) (es1:List Ed) (A2:Option Addr) (c2:Nat) (Ap:Option Addr) (np cp:Nat) (p:List Int),l=.slice Ap np cp∧np+s1≤40∧Hid (p.length=np)∧Hid (cycA r m (((s1:Int),es1),p)=Q)∧s1≤m∧Hid (CycOk r n es (((s1:Int),es1),p))∧wr.ownsRow (G+1) 3 1 (.slice Ap np cp) np (ints p) ∧
   Hid (wr.ownsRow (w.heap.size+2) 68 3 (.slice A2 es1.length c2) es1.length (ints (edI es1)))∧Hid (Value.ownBlock (.slice A2 es1.length c2)≠some G)∧Box wr (w.heap.size+1) [.int .i64 0,.int .i64 0,.slice none 0 0]∧Box wr G [.int .i64 r,.int .i64 s1,.slice A2 es1.length c2]∧Mid 0 0 w wr) (fun _ wr=>sizeAt wr G)
 case atStart=>exact ⟨40,n,es,A1,c1,_,0,0,[],rfl,by omega,Lib.hid rfl,HQ,hn40,HS0,O0,Lib.hid hown0,Lib.hid hbk0,b2,Y3,hm0⟩
 case round =>
  clear O0 hown0 b2 Y3 hm0 hbk0;obtain ⟨m,s1,es1,A2,c2,Ap,np,cp,p,rfl,hnp,HPL,HQm,hsm,HOK,hpath,HE,HBK,b2,Y3,hm⟩:=hrel;have hg1:=HOK.out.cor.gr;simp only at hg1;have hl1:=hg1.len;have hs1:1≤s1:=by have:=hg1.size;omega
  have hlsz:=Lib.hid (sizeAt_box Y3);have HGL:=Lib.hid (show ∀ e∈es1,1≤e.l∧e.l≤3 from fun e he=>by have:=hg1.all e he;unfold InG at this;omega);have hec:es1.length≤c2:=by
   obtain ⟨A',c',hv0,hsc,hcm⟩:=owns_shape HE.out;injection hv0 with _ _ hv0
   omega
  have hrg:=(owns_rv HE.out).rg;have HRG:=Lib.hid hrg;clear hg1 hrg;have y0:=Y3.cell 0 rfl;have y1:=Y3.cell 1 rfl;have y2:=Y3.cell 2 rfl;have exitS:¬ (1 < (s1:Int)∧deg es1 0=1)→Hid (Q=(((s1:Int),es1),p)):=fun hc=>Lib.hid (by rw [← HQm.out,cycA_stop (q:=(((s1:Int),es1),p)) hc]);have HEX:=Lib.hid exitS;clear exitS;by_cases hgt:1 < s1
  ·have hgt2:(1:Int) < (s1:Int):=by omega
   go_wp2_with fail;with_reducible refine (impl_DegreeOf r s1 A2 es1 c2 0 _ _ _ HRG.out (by omega)).mono ?_
   rintro en w5 ⟨rfl,hm5⟩;have HE5:=Lib.hid (owns_mid HE.out hm5 oZl);replace b2:=b2.mid hm5 oZr;replace Y3:=Y3.mid hm5 oZr;replace hpath:=owns_mid hpath hm5 oZl;replace hm:=hm.trans hm5;clear y0 y1 y2 HE HRG;have y0:=Y3.cell 0 rfl;have y1:=Y3.cell 1 rfl;have y2:=Y3.cell 2 rfl;have hG5:G < w5.heap.size:=Y3.1;by_cases hdeg:deg es1 0=1
   ·rw [hdeg]
    have HDG:=Lib.hid hdeg;clear hdeg;go_wp2_with fail;with_reducible refine (impl_letters r _ (by omega)).mono ?_
    rintro en w6 ⟨AL,cL,rfl,hL,hm6⟩;have HE6:=Lib.hid (owns_mid HE5.out hm6 oZl);replace b2:=b2.mid hm6 oZr;replace Y3:=Y3.mid hm6 oZr;replace hpath:=owns_mid hpath hm6 oZl;replace hm:=hm.trans hm6;clear y0 y1 y2 HE5 hm5 hm6;obtain ⟨LL,hLL⟩:∃ LL,(lets r).length=LL:=⟨_,rfl⟩
    have hLL6:LL≤6:=by have:=lets_len r;omega
    rw [hLL];have HLn:=Lib.hid hLL;have HLS:=Lib.hid hL;clear hLL hL;have hG6:G < w6.heap.size:=Y3.1;go_wp2_with fail;go_loopw [5,29] (fun pv iv wr2=>∃ j:Nat,pv=.slice Ap np cp∧iv=.int .i64 j∧j≤LL∧Hid (∀ i,i < j→∀ y,(lets r)[i]?=some y→nextV es1 0 y < 0)∧Mid 0 0 w6 wr2) (fun _ iv _=>LL - (intOf iv).toNat)
    case atStart=>exact ⟨0,rfl,by go_num,Nat.zero_le _,Lib.hid (fun i hi=>absurd hi (Nat.not_lt_zero _)),Mid.refl _ _ _⟩
    case round =>
     obtain ⟨j,rfl,rfl,hj,HB,hmx⟩:=hrel;by_cases hlt:j < LL
     ·have hj0:(0:Int)≤(j:Int):=by omega
      have hj1:(j:Int) < (LL:Int):=by omega
      obtain ⟨B4,o4,x,rfl,hB4,hx,hcx⟩:=(HLS.out.mid hmx oZl).at (k:=j) (by rw [HLn.out];exact hlt);have hxm:=lets_le (List.mem_of_getElem? hx);have HX:=Lib.hid hx;have HEx:=Lib.hid (owns_mid HE6.out hmx oZl);have hpx:=owns_mid hpath hmx oZl;have b2x:=b2.mid hmx oZr;have Y3x:=Y3.mid hmx oZr;have hmm:=hm.trans hmx;have hB4s:B4 < wr.heap.size:=Nat.lt_of_lt_of_le hB4 hmx.size;clear hx;have y0:=Y3x.cell 0 rfl;have y1:=Y3x.cell 1 rfl;have y2:=Y3x.cell 2 rfl;go_wp2_with fail;with_reducible refine (impl_NextVertex r s1 A2 es1 c2 0 x _ _ _ (owns_rv HEx.out).rg (by omega) HGL.out (by omega) (by omega)).mono ?_
      rintro en w7 ⟨rfl,hm7⟩;obtain ⟨t,ht⟩:∃ t,nextV es1 0 x=t:=⟨_,rfl⟩
      rw [ht];have HT:=Lib.hid ht;clear ht hcx;by_cases ht0:0≤t
      ·-- the base moves
       have hf1:fstL r es1=some x:=fstL_at HX.out (by rw [HT.out];exact ht0) HB.out;obtain ⟨o2,hless⟩:=HOK.out.step ⟨hgt2,HDG.out⟩ hf1;have hsp:=(fstL_some hf1).2.2;simp only at o2 hless hsp;rw [HT.out] at o2 hless hsp;have htr:=(hsp.rng HOK.out.cor.gr.all).2.1;simp only at htr;have hQ2:cycA r (m - 1) (moveA r s1 es1 t,p++[x])=Q:=by
        have h9:=HQm.out;rw [show m=(m - 1)+1 by omega,cycA_go (q:=(((s1:Int),es1),p)) ⟨hgt2,HDG.out⟩ hf1] at h9;simp only at h9
        rwa [HT.out] at h9
       have hmv:MoveIs r s1 es1 t (moveA r s1 es1 t).1 (moveA r s1 es1 t).2 true:=.inl ⟨rfl,⟨HOK.out.cor.fol,htr⟩,rfl,rfl⟩;obtain ⟨mv,hmve⟩:∃ mv,moveA r s1 es1 t=mv:=⟨_,rfl⟩
       rw [hmve] at o2 hless hQ2 hmv;obtain ⟨rs2,res2⟩:=mv;simp only at hless hmv;obtain ⟨s2,hs2e⟩:∃ k:Nat,rs2=k:=⟨rs2.toNat,by have:=o2.cor.gr.size;simp only at this;omega⟩
       subst hs2e;have HO2:=Lib.hid o2;have HQ2:=Lib.hid hQ2;have HMV:=Lib.hid hmv;have hl2:res2.length≤120:=o2.cor.gr.len;have hs21:s2 < s1:=by omega
       have HE7:=Lib.hid (owns_mid HEx.out hm7 oZl);have hpath7:=owns_mid hpx hm7 oZl;have b27:=b2x.mid hm7 oZr;have Y37:=Y3x.mid hm7 oZr;have hmm7:=hmm.trans hm7;clear o2 hQ2 hmv hmve hless hsp hf1 y0 y1 y2 HEx hpx b2x Y3x hmm hm7 hpath b2 Y3 hm hmx HE6;have y0:=Y37.cell 0 rfl;have y1:=Y37.cell 1 rfl;have y2:=Y37.cell 2 rfl;go_wp2_with fail;with_reducible refine (impl_MoveBase r s1 A2 es1 c2 t _ _ _ (owns_rv HE7.out).rg (by omega) hec (by omega) s2 res2 true HMV.out).mono ?_
       rintro en w8 ⟨A3,c3,rfl,hog,hm8⟩;have hG7:G < w7.heap.size:=Y37.1;have hw27:w.heap.size+2≤w7.heap.size:=by omega
       replace b27:=b27.mid hm8 oZr;replace Y37:=Y37.mid hm8 oZr;replace hpath7:=owns_mid hpath7 hm8 oZl;replace hmm7:=hmm7.trans hm8;clear y0 y1 y2 HE7;have hG8:G < w8.heap.size:=Y37.1;have yf:=Y37.2.2;have y0:=Y37.cell 0 rfl;have y1:=Y37.cell 1 rfl;have y2:=Y37.cell 2 rfl;have hst:=(Mid.setAt w8 G 0 (.int .i64 r)).trans ((Mid.setAt (w8.setCell ⟨G,0,none⟩ (.int .i64 r)) G 1 (.int .i64 s2)).trans (Mid.setAt ((w8.setCell ⟨G,0,none⟩ (.int .i64 r)).setCell ⟨G,1,none⟩ (.int .i64 s2)) G 2 (.slice A3 res2.length c3)));have Y5:=((Y37.set 0 (.int .i64 r) (by simp) rfl).set 1 (.int .i64 s2) (by simp) rfl).set 2 (.slice A3 res2.length c3) (by simp) rfl;have hm6:=((hmm7.storeNew (p:=⟨G,0,none⟩) (by show w.heap.size≤G;omega) (.int .i64 r)).storeNew (p:=⟨G,1,none⟩) (by show w.heap.size≤G;omega) (.int .i64 s2)).storeNew (p:=⟨G,2,none⟩) (by show w.heap.size≤G;omega) (.slice A3 res2.length c3);have b6:=b27.mid hst (Or.inl (by omega));have hleft6:=owns_mid hpath7 hst (Or.inl (Nat.le_refl _));have hog6:=OG.mid hog hst (Or.inl hG7);have hWs:(((w8.setCell ⟨G,0,none⟩ (.int .i64 r)).setCell ⟨G,1,none⟩ (.int .i64 s2)).setCell ⟨G,2,none⟩ (.slice A3 res2.length c3)).heap.size=w8.heap.size:=by simp
       have HL:=Lib.hid hleft6;have HY:=Lib.hid Y5;have HB6:=Lib.hid b6;have HM:=Lib.hid hm6;have HO6:=Lib.hid hog6;clear hleft6 Y5 b6 hm6 hog6 hst hpath7 b27 Y37 hmm7 hog hm8 HOK HQm HB HX HT HMV HEX;go_wp2_with (at_builtin;refine wpList_pushI2 rfl _ _ rfl (G+1) Ap np cp p rfl HL.out x (by rw [hWs];rfl) (by omega) (by rw [hWs];omega) ?_;intro A9 c9 w9 hl9 hgr9 hat9)
       have hm9:=Mid.of_grownRow HL.out hgr9;have hmo:=(HO6.out).ov.2.1;have hE9:=(owns_base hmo hw27).kept hgr9 (owns_ne hmo HL.out (by decide));have hbk9:Value.ownBlock (.slice A3 res2.length c3)≠some G:=fun h=>by have:=(hmo.lt _ h).1;omega
       have Y9:=HY.out.mid hm9 (Or.inl (Nat.lt_succ_self _));have hmsz:=hlsz.out;have hplx:(p++[x]).length=np+1:=by rw [List.length_append,HPL.out];rfl
       go_roundw
       case rel=>exact ⟨m - 1,s2,res2,A3,c3,A9,np+1,c9,p++[x],rfl,by omega,Lib.hid hplx,HQ2,by omega,HO2,hl9,Lib.hid hE9,Lib.hid hbk9,HB6.out.mid hm9 (Or.inl (by omega)),Y9,HM.out.transNew hm9 (Or.inl (by omega))⟩
       case measure=>rw [hmsz,sizeAt_box Y9];omega
      ·have HB2:Hid (∀ i,i < j+1→∀ y,(lets r)[i]?=some y→nextV es1 0 y < 0):=Lib.hid fun i hi y hy=>by
        by_cases h9:i=j
        ·subst h9
         have h8:=HX.out.symm.trans hy;rw [← Option.some.inj h8,HT.out];omega
        ·exact HB.out i (by omega) y hy
       have hmx7:=hmx.trans hm7;clear HEx hpx b2x Y3x hmm y0 y1 y2;go_wp2_with fail;go_roundw
       case rel=>exact ⟨j+1,rfl,by go_num,by omega,HB2,hmx7⟩
       case measure=>simp [intOf];omega
     ·exfalso
      obtain ⟨x,hx⟩:=HOK.out.next ⟨hgt2,HDG.out⟩;exact fstL_out (fun i hi=>HB.out i (by rw [HLn.out] at hi;omega)) hx
   ·have hdg2:((deg es1 0:Nat):Int)≠1:=by omega
    have hdgb:(((deg es1 0:Nat):Int) == 1)=false:=by simpa using hdg2
    have hQe:=(HEX.out (fun h=>hdeg h.2)).out;clear HQ HQm HEX;subst hQe;have af:=b2.2.2;have hb5:w.heap.size+1 < w5.heap.size:=b2.1;have a0:=b2.cell 0 rfl;have a1:=b2.cell 1 rfl;have a2:=b2.cell 2 rfl;have HEO:=Lib.hid HE5.out;have HPO:=Lib.hid hpath;have HMO:=Lib.hid hm;clear hpath hm;go_wp2_with fail;refine bodyPost_ret (v:=.tuple #[.agg #[.int .i64 r,.int .i64 s1,.slice A2 es1.length c2],.slice Ap np cp]) (by simp [results,Tryz.results42,go_sem,a0,a1,a2,af,hb5]) rfl ⟨A2,c2,Ap,cp,by rw [HPL.out],?_,?_,?_⟩
    ·have h0:OG w5 (w.heap.size+2) w5.heap.size A2 c2 es1:=⟨Nat.le_refl _,HEO.out,fun g hg=>(HEO.out.lt g hg).2⟩
     refine OG.wide (OG.mid h0 (a:=w.heap.size+1) (b:=w.heap.size+2) ?_ (Or.inl (Nat.le_refl _))) (by omega) (by simp;try omega) (Nat.le_refl _);repeat (first | exact Mid.refl _ _ _ | refine Mid.trans ?_ (Mid.alloc _ _).zero | refine Mid.stored ?_ _ (by simp;try omega) (by simp;try omega))
    ·have h0:OI w5 (G+1) w5.heap.size Ap cp p:=by
      have h1:=HPO.out;rw [← HPL.out] at h1;exact ⟨Nat.le_refl _,h1,fun g hg=>(h1.lt g hg).2⟩
     refine OV.wide (OV.mid h0 (a:=w.heap.size+1) (b:=w.heap.size+2) ?_ (Or.inl (by omega))) (by omega) (by simp;try omega) (Nat.le_refl _);repeat (first | exact Mid.refl _ _ _ | refine Mid.trans ?_ (Mid.alloc _ _).zero | refine Mid.stored ?_ _ (by simp;try omega) (by simp;try omega))
    ·repeat (first | exact HMO.out | refine Mid.trans ?_ (Mid.alloc _ _) | refine Mid.storeNew ?_ (by simp;try omega) _)
  ·have hgt2:¬ (1:Int) < (s1:Int):=by omega
   have hQe:=(HEX.out (fun h=>hgt (by have:=h.1;omega))).out;clear HQ HQm HEX;subst hQe;have af:=b2.2.2;have hb5:w.heap.size+1 < wr.heap.size:=b2.1;have a0:=b2.cell 0 rfl;have a1:=b2.cell 1 rfl;have a2:=b2.cell 2 rfl;have HEO:=Lib.hid HE.out;have HPO:=Lib.hid hpath;have HMO:=Lib.hid hm;clear hpath hm;go_wp2_with fail;refine bodyPost_ret (v:=.tuple #[.agg #[.int .i64 r,.int .i64 s1,.slice A2 es1.length c2],.slice Ap np cp]) (by simp [results,Tryz.results42,go_sem,a0,a1,a2,af,hb5]) rfl ⟨A2,c2,Ap,cp,by rw [HPL.out],?_,?_,?_⟩
   ·have h0:OG wr (w.heap.size+2) wr.heap.size A2 c2 es1:=⟨Nat.le_refl _,HEO.out,fun g hg=>(HEO.out.lt g hg).2⟩
    refine OG.wide (OG.mid h0 (a:=w.heap.size+1) (b:=w.heap.size+2) ?_ (Or.inl (Nat.le_refl _))) (by omega) (by simp;try omega) (Nat.le_refl _);repeat (first | exact Mid.refl _ _ _ | refine Mid.trans ?_ (Mid.alloc _ _).zero | refine Mid.stored ?_ _ (by simp;try omega) (by simp;try omega))
   ·have h0:OI wr (G+1) wr.heap.size Ap cp p:=by
     have h1:=HPO.out;rw [← HPL.out] at h1;exact ⟨Nat.le_refl _,h1,fun g hg=>(h1.lt g hg).2⟩
    refine OV.wide (OV.mid h0 (a:=w.heap.size+1) (b:=w.heap.size+2) ?_ (Or.inl (by omega))) (by omega) (by simp;try omega) (Nat.le_refl _);repeat (first | exact Mid.refl _ _ _ | refine Mid.trans ?_ (Mid.alloc _ _).zero | refine Mid.stored ?_ _ (by simp;try omega) (by simp;try omega))
   ·repeat (first | exact HMO.out | refine Mid.trans ?_ (Mid.alloc _ _) | refine Mid.storeNew ?_ (by simp;try omega) _)
theorem impl_CyclicGraph_no (r s:Int) (A:Option Addr) (es:List Ed) (c:Nat) (w:World) (lo hi:Nat) (hr:RG w lo hi A es) (hl:es.length≤1048576) (hcl:es.length≤c) (hco:¬ IsCor r s es) :
  Calls Tryz.prog 42 #[graV r s A es.length c] w fun e w'=>∃ A1 c1 A2 c2,e=.returned (.tuple #[graV r s A1 es.length c1,.slice A2 0 c2])∧OG w' w.heap.size w'.heap.size A1 c1 es∧OI w' w.heap.size w'.heap.size A2 c2 []∧Mid 0 0 w w':=by
 have hm0:Mid 0 0 w ((w.alloc (.cells #[.int .i64 r,.int .i64 s,.slice A es.length c] 26)).alloc (.cells #[.int .i64 0,.int .i64 0,.slice none 0 0] 26)):=(Mid.alloc _ _).trans (Mid.alloc _ _);have b0:=(Box.new w #[.int .i64 r,.int .i64 s,.slice A es.length c] 26).mid (Mid.alloc _ (.cells #[.int .i64 0,.int .i64 0,.slice none 0 0] 26)) oZr;have b2:=Box.new (w.alloc (.cells #[.int .i64 r,.int .i64 s,.slice A es.length c] 26)) #[.int .i64 0,.int .i64 0,.slice none 0 0] 26;simp only [World.size_alloc] at b2;have HCO:=Lib.hid hco;clear hco;go_enter Tryz.func42,Tryz.ntmps42
 go_wp2_with fail;generalize hw1:((w.alloc (.cells #[.int .i64 r,.int .i64 s,.slice A es.length c] 26)).alloc (.cells #[.int .i64 0,.int .i64 0,.slice none 0 0] 26))=w1 at hm0 b0 b2 ⊢;clear hw1;with_reducible refine (impl_copyGraph r s A es c _ _ _ (hr.mid hm0 oZl) hl).mono ?_
 rintro en w2 ⟨A1,c1,rfl,ho,hm2⟩;have hs2:w.heap.size+1 < w1.heap.size:=b2.1;replace b0:=b0.mid hm2 oZr;replace b2:=b2.mid hm2 oZr;replace hm0:=hm0.trans hm2;have hsz2:=hm2.size;have hal:=(Mid.alloc w2 (.cells #[.int .i64 r,.int .i64 s,.slice A1 es.length c1] 26)).trans (Mid.alloc (w2.alloc (.cells #[.int .i64 r,.int .i64 s,.slice A1 es.length c1] 26)) (.cells #[] 3));have Y3:=(Box.new w2 #[.int .i64 r,.int .i64 s,.slice A1 es.length c1] 26).mid (Mid.alloc (w2.alloc (.cells #[.int .i64 r,.int .i64 s,.slice A1 es.length c1] 26)) (.cells #[] 3)) oZr;have O0:=owns_empty (w2.alloc (.cells #[.int .i64 r,.int .i64 s,.slice A1 es.length c1] 26)) 3 1;rw [World.size_alloc] at O0;replace ho:=ho.mid hal oZl;replace b0:=b0.mid hal oZr;replace b2:=b2.mid hal oZr;replace hm0:=hm0.trans hal;go_upto_region 3 with fail
 generalize hw3:(w2.alloc (.cells #[.int .i64 r,.int .i64 s,.slice A1 es.length c1] 26)).alloc (.cells #[] 3)=w3 at Y3 O0 b0 b2 ho hm0 ⊢;obtain ⟨G,hG⟩:∃ G,w2.heap.size=G:=⟨_,rfl⟩
 rw [hG] at Y3 O0 ho hsz2 ⊢;clear hw3 hal hm2 hG;have p0:=b0.cell 0 rfl;have p1:=b0.cell 1 rfl;have p2:=b0.cell 2 rfl;go_wp2_with fail;with_reducible refine (impl_IsCore r s A es c _ _ _ (hr.mid hm0 oZl) hl hcl false (iff_of_false (by simp) HCO.out)).mono ?_
 rintro en w4 ⟨rfl,hm4⟩;replace ho:=ho.mid hm4 oZl;replace Y3:=Y3.mid hm4 oZr;replace b2:=b2.mid hm4 oZr;replace O0:=owns_mid O0 hm4 oZl;replace hm0:=hm0.trans hm4;clear p0 p1 p2 hm4 b0;have af:=b2.2.2;have hb5:w.heap.size+1 < w4.heap.size:=b2.1;have a0:=b2.cell 0 rfl;have a1:=b2.cell 1 rfl;have a2:=b2.cell 2 rfl;have y0:=Y3.cell 0 rfl;have y1:=Y3.cell 1 rfl;have y2:=Y3.cell 2 rfl;have hG4:G < w4.heap.size:=Y3.1;have HO:=Lib.hid ho;have HP:=Lib.hid O0;have HM:=Lib.hid hm0;clear ho O0 hm0 Y3 b2;go_wp2_with fail;refine bodyPost_ret (v:=.tuple #[.agg #[.int .i64 r,.int .i64 s,.slice A1 es.length c1],.slice (some ⟨G+1,0,none⟩) 0 0]) (by simp [results,Tryz.results42,go_sem,a0,a1,a2,af,hb5,y0,y1,y2,hG4]) rfl ⟨A1,c1,_,0,rfl,?_,?_,?_⟩
 ·refine OG.wide (OG.mid HO.out (a:=w.heap.size+1) (b:=w.heap.size+2) ?_ (Or.inl (by omega))) (by omega) (by simp;try omega) (Nat.le_refl _)
  repeat (first | exact Mid.refl _ _ _ | refine Mid.trans ?_ (Mid.alloc _ _).zero | refine Mid.stored ?_ _ (by simp;try omega) (by simp;try omega))
 ·have h0:OI w4 (G+1) w4.heap.size (some ⟨G+1,0,none⟩) 0 []:=⟨Nat.le_refl _,HP.out,fun g hg=>(HP.out.lt g hg).2⟩
  refine OV.wide (OV.mid h0 (a:=w.heap.size+1) (b:=w.heap.size+2) ?_ (Or.inl (by omega))) (by omega) (by simp;try omega) (Nat.le_refl _);repeat (first | exact Mid.refl _ _ _ | refine Mid.trans ?_ (Mid.alloc _ _).zero | refine Mid.stored ?_ _ (by simp;try omega) (by simp;try omega))
 ·repeat (first | exact HM.out | refine Mid.trans ?_ (Mid.alloc _ _) | refine Mid.storeNew ?_ (by simp;try omega) _)
theorem impl_CyclicGraph (r s:Int) (A:Option Addr) (es:List Ed) (c:Nat) (w:World) (lo hi:Nat) (hr:RG w lo hi A es) (hl:es.length≤1048576) (hcl:es.length≤c) (Q:(Int × List Ed) × List Int) (hQ:CycIs r s es Q) :
  Calls Tryz.prog 42 #[graV r s A es.length c] w fun e w'=>∃ A1 c1 A2 c2,e=.returned (.tuple #[graV r Q.1.1 A1 Q.1.2.length c1,.slice A2 Q.2.length c2])∧OG w' w.heap.size w'.heap.size A1 c1 Q.1.2∧OI w' w.heap.size w'.heap.size A2 c2 Q.2∧Mid 0 0 w w':=by
 rcases hQ with ⟨h,hq⟩ | ⟨h,rfl⟩
 ·obtain ⟨a,n,rfl,rfl⟩:=h.gr.nat
  exact impl_CyclicGraph_cor a n A es c w lo hi hr hcl h Q hq
 ·exact impl_CyclicGraph_no r s A es c w lo hi hr hl hcl h
end
end Go.Proofs.YthampgpcajmopaaGreat
