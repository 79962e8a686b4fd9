/- Contracts and lemmas of this seat, many texts in one: see the words ahead of each. No condition beyond those typed in each lemma. -/
import Derived.Test.YthampgpcajmopaaGreatAc6
import Derived.Test.YthampgpcajmopaaGreatAc1
import Derived.Test.YthampgpcajmopaaGreatAc3
import Derived.Test.YthampgpcajmopaaGreatAc2
import Derived.Test.YthampgpcajmopaaGreatAc5

namespace Go.Proofs.YthampgpcajmopaaGreat
set_option linter.unusedVariables false
set_option linter.unusedSimpArgs false
set_option maxHeartbeats 40000000
set_option maxRecDepth 100000
section
open Go.RowKit
def goV (es:List Ed):Int→List Int→Option Int
 | v,[]=>some v
 | v,x :: t=>if nextV es v x < 0 then none else goV es (nextV es v x) t
theorem goV_app (es:List Ed):∀ (a b:List Int) (v:Int),goV es v (a++b)=(goV es v a).bind fun u=>goV es u b
 | [],b,v=>rfl
 | x :: a,b,v=>by
  rw [List.cons_append,goV,goV];split
  ·rfl
  ·exact goV_app es a b _
theorem goV_one (es:List Ed) (v x:Int):goV es v [x]=if nextV es v x < 0 then none else some (nextV es v x):=by
 rw [goV]
 rfl
theorem goV_stop {es:List Ed} {v u x:Int} {w:List Int} {k:Nat} (h:goV es v (w.take k)=some u) (hx:w[k]?=some x) (hn:nextV es u x < 0):goV es v w=none:=by
 have h1:w=w.take k++(x :: w.drop (k+1)):=by rw [← drop_of w hx,List.take_append_drop]
 rw [h1,goV_app,h,Option.bind_some,goV,if_pos hn]
theorem goV_next {es:List Ed} {v u x:Int} {w:List Int} {k:Nat} (h:goV es v (w.take k)=some u) (hx:w[k]?=some x) (hn:¬ nextV es u x < 0):goV es v (w.take (k+1))=some (nextV es u x):=by
 rw [take_snocI hx,goV_app,h,Option.bind_some,goV_one,if_neg hn]
theorem impl_read (r n:Nat) (A:Option Addr) (es:List Ed) (c:Nat) (v:Int) (Aw:Option Addr) (wd:List Int) (cw:Nat) (w:World) (lo hi lo' hi':Nat) (hr:RG w lo hi A es) (hw:RV w lo' hi' Aw (ints wd)) (hg:IsGr r n es) (hwl:wd.length≤1048576) (hok:OkI wd) :
  Calls Tryz.prog 145 #[graV r n A es.length c,.int .i64 v,.slice Aw wd.length cw] w fun e w'=>∃ (u:Int) (k:Nat),e=.returned (.tuple #[.int .i64 u,.int .i64 k])∧k≤wd.length∧goV es v (wd.take k)=some u∧(k=wd.length ∨ ∃ x,wd[k]?=some x∧nextV es u x < 0)∧Mid 0 0 w w':=by
 have hl:=hg.len;have HGL:=Lib.hid (show ∀ e∈es,1≤e.l∧e.l≤3 from fun e he=>by have:=hg.all e he;have:=hg.rank;unfold InG at *;omega);have HG:=Lib.hid hg;have HOK:=Lib.hid hok;have hm0:Mid 0 0 w (w.alloc (.cells #[.int .i64 r,.int .i64 n,.slice A es.length c] 26)):=Mid.alloc _ _;have b0:=Box.new w #[.int .i64 r,.int .i64 n,.slice A es.length c] 26;clear hg hok;go_enter Tryz.func145,Tryz.ntmps145
 go_wp2_with fail;go_loopw [1,13] (fun vv iv wr=>∃ (k:Nat) (u:Int),k≤wd.length∧iv=.int .i64 k∧vv=.int .i64 u∧Hid (goV es v (wd.take k)=some u)∧Box wr w.heap.size [.int .i64 r,.int .i64 n,.slice A es.length c]∧Mid 0 0 w wr) (fun _ i _=>wd.length - (intOf i).toNat)
 case atStart=>exact ⟨0,v,Nat.zero_le _,rfl,rfl,Lib.hid rfl,b0,hm0⟩
 case round =>
  clear b0 hm0;obtain ⟨k,u,hk,rfl,rfl,HV,b0,hm⟩:=hrel;have p0:=b0.cell 0 rfl;have p1:=b0.cell 1 rfl;have p2:=b0.cell 2 rfl;by_cases hlt:k < wd.length
  ·obtain ⟨B,off,x,rfl,hbh,hx,hcx⟩:=(hw.mid hm oZl).at hlt
   have hxr:=HOK.out x (List.mem_of_getElem? hx);have hk1:(k:Int) < (wd.length:Int):=by omega
   have HX:=Lib.hid hx;clear hx;go_wp2_with fail;with_reducible refine (impl_NextVertex r n A es c u x _ lo hi (hr.mid hm oZl) (by omega) HGL.out (by omega) (by omega)).mono ?_
   rintro en w6 ⟨rfl,hm6⟩;replace b0:=b0.mid hm6 oZr;replace hm:=hm.trans hm6;generalize htx:nextV es u x=t;by_cases ht:t < 0
   ·have d1:decide (t < 0)=true:=by simpa using ht
    have HN:Hid (nextV es u x < 0):=Lib.hid (by rw [htx];exact ht);clear ht htx hcx p0 p1 p2;go_wp2_with fail;go_ret2;exact ⟨u,k,rfl,hk,HV.out,.inr ⟨x,HX.out,HN.out⟩,hm⟩
   ·have d1:decide (t < 0)=false:=by simpa using ht
    have HN:=Lib.hid (goV_next HV.out HX.out (by rw [htx];exact ht));rw [htx] at HN;clear ht htx hcx p0 p1 p2;go_wp2_with fail;go_roundw
    case rel=>exact ⟨k+1,t,by omega,by go_num,rfl,HN,b0,hm⟩
    case measure=>simp [intOf];omega
  ·obtain rfl:k=wd.length:=by omega
   go_wp2_with fail;go_ret2;exact ⟨u,wd.length,rfl,Nat.le_refl _,HV.out,.inl rfl,hm⟩
theorem spec_WalkWord (r n v:Nat) (A:Option Addr) (es:List Ed) (c:Nat) (Aw:Option Addr) (wd:List Int) (cw:Nat) (w:World) (lo hi lo' hi':Nat) (hr:RG w lo hi A es) (hw:RV w lo' hi' Aw (ints wd)) (hf:IsFol r n es) (hv:v < n) (hwl:wd.length≤1048576) (hok:OkI wd) :
  Calls Tryz.prog 108 #[graV r n A es.length c,.int .i64 v,.slice Aw wd.length cw] w fun e w'=>∃ (u:Int) (b:Bool),e=.returned (.tuple #[.int .i64 u,.bool b])∧(b=true→goV es v wd=some u)∧(b=false→goV es v wd=none)∧Mid 0 0 w w':=by
 have hg:=hf.gr;have hl:=hg.len;have hn40:n≤40:=by have:=hg.size;omega
 have HGL:=Lib.hid (show ∀ e∈es,1≤e.l∧e.l≤3 from fun e he=>by have:=hg.all e he;have:=hg.rank;unfold InG at *;omega);have HF:=Lib.hid hf;have HOK:=Lib.hid hok;have hm0:Mid 0 0 w (w.alloc (.cells #[.int .i64 r,.int .i64 n,.slice A es.length c] 26)):=Mid.alloc _ _;have b0:=Box.new w #[.int .i64 r,.int .i64 n,.slice A es.length c] 26;have hib:inB (v:Int) 0 ((n:Int) - 1)=true:=by unfold inB;simp;omega
 clear hg hok hf;go_enter Tryz.func108,Tryz.ntmps108
 go_wp2_with fail;with_reducible refine (spec_IsFolded r n A es c _ _ _ (hr.mid hm0 oZl) (by omega) true (iff_of_true rfl HF.out)).mono ?_
 rintro en w1 ⟨rfl,hm1⟩;replace b0:=b0.mid hm1 oZr;replace hm0:=hm0.trans hm1;have p0:=b0.cell 0 rfl;have p1:=b0.cell 1 rfl;have p2:=b0.cell 2 rfl;go_wp2_with fail;with_reducible refine (l1In_at hib _).mono ?_
 rintro en w2 ⟨rfl,rfl⟩;go_wp2_with fail;clear p0 p1 p2 hm1;go_loopw [1,8] (fun vv iv wr=>∃ (k:Nat) (u:Int),k≤wd.length∧iv=.int .i64 k∧vv=.int .i64 u∧Hid (goV es v (wd.take k)=some u)∧Box wr w.heap.size [.int .i64 r,.int .i64 n,.slice A es.length c]∧Mid 0 0 w wr) (fun _ i _=>wd.length - (intOf i).toNat)
 case atStart=>exact ⟨0,v,Nat.zero_le _,rfl,rfl,Lib.hid rfl,b0,hm0⟩
 case round =>
  clear b0 hm0;obtain ⟨k,u,hk,rfl,rfl,HV,b0,hm⟩:=hrel;by_cases hlt:k < wd.length
  ·obtain ⟨B,off,x,rfl,hbh,hx,hcx⟩:=(hw.mid hm oZl).at hlt
   have hxr:=HOK.out x (List.mem_of_getElem? hx);have hk1:(k:Int) < (wd.length:Int):=by omega
   have hk0:(0:Int)≤(k:Int):=by omega
   have HX:=Lib.hid hx;have hBs:B < wr.heap.size:=by have:=hw.1;have:=hm.size;omega
   have k0:=wg_cell b0.1 (b0.cell 0 rfl);have k1:=wg_cell b0.1 (b0.cell 1 rfl);have k2:=wg_cell b0.1 (b0.cell 2 rfl);have k4:=wg_cell hBs hcx;have hA:=fun m os=>spec_NextVertex r n A es c u x (wg wr m os) lo hi (hr.mid (hm.trans (Mid.ofWg wr m os)) oZl) (by omega) HGL.out (by omega) (by omega);clear hx hcx;go_wp2_with fail;refine wp_region_quiet_wg (by kernel_rfl) (by kernel_rfl) ?_;repeat
    (with_reducible refine wpQuiet_step (fun K hK=>?_))
    go_simp
    first
     | ((with_reducible refine hK _ ?_);clear hK K)
     | (rw [if_neg (by decide)];(with_reducible refine hK _ ?_);clear hK K)
     | (apply Exists.intro;refine ⟨fun _=>?_,hK _ ?_⟩;((go_at_call 138;exact Calls.wg_of (hA _ _)));clear hK K)
   with_reducible refine wpQuiet_nil ?_
   intro _ hw';obtain ⟨⟨nq,osq⟩,hw''⟩:=hw';subst hw'';have hwg:=Mid.ofWg wr nq osq;generalize wg wr nq osq=w6 at hwg ⊢;replace b0:=b0.mid hwg oZr;replace hm:=hm.trans hwg;generalize htx:nextV es u x=t;clear k0 k1 k2 k4 hA;by_cases ht:t < 0
   ·have d1:decide (t < 0)=true:=by simpa using ht
    have HN:=Lib.hid (goV_stop HV.out HX.out (by rw [htx];exact ht));clear ht htx;go_wp2_with fail;go_ret2;exact ⟨-1,false,rfl,(fun h=>nomatch h),fun _=>HN.out,hm⟩
   ·have d1:decide (t < 0)=false:=by simpa using ht
    have HN:=Lib.hid (goV_next HV.out HX.out (by rw [htx];exact ht));rw [htx] at HN;clear ht htx;go_wp2_with fail;go_roundw
    case rel=>exact ⟨k+1,t,by omega,by go_num,rfl,HN,b0,hm⟩
    case measure=>simp [intOf];omega
  ·obtain rfl:k=wd.length:=by omega
   rw [List.take_length] at HV;go_wp2_with fail;go_ret2;exact ⟨u,true,rfl,fun _=>HV.out,(fun h=>nomatch h),hm⟩
def permTo (es:List Ed) (wd:List Int) (k:Nat):List Int:=(List.range k).map fun (v:Nat)=>(goV es v wd).getD 0
theorem permTo_succ {es:List Ed} {wd:List Int} {k:Nat} {u:Int} (h:goV es (k:Int) wd=some u):permTo es wd (k+1)=permTo es wd k++[u]:=by simp [permTo,List.range_succ,h]
theorem permTo_len (es:List Ed) (wd:List Int) (k:Nat):(permTo es wd k).length=k:=by simp [permTo]
open Classical in
noncomputable def wordP (r s:Int) (es:List Ed) (wd:List Int):List Int:=if IsFin r s es∧∀ v:Nat,v < s.toNat→goV es v wd≠none then permTo es wd s.toNat else []
theorem wordP_yes {r n:Nat} {es:List Ed} {wd:List Int} (h:IsFin r n es) (h2:∀ v:Nat,v < n→goV es v wd≠none):wordP r n es wd=permTo es wd n:=if_pos ⟨h,h2⟩
theorem wordP_no {r n:Nat} {es:List Ed} {wd:List Int} {v:Nat} (hv:v < n) (h2:goV es v wd=none):wordP r n es wd=[]:=if_neg fun h=>h.2 v hv h2
theorem wordP_inf {r s:Int} {es:List Ed} {wd:List Int} (h:¬ IsFin r s es):wordP r s es wd=[]:=if_neg fun h'=>h h'.1
theorem impl_WordPermutation_fin (r n:Nat) (A:Option Addr) (es:List Ed) (c:Nat) (Aw:Option Addr) (wd:List Int) (cw:Nat) (w:World) (lo hi lo' hi':Nat) (hr:RG w lo hi A es) (hw:RV w lo' hi' Aw (ints wd)) (hcl:es.length≤c) (hf:IsFin r n es) (hwl:wd.length≤1048576) (hok:OkI wd) :
  Calls Tryz.prog 65 #[graV r n A es.length c,.slice Aw wd.length cw] w fun e w'=>∃ A1 c1,e=.returned (.slice A1 (wordP r n es wd).length c1)∧OV w' w.heap.size w'.heap.size 3 1 A1 c1 (wordP r n es wd).length (ints (wordP r n es wd))∧Mid 0 0 w w':=by
 have hl:=hf.cor.gr.len;have hn40:n≤40:=by have:=hf.cor.gr.size;omega
 have HF:=Lib.hid hf;have HOK:=Lib.hid hok;clear hf hok;have O0:=owns_empty (w.alloc (.cells #[.int .i64 r,.int .i64 n,.slice A es.length c] 26)) 3 1;rw [World.size_alloc] at O0;have hm0:Mid 0 0 w ((w.alloc (.cells #[.int .i64 r,.int .i64 n,.slice A es.length c] 26)).alloc (.cells #[] 3)):=(Mid.alloc _ _).trans (Mid.alloc _ _);have b0:=(Box.new w #[.int .i64 r,.int .i64 n,.slice A es.length c] 26).mid (Mid.alloc _ (.cells #[] 3)) oZr;go_enter Tryz.func65,Tryz.ntmps65
 go_wp2_with fail;with_reducible refine (impl_IsFiniteIndex r n A es c _ _ _ (hr.mid hm0 oZl) (by omega) hcl true (iff_of_true rfl HF.out)).mono ?_
 rintro en w1 ⟨rfl,hm1⟩;replace b0:=b0.mid hm1 oZr;replace O0:=owns_mid O0 hm1 oZl;replace hm0:=hm0.trans hm1;clear hm1;go_wp2_with fail;go_loopw [5,6] (fun out vv wr=>∃ (v:Nat) (A1:Option Addr) (c1:Nat),v≤n∧vv=.int .i64 v∧out=.slice A1 v c1∧Hid (∀ u:Nat,u < v→goV es u wd≠none)∧wr.ownsRow (w.heap.size+1) 3 1 (.slice A1 v c1) v (ints (permTo es wd v)) ∧
   Box wr w.heap.size [.int .i64 r,.int .i64 n,.slice A es.length c]∧Mid 0 0 w wr) (fun _ v _=>n - (intOf v).toNat)
 case atStart=>exact ⟨0,_,0,Nat.zero_le _,rfl,rfl,Lib.hid (fun u h=>absurd h (Nat.not_lt_zero _)),O0,b0,hm0⟩
 case round =>
  clear O0 b0 hm0;obtain ⟨v,A1,c1,hv,rfl,rfl,HU,hout,b0,hm⟩:=hrel;have p0:=b0.cell 0 rfl;have p1:=b0.cell 1 rfl;have p2:=b0.cell 2 rfl;by_cases hlt:v < n
  ·have hv1:(v:Int) < (n:Int):=by omega
   have hv0:(0:Int)≤(v:Int):=by omega
   go_wp2_with fail;with_reducible refine (impl_read r n A es c v Aw wd cw _ _ _ _ _ (hr.mid hm oZl) (hw.mid hm oZl) HF.out.cor.gr hwl HOK.out).mono ?_
   rintro en w6 ⟨u,k,rfl,hk,hgo,hend,hm6⟩;have hcase:(k=wd.length∧goV es (v:Int) wd=some u) ∨ (k < wd.length∧goV es (v:Int) wd=none):=by
    rcases hend with rfl | ⟨x,hx,hn⟩
    ·left
     exact ⟨rfl,by rw [List.take_length] at hgo;exact hgo⟩
    ·right
     exact ⟨(List.getElem?_eq_some_iff.1 hx).1,goV_stop hgo hx hn⟩
   clear hgo hend;replace b0:=b0.mid hm6 oZr;replace hout:=owns_mid hout hm6 oZl;replace hm:=hm.trans hm6;clear p0 p1 p2 hm6;rcases hcase with ⟨hk1,hgo⟩ | ⟨hk1,hgo⟩
   ·have HS:=Lib.hid (permTo_succ hgo)
    have HU2:Hid (∀ u:Nat,u < v+1→goV es u wd≠none):=Lib.hid (by
     intro q hq;by_cases h:q < v
     ·exact HU.out q h
     ·obtain rfl:q=v:=by omega
      rw [hgo];exact fun h=>by cases h)
    have HO:=Lib.hid hout;have hsz:w.heap.size+1≤w6.heap.size:=b0.1;clear hgo hout;subst hk1;go_wp2_with (at_builtin;refine wpList_pushI rfl _ _ rfl (w.heap.size+1) A1 v c1 _ rfl HO.out u rfl (by omega) hsz ?_;intro A9 c9 w9 ho9 hm9)
    go_roundw
    case rel=>exact ⟨v+1,A9,c9,by omega,by go_num,rfl,HU2,by rw [HS.out];exact ho9,b0.mid hm9 (Or.inl (Nat.lt_succ_self _)),hm.transNew hm9 (Or.inl (Nat.le_succ _))⟩
    case measure=>simp [intOf];omega
   ·have HW:=Lib.hid (wordP_no (r:=r) hlt hgo)
    have O1:=owns_empty w6 3 1;have hal:=Mid.alloc w6 (.cells #[] 3);have hsz:=hm.size;clear hgo;go_wp2_with fail;go_ret;refine ⟨some ⟨w6.heap.size,0,none⟩,0,by rw [HW.out];rfl,?_,hm.trans hal⟩;rw [HW.out];exact ⟨Nat.le_refl _,owns_base O1 hsz,fun g hg=>(O1.lt g hg).2⟩
  ·obtain rfl:v=n:=by omega
   have HW:=Lib.hid (wordP_yes HF.out HU.out);have HL:=Lib.hid (permTo_len es wd v);have hov:OV wr (w.heap.size+1) wr.heap.size 3 1 A1 c1 v (ints (permTo es wd v)):=⟨Nat.le_refl _,hout,fun g hg=>(hout.lt g hg).2⟩
   go_wp2_with fail;go_ret;exact ⟨A1,c1,by rw [HW.out,HL.out];rfl,by rw [HW.out,HL.out];exact hov.wide (Nat.le_succ _) (Nat.le_refl _) (Nat.le_refl _),hm⟩
theorem impl_WordPermutation_no (r s:Int) (A:Option Addr) (es:List Ed) (c:Nat) (Aw:Option Addr) (n cw:Nat) (w:World) (lo hi:Nat) (hr:RG w lo hi A es) (hl:es.length≤1048576) (hcl:es.length≤c) (hf:¬ IsFin r s es) :
  Calls Tryz.prog 65 #[graV r s A es.length c,.slice Aw n cw] w fun e w'=>∃ A1 c1,e=.returned (.slice A1 0 c1)∧OV w' w.heap.size w'.heap.size 3 1 A1 c1 0 []∧Mid 0 0 w w':=by
 have hm0:Mid 0 0 w ((w.alloc (.cells #[.int .i64 r,.int .i64 s,.slice A es.length c] 26)).alloc (.cells #[] 3)):=(Mid.alloc _ _).trans (Mid.alloc _ _);have O0:=owns_empty (w.alloc (.cells #[.int .i64 r,.int .i64 s,.slice A es.length c] 26)) 3 1;rw [World.size_alloc] at O0;have HF:=Lib.hid hf;clear hf;go_enter Tryz.func65,Tryz.ntmps65
 go_wp2_with fail;with_reducible refine (impl_IsFiniteIndex r s A es c _ _ _ (hr.mid hm0 oZl) hl hcl false (iff_of_false Bool.false_ne_true HF.out)).mono ?_
 rintro en w1 ⟨rfl,hm1⟩;replace O0:=owns_mid O0 hm1 oZl;replace hm0:=hm0.trans hm1;have hov:OV w1 (w.heap.size+1) w1.heap.size 3 1 (some ⟨w.heap.size+1,0,none⟩) 0 0 []:=⟨Nat.le_refl _,O0,fun g hg=>(O0.lt g hg).2⟩
 go_wp2_with fail;go_ret;exact ⟨_,_,rfl,hov.wide (Nat.le_succ _) (Nat.le_refl _) (Nat.le_refl _),hm0⟩
theorem spec_WordPermutation_fin (r n:Nat) (A:Option Addr) (es:List Ed) (c:Nat) (Aw:Option Addr) (wd:List Int) (cw:Nat) (w:World) (lo hi lo' hi':Nat) (hr:RG w lo hi A es) (hw:RV w lo' hi' Aw (ints wd)) (hf:IsFin r n es) (hwl:wd.length≤1048576) (hok:OkI wd) :
  Calls Tryz.prog 66 #[graV r n A es.length c,.slice Aw wd.length cw] w fun e w'=>∃ A1 c1,e=.returned (.slice A1 (wordP r n es wd).length c1)∧OV w' w.heap.size w'.heap.size 3 1 A1 c1 (wordP r n es wd).length (ints (wordP r n es wd))∧Mid 0 0 w w':=by
 have hl:=hf.cor.gr.len;have hn40:n≤40:=by have:=hf.cor.gr.size;omega
 have HF:=Lib.hid hf;have HOK:=Lib.hid hok;clear hf hok;have hm0:Mid 0 0 w (w.alloc (.cells #[.int .i64 r,.int .i64 n,.slice A es.length c] 26)):=Mid.alloc _ _;have b0:=Box.new w #[.int .i64 r,.int .i64 n,.slice A es.length c] 26;go_enter Tryz.func66,Tryz.ntmps66
 go_wp2_with fail;with_reducible refine (spec_IsFiniteIndex r n A es c _ _ _ (hr.mid hm0 oZl) (by omega) true (iff_of_true rfl HF.out)).mono ?_
 rintro en w1 ⟨rfl,hm1⟩;replace b0:=b0.mid hm1 oZr;replace hm0:=hm0.trans hm1;have O0:=owns_base (base':=w.heap.size+1) (owns_empty w1 3 1) b0.1;have hal:=Mid.alloc w1 (.cells #[] 3);replace b0:=b0.mid hal oZr;replace hm0:=hm0.trans hal;clear hm1 hal;go_wp2_with fail;go_loopw [5,6] (fun out vv wr=>∃ (v:Nat) (A1:Option Addr) (c1:Nat),v≤n∧vv=.int .i64 v∧out=.slice A1 v c1∧Hid (∀ u:Nat,u < v→goV es u wd≠none)∧wr.ownsRow (w.heap.size+1) 3 1 (.slice A1 v c1) v (ints (permTo es wd v)) ∧
   Box wr w.heap.size [.int .i64 r,.int .i64 n,.slice A es.length c]∧Mid 0 0 w wr) (fun _ v _=>n - (intOf v).toNat)
 case atStart=>exact ⟨0,_,0,Nat.zero_le _,rfl,rfl,Lib.hid (fun u h=>absurd h (Nat.not_lt_zero _)),O0,b0,hm0⟩
 case round =>
  clear O0 b0 hm0;obtain ⟨v,A1,c1,hv,rfl,rfl,HU,hout,b0,hm⟩:=hrel;have p0:=b0.cell 0 rfl;have p1:=b0.cell 1 rfl;have p2:=b0.cell 2 rfl;by_cases hlt:v < n
  ·have hv1:(v:Int) < (n:Int):=by omega
   have hv0:(0:Int)≤(v:Int):=by omega
   go_wp2_with fail;with_reducible refine (spec_WalkWord r n v A es c Aw wd cw _ _ _ _ _ (hr.mid hm oZl) (hw.mid hm oZl) HF.out.cor.fol hlt hwl HOK.out).mono ?_
   rintro en w6 ⟨u,bb,rfl,hb1,hb2,hm6⟩;have hcase:(bb=true∧goV es (v:Int) wd=some u) ∨ (bb=false∧goV es (v:Int) wd=none):=by
    cases bb with
    | true=>exact .inl ⟨rfl,hb1 rfl⟩
    | false=>exact .inr ⟨rfl,hb2 rfl⟩
   clear hb1 hb2;replace b0:=b0.mid hm6 oZr;replace hout:=owns_mid hout hm6 oZl;replace hm:=hm.trans hm6;clear p0 p1 p2 hm6;rcases hcase with ⟨hk1,hgo⟩ | ⟨hk1,hgo⟩
   ·have HS:=Lib.hid (permTo_succ hgo)
    have HU2:Hid (∀ u:Nat,u < v+1→goV es u wd≠none):=Lib.hid (by
     intro q hq;by_cases h:q < v
     ·exact HU.out q h
     ·obtain rfl:q=v:=by omega
      rw [hgo];exact fun h=>by cases h)
    have HO:=Lib.hid hout;have hsz:w.heap.size+1≤w6.heap.size:=b0.1;clear hgo hout;subst hk1;go_wp2_with (at_builtin;refine wpList_pushI rfl _ _ rfl (w.heap.size+1) A1 v c1 _ rfl HO.out u rfl (by omega) hsz ?_;intro A9 c9 w9 ho9 hm9)
    go_roundw
    case rel=>exact ⟨v+1,A9,c9,by omega,by go_num,rfl,HU2,by rw [HS.out];exact ho9,b0.mid hm9 (Or.inl (Nat.lt_succ_self _)),hm.transNew hm9 (Or.inl (Nat.le_succ _))⟩
    case measure=>simp [intOf];omega
   ·have HW:=Lib.hid (wordP_no (r:=r) hlt hgo)
    have O1:=owns_empty w6 3 1;have hal:=Mid.alloc w6 (.cells #[] 3);have hsz:=hm.size;clear hgo;subst hk1;go_wp2_with fail;go_ret;refine ⟨some ⟨w6.heap.size,0,none⟩,0,by rw [HW.out];rfl,?_,hm.trans hal⟩;rw [HW.out];exact ⟨Nat.le_refl _,owns_base O1 hsz,fun g hg=>(O1.lt g hg).2⟩
  ·obtain rfl:v=n:=by omega
   have HW:=Lib.hid (wordP_yes HF.out HU.out);have HL:=Lib.hid (permTo_len es wd v);have hov:OV wr (w.heap.size+1) wr.heap.size 3 1 A1 c1 v (ints (permTo es wd v)):=⟨Nat.le_refl _,hout,fun g hg=>(hout.lt g hg).2⟩
   go_wp2_with fail;go_ret;exact ⟨A1,c1,by rw [HW.out,HL.out];rfl,by rw [HW.out,HL.out];exact hov.wide (Nat.le_succ _) (Nat.le_refl _) (Nat.le_refl _),hm⟩
theorem spec_WordPermutation_no (r s:Int) (A:Option Addr) (es:List Ed) (c:Nat) (Aw:Option Addr) (n cw:Nat) (w:World) (lo hi:Nat) (hr:RG w lo hi A es) (hl:es.length≤1048576) (hf:¬ IsFin r s es) :
  Calls Tryz.prog 66 #[graV r s A es.length c,.slice Aw n cw] w fun e w'=>∃ A1 c1,e=.returned (.slice A1 0 c1)∧OV w' w.heap.size w'.heap.size 3 1 A1 c1 0 []∧Mid 0 0 w w':=by
 have hm0:Mid 0 0 w (w.alloc (.cells #[.int .i64 r,.int .i64 s,.slice A es.length c] 26)):=Mid.alloc _ _;have HF:=Lib.hid hf;clear hf;go_enter Tryz.func66,Tryz.ntmps66
 go_wp2_with fail;with_reducible refine (spec_IsFiniteIndex r s A es c _ _ _ (hr.mid hm0 oZl) hl false (iff_of_false Bool.false_ne_true HF.out)).mono ?_
 rintro en w1 ⟨rfl,hm1⟩;replace hm0:=hm0.trans hm1;have hsz:=hm0.size;have O1:=owns_empty w1 3 1;have hal:=Mid.alloc w1 (.cells #[] 3);have hov:OV (w1.alloc (.cells #[] 3)) w.heap.size (w1.alloc (.cells #[] 3)).heap.size 3 1 (some ⟨w1.heap.size,0,none⟩) 0 0 []:=⟨Nat.le_refl _,owns_base O1 hsz,fun g hg=>(O1.lt g hg).2⟩
 go_wp2_with fail;go_ret;exact ⟨_,_,rfl,hov,hm0.trans hal⟩
def WordPermutationIs (r0 s0:Int) (d0:List Ed) (d1:List Int) (res0:List Int):Prop:=res0=wordP r0 s0 d0 d1
theorem WordPermutationIs_ex (r0 s0:Int) (d0:List Ed) (d1:List Int) (hl0:d0.length≤1048576) (o1:OkI d1) (hl1:d1.length≤1048576):∃ res0,WordPermutationIs r0 s0 d0 d1 res0:=⟨_,rfl⟩
theorem WordPermutationIs_len {r0 s0:Int} {d0:List Ed} {d1:List Int} {res0:List Int} (h:WordPermutationIs r0 s0 d0 d1 res0) (hl0:d0.length≤1048576) (o1:OkI d1) (hl1:d1.length≤1048576):res0.length≤1048576:=by
 obtain rfl:res0=_:=h;unfold wordP;split
 ·rename_i h
  have h2:=h.1.cor.gr.size;rw [permTo_len];omega
 ·simp
theorem sspec_WordPermutation (r0 s0:Int) (A0:Option Addr) (d0:List Ed) (c0:Nat) (A1:Option Addr) (d1:List Int) (c1:Nat) (w:World) (lo0 hi0:Nat) (h0:OG w lo0 hi0 A0 c0 d0) (hl0:d0.length≤1048576) (lo1 hi1:Nat) (h1:OI w lo1 hi1 A1 c1 d1) (o1:OkI d1) (hl1:d1.length≤1048576) (res0:List Int) (h:WordPermutationIs r0 s0 d0 d1 res0) :
  Calls Tryz.prog 66 #[.agg #[.int .i64 r0,.int .i64 s0,.slice A0 d0.length c0],.slice A1 d1.length c1] w fun e w'=>∃ (A:Option Addr) (c:Nat),e=.returned (.slice A res0.length c)∧OI w' w.heap.size w'.heap.size A c res0∧Mid 0 0 w w':=by
 obtain rfl:res0=_:=h;by_cases hf:IsFin r0 s0 d0
 ·obtain ⟨r,n,rfl,rfl⟩:=hf.cor.gr.nat
  exact spec_WordPermutation_fin r n A0 d0 c0 A1 d1 c1 w lo0 hi0 lo1 hi1 h0.rg (OI.ri h1) hf hl1 o1
 ·rw [wordP_inf hf]
  exact spec_WordPermutation_no r0 s0 A0 d0 c0 A1 d1.length c1 w lo0 hi0 h0.rg hl0 hf
theorem simpl_WordPermutation (r0 s0:Int) (A0:Option Addr) (d0:List Ed) (c0:Nat) (A1:Option Addr) (d1:List Int) (c1:Nat) (w:World) (lo0 hi0:Nat) (h0:OG w lo0 hi0 A0 c0 d0) (hl0:d0.length≤1048576) (lo1 hi1:Nat) (h1:OI w lo1 hi1 A1 c1 d1) (o1:OkI d1) (hl1:d1.length≤1048576) (res0:List Int) (h:WordPermutationIs r0 s0 d0 d1 res0) :
  Calls Tryz.prog 65 #[.agg #[.int .i64 r0,.int .i64 s0,.slice A0 d0.length c0],.slice A1 d1.length c1] w fun e w'=>∃ (A:Option Addr) (c:Nat),e=.returned (.slice A res0.length c)∧OI w' w.heap.size w'.heap.size A c res0∧Mid 0 0 w w':=by
 obtain rfl:res0=_:=h;by_cases hf:IsFin r0 s0 d0
 ·obtain ⟨r,n,rfl,rfl⟩:=hf.cor.gr.nat
  exact impl_WordPermutation_fin r n A0 d0 c0 A1 d1 c1 w lo0 hi0 lo1 hi1 h0.rg (OI.ri h1) h0.cnt.1 hf hl1 o1
 ·rw [wordP_inf hf]
  exact impl_WordPermutation_no r0 s0 A0 d0 c0 A1 d1.length c1 w lo0 hi0 h0.rg hl0 h0.cnt.1 hf
end
section
open Go.RowKit
section
variable {P:Program} {ops:Array Oper} {Q:Exit→Act→World→Prop} {md:Region.Mode} {S:World→Prop} {Z:List Nat}
def wpAnyZ (P:Program) (md:Region.Mode) (ops:Array Oper) (Q:Exit→Act→World→Prop) (S:World→Prop) (Z:List Nat):Nat→Array Bool→Act→World→Prop
 | 0,listed,a,w=>Region.ready md ops listed=[]∧Q .normal a w
 | fuel+1,listed,a,w =>
  (Region.ready md ops listed=[]→Q .normal a w) ∧
  ∀ i∈Region.ready md ops listed,wpOp P ops Q i (fun a' w'=>(i∈Z ∨ S w')∧wpAnyZ P md ops Q S Z fuel (listed.setIfInBounds i true) a' w') a w
theorem wpAny_of_Z:∀ (fuel:Nat) (listed:Array Bool) (a:Act) (w:World),wpAnyZ P md ops Q S Z fuel listed a w→wpAny P md ops Q fuel listed a w
 | 0,_,_,_,h=>h
 | fuel+1,_,_,_,h=>⟨h.1,fun i hi=>wpOp_mono (fun a' w' h'=>wpAny_of_Z fuel _ a' w' h'.2) (h.2 i hi)⟩
theorem not_lastZ {z i:Nat} {listed:Array Bool} (hz:Region.waitsFor md ops z i=true) (hun:listed.getD i true=false):z ∉ Region.ready md ops listed:=by
 intro hr;obtain ⟨-,oz,hoz,hall⟩:=mem_ready.1 hr;obtain ⟨oz',hoz',e,he,hb,hon⟩:=Region.waitsFor_spec hz;obtain rfl:oz'=oz:=Option.some.inj (hoz'.symm.trans hoz);have h1:=hall e he hb;rw [hon,getD_both hun] at h1;cases h1
theorem not_lastC {i m:Nat} {C:List Nat} {listed:Array Bool} (hC:∀ m∈C,listed.getD m true=false∧∃ p∈i :: C,Region.waitsFor md ops m p=true) (hi:listed.getD i true=false) (hm:m∈C):m ∉ Region.ready md ops listed:=by
 obtain ⟨-,p,hp,hw⟩:=hC m hm;have hun:listed.getD p true=false:=by
  rcases List.mem_cons.1 hp with rfl | hp
  ·exact hi
  ·exact (hC p hp).1
 exact not_lastZ hw hun
theorem wpAnyZ_firstC {i:Nat} {oi:Oper} {v:Value} {C:List Nat} (hi:ops[i]?=some oi) (hsel:∀ (j:Nat) (o:Oper) cs b,ops[j]?=some o→o.op≠.select cs b)
  (hQ:∀ c a w,Q (.panic c) (a.put oi.dst v) w→Q (.panic c) a w) (hZC:∀ z∈Z,z∈C) :
  ∀ (fuel:Nat) (listed:Array Bool) (a:Act) (w:World),
   (∀ j oj,ops[j]?=some oj→j≠i→listed.getD j true=false→(∀ e∈oj.after,Region.binds md e=true→e.on≠i)→oi.apart ops oj=true) →
   (∀ m∈C,listed.getD m true=false∧∃ p∈i :: C,Region.waitsFor md ops m p=true) →
   i∈Region.ready md ops listed→YieldsIf P ops S oi v a→S w →
   wpAnyZ P md ops Q S Z fuel (listed.setIfInBounds i true) (a.put oi.dst v) w→wpAnyZ P md ops Q S Z (fuel+1) listed a w:=by
 intro fuel
 induction fuel with
 | zero =>
  intro listed a w _ _ hr hy hS H;refine ⟨fun h=>(by rw [h] at hr;cases hr),fun j hj=>?_⟩;by_cases hji:j=i
  ·subst hji;exact hy.wpOp hi hS ⟨.inr hS,H⟩
  ·have:=ready_mono hj hji
   rw [H.1] at this;cases this
 | succ fuel ih =>
  intro listed a w hfree hC hr hy hS H;refine ⟨fun h=>(by rw [h] at hr;cases hr),fun j hj=>?_⟩;by_cases hji:j=i
  ·subst hji;exact hy.wpOp hi hS ⟨.inr hS,H⟩
  ·have hjC:j ∉ C:=fun e=>not_lastC hC (mem_ready.1 hr).1 e hj
   have hjz:j ∉ Z:=fun e=>hjC (hZC j e);have h1:=H.2 j (ready_mono hj hji);obtain ⟨hjun,oj,hoj,hall⟩:=mem_ready.1 hj;have hnot:∀ e∈oj.after,Region.binds md e=true→e.on≠i:=fun e he hb heq=>by
    have h1:=hall e he hb;have h0:=(mem_ready.1 hr).1;rw [heq] at h1;rcases Nat.lt_or_ge i listed.size with h' | h'
    ·simp [h'] at h0 h1;rw [h0] at h1;cases h1
    ·simp [Array.getElem?_eq_none h'] at h1
   have h2:=wpOp_putIf hoj (hfree j oj hoj hji hjun hnot) (fun cs b=>hsel i oi cs b hi) (fun cs b=>hsel j oj cs b hoj) hQ hy h1;have hfree':∀ k ok,ops[k]?=some ok→k≠i→(listed.setIfInBounds j true).getD k true=false →
     (∀ e∈ok.after,Region.binds md e=true→e.on≠i)→oi.apart ops ok=true:=fun k ok hk hki hun hno=>by
    refine hfree k ok hk hki ?_ hno;by_cases hjk:j=k
    ·subst hjk;exact hjun
    ·rw [getD_set_ne true hjk] at hun;exact hun
   have hC':∀ m∈C,(listed.setIfInBounds j true).getD m true=false∧∃ p∈i :: C,Region.waitsFor md ops m p=true:=fun m hm=>by
    refine ⟨?_,(hC m hm).2⟩;have hjm:j≠m:=fun e=>hjC (e ▸ hm);rw [getD_set_ne true hjm];exact (hC m hm).1
   refine wpOp_mono (fun a' w' h3=>?_) h2;have hS':S w':=h3.2.1.resolve_left hjz;refine ⟨.inr hS',ih (listed.setIfInBounds j true) a' w' hfree' hC' (ready_mono hr (Ne.symm hji)) h3.1 hS' ?_⟩;rw [Array.setIfInBounds_comm _ _ hji];exact h3.2.2
theorem wpAnyZ_takeC (C:List Nat) {i:Nat} {oi:Oper} {v:Value} {fuel:Nat} {listed:Array Bool} {a:Act} {w:World} (hi:ops[i]?=some oi)
  (hs:Region.noSelect ops=true) (hf:Region.free md ops listed i=true) (hr:(Region.ready md ops listed).contains i=true)
  (hz:((Z.all fun z=>C.contains z) && C.all fun m=>(listed.getD m true == false) && (i :: C).any fun p=>Region.waitsFor md ops m p)=true)
  (hQ:∀ c a w,Q (.panic c) (a.put oi.dst v) w→Q (.panic c) a w) (hy:YieldsIf P ops S oi v a) (hS:S w)
  (h:wpAnyZ P md ops Q S Z fuel (listed.setIfInBounds i true) (a.put oi.dst v) w):wpAnyZ P md ops Q S Z (fuel+1) listed a w:=by
 rw [Bool.and_eq_true] at hz;refine wpAnyZ_firstC hi (Region.noSelect_spec hs) hQ (C:=C) (fun z hzm=>by simpa using List.all_eq_true.1 hz.1 z hzm) fuel listed a w (Region.free_spec hi hf) (fun m hm=>?_) (by simpa using hr) hy hS h;have:=List.all_eq_true.1 hz.2 m hm;rw [Bool.and_eq_true] at this;refine ⟨by simpa using this.1,?_⟩;obtain ⟨p,hp,hw⟩:=List.any_eq_true.1 this.2;exact ⟨p,hp,hw⟩
def AllReadyZ (P:Program) (md:Region.Mode) (ops:Array Oper) (Q:Exit→Act→World→Prop) (S:World→Prop) (Z:List Nat) (fuel:Nat) (listed:Array Bool) (a:Act) (w:World) (rs:List Nat):Prop :=
 ∀ i∈rs,wpOp P ops Q i (fun a' w'=>(i∈Z ∨ S w')∧wpAnyZ P md ops Q S Z fuel (listed.setIfInBounds i true) a' w') a w
theorem AllReadyZ.nil {fuel:Nat} {listed:Array Bool} {a:Act} {w:World}:AllReadyZ P md ops Q S Z fuel listed a w []:=fun _ h=>by cases h
theorem AllReadyZ.cons {fuel:Nat} {listed:Array Bool} {a:Act} {w:World} {i:Nat} {o:Oper} {rs:List Nat} (ho:ops[i]?=some o)
  (h:∀ K':Act→World→Prop,Shut (∀ a w,(i∈Z ∨ S w)→((i∈Z ∨ S w)→wpAnyZ P md ops Q S Z fuel (listed.setIfInBounds i true) a w)→K' a w)→if Region.wanted o (yielded ops a.tmps)=true then Oper.wp P o a w K' Q else K' (a.put o.dst undef) w)
  (hs:AllReadyZ P md ops Q S Z fuel listed a w rs):AllReadyZ P md ops Q S Z fuel listed a w (i :: rs):=fun j hj=>by
 rcases List.mem_cons.1 hj with rfl | hj
 ·exact wpOp_step ho (fun K' hK=>h K' (fun a w hS hW=>hK a w ⟨hS,hW hS⟩))
 ·exact hs j hj
theorem wpAnyZ_ready {rs:List Nat} {fuel:Nat} {listed:Array Bool} {a:Act} {w:World} (hr:Region.ready md ops listed=rs) (hne:rs≠[])
  (h:AllReadyZ P md ops Q S Z fuel listed a w rs):wpAnyZ P md ops Q S Z (fuel+1) listed a w :=
 ⟨fun h0=>absurd (hr.symm.trans h0) hne,fun i hi=>h i (hr ▸ hi)⟩
theorem wpAnyZ_done {listed:Array Bool} {a:Act} {w:World} (hr:Region.ready md ops listed=[]) (h:Q .normal a w):∀ fuel,wpAnyZ P md ops Q S Z fuel listed a w
 | 0=>⟨hr,h⟩
 | _+1=>⟨fun _=>h,by rw [hr];simp⟩
theorem wp_region_Z {id:Nat} {a:Act} {w:World} (Z:List Nat) (hm:P.follows .mixedOrders=true) (hS:S w.drew)
  (h:wpAnyZ P .any ops Q S Z ops.size (Array.replicate ops.size false) a w.drew):(Code.region id ops true).wp P Q a w :=
 wp_region_any hm (wpAny_of_Z _ _ _ _ h)
end
end
section
variable {P:Program} {ops:Array Oper} {Q:Exit→Act→World→Prop} {md:Region.Mode} {S:World→Prop} {Z:List Nat}
theorem tkZ (C:List Nat) (i:Nat) {oi:Oper} {v:Value} {fuel:Nat} {listed:Array Bool} {a:Act} {w:World} (hi:ops[i]?=some oi) (hS:S w)
 (h:wpAnyZ P md ops Q S Z fuel (listed.setIfInBounds i true) (a.put oi.dst v) w)
 (hs:Region.noSelect ops=true:=by kernel_rfl) (hf:Region.free md ops listed i=true:=by kernel_rfl) (hr:(Region.ready md ops listed).contains i=true:=by kernel_rfl)
 (hz:((Z.all fun z=>C.contains z) && C.all fun m=>(listed.getD m true == false) && (i :: C).any fun p=>Region.waitsFor md ops m p)=true:=by kernel_rfl)
 (hy:∀ w,S w→(execOp a.eval oi).run P w=.ok (.value v) w:=by intro w hSw;(try dsimp only at hSw);go_simp;try with_reducible rfl)
 (hQ:∀ c a w,Q (.panic c) (a.put oi.dst v) w→Q (.panic c) a w:=by exact fun _ _ _ h=>h) (hw:Region.wanted oi (yielded ops a.tmps)=true:=by rfl):wpAnyZ P md ops Q S Z (fuel+1) listed a w :=
 wpAnyZ_takeC C hi hs hf hr hz hQ (Or.inl ⟨hw,hy⟩) hS h
theorem rdZ (i:Nat) {fuel:Nat} {listed:Array Bool} {a:Act} {w:World} {o:Oper} (ho:ops[i]?=some o)
 (h:∀ K':Act→World→Prop,Shut (∀ a w,(i∈Z ∨ S w)→((i∈Z ∨ S w)→wpAnyZ P md ops Q S Z fuel (listed.setIfInBounds i true) a w)→K' a w)→if Region.wanted o (yielded ops a.tmps)=true then Oper.wp P o a w K' Q else K' (a.put o.dst undef) w)
 (hr:Region.ready md ops listed=[i]:=by kernel_rfl):wpAnyZ P md ops Q S Z (fuel+1) listed a w:=wpAnyZ_ready hr (by simp) (AllReadyZ.cons ho h AllReadyZ.nil)
end
section
open Go.RowKit
theorem rdA_is {es:List Ed}:∀ {w:List Int} {v u:Int} {k:Nat},goV es v (w.take k)=some u→k≤w.length→(k=w.length ∨ ∃ x,w[k]?=some x∧nextV es u x < 0)→rdA es v w=(u,k)
 | [],v,u,k,h,hk,h2=>by
  obtain rfl:k=0:=by simpa using hk
  rw [List.take_nil,goV] at h;injection h with h
  subst h
  rfl
 | x :: t,v,u,0,h,hk,h2=>by
  rw [List.take_zero,goV] at h;injection h with h
  subst h;rcases h2 with h2 | ⟨y,hy,hn⟩
  ·simp at h2
  ·simp at hy
   subst hy;rw [rdA,if_pos hn]
 | x :: t,v,u,k+1,h,hk,h2=>by
  rw [List.take_succ_cons,goV] at h;split at h
  ·cases h
  ·rename_i hn
   have ih:=rdA_is (w:=t) h (by simpa using hk) (by
    rcases h2 with h2 | ⟨y,hy,hy2⟩
    ·exact .inl (by simpa using h2)
    ·exact .inr ⟨y,by simpa using hy,hy2⟩)
   rw [rdA,if_neg hn,ih]
end
section
open Go.RowKit
end
section
open Go.RowKit
end
section
open Go.RowKit
end
section
open Go.RowKit
theorem invB_spec {a x:Int} (ha:-9223372036854775808≤a∧a≤9223372036854775807) (hx:-9223372036854775808≤x∧x≤9223372036854775807) :
  invB a x=true↔(x≠0∧a=wrap64 (-x)∧a≠x):=by
 rw [invB_iff,wrap_neg hx.1 hx.2];unfold negI minI;split <;> omega
def RdOut (w wr:World) (v:Value) (out:List Int):Prop:=wr.ownsRow w.heap.size 3 1 v out.length (ints out)∧Below w.heap.size w wr
theorem spec_ReduceLetters (A:Option Addr) (xs:List Int) (c:Nat) (w:World) (B:Nat) (hr:Rs w B A (ints xs)) (hB:B≤w.heap.size) (hok:OkI xs) (hl:xs.length≤268435456) :
  Calls Tryz.prog 109 #[.slice A xs.length c] w fun e w'=>RetI 3 (red [] xs) w e w':=by
 have HOK:=Lib.hid hok;clear hok;have hb0:=(Below.refl w.heap.size w).alloc (Nat.le_refl _) (.cells #[] 3);have ho0:=owns_empty w 3 1;go_enter Tryz.func109,Tryz.ntmps109
 go_wp2_with fail;go_loopw [3,4,5] (fun v i _ wr=>∃ k:Nat,k≤xs.length∧i=.int .i64 k∧RdOut w wr v (red [] (xs.take k))) (fun _ i _ _=>xs.length - (intOf i).toNat)
 case atStart=>exact ⟨0,Nat.zero_le _,rfl,ho0,hb0⟩
 case round =>
  obtain ⟨k,hk,rfl,hown,hb⟩:=hrel;have hsz:=hb.size;by_cases hlt:k < xs.length
  ·obtain ⟨b,off,x,rfl, -,hxx,hc⟩:=((hr.more hB).below hb).int hlt
   have hlt3:(k:Int) < (xs.length:Int):=by omega
   have hst:=red_step xs hxx [];have hbx:=HOK.out x (List.mem_of_getElem? hxx);have hlen:=red_len [] (xs.take k);rw [List.length_take,List.length_nil,Nat.zero_add] at hlen;have hok1:OkI (red [] (xs.take k)):=red_ok fun y hy=>HOK.out y (List.mem_of_mem_take hy);obtain ⟨out1,ho1⟩:∃ o,o=red [] (xs.take k):=⟨_,rfl⟩
   rw [← ho1] at hown hst hlen hok1;have HBX:=Lib.hid hbx;have HST:=Lib.hid hst;clear ho1 hxx hbx hst;rcases Nat.eq_zero_or_pos out1.length with he | hp
   ·obtain rfl:=List.eq_nil_of_length_eq_zero he
    clear he hok1 hlen;obtain ⟨A1,c1,rfl, -, -⟩:=owns_shape hown;go_wp2_with fail;go_quiet (fail)
    go_wp2_with (at_builtin;refine wpList_push rfl _ _ 34 rfl w.heap.size 3 (.int .i64 0) 1 8 undSI infoI rfl (by decide) _ _ _ rfl (owns_drewN hown _) 1 [.int .i64 x] rfl rfl (one_of_ints [x]) (by unfold maxLen;simp) (by simp) hsz ?n1)
    case n1 =>
     intro v' w1 hown1 hgr _;go_wp2_with fail;go_roundw
     case rel =>
      refine ⟨k+1,by omega,by go_num,?_,hb.grown (owns_row hgr) hsz (fun g hg=>(hown.lt g hg).1)⟩;rw [HST.out,redStep_empty];exact hown1
     case measure=>simp [intOf];omega
   ·obtain ⟨ys,a,rfl⟩:=eq_concat out1 hp
    have hba:=hok1 a (by simp);rw [List.length_append] at hown hlen;simp only [List.length_cons,List.length_nil,Nat.zero_add] at hown hlen;clear hp hok1;obtain ⟨A1,c1,rfl,hnc, -⟩:=owns_shape hown;obtain ⟨g,rfl, -, -⟩:=owns_addr hown (Nat.succ_pos _);have hca:wr.cell? ⟨g,ys.length,none⟩=some (.int .i64 a):=by
     rw [hown.cellAt ys.length (by omega)];simp [ints]
    have hiff:=invB_spec hba HBX.out;have HI:=Lib.hid hiff;clear hba hiff;obtain ⟨nx,hnx⟩:∃ nx,wrap64 (-x)=nx:=⟨_,rfl⟩
    have hp0:(0:Int) < (ys.length:Int)+1:=by omega
    have hp1:(ys.length:Int)+1 - 1=(ys.length:Int):=by omega
    have hys:ys.length≤c1:=by omega
    by_cases hpop:invB a x=true
    ·obtain ⟨h1,h2,h3⟩:=HI.out.1 hpop
     have hx0:(x != 0)=true:=by simpa using h1
     have hanx:(a == nx)=true:=by rw [← hnx];simpa using h2
     have hax:(a != x)=true:=by simpa using h3
     have HP:=Lib.hid hpop;clear h1 h2 h3 hpop;go_wp2_with fail;go_quiet (fail)
     go_wp2_with fail;go_roundw
     case rel =>
      refine ⟨k+1,by omega,by go_num,?_,by first | exact below_drewN hb _ | exact hb⟩;rw [HST.out,redStep_pop HP.out];have h1:=owns_cut hown (Nat.le_succ ys.length);rw [Nat.mul_one,ints_append,List.take_left' (ints_len ys)] at h1;exact owns_drewN h1 _
     case measure=>simp [intOf];omega
    ·have hpf:invB a x=false:=by simpa using hpop
     have HP:=Lib.hid hpf;have hcases:(x != 0)=false ∨ ((x != 0)=true∧(a == nx)=false) ∨ ((x != 0)=true∧(a == nx)=true∧(a != x)=false):=by
      rw [← hnx];by_cases h1:x=0
      ·left;simpa using h1
      ·by_cases h2:a=wrap64 (-x)
       ·right;right
        refine ⟨by simpa using h1,by simpa using h2,?_⟩;cases hv:(a != x) with
        | false=>rfl
        | true=>exact absurd (HI.out.2 ⟨h1,h2,by simpa using hv⟩) hpop
       ·right;left
        exact ⟨by simpa using h1,by simpa using h2⟩
     clear hpop hpf;rcases hcases with h1 | ⟨h1,h2⟩ | ⟨h1,h2,h3⟩
     ·go_wp2_with fail
      go_quiet (fail)
      go_wp2_with (at_builtin;refine wpList_push rfl _ _ 34 rfl w.heap.size 3 (.int .i64 0) 1 8 undSI infoI rfl (by decide) _ _ _ rfl (owns_drewN hown _) 1 [.int .i64 x] rfl rfl (one_of_ints [x]) (by unfold maxLen;omega) (by omega) hsz ?n2)
      case n2 =>
       intro v' w1 hown1 hgr _;go_wp2_with fail;go_roundw
       case rel =>
        refine ⟨k+1,by omega,by go_num,?_,hb.grown (owns_row hgr) hsz (fun g hg=>(hown.lt g hg).1)⟩;rw [HST.out,redStep_push HP.out,ints_append,List.length_append,List.length_append];exact hown1
       case measure=>simp [intOf];omega
     ·go_wp2_with fail
      go_quiet (fail)
      go_wp2_with (at_builtin;refine wpList_push rfl _ _ 34 rfl w.heap.size 3 (.int .i64 0) 1 8 undSI infoI rfl (by decide) _ _ _ rfl (owns_drewN hown _) 1 [.int .i64 x] rfl rfl (one_of_ints [x]) (by unfold maxLen;omega) (by omega) hsz ?n3)
      case n3 =>
       intro v' w1 hown1 hgr _;go_wp2_with fail;go_roundw
       case rel =>
        refine ⟨k+1,by omega,by go_num,?_,hb.grown (owns_row hgr) hsz (fun g hg=>(hown.lt g hg).1)⟩;rw [HST.out,redStep_push HP.out,ints_append,List.length_append,List.length_append];exact hown1
       case measure=>simp [intOf];omega
     ·go_wp2_with fail
      go_quiet (fail)
      go_wp2_with (at_builtin;refine wpList_push rfl _ _ 34 rfl w.heap.size 3 (.int .i64 0) 1 8 undSI infoI rfl (by decide) _ _ _ rfl (owns_drewN hown _) 1 [.int .i64 x] rfl rfl (one_of_ints [x]) (by unfold maxLen;omega) (by omega) hsz ?n4)
      case n4 =>
       intro v' w1 hown1 hgr _;go_wp2_with fail;go_roundw
       case rel =>
        refine ⟨k+1,by omega,by go_num,?_,hb.grown (owns_row hgr) hsz (fun g hg=>(hown.lt g hg).1)⟩;rw [HST.out,redStep_push HP.out,ints_append,List.length_append,List.length_append];exact hown1
       case measure=>simp [intOf];omega
  ·obtain rfl:k=xs.length:=by omega
   rw [List.take_length] at hown;have hlr:=red_nil_len xs;obtain ⟨out,hout⟩:∃ o,o=red [] xs:=⟨_,rfl⟩
   rw [← hout] at hown hlr;have HO:=Lib.hid hout;clear hout;obtain ⟨A1,c1,rfl,hnc, -⟩:=owns_shape hown;have ho2:=owns_empty wr 3 1;have ho2':(wr.alloc (.cells #[] 3)).ownsRow w.heap.size 3 1 (.slice (some ⟨wr.heap.size,0,none⟩) 0 0) 0 []:=owns_base ho2 hsz;have hra:Rs (wr.alloc (.cells #[] 3)) wr.heap.size A1 (ints out):=(Rs.of_own hown).alloc (Nat.le_refl _) _;have hla:(ints out).length=out.length * 1:=by rw [ints_len];omega
   go_wp2_with (at_builtin;refine wpList_cat rfl _ _ 34 rfl w.heap.size 3 (.int .i64 0) 1 8 undSI infoI rfl (by decide) _ _ _ rfl ho2' A1 out.length c1 wr.heap.size (ints out) rfl hra hla (one_of_ints _) ?c2 ?c3 (by simp;omega) ?next)
   case c2=>unfold maxLen;omega
   case c3=>omega
   case next =>
    intro v1 w1 hown1 hgr1 _;have hb1:Below w.heap.size w w1:=(hb.grown (World.grownBy_alloc wr _ none) hsz (by intro g h;cases h)).grown hgr1 (by simp;omega) (fun g hg=>(ho2'.lt g hg).1);go_wp2_with fail;go_ret;rw [← HO.out];exact RetI.mk rfl (by simpa using hown1) hb1
end
section
open Go.RowKit
theorem impl_loops (r n:Nat) (A:Option Addr) (es:List Ed) (c:Nat) (Aw:Option Addr) (wd:List Int) (cw:Nat) (w:World) (lo hi lo' hi':Nat) (hr:RG w lo hi A es) (hw:RV w lo' hi' Aw (ints wd)) (hg:IsGr r n es) (hwl:wd.length≤1048576) (hok:OkI wd) (b:Bool) (hb:b=true↔LoopP es wd) :
  Calls Tryz.prog 106 #[graV r n A es.length c,.slice Aw wd.length cw] w fun e w'=>e=.returned (.bool b)∧Mid 0 0 w w':=by
 have hm0:Mid 0 0 w (w.alloc (.cells #[.int .i64 r,.int .i64 n,.slice A es.length c] 26)):=Mid.alloc _ _;have b0:=Box.new w #[.int .i64 r,.int .i64 n,.slice A es.length c] 26;have HB:=Lib.hid hb;clear hb;go_enter Tryz.func106,Tryz.ntmps106
 go_wp2_with fail;with_reducible refine (impl_read r n A es c 0 Aw wd cw _ _ _ _ _ (hr.mid hm0 oZl) (hw.mid hm0 oZl) hg hwl hok).mono ?_
 rintro en w2 ⟨u,k,rfl,hk,hgo,hend,hm2⟩;have hrd:rdA es 0 wd=(u,k):=rdA_is hgo hk hend;have hL:LoopP es wd↔k=wd.length∧u=0:=by unfold LoopP;rw [hrd]
 have HL:=Lib.hid hL;clear hgo hend hrd hL;rcases (Decidable.em (k=wd.length)).symm with h1 | h1
 ·have dk:((k:Int) == (wd.length:Int))=false:=by simp only [beq_eq_false_iff_ne];omega
  obtain rfl:b=false:=bool_no HB.out fun h=>h1 (HL.out.1 h).1;clear h1;go_wp2_with fail;go_ret;exact ⟨rfl,hm0.trans hm2⟩
 ·subst h1
  rcases (Decidable.em (u=0)).symm with h2 | h2
  ·have dk:(u == 0)=false:=by simpa using h2
   obtain rfl:b=false:=bool_no HB.out fun h=>h2 (HL.out.1 h).2;clear h2;go_wp2_with fail;go_ret;exact ⟨rfl,hm0.trans hm2⟩
  ·subst h2
   obtain rfl:b=true:=HB.out.2 (HL.out.2 ⟨rfl,rfl⟩);go_wp2_with fail;go_ret;exact ⟨rfl,hm0.trans hm2⟩
end
section
open Go.RowKit
end
end Go.Proofs.YthampgpcajmopaaGreat
