/- Contracts and lemmas of this seat, many texts in one: see the words ahead of each. No condition beyond those typed in each lemma. -/
import Derived.Test.YtkimajabegojoaaGreatNi5
import Derived.Test.YtkimajabegojoaaGreatNi2
import Derived.Test.YtkimajabegojoaaGreatNi1
import Derived.Deep.RegionHeld3
import Derived.Test.YtkimajabegojoaaGreatNi4

namespace Go.Proofs.YtkimajabegojoaaGreat
set_option linter.unusedVariables false
set_option linter.unusedSimpArgs false
set_option maxHeartbeats 40000000
set_option maxRecDepth 100000
section
open Go.RowKit
theorem RSS.lit {w:World} (rows:List Row) (tSI:TypeId) (h:∀ r∈rows,Rs w w.heap.size r.A (ints r.xs)):RSS (w.alloc (.cells (rowsV rows).toArray tSI)) 0 (w.heap.size+1) (some ⟨w.heap.size,0,none⟩) (rowsD rows):=by
 refine ⟨rows,rfl,⟨by simp,fun _=>⟨w.heap.size,0,rfl,Nat.zero_le _,Nat.lt_succ_self _,fun j u hu=>?_⟩⟩,fun r hr=>⟨by simp,fun hn=>?_⟩⟩
 ·rw [Nat.zero_add,World.cell?_alloc_new]
  simpa using hu
 ·obtain ⟨b,off,e,hb,hc⟩:=(h r hr).alloc (Nat.le_refl _) (.cells (rowsV rows).toArray tSI) hn
  exact ⟨b,off,e,Nat.zero_le _,by omega,hc⟩
theorem impl_product2 (A:Option Addr) (xs:List Int) (c:Nat) (A':Option Addr) (ys:List Int) (c':Nat) (w:World) (hx:Rs w w.heap.size A (ints xs)) (hy:Rs w w.heap.size A' (ints ys)) (ox:OkI xs) (oy:OkI ys) (hl:xs.length+ys.length≤268435456) :
  Calls Tryz.prog 110 #[.slice (some ⟨w.heap.size,0,none⟩) 2 2] (w.alloc (.cells #[.slice A xs.length c,.slice A' ys.length c'] 44)) fun e w' =>
   ∃ A2 c2,e=.returned (.slice A2 (red [] (xs++ys)).length c2)∧w'.ownsRow (w.alloc (.cells #[.slice A xs.length c,.slice A' ys.length c'] 44)).heap.size 3 1 (.slice A2 (red [] (xs++ys)).length c2) (red [] (xs++ys)).length (ints (red [] (xs++ys))) ∧
    Below (w.alloc (.cells #[.slice A xs.length c,.slice A' ys.length c'] 44)).heap.size (w.alloc (.cells #[.slice A xs.length c,.slice A' ys.length c'] 44)) w':=by
 have h:=RSS.lit (w:=w) [⟨A,c,xs⟩,⟨A',c',ys⟩] 44 (by intro r hr;simp at hr;rcases hr with rfl | rfl;exact hx;exact hy);have h2:=impl_product (some ⟨w.heap.size,0,none⟩) [xs,ys] 2 _ _ _ h (by intro zs hz;simp at hz;rcases hz with rfl | rfl;exact ox;exact oy) (by simp) (by simp [sumL];omega);have e:[xs,ys].flatten=xs++ys:=by simp
 rw [e] at h2;exact h2
theorem impl_ApplyMove_b (A:Option Addr) (d:List (List Int)) (c:Nat) (kd:Int) (n:Nat) (j s:Int) (w:World) (lo hi:Nat) (hr:RSS w lo hi A d) (hok:∀ xs∈d,OkI xs) (hl:d.length+sumL d≤1048576) (hn:n < d.length)
  (hk:kd=2 ∨ kd=3) (hbad:¬ MvOk d ⟨kd,n,j,s⟩) :
  Calls Tryz.prog 24 #[.slice A d.length c,(Mv.mk kd n j s).v] w (RetMv d ⟨kd,n,j,s⟩ w):=by
 show Calls _ _ #[.slice A d.length c,.agg #[.int .i64 kd,.int .i64 n,.int .i64 j,.int .i64 s]] w _
 have hb:inB n 0 ((d.length:Int) - 1)=true:=by simp [inB];omega
 have HB:=Lib.hid hb;have H28:=Lib.hid (fun xs (hx:xs∈d)=>show xs.length≤1073741824 by have:=len_le_sumL hx;omega);have hhi:=hr.size;have hnn:(0:Int)≤(n:Int):=by omega
 have hnl:(n:Int) < (d.length:Int):=by omega
 have HE:=Lib.hid (applyM_bad (d:=d) (m:=⟨kd,n,j,s⟩) (show kd≠1 by omega) (show kd≠4 by omega) (.inl hbad));clear hb;obtain ⟨b,off,A',c',xs,rfl, -,hbhi,hx,hcx,hrx⟩:=hr.row hn;have hlx:xs.length≤4194304:=by have:=len_le_sumL (List.mem_of_getElem? hx);omega
 have HOX:=Lib.hid (hok xs (List.mem_of_getElem? hx));clear hx;rcases hk with rfl | rfl
 ·skip
  by_cases hj:¬ (0≤j∧j < d.length)
  ·have HJ:Hid (inB j 0 ((d.length:Int) - 1)=false):=Lib.hid (by simp [inB];omega)
   clear hbad hj;have hb0:Mid 0 0 w (w.alloc (.cells #[.int .i64 2,.int .i64 n,.int .i64 j,.int .i64 s] 48)):=Mid.alloc _ _;have hbx:=Box.new w #[.int .i64 2,.int .i64 n,.int .i64 j,.int .i64 s] 48;have hrb:=hr.mid hb0 oZl;go_enter Tryz.func24,Tryz.ntmps24
   go_wp2_with fail;with_reducible refine (impl_copyLists _ d c _ _ _ hrb (by omega) H28.out).mono ?_
   rintro e w1 ⟨A1,c1,rfl,ho1,hm1⟩;have hm:=hb0.trans hm1;have hbx1:=hbx.mid hm1 oZr;have hrd1:=hrb.mid hm1 oZl;have k0:=hbx1.cell 0 rfl;have k1:=hbx1.cell 1 rfl;have k2:=hbx1.cell 2 rfl;have k3:=hbx1.cell 3 rfl;go_wp2_with fail;with_reducible refine (within_any _ _ _ _).mono ?_
   rintro e w' ⟨rfl,rfl⟩;rw [HB.out];have hcx1:w1.cell? ⟨b,off+n,none⟩=some (.slice A' xs.length c'):=(World.cell?_of_block (hm.block b (by omega) (by omega))).trans hcx;go_wp2_with fail;with_reducible refine (within_any _ _ _ _).mono ?_
   rintro e w' ⟨rfl,rfl⟩;rw [HJ.out];go_wp2_with fail;go_ret2;exact RetMv.mk HE.out rfl (ho1.wide hb0.size (Nat.le_refl _) ho1.size) hm
  ·have HJ:Hid (inB j 0 ((d.length:Int) - 1)=true):=Lib.hid (by simp [inB];omega)
   by_cases hjn:j=n
   ·subst hjn
    have heq:((n:Int) == (n:Int))=true:=by simp
    clear hbad hj;have hb0:Mid 0 0 w (w.alloc (.cells #[.int .i64 2,.int .i64 n,.int .i64 n,.int .i64 s] 48)):=Mid.alloc _ _;have hbx:=Box.new w #[.int .i64 2,.int .i64 n,.int .i64 n,.int .i64 s] 48;have hrb:=hr.mid hb0 oZl;go_enter Tryz.func24,Tryz.ntmps24
    go_wp2_with fail;with_reducible refine (impl_copyLists _ d c _ _ _ hrb (by omega) H28.out).mono ?_
    rintro e w1 ⟨A1,c1,rfl,ho1,hm1⟩;have hm:=hb0.trans hm1;have hbx1:=hbx.mid hm1 oZr;have hrd1:=hrb.mid hm1 oZl;have k0:=hbx1.cell 0 rfl;have k1:=hbx1.cell 1 rfl;have k2:=hbx1.cell 2 rfl;have k3:=hbx1.cell 3 rfl;go_wp2_with fail;with_reducible refine (within_any _ _ _ _).mono ?_
    rintro e w' ⟨rfl,rfl⟩;rw [HB.out];have hcx1:w1.cell? ⟨b,off+n,none⟩=some (.slice A' xs.length c'):=(World.cell?_of_block (hm.block b (by omega) (by omega))).trans hcx;go_wp2_with fail;with_reducible refine (within_any _ _ _ _).mono ?_
    rintro e w' ⟨rfl,rfl⟩;rw [HJ.out];go_wp2_with fail;go_ret2;exact RetMv.mk HE.out rfl (ho1.wide hb0.size (Nat.le_refl _) ho1.size) hm
   ·have hs1:(s != 1)=true:=by simp;intro h;exact hbad ⟨by simp;omega,by simp;omega,hjn,.inl h⟩
    have hs2:(s != -1)=true:=by simp;intro h;exact hbad ⟨by simp;omega,by simp;omega,hjn,.inr h⟩
    have heq1:(j == (n:Int))=false:=by simpa using hjn
    have heq2:((n:Int) == j)=false:=by simpa using Ne.symm hjn
    clear hbad hj hjn;have hb0:Mid 0 0 w (w.alloc (.cells #[.int .i64 2,.int .i64 n,.int .i64 j,.int .i64 s] 48)):=Mid.alloc _ _;have hbx:=Box.new w #[.int .i64 2,.int .i64 n,.int .i64 j,.int .i64 s] 48;have hrb:=hr.mid hb0 oZl;go_enter Tryz.func24,Tryz.ntmps24
    go_wp2_with fail;with_reducible refine (impl_copyLists _ d c _ _ _ hrb (by omega) H28.out).mono ?_
    rintro e w1 ⟨A1,c1,rfl,ho1,hm1⟩;have hm:=hb0.trans hm1;have hbx1:=hbx.mid hm1 oZr;have hrd1:=hrb.mid hm1 oZl;have k0:=hbx1.cell 0 rfl;have k1:=hbx1.cell 1 rfl;have k2:=hbx1.cell 2 rfl;have k3:=hbx1.cell 3 rfl;go_wp2_with fail;with_reducible refine (within_any _ _ _ _).mono ?_
    rintro e w' ⟨rfl,rfl⟩;rw [HB.out];have hcx1:w1.cell? ⟨b,off+n,none⟩=some (.slice A' xs.length c'):=(World.cell?_of_block (hm.block b (by omega) (by omega))).trans hcx;go_wp2_with fail;with_reducible refine (within_any _ _ _ _).mono ?_
    rintro e w' ⟨rfl,rfl⟩;rw [HJ.out];go_wp2_with fail;go_ret2;exact RetMv.mk HE.out rfl (ho1.wide hb0.size (Nat.le_refl _) ho1.size) hm
 ·skip
  by_cases hj:¬ (0≤j∧j < d.length)
  ·have HJ:Hid (inB j 0 ((d.length:Int) - 1)=false):=Lib.hid (by simp [inB];omega)
   clear hbad hj;have hb0:Mid 0 0 w (w.alloc (.cells #[.int .i64 3,.int .i64 n,.int .i64 j,.int .i64 s] 48)):=Mid.alloc _ _;have hbx:=Box.new w #[.int .i64 3,.int .i64 n,.int .i64 j,.int .i64 s] 48;have hrb:=hr.mid hb0 oZl;go_enter Tryz.func24,Tryz.ntmps24
   go_wp2_with fail;with_reducible refine (impl_copyLists _ d c _ _ _ hrb (by omega) H28.out).mono ?_
   rintro e w1 ⟨A1,c1,rfl,ho1,hm1⟩;have hm:=hb0.trans hm1;have hbx1:=hbx.mid hm1 oZr;have hrd1:=hrb.mid hm1 oZl;have k0:=hbx1.cell 0 rfl;have k1:=hbx1.cell 1 rfl;have k2:=hbx1.cell 2 rfl;have k3:=hbx1.cell 3 rfl;go_wp2_with fail;with_reducible refine (within_any _ _ _ _).mono ?_
   rintro e w' ⟨rfl,rfl⟩;rw [HB.out];have hcx1:w1.cell? ⟨b,off+n,none⟩=some (.slice A' xs.length c'):=(World.cell?_of_block (hm.block b (by omega) (by omega))).trans hcx;go_wp2_with fail;with_reducible refine (within_any _ _ _ _).mono ?_
   rintro e w' ⟨rfl,rfl⟩;rw [HJ.out];go_wp2_with fail;go_ret2;exact RetMv.mk HE.out rfl (ho1.wide hb0.size (Nat.le_refl _) ho1.size) hm
  ·have HJ:Hid (inB j 0 ((d.length:Int) - 1)=true):=Lib.hid (by simp [inB];omega)
   by_cases hjn:j=n
   ·subst hjn
    have heq:((n:Int) == (n:Int))=true:=by simp
    clear hbad hj;have hb0:Mid 0 0 w (w.alloc (.cells #[.int .i64 3,.int .i64 n,.int .i64 n,.int .i64 s] 48)):=Mid.alloc _ _;have hbx:=Box.new w #[.int .i64 3,.int .i64 n,.int .i64 n,.int .i64 s] 48;have hrb:=hr.mid hb0 oZl;go_enter Tryz.func24,Tryz.ntmps24
    go_wp2_with fail;with_reducible refine (impl_copyLists _ d c _ _ _ hrb (by omega) H28.out).mono ?_
    rintro e w1 ⟨A1,c1,rfl,ho1,hm1⟩;have hm:=hb0.trans hm1;have hbx1:=hbx.mid hm1 oZr;have hrd1:=hrb.mid hm1 oZl;have k0:=hbx1.cell 0 rfl;have k1:=hbx1.cell 1 rfl;have k2:=hbx1.cell 2 rfl;have k3:=hbx1.cell 3 rfl;go_wp2_with fail;with_reducible refine (within_any _ _ _ _).mono ?_
    rintro e w' ⟨rfl,rfl⟩;rw [HB.out];have hcx1:w1.cell? ⟨b,off+n,none⟩=some (.slice A' xs.length c'):=(World.cell?_of_block (hm.block b (by omega) (by omega))).trans hcx;go_wp2_with fail;with_reducible refine (within_any _ _ _ _).mono ?_
    rintro e w' ⟨rfl,rfl⟩;rw [HJ.out];go_wp2_with fail;go_ret2;exact RetMv.mk HE.out rfl (ho1.wide hb0.size (Nat.le_refl _) ho1.size) hm
   ·have hs1:(s != 1)=true:=by simp;intro h;exact hbad ⟨by simp;omega,by simp;omega,hjn,.inl h⟩
    have hs2:(s != -1)=true:=by simp;intro h;exact hbad ⟨by simp;omega,by simp;omega,hjn,.inr h⟩
    have heq1:(j == (n:Int))=false:=by simpa using hjn
    have heq2:((n:Int) == j)=false:=by simpa using Ne.symm hjn
    clear hbad hj hjn;have hb0:Mid 0 0 w (w.alloc (.cells #[.int .i64 3,.int .i64 n,.int .i64 j,.int .i64 s] 48)):=Mid.alloc _ _;have hbx:=Box.new w #[.int .i64 3,.int .i64 n,.int .i64 j,.int .i64 s] 48;have hrb:=hr.mid hb0 oZl;go_enter Tryz.func24,Tryz.ntmps24
    go_wp2_with fail;with_reducible refine (impl_copyLists _ d c _ _ _ hrb (by omega) H28.out).mono ?_
    rintro e w1 ⟨A1,c1,rfl,ho1,hm1⟩;have hm:=hb0.trans hm1;have hbx1:=hbx.mid hm1 oZr;have hrd1:=hrb.mid hm1 oZl;have k0:=hbx1.cell 0 rfl;have k1:=hbx1.cell 1 rfl;have k2:=hbx1.cell 2 rfl;have k3:=hbx1.cell 3 rfl;go_wp2_with fail;with_reducible refine (within_any _ _ _ _).mono ?_
    rintro e w' ⟨rfl,rfl⟩;rw [HB.out];have hcx1:w1.cell? ⟨b,off+n,none⟩=some (.slice A' xs.length c'):=(World.cell?_of_block (hm.block b (by omega) (by omega))).trans hcx;go_wp2_with fail;with_reducible refine (within_any _ _ _ _).mono ?_
    rintro e w' ⟨rfl,rfl⟩;rw [HJ.out];go_wp2_with fail;go_ret2;exact RetMv.mk HE.out rfl (ho1.wide hb0.size (Nat.le_refl _) ho1.size) hm
theorem impl_ApplyMove_n (A:Option Addr) (d:List (List Int)) (c:Nat) (kd:Int) (n:Nat) (j s:Int) (w:World) (lo hi:Nat) (hr:RSS w lo hi A d) (hok:∀ xs∈d,OkI xs) (hl:d.length+sumL d≤1048576) (hn:n < d.length)
  (hk1:(kd == 1)=false) (hk4:(kd == 4)=false) (hk2:(kd == 2)=false) (hk3:(kd == 3)=false) :
  Calls Tryz.prog 24 #[.slice A d.length c,(Mv.mk kd n j s).v] w (RetMv d ⟨kd,n,j,s⟩ w):=by
 show Calls _ _ #[.slice A d.length c,.agg #[.int .i64 kd,.int .i64 n,.int .i64 j,.int .i64 s]] w _
 have hb:inB n 0 ((d.length:Int) - 1)=true:=by simp [inB];omega
 have HB:=Lib.hid hb;have H28:=Lib.hid (fun xs (hx:xs∈d)=>show xs.length≤1073741824 by have:=len_le_sumL hx;omega);have hhi:=hr.size;have hnn:(0:Int)≤(n:Int):=by omega
 have hnl:(n:Int) < (d.length:Int):=by omega
 have HE:=Lib.hid (applyM_bad (d:=d) (m:=⟨kd,n,j,s⟩) (show kd≠1 by simpa using hk1) (show kd≠4 by simpa using hk4) (.inr ⟨show kd≠2 by simpa using hk2,show kd≠3 by simpa using hk3⟩));clear hb;obtain ⟨b,off,A',c',xs,rfl, -,hbhi,hx,hcx,hrx⟩:=hr.row hn;have hlx:xs.length≤4194304:=by have:=len_le_sumL (List.mem_of_getElem? hx);omega
 have HOX:=Lib.hid (hok xs (List.mem_of_getElem? hx));clear hx;have hb0:Mid 0 0 w (w.alloc (.cells #[.int .i64 kd,.int .i64 n,.int .i64 j,.int .i64 s] 48)):=Mid.alloc _ _;have hbx:=Box.new w #[.int .i64 kd,.int .i64 n,.int .i64 j,.int .i64 s] 48;have hrb:=hr.mid hb0 oZl;go_enter Tryz.func24,Tryz.ntmps24
 go_wp2_with fail;with_reducible refine (impl_copyLists _ d c _ _ _ hrb (by omega) H28.out).mono ?_
 rintro e w1 ⟨A1,c1,rfl,ho1,hm1⟩;have hm:=hb0.trans hm1;have hbx1:=hbx.mid hm1 oZr;have hrd1:=hrb.mid hm1 oZl;have k0:=hbx1.cell 0 rfl;have k1:=hbx1.cell 1 rfl;have k2:=hbx1.cell 2 rfl;have k3:=hbx1.cell 3 rfl;go_wp2_with fail;with_reducible refine (within_any _ _ _ _).mono ?_
 rintro e w' ⟨rfl,rfl⟩;rw [HB.out];have hcx1:w1.cell? ⟨b,off+n,none⟩=some (.slice A' xs.length c'):=(World.cell?_of_block (hm.block b (by omega) (by omega))).trans hcx;go_wp2_with fail;go_ret2;exact RetMv.mk HE.out rfl (ho1.wide hb0.size (Nat.le_refl _) ho1.size) hm
theorem impl_ApplyMove_g (A:Option Addr) (d:List (List Int)) (c:Nat) (kd:Int) (n:Nat) (j s:Int) (w:World) (lo hi:Nat) (hr:RSS w lo hi A d) (hok:∀ xs∈d,OkI xs) (hl:d.length+sumL d≤1048576) (hn:n < d.length)
  (hk:kd=2 ∨ kd=3) (hne:j≠n) (hbad:MvOk d ⟨kd,n,j,s⟩) :
  Calls Tryz.prog 24 #[.slice A d.length c,(Mv.mk kd n j s).v] w (RetMv d ⟨kd,n,j,s⟩ w):=by
 show Calls _ _ #[.slice A d.length c,.agg #[.int .i64 kd,.int .i64 n,.int .i64 j,.int .i64 s]] w _
 have hb:inB n 0 ((d.length:Int) - 1)=true:=by simp [inB];omega
 have HB:=Lib.hid hb;have H28:=Lib.hid (fun xs (hx:xs∈d)=>show xs.length≤1073741824 by have:=len_le_sumL hx;omega);have hhi:=hr.size;have hnn:(0:Int)≤(n:Int):=by omega
 have hnl:(n:Int) < (d.length:Int):=by omega
 clear hb;obtain ⟨b,off,A',c',xs,rfl, -,hbhi,hx,hcx,hrx⟩:=hr.row hn;have hlx:xs.length≤4194304:=by have:=len_le_sumL (List.mem_of_getElem? hx);omega
 have HOX:=Lib.hid (hok xs (List.mem_of_getElem? hx));obtain ⟨h1,h2,h3,hs⟩:=hbad;simp at h1 h2 h3 hs;obtain ⟨n',rfl⟩:∃ n':Nat,j=(n':Int):=⟨j.toNat,by omega⟩
 have hn':n' < d.length:=by omega
 have hne':n'≠n:=by omega
 obtain ⟨b',off',Ay,cy,ys,e1, -,hbhi',hy,hcy,hry⟩:=hr.row hn';injection e1 with e1
 injection e1 with e1 e2
 subst e1 e2;have hly:ys.length≤4194304:=by have:=len_le_sumL (List.mem_of_getElem? hy);omega
 have HOY:=Lib.hid (hok ys (List.mem_of_getElem? hy));have HJ:Hid (inB (n':Int) 0 ((d.length:Int) - 1)=true):=Lib.hid (by simp [inB];omega);have hmn:(0:Int)≤(n':Int):=by omega
 have hml:(n':Int) < (d.length:Int):=by omega
 have heq1:((n':Int) == (n:Int))=false:=by simp;omega
 have heq2:((n:Int) == (n':Int))=false:=by simp;omega
 have HEE:=fun (k s:Int) (hk:k=2 ∨ k=3) (hs:s=1 ∨ s = -1)=>applyM_23 hx hy hk hne' hs;clear hx hy h1 h2 h3;rcases hk with rfl | rfl
 ·rcases hs with rfl | rfl
  ·have he3:=HEE 2 1 (by omega) (by omega)
   rw [if_pos rfl,if_neg (by omega)] at he3;have HE:=Lib.hid he3;clear he3 HEE;have hb0:Mid 0 0 w (w.alloc (.cells #[.int .i64 2,.int .i64 n,.int .i64 n',.int .i64 1] 48)):=Mid.alloc _ _;have hbx:=Box.new w #[.int .i64 2,.int .i64 n,.int .i64 n',.int .i64 1] 48;have hrb:=hr.mid hb0 oZl;go_enter Tryz.func24,Tryz.ntmps24
   go_wp2_with fail;with_reducible refine (impl_copyLists _ d c _ _ _ hrb (by omega) H28.out).mono ?_
   rintro e w1 ⟨A1,c1,rfl,ho1,hm1⟩;have hm:=hb0.trans hm1;have hbx1:=hbx.mid hm1 oZr;have hrd1:=hrb.mid hm1 oZl;have k0:=hbx1.cell 0 rfl;have k1:=hbx1.cell 1 rfl;have k2:=hbx1.cell 2 rfl;have k3:=hbx1.cell 3 rfl;go_wp2_with fail;with_reducible refine (within_any _ _ _ _).mono ?_
   rintro e w' ⟨rfl,rfl⟩;rw [HB.out];have hcx1:w1.cell? ⟨b,off+n,none⟩=some (.slice A' xs.length c'):=(World.cell?_of_block (hm.block b (by omega) (by omega))).trans hcx;go_wp2_with fail;with_reducible refine (within_any _ _ _ _).mono ?_
   rintro e w' ⟨rfl,rfl⟩;rw [HJ.out];have hcy1:w1.cell? ⟨b,off+n',none⟩=some (.slice Ay ys.length cy):=(World.cell?_of_block (hm.block b (by omega) (by omega))).trans hcy;have hrx1:=hrx.mid hm oZl;have hry1:=hry.mid hm oZl;clear hcx hcy hrx hry hrb hr hrd1;have hmX:=hm;have hoX:=ho1;have hbxX:=hbx1;have hcxX:=hcx1;have hrxX:=hrx1;have hryX:=hry1.rsS;have hmd:=Mid.drew1 w1;have hrxd:=hrxX.mid hmd oZl;have hryd:Rs w1.drew w1.drew.heap.size Ay (ints ys):=hryX;have hbxd:=hbxX.mid hmd oZr;have k1d:=hbxd.cell 1 rfl;have hcxd:w1.drew.cell? ⟨b,off+n,none⟩=some (.slice A' xs.length c'):=hcxX;obtain ⟨rows,hD,hown,hlt,hrows⟩:=(hoX.mid hmd oZl).cut;have HD:=Lib.hid hD;obtain ⟨g,rfl,hg0, -⟩:=owns_addr hown (by omega);simp only [World.size_alloc] at hg0;have hbg:b < g:=by omega
   have hwg:w.heap.size < g:=by omega
   have hmdd:=hmX.trans hmd;have hs0:=hb0.size;have hszX:b < w1.drew.heap.size:=by have:=hmdd.size;omega
   have hrowsd:=hrows.wide (Nat.le_refl _) hoX.size (Nat.le_refl w1.drew.heap.size);have hokz:=Lib.hid HOY.out;have hlz:ys.length≤4194304:=by exact hly
   have hoka:=Lib.hid HOX.out;have hokb:=Lib.hid HOY.out;clear hD hlt;have hal:Mid 0 0 w1.drew (w1.drew.alloc (.cells #[.slice A' xs.length c',.slice Ay ys.length cy] 44)):=Mid.alloc _ _;have hbxa:=hbxd.mid hal oZr;have k1a:=hbxa.cell 1 rfl;have howna:=owns_mid hown hal oZl;have hrowsa:=hrowsd.mid hal oZl;have hmda:=hmdd.trans hal;have hC:=impl_product2 A' xs c' Ay ys cy w1.drew hrxd.rsS hryd hoka.out hokb.out (by omega);have HC:=Lib.hid hC;clear hC;go_wp2_with fail;go_region_held3 (fun w'=>w'.cell? ⟨w.heap.size,1,none⟩=some (.int .i64 n)) (first | exact k1 | exact k1d | exact k1a | exact k1f | exact k1e) (first | (go_at_call 110;refine (HC.out).mono ?_;rintro e w2 ⟨A2,c2,rfl,ho2,hb2⟩;have hbxe:=hbxa.mid (Mid.of_below (lo:=0) (hi:=0) hb2) oZr;have k1e:=hbxe.cell 1 rfl;have hwn:=owns_belowS howna hb2;obtain ⟨u,hu0,hu⟩:=owns_cell hwn hn;have hfz:=hwn.frozenAt n;have hms:=Mid.setCell w2 (lo:=g) (hi:=g+1) (p:=⟨g,n,none⟩) (.slice A2 (red [] (xs++ys)).length c2) (Nat.le_refl _) (Nat.lt_succ_self _);have k1f:=(hbxe.mid hms (Or.inl hwg)).cell 1 rfl;clear hu0))
   go_wp2_with fail;go_ret2;have hfin:=mv_back (r:=⟨A2,c2,red [] (xs++ys)⟩) hmda HD.out (owns_base howna hs0) (hrowsa.wide hs0 hal.size (Nat.le_refl _)) ho2 hb2 (n:=n) rfl;exact RetMv.mk HE.out (by simp) hfin.1 hfin.2
  ·have he3:=HEE 2 (-1) (by omega) (by omega)
   rw [if_pos rfl,if_pos (by omega)] at he3;have HE:=Lib.hid he3;clear he3 HEE;have hb0:Mid 0 0 w (w.alloc (.cells #[.int .i64 2,.int .i64 n,.int .i64 n',.int .i64 (-1)] 48)):=Mid.alloc _ _;have hbx:=Box.new w #[.int .i64 2,.int .i64 n,.int .i64 n',.int .i64 (-1)] 48;have hrb:=hr.mid hb0 oZl;go_enter Tryz.func24,Tryz.ntmps24
   go_wp2_with fail;with_reducible refine (impl_copyLists _ d c _ _ _ hrb (by omega) H28.out).mono ?_
   rintro e w1 ⟨A1,c1,rfl,ho1,hm1⟩;have hm:=hb0.trans hm1;have hbx1:=hbx.mid hm1 oZr;have hrd1:=hrb.mid hm1 oZl;have k0:=hbx1.cell 0 rfl;have k1:=hbx1.cell 1 rfl;have k2:=hbx1.cell 2 rfl;have k3:=hbx1.cell 3 rfl;go_wp2_with fail;with_reducible refine (within_any _ _ _ _).mono ?_
   rintro e w' ⟨rfl,rfl⟩;rw [HB.out];have hcx1:w1.cell? ⟨b,off+n,none⟩=some (.slice A' xs.length c'):=(World.cell?_of_block (hm.block b (by omega) (by omega))).trans hcx;go_wp2_with fail;with_reducible refine (within_any _ _ _ _).mono ?_
   rintro e w' ⟨rfl,rfl⟩;rw [HJ.out];have hcy1:w1.cell? ⟨b,off+n',none⟩=some (.slice Ay ys.length cy):=(World.cell?_of_block (hm.block b (by omega) (by omega))).trans hcy;have hrx1:=hrx.mid hm oZl;have hry1:=hry.mid hm oZl;clear hcx hcy hrx hry hrb hr hrd1;go_wp2_with fail;with_reducible refine (impl_InvertWordE Ay ys cy _ hry1.rsS HOY.out hly).mono ?_
   rintro e wX ⟨Az,cz,rfl,hoz,hbz⟩;have hmz:Mid 0 0 w1 wX:=Mid.of_below hbz;have hmX:=hm.trans hmz;have hoX:=ho1.mid hmz oZl;have hbxX:=hbx1.mid hmz oZr;have hcxX:=cell_keep hmz (show b < w1.heap.size by have:=hm.size;omega) oZr hcx1;have hrxX:=hrx1.mid hmz oZl;have hryX:Rs wX wX.heap.size Az (ints (invW ys)):=Rs.of_own hoz;have q0:=hbxX.cell 0 rfl;have q1:=hbxX.cell 1 rfl;have q2:=hbxX.cell 2 rfl;have q3:=hbxX.cell 3 rfl;clear k0 k1 k2 k3;have hmd:=Mid.drew1 wX;have hrxd:=hrxX.mid hmd oZl;have hryd:Rs wX.drew wX.drew.heap.size Az (ints (invW ys)):=hryX;have hbxd:=hbxX.mid hmd oZr;have k1d:=hbxd.cell 1 rfl;have hcxd:wX.drew.cell? ⟨b,off+n,none⟩=some (.slice A' xs.length c'):=hcxX;obtain ⟨rows,hD,hown,hlt,hrows⟩:=(hoX.mid hmd oZl).cut;have HD:=Lib.hid hD;obtain ⟨g,rfl,hg0, -⟩:=owns_addr hown (by omega);simp only [World.size_alloc] at hg0;have hbg:b < g:=by omega
   have hwg:w.heap.size < g:=by omega
   have hmdd:=hmX.trans hmd;have hs0:=hb0.size;have hszX:b < wX.drew.heap.size:=by have:=hmdd.size;omega
   have hrowsd:=hrows.wide (Nat.le_refl _) hoX.size (Nat.le_refl wX.drew.heap.size);have hokz:=Lib.hid (okI_invW HOY.out);have hlz:(invW ys).length≤4194304:=by rw [invW_len];exact hly
   have hoka:=Lib.hid HOX.out;have hokb:=Lib.hid (okI_invW HOY.out);clear hD hlt;have hal:Mid 0 0 wX.drew (wX.drew.alloc (.cells #[.slice A' xs.length c',.slice Az (invW ys).length cz] 44)):=Mid.alloc _ _;have hbxa:=hbxd.mid hal oZr;have k1a:=hbxa.cell 1 rfl;have howna:=owns_mid hown hal oZl;have hrowsa:=hrowsd.mid hal oZl;have hmda:=hmdd.trans hal;have hC:=impl_product2 A' xs c' Az (invW ys) cz wX.drew hrxd.rsS hryd hoka.out hokb.out (by omega);have HC:=Lib.hid hC;clear hC;go_wp2_with fail;go_region_held3 (fun w'=>w'.cell? ⟨w.heap.size,1,none⟩=some (.int .i64 n)) (first | exact q1 | exact k1d | exact k1a | exact k1f | exact k1e) (first | (go_at_call 110;refine (HC.out).mono ?_;rintro e w2 ⟨A2,c2,rfl,ho2,hb2⟩;have hbxe:=hbxa.mid (Mid.of_below (lo:=0) (hi:=0) hb2) oZr;have k1e:=hbxe.cell 1 rfl;have hwn:=owns_belowS howna hb2;obtain ⟨u,hu0,hu⟩:=owns_cell hwn hn;have hfz:=hwn.frozenAt n;have hms:=Mid.setCell w2 (lo:=g) (hi:=g+1) (p:=⟨g,n,none⟩) (.slice A2 (red [] (xs++(invW ys))).length c2) (Nat.le_refl _) (Nat.lt_succ_self _);have k1f:=(hbxe.mid hms (Or.inl hwg)).cell 1 rfl;clear hu0))
   go_wp2_with fail;go_ret2;have hfin:=mv_back (r:=⟨A2,c2,red [] (xs++(invW ys))⟩) hmda HD.out (owns_base howna hs0) (hrowsa.wide hs0 hal.size (Nat.le_refl _)) ho2 hb2 (n:=n) rfl;exact RetMv.mk HE.out (by simp) hfin.1 hfin.2
 ·rcases hs with rfl | rfl
  ·have he3:=HEE 3 1 (by omega) (by omega)
   rw [if_neg (by omega),if_neg (by omega)] at he3;have HE:=Lib.hid he3;clear he3 HEE;have hb0:Mid 0 0 w (w.alloc (.cells #[.int .i64 3,.int .i64 n,.int .i64 n',.int .i64 1] 48)):=Mid.alloc _ _;have hbx:=Box.new w #[.int .i64 3,.int .i64 n,.int .i64 n',.int .i64 1] 48;have hrb:=hr.mid hb0 oZl;go_enter Tryz.func24,Tryz.ntmps24
   go_wp2_with fail;with_reducible refine (impl_copyLists _ d c _ _ _ hrb (by omega) H28.out).mono ?_
   rintro e w1 ⟨A1,c1,rfl,ho1,hm1⟩;have hm:=hb0.trans hm1;have hbx1:=hbx.mid hm1 oZr;have hrd1:=hrb.mid hm1 oZl;have k0:=hbx1.cell 0 rfl;have k1:=hbx1.cell 1 rfl;have k2:=hbx1.cell 2 rfl;have k3:=hbx1.cell 3 rfl;go_wp2_with fail;with_reducible refine (within_any _ _ _ _).mono ?_
   rintro e w' ⟨rfl,rfl⟩;rw [HB.out];have hcx1:w1.cell? ⟨b,off+n,none⟩=some (.slice A' xs.length c'):=(World.cell?_of_block (hm.block b (by omega) (by omega))).trans hcx;go_wp2_with fail;with_reducible refine (within_any _ _ _ _).mono ?_
   rintro e w' ⟨rfl,rfl⟩;rw [HJ.out];have hcy1:w1.cell? ⟨b,off+n',none⟩=some (.slice Ay ys.length cy):=(World.cell?_of_block (hm.block b (by omega) (by omega))).trans hcy;have hrx1:=hrx.mid hm oZl;have hry1:=hry.mid hm oZl;clear hcx hcy hrx hry hrb hr hrd1;have hmX:=hm;have hoX:=ho1;have hbxX:=hbx1;have hcxX:=hcx1;have hrxX:=hrx1;have hryX:=hry1.rsS;have hmd:=Mid.drew1 w1;have hrxd:=hrxX.mid hmd oZl;have hryd:Rs w1.drew w1.drew.heap.size Ay (ints ys):=hryX;have hbxd:=hbxX.mid hmd oZr;have k1d:=hbxd.cell 1 rfl;have hcxd:w1.drew.cell? ⟨b,off+n,none⟩=some (.slice A' xs.length c'):=hcxX;obtain ⟨rows,hD,hown,hlt,hrows⟩:=(hoX.mid hmd oZl).cut;have HD:=Lib.hid hD;obtain ⟨g,rfl,hg0, -⟩:=owns_addr hown (by omega);simp only [World.size_alloc] at hg0;have hbg:b < g:=by omega
   have hwg:w.heap.size < g:=by omega
   have hmdd:=hmX.trans hmd;have hs0:=hb0.size;have hszX:b < w1.drew.heap.size:=by have:=hmdd.size;omega
   have hrowsd:=hrows.wide (Nat.le_refl _) hoX.size (Nat.le_refl w1.drew.heap.size);have hokz:=Lib.hid HOY.out;have hlz:ys.length≤4194304:=by exact hly
   have hoka:=Lib.hid HOY.out;have hokb:=Lib.hid HOX.out;clear hD hlt;have hal:Mid 0 0 w1.drew (w1.drew.alloc (.cells #[.slice Ay ys.length cy,.slice A' xs.length c'] 44)):=Mid.alloc _ _;have hbxa:=hbxd.mid hal oZr;have k1a:=hbxa.cell 1 rfl;have howna:=owns_mid hown hal oZl;have hrowsa:=hrowsd.mid hal oZl;have hmda:=hmdd.trans hal;have hC:=impl_product2 Ay ys cy A' xs c' w1.drew hryd hrxd.rsS hoka.out hokb.out (by omega);have HC:=Lib.hid hC;clear hC;go_wp2_with fail;go_region_held3 (fun w'=>w'.cell? ⟨w.heap.size,1,none⟩=some (.int .i64 n)) (first | exact k1 | exact k1d | exact k1a | exact k1f | exact k1e) (first | (go_at_call 110;refine (HC.out).mono ?_;rintro e w2 ⟨A2,c2,rfl,ho2,hb2⟩;have hbxe:=hbxa.mid (Mid.of_below (lo:=0) (hi:=0) hb2) oZr;have k1e:=hbxe.cell 1 rfl;have hwn:=owns_belowS howna hb2;obtain ⟨u,hu0,hu⟩:=owns_cell hwn hn;have hfz:=hwn.frozenAt n;have hms:=Mid.setCell w2 (lo:=g) (hi:=g+1) (p:=⟨g,n,none⟩) (.slice A2 (red [] (ys++xs)).length c2) (Nat.le_refl _) (Nat.lt_succ_self _);have k1f:=(hbxe.mid hms (Or.inl hwg)).cell 1 rfl;clear hu0))
   go_wp2_with fail;go_ret2;have hfin:=mv_back (r:=⟨A2,c2,red [] (ys++xs)⟩) hmda HD.out (owns_base howna hs0) (hrowsa.wide hs0 hal.size (Nat.le_refl _)) ho2 hb2 (n:=n) rfl;exact RetMv.mk HE.out (by simp) hfin.1 hfin.2
  ·have he3:=HEE 3 (-1) (by omega) (by omega)
   rw [if_neg (by omega),if_pos (by omega)] at he3;have HE:=Lib.hid he3;clear he3 HEE;have hb0:Mid 0 0 w (w.alloc (.cells #[.int .i64 3,.int .i64 n,.int .i64 n',.int .i64 (-1)] 48)):=Mid.alloc _ _;have hbx:=Box.new w #[.int .i64 3,.int .i64 n,.int .i64 n',.int .i64 (-1)] 48;have hrb:=hr.mid hb0 oZl;go_enter Tryz.func24,Tryz.ntmps24
   go_wp2_with fail;with_reducible refine (impl_copyLists _ d c _ _ _ hrb (by omega) H28.out).mono ?_
   rintro e w1 ⟨A1,c1,rfl,ho1,hm1⟩;have hm:=hb0.trans hm1;have hbx1:=hbx.mid hm1 oZr;have hrd1:=hrb.mid hm1 oZl;have k0:=hbx1.cell 0 rfl;have k1:=hbx1.cell 1 rfl;have k2:=hbx1.cell 2 rfl;have k3:=hbx1.cell 3 rfl;go_wp2_with fail;with_reducible refine (within_any _ _ _ _).mono ?_
   rintro e w' ⟨rfl,rfl⟩;rw [HB.out];have hcx1:w1.cell? ⟨b,off+n,none⟩=some (.slice A' xs.length c'):=(World.cell?_of_block (hm.block b (by omega) (by omega))).trans hcx;go_wp2_with fail;with_reducible refine (within_any _ _ _ _).mono ?_
   rintro e w' ⟨rfl,rfl⟩;rw [HJ.out];have hcy1:w1.cell? ⟨b,off+n',none⟩=some (.slice Ay ys.length cy):=(World.cell?_of_block (hm.block b (by omega) (by omega))).trans hcy;have hrx1:=hrx.mid hm oZl;have hry1:=hry.mid hm oZl;clear hcx hcy hrx hry hrb hr hrd1;go_wp2_with fail;with_reducible refine (impl_InvertWordE Ay ys cy _ hry1.rsS HOY.out hly).mono ?_
   rintro e wX ⟨Az,cz,rfl,hoz,hbz⟩;have hmz:Mid 0 0 w1 wX:=Mid.of_below hbz;have hmX:=hm.trans hmz;have hoX:=ho1.mid hmz oZl;have hbxX:=hbx1.mid hmz oZr;have hcxX:=cell_keep hmz (show b < w1.heap.size by have:=hm.size;omega) oZr hcx1;have hrxX:=hrx1.mid hmz oZl;have hryX:Rs wX wX.heap.size Az (ints (invW ys)):=Rs.of_own hoz;have q0:=hbxX.cell 0 rfl;have q1:=hbxX.cell 1 rfl;have q2:=hbxX.cell 2 rfl;have q3:=hbxX.cell 3 rfl;clear k0 k1 k2 k3;have hmd:=Mid.drew1 wX;have hrxd:=hrxX.mid hmd oZl;have hryd:Rs wX.drew wX.drew.heap.size Az (ints (invW ys)):=hryX;have hbxd:=hbxX.mid hmd oZr;have k1d:=hbxd.cell 1 rfl;have hcxd:wX.drew.cell? ⟨b,off+n,none⟩=some (.slice A' xs.length c'):=hcxX;obtain ⟨rows,hD,hown,hlt,hrows⟩:=(hoX.mid hmd oZl).cut;have HD:=Lib.hid hD;obtain ⟨g,rfl,hg0, -⟩:=owns_addr hown (by omega);simp only [World.size_alloc] at hg0;have hbg:b < g:=by omega
   have hwg:w.heap.size < g:=by omega
   have hmdd:=hmX.trans hmd;have hs0:=hb0.size;have hszX:b < wX.drew.heap.size:=by have:=hmdd.size;omega
   have hrowsd:=hrows.wide (Nat.le_refl _) hoX.size (Nat.le_refl wX.drew.heap.size);have hokz:=Lib.hid (okI_invW HOY.out);have hlz:(invW ys).length≤4194304:=by rw [invW_len];exact hly
   have hoka:=Lib.hid (okI_invW HOY.out);have hokb:=Lib.hid HOX.out;clear hD hlt;have hal:Mid 0 0 wX.drew (wX.drew.alloc (.cells #[.slice Az (invW ys).length cz,.slice A' xs.length c'] 44)):=Mid.alloc _ _;have hbxa:=hbxd.mid hal oZr;have k1a:=hbxa.cell 1 rfl;have howna:=owns_mid hown hal oZl;have hrowsa:=hrowsd.mid hal oZl;have hmda:=hmdd.trans hal;have hC:=impl_product2 Az (invW ys) cz A' xs c' wX.drew hryd hrxd.rsS hoka.out hokb.out (by omega);have HC:=Lib.hid hC;clear hC;go_wp2_with fail;go_region_held3 (fun w'=>w'.cell? ⟨w.heap.size,1,none⟩=some (.int .i64 n)) (first | exact q1 | exact k1d | exact k1a | exact k1f | exact k1e) (first | (go_at_call 110;refine (HC.out).mono ?_;rintro e w2 ⟨A2,c2,rfl,ho2,hb2⟩;have hbxe:=hbxa.mid (Mid.of_below (lo:=0) (hi:=0) hb2) oZr;have k1e:=hbxe.cell 1 rfl;have hwn:=owns_belowS howna hb2;obtain ⟨u,hu0,hu⟩:=owns_cell hwn hn;have hfz:=hwn.frozenAt n;have hms:=Mid.setCell w2 (lo:=g) (hi:=g+1) (p:=⟨g,n,none⟩) (.slice A2 (red [] ((invW ys)++xs)).length c2) (Nat.le_refl _) (Nat.lt_succ_self _);have k1f:=(hbxe.mid hms (Or.inl hwg)).cell 1 rfl;clear hu0))
   go_wp2_with fail;go_ret2;have hfin:=mv_back (r:=⟨A2,c2,red [] ((invW ys)++xs)⟩) hmda HD.out (owns_base howna hs0) (hrowsa.wide hs0 hal.size (Nat.le_refl _)) ho2 hb2 (n:=n) rfl;exact RetMv.mk HE.out (by simp) hfin.1 hfin.2
end
section
open Go.RowKit
theorem impl_ApplyMove (A:Option Addr) (d:List (List Int)) (c:Nat) (m:Mv) (w:World) (lo hi:Nat) (hr:RSS w lo hi A d) (hok:∀ xs∈d,OkI xs) (hl:d.length+sumL d≤1048576) :
  Calls Tryz.prog 24 #[.slice A d.length c,m.v] w (RetMv d m w):=by
 by_cases h0:0≤m.i∧m.i < d.length
 ·obtain ⟨kd,i,j,s⟩:=m
  simp only at h0;obtain ⟨n,rfl⟩:∃ n:Nat,i=(n:Int):=⟨i.toNat,by omega⟩
  have hn:n < d.length:=by omega
  by_cases h1:kd=1
  ·subst h1;exact impl_ApplyMove_1 A d c n j s w lo hi hr hok hl hn
  by_cases h4:kd=4
  ·subst h4
   by_cases hx:(rowAt d n).length=0
   ·exact impl_ApplyMove_4t A d c n j s w lo hi hr hok hl hn hx
   ·exact impl_ApplyMove_4f A d c n j s w lo hi hr hok hl hn (by omega)
  by_cases h23:kd=2 ∨ kd=3
  ·by_cases hb:MvOk d ⟨kd,n,j,s⟩
   ·exact impl_ApplyMove_g A d c kd n j s w lo hi hr hok hl hn h23 hb.2.2.1 hb
   ·exact impl_ApplyMove_b A d c kd n j s w lo hi hr hok hl hn h23 hb
  ·exact impl_ApplyMove_n A d c kd n j s w lo hi hr hok hl hn (by simpa using h1) (by simpa using h4) (by simp;omega) (by simp;omega)
 ·exact impl_ApplyMove_a A d c m w lo hi hr hok hl h0
theorem spec_ApplyMove (A:Option Addr) (d:List (List Int)) (c:Nat) (m:Mv) (w:World) (lo hi:Nat) (hr:RSS w lo hi A d) (hok:∀ xs∈d,OkI xs) (hl:d.length+sumL d≤1048576) :
  Calls Tryz.prog 25 #[.slice A d.length c,m.v] w (RetMv d m w):=by
 by_cases h0:0≤m.i∧m.i < d.length
 ·obtain ⟨kd,i,j,s⟩:=m
  simp only at h0;obtain ⟨n,rfl⟩:∃ n:Nat,i=(n:Int):=⟨i.toNat,by omega⟩
  have hn:n < d.length:=by omega
  by_cases h1:kd=1
  ·subst h1;exact spec_ApplyMove_1 A d c n j s w lo hi hr hok hl hn
  by_cases h4:kd=4
  ·subst h4
   by_cases hx:(rowAt d n).length=0
   ·exact spec_ApplyMove_4t A d c n j s w lo hi hr hok hl hn hx
   ·exact spec_ApplyMove_4f A d c n j s w lo hi hr hok hl hn (by omega)
  by_cases hb:MvOk d ⟨kd,n,j,s⟩
  ·by_cases h23:kd=2 ∨ kd=3
   ·exact spec_ApplyMove_g A d c kd n j s w lo hi hr hok hl hn h23 hb.2.2.1 hb
   ·exact spec_ApplyMove_n A d c kd n j s w lo hi hr hok hl hn (by simpa using h1) (by simpa using h4) (by simp;omega) (by simp;omega) hb
  ·exact spec_ApplyMove_b A d c kd n j s w lo hi hr hok hl hn (by simpa using h1) (by simpa using h4) hb
 ·exact spec_ApplyMove_a A d c m w lo hi hr hok hl h0
end
section
open Go.RowKit
def ApplyMoveIs (d:List (List Int)) (m:Mv) (res:List (List Int)) (b:Bool):Prop:=applyM d m=(res,b)
theorem applyM_len (d:List (List Int)) (m:Mv):(applyM d m).1.length+sumL (applyM d m).1≤d.length+sumL d+sumL d:=by
 by_cases h0:0≤m.i∧m.i < d.length
 ·obtain ⟨kd,i,j,s⟩:=m
  simp only at h0;obtain ⟨n,rfl⟩:∃ n:Nat,i=(n:Int):=⟨i.toNat,by omega⟩
  have hn:n < d.length:=by omega
  obtain ⟨xs,hx⟩:=get_of_lt d hn;by_cases h1:kd=1
  ·subst h1
   rw [applyM_1 hx];have:=sumL_set (ys:=invW xs) hx;rw [invW_len] at this;simp;omega
  by_cases h4:kd=4
  ·subst h4
   rw [applyM_4 hx];split
   ·show d.length+sumL d≤_
    omega
   ·have:=sumL_erase hx
    simp only [List.length_eraseIdx_of_lt hn];omega
  by_cases hb:(kd=2 ∨ kd=3)∧MvOk d ⟨kd,n,j,s⟩
  ·obtain ⟨h23,hb⟩:=hb
   obtain ⟨g1,g2,g3,g4⟩:=hb;simp at g1 g2 g3 g4;obtain ⟨n',rfl⟩:∃ n':Nat,j=(n':Int):=⟨j.toNat,by omega⟩
   obtain ⟨ys,hy⟩:=get_of_lt d (show n' < d.length by omega);rw [applyM_23 hx hy h23 (by omega) g4];have hz:(if s < 0 then invW ys else ys).length=ys.length:=by split <;> simp [invW_len]
   obtain ⟨zs,hzs⟩:∃ zs,zs=(if kd=2 then xs++(if s < 0 then invW ys else ys) else (if s < 0 then invW ys else ys)++xs):=⟨_,rfl⟩
   have hl:zs.length=xs.length+ys.length:=by
    rw [hzs];split
    ·rw [List.length_append,hz]
    ·rw [List.length_append,hz];omega
   rw [← hzs];have hs:=sumL_set (ys:=red [] zs) hx;have hr:=red_nil_len zs;have h2:=len_le_sumL (List.mem_of_getElem? hy);simp;omega
  ·rw [applyM_bad (m:=⟨kd,n,j,s⟩) h1 h4 (by by_cases h:MvOk d ⟨kd,n,j,s⟩;(right;simp;constructor <;> (intro hk;exact hb ⟨by omega,h⟩));(left;exact h))]
   show d.length+sumL d≤_
   omega
 ·rw [applyM_out h0]
  show d.length+sumL d≤_
  omega
theorem sspec_ApplyMove (A:Option Addr) (d:List (List Int)) (c:Nat) (m:Mv) (w:World) (lo hi:Nat) (h:RSS w lo hi A d) (ho:OkSS d) (hl:d.length+sumL d≤1048576) (_:True) (res:List (List Int)) (b:Bool) (hres:ApplyMoveIs d m res b) :
  Calls Tryz.prog 25 #[.slice A d.length c,m.v] w fun e w'=>∃ A2 c2,e=.returned (.tuple #[.slice A2 res.length c2,.bool b])∧OSS w' w.heap.size w'.heap.size 44 3 A2 c2 res∧Mid 0 0 w w':=by
 have:=spec_ApplyMove A d c m w lo hi h ho.2 hl;unfold RetMv at this;rw [show applyM d m=(res,b) from hres] at this;exact this
theorem simpl_ApplyMove (A:Option Addr) (d:List (List Int)) (c:Nat) (m:Mv) (w:World) (lo hi:Nat) (h:RSS w lo hi A d) (ho:OkSS d) (hl:d.length+sumL d≤1048576) (_:True) (res:List (List Int)) (b:Bool) (hres:ApplyMoveIs d m res b) :
  Calls Tryz.prog 24 #[.slice A d.length c,m.v] w fun e w'=>∃ A2 c2,e=.returned (.tuple #[.slice A2 res.length c2,.bool b])∧OSS w' w.heap.size w'.heap.size 44 3 A2 c2 res∧Mid 0 0 w w':=by
 have:=impl_ApplyMove A d c m w lo hi h ho.2 hl;unfold RetMv at this;rw [show applyM d m=(res,b) from hres] at this;exact this
end
section
open Go.RowKit
theorem mvTry_eq {d x:List (List Int)} {i k n:Nat} {is:Bool} (h:applyM d (mvOf i k n)=(x,is)):mvTry d i k n=(is && decide (cmpN (rowAt x i) (rowAt d i) < 0)):=by
 unfold mvTry;rw [h]
theorem mvOf_kind {i k n:Nat} (hn:n < 4):((mvOf i k n).kind=2 ∨ (mvOf i k n).kind=3)∧((mvOf i k n).sign=1 ∨ (mvOf i k n).sign = -1):=by
 simp [mvOf];omega
theorem mvTry_same (d:List (List Int)) (i:Nat) {n:Nat} (hn:n < 4):mvTry d i i n=false:=by
 have hk:=(mvOf_kind (i:=i) (k:=i) hn).1;have h:(applyM d (mvOf i i n)).2=false:=by
  by_cases h0:0≤(mvOf i i n).i∧(mvOf i i n).i < d.length
  ·rw [applyM_bad (by omega) (by omega) (.inl (by simp [MvOk,mvOf]))]
  ·rw [applyM_out h0]
 unfold mvTry;rw [h]
 rfl
theorem tryK_same (d:List (List Int)) (i:Nat):tryK d i i=none:=by
 unfold tryK;rw [List.findSome?_eq_none_iff];intro n hn;rw [List.mem_range] at hn;unfold tryN;rw [mvTry_same d i hn]
 rfl
def mvRes (xs ys:List Int) (n:Nat):List Int:=red [] (if n < 2 then xs++(if n % 2=1 then invW ys else ys) else (if n % 2=1 then invW ys else ys)++xs)
theorem mvTry_at {d:List (List Int)} {i k n:Nat} {xs ys:List Int} (hx:d[i]?=some xs) (hy:d[k]?=some ys) (hne:k≠i) (hn:n < 4) :
  applyM d (mvOf i k n)=(d.set i (mvRes xs ys n),true)∧mvTry d i k n=decide (cmpN (mvRes xs ys n) xs < 0):=by
 have hi:=(List.getElem?_eq_some_iff.1 hx).1;have h:applyM d (mvOf i k n)=(d.set i (mvRes xs ys n),true):=by
  have:=applyM_23 (k:=2+(n:Int) / 2) (s:=1 - 2 * ((n:Int) % 2)) hx hy (by omega) hne (by omega);unfold mvOf;rw [this]
  congr 2
  unfold mvRes;have e1:((2+(n:Int) / 2=2)↔n < 2):=by omega
  have e2:((1 - 2 * ((n:Int) % 2) < 0)↔n % 2=1):=by omega
  simp only [e1,e2]
 refine ⟨h,?_⟩;rw [mvTry_eq h,rowAt_get hx,rowAt_get (xs:=mvRes xs ys n) (by rw [List.getElem?_set_self hi])]
 rfl
theorem mvRes_len (xs ys:List Int) (n:Nat):(mvRes xs ys n).length≤xs.length+ys.length:=by
 unfold mvRes;refine Nat.le_trans (red_nil_len _) ?_;split <;> split <;> simp [invW_len] <;> omega
theorem mvRes_ok {xs ys:List Int} (hx:OkI xs) (hy:OkI ys) (n:Nat):OkI (mvRes xs ys n):=by
 unfold mvRes;refine red_ok ?_;split
 ·split
  ·exact okI_app hx (okI_invW hy)
  ·exact okI_app hx hy
 ·split
  ·exact okI_app (okI_invW hy) hx
  ·exact okI_app hy hx
theorem nextM_D {d:List (List Int)} {k:Nat} {m:Mv} (h:(List.range k).findSome? (tryD d)=none) (hk:k < d.length) (hm:tryD d k=some m):nextM d=some m:=by
 unfold nextM;rw [find_range_some _ h hk hm]
 rfl
theorem nextM_I {d:List (List Int)} {i k:Nat} {m:Mv} (hD:(List.range d.length).findSome? (tryD d)=none) (hI:(List.range i).findSome? (tryI d)=none) (hi:i < d.length)
  (hK:(List.range k).findSome? (tryK d i)=none) (hk:k < d.length) (hm:tryK d i k=some m):nextM d=some m:=by
 unfold nextM;rw [hD,find_range_some _ hI hi (find_range_some _ hK hk hm)]
 rfl
theorem nextM_none {d:List (List Int)} (hD:(List.range d.length).findSome? (tryD d)=none) (hI:(List.range d.length).findSome? (tryI d)=none):nextM d=none:=by
 unfold nextM;rw [hD,hI]
 rfl
theorem tryK_none {d:List (List Int)} {i k:Nat} (h:∀ n,n < 4→mvTry d i k n=false):tryK d i k=none:=by
 unfold tryK;rw [List.findSome?_eq_none_iff];intro n hn;unfold tryN;rw [h n (List.mem_range.1 hn)]
 rfl
theorem tryK_some {d:List (List Int)} {i k n:Nat} (hn:n < 4) (h:∀ j,j < n→mvTry d i k j=false) (ht:mvTry d i k n=true):tryK d i k=some (mvOf i k n):=by
 unfold tryK;refine find_range_some _ ?_ hn (by unfold tryN;rw [ht];rfl);rw [List.findSome?_eq_none_iff];intro j hj;unfold tryN;rw [h j (List.mem_range.1 hj)]
 rfl
def mvD (m:Option Mv):Mv:=m.getD ⟨0,0,0,0⟩
end
section
open Go.RowKit
def runN:Nat→List (List Int)→List (List Int) × List Mv
 | 0,l=>(l,[])
 | n+1,l=>match nextM l with
  | none=>(l,[])
  | some m=>((runN n (applyM l m).1).1,m :: (runN n (applyM l m).1).2)
theorem runN_none {n:Nat} {l:List (List Int)} (h:nextM l=none):runN n l=(l,[]):=by
 cases n with
 | zero=>rfl
 | succ n=>simp [runN,h]
theorem runN_some {n:Nat} {l:List (List Int)} {m:Mv} (h:nextM l=some m):runN (n+1) l=((runN n (applyM l m).1).1,m :: (runN n (applyM l m).1).2):=by simp [runN,h]
theorem find_some_at {α:Type} {f:Nat→Option α} {n:Nat} {x:α} (h:(List.range n).findSome? f=some x):∃ k,k < n∧f k=some x:=by
 obtain ⟨k,hk,hx⟩:=List.exists_of_findSome?_eq_some h;exact ⟨k,List.mem_range.1 hk,hx⟩
theorem cmpN_len {a b:List Int} (h:cmpN a b < 0):a.length≤b.length:=by
 unfold cmpN at h;split at h
 ·omega
 ·split at h
  ·omega
  ·omega
structure Less (d x:List (List Int)):Prop where
 len:x.length≤d.length
 sum:sumL x≤sumL d
 ok:(∀ xs∈d,OkI xs)→∀ xs∈x,OkI xs
theorem mem_set_or {α:Type} {l:List α} {k:Nat} {a b:α} (h:b∈l.set k a):b∈l ∨ b=a:=List.mem_or_eq_of_mem_set h
theorem nextM_less {d:List (List Int)} {m:Mv} (h:nextM d=some m):Less d (applyM d m).1:=by
 unfold nextM at h;rcases hD:(List.range d.length).findSome? (tryD d) with _ | m'
 ·rw [hD] at h
  simp at h;obtain ⟨i,hi,hI⟩:=find_some_at (by simpa using h:(List.range d.length).findSome? (tryI d)=some m);obtain ⟨k,hk,hK⟩:=find_some_at hI;obtain ⟨n,hn,hN⟩:=find_some_at hK;unfold tryN at hN;split at hN
  ·rename_i ht
   injection hN with hN
   subst hN;obtain ⟨xs,hx⟩:=get_of_lt d hi;obtain ⟨ys,hy⟩:=get_of_lt d hk;by_cases hik:k=i
   ·subst hik
    rw [mvTry_same d k hn] at ht;cases ht
   ·obtain ⟨h1,h2⟩:=mvTry_at hx hy hik hn
    rw [h2] at ht;have hc:=cmpN_len (of_decide_eq_true ht);rw [h1];refine ⟨by simp,?_,fun ho zs hz=>?_⟩
    ·have:=sumL_set (ys:=mvRes xs ys n) hx
     show sumL (d.set i (mvRes xs ys n))≤_
     omega
    ·rcases mem_set_or hz with hz | rfl
     ·exact ho zs hz
     ·exact mvRes_ok (ho xs (List.mem_of_getElem? hx)) (ho ys (List.mem_of_getElem? hy)) n
  ·cases hN
 ·rw [hD] at h
  simp at h;subst h;obtain ⟨k,hk,hK⟩:=find_some_at hD;unfold tryD at hK;split at hK
  ·rename_i ht
   injection hK with hK
   subst hK;obtain ⟨xs,hx⟩:=get_of_lt d hk;rw [rowAt_get hx] at ht;rw [applyM_4 hx,if_neg (by omega)];refine ⟨?_,?_,fun ho zs hz=>ho zs (List.mem_of_mem_eraseIdx hz)⟩
   ·show (d.eraseIdx k).length≤_
    rw [List.length_eraseIdx_of_lt hk];omega
   ·have:=sumL_erase hx
    show sumL (d.eraseIdx k)≤_
    omega
  ·cases hK
theorem runN_less (n:Nat) (d:List (List Int)):Less d (runN n d).1∧(runN n d).2.length≤n:=by
 induction n generalizing d with
 | zero=>exact ⟨⟨Nat.le_refl _,Nat.le_refl _,fun h=>h⟩,Nat.le_refl _⟩
 | succ n ih =>
  cases h:nextM d with
  | none =>
   rw [runN_none h];exact ⟨⟨Nat.le_refl _,Nat.le_refl _,fun h=>h⟩,Nat.zero_le _⟩
  | some m =>
   rw [runN_some h];have h1:=nextM_less h;obtain ⟨h2,h3⟩:=ih (applyM d m).1;exact ⟨⟨Nat.le_trans h2.len h1.len,Nat.le_trans h2.sum h1.sum,fun ho=>h2.ok (h1.ok ho)⟩,by simp;omega⟩
def mvI (m:Mv):List Int:=[m.kind,m.i,m.j,m.sign]
def mvsI (ms:List Mv):List Int:=(ms.map mvI).flatten
theorem mvsI_len (ms:List Mv):(mvsI ms).length=ms.length * 4:=by
 induction ms with
 | nil=>rfl
 | cons m t ih=>simp [mvsI,mvI] at ih ⊢;omega
theorem mvsI_append (a b:List Mv):mvsI (a++b)=mvsI a++mvsI b:=by simp [mvsI]
theorem mvsI_one (m:Mv):mvsI [m]=mvI m:=by simp [mvsI]
end
theorem mvsI_cons (m:Mv) (t:List Mv):mvsI (m :: t)=m.kind :: m.i :: m.j :: m.sign :: mvsI t:=by simp [mvsI,mvI]
theorem mvsI_at:∀ {ms:List Mv} {k:Nat} {m:Mv},ms[k]?=some m→(mvsI ms)[k * 4]?=some m.kind∧(mvsI ms)[k * 4+1]?=some m.i∧(mvsI ms)[k * 4+2]?=some m.j∧(mvsI ms)[k * 4+3]?=some m.sign
 | [],k,m,h=>by simp at h
 | x :: t,0,m,h=>by
  simp at h;subst h;rw [mvsI_cons];exact ⟨rfl,rfl,rfl,rfl⟩
 | x :: t,k+1,m,h=>by
  have:=mvsI_at (ms:=t) (k:=k) (m:=m) (by simpa using h);rw [mvsI_cons];have e1:(k+1) * 4=k * 4+1+1+1+1:=by omega
  rw [e1];simp only [List.getElem?_cons_succ];exact this
def sgB (m:Mv):List UInt8:=if m.sign < 0 then [45] else [43]
def okMv (m:Mv):Prop:=m.kind=1 ∨ m.kind=4 ∨ m.kind=2 ∨ m.kind=3
instance (m:Mv):Decidable (okMv m):=by unfold okMv;infer_instance
def itemMv (m:Mv):List UInt8 :=
 if m.kind=1 then [105,110,118,101,114,116]++fmtI m.i
 else if m.kind=4 then [100,114,111,112]++fmtI m.i
 else if m.kind=2 then fmtI m.i++[42]++sgB m++fmtI m.j
 else sgB m++fmtI m.j++[42]++fmtI m.i
theorem sgB_len (m:Mv):(sgB m).length=1:=by unfold sgB;split <;> rfl
theorem itemMv_ne (m:Mv):itemMv m≠[]:=by
 unfold itemMv;have h1:=fmtI_ne m.i;split
 ·simp
 ·split
  ·simp
  ·split
   ·simp [h1]
   ·simp [h1]
def In64 (n:Int):Prop:=-9223372036854775808≤n∧n≤9223372036854775807
def OkMv (m:Mv):Prop:=In64 m.i∧In64 m.j
theorem itemMv_len {m:Mv} (h:OkMv m):(itemMv m).length≤45:=by
 have h1:=fmtI_len h.1.1 h.1.2;have h2:=fmtI_len h.2.1 h.2.2;have h3:=sgB_len m;unfold itemMv;split
 ·simp;omega
 ·split
  ·simp;omega
  ·split
   ·simp;omega
   ·simp;omega
def accB (sp:List UInt8):List (List UInt8)→List UInt8
 | []=>[]
 | x :: t=>t.foldl (fun s u=>s++sp++u) x
theorem accB_snoc (sp:List UInt8) (ls:List (List UInt8)) (x:List UInt8):accB sp (ls++[x])=if ls=[] then x else accB sp ls++sp++x:=by
 cases ls with
 | nil=>simp [accB]
 | cons y t=>simp [accB,List.foldl_append]
theorem accB_foldl_len (sp:List UInt8) (B:Nat):∀ (t:List (List UInt8)) (s:List UInt8),(∀ x∈t,x.length≤B)→(t.foldl (fun s u=>s++sp++u) s).length≤s.length+t.length * (B+sp.length)
 | [],s,_=>by simp
 | x :: t,s,h=>by
  have h1:=accB_foldl_len sp B t (s++sp++x) fun y hy=>h y (by simp [hy]);have h2:=h x (by simp);rw [List.foldl_cons,List.length_cons,Nat.add_mul];simp only [List.length_append] at h1;omega
theorem accB_len (sp:List UInt8) (B:Nat) (ls:List (List UInt8)) (h:∀ x∈ls,x.length≤B):(accB sp ls).length≤ls.length * (B+sp.length):=by
 cases ls with
 | nil=>simp [accB]
 | cons x t =>
  have h1:=accB_foldl_len sp B t x fun y hy=>h y (by simp [hy]);have h2:=h x (by simp);rw [accB,List.length_cons,Nat.add_mul];omega
theorem accB_foldl_ne (sp:List UInt8):∀ (t:List (List UInt8)) (s:List UInt8),s≠[]→t.foldl (fun s u=>s++sp++u) s≠[]
 | [],s,h=>h
 | x :: t,s,h=>by
  rw [List.foldl_cons];exact accB_foldl_ne sp t _ (by simp [h])
theorem accB_ne (sp:List UInt8) (ls:List (List UInt8)) (h0:ls≠[]) (h:∀ x∈ls,x≠[]):accB sp ls≠[]:=by
 cases ls with
 | nil=>exact absurd rfl h0
 | cons x t=>exact accB_foldl_ne sp t x (h x (by simp))
def glueB (sp none:List UInt8) (ls:List (List UInt8)):List UInt8:=if ls=[] then none else accB sp ls
def fmtMs (ms:List Mv):List UInt8:=if (∀ m∈ms,okMv m) then glueB [32] [110,111,110,101] (ms.map itemMv) else []
theorem fmtMs_no {ms:List Mv} {k:Nat} {m:Mv} (h:ms[k]?=some m) (hn:¬ okMv m):fmtMs ms=[]:=by
 unfold fmtMs;rw [if_neg];intro h2;exact hn (h2 m (List.mem_of_getElem? h))
theorem fmtMs_yes {ms:List Mv} (h:∀ m∈ms,okMv m):fmtMs ms=glueB [32] [110,111,110,101] (ms.map itemMv):=by
 unfold fmtMs;rw [if_pos h]
theorem take_ok {ms:List Mv} {k:Nat} {m:Mv} (h:ms[k]?=some m) (hk:∀ x∈ms.take k,okMv x) (hm:okMv m):∀ x∈ms.take (k+1),okMv x:=by
 obtain ⟨h1,rfl⟩:=List.getElem?_eq_some_iff.1 h;intro x hx;rw [List.take_succ_eq_append_getElem h1] at hx;rcases List.mem_append.1 hx with hx | hx
 ·exact hk x hx
 ·simp at hx
  subst hx;exact hm
theorem map_take {ms:List Mv} {k:Nat} {m:Mv} (h:ms[k]?=some m):(ms.take (k+1)).map itemMv=(ms.take k).map itemMv++[itemMv m]:=by
 obtain ⟨h1,rfl⟩:=List.getElem?_eq_some_iff.1 h;rw [List.take_succ_eq_append_getElem h1,List.map_append]
 rfl
section
open Go.RowKit
theorem RV.flat4 {w:World} {lo hi:Nat} {A:Option Addr} {xs:List Int} {n k:Nat} (h:RV w lo hi A (ints xs)) (hl:xs.length=n * 4) (hk:k < n) :
  ∃ b off x0 x1 x2 x3,A=some ⟨b,off,none⟩∧lo≤b∧b < hi∧xs[k * 4+0]?=some x0∧xs[k * 4+1]?=some x1∧xs[k * 4+2]?=some x2∧xs[k * 4+3]?=some x3∧w.cell? ⟨b,off+k * 4,none⟩=some (.int .i64 x0)∧w.cell? ⟨b,off+k * 4+1,none⟩=some (.int .i64 x1)∧w.cell? ⟨b,off+k * 4+2,none⟩=some (.int .i64 x2)∧w.cell? ⟨b,off+k * 4+3,none⟩=some (.int .i64 x3):=by
 obtain ⟨b,off,hA,h1,h2,hc⟩:=h.2 (by intro h0;have:=congrArg List.length h0;rw [ints_len] at this;simp at this;subst this;simp at hl;omega);obtain ⟨x0,g0⟩:=get_of_lt xs (show k * 4+0 < xs.length by omega);obtain ⟨x1,g1⟩:=get_of_lt xs (show k * 4+1 < xs.length by omega);obtain ⟨x2,g2⟩:=get_of_lt xs (show k * 4+2 < xs.length by omega);obtain ⟨x3,g3⟩:=get_of_lt xs (show k * 4+3 < xs.length by omega);exact ⟨b,off,x0,x1,x2,x3,hA,h1,h2,g0,g1,g2,g3,hc (k * 4+0) _ (by rw [ints_get,g0];rfl),hc (k * 4+1) _ (by rw [ints_get,g1];rfl),hc (k * 4+2) _ (by rw [ints_get,g2];rfl),hc (k * 4+3) _ (by rw [ints_get,g3];rfl)⟩
end
section
open Go.RowKit
def strs (ls:List (List UInt8)):List Value:=ls.map fun l=>.string (str l)
theorem strs_len (ls:List (List UInt8)):(strs ls).length=ls.length:=by simp [strs]
theorem strs_append (a b:List (List UInt8)):strs (a++b)=strs a++strs b:=by simp [strs]
theorem strs_get (ls:List (List UInt8)) (k:Nat):(strs ls)[k]?=(ls[k]?).map fun l=>.string (str l):=by simp [strs]
theorem infoStr:(Tryz.prog.info? 9).map (fun i=>(i.zero,i.size,i.bytes))=some (some (.string ⟨#[]⟩),1,16):=by kernel_rfl
theorem undSStr:Tryz.prog.underlying 103=some (.slice 9):=by kernel_rfl
section
variable {W:World} {ops:Array Oper} {rest:List Oper} {o:Oper} {a:Act} {Q:Exit→Act→World→Prop}
theorem wpList_pushStr (hgd:o.guard=none) (s x:Operand)
  (ho:o.op=.call { callee:=.builtin .append,args:=#[s,x],argTypes:=#[103,103] }) (lo:Nat) (A:Option Addr) (n c:Nat) (xs:List (List UInt8)) (hs:a.eval s=.slice A n c)
  (hown:W.ownsRow lo 9 1 (.slice A n c) n (strs xs)) (y:List UInt8) (u:ByteArray) (hu:u=str y) (hx:a.eval x=.slice (some ⟨W.heap.size,0,none⟩) 1 1) (hn:n≤1048576) (hb:lo≤W.heap.size)
  (h:∀ A' c' w',w'.ownsRow lo 9 1 (.slice A' (n+1) c') (n+1) (strs (xs++[y]))→Mid lo W.heap.size W w'→wpList Tryz.prog ops Q rest (a.put o.dst (.slice A' (n+1) c')) w') :
  wpList Tryz.prog ops Q (o :: rest) a (W.alloc (.cells #[.string u] 9)):=by
 subst hu;refine wpList_push (news:=[.string (str y)]) hgd s x 103 ho lo 9 (.string ⟨#[]⟩) 1 16 undSStr infoStr rfl (by decide) (.slice A n c) n (strs xs) hs hown 1 hx rfl ?_ (by unfold maxLen;omega) (by omega) hb ?_
 ·intro u hu
  simp at hu;subst hu
  rfl
 ·intro v' w' h1 h2 _
  obtain ⟨A',c',rfl, -, -⟩:=owns_shape h1;refine h A' c' w' ?_ (Mid.of_grownRow hown h2);rw [strs_append];exact h1
end
theorem impl_glued (A:Option Addr) (ls:List (List UInt8)) (c:Nat) (sp no:List UInt8) (w:World) (lo hi:Nat) (hr:RV w lo hi A (strs ls)) (hl:ls.length≤1048576) (hc:ls.length≤c) (hb:∀ x∈ls,x.length≤1000) (hsp:sp.length≤1000) :
  Calls Tryz.prog 99 #[.slice A ls.length c,.string (str sp),.string (str no)] w fun e w'=>e=.returned (.string (str (glueB sp no ls)))∧Mid 0 0 w w':=by
 have HB:=Lib.hid hb;have HSP:=Lib.hid hsp;obtain ⟨spb,hspb⟩:∃ s,s=str sp:=⟨_,rfl⟩
 obtain ⟨nob,hnob⟩:∃ s,s=str no:=⟨_,rfl⟩
 rw [← hspb,← hnob];have HS:=Lib.hid hspb;have HN:=Lib.hid hnob;have hsps:spb.size≤1000:=by rw [hspb,str_size];exact hsp
 clear hb hsp hspb hnob;rcases Nat.eq_zero_or_pos ls.length with h0 | h0
 ·have hnil:=List.eq_nil_of_length_eq_zero h0
  subst hnil;have hres:nob=str (glueB sp no []):=HN.out;rw [← hres];clear hres;go_enter Tryz.func99,Tryz.ntmps99
  go_wp2_with fail;go_ret;exact ⟨rfl,Mid.refl _ _ _⟩
 obtain ⟨n,hn⟩:∃ n,ls.length=n+1:=⟨ls.length - 1,by omega⟩
 have HL:=Lib.hid hn;rw [hn];obtain ⟨b,off,rfl,hblo,hbhi,hcs⟩:=hr.2 (by intro h;have:=congrArg List.length h;rw [strs_len] at this;simp only [List.length_nil] at this;omega);obtain ⟨x0,hx0⟩:=get_of_lt ls (show 0 < ls.length by omega);have hc0:=hcs 0 (.string (str x0)) (by rw [strs_get,hx0];rfl);obtain ⟨s0,hs0⟩:∃ s,s=str x0:=⟨_,rfl⟩
 rw [← hs0] at hc0;have HX0:Hid (s0=str (accB sp (ls.take (0+1)))):=Lib.hid (by
  rw [hs0];cases ls with
  | nil=>simp at h0
  | cons x t=>simp at hx0;subst hx0;rfl)
 have HCS:=Lib.hid hcs;have hbs:b < w.heap.size:=Nat.lt_of_lt_of_le hbhi hr.1;have hcn:n+1≤c:=by omega
 have hcn2:(1:Int)≤((n+1:Nat):Int):=by omega
 have hcn3:((n+1:Nat):Int)≤(c:Int):=by omega
 rw [Nat.add_zero] at hc0;have HRR:=Lib.hid hr;have hn2:n≤1048576:=by omega
 clear hx0 hs0 hcs h0 hn hr;by_cases hc1:c=1
 ·subst hc1
  obtain rfl:n=0:=by omega
  go_enter Tryz.func99,Tryz.ntmps99
  go_wp2_with fail;go_loopw [7,20] (fun sv iv wr=>sv=.string s0∧iv=.int .i64 0∧wr=w) (fun _ _ _=>0)
  case atStart=>exact ⟨rfl,rfl,rfl⟩
  case round =>
   obtain ⟨rfl,rfl,rfl⟩:=hrel;have htk:ls.take (0+1)=ls:=List.take_of_length_le (by rw [HL.out];exact Nat.le_refl _);have hne:ls≠[]:=by intro h;have:=HL.out;rw [h,List.length_nil] at this;omega
   have hres:s0=str (glueB sp no ls):=by rw [HX0.out,htk,glueB,if_neg hne]
   have HRES:=Lib.hid hres;clear htk hne hres;go_wp2_with fail;go_ret;exact ⟨by rw [HRES.out];rfl,Mid.refl _ _ _⟩
 ·go_enter Tryz.func99,Tryz.ntmps99
  go_wp2_with fail;go_loopw [7,20] (fun sv iv wr=>∃ (k:Nat) (s:ByteArray),iv=.int .i64 k∧sv=.string s∧k≤n∧Hid (s=str (accB sp (ls.take (k+1))))∧wr=w) (fun _ iv _=>n - (intOf iv).toNat)
  case atStart=>exact ⟨0,s0,rfl,rfl,Nat.zero_le _,HX0,rfl⟩
  case round =>
   clear HX0 hc0;obtain ⟨k,s,rfl,rfl,hk,HSS,rfl⟩:=hrel;by_cases hlt:k < n
   ·obtain ⟨x,hx⟩:=get_of_lt ls (show k+1 < ls.length by rw [HL.out];omega)
    have hcx:=HCS.out (k+1) (.string (str x)) (by rw [strs_get,hx];rfl);obtain ⟨xb,hxb⟩:∃ s,s=str x:=⟨_,rfl⟩
    rw [← hxb,← Nat.add_assoc,Nat.add_right_comm] at hcx;have hxl:x.length≤1000:=HB.out x (List.mem_of_getElem? hx);have hxs:xb.size≤1000:=by rw [hxb,str_size];exact hxl
    have hss:s.size≤1048576 * 2000:=by
     rw [HSS.out,str_size];have h1:=accB_len sp 1000 (ls.take (k+1)) fun y hy=>HB.out y (List.mem_of_mem_take hy);have h2:=HSP.out;have h3:(ls.take (k+1)).length≤1048576:=by rw [List.length_take];omega
     have h4:(ls.take (k+1)).length * (1000+sp.length)≤1048576 * 2000:=Nat.mul_le_mul h3 (by omega);omega
    have hz1:s.size+spb.size≤9223372036854775807:=by omega
    have hz2:(s++spb).size+xb.size≤9223372036854775807:=by rw [ByteArray.size_append];omega
    have HS2:Hid (s++spb++xb=str (accB sp (ls.take (k+1+1)))):=Lib.hid (by
     obtain ⟨h1,h2⟩:=List.getElem?_eq_some_iff.1 hx;rw [HSS.out,HS.out,hxb,str_app,str_app,List.take_succ_eq_append_getElem h1,h2,accB_snoc,if_neg];intro h;have:=congrArg List.length h;rw [List.length_take,HL.out] at this;simp only [List.length_nil] at this;omega)
    have hk0:(0:Int)≤(k:Int):=by omega
    have hk1:(k:Int) < (n:Int):=by omega
    clear hx hxb hxl;go_wp2_with fail;go_roundw
    case rel =>
     exact ⟨k+1,s++spb++xb,by go_num,rfl,by omega,HS2,by trivial⟩
    case measure=>simp [intOf];omega
   ·obtain rfl:n=k:=by omega
    have htk:ls.take (n+1)=ls:=List.take_of_length_le (by rw [HL.out];exact Nat.le_refl _);have hne:ls≠[]:=by intro h;have:=HL.out;rw [h,List.length_nil] at this;omega
    have hres:s=str (glueB sp no ls):=by rw [HSS.out,htk,glueB,if_neg hne]
    have HRES:=Lib.hid hres;clear htk hne hres;go_wp2_with fail;go_ret;exact ⟨by rw [HRES.out];rfl,Mid.refl _ _ _⟩
end
section
open Go.RowKit
theorem RV.mv {w:World} {lo hi:Nat} {A:Option Addr} {ms:List Mv} {k:Nat} (h:RV w lo hi A (ints (mvsI ms))) (hk:k < ms.length) :
  ∃ b off m,A=some ⟨b,off,none⟩∧lo≤b∧b < hi∧ms[k]?=some m∧w.cell? ⟨b,off+k * 4,none⟩=some (.int .i64 m.kind)∧w.cell? ⟨b,off+k * 4+1,none⟩=some (.int .i64 m.i)∧w.cell? ⟨b,off+k * 4+2,none⟩=some (.int .i64 m.j)∧w.cell? ⟨b,off+k * 4+3,none⟩=some (.int .i64 m.sign):=by
 obtain ⟨m,hm⟩:=get_of_lt ms hk;obtain ⟨g0,g1,g2,g3⟩:=mvsI_at hm;obtain ⟨b,off,x0,x1,x2,x3,hA,h1,h2,e0,e1,e2,e3,c0,c1,c2,c3⟩:=h.flat4 (mvsI_len ms) hk;rw [Nat.add_zero] at *;rw [e0] at g0;rw [e1] at g1;rw [e2] at g2;rw [e3] at g3;injection g0 with g0
 injection g1 with g1
 injection g2 with g2
 injection g3 with g3
 subst g0 g1 g2 g3;exact ⟨b,off,m,hA,h1,h2,hm,c0,c1,c2,c3⟩
theorem impl_FormatMoves (A:Option Addr) (ms:List Mv) (c:Nat) (w:World) (lo hi:Nat) (hr:RV w lo hi A (ints (mvsI ms))) (hl:ms.length≤1048576) (hok:∀ m∈ms,OkMv m) :
  Calls Tryz.prog 12 #[.slice A ms.length c] w fun e w'=>e=.returned (.string (str (fmtMs ms)))∧Mid 0 0 w w':=by
 have HOK:=Lib.hid hok;have O0:=owns_empty w 9 1;have hm0:=Mid.alloc w (.cells #[] 9);clear hok;go_enter Tryz.func12,Tryz.ntmps12
 go_wp2_with fail;generalize w.alloc (.cells #[] 9)=w1 at O0 hm0 ⊢;have HO0:Hid (w1.ownsRow w.heap.size 9 1 (.slice (some ⟨w.heap.size,0,none⟩) 0 0) 0 (strs ((ms.take 0).map itemMv))):=Lib.hid O0;have HT0:Hid (∀ x∈ms.take 0,okMv x):=Lib.hid (by simp);clear O0;generalize (some (⟨w.heap.size,0,none⟩:Addr))=A0 at HO0 ⊢;go_loopw [3,12] (fun ov kv wr=>∃ (k:Nat) (A1:Option Addr) (c1:Nat),kv=.int .i64 k∧ov=.slice A1 k c1∧k≤ms.length∧Hid (∀ x∈ms.take k,okMv x)∧Hid (wr.ownsRow w.heap.size 9 1 (.slice A1 k c1) k (strs ((ms.take k).map itemMv)))∧Mid 0 0 w wr) (fun _ kv _=>ms.length - (intOf kv).toNat)
 case atStart=>exact ⟨0,A0,0,rfl,rfl,Nat.zero_le _,HT0,HO0,hm0⟩
 case round =>
  clear HT0 HO0 hm0;obtain ⟨wo,hwo⟩:∃ wo,wo=wr:=⟨_,rfl⟩
  subst hwo;obtain ⟨k,A1,c1,rfl,rfl,hk,HT,HO,hm⟩:=hrel;by_cases hlt:k < ms.length
  ·obtain ⟨b,off,m,hA, -,hbh,hmk,e0,e1,e2,e3⟩:=(hr.mid hm oZl).mv hlt
   subst hA;have HM:=Lib.hid hmk;have hb1:b < wo.heap.size:=Nat.lt_of_lt_of_le hbh (Nat.le_trans hr.1 hm.size);have hk0:(0:Int)≤(k:Int):=by omega
   have hkn:(k:Int) < (ms.length:Int):=by omega
   have hom:=HOK.out m (List.mem_of_getElem? hmk);have B1:=Box.new wo #[.int .i64 m.kind,.int .i64 m.i,.int .i64 m.j,.int .i64 m.sign] 48;have hal:=Mid.alloc wo (.cells #[.int .i64 m.kind,.int .i64 m.i,.int .i64 m.j,.int .i64 m.sign] 48);have HO1:=Lib.hid (owns_mid HO.out hal oZl);have hm1:=hm.trans hal;obtain ⟨si,hsi⟩:∃ s,s=str (fmtI m.i):=⟨_,rfl⟩
   obtain ⟨sj,hsj⟩:∃ s,s=str (fmtI m.j):=⟨_,rfl⟩
   have hI:=fun W=>impl_FormatInt m.i W hom.1.1 hom.1.2;have hJ:=fun W=>impl_FormatInt m.j W hom.2.1 hom.2.2;rw [← hsi] at hI;rw [← hsj] at hJ;have hsz1:si.size≤21:=by rw [hsi,str_size];exact fmtI_len hom.1.1 hom.1.2
   have hsz2:sj.size≤21:=by rw [hsj,str_size];exact fmtI_len hom.2.1 hom.2.2
   have HSI:=Lib.hid hsi;have HSJ:=Lib.hid hsj;clear hmk hsi hsj HO hm;have q0:=B1.cell 0 rfl;have q1:=B1.cell 1 rfl;have q2:=B1.cell 2 rfl;have q3:=B1.cell 3 rfl;by_cases hsg:m.sign < 0
   ·skip
    have dsg:decide (m.sign < 0)=true:=by simpa using hsg
    go_wp2_with fail;generalize wo.alloc (.cells #[.int .i64 m.kind,.int .i64 m.i,.int .i64 m.j,.int .i64 m.sign] 48)=w2 at B1 HO1 hm1 q0 q1 q2 q3 hal ⊢;have hsb:wo.heap.size < w2.heap.size:=B1.1;have r0:=wg_cell hsb q0;have r1:=wg_cell hsb q1;have r2:=wg_cell hsb q2;have r3:=wg_cell hsb q3;refine wp_region_quiet_wg (by kernel_rfl) (by kernel_rfl) ?_;repeat
     (with_reducible refine wpQuiet_step (fun K hK=>?_))
     go_simp
     first
      | ((with_reducible refine hK _ ?_);clear hK K)
      | (rw [if_neg (by decide)];(with_reducible refine hK _ ?_);clear hK K)
      | (apply Exists.intro;refine ⟨fun _=>?_,hK _ ?_⟩;((go_at_call 98;first | with_reducible exact Calls.wg_of (hI _) | with_reducible exact Calls.wg_of (hJ _)));clear hK K)
    with_reducible refine wpQuiet_nil ?_
    intro _ hw';obtain ⟨⟨nq,osq⟩,hw''⟩:=hw';subst hw'';have hwg:=Mid.ofWg w2 nq osq;generalize wg w2 nq osq=w4 at hwg ⊢;have B2:=B1.mid hwg oZr;have HO2:=Lib.hid (owns_mid HO1.out hwg oZl);have hm2:=hm1.trans hwg;clear B1 HO1 hm1 hwg q0 q1 q2 q3 r0 r1 r2 r3 hI hJ hal e0 e1 e2 e3;have p0:=B2.cell 0 rfl;by_cases hk1:m.kind=1
    ·have hn2:¬ m.kind=2:=by omega
     have hn4:¬ m.kind=4:=by omega
     have hn3:¬ m.kind=3:=by omega
     have hokm:okMv m:=Or.inl hk1;have d1:(m.kind == 1)=true:=by rw [hk1];rfl
     have hcz0:(⟨#[105,110,118,101,114,116]⟩:ByteArray).size=6:=rfl;have hcz1:(⟨#[100,114,111,112]⟩:ByteArray).size=4:=rfl;have hcz2:(⟨#[42]⟩:ByteArray).size=1:=rfl;have hcz3:(⟨#[43]⟩:ByteArray).size=1:=rfl;have hcz4:(⟨#[45]⟩:ByteArray).size=1:=rfl;have hcz5:(⟨#[32]⟩:ByteArray).size=1:=rfl;have hz0:((⟨#[105,110,118,101,114,116]⟩:ByteArray)).size+si.size≤9223372036854775807:=by first | omega | (simp only [ByteArray.size_append];omega)
     have hit:itemMv m=[105,110,118,101,114,116]++fmtI m.i:=by
      unfold itemMv;rw [if_pos hk1]
     have HU:Hid ((⟨#[105,110,118,101,114,116]⟩:ByteArray)++si=str (itemMv m)):=Lib.hid (by
      rw [HSI.out,hit]
      show str ([105,110,118,101,114,116])++str (fmtI m.i)=_
      rw [str_app])
     clear hit;have HT2:=Lib.hid (take_ok HM.out HT.out hokm);clear hcz0 hcz1 hcz2 hcz3 hcz4 hcz5 hokm;go_wp2_with (at_builtin;refine MarkerS.to ?_)
     unfold MarkerS;refine wpList_pushStr rfl _ _ rfl w.heap.size A1 k c1 _ rfl HO2.out (itemMv m) _ HU.out rfl (by omega) hm2.size ?_;intro A3 c3 w3 ho3 hm3';have HO3:Hid (w3.ownsRow w.heap.size 9 1 (.slice A3 (k+1) c3) (k+1) (strs ((ms.take (k+1)).map itemMv))):=Lib.hid (by rw [map_take HM.out];exact ho3);have hm3:=hm2.transNew hm3' (Or.inl (Nat.le_refl _));clear ho3 hm3' HO2 hm2 HT HU B2 HSI HSJ;go_wp2_with fail;go_roundw
     case rel=>exact ⟨k+1,A3,c3,by go_num,rfl,by omega,HT2,HO3,hm3⟩
     case measure=>simp [intOf];omega
    have hn1:=hk1;by_cases hk4:m.kind=4
    ·skip
     have hokm:okMv m:=Or.inr (Or.inl hk4);have d1:(m.kind == 1)=false:=by simp [hn1]
     have d4:(m.kind == 4)=true:=by rw [hk4];rfl
     have hcz0:(⟨#[105,110,118,101,114,116]⟩:ByteArray).size=6:=rfl;have hcz1:(⟨#[100,114,111,112]⟩:ByteArray).size=4:=rfl;have hcz2:(⟨#[42]⟩:ByteArray).size=1:=rfl;have hcz3:(⟨#[43]⟩:ByteArray).size=1:=rfl;have hcz4:(⟨#[45]⟩:ByteArray).size=1:=rfl;have hcz5:(⟨#[32]⟩:ByteArray).size=1:=rfl;have hz0:((⟨#[100,114,111,112]⟩:ByteArray)).size+si.size≤9223372036854775807:=by first | omega | (simp only [ByteArray.size_append];omega)
     have hit:itemMv m=[100,114,111,112]++fmtI m.i:=by
      unfold itemMv;rw [if_neg hn1,if_pos hk4]
     have HU:Hid ((⟨#[100,114,111,112]⟩:ByteArray)++si=str (itemMv m)):=Lib.hid (by
      rw [HSI.out,hit]
      show str ([100,114,111,112])++str (fmtI m.i)=_
      rw [str_app])
     clear hit;have HT2:=Lib.hid (take_ok HM.out HT.out hokm);clear hcz0 hcz1 hcz2 hcz3 hcz4 hcz5 hokm;go_wp2_with (at_builtin;refine MarkerS.to ?_)
     unfold MarkerS;refine wpList_pushStr rfl _ _ rfl w.heap.size A1 k c1 _ rfl HO2.out (itemMv m) _ HU.out rfl (by omega) hm2.size ?_;intro A3 c3 w3 ho3 hm3';have HO3:Hid (w3.ownsRow w.heap.size 9 1 (.slice A3 (k+1) c3) (k+1) (strs ((ms.take (k+1)).map itemMv))):=Lib.hid (by rw [map_take HM.out];exact ho3);have hm3:=hm2.transNew hm3' (Or.inl (Nat.le_refl _));clear ho3 hm3' HO2 hm2 HT HU B2 HSI HSJ;go_wp2_with fail;go_roundw
     case rel=>exact ⟨k+1,A3,c3,by go_num,rfl,by omega,HT2,HO3,hm3⟩
     case measure=>simp [intOf];omega
    have hn4:=hk4;by_cases hk2:m.kind=2
    ·skip
     have hokm:okMv m:=Or.inr (Or.inr (Or.inl hk2));have d1:(m.kind == 1)=false:=by simp [hn1]
     have d4:(m.kind == 4)=false:=by simp [hn4]
     have d2:(m.kind == 2)=true:=by rw [hk2];rfl
     have hcz0:(⟨#[105,110,118,101,114,116]⟩:ByteArray).size=6:=rfl;have hcz1:(⟨#[100,114,111,112]⟩:ByteArray).size=4:=rfl;have hcz2:(⟨#[42]⟩:ByteArray).size=1:=rfl;have hcz3:(⟨#[43]⟩:ByteArray).size=1:=rfl;have hcz4:(⟨#[45]⟩:ByteArray).size=1:=rfl;have hcz5:(⟨#[32]⟩:ByteArray).size=1:=rfl;have hz0:(si).size+(⟨#[42]⟩:ByteArray).size≤9223372036854775807:=by first | omega | (simp only [ByteArray.size_append];omega)
     have hz1:(si++(⟨#[42]⟩:ByteArray)).size+(⟨#[45]⟩:ByteArray).size≤9223372036854775807:=by first | omega | (simp only [ByteArray.size_append];omega)
     have hz2:(si++(⟨#[42]⟩:ByteArray)++(⟨#[45]⟩:ByteArray)).size+sj.size≤9223372036854775807:=by first | omega | (simp only [ByteArray.size_append];omega)
     have hit:itemMv m=fmtI m.i++[42]++[45]++fmtI m.j:=by
      unfold itemMv;rw [if_neg hn1,if_neg hn4,if_pos hk2,sgB,if_pos hsg]
     have HU:Hid (si++(⟨#[42]⟩:ByteArray)++(⟨#[45]⟩:ByteArray)++sj=str (itemMv m)):=Lib.hid (by
      rw [HSI.out,HSJ.out,hit]
      show str (fmtI m.i)++str ([42])++str ([45])++str (fmtI m.j)=_
      rw [str_app,str_app,str_app])
     clear hit;have HT2:=Lib.hid (take_ok HM.out HT.out hokm);clear hcz0 hcz1 hcz2 hcz3 hcz4 hcz5 hokm;go_wp2_with (at_builtin;refine MarkerS.to ?_)
     unfold MarkerS;refine wpList_pushStr rfl _ _ rfl w.heap.size A1 k c1 _ rfl HO2.out (itemMv m) _ HU.out rfl (by omega) hm2.size ?_;intro A3 c3 w3 ho3 hm3';have HO3:Hid (w3.ownsRow w.heap.size 9 1 (.slice A3 (k+1) c3) (k+1) (strs ((ms.take (k+1)).map itemMv))):=Lib.hid (by rw [map_take HM.out];exact ho3);have hm3:=hm2.transNew hm3' (Or.inl (Nat.le_refl _));clear ho3 hm3' HO2 hm2 HT HU B2 HSI HSJ;go_wp2_with fail;go_roundw
     case rel=>exact ⟨k+1,A3,c3,by go_num,rfl,by omega,HT2,HO3,hm3⟩
     case measure=>simp [intOf];omega
    have hn2:=hk2;by_cases hk3:m.kind=3
    ·skip
     have hokm:okMv m:=Or.inr (Or.inr (Or.inr hk3));have d1:(m.kind == 1)=false:=by simp [hn1]
     have d4:(m.kind == 4)=false:=by simp [hn4]
     have d2:(m.kind == 2)=false:=by simp [hn2]
     have d3:(m.kind == 3)=true:=by rw [hk3];rfl
     have hcz0:(⟨#[105,110,118,101,114,116]⟩:ByteArray).size=6:=rfl;have hcz1:(⟨#[100,114,111,112]⟩:ByteArray).size=4:=rfl;have hcz2:(⟨#[42]⟩:ByteArray).size=1:=rfl;have hcz3:(⟨#[43]⟩:ByteArray).size=1:=rfl;have hcz4:(⟨#[45]⟩:ByteArray).size=1:=rfl;have hcz5:(⟨#[32]⟩:ByteArray).size=1:=rfl;have hz0:((⟨#[45]⟩:ByteArray)).size+sj.size≤9223372036854775807:=by first | omega | (simp only [ByteArray.size_append];omega)
     have hz1:((⟨#[45]⟩:ByteArray)++sj).size+(⟨#[42]⟩:ByteArray).size≤9223372036854775807:=by first | omega | (simp only [ByteArray.size_append];omega)
     have hz2:((⟨#[45]⟩:ByteArray)++sj++(⟨#[42]⟩:ByteArray)).size+si.size≤9223372036854775807:=by first | omega | (simp only [ByteArray.size_append];omega)
     have hit:itemMv m=[45]++fmtI m.j++[42]++fmtI m.i:=by
      unfold itemMv;rw [if_neg hn1,if_neg hn4,if_neg hn2,sgB,if_pos hsg]
     have HU:Hid ((⟨#[45]⟩:ByteArray)++sj++(⟨#[42]⟩:ByteArray)++si=str (itemMv m)):=Lib.hid (by
      rw [HSI.out,HSJ.out,hit]
      show str ([45])++str (fmtI m.j)++str ([42])++str (fmtI m.i)=_
      rw [str_app,str_app,str_app])
     clear hit;have HT2:=Lib.hid (take_ok HM.out HT.out hokm);clear hcz0 hcz1 hcz2 hcz3 hcz4 hcz5 hokm;go_wp2_with (at_builtin;refine MarkerS.to ?_)
     unfold MarkerS;refine wpList_pushStr rfl _ _ rfl w.heap.size A1 k c1 _ rfl HO2.out (itemMv m) _ HU.out rfl (by omega) hm2.size ?_;intro A3 c3 w3 ho3 hm3';have HO3:Hid (w3.ownsRow w.heap.size 9 1 (.slice A3 (k+1) c3) (k+1) (strs ((ms.take (k+1)).map itemMv))):=Lib.hid (by rw [map_take HM.out];exact ho3);have hm3:=hm2.transNew hm3' (Or.inl (Nat.le_refl _));clear ho3 hm3' HO2 hm2 HT HU B2 HSI HSJ;go_wp2_with fail;go_roundw
     case rel=>exact ⟨k+1,A3,c3,by go_num,rfl,by omega,HT2,HO3,hm3⟩
     case measure=>simp [intOf];omega
    have hn3:=hk3;have hres:=fmtMs_no HM.out (fun h=>by unfold okMv at h;omega);have HRES:=Lib.hid hres;have d1:(m.kind == 1)=false:=by simp [hn1]
    have d4:(m.kind == 4)=false:=by simp [hn4]
    have d2:(m.kind == 2)=false:=by simp [hn2]
    have d3:(m.kind == 3)=false:=by simp [hn3]
    clear hres;go_wp2_with fail;go_ret;exact ⟨by rw [HRES.out];rfl,hm2⟩
   ·skip
    have dsg:decide (m.sign < 0)=false:=by simpa using hsg
    go_wp2_with fail;generalize wo.alloc (.cells #[.int .i64 m.kind,.int .i64 m.i,.int .i64 m.j,.int .i64 m.sign] 48)=w2 at B1 HO1 hm1 q0 q1 q2 q3 hal ⊢;have hsb:wo.heap.size < w2.heap.size:=B1.1;have r0:=wg_cell hsb q0;have r1:=wg_cell hsb q1;have r2:=wg_cell hsb q2;have r3:=wg_cell hsb q3;refine wp_region_quiet_wg (by kernel_rfl) (by kernel_rfl) ?_;repeat
     (with_reducible refine wpQuiet_step (fun K hK=>?_))
     go_simp
     first
      | ((with_reducible refine hK _ ?_);clear hK K)
      | (rw [if_neg (by decide)];(with_reducible refine hK _ ?_);clear hK K)
      | (apply Exists.intro;refine ⟨fun _=>?_,hK _ ?_⟩;((go_at_call 98;first | with_reducible exact Calls.wg_of (hI _) | with_reducible exact Calls.wg_of (hJ _)));clear hK K)
    with_reducible refine wpQuiet_nil ?_
    intro _ hw';obtain ⟨⟨nq,osq⟩,hw''⟩:=hw';subst hw'';have hwg:=Mid.ofWg w2 nq osq;generalize wg w2 nq osq=w4 at hwg ⊢;have B2:=B1.mid hwg oZr;have HO2:=Lib.hid (owns_mid HO1.out hwg oZl);have hm2:=hm1.trans hwg;clear B1 HO1 hm1 hwg q0 q1 q2 q3 r0 r1 r2 r3 hI hJ hal e0 e1 e2 e3;have p0:=B2.cell 0 rfl;by_cases hk1:m.kind=1
    ·have hn2:¬ m.kind=2:=by omega
     have hn4:¬ m.kind=4:=by omega
     have hn3:¬ m.kind=3:=by omega
     have hokm:okMv m:=Or.inl hk1;have d1:(m.kind == 1)=true:=by rw [hk1];rfl
     have hcz0:(⟨#[105,110,118,101,114,116]⟩:ByteArray).size=6:=rfl;have hcz1:(⟨#[100,114,111,112]⟩:ByteArray).size=4:=rfl;have hcz2:(⟨#[42]⟩:ByteArray).size=1:=rfl;have hcz3:(⟨#[43]⟩:ByteArray).size=1:=rfl;have hcz4:(⟨#[45]⟩:ByteArray).size=1:=rfl;have hcz5:(⟨#[32]⟩:ByteArray).size=1:=rfl;have hz0:((⟨#[105,110,118,101,114,116]⟩:ByteArray)).size+si.size≤9223372036854775807:=by first | omega | (simp only [ByteArray.size_append];omega)
     have hit:itemMv m=[105,110,118,101,114,116]++fmtI m.i:=by
      unfold itemMv;rw [if_pos hk1]
     have HU:Hid ((⟨#[105,110,118,101,114,116]⟩:ByteArray)++si=str (itemMv m)):=Lib.hid (by
      rw [HSI.out,hit]
      show str ([105,110,118,101,114,116])++str (fmtI m.i)=_
      rw [str_app])
     clear hit;have HT2:=Lib.hid (take_ok HM.out HT.out hokm);clear hcz0 hcz1 hcz2 hcz3 hcz4 hcz5 hokm;go_wp2_with (at_builtin;refine MarkerS.to ?_)
     unfold MarkerS;refine wpList_pushStr rfl _ _ rfl w.heap.size A1 k c1 _ rfl HO2.out (itemMv m) _ HU.out rfl (by omega) hm2.size ?_;intro A3 c3 w3 ho3 hm3';have HO3:Hid (w3.ownsRow w.heap.size 9 1 (.slice A3 (k+1) c3) (k+1) (strs ((ms.take (k+1)).map itemMv))):=Lib.hid (by rw [map_take HM.out];exact ho3);have hm3:=hm2.transNew hm3' (Or.inl (Nat.le_refl _));clear ho3 hm3' HO2 hm2 HT HU B2 HSI HSJ;go_wp2_with fail;go_roundw
     case rel=>exact ⟨k+1,A3,c3,by go_num,rfl,by omega,HT2,HO3,hm3⟩
     case measure=>simp [intOf];omega
    have hn1:=hk1;by_cases hk4:m.kind=4
    ·skip
     have hokm:okMv m:=Or.inr (Or.inl hk4);have d1:(m.kind == 1)=false:=by simp [hn1]
     have d4:(m.kind == 4)=true:=by rw [hk4];rfl
     have hcz0:(⟨#[105,110,118,101,114,116]⟩:ByteArray).size=6:=rfl;have hcz1:(⟨#[100,114,111,112]⟩:ByteArray).size=4:=rfl;have hcz2:(⟨#[42]⟩:ByteArray).size=1:=rfl;have hcz3:(⟨#[43]⟩:ByteArray).size=1:=rfl;have hcz4:(⟨#[45]⟩:ByteArray).size=1:=rfl;have hcz5:(⟨#[32]⟩:ByteArray).size=1:=rfl;have hz0:((⟨#[100,114,111,112]⟩:ByteArray)).size+si.size≤9223372036854775807:=by first | omega | (simp only [ByteArray.size_append];omega)
     have hit:itemMv m=[100,114,111,112]++fmtI m.i:=by
      unfold itemMv;rw [if_neg hn1,if_pos hk4]
     have HU:Hid ((⟨#[100,114,111,112]⟩:ByteArray)++si=str (itemMv m)):=Lib.hid (by
      rw [HSI.out,hit]
      show str ([100,114,111,112])++str (fmtI m.i)=_
      rw [str_app])
     clear hit;have HT2:=Lib.hid (take_ok HM.out HT.out hokm);clear hcz0 hcz1 hcz2 hcz3 hcz4 hcz5 hokm;go_wp2_with (at_builtin;refine MarkerS.to ?_)
     unfold MarkerS;refine wpList_pushStr rfl _ _ rfl w.heap.size A1 k c1 _ rfl HO2.out (itemMv m) _ HU.out rfl (by omega) hm2.size ?_;intro A3 c3 w3 ho3 hm3';have HO3:Hid (w3.ownsRow w.heap.size 9 1 (.slice A3 (k+1) c3) (k+1) (strs ((ms.take (k+1)).map itemMv))):=Lib.hid (by rw [map_take HM.out];exact ho3);have hm3:=hm2.transNew hm3' (Or.inl (Nat.le_refl _));clear ho3 hm3' HO2 hm2 HT HU B2 HSI HSJ;go_wp2_with fail;go_roundw
     case rel=>exact ⟨k+1,A3,c3,by go_num,rfl,by omega,HT2,HO3,hm3⟩
     case measure=>simp [intOf];omega
    have hn4:=hk4;by_cases hk2:m.kind=2
    ·skip
     have hokm:okMv m:=Or.inr (Or.inr (Or.inl hk2));have d1:(m.kind == 1)=false:=by simp [hn1]
     have d4:(m.kind == 4)=false:=by simp [hn4]
     have d2:(m.kind == 2)=true:=by rw [hk2];rfl
     have hcz0:(⟨#[105,110,118,101,114,116]⟩:ByteArray).size=6:=rfl;have hcz1:(⟨#[100,114,111,112]⟩:ByteArray).size=4:=rfl;have hcz2:(⟨#[42]⟩:ByteArray).size=1:=rfl;have hcz3:(⟨#[43]⟩:ByteArray).size=1:=rfl;have hcz4:(⟨#[45]⟩:ByteArray).size=1:=rfl;have hcz5:(⟨#[32]⟩:ByteArray).size=1:=rfl;have hz0:(si).size+(⟨#[42]⟩:ByteArray).size≤9223372036854775807:=by first | omega | (simp only [ByteArray.size_append];omega)
     have hz1:(si++(⟨#[42]⟩:ByteArray)).size+(⟨#[43]⟩:ByteArray).size≤9223372036854775807:=by first | omega | (simp only [ByteArray.size_append];omega)
     have hz2:(si++(⟨#[42]⟩:ByteArray)++(⟨#[43]⟩:ByteArray)).size+sj.size≤9223372036854775807:=by first | omega | (simp only [ByteArray.size_append];omega)
     have hit:itemMv m=fmtI m.i++[42]++[43]++fmtI m.j:=by
      unfold itemMv;rw [if_neg hn1,if_neg hn4,if_pos hk2,sgB,if_neg (show ¬ m.sign < 0 by omega)]
     have HU:Hid (si++(⟨#[42]⟩:ByteArray)++(⟨#[43]⟩:ByteArray)++sj=str (itemMv m)):=Lib.hid (by
      rw [HSI.out,HSJ.out,hit]
      show str (fmtI m.i)++str ([42])++str ([43])++str (fmtI m.j)=_
      rw [str_app,str_app,str_app])
     clear hit;have HT2:=Lib.hid (take_ok HM.out HT.out hokm);clear hcz0 hcz1 hcz2 hcz3 hcz4 hcz5 hokm;go_wp2_with (at_builtin;refine MarkerS.to ?_)
     unfold MarkerS;refine wpList_pushStr rfl _ _ rfl w.heap.size A1 k c1 _ rfl HO2.out (itemMv m) _ HU.out rfl (by omega) hm2.size ?_;intro A3 c3 w3 ho3 hm3';have HO3:Hid (w3.ownsRow w.heap.size 9 1 (.slice A3 (k+1) c3) (k+1) (strs ((ms.take (k+1)).map itemMv))):=Lib.hid (by rw [map_take HM.out];exact ho3);have hm3:=hm2.transNew hm3' (Or.inl (Nat.le_refl _));clear ho3 hm3' HO2 hm2 HT HU B2 HSI HSJ;go_wp2_with fail;go_roundw
     case rel=>exact ⟨k+1,A3,c3,by go_num,rfl,by omega,HT2,HO3,hm3⟩
     case measure=>simp [intOf];omega
    have hn2:=hk2;by_cases hk3:m.kind=3
    ·skip
     have hokm:okMv m:=Or.inr (Or.inr (Or.inr hk3));have d1:(m.kind == 1)=false:=by simp [hn1]
     have d4:(m.kind == 4)=false:=by simp [hn4]
     have d2:(m.kind == 2)=false:=by simp [hn2]
     have d3:(m.kind == 3)=true:=by rw [hk3];rfl
     have hcz0:(⟨#[105,110,118,101,114,116]⟩:ByteArray).size=6:=rfl;have hcz1:(⟨#[100,114,111,112]⟩:ByteArray).size=4:=rfl;have hcz2:(⟨#[42]⟩:ByteArray).size=1:=rfl;have hcz3:(⟨#[43]⟩:ByteArray).size=1:=rfl;have hcz4:(⟨#[45]⟩:ByteArray).size=1:=rfl;have hcz5:(⟨#[32]⟩:ByteArray).size=1:=rfl;have hz0:((⟨#[43]⟩:ByteArray)).size+sj.size≤9223372036854775807:=by first | omega | (simp only [ByteArray.size_append];omega)
     have hz1:((⟨#[43]⟩:ByteArray)++sj).size+(⟨#[42]⟩:ByteArray).size≤9223372036854775807:=by first | omega | (simp only [ByteArray.size_append];omega)
     have hz2:((⟨#[43]⟩:ByteArray)++sj++(⟨#[42]⟩:ByteArray)).size+si.size≤9223372036854775807:=by first | omega | (simp only [ByteArray.size_append];omega)
     have hit:itemMv m=[43]++fmtI m.j++[42]++fmtI m.i:=by
      unfold itemMv;rw [if_neg hn1,if_neg hn4,if_neg hn2,sgB,if_neg (show ¬ m.sign < 0 by omega)]
     have HU:Hid ((⟨#[43]⟩:ByteArray)++sj++(⟨#[42]⟩:ByteArray)++si=str (itemMv m)):=Lib.hid (by
      rw [HSI.out,HSJ.out,hit]
      show str ([43])++str (fmtI m.j)++str ([42])++str (fmtI m.i)=_
      rw [str_app,str_app,str_app])
     clear hit;have HT2:=Lib.hid (take_ok HM.out HT.out hokm);clear hcz0 hcz1 hcz2 hcz3 hcz4 hcz5 hokm;go_wp2_with (at_builtin;refine MarkerS.to ?_)
     unfold MarkerS;refine wpList_pushStr rfl _ _ rfl w.heap.size A1 k c1 _ rfl HO2.out (itemMv m) _ HU.out rfl (by omega) hm2.size ?_;intro A3 c3 w3 ho3 hm3';have HO3:Hid (w3.ownsRow w.heap.size 9 1 (.slice A3 (k+1) c3) (k+1) (strs ((ms.take (k+1)).map itemMv))):=Lib.hid (by rw [map_take HM.out];exact ho3);have hm3:=hm2.transNew hm3' (Or.inl (Nat.le_refl _));clear ho3 hm3' HO2 hm2 HT HU B2 HSI HSJ;go_wp2_with fail;go_roundw
     case rel=>exact ⟨k+1,A3,c3,by go_num,rfl,by omega,HT2,HO3,hm3⟩
     case measure=>simp [intOf];omega
    have hn3:=hk3;have hres:=fmtMs_no HM.out (fun h=>by unfold okMv at h;omega);have HRES:=Lib.hid hres;have d1:(m.kind == 1)=false:=by simp [hn1]
    have d4:(m.kind == 4)=false:=by simp [hn4]
    have d2:(m.kind == 2)=false:=by simp [hn2]
    have d3:(m.kind == 3)=false:=by simp [hn3]
    clear hres;go_wp2_with fail;go_ret;exact ⟨by rw [HRES.out];rfl,hm2⟩
  ·obtain rfl:k=ms.length:=by omega
   have htk:ms.take ms.length=ms:=List.take_length;have hall:∀ x∈ms,okMv x:=by have h:=HT.out;rw [htk] at h;exact h
   have HRES:=Lib.hid (fmtMs_yes hall);have ho:=HO.out;rw [htk] at ho;have hll:(ms.map itemMv).length=ms.length:=List.length_map ..;obtain ⟨L,hL⟩:∃ L,ms.map itemMv=L:=⟨_,rfl⟩
   rw [hL] at ho hll;have hbd:∀ x∈L,x.length≤1000:=by
    intro x hx;rw [← hL] at hx;obtain ⟨m,hm,rfl⟩:=List.mem_map.1 hx;have:=itemMv_len (HOK.out m hm);omega
   have hG:=fun W h=>impl_glued A1 L c1 [32] [110,111,110,101] W w.heap.size wo.heap.size h (by omega) (by rw [hll];exact owns_cap ho) hbd (by simp);rw [hll] at hG;have hrv:=OV.rv (⟨Nat.le_refl _,ho,fun g hg=>(ho.lt g hg).2⟩:OV wo w.heap.size wo.heap.size 9 1 A1 c1 ms.length (strs L));have HL:=Lib.hid hL;clear hall htk HT HO ho hll hL;go_wp2_with fail;with_reducible refine (hG _ hrv).mono ?_
   rintro en w5 ⟨rfl,hm5⟩;go_wp2_with fail;go_ret;exact ⟨by rw [HRES.out,HL.out];rfl,hm.trans hm5⟩
end
section
open Go.RowKit
theorem spec_FormatMoves (A:Option Addr) (ms:List Mv) (c:Nat) (w:World) (lo hi:Nat) (hr:RV w lo hi A (ints (mvsI ms))) (hl:ms.length≤1048576) (hok:∀ m∈ms,OkMv m) :
  Calls Tryz.prog 13 #[.slice A ms.length c] w fun e w'=>e=.returned (.string (str (fmtMs ms)))∧Mid 0 0 w w':=by
 have HOK:=Lib.hid hok;clear hok;have HS0:Hid ((⟨#[]⟩:ByteArray)=str (accB [32] ((ms.take 0).map itemMv))):=Lib.hid rfl;have HT0:Hid (∀ x∈ms.take 0,okMv x):=Lib.hid (by simp);go_enter Tryz.func13,Tryz.ntmps13
 go_wp2_with fail;go_loopw [3,4] (fun sv kv wr=>∃ (k:Nat) (s:ByteArray),kv=.int .i64 k∧sv=.string s∧k≤ms.length∧Hid (∀ x∈ms.take k,okMv x)∧Hid (s=str (accB [32] ((ms.take k).map itemMv)))∧Mid 0 0 w wr) (fun _ kv _=>ms.length - (intOf kv).toNat)
 case atStart=>exact ⟨0,⟨#[]⟩,rfl,rfl,Nat.zero_le _,HT0,HS0,Mid.refl _ _ _⟩
 case round =>
  clear HT0 HS0;obtain ⟨wo,hwo⟩:∃ wo,wo=wr:=⟨_,rfl⟩
  subst hwo;obtain ⟨k,s,rfl,rfl,hk,HT,HS,hm⟩:=hrel;have hss:s.size≤1048576 * 46:=by
   rw [HS.out,str_size];have h1:=accB_len [32] 45 ((ms.take k).map itemMv) fun y hy=>by
    obtain ⟨m,hm,rfl⟩:=List.mem_map.1 hy;exact itemMv_len (HOK.out m (List.mem_of_mem_take hm))
   rw [List.length_map] at h1;have h2:(ms.take k).length≤1048576:=by rw [List.length_take];omega
   have h3:(ms.take k).length * (45+[(32:UInt8)].length)≤1048576 * 46:=Nat.mul_le_mul h2 (Nat.le_refl _);omega
  by_cases hlt:k < ms.length
  ·obtain ⟨b,off,m,hA, -,hbh,hmk,e0,e1,e2,e3⟩:=(hr.mid hm oZl).mv hlt
   subst hA;have HM:=Lib.hid hmk;have hb1:b < wo.heap.size:=Nat.lt_of_lt_of_le hbh (Nat.le_trans hr.1 hm.size);have hk0:(0:Int)≤(k:Int):=by omega
   have hkn:(k:Int) < (ms.length:Int):=by omega
   have hom:=HOK.out m (List.mem_of_getElem? hmk);obtain ⟨si,hsi⟩:∃ s,s=str (fmtI m.i):=⟨_,rfl⟩
   obtain ⟨sj,hsj⟩:∃ s,s=str (fmtI m.j):=⟨_,rfl⟩
   have hI:=fun W=>spec_FormatInt m.i W hom.1.1 hom.1.2;have hJ:=fun W=>spec_FormatInt m.j W hom.2.1 hom.2.2;rw [← hsi] at hI;rw [← hsj] at hJ;have hsz1:si.size≤21:=by rw [hsi,str_size];exact fmtI_len hom.1.1 hom.1.2
   have hsz2:sj.size≤21:=by rw [hsj,str_size];exact fmtI_len hom.2.1 hom.2.2
   have HSI:=Lib.hid hsi;have HSJ:=Lib.hid hsj;obtain ⟨pre,hpre⟩:∃ pre:List UInt8,pre=if k=0 then [] else accB [32] ((ms.take k).map itemMv)++[32]:=⟨_,rfl⟩
   have hacc:accB [32] ((ms.take (k+1)).map itemMv)=pre++itemMv m:=by
    rw [map_take hmk,accB_snoc,hpre];by_cases h0:k=0
    ·subst h0
     simp
    ·rw [if_neg h0,if_neg]
     intro h;have:=congrArg List.length h;rw [List.length_map,List.length_take,List.length_nil] at this;omega
   have HACC:=Lib.hid hacc;clear hmk hsi hsj hacc;by_cases hz:k=0
   ·have HS1:Hid (s=str pre):=Lib.hid (by rw [HS.out,hpre,if_pos hz];subst hz;rfl)
    have dk:decide ((0:Int) < (k:Int))=false:=by simp;omega
    have hng:¬ (0:Int) < (k:Int):=by omega
    clear hpre hz;by_cases hsg:m.sign < 0
    ·skip
     have dsg:decide (m.sign < 0)=true:=by simpa using hsg
     by_cases hk1:m.kind=1
     ·skip
      have hokm:okMv m:=Or.inl hk1;have d1:(m.kind == 1)=true:=by rw [hk1];rfl
      have hcz0:(⟨#[105,110,118,101,114,116]⟩:ByteArray).size=6:=rfl;have hcz1:(⟨#[100,114,111,112]⟩:ByteArray).size=4:=rfl;have hcz2:(⟨#[42]⟩:ByteArray).size=1:=rfl;have hcz3:(⟨#[43]⟩:ByteArray).size=1:=rfl;have hcz4:(⟨#[45]⟩:ByteArray).size=1:=rfl;have hcz5:(⟨#[32]⟩:ByteArray).size=1:=rfl;have hz0:(s).size+(⟨#[105,110,118,101,114,116]⟩:ByteArray).size≤9223372036854775807:=by first | omega | (simp only [ByteArray.size_append];omega)
      have hz1:(s++(⟨#[105,110,118,101,114,116]⟩:ByteArray)).size+si.size≤9223372036854775807:=by first | omega | (simp only [ByteArray.size_append];omega)
      have hit:itemMv m=[105,110,118,101,114,116]++fmtI m.i:=by
       unfold itemMv;rw [if_pos hk1]
      have HU:Hid (s++(⟨#[105,110,118,101,114,116]⟩:ByteArray)++si=str (accB [32] ((ms.take (k+1)).map itemMv))):=Lib.hid (by
       rw [HACC.out,hit,HS1.out,HSI.out]
       show str pre++str ([105,110,118,101,114,116])++str (fmtI m.i)=_
       simp only [str_app,List.append_assoc])
      clear hit;have HT2:=Lib.hid (take_ok HM.out HT.out hokm);clear hokm HT HACC HSI HSJ;go_wp2_with fail;with_reducible refine (hI _).mono ?_
      rintro en w4 ⟨rfl,hm4⟩;have hm5:=hm.trans hm4;clear hm hm4;go_wp2_with fail;go_roundw
      case rel=>exact ⟨k+1,s++(⟨#[105,110,118,101,114,116]⟩:ByteArray)++si,by go_num,rfl,by omega,HT2,HU,hm5⟩
      case measure=>simp [intOf];omega
     have hn1:=hk1;by_cases hk2:m.kind=2
     ·skip
      have hokm:okMv m:=Or.inr (Or.inr (Or.inl hk2));have d1:(m.kind == 1)=false:=by simp [hn1]
      have d2:(m.kind == 2)=true:=by rw [hk2];rfl
      have hcz0:(⟨#[105,110,118,101,114,116]⟩:ByteArray).size=6:=rfl;have hcz1:(⟨#[100,114,111,112]⟩:ByteArray).size=4:=rfl;have hcz2:(⟨#[42]⟩:ByteArray).size=1:=rfl;have hcz3:(⟨#[43]⟩:ByteArray).size=1:=rfl;have hcz4:(⟨#[45]⟩:ByteArray).size=1:=rfl;have hcz5:(⟨#[32]⟩:ByteArray).size=1:=rfl;have hz0:(s).size+si.size≤9223372036854775807:=by first | omega | (simp only [ByteArray.size_append];omega)
      have hz1:(s++si).size+(⟨#[42]⟩:ByteArray).size≤9223372036854775807:=by first | omega | (simp only [ByteArray.size_append];omega)
      have hz2:(s++si++(⟨#[42]⟩:ByteArray)).size+(⟨#[45]⟩:ByteArray).size≤9223372036854775807:=by first | omega | (simp only [ByteArray.size_append];omega)
      have hz3:(s++si++(⟨#[42]⟩:ByteArray)++(⟨#[45]⟩:ByteArray)).size+sj.size≤9223372036854775807:=by first | omega | (simp only [ByteArray.size_append];omega)
      have hit:itemMv m=fmtI m.i++[42]++[45]++fmtI m.j:=by
       unfold itemMv;rw [if_neg hn1,if_neg (show ¬ m.kind=4 by omega),if_pos hk2,sgB,if_pos hsg]
      have HU:Hid (s++si++(⟨#[42]⟩:ByteArray)++(⟨#[45]⟩:ByteArray)++sj=str (accB [32] ((ms.take (k+1)).map itemMv))):=Lib.hid (by
       rw [HACC.out,hit,HS1.out,HSI.out,HSJ.out]
       show str pre++str (fmtI m.i)++str ([42])++str ([45])++str (fmtI m.j)=_
       simp only [str_app,List.append_assoc])
      clear hit;have HT2:=Lib.hid (take_ok HM.out HT.out hokm);clear hokm HT HACC HSI HSJ;have r1:=wg_cell hb1 e1;have r2:=wg_cell hb1 e2;go_wp2_with fail;refine wp_region_quiet_wg (by kernel_rfl) (by kernel_rfl) ?_;repeat
       (with_reducible refine wpQuiet_step (fun K hK=>?_))
       go_simp
       first
        | ((with_reducible refine hK _ ?_);clear hK K)
        | (rw [if_neg (by decide)];(with_reducible refine hK _ ?_);clear hK K)
        | (apply Exists.intro;refine ⟨fun _=>?_,hK _ ?_⟩;(rw [if_neg (by omega)];exact ⟨rfl,rfl⟩);clear hK K)
        | (apply Exists.intro;refine ⟨fun _=>?_,hK _ ?_⟩;((go_at_call 100;first | with_reducible exact Calls.wg_of (hI _) | with_reducible exact Calls.wg_of (hJ _)));clear hK K)
      with_reducible refine wpQuiet_nil ?_
      intro _ hw';obtain ⟨⟨nq,osq⟩,hw''⟩:=hw';subst hw'';have hwg:=Mid.ofWg wo nq osq;generalize wg wo nq osq=w4 at hwg ⊢;have hm5:=hm.trans hwg;clear hwg r1 r2 hm;go_wp2_with fail;go_roundw
      case rel=>exact ⟨k+1,s++si++(⟨#[42]⟩:ByteArray)++(⟨#[45]⟩:ByteArray)++sj,by go_num,rfl,by omega,HT2,HU,hm5⟩
      case measure=>simp [intOf];omega
     have hn2:=hk2;by_cases hk3:m.kind=3
     ·skip
      have hokm:okMv m:=Or.inr (Or.inr (Or.inr hk3));have d1:(m.kind == 1)=false:=by simp [hn1]
      have d2:(m.kind == 2)=false:=by simp [hn2]
      have d3:(m.kind == 3)=true:=by rw [hk3];rfl
      have hcz0:(⟨#[105,110,118,101,114,116]⟩:ByteArray).size=6:=rfl;have hcz1:(⟨#[100,114,111,112]⟩:ByteArray).size=4:=rfl;have hcz2:(⟨#[42]⟩:ByteArray).size=1:=rfl;have hcz3:(⟨#[43]⟩:ByteArray).size=1:=rfl;have hcz4:(⟨#[45]⟩:ByteArray).size=1:=rfl;have hcz5:(⟨#[32]⟩:ByteArray).size=1:=rfl;have hz0:(s).size+(⟨#[45]⟩:ByteArray).size≤9223372036854775807:=by first | omega | (simp only [ByteArray.size_append];omega)
      have hz1:(s++(⟨#[45]⟩:ByteArray)).size+sj.size≤9223372036854775807:=by first | omega | (simp only [ByteArray.size_append];omega)
      have hz2:(s++(⟨#[45]⟩:ByteArray)++sj).size+(⟨#[42]⟩:ByteArray).size≤9223372036854775807:=by first | omega | (simp only [ByteArray.size_append];omega)
      have hz3:(s++(⟨#[45]⟩:ByteArray)++sj++(⟨#[42]⟩:ByteArray)).size+si.size≤9223372036854775807:=by first | omega | (simp only [ByteArray.size_append];omega)
      have hit:itemMv m=[45]++fmtI m.j++[42]++fmtI m.i:=by
       unfold itemMv;rw [if_neg hn1,if_neg (show ¬ m.kind=4 by omega),if_neg hn2,sgB,if_pos hsg]
      have HU:Hid (s++(⟨#[45]⟩:ByteArray)++sj++(⟨#[42]⟩:ByteArray)++si=str (accB [32] ((ms.take (k+1)).map itemMv))):=Lib.hid (by
       rw [HACC.out,hit,HS1.out,HSI.out,HSJ.out]
       show str pre++str ([45])++str (fmtI m.j)++str ([42])++str (fmtI m.i)=_
       simp only [str_app,List.append_assoc])
      clear hit;have HT2:=Lib.hid (take_ok HM.out HT.out hokm);clear hokm HT HACC HSI HSJ;have r1:=wg_cell hb1 e1;have r2:=wg_cell hb1 e2;go_wp2_with fail;refine wp_region_quiet_wg (by kernel_rfl) (by kernel_rfl) ?_;repeat
       (with_reducible refine wpQuiet_step (fun K hK=>?_))
       go_simp
       first
        | ((with_reducible refine hK _ ?_);clear hK K)
        | (rw [if_neg (by decide)];(with_reducible refine hK _ ?_);clear hK K)
        | (apply Exists.intro;refine ⟨fun _=>?_,hK _ ?_⟩;(rw [if_neg (by omega)];exact ⟨rfl,rfl⟩);clear hK K)
        | (apply Exists.intro;refine ⟨fun _=>?_,hK _ ?_⟩;((go_at_call 100;first | with_reducible exact Calls.wg_of (hI _) | with_reducible exact Calls.wg_of (hJ _)));clear hK K)
      with_reducible refine wpQuiet_nil ?_
      intro _ hw';obtain ⟨⟨nq,osq⟩,hw''⟩:=hw';subst hw'';have hwg:=Mid.ofWg wo nq osq;generalize wg wo nq osq=w4 at hwg ⊢;have hm5:=hm.trans hwg;clear hwg r1 r2 hm;go_wp2_with fail;go_roundw
      case rel=>exact ⟨k+1,s++(⟨#[45]⟩:ByteArray)++sj++(⟨#[42]⟩:ByteArray)++si,by go_num,rfl,by omega,HT2,HU,hm5⟩
      case measure=>simp [intOf];omega
     have hn3:=hk3;by_cases hk4:m.kind=4
     ·skip
      have hokm:okMv m:=Or.inr (Or.inl hk4);have d1:(m.kind == 1)=false:=by simp [hn1]
      have d2:(m.kind == 2)=false:=by simp [hn2]
      have d3:(m.kind == 3)=false:=by simp [hn3]
      have d4:(m.kind == 4)=true:=by rw [hk4];rfl
      have hcz0:(⟨#[105,110,118,101,114,116]⟩:ByteArray).size=6:=rfl;have hcz1:(⟨#[100,114,111,112]⟩:ByteArray).size=4:=rfl;have hcz2:(⟨#[42]⟩:ByteArray).size=1:=rfl;have hcz3:(⟨#[43]⟩:ByteArray).size=1:=rfl;have hcz4:(⟨#[45]⟩:ByteArray).size=1:=rfl;have hcz5:(⟨#[32]⟩:ByteArray).size=1:=rfl;have hz0:(s).size+(⟨#[100,114,111,112]⟩:ByteArray).size≤9223372036854775807:=by first | omega | (simp only [ByteArray.size_append];omega)
      have hz1:(s++(⟨#[100,114,111,112]⟩:ByteArray)).size+si.size≤9223372036854775807:=by first | omega | (simp only [ByteArray.size_append];omega)
      have hit:itemMv m=[100,114,111,112]++fmtI m.i:=by
       unfold itemMv;rw [if_neg hn1,if_pos hk4]
      have HU:Hid (s++(⟨#[100,114,111,112]⟩:ByteArray)++si=str (accB [32] ((ms.take (k+1)).map itemMv))):=Lib.hid (by
       rw [HACC.out,hit,HS1.out,HSI.out]
       show str pre++str ([100,114,111,112])++str (fmtI m.i)=_
       simp only [str_app,List.append_assoc])
      clear hit;have HT2:=Lib.hid (take_ok HM.out HT.out hokm);clear hokm HT HACC HSI HSJ;go_wp2_with fail;with_reducible refine (hI _).mono ?_
      rintro en w4 ⟨rfl,hm4⟩;have hm5:=hm.trans hm4;clear hm hm4;go_wp2_with fail;go_roundw
      case rel=>exact ⟨k+1,s++(⟨#[100,114,111,112]⟩:ByteArray)++si,by go_num,rfl,by omega,HT2,HU,hm5⟩
      case measure=>simp [intOf];omega
     have hn4:=hk4;have hres:=fmtMs_no HM.out (fun h=>by unfold okMv at h;omega);have HRES:=Lib.hid hres;have d1:(m.kind == 1)=false:=by simp [hn1]
     have d2:(m.kind == 2)=false:=by simp [hn2]
     have d3:(m.kind == 3)=false:=by simp [hn3]
     have d4:(m.kind == 4)=false:=by simp [hn4]
     clear hres;go_wp2_with fail;go_ret;exact ⟨by rw [HRES.out];rfl,hm⟩
    ·skip
     have dsg:decide (m.sign < 0)=false:=by simpa using hsg
     by_cases hk1:m.kind=1
     ·skip
      have hokm:okMv m:=Or.inl hk1;have d1:(m.kind == 1)=true:=by rw [hk1];rfl
      have hcz0:(⟨#[105,110,118,101,114,116]⟩:ByteArray).size=6:=rfl;have hcz1:(⟨#[100,114,111,112]⟩:ByteArray).size=4:=rfl;have hcz2:(⟨#[42]⟩:ByteArray).size=1:=rfl;have hcz3:(⟨#[43]⟩:ByteArray).size=1:=rfl;have hcz4:(⟨#[45]⟩:ByteArray).size=1:=rfl;have hcz5:(⟨#[32]⟩:ByteArray).size=1:=rfl;have hz0:(s).size+(⟨#[105,110,118,101,114,116]⟩:ByteArray).size≤9223372036854775807:=by first | omega | (simp only [ByteArray.size_append];omega)
      have hz1:(s++(⟨#[105,110,118,101,114,116]⟩:ByteArray)).size+si.size≤9223372036854775807:=by first | omega | (simp only [ByteArray.size_append];omega)
      have hit:itemMv m=[105,110,118,101,114,116]++fmtI m.i:=by
       unfold itemMv;rw [if_pos hk1]
      have HU:Hid (s++(⟨#[105,110,118,101,114,116]⟩:ByteArray)++si=str (accB [32] ((ms.take (k+1)).map itemMv))):=Lib.hid (by
       rw [HACC.out,hit,HS1.out,HSI.out]
       show str pre++str ([105,110,118,101,114,116])++str (fmtI m.i)=_
       simp only [str_app,List.append_assoc])
      clear hit;have HT2:=Lib.hid (take_ok HM.out HT.out hokm);clear hokm HT HACC HSI HSJ;go_wp2_with fail;with_reducible refine (hI _).mono ?_
      rintro en w4 ⟨rfl,hm4⟩;have hm5:=hm.trans hm4;clear hm hm4;go_wp2_with fail;go_roundw
      case rel=>exact ⟨k+1,s++(⟨#[105,110,118,101,114,116]⟩:ByteArray)++si,by go_num,rfl,by omega,HT2,HU,hm5⟩
      case measure=>simp [intOf];omega
     have hn1:=hk1;by_cases hk2:m.kind=2
     ·skip
      have hokm:okMv m:=Or.inr (Or.inr (Or.inl hk2));have d1:(m.kind == 1)=false:=by simp [hn1]
      have d2:(m.kind == 2)=true:=by rw [hk2];rfl
      have hcz0:(⟨#[105,110,118,101,114,116]⟩:ByteArray).size=6:=rfl;have hcz1:(⟨#[100,114,111,112]⟩:ByteArray).size=4:=rfl;have hcz2:(⟨#[42]⟩:ByteArray).size=1:=rfl;have hcz3:(⟨#[43]⟩:ByteArray).size=1:=rfl;have hcz4:(⟨#[45]⟩:ByteArray).size=1:=rfl;have hcz5:(⟨#[32]⟩:ByteArray).size=1:=rfl;have hz0:(s).size+si.size≤9223372036854775807:=by first | omega | (simp only [ByteArray.size_append];omega)
      have hz1:(s++si).size+(⟨#[42]⟩:ByteArray).size≤9223372036854775807:=by first | omega | (simp only [ByteArray.size_append];omega)
      have hz2:(s++si++(⟨#[42]⟩:ByteArray)).size+(⟨#[43]⟩:ByteArray).size≤9223372036854775807:=by first | omega | (simp only [ByteArray.size_append];omega)
      have hz3:(s++si++(⟨#[42]⟩:ByteArray)++(⟨#[43]⟩:ByteArray)).size+sj.size≤9223372036854775807:=by first | omega | (simp only [ByteArray.size_append];omega)
      have hit:itemMv m=fmtI m.i++[42]++[43]++fmtI m.j:=by
       unfold itemMv;rw [if_neg hn1,if_neg (show ¬ m.kind=4 by omega),if_pos hk2,sgB,if_neg (show ¬ m.sign < 0 by omega)]
      have HU:Hid (s++si++(⟨#[42]⟩:ByteArray)++(⟨#[43]⟩:ByteArray)++sj=str (accB [32] ((ms.take (k+1)).map itemMv))):=Lib.hid (by
       rw [HACC.out,hit,HS1.out,HSI.out,HSJ.out]
       show str pre++str (fmtI m.i)++str ([42])++str ([43])++str (fmtI m.j)=_
       simp only [str_app,List.append_assoc])
      clear hit;have HT2:=Lib.hid (take_ok HM.out HT.out hokm);clear hokm HT HACC HSI HSJ;have r1:=wg_cell hb1 e1;have r2:=wg_cell hb1 e2;go_wp2_with fail;refine wp_region_quiet_wg (by kernel_rfl) (by kernel_rfl) ?_;repeat
       (with_reducible refine wpQuiet_step (fun K hK=>?_))
       go_simp
       first
        | ((with_reducible refine hK _ ?_);clear hK K)
        | (rw [if_neg (by decide)];(with_reducible refine hK _ ?_);clear hK K)
        | (apply Exists.intro;refine ⟨fun _=>?_,hK _ ?_⟩;(rw [if_neg (by omega)];exact ⟨rfl,rfl⟩);clear hK K)
        | (apply Exists.intro;refine ⟨fun _=>?_,hK _ ?_⟩;((go_at_call 100;first | with_reducible exact Calls.wg_of (hI _) | with_reducible exact Calls.wg_of (hJ _)));clear hK K)
      with_reducible refine wpQuiet_nil ?_
      intro _ hw';obtain ⟨⟨nq,osq⟩,hw''⟩:=hw';subst hw'';have hwg:=Mid.ofWg wo nq osq;generalize wg wo nq osq=w4 at hwg ⊢;have hm5:=hm.trans hwg;clear hwg r1 r2 hm;go_wp2_with fail;go_roundw
      case rel=>exact ⟨k+1,s++si++(⟨#[42]⟩:ByteArray)++(⟨#[43]⟩:ByteArray)++sj,by go_num,rfl,by omega,HT2,HU,hm5⟩
      case measure=>simp [intOf];omega
     have hn2:=hk2;by_cases hk3:m.kind=3
     ·skip
      have hokm:okMv m:=Or.inr (Or.inr (Or.inr hk3));have d1:(m.kind == 1)=false:=by simp [hn1]
      have d2:(m.kind == 2)=false:=by simp [hn2]
      have d3:(m.kind == 3)=true:=by rw [hk3];rfl
      have hcz0:(⟨#[105,110,118,101,114,116]⟩:ByteArray).size=6:=rfl;have hcz1:(⟨#[100,114,111,112]⟩:ByteArray).size=4:=rfl;have hcz2:(⟨#[42]⟩:ByteArray).size=1:=rfl;have hcz3:(⟨#[43]⟩:ByteArray).size=1:=rfl;have hcz4:(⟨#[45]⟩:ByteArray).size=1:=rfl;have hcz5:(⟨#[32]⟩:ByteArray).size=1:=rfl;have hz0:(s).size+(⟨#[43]⟩:ByteArray).size≤9223372036854775807:=by first | omega | (simp only [ByteArray.size_append];omega)
      have hz1:(s++(⟨#[43]⟩:ByteArray)).size+sj.size≤9223372036854775807:=by first | omega | (simp only [ByteArray.size_append];omega)
      have hz2:(s++(⟨#[43]⟩:ByteArray)++sj).size+(⟨#[42]⟩:ByteArray).size≤9223372036854775807:=by first | omega | (simp only [ByteArray.size_append];omega)
      have hz3:(s++(⟨#[43]⟩:ByteArray)++sj++(⟨#[42]⟩:ByteArray)).size+si.size≤9223372036854775807:=by first | omega | (simp only [ByteArray.size_append];omega)
      have hit:itemMv m=[43]++fmtI m.j++[42]++fmtI m.i:=by
       unfold itemMv;rw [if_neg hn1,if_neg (show ¬ m.kind=4 by omega),if_neg hn2,sgB,if_neg (show ¬ m.sign < 0 by omega)]
      have HU:Hid (s++(⟨#[43]⟩:ByteArray)++sj++(⟨#[42]⟩:ByteArray)++si=str (accB [32] ((ms.take (k+1)).map itemMv))):=Lib.hid (by
       rw [HACC.out,hit,HS1.out,HSI.out,HSJ.out]
       show str pre++str ([43])++str (fmtI m.j)++str ([42])++str (fmtI m.i)=_
       simp only [str_app,List.append_assoc])
      clear hit;have HT2:=Lib.hid (take_ok HM.out HT.out hokm);clear hokm HT HACC HSI HSJ;have r1:=wg_cell hb1 e1;have r2:=wg_cell hb1 e2;go_wp2_with fail;refine wp_region_quiet_wg (by kernel_rfl) (by kernel_rfl) ?_;repeat
       (with_reducible refine wpQuiet_step (fun K hK=>?_))
       go_simp
       first
        | ((with_reducible refine hK _ ?_);clear hK K)
        | (rw [if_neg (by decide)];(with_reducible refine hK _ ?_);clear hK K)
        | (apply Exists.intro;refine ⟨fun _=>?_,hK _ ?_⟩;(rw [if_neg (by omega)];exact ⟨rfl,rfl⟩);clear hK K)
        | (apply Exists.intro;refine ⟨fun _=>?_,hK _ ?_⟩;((go_at_call 100;first | with_reducible exact Calls.wg_of (hI _) | with_reducible exact Calls.wg_of (hJ _)));clear hK K)
      with_reducible refine wpQuiet_nil ?_
      intro _ hw';obtain ⟨⟨nq,osq⟩,hw''⟩:=hw';subst hw'';have hwg:=Mid.ofWg wo nq osq;generalize wg wo nq osq=w4 at hwg ⊢;have hm5:=hm.trans hwg;clear hwg r1 r2 hm;go_wp2_with fail;go_roundw
      case rel=>exact ⟨k+1,s++(⟨#[43]⟩:ByteArray)++sj++(⟨#[42]⟩:ByteArray)++si,by go_num,rfl,by omega,HT2,HU,hm5⟩
      case measure=>simp [intOf];omega
     have hn3:=hk3;by_cases hk4:m.kind=4
     ·skip
      have hokm:okMv m:=Or.inr (Or.inl hk4);have d1:(m.kind == 1)=false:=by simp [hn1]
      have d2:(m.kind == 2)=false:=by simp [hn2]
      have d3:(m.kind == 3)=false:=by simp [hn3]
      have d4:(m.kind == 4)=true:=by rw [hk4];rfl
      have hcz0:(⟨#[105,110,118,101,114,116]⟩:ByteArray).size=6:=rfl;have hcz1:(⟨#[100,114,111,112]⟩:ByteArray).size=4:=rfl;have hcz2:(⟨#[42]⟩:ByteArray).size=1:=rfl;have hcz3:(⟨#[43]⟩:ByteArray).size=1:=rfl;have hcz4:(⟨#[45]⟩:ByteArray).size=1:=rfl;have hcz5:(⟨#[32]⟩:ByteArray).size=1:=rfl;have hz0:(s).size+(⟨#[100,114,111,112]⟩:ByteArray).size≤9223372036854775807:=by first | omega | (simp only [ByteArray.size_append];omega)
      have hz1:(s++(⟨#[100,114,111,112]⟩:ByteArray)).size+si.size≤9223372036854775807:=by first | omega | (simp only [ByteArray.size_append];omega)
      have hit:itemMv m=[100,114,111,112]++fmtI m.i:=by
       unfold itemMv;rw [if_neg hn1,if_pos hk4]
      have HU:Hid (s++(⟨#[100,114,111,112]⟩:ByteArray)++si=str (accB [32] ((ms.take (k+1)).map itemMv))):=Lib.hid (by
       rw [HACC.out,hit,HS1.out,HSI.out]
       show str pre++str ([100,114,111,112])++str (fmtI m.i)=_
       simp only [str_app,List.append_assoc])
      clear hit;have HT2:=Lib.hid (take_ok HM.out HT.out hokm);clear hokm HT HACC HSI HSJ;go_wp2_with fail;with_reducible refine (hI _).mono ?_
      rintro en w4 ⟨rfl,hm4⟩;have hm5:=hm.trans hm4;clear hm hm4;go_wp2_with fail;go_roundw
      case rel=>exact ⟨k+1,s++(⟨#[100,114,111,112]⟩:ByteArray)++si,by go_num,rfl,by omega,HT2,HU,hm5⟩
      case measure=>simp [intOf];omega
     have hn4:=hk4;have hres:=fmtMs_no HM.out (fun h=>by unfold okMv at h;omega);have HRES:=Lib.hid hres;have d1:(m.kind == 1)=false:=by simp [hn1]
     have d2:(m.kind == 2)=false:=by simp [hn2]
     have d3:(m.kind == 3)=false:=by simp [hn3]
     have d4:(m.kind == 4)=false:=by simp [hn4]
     clear hres;go_wp2_with fail;go_ret;exact ⟨by rw [HRES.out];rfl,hm⟩
   ·have HS1:Hid (s++(⟨#[32]⟩:ByteArray)=str pre):=Lib.hid (by rw [HS.out,hpre,if_neg hz];exact str_app _ [32])
    have dk:decide ((0:Int) < (k:Int))=true:=by simp;omega
    have hng:(0:Int) < (k:Int):=by omega
    have hz32:s.size+(⟨#[32]⟩:ByteArray).size≤9223372036854775807:=by
     have:(⟨#[32]⟩:ByteArray).size=1:=rfl;omega
    clear hpre;by_cases hsg:m.sign < 0
    ·skip
     have dsg:decide (m.sign < 0)=true:=by simpa using hsg
     by_cases hk1:m.kind=1
     ·skip
      have hokm:okMv m:=Or.inl hk1;have d1:(m.kind == 1)=true:=by rw [hk1];rfl
      have hcz0:(⟨#[105,110,118,101,114,116]⟩:ByteArray).size=6:=rfl;have hcz1:(⟨#[100,114,111,112]⟩:ByteArray).size=4:=rfl;have hcz2:(⟨#[42]⟩:ByteArray).size=1:=rfl;have hcz3:(⟨#[43]⟩:ByteArray).size=1:=rfl;have hcz4:(⟨#[45]⟩:ByteArray).size=1:=rfl;have hcz5:(⟨#[32]⟩:ByteArray).size=1:=rfl;have hz0:((s++(⟨#[32]⟩:ByteArray))).size+(⟨#[105,110,118,101,114,116]⟩:ByteArray).size≤9223372036854775807:=by first | omega | (simp only [ByteArray.size_append];omega)
      have hz1:((s++(⟨#[32]⟩:ByteArray))++(⟨#[105,110,118,101,114,116]⟩:ByteArray)).size+si.size≤9223372036854775807:=by first | omega | (simp only [ByteArray.size_append];omega)
      have hit:itemMv m=[105,110,118,101,114,116]++fmtI m.i:=by
       unfold itemMv;rw [if_pos hk1]
      have HU:Hid ((s++(⟨#[32]⟩:ByteArray))++(⟨#[105,110,118,101,114,116]⟩:ByteArray)++si=str (accB [32] ((ms.take (k+1)).map itemMv))):=Lib.hid (by
       rw [HACC.out,hit,HS1.out,HSI.out]
       show str pre++str ([105,110,118,101,114,116])++str (fmtI m.i)=_
       simp only [str_app,List.append_assoc])
      clear hit;have HT2:=Lib.hid (take_ok HM.out HT.out hokm);clear hokm HT HACC HSI HSJ;go_wp2_with fail;with_reducible refine (hI _).mono ?_
      rintro en w4 ⟨rfl,hm4⟩;have hm5:=hm.trans hm4;clear hm hm4;go_wp2_with fail;go_roundw
      case rel=>exact ⟨k+1,(s++(⟨#[32]⟩:ByteArray))++(⟨#[105,110,118,101,114,116]⟩:ByteArray)++si,by go_num,rfl,by omega,HT2,HU,hm5⟩
      case measure=>simp [intOf];omega
     have hn1:=hk1;by_cases hk2:m.kind=2
     ·skip
      have hokm:okMv m:=Or.inr (Or.inr (Or.inl hk2));have d1:(m.kind == 1)=false:=by simp [hn1]
      have d2:(m.kind == 2)=true:=by rw [hk2];rfl
      have hcz0:(⟨#[105,110,118,101,114,116]⟩:ByteArray).size=6:=rfl;have hcz1:(⟨#[100,114,111,112]⟩:ByteArray).size=4:=rfl;have hcz2:(⟨#[42]⟩:ByteArray).size=1:=rfl;have hcz3:(⟨#[43]⟩:ByteArray).size=1:=rfl;have hcz4:(⟨#[45]⟩:ByteArray).size=1:=rfl;have hcz5:(⟨#[32]⟩:ByteArray).size=1:=rfl;have hz0:((s++(⟨#[32]⟩:ByteArray))).size+si.size≤9223372036854775807:=by first | omega | (simp only [ByteArray.size_append];omega)
      have hz1:((s++(⟨#[32]⟩:ByteArray))++si).size+(⟨#[42]⟩:ByteArray).size≤9223372036854775807:=by first | omega | (simp only [ByteArray.size_append];omega)
      have hz2:((s++(⟨#[32]⟩:ByteArray))++si++(⟨#[42]⟩:ByteArray)).size+(⟨#[45]⟩:ByteArray).size≤9223372036854775807:=by first | omega | (simp only [ByteArray.size_append];omega)
      have hz3:((s++(⟨#[32]⟩:ByteArray))++si++(⟨#[42]⟩:ByteArray)++(⟨#[45]⟩:ByteArray)).size+sj.size≤9223372036854775807:=by first | omega | (simp only [ByteArray.size_append];omega)
      have hit:itemMv m=fmtI m.i++[42]++[45]++fmtI m.j:=by
       unfold itemMv;rw [if_neg hn1,if_neg (show ¬ m.kind=4 by omega),if_pos hk2,sgB,if_pos hsg]
      have HU:Hid ((s++(⟨#[32]⟩:ByteArray))++si++(⟨#[42]⟩:ByteArray)++(⟨#[45]⟩:ByteArray)++sj=str (accB [32] ((ms.take (k+1)).map itemMv))):=Lib.hid (by
       rw [HACC.out,hit,HS1.out,HSI.out,HSJ.out]
       show str pre++str (fmtI m.i)++str ([42])++str ([45])++str (fmtI m.j)=_
       simp only [str_app,List.append_assoc])
      clear hit;have HT2:=Lib.hid (take_ok HM.out HT.out hokm);clear hokm HT HACC HSI HSJ;have r1:=wg_cell hb1 e1;have r2:=wg_cell hb1 e2;go_wp2_with fail;refine wp_region_quiet_wg (by kernel_rfl) (by kernel_rfl) ?_;repeat
       (with_reducible refine wpQuiet_step (fun K hK=>?_))
       go_simp
       first
        | ((with_reducible refine hK _ ?_);clear hK K)
        | (rw [if_neg (by decide)];(with_reducible refine hK _ ?_);clear hK K)
        | (apply Exists.intro;refine ⟨fun _=>?_,hK _ ?_⟩;(rw [if_neg (by omega)];exact ⟨rfl,rfl⟩);clear hK K)
        | (apply Exists.intro;refine ⟨fun _=>?_,hK _ ?_⟩;((go_at_call 100;first | with_reducible exact Calls.wg_of (hI _) | with_reducible exact Calls.wg_of (hJ _)));clear hK K)
      with_reducible refine wpQuiet_nil ?_
      intro _ hw';obtain ⟨⟨nq,osq⟩,hw''⟩:=hw';subst hw'';have hwg:=Mid.ofWg wo nq osq;generalize wg wo nq osq=w4 at hwg ⊢;have hm5:=hm.trans hwg;clear hwg r1 r2 hm;go_wp2_with fail;go_roundw
      case rel=>exact ⟨k+1,(s++(⟨#[32]⟩:ByteArray))++si++(⟨#[42]⟩:ByteArray)++(⟨#[45]⟩:ByteArray)++sj,by go_num,rfl,by omega,HT2,HU,hm5⟩
      case measure=>simp [intOf];omega
     have hn2:=hk2;by_cases hk3:m.kind=3
     ·skip
      have hokm:okMv m:=Or.inr (Or.inr (Or.inr hk3));have d1:(m.kind == 1)=false:=by simp [hn1]
      have d2:(m.kind == 2)=false:=by simp [hn2]
      have d3:(m.kind == 3)=true:=by rw [hk3];rfl
      have hcz0:(⟨#[105,110,118,101,114,116]⟩:ByteArray).size=6:=rfl;have hcz1:(⟨#[100,114,111,112]⟩:ByteArray).size=4:=rfl;have hcz2:(⟨#[42]⟩:ByteArray).size=1:=rfl;have hcz3:(⟨#[43]⟩:ByteArray).size=1:=rfl;have hcz4:(⟨#[45]⟩:ByteArray).size=1:=rfl;have hcz5:(⟨#[32]⟩:ByteArray).size=1:=rfl;have hz0:((s++(⟨#[32]⟩:ByteArray))).size+(⟨#[45]⟩:ByteArray).size≤9223372036854775807:=by first | omega | (simp only [ByteArray.size_append];omega)
      have hz1:((s++(⟨#[32]⟩:ByteArray))++(⟨#[45]⟩:ByteArray)).size+sj.size≤9223372036854775807:=by first | omega | (simp only [ByteArray.size_append];omega)
      have hz2:((s++(⟨#[32]⟩:ByteArray))++(⟨#[45]⟩:ByteArray)++sj).size+(⟨#[42]⟩:ByteArray).size≤9223372036854775807:=by first | omega | (simp only [ByteArray.size_append];omega)
      have hz3:((s++(⟨#[32]⟩:ByteArray))++(⟨#[45]⟩:ByteArray)++sj++(⟨#[42]⟩:ByteArray)).size+si.size≤9223372036854775807:=by first | omega | (simp only [ByteArray.size_append];omega)
      have hit:itemMv m=[45]++fmtI m.j++[42]++fmtI m.i:=by
       unfold itemMv;rw [if_neg hn1,if_neg (show ¬ m.kind=4 by omega),if_neg hn2,sgB,if_pos hsg]
      have HU:Hid ((s++(⟨#[32]⟩:ByteArray))++(⟨#[45]⟩:ByteArray)++sj++(⟨#[42]⟩:ByteArray)++si=str (accB [32] ((ms.take (k+1)).map itemMv))):=Lib.hid (by
       rw [HACC.out,hit,HS1.out,HSI.out,HSJ.out]
       show str pre++str ([45])++str (fmtI m.j)++str ([42])++str (fmtI m.i)=_
       simp only [str_app,List.append_assoc])
      clear hit;have HT2:=Lib.hid (take_ok HM.out HT.out hokm);clear hokm HT HACC HSI HSJ;have r1:=wg_cell hb1 e1;have r2:=wg_cell hb1 e2;go_wp2_with fail;refine wp_region_quiet_wg (by kernel_rfl) (by kernel_rfl) ?_;repeat
       (with_reducible refine wpQuiet_step (fun K hK=>?_))
       go_simp
       first
        | ((with_reducible refine hK _ ?_);clear hK K)
        | (rw [if_neg (by decide)];(with_reducible refine hK _ ?_);clear hK K)
        | (apply Exists.intro;refine ⟨fun _=>?_,hK _ ?_⟩;(rw [if_neg (by omega)];exact ⟨rfl,rfl⟩);clear hK K)
        | (apply Exists.intro;refine ⟨fun _=>?_,hK _ ?_⟩;((go_at_call 100;first | with_reducible exact Calls.wg_of (hI _) | with_reducible exact Calls.wg_of (hJ _)));clear hK K)
      with_reducible refine wpQuiet_nil ?_
      intro _ hw';obtain ⟨⟨nq,osq⟩,hw''⟩:=hw';subst hw'';have hwg:=Mid.ofWg wo nq osq;generalize wg wo nq osq=w4 at hwg ⊢;have hm5:=hm.trans hwg;clear hwg r1 r2 hm;go_wp2_with fail;go_roundw
      case rel=>exact ⟨k+1,(s++(⟨#[32]⟩:ByteArray))++(⟨#[45]⟩:ByteArray)++sj++(⟨#[42]⟩:ByteArray)++si,by go_num,rfl,by omega,HT2,HU,hm5⟩
      case measure=>simp [intOf];omega
     have hn3:=hk3;by_cases hk4:m.kind=4
     ·skip
      have hokm:okMv m:=Or.inr (Or.inl hk4);have d1:(m.kind == 1)=false:=by simp [hn1]
      have d2:(m.kind == 2)=false:=by simp [hn2]
      have d3:(m.kind == 3)=false:=by simp [hn3]
      have d4:(m.kind == 4)=true:=by rw [hk4];rfl
      have hcz0:(⟨#[105,110,118,101,114,116]⟩:ByteArray).size=6:=rfl;have hcz1:(⟨#[100,114,111,112]⟩:ByteArray).size=4:=rfl;have hcz2:(⟨#[42]⟩:ByteArray).size=1:=rfl;have hcz3:(⟨#[43]⟩:ByteArray).size=1:=rfl;have hcz4:(⟨#[45]⟩:ByteArray).size=1:=rfl;have hcz5:(⟨#[32]⟩:ByteArray).size=1:=rfl;have hz0:((s++(⟨#[32]⟩:ByteArray))).size+(⟨#[100,114,111,112]⟩:ByteArray).size≤9223372036854775807:=by first | omega | (simp only [ByteArray.size_append];omega)
      have hz1:((s++(⟨#[32]⟩:ByteArray))++(⟨#[100,114,111,112]⟩:ByteArray)).size+si.size≤9223372036854775807:=by first | omega | (simp only [ByteArray.size_append];omega)
      have hit:itemMv m=[100,114,111,112]++fmtI m.i:=by
       unfold itemMv;rw [if_neg hn1,if_pos hk4]
      have HU:Hid ((s++(⟨#[32]⟩:ByteArray))++(⟨#[100,114,111,112]⟩:ByteArray)++si=str (accB [32] ((ms.take (k+1)).map itemMv))):=Lib.hid (by
       rw [HACC.out,hit,HS1.out,HSI.out]
       show str pre++str ([100,114,111,112])++str (fmtI m.i)=_
       simp only [str_app,List.append_assoc])
      clear hit;have HT2:=Lib.hid (take_ok HM.out HT.out hokm);clear hokm HT HACC HSI HSJ;go_wp2_with fail;with_reducible refine (hI _).mono ?_
      rintro en w4 ⟨rfl,hm4⟩;have hm5:=hm.trans hm4;clear hm hm4;go_wp2_with fail;go_roundw
      case rel=>exact ⟨k+1,(s++(⟨#[32]⟩:ByteArray))++(⟨#[100,114,111,112]⟩:ByteArray)++si,by go_num,rfl,by omega,HT2,HU,hm5⟩
      case measure=>simp [intOf];omega
     have hn4:=hk4;have hres:=fmtMs_no HM.out (fun h=>by unfold okMv at h;omega);have HRES:=Lib.hid hres;have d1:(m.kind == 1)=false:=by simp [hn1]
     have d2:(m.kind == 2)=false:=by simp [hn2]
     have d3:(m.kind == 3)=false:=by simp [hn3]
     have d4:(m.kind == 4)=false:=by simp [hn4]
     clear hres;go_wp2_with fail;go_ret;exact ⟨by rw [HRES.out];rfl,hm⟩
    ·skip
     have dsg:decide (m.sign < 0)=false:=by simpa using hsg
     by_cases hk1:m.kind=1
     ·skip
      have hokm:okMv m:=Or.inl hk1;have d1:(m.kind == 1)=true:=by rw [hk1];rfl
      have hcz0:(⟨#[105,110,118,101,114,116]⟩:ByteArray).size=6:=rfl;have hcz1:(⟨#[100,114,111,112]⟩:ByteArray).size=4:=rfl;have hcz2:(⟨#[42]⟩:ByteArray).size=1:=rfl;have hcz3:(⟨#[43]⟩:ByteArray).size=1:=rfl;have hcz4:(⟨#[45]⟩:ByteArray).size=1:=rfl;have hcz5:(⟨#[32]⟩:ByteArray).size=1:=rfl;have hz0:((s++(⟨#[32]⟩:ByteArray))).size+(⟨#[105,110,118,101,114,116]⟩:ByteArray).size≤9223372036854775807:=by first | omega | (simp only [ByteArray.size_append];omega)
      have hz1:((s++(⟨#[32]⟩:ByteArray))++(⟨#[105,110,118,101,114,116]⟩:ByteArray)).size+si.size≤9223372036854775807:=by first | omega | (simp only [ByteArray.size_append];omega)
      have hit:itemMv m=[105,110,118,101,114,116]++fmtI m.i:=by
       unfold itemMv;rw [if_pos hk1]
      have HU:Hid ((s++(⟨#[32]⟩:ByteArray))++(⟨#[105,110,118,101,114,116]⟩:ByteArray)++si=str (accB [32] ((ms.take (k+1)).map itemMv))):=Lib.hid (by
       rw [HACC.out,hit,HS1.out,HSI.out]
       show str pre++str ([105,110,118,101,114,116])++str (fmtI m.i)=_
       simp only [str_app,List.append_assoc])
      clear hit;have HT2:=Lib.hid (take_ok HM.out HT.out hokm);clear hokm HT HACC HSI HSJ;go_wp2_with fail;with_reducible refine (hI _).mono ?_
      rintro en w4 ⟨rfl,hm4⟩;have hm5:=hm.trans hm4;clear hm hm4;go_wp2_with fail;go_roundw
      case rel=>exact ⟨k+1,(s++(⟨#[32]⟩:ByteArray))++(⟨#[105,110,118,101,114,116]⟩:ByteArray)++si,by go_num,rfl,by omega,HT2,HU,hm5⟩
      case measure=>simp [intOf];omega
     have hn1:=hk1;by_cases hk2:m.kind=2
     ·skip
      have hokm:okMv m:=Or.inr (Or.inr (Or.inl hk2));have d1:(m.kind == 1)=false:=by simp [hn1]
      have d2:(m.kind == 2)=true:=by rw [hk2];rfl
      have hcz0:(⟨#[105,110,118,101,114,116]⟩:ByteArray).size=6:=rfl;have hcz1:(⟨#[100,114,111,112]⟩:ByteArray).size=4:=rfl;have hcz2:(⟨#[42]⟩:ByteArray).size=1:=rfl;have hcz3:(⟨#[43]⟩:ByteArray).size=1:=rfl;have hcz4:(⟨#[45]⟩:ByteArray).size=1:=rfl;have hcz5:(⟨#[32]⟩:ByteArray).size=1:=rfl;have hz0:((s++(⟨#[32]⟩:ByteArray))).size+si.size≤9223372036854775807:=by first | omega | (simp only [ByteArray.size_append];omega)
      have hz1:((s++(⟨#[32]⟩:ByteArray))++si).size+(⟨#[42]⟩:ByteArray).size≤9223372036854775807:=by first | omega | (simp only [ByteArray.size_append];omega)
      have hz2:((s++(⟨#[32]⟩:ByteArray))++si++(⟨#[42]⟩:ByteArray)).size+(⟨#[43]⟩:ByteArray).size≤9223372036854775807:=by first | omega | (simp only [ByteArray.size_append];omega)
      have hz3:((s++(⟨#[32]⟩:ByteArray))++si++(⟨#[42]⟩:ByteArray)++(⟨#[43]⟩:ByteArray)).size+sj.size≤9223372036854775807:=by first | omega | (simp only [ByteArray.size_append];omega)
      have hit:itemMv m=fmtI m.i++[42]++[43]++fmtI m.j:=by
       unfold itemMv;rw [if_neg hn1,if_neg (show ¬ m.kind=4 by omega),if_pos hk2,sgB,if_neg (show ¬ m.sign < 0 by omega)]
      have HU:Hid ((s++(⟨#[32]⟩:ByteArray))++si++(⟨#[42]⟩:ByteArray)++(⟨#[43]⟩:ByteArray)++sj=str (accB [32] ((ms.take (k+1)).map itemMv))):=Lib.hid (by
       rw [HACC.out,hit,HS1.out,HSI.out,HSJ.out]
       show str pre++str (fmtI m.i)++str ([42])++str ([43])++str (fmtI m.j)=_
       simp only [str_app,List.append_assoc])
      clear hit;have HT2:=Lib.hid (take_ok HM.out HT.out hokm);clear hokm HT HACC HSI HSJ;have r1:=wg_cell hb1 e1;have r2:=wg_cell hb1 e2;go_wp2_with fail;refine wp_region_quiet_wg (by kernel_rfl) (by kernel_rfl) ?_;repeat
       (with_reducible refine wpQuiet_step (fun K hK=>?_))
       go_simp
       first
        | ((with_reducible refine hK _ ?_);clear hK K)
        | (rw [if_neg (by decide)];(with_reducible refine hK _ ?_);clear hK K)
        | (apply Exists.intro;refine ⟨fun _=>?_,hK _ ?_⟩;(rw [if_neg (by omega)];exact ⟨rfl,rfl⟩);clear hK K)
        | (apply Exists.intro;refine ⟨fun _=>?_,hK _ ?_⟩;((go_at_call 100;first | with_reducible exact Calls.wg_of (hI _) | with_reducible exact Calls.wg_of (hJ _)));clear hK K)
      with_reducible refine wpQuiet_nil ?_
      intro _ hw';obtain ⟨⟨nq,osq⟩,hw''⟩:=hw';subst hw'';have hwg:=Mid.ofWg wo nq osq;generalize wg wo nq osq=w4 at hwg ⊢;have hm5:=hm.trans hwg;clear hwg r1 r2 hm;go_wp2_with fail;go_roundw
      case rel=>exact ⟨k+1,(s++(⟨#[32]⟩:ByteArray))++si++(⟨#[42]⟩:ByteArray)++(⟨#[43]⟩:ByteArray)++sj,by go_num,rfl,by omega,HT2,HU,hm5⟩
      case measure=>simp [intOf];omega
     have hn2:=hk2;by_cases hk3:m.kind=3
     ·skip
      have hokm:okMv m:=Or.inr (Or.inr (Or.inr hk3));have d1:(m.kind == 1)=false:=by simp [hn1]
      have d2:(m.kind == 2)=false:=by simp [hn2]
      have d3:(m.kind == 3)=true:=by rw [hk3];rfl
      have hcz0:(⟨#[105,110,118,101,114,116]⟩:ByteArray).size=6:=rfl;have hcz1:(⟨#[100,114,111,112]⟩:ByteArray).size=4:=rfl;have hcz2:(⟨#[42]⟩:ByteArray).size=1:=rfl;have hcz3:(⟨#[43]⟩:ByteArray).size=1:=rfl;have hcz4:(⟨#[45]⟩:ByteArray).size=1:=rfl;have hcz5:(⟨#[32]⟩:ByteArray).size=1:=rfl;have hz0:((s++(⟨#[32]⟩:ByteArray))).size+(⟨#[43]⟩:ByteArray).size≤9223372036854775807:=by first | omega | (simp only [ByteArray.size_append];omega)
      have hz1:((s++(⟨#[32]⟩:ByteArray))++(⟨#[43]⟩:ByteArray)).size+sj.size≤9223372036854775807:=by first | omega | (simp only [ByteArray.size_append];omega)
      have hz2:((s++(⟨#[32]⟩:ByteArray))++(⟨#[43]⟩:ByteArray)++sj).size+(⟨#[42]⟩:ByteArray).size≤9223372036854775807:=by first | omega | (simp only [ByteArray.size_append];omega)
      have hz3:((s++(⟨#[32]⟩:ByteArray))++(⟨#[43]⟩:ByteArray)++sj++(⟨#[42]⟩:ByteArray)).size+si.size≤9223372036854775807:=by first | omega | (simp only [ByteArray.size_append];omega)
      have hit:itemMv m=[43]++fmtI m.j++[42]++fmtI m.i:=by
       unfold itemMv;rw [if_neg hn1,if_neg (show ¬ m.kind=4 by omega),if_neg hn2,sgB,if_neg (show ¬ m.sign < 0 by omega)]
      have HU:Hid ((s++(⟨#[32]⟩:ByteArray))++(⟨#[43]⟩:ByteArray)++sj++(⟨#[42]⟩:ByteArray)++si=str (accB [32] ((ms.take (k+1)).map itemMv))):=Lib.hid (by
       rw [HACC.out,hit,HS1.out,HSI.out,HSJ.out]
       show str pre++str ([43])++str (fmtI m.j)++str ([42])++str (fmtI m.i)=_
       simp only [str_app,List.append_assoc])
      clear hit;have HT2:=Lib.hid (take_ok HM.out HT.out hokm);clear hokm HT HACC HSI HSJ;have r1:=wg_cell hb1 e1;have r2:=wg_cell hb1 e2;go_wp2_with fail;refine wp_region_quiet_wg (by kernel_rfl) (by kernel_rfl) ?_;repeat
       (with_reducible refine wpQuiet_step (fun K hK=>?_))
       go_simp
       first
        | ((with_reducible refine hK _ ?_);clear hK K)
        | (rw [if_neg (by decide)];(with_reducible refine hK _ ?_);clear hK K)
        | (apply Exists.intro;refine ⟨fun _=>?_,hK _ ?_⟩;(rw [if_neg (by omega)];exact ⟨rfl,rfl⟩);clear hK K)
        | (apply Exists.intro;refine ⟨fun _=>?_,hK _ ?_⟩;((go_at_call 100;first | with_reducible exact Calls.wg_of (hI _) | with_reducible exact Calls.wg_of (hJ _)));clear hK K)
      with_reducible refine wpQuiet_nil ?_
      intro _ hw';obtain ⟨⟨nq,osq⟩,hw''⟩:=hw';subst hw'';have hwg:=Mid.ofWg wo nq osq;generalize wg wo nq osq=w4 at hwg ⊢;have hm5:=hm.trans hwg;clear hwg r1 r2 hm;go_wp2_with fail;go_roundw
      case rel=>exact ⟨k+1,(s++(⟨#[32]⟩:ByteArray))++(⟨#[43]⟩:ByteArray)++sj++(⟨#[42]⟩:ByteArray)++si,by go_num,rfl,by omega,HT2,HU,hm5⟩
      case measure=>simp [intOf];omega
     have hn3:=hk3;by_cases hk4:m.kind=4
     ·skip
      have hokm:okMv m:=Or.inr (Or.inl hk4);have d1:(m.kind == 1)=false:=by simp [hn1]
      have d2:(m.kind == 2)=false:=by simp [hn2]
      have d3:(m.kind == 3)=false:=by simp [hn3]
      have d4:(m.kind == 4)=true:=by rw [hk4];rfl
      have hcz0:(⟨#[105,110,118,101,114,116]⟩:ByteArray).size=6:=rfl;have hcz1:(⟨#[100,114,111,112]⟩:ByteArray).size=4:=rfl;have hcz2:(⟨#[42]⟩:ByteArray).size=1:=rfl;have hcz3:(⟨#[43]⟩:ByteArray).size=1:=rfl;have hcz4:(⟨#[45]⟩:ByteArray).size=1:=rfl;have hcz5:(⟨#[32]⟩:ByteArray).size=1:=rfl;have hz0:((s++(⟨#[32]⟩:ByteArray))).size+(⟨#[100,114,111,112]⟩:ByteArray).size≤9223372036854775807:=by first | omega | (simp only [ByteArray.size_append];omega)
      have hz1:((s++(⟨#[32]⟩:ByteArray))++(⟨#[100,114,111,112]⟩:ByteArray)).size+si.size≤9223372036854775807:=by first | omega | (simp only [ByteArray.size_append];omega)
      have hit:itemMv m=[100,114,111,112]++fmtI m.i:=by
       unfold itemMv;rw [if_neg hn1,if_pos hk4]
      have HU:Hid ((s++(⟨#[32]⟩:ByteArray))++(⟨#[100,114,111,112]⟩:ByteArray)++si=str (accB [32] ((ms.take (k+1)).map itemMv))):=Lib.hid (by
       rw [HACC.out,hit,HS1.out,HSI.out]
       show str pre++str ([100,114,111,112])++str (fmtI m.i)=_
       simp only [str_app,List.append_assoc])
      clear hit;have HT2:=Lib.hid (take_ok HM.out HT.out hokm);clear hokm HT HACC HSI HSJ;go_wp2_with fail;with_reducible refine (hI _).mono ?_
      rintro en w4 ⟨rfl,hm4⟩;have hm5:=hm.trans hm4;clear hm hm4;go_wp2_with fail;go_roundw
      case rel=>exact ⟨k+1,(s++(⟨#[32]⟩:ByteArray))++(⟨#[100,114,111,112]⟩:ByteArray)++si,by go_num,rfl,by omega,HT2,HU,hm5⟩
      case measure=>simp [intOf];omega
     have hn4:=hk4;have hres:=fmtMs_no HM.out (fun h=>by unfold okMv at h;omega);have HRES:=Lib.hid hres;have d1:(m.kind == 1)=false:=by simp [hn1]
     have d2:(m.kind == 2)=false:=by simp [hn2]
     have d3:(m.kind == 3)=false:=by simp [hn3]
     have d4:(m.kind == 4)=false:=by simp [hn4]
     clear hres;go_wp2_with fail;go_ret;exact ⟨by rw [HRES.out];rfl,hm⟩
  ·obtain rfl:k=ms.length:=by omega
   have htk:ms.take ms.length=ms:=List.take_length;have hall:∀ x∈ms,okMv x:=by have h:=HT.out;rw [htk] at h;exact h
   have hres:=fmtMs_yes hall;have hs:=HS.out;rw [htk] at hs;by_cases hnil:ms=[]
   ·subst hnil
    have hs0:s=⟨#[]⟩:=hs;subst hs0;have HRES:=Lib.hid hres;clear hres hs hall htk HS HT;go_wp2_with fail;go_ret;exact ⟨by rw [HRES.out];rfl,hm⟩
   ·have hne:=accB_ne [32] (ms.map itemMv) (by simpa using hnil) (fun x hx=>by obtain ⟨m, -,rfl⟩:=List.mem_map.1 hx;exact itemMv_ne m)
    have hb:s.toList.isEmpty=false:=by
     rw [hs,ByteArray.toList_mk,List.isEmpty_eq_false_iff];exact hne
    have hfin:s=str (fmtMs ms):=by rw [hs,hres,glueB,if_neg (by simpa using hnil)]
    have HFIN:=Lib.hid hfin;clear hres hs hall htk HS HT hne hfin;go_wp2_with fail;go_ret;exact ⟨by rw [← HFIN.out];rfl,hm⟩
end
section
open Go.RowKit
theorem infoMv:(Tryz.prog.info? 48).map (fun i=>(i.zero,i.size,i.bytes))=some (some (.agg #[.int .i64 0,.int .i64 0,.int .i64 0,.int .i64 0]),4,32):=by kernel_rfl
theorem undSMv:Tryz.prog.underlying 26=some (.slice 48):=by kernel_rfl
def FormatMovesIs (d0:List Mv) (res0:ByteArray):Prop:=res0=str (fmtMs d0)
theorem FormatMovesIs_ex (d0:List Mv) (o0:∀ m∈d0,OkMv m) (hl0:d0.length≤1048576):∃ res0,FormatMovesIs d0 res0:=⟨_,rfl⟩
theorem sspec_FormatMoves (A0:Option Addr) (d0:List Mv) (c0:Nat) (w:World) (lo0 hi0:Nat) (h0:RV w lo0 hi0 A0 (ints (mvsI d0))) (o0:∀ m∈d0,OkMv m) (hl0:d0.length≤1048576) (res0:ByteArray) (h:FormatMovesIs d0 res0) :
  Calls Tryz.prog 13 #[.slice A0 d0.length c0] w fun e w'=>e=.returned (.string res0)∧Mid 0 0 w w':=by
 rw [h];exact spec_FormatMoves A0 d0 c0 w lo0 hi0 h0 hl0 o0
theorem simpl_FormatMoves (A0:Option Addr) (d0:List Mv) (c0:Nat) (w:World) (lo0 hi0:Nat) (h0:RV w lo0 hi0 A0 (ints (mvsI d0))) (o0:∀ m∈d0,OkMv m) (hl0:d0.length≤1048576) (res0:ByteArray) (h:FormatMovesIs d0 res0) :
  Calls Tryz.prog 12 #[.slice A0 d0.length c0] w fun e w'=>e=.returned (.string res0)∧Mid 0 0 w w':=by
 rw [h];exact impl_FormatMoves A0 d0 c0 w lo0 hi0 h0 hl0 o0
end
section
open Go.RowKit
abbrev RetNM (d:List (List Int)) (w:World) (e:Ending) (w':World):Prop:=e=.returned (.tuple #[(mvD (nextM d)).v,.bool (nextM d).isSome])∧Mid 0 0 w w'
theorem RetNM.some {d:List (List Int)} {w w':World} {a b c s:Int} (h:nextM d=some ⟨a,b,c,s⟩) (hm:Mid 0 0 w w'):RetNM d w (.returned (.tuple #[.agg #[.int .i64 a,.int .i64 b,.int .i64 c,.int .i64 s],.bool true])) w':=by
 refine ⟨?_,hm⟩;rw [h]
 rfl
theorem RetNM.none {d:List (List Int)} {w w':World} (h:nextM d=none) (hm:Mid 0 0 w w'):RetNM d w (.returned (.tuple #[.agg #[.int .i64 0,.int .i64 0,.int .i64 0,.int .i64 0],.bool false])) w':=by
 refine ⟨?_,hm⟩;rw [h]
 rfl
theorem impl_NextMove (A:Option Addr) (d:List (List Int)) (c:Nat) (w:World) (lo hi:Nat) (hr:RSC w lo hi A d) (hok:∀ xs∈d,OkI xs) (hl:d.length+sumL d≤1048576) :
  Calls Tryz.prog 27 #[.slice A d.length c] w (RetNM d w):=by
 have HOK:=Lib.hid hok;clear hok;have hb0:Mid 0 0 w (w.alloc (.cells #[.int .i64 0,.int .i64 0,.int .i64 0,.int .i64 0] 48)):=Mid.alloc _ _;have hbx0:=Box.new w #[.int .i64 0,.int .i64 0,.int .i64 0,.int .i64 0] 48;have hr0:=hr.mid hb0 oZl;have hhi:=hr.size;go_enter Tryz.func27,Tryz.ntmps27
 go_wp2_with fail;go_loop [4,5,13] (fun _ _ i=>∃ k:Nat,k≤d.length∧i=.int .i64 k∧(List.range k).findSome? (tryD d)=none) (fun _ _ i=>d.length - (intOf i).toNat)
 case atStart=>exact ⟨0,Nat.zero_le _,rfl,rfl⟩
 case round =>
  obtain ⟨k,hk,rfl,hD⟩:=hrel;have HD:=Lib.hid hD;clear hD;by_cases hlt:k < d.length
  ·obtain ⟨b,off,A1,c1,xs,rfl, -, -,hx,hcx, -, -⟩:=hr0.row hlt
   have hlt3:(k:Int) < (d.length:Int):=by omega
   have hxr:=rowAt_get hx;have HXR:=Lib.hid hxr;have hlx:=len_le_sumL (List.mem_of_getElem? hx);clear hx hxr;by_cases hz:xs.length=0
   ·obtain rfl:=List.eq_nil_of_length_eq_zero hz
    clear hz hlx;go_wp2_with fail;have ht:tryD d k=some ⟨4,k,0,0⟩:=by unfold tryD;rw [HXR.out];rfl
    have k0:=hbx0.cell 0 rfl;refine bodyPost_ret (v:=.tuple #[.agg #[.int .i64 4,.int .i64 k,.int .i64 0,.int .i64 0],.bool true]) (by simp [results,Tryz.results27,go_sem]) rfl (RetNM.some (nextM_D HD.out hlt ht) ?_);repeat (first | exact Mid.alloc _ _ | refine Mid.storeNew ?_ (by simp) _)
   ·have hz1:((xs.length:Int) == 0)=false:=by simp;intro h;exact hz (by rw [h];rfl)
    go_wp2_with fail;go_round
    case rel =>
     have ht:tryD d k=none:=by unfold tryD;rw [HXR.out,if_neg hz]
     exact ⟨k+1,by omega,by go_num,by rw [find_range_succ _ _ HD.out,ht]⟩
    case measure=>simp [intOf];omega
  ·obtain rfl:k=d.length:=by omega
   clear hlt hk;go_wp2_with fail;go_loopw [6,7,8,9,10,26] (fun _ _ _ _ _ i wr=>∃ k:Nat,k≤d.length∧i=.int .i64 k∧(List.range k).findSome? (tryI d)=none∧Box wr w.heap.size [.int .i64 0,.int .i64 0,.int .i64 0,.int .i64 0]∧Mid 0 0 w wr) (fun _ _ _ _ _ i _=>d.length - (intOf i).toNat)
   case atStart=>exact ⟨0,Nat.zero_le _,rfl,rfl,hbx0,hb0⟩
   case round =>
    obtain ⟨i,hi2,rfl,hI,hbx,hm⟩:=hrel;have HI:=Lib.hid hI;clear hI hr0 hb0 hbx0;have k0:=hbx.cell 0 rfl;have k1:=hbx.cell 1 rfl;have k2:=hbx.cell 2 rfl;have k3:=hbx.cell 3 rfl;have fx:=hbx.2.2;by_cases hlt:i < d.length
    ·obtain ⟨b,off,A1,c1,xs,hAe, -,hbhi,hx,hcx0,hrx,hcp⟩:=hr.row hlt
     have hcx:=cell_keep hm (show b < w.heap.size by omega) oZr hcx0;have hlt3:(i:Int) < (d.length:Int):=by omega
     have hlx:=len_le_sumL (List.mem_of_getElem? hx);have hox:=HOK.out xs (List.mem_of_getElem? hx);have HOX:=Lib.hid hox;have HX:=Lib.hid hx;subst hAe;clear hx hox;go_wp2_with fail;go_loopw [8,9,10,33] (fun _ _ _ j wr2=>∃ k:Nat,k≤d.length∧j=.int .i64 k∧(List.range k).findSome? (tryK d i)=none∧Box wr2 w.heap.size [.int .i64 0,.int .i64 0,.int .i64 0,.int .i64 0]∧Mid 0 0 w wr2) (fun _ _ _ j _=>d.length - (intOf j).toNat)
     case atStart=>exact ⟨0,Nat.zero_le _,rfl,rfl,hbx,hm⟩
     case round =>
      clear hbx k0 k1 k2 k3 fx hcx hm;obtain ⟨k,hk,rfl,hK,hbx,hm⟩:=hrel;have HK:=Lib.hid hK;clear hK;by_cases hltk:k < d.length
      ·obtain ⟨b2,off2,A2,c2,ys,hAe2, -, -,hy,hcy,hry,hcpy⟩:=(hr.mid hm oZl).row hltk
       have hrx3:=hrx.mid hm oZl;have hcx3:=cell_keep hm (show b < w.heap.size by omega) oZr hcx0;injection hAe2 with hAe2
       injection hAe2 with e1 e2
       subst e1 e2;have hltk3:(k:Int) < (d.length:Int):=by omega
       have hly:=len_le_sumL (List.mem_of_getElem? hy);have hoy:=HOK.out ys (List.mem_of_getElem? hy);have HOY:=Lib.hid hoy;have HY:=Lib.hid hy;clear hy hoy;by_cases hik:k=i
       ·subst hik
        have heq:((k:Int) == (k:Int))=true:=by simp
        go_wp2_with fail;go_roundw
        case rel=>exact ⟨k+1,by omega,by go_num,by rw [find_range_succ _ _ HK.out,tryK_same],hbx,hm⟩
        case measure=>simp [intOf];omega
       ·have heq1:((i:Int) == (k:Int))=false:=by simp;omega
        have h2:=two_le_sumL HX.out HY.out (Ne.symm hik);have hT:=fun n (hn:n < 4)=>(mvTry_at HX.out HY.out hik hn).2;have HT:=Lib.hid hT;have hlq:=fun n=>mvRes_len xs ys n;have HLQ:=Lib.hid hlq;have HOQ:=Lib.hid (fun n=>mvRes_ok HOX.out HOY.out n);have hlx4:xs.length≤1048576:=by omega
        have hly4:ys.length≤4194304:=by omega
        clear hT hlq;go_wp2_with fail;with_reducible refine (impl_InvertWordE A2 ys c2 _ hry.rsS HOY.out hly4).mono ?_
        rintro e w1 ⟨Ai,ci,rfl,hoi,hbi⟩;have hmi:Mid 0 0 wr w1:=Mid.of_below hbi;have hm1:=hm.trans hmi;have bx1:=hbx.mid hmi oZr;have rx1:=(hrx3.mid hmi oZl).rsS;have ry1:=(hry.mid hmi oZl).rsS;have ri1:Rs w1 w1.heap.size Ai (ints (invW ys)):=Rs.of_own hoi;have hli4:(invW ys).length≤4194304:=by rw [invW_len];exact hly4
        have hoki:=Lib.hid (okI_invW HOY.out);clear hrx3 hry hoi hcy hcx3;obtain ⟨p0,hp0⟩:∃ z,z=red [] (xs++ys):=⟨_,rfl⟩
        have ep0:mvRes xs ys 0=p0:=by rw [hp0];rfl
        have hlp0:p0.length≤1048576:=by rw [← ep0];exact Nat.le_trans (HLQ.out 0) (by omega)
        have hop0:=HOQ.out 0;rw [ep0] at hop0;have HOp0:=Lib.hid hop0;have htp0:=HT.out 0 (by omega);rw [ep0] at htp0;obtain ⟨zp0,hzp0⟩:∃ z,z=cmpN p0 xs:=⟨_,rfl⟩
        rw [← hzp0] at htp0;have HTp0:=Lib.hid htp0;have HZp0:=Lib.hid hzp0;have halp0:Mid 0 0 w1 (w1.alloc (.cells #[.slice A1 xs.length c1,.slice A2 ys.length c2] 44)):=Mid.alloc _ _;have hCp0:=impl_product2 A1 xs c1 A2 ys c2 w1 rx1 ry1 HOX.out HOY.out (by omega);rw [← hp0] at hCp0;have HCp0:=Lib.hid hCp0;clear hp0 ep0 hop0 htp0 hzp0 hCp0;go_wp2_with fail;refine (HCp0.out).mono ?_;rintro e vp0 ⟨Ap0,cp0,rfl,hop0,hbp0⟩;have hmp0:=halp0.trans (Mid.of_below hbp0);have rxv:=Rs.keep rx1 (w':=vp0) (fun p hp=>World.cell?_of_block (hmp0.block p.block hp (by omega)));have rxv2:=rxv.more hmp0.size;have rpv:Rs vp0 vp0.heap.size Ap0 (ints p0):=Rs.of_own hop0;have hcpp0:=owns_cap hop0;clear hop0 rxv;go_wp2_with fail;with_reducible refine (impl_CompareNielsen Ap0 A1 p0 xs cp0 c1 vp0 rpv rxv2 hcpp0 hcp HOp0.out HOX.out hlp0 hlx4).mono ?_
        rintro e up0 ⟨rfl,hmup0⟩;rw [← HZp0.out];have hmAp0:=hmp0.trans hmup0;have hmBp0:=hm1.trans hmAp0;have bxnp0:=bx1.mid hmAp0 oZr;have rxnp0:=(Rs.keep rx1 (w':=up0) (fun p hp=>World.cell?_of_block (hmAp0.block p.block hp (by omega)))).more hmAp0.size;have rynp0:=(Rs.keep ry1 (w':=up0) (fun p hp=>World.cell?_of_block (hmAp0.block p.block hp (by omega)))).more hmAp0.size;have rinp0:=(Rs.keep ri1 (w':=up0) (fun p hp=>World.cell?_of_block (hmAp0.block p.block hp (by omega)))).more hmAp0.size;clear rpv rxv2 halp0 hbp0 hmp0 hmup0;by_cases hltp0:zp0 < 0
        ·have q0:=bxnp0.cell 0 rfl
         have q1:=bxnp0.cell 1 rfl;have q2:=bxnp0.cell 2 rfl;have q3:=bxnp0.cell 3 rfl;have fq:=bxnp0.2.2;go_wp2_with fail;have hf:tryK d i k=some ⟨2,i,k,1⟩:=tryK_some (n:=0) (by omega) (fun j hj=>by omega) (by rw [HTp0.out];exact decide_eq_true hltp0);refine bodyPost_ret (v:=.tuple #[.agg #[.int .i64 2,.int .i64 i,.int .i64 k,.int .i64 1],.bool true]) (by simp [results,Tryz.results27,go_sem,q0,q1,q2,q3,fq]) rfl (RetNM.some (nextM_I HD.out HI.out hlt HK.out hltk hf) ?_);repeat (first | exact hmBp0 | refine Mid.storeNew ?_ (by simp) _)
        ·have hfp0:mvTry d i k 0=false:=by rw [HTp0.out];exact decide_eq_false hltp0
         have HFp0:=Lib.hid hfp0;clear hfp0;obtain ⟨p1,hp1⟩:∃ z,z=red [] (xs++(invW ys)):=⟨_,rfl⟩
         have ep1:mvRes xs ys 1=p1:=by rw [hp1];rfl
         have hlp1:p1.length≤1048576:=by rw [← ep1];exact Nat.le_trans (HLQ.out 1) (by omega)
         have hop1:=HOQ.out 1;rw [ep1] at hop1;have HOp1:=Lib.hid hop1;have htp1:=HT.out 1 (by omega);rw [ep1] at htp1;obtain ⟨zp1,hzp1⟩:∃ z,z=cmpN p1 xs:=⟨_,rfl⟩
         rw [← hzp1] at htp1;have HTp1:=Lib.hid htp1;have HZp1:=Lib.hid hzp1;have halp1:Mid 0 0 up0 (up0.alloc (.cells #[.slice A1 xs.length c1,.slice Ai (invW ys).length ci] 44)):=Mid.alloc _ _;have hCp1:=impl_product2 A1 xs c1 Ai (invW ys) ci up0 rxnp0 rinp0 HOX.out hoki.out (by omega);rw [← hp1] at hCp1;have HCp1:=Lib.hid hCp1;clear hp1 ep1 hop1 htp1 hzp1 hCp1;go_wp2_with fail;refine (HCp1.out).mono ?_;rintro e vp1 ⟨Ap1,cp1,rfl,hop1,hbp1⟩;have hmp1:=halp1.trans (Mid.of_below hbp1);have rxv:=Rs.keep rxnp0 (w':=vp1) (fun p hp=>World.cell?_of_block (hmp1.block p.block hp (by omega)));have rxv2:=rxv.more hmp1.size;have rpv:Rs vp1 vp1.heap.size Ap1 (ints p1):=Rs.of_own hop1;have hcpp1:=owns_cap hop1;clear hop1 rxv;go_wp2_with fail;with_reducible refine (impl_CompareNielsen Ap1 A1 p1 xs cp1 c1 vp1 rpv rxv2 hcpp1 hcp HOp1.out HOX.out hlp1 hlx4).mono ?_
         rintro e up1 ⟨rfl,hmup1⟩;rw [← HZp1.out];have hmAp1:=hmp1.trans hmup1;have hmBp1:=hmBp0.trans hmAp1;have bxnp1:=bxnp0.mid hmAp1 oZr;have rxnp1:=(Rs.keep rxnp0 (w':=up1) (fun p hp=>World.cell?_of_block (hmAp1.block p.block hp (by omega)))).more hmAp1.size;have rynp1:=(Rs.keep rynp0 (w':=up1) (fun p hp=>World.cell?_of_block (hmAp1.block p.block hp (by omega)))).more hmAp1.size;have rinp1:=(Rs.keep rinp0 (w':=up1) (fun p hp=>World.cell?_of_block (hmAp1.block p.block hp (by omega)))).more hmAp1.size;clear rpv rxv2 halp1 hbp1 hmp1 hmup1;by_cases hltp1:zp1 < 0
         ·have q0:=bxnp1.cell 0 rfl
          have q1:=bxnp1.cell 1 rfl;have q2:=bxnp1.cell 2 rfl;have q3:=bxnp1.cell 3 rfl;have fq:=bxnp1.2.2;go_wp2_with fail;have hf:tryK d i k=some ⟨2,i,k,(-1)⟩:=tryK_some (n:=1) (by omega) (fun j hj=>by (have h3:j=0:=(by omega);subst h3;exact HFp0.out)) (by rw [HTp1.out];exact decide_eq_true hltp1);refine bodyPost_ret (v:=.tuple #[.agg #[.int .i64 2,.int .i64 i,.int .i64 k,.int .i64 (-1)],.bool true]) (by simp [results,Tryz.results27,go_sem,q0,q1,q2,q3,fq]) rfl (RetNM.some (nextM_I HD.out HI.out hlt HK.out hltk hf) ?_);repeat (first | exact hmBp1 | refine Mid.storeNew ?_ (by simp) _)
         ·have hfp1:mvTry d i k 1=false:=by rw [HTp1.out];exact decide_eq_false hltp1
          have HFp1:=Lib.hid hfp1;clear hfp1;obtain ⟨p2,hp2⟩:∃ z,z=red [] (ys++xs):=⟨_,rfl⟩
          have ep2:mvRes xs ys 2=p2:=by rw [hp2];rfl
          have hlp2:p2.length≤1048576:=by rw [← ep2];exact Nat.le_trans (HLQ.out 2) (by omega)
          have hop2:=HOQ.out 2;rw [ep2] at hop2;have HOp2:=Lib.hid hop2;have htp2:=HT.out 2 (by omega);rw [ep2] at htp2;obtain ⟨zp2,hzp2⟩:∃ z,z=cmpN p2 xs:=⟨_,rfl⟩
          rw [← hzp2] at htp2;have HTp2:=Lib.hid htp2;have HZp2:=Lib.hid hzp2;have halp2:Mid 0 0 up1 (up1.alloc (.cells #[.slice A2 ys.length c2,.slice A1 xs.length c1] 44)):=Mid.alloc _ _;have hCp2:=impl_product2 A2 ys c2 A1 xs c1 up1 rynp1 rxnp1 HOY.out HOX.out (by omega);rw [← hp2] at hCp2;have HCp2:=Lib.hid hCp2;clear hp2 ep2 hop2 htp2 hzp2 hCp2;go_wp2_with fail;refine (HCp2.out).mono ?_;rintro e vp2 ⟨Ap2,cp2,rfl,hop2,hbp2⟩;have hmp2:=halp2.trans (Mid.of_below hbp2);have rxv:=Rs.keep rxnp1 (w':=vp2) (fun p hp=>World.cell?_of_block (hmp2.block p.block hp (by omega)));have rxv2:=rxv.more hmp2.size;have rpv:Rs vp2 vp2.heap.size Ap2 (ints p2):=Rs.of_own hop2;have hcpp2:=owns_cap hop2;clear hop2 rxv;go_wp2_with fail;with_reducible refine (impl_CompareNielsen Ap2 A1 p2 xs cp2 c1 vp2 rpv rxv2 hcpp2 hcp HOp2.out HOX.out hlp2 hlx4).mono ?_
          rintro e up2 ⟨rfl,hmup2⟩;rw [← HZp2.out];have hmAp2:=hmp2.trans hmup2;have hmBp2:=hmBp1.trans hmAp2;have bxnp2:=bxnp1.mid hmAp2 oZr;have rxnp2:=(Rs.keep rxnp1 (w':=up2) (fun p hp=>World.cell?_of_block (hmAp2.block p.block hp (by omega)))).more hmAp2.size;have rynp2:=(Rs.keep rynp1 (w':=up2) (fun p hp=>World.cell?_of_block (hmAp2.block p.block hp (by omega)))).more hmAp2.size;have rinp2:=(Rs.keep rinp1 (w':=up2) (fun p hp=>World.cell?_of_block (hmAp2.block p.block hp (by omega)))).more hmAp2.size;clear rpv rxv2 halp2 hbp2 hmp2 hmup2;by_cases hltp2:zp2 < 0
          ·have q0:=bxnp2.cell 0 rfl
           have q1:=bxnp2.cell 1 rfl;have q2:=bxnp2.cell 2 rfl;have q3:=bxnp2.cell 3 rfl;have fq:=bxnp2.2.2;go_wp2_with fail;have hf:tryK d i k=some ⟨3,i,k,1⟩:=tryK_some (n:=2) (by omega) (fun j hj=>by (have h3:j=0 ∨ j=1:=(by omega);rcases h3 with rfl | rfl;exact HFp0.out;exact HFp1.out)) (by rw [HTp2.out];exact decide_eq_true hltp2);refine bodyPost_ret (v:=.tuple #[.agg #[.int .i64 3,.int .i64 i,.int .i64 k,.int .i64 1],.bool true]) (by simp [results,Tryz.results27,go_sem,q0,q1,q2,q3,fq]) rfl (RetNM.some (nextM_I HD.out HI.out hlt HK.out hltk hf) ?_);repeat (first | exact hmBp2 | refine Mid.storeNew ?_ (by simp) _)
          ·have hfp2:mvTry d i k 2=false:=by rw [HTp2.out];exact decide_eq_false hltp2
           have HFp2:=Lib.hid hfp2;clear hfp2;obtain ⟨p3,hp3⟩:∃ z,z=red [] ((invW ys)++xs):=⟨_,rfl⟩
           have ep3:mvRes xs ys 3=p3:=by rw [hp3];rfl
           have hlp3:p3.length≤1048576:=by rw [← ep3];exact Nat.le_trans (HLQ.out 3) (by omega)
           have hop3:=HOQ.out 3;rw [ep3] at hop3;have HOp3:=Lib.hid hop3;have htp3:=HT.out 3 (by omega);rw [ep3] at htp3;obtain ⟨zp3,hzp3⟩:∃ z,z=cmpN p3 xs:=⟨_,rfl⟩
           rw [← hzp3] at htp3;have HTp3:=Lib.hid htp3;have HZp3:=Lib.hid hzp3;have halp3:Mid 0 0 up2 (up2.alloc (.cells #[.slice Ai (invW ys).length ci,.slice A1 xs.length c1] 44)):=Mid.alloc _ _;have hCp3:=impl_product2 Ai (invW ys) ci A1 xs c1 up2 rinp2 rxnp2 hoki.out HOX.out (by omega);rw [← hp3] at hCp3;have HCp3:=Lib.hid hCp3;clear hp3 ep3 hop3 htp3 hzp3 hCp3;go_wp2_with fail;refine (HCp3.out).mono ?_;rintro e vp3 ⟨Ap3,cp3,rfl,hop3,hbp3⟩;have hmp3:=halp3.trans (Mid.of_below hbp3);have rxv:=Rs.keep rxnp2 (w':=vp3) (fun p hp=>World.cell?_of_block (hmp3.block p.block hp (by omega)));have rxv2:=rxv.more hmp3.size;have rpv:Rs vp3 vp3.heap.size Ap3 (ints p3):=Rs.of_own hop3;have hcpp3:=owns_cap hop3;clear hop3 rxv;go_wp2_with fail;with_reducible refine (impl_CompareNielsen Ap3 A1 p3 xs cp3 c1 vp3 rpv rxv2 hcpp3 hcp HOp3.out HOX.out hlp3 hlx4).mono ?_
           rintro e up3 ⟨rfl,hmup3⟩;rw [← HZp3.out];have hmAp3:=hmp3.trans hmup3;have hmBp3:=hmBp2.trans hmAp3;have bxnp3:=bxnp2.mid hmAp3 oZr;have rxnp3:=(Rs.keep rxnp2 (w':=up3) (fun p hp=>World.cell?_of_block (hmAp3.block p.block hp (by omega)))).more hmAp3.size;have rynp3:=(Rs.keep rynp2 (w':=up3) (fun p hp=>World.cell?_of_block (hmAp3.block p.block hp (by omega)))).more hmAp3.size;have rinp3:=(Rs.keep rinp2 (w':=up3) (fun p hp=>World.cell?_of_block (hmAp3.block p.block hp (by omega)))).more hmAp3.size;clear rpv rxv2 halp3 hbp3 hmp3 hmup3;by_cases hltp3:zp3 < 0
           ·have q0:=bxnp3.cell 0 rfl
            have q1:=bxnp3.cell 1 rfl;have q2:=bxnp3.cell 2 rfl;have q3:=bxnp3.cell 3 rfl;have fq:=bxnp3.2.2;go_wp2_with fail;have hf:tryK d i k=some ⟨3,i,k,(-1)⟩:=tryK_some (n:=3) (by omega) (fun j hj=>by (have h3:j=0 ∨ j=1 ∨ j=2:=(by omega);rcases h3 with rfl | rfl | rfl;exact HFp0.out;exact HFp1.out;exact HFp2.out)) (by rw [HTp3.out];exact decide_eq_true hltp3);refine bodyPost_ret (v:=.tuple #[.agg #[.int .i64 3,.int .i64 i,.int .i64 k,.int .i64 (-1)],.bool true]) (by simp [results,Tryz.results27,go_sem,q0,q1,q2,q3,fq]) rfl (RetNM.some (nextM_I HD.out HI.out hlt HK.out hltk hf) ?_);repeat (first | exact hmBp3 | refine Mid.storeNew ?_ (by simp) _)
           ·have hfp3:mvTry d i k 3=false:=by rw [HTp3.out];exact decide_eq_false hltp3
            have HFp3:=Lib.hid hfp3;clear hfp3;go_wp2_with fail;go_roundw
            case rel =>
             have ht:tryK d i k=none:=tryK_none (fun j hj=>by
              have h3:j=0 ∨ j=1 ∨ j=2 ∨ j=3:=by omega
              rcases h3 with rfl | rfl | rfl | rfl
              ·exact HFp0.out
              ·exact HFp1.out
              ·exact HFp2.out
              ·exact HFp3.out)
             exact ⟨k+1,by omega,by go_num,by rw [find_range_succ _ _ HK.out,ht],bxnp3,hmBp3⟩
            case measure=>simp [intOf];omega
      ·obtain rfl:k=d.length:=by omega
       go_wp2_with fail;go_roundw
       case rel=>exact ⟨i+1,by omega,by go_num,by rw [find_range_succ _ _ HI.out];exact HK.out,hbx,hm⟩
       case measure=>simp [intOf];omega
    ·obtain rfl:i=d.length:=by omega
     go_wp2_with fail;refine bodyPost_ret (v:=.tuple #[.agg #[.int .i64 0,.int .i64 0,.int .i64 0,.int .i64 0],.bool false]) (by simp [results,Tryz.results27,go_sem,k0,k1,k2,k3,fx]) rfl (RetNM.none (nextM_none HD.out HI.out) ?_);repeat (first | exact hm | refine Mid.storeNew ?_ (by simp) _)
end
section
open Go.RowKit
theorem spec_ApplyMoveX (A:Option Addr) (d:List (List Int)) (c:Nat) (m:Mv) (w:World) (lo hi:Nat) (h:RSS w lo hi A d) (ho:∀ xs∈d,OkI xs) (hl:d.length+sumL d≤1048576) (res:List (List Int)) (b:Bool) (hres:ApplyMoveIs d m res b) :
  Calls Tryz.prog 25 #[.slice A d.length c,m.v] w fun e w'=>∃ A2 c2,e=.returned (.tuple #[.slice A2 res.length c2,.bool b])∧OSS w' w.heap.size w'.heap.size 44 3 A2 c2 res∧Mid 0 0 w w':=by
 have:=spec_ApplyMove A d c m w lo hi h ho hl;unfold RetMv at this;rw [show applyM d m=(res,b) from hres] at this;exact this
theorem spec_NextMove (A:Option Addr) (d:List (List Int)) (c:Nat) (w:World) (lo hi:Nat) (hr:RSC w lo hi A d) (hok:∀ xs∈d,OkI xs) (hl:d.length+sumL d≤1048576) :
  Calls Tryz.prog 28 #[.slice A d.length c] w (RetNM d w):=by
 have HOK:=Lib.hid hok;clear hok;have hb0:Mid 0 0 w (w.alloc (.cells #[.int .i64 0,.int .i64 0,.int .i64 0,.int .i64 0] 48)):=Mid.alloc _ _;have hbx0:=Box.new w #[.int .i64 0,.int .i64 0,.int .i64 0,.int .i64 0] 48;have hr0:=hr.mid hb0 oZl;have hhi:=hr.size;go_enter Tryz.func28,Tryz.ntmps28
 go_wp2_with fail;go_loop [4] (fun i=>∃ k:Nat,k≤d.length∧i=.int .i64 k∧(List.range k).findSome? (tryD d)=none) (fun i=>d.length - (intOf i).toNat)
 case atStart=>exact ⟨0,Nat.zero_le _,rfl,rfl⟩
 case round =>
  obtain ⟨k,hk,rfl,hD⟩:=hrel;have HD:=Lib.hid hD;clear hD;by_cases hlt:k < d.length
  ·obtain ⟨b,off,A1,c1,xs,rfl, -, -,hx,hcx, -, -⟩:=hr0.row hlt
   have hlt3:(k:Int) < (d.length:Int):=by omega
   have hxr:=rowAt_get hx;have HXR:=Lib.hid hxr;have hlx:=len_le_sumL (List.mem_of_getElem? hx);clear hx hxr;by_cases hz:xs.length=0
   ·obtain rfl:=List.eq_nil_of_length_eq_zero hz
    clear hz hlx;go_wp2_with fail;have ht:tryD d k=some ⟨4,k,0,0⟩:=by unfold tryD;rw [HXR.out];rfl
    have k0:=hbx0.cell 0 rfl;refine bodyPost_ret (v:=.tuple #[.agg #[.int .i64 4,.int .i64 k,.int .i64 0,.int .i64 0],.bool true]) (by simp [results,Tryz.results28,go_sem]) rfl (RetNM.some (nextM_D HD.out hlt ht) ?_);repeat (first | exact Mid.alloc _ _ | refine Mid.storeNew ?_ (by simp) _)
   ·have hz1:((xs.length:Int) == 0)=false:=by simp;intro h;exact hz (by rw [h];rfl)
    go_wp2_with fail;go_round
    case rel =>
     have ht:tryD d k=none:=by unfold tryD;rw [HXR.out,if_neg hz]
     exact ⟨k+1,by omega,by go_num,by rw [find_range_succ _ _ HD.out,ht]⟩
    case measure=>simp [intOf];omega
  ·obtain rfl:k=d.length:=by omega
   clear hlt hk;go_wp2_with fail;go_loopw [5,6,7,8,9,10] (fun i _ _ _ _ _ wr=>∃ k:Nat,k≤d.length∧i=.int .i64 k∧(List.range k).findSome? (tryI d)=none∧Box wr w.heap.size [.int .i64 0,.int .i64 0,.int .i64 0,.int .i64 0]∧Mid 0 0 w wr) (fun i _ _ _ _ _ _=>d.length - (intOf i).toNat)
   case atStart=>exact ⟨0,Nat.zero_le _,rfl,rfl,hbx0,hb0⟩
   case round =>
    obtain ⟨i,hi2,rfl,hI,hbx,hm⟩:=hrel;have HI:=Lib.hid hI;clear hI hr0 hb0 hbx0;have k0:=hbx.cell 0 rfl;have k1:=hbx.cell 1 rfl;have k2:=hbx.cell 2 rfl;have k3:=hbx.cell 3 rfl;have fx:=hbx.2.2;by_cases hlt:i < d.length
    ·obtain ⟨b,off,A1,c1,xs,hAe, -,hbhi,hx,hcx0,hrx,hcp⟩:=hr.row hlt
     have hcx:=cell_keep hm (show b < w.heap.size by omega) oZr hcx0;have hlt3:(i:Int) < (d.length:Int):=by omega
     have hlx:=len_le_sumL (List.mem_of_getElem? hx);have hox:=HOK.out xs (List.mem_of_getElem? hx);have HOX:=Lib.hid hox;have HX:=Lib.hid hx;subst hAe;clear hx hox;go_wp2_with fail;go_loopw [6,7,8,9,10] (fun j _ _ _ _ wr2=>∃ k:Nat,k≤d.length∧j=.int .i64 k∧(List.range k).findSome? (tryK d i)=none∧Box wr2 w.heap.size [.int .i64 0,.int .i64 0,.int .i64 0,.int .i64 0]∧Mid 0 0 w wr2) (fun j _ _ _ _ _=>d.length - (intOf j).toNat)
     case atStart=>exact ⟨0,Nat.zero_le _,rfl,rfl,hbx,hm⟩
     case round =>
      clear hbx k0 k1 k2 k3 fx hcx hm;obtain ⟨k,hk,rfl,hK,hbx,hm⟩:=hrel;have HK:=Lib.hid hK;clear hK;by_cases hltk:k < d.length
      ·obtain ⟨b2,off2,A2,c2,ys,hAe2, -, -,hy,hcy,hry,hcpy⟩:=(hr.mid hm oZl).row hltk
       have hrx3:=hrx.mid hm oZl;have hcx3:=cell_keep hm (show b < w.heap.size by omega) oZr hcx0;injection hAe2 with hAe2
       injection hAe2 with e1 e2
       subst e1 e2;have hltk3:(k:Int) < (d.length:Int):=by omega
       have hly:=len_le_sumL (List.mem_of_getElem? hy);have hoy:=HOK.out ys (List.mem_of_getElem? hy);have HOY:=Lib.hid hoy;have HY:=Lib.hid hy;clear hy hoy;go_wp2_with fail;go_loopw [7] (fun nn wr3=>∃ n:Nat,n≤4∧nn=.int .i64 n∧(List.range n).findSome? (tryN d i k)=none∧Box wr3 w.heap.size [.int .i64 0,.int .i64 0,.int .i64 0,.int .i64 0]∧Mid 0 0 w wr3) (fun nn _=>4 - (intOf nn).toNat)
       case atStart=>exact ⟨0,Nat.zero_le _,rfl,rfl,hbx,hm⟩
       case round =>
        clear hbx hm hcy hry hcx3 hrx3;obtain ⟨n,hn,rfl,hN,hbx,hm⟩:=hrel;have HN:=Lib.hid hN;clear hN;by_cases hltn:n < 4
        ·have hltn3:(n:Int) < 4:=by omega
         obtain ⟨x,is,hxi⟩:∃ x is,applyM d (mvOf i k n)=(x,is):=⟨_,_,rfl⟩
         have ht:=mvTry_eq hxi;have hrow:is=true→∃ zs,x[i]?=some zs∧zs.length≤1048576∧OkI zs:=fun his=>by
          by_cases hik:k=i
          ·subst hik
           have hk2:=(mvOf_kind (i:=k) (k:=k) hltn).1;have:(applyM d (mvOf k k n)).2=false:=by
            by_cases h0:0≤(mvOf k k n).i∧(mvOf k k n).i < d.length
            ·rw [applyM_bad (by omega) (by omega) (.inl (by simp [MvOk,mvOf]))]
            ·rw [applyM_out h0]
           rw [hxi] at this;rw [his] at this;cases this
          ·have h1:=(mvTry_at HX.out HY.out hik hltn).1
           rw [hxi] at h1;injection h1 with h1 _
           refine ⟨mvRes xs ys n,by rw [h1,List.getElem?_set_self hlt],?_,mvRes_ok HOX.out HOY.out n⟩;have h2:=two_le_sumL HX.out HY.out (Ne.symm hik);have h3:=mvRes_len xs ys n;omega
         have HROW:=Lib.hid hrow;have HT:=Lib.hid ht;have HXI:=Lib.hid (show ApplyMoveIs d (mvOf i k n) x is from hxi);have hlx4:xs.length≤1048576:=by omega
         clear hxi ht hrow;have hal:Mid 0 0 wr (wr.alloc (.cells #[.int .i64 (2+(n:Int) / 2),.int .i64 i,.int .i64 k,.int .i64 (1 - 2 * ((n:Int) % 2))] 48)):=Mid.alloc _ _;have hby:=Box.new wr #[.int .i64 (2+(n:Int) / 2),.int .i64 i,.int .i64 k,.int .i64 (1 - 2 * ((n:Int) % 2))] 48;have hma:=hm.trans hal;have hszm:=hm.size;have hbxa:=hbx.mid hal oZr;have hra:=(hr.mid hma oZl)
         have hC:=spec_ApplyMoveX (some ⟨b,off,none⟩) d c (mvOf i k n) _ _ _ hra.rss HOK.out hl x is HXI.out;have HC:=Lib.hid hC;clear hC;go_wp2_with fail;refine (HC.out).mono ?_;rintro e w1 ⟨Ax,cx,rfl,hox,hmx⟩;have hm1:=hma.trans hmx;have hby1:=hby.mid hmx oZr;have hbx1:=hbxa.mid hmx oZr;have hr1:=hr.mid hm1 oZl;have y0:=hby1.cell 0 rfl;have y1:=hby1.cell 1 rfl;have y2:=hby1.cell 2 rfl;have y3:=hby1.cell 3 rfl;cases hisc:is with
         | false =>
          subst hisc;go_wp2_with fail;go_quiet (fail)
          go_wp2_with fail;go_roundw
          case rel=>exact ⟨n+1,by omega,by go_num,by rw [find_range_succ _ _ HN.out];unfold tryN;rw [HT.out];rfl,by first | exact hbx1 | exact hbx1.drewN _,by first | exact hm1 | exact hm1.drewN _⟩
          case measure=>simp [intOf];omega
         | true =>
          subst hisc;obtain ⟨zs,hzs,hlz,hoz⟩:=HROW.out rfl;have hxl:i < x.length:=(List.getElem?_eq_some_iff.1 hzs).1;have hmd:=Mid.drew1 w1;obtain ⟨b4,off4,A4,c4,zs4,hAe4, -,hbh4,hz4,hcz,hrz,hcpz⟩:=(hox.rsc.mid hmd oZl).row hxl;rw [hzs] at hz4;obtain rfl:=Option.some.inj hz4;subst hAe4;obtain ⟨b5,off5,A5,c5,xs5,hAe5, -,hbh5,hx5,hcx5,hrx5,hcp5⟩:=(hr1.mid hmd oZl).row hlt;rw [HX.out] at hx5;obtain rfl:=Option.some.inj hx5;injection hAe5 with hAe5
          injection hAe5 with e1 e2
          subst e1 e2;have hrz1:=rowAt_get hzs;have hrz2:=rowAt_get HX.out;obtain ⟨q,hq⟩:∃ q,q=cmpN zs xs:=⟨_,rfl⟩
          have HQ:=Lib.hid hq;have ht2:=HT.out;rw [hrz1,hrz2,← hq] at ht2;have HT2:=Lib.hid ht2;have HOZ:=Lib.hid hoz;have hszd:w1.heap.size=w1.drew.heap.size:=rfl;have hs4:b4 < w1.drew.heap.size:=by have:=hox.size;omega
          have hs5:b < w1.drew.heap.size:=by have:=hr1.size;omega
          have hcz1:w1.cell? ⟨b4,off4+i,none⟩=some (.slice A4 zs.length c4):=hcz;have hcx1:w1.cell? ⟨b,off+i,none⟩=some (.slice A5 xs.length c5):=hcx5;have hxl3:(i:Int) < (x.length:Int):=by omega
          have hi0:(0:Int)≤(i:Int):=by omega
          have hC:=spec_CompareNielsen A4 A5 zs xs c4 c5 w1.drew hrz.rsS hrx5.rsS hcpz hcp5 hoz HOX.out hlz hlx4;rw [← hq] at hC;have HC2:=Lib.hid hC;clear hq ht2 hC hz4 hx5 hzs hrz1 hrz2 hoz hszd;go_wp2_with fail;go_region_held3 (fun w'=>w'.cell? ⟨b4,off4+i,none⟩=some (.slice A4 zs.length c4)∧w'.cell? ⟨b,off+i,none⟩=some (.slice A5 xs.length c5)) (first | exact ⟨hcz1,hcx1⟩ | exact ⟨hcz,hcx5⟩ | exact ⟨hcz2,hcx2⟩) (first | (go_at_call 36;refine (HC2.out).mono ?_;rintro e w2 ⟨rfl,hm2⟩;have hcz2:=cell_keep hm2 hs4 oZr hcz;have hcx2:=cell_keep hm2 hs5 oZr hcx5))
          have hmt:=(hm1.trans hmd).trans hm2;have hbx2:=(hbx1.mid hmd oZr).mid hm2 oZr;have hby2:=(hby1.mid hmd oZr).mid hm2 oZr;have z0:=hby2.cell 0 rfl;have z1:=hby2.cell 1 rfl;have z2:=hby2.cell 2 rfl;have z3:=hby2.cell 3 rfl;have q0:=hbx2.cell 0 rfl;have q1:=hbx2.cell 1 rfl;have q2:=hbx2.cell 2 rfl;have q3:=hbx2.cell 3 rfl;have fq:=hbx2.2.2;by_cases hqlt:q < 0
          ·go_wp2_with fail
           have hfN:tryN d i k n=some (mvOf i k n):=by unfold tryN;rw [HT2.out,decide_eq_true hqlt];rfl
           have hf:tryK d i k=some (mvOf i k n):=by unfold tryK;exact find_range_some _ HN.out hltn hfN
           refine bodyPost_ret (v:=.tuple #[.agg #[.int .i64 (2+(n:Int) / 2),.int .i64 i,.int .i64 k,.int .i64 (1 - 2 * ((n:Int) % 2))],.bool true]) (by simp [results,Tryz.results28,go_sem,q0,q1,q2,q3,fq]) rfl (RetNM.some (nextM_I HD.out HI.out hlt HK.out hltk hf) ?_);repeat (first | exact hmt | refine Mid.storeNew ?_ (by simp) _)
          ·go_wp2_with fail
           go_roundw
           case rel=>exact ⟨n+1,by omega,by go_num,by rw [find_range_succ _ _ HN.out];unfold tryN;rw [HT2.out,decide_eq_false hqlt];rfl,hbx2,hmt⟩
           case measure=>simp [intOf];omega
        ·obtain rfl:n=4:=by omega
         go_wp2_with fail;go_roundw
         case rel=>exact ⟨k+1,by omega,by go_num,by rw [find_range_succ _ _ HK.out];exact HN.out,hbx,hm⟩
         case measure=>simp [intOf];omega
      ·obtain rfl:k=d.length:=by omega
       go_wp2_with fail;go_roundw
       case rel=>exact ⟨i+1,by omega,by go_num,by rw [find_range_succ _ _ HI.out];exact HK.out,hbx,hm⟩
       case measure=>simp [intOf];omega
    ·obtain rfl:i=d.length:=by omega
     go_wp2_with fail;refine bodyPost_ret (v:=.tuple #[.agg #[.int .i64 0,.int .i64 0,.int .i64 0,.int .i64 0],.bool false]) (by simp [results,Tryz.results28,go_sem,k0,k1,k2,k3,fx]) rfl (RetNM.none (nextM_none HD.out HI.out) ?_);repeat (first | exact hm | refine Mid.storeNew ?_ (by simp) _)
end
section
open Go.RowKit
def AreW (rk:Int) (d:List (List Int)):Prop:=1≤rk∧rk≤3∧d.length≤6∧(∀ xs∈d,IsW rk xs)∧sumL d < 40
theorem impl_TotalLength (A:Option Addr) (d:List (List Int)) (c:Nat) (w:World) (lo hi:Nat) (hr:RSS w lo hi A d) (hl:d.length+sumL d≤1048576) :
  Calls Tryz.prog 179 #[.slice A d.length c] w fun e w'=>e=.returned (.int .i64 (sumL d:Nat))∧w=w':=by
 go_enter Tryz.func179,Tryz.ntmps179
 go_wp2_with fail;go_loop [3,5,8] (fun n _ i=>∃ k:Nat,k≤d.length∧i=.int .i64 k∧n=.int .i64 (sumL (d.take k):Nat)) (fun _ _ i=>d.length - (intOf i).toNat)
 case atStart=>exact ⟨0,Nat.zero_le _,rfl,by simp [sumL]⟩
 case round =>
  obtain ⟨k,hk,rfl,rfl⟩:=hrel;have hs:=sumL_take_le d k;by_cases hlt:k < d.length
  ·obtain ⟨b,off,A1,c1,xs,rfl, -, -,hx,hcx, -⟩:=hr.row hlt
   have hst:=sumL_take_succ hx;have hs2:=sumL_take_le d (k+1);have hsum:sumL (d.take k)+xs.length≤1048576:=by omega
   have HST:=Lib.hid hst;clear hst hs2 hx;go_wp2_with fail;go_round
   case rel=>exact ⟨k+1,by omega,by go_num,by rw [HST.out];go_num⟩
   case measure=>simp [intOf];omega
  ·obtain rfl:k=d.length:=by omega
   go_wp2_with fail;go_ret;exact ⟨by first | rfl | rw [List.take_length] | simp,rfl⟩
theorem spec_TotalLength (A:Option Addr) (d:List (List Int)) (c:Nat) (w:World) (lo hi:Nat) (hr:RSS w lo hi A d) (hl:d.length+sumL d≤1048576) :
  Calls Tryz.prog 20 #[.slice A d.length c] w fun e w'=>e=.returned (.int .i64 (sumL d:Nat))∧w=w':=by
 go_enter Tryz.func20,Tryz.ntmps20
 go_wp2_with fail;go_loop [3,4] (fun n i=>∃ k:Nat,k≤d.length∧i=.int .i64 k∧n=.int .i64 (sumL (d.take k):Nat)) (fun _ i=>d.length - (intOf i).toNat)
 case atStart=>exact ⟨0,Nat.zero_le _,rfl,by simp [sumL]⟩
 case round =>
  obtain ⟨k,hk,rfl,rfl⟩:=hrel;have hs:=sumL_take_le d k;by_cases hlt:k < d.length
  ·obtain ⟨b,off,A1,c1,xs,rfl, -, -,hx,hcx, -⟩:=hr.row hlt
   have hst:=sumL_take_succ hx;have hs2:=sumL_take_le d (k+1);have hsum:sumL (d.take k)+xs.length≤1048576:=by omega
   have hlt3:(k:Int) < (d.length:Int):=by omega
   have HST:=Lib.hid hst;clear hst hs2 hx;go_wp2_with fail;go_round
   case rel=>exact ⟨k+1,by omega,by go_num,by rw [HST.out];go_num⟩
   case measure=>simp [intOf];omega
  ·obtain rfl:k=d.length:=by omega
   go_wp2_with fail;go_ret;exact ⟨by first | rfl | rw [List.take_length] | simp,rfl⟩
theorem bool_false {r:Bool} {p:Prop} (h:r=true↔p) (hn:¬ p):r=false:=by
 cases r with
 | false=>rfl
 | true=>exact absurd (h.1 rfl) hn
theorem impl_AreWords (rk:Int) (A:Option Addr) (d:List (List Int)) (c:Nat) (w:World) (lo hi:Nat) (hr:RSS w lo hi A d) (hok:∀ xs∈d,OkI xs) (hl:d.length+sumL d≤1048576) (r:Bool) (hres:r=true↔AreW rk d) :
  Calls Tryz.prog 95 #[.int .i64 rk,.slice A d.length c] w fun e w'=>e=.returned (.bool r)∧w=w':=by
 have HOK:=Lib.hid hok;have HR:=Lib.hid hres;clear hok hres;by_cases hb:inB rk 1 3=false
 ·obtain rfl:r=false:=bool_false HR.out (fun h=>by simp [inB] at hb;have:=h.1;have:=h.2.1;omega)
  have HB:=Lib.hid hb;clear hb;go_enter Tryz.func95,Tryz.ntmps95
  go_wp2_with fail;with_reducible refine (within_any _ _ _ _).mono ?_
  rintro e w' ⟨rfl,rfl⟩;rw [HB.out];go_wp2_with fail;go_ret;exact ⟨rfl,rfl⟩
 ·have hb':inB rk 1 3=true:=by simpa using hb
  have HB:=Lib.hid hb';have hrk:1≤rk∧rk≤3:=by simpa [inB] using hb'
  clear hb hb';by_cases h6:6 < d.length
  ·obtain rfl:r=false:=bool_false HR.out (fun h=>by have:=h.2.2.1;omega)
   have h63:(6:Int) < (d.length:Int):=by omega
   go_enter Tryz.func95,Tryz.ntmps95
   go_wp2_with fail;with_reducible refine (within_any _ _ _ _).mono ?_
   rintro e w' ⟨rfl,rfl⟩;rw [HB.out];go_wp2_with fail;go_ret;exact ⟨rfl,rfl⟩
  ·have h63:¬ (6:Int) < (d.length:Int):=by omega
   go_enter Tryz.func95,Tryz.ntmps95
   go_wp2_with fail;with_reducible refine (within_any _ _ _ _).mono ?_
   rintro e w' ⟨rfl,rfl⟩;rw [HB.out];go_wp2_with fail;go_loop [6,17] (fun _ i=>∃ k:Nat,k≤d.length∧i=.int .i64 k∧WordsTo rk d k) (fun _ i=>d.length - (intOf i).toNat)
   case atStart=>exact ⟨0,Nat.zero_le _,rfl,WordsTo.zero _ _⟩
   case round =>
    obtain ⟨k,hk,rfl,hw⟩:=hrel;have HW:=Lib.hid hw;clear hw;by_cases hlt:k < d.length
    ·obtain ⟨b,off,A1,c1,xs,rfl, -, -,hx,hcx,hrx⟩:=hr.row hlt
     have hlx:=row_le (List.mem_of_getElem? hx) hl;have hox:=HOK.out xs (List.mem_of_getElem? hx);have HOX:=Lib.hid hox;have HX:=Lib.hid hx;clear hx hox;obtain ⟨v,hv⟩:=bool_ofR (IsW rk xs);have HV:=Lib.hid hv;clear hv;cases hvc:v with
     | false =>
      subst hvc;go_wp2_with fail;with_reducible refine (impl_IsWord rk A1 xs c1 _ _ hrx.rs HOX.out hlx false HV.out).mono ?_
      rintro e w' ⟨rfl,rfl⟩;go_wp2_with fail;go_ret;obtain rfl:r=false:=bool_false HR.out (fun h=>by have:=HV.out.2 (h.2.2.2.1 xs (List.mem_of_getElem? HX.out));cases this);exact ⟨rfl,rfl⟩
     | true =>
      subst hvc;have HV2:=Lib.hid (HV.out.1 rfl);clear HV;go_wp2_with fail;with_reducible refine (impl_IsWord rk A1 xs c1 _ _ hrx.rs HOX.out hlx true (iff_of_true rfl HV2.out)).mono ?_
      rintro e w' ⟨rfl,rfl⟩;go_wp2_with fail;go_round
      case rel=>exact ⟨k+1,by omega,by go_num,HW.out.succ HX.out HV2.out⟩
      case measure=>simp [intOf];omega
    ·obtain rfl:k=d.length:=by omega
     by_cases h40:sumL d < 40
     ·obtain rfl:r=true:=HR.out.2 ⟨hrk.1,hrk.2,by omega,wordsTo_all.1 HW.out,h40⟩
      have h403:(sumL d:Int) < 40:=by omega
      go_wp2_with fail;with_reducible refine (impl_TotalLength A d c _ _ _ hr hl).mono ?_
      rintro e w' ⟨rfl,rfl⟩;go_wp2_with fail;go_ret;exact ⟨by simp [h403],rfl⟩
     ·obtain rfl:r=false:=bool_false HR.out (fun h=>h40 h.2.2.2.2)
      have h403:¬ (sumL d:Int) < 40:=by omega
      go_wp2_with fail;with_reducible refine (impl_TotalLength A d c _ _ _ hr hl).mono ?_
      rintro e w' ⟨rfl,rfl⟩;go_wp2_with fail;go_ret;exact ⟨by simp;omega,rfl⟩
theorem spec_AreWords (rk:Int) (A:Option Addr) (d:List (List Int)) (c:Nat) (w:World) (lo hi:Nat) (hr:RSS w lo hi A d) (hok:∀ xs∈d,OkI xs) (hl:d.length+sumL d≤1048576) (r:Bool) (hres:r=true↔AreW rk d) :
  Calls Tryz.prog 14 #[.int .i64 rk,.slice A d.length c] w fun e w'=>e=.returned (.bool r)∧∃ n,w'=w.drewN n:=by
 have HOK:=Lib.hid hok;have HR:=Lib.hid hres;clear hok hres;go_enter Tryz.func14,Tryz.ntmps14
 go_wp2_with fail;go_loopw [5] (fun i wr=>∃ k:Nat,k≤d.length∧i=.int .i64 k∧WordsTo rk d k∧∃ n,wr=w.drewN n) (fun i _=>d.length - (intOf i).toNat)
 case atStart=>exact ⟨0,Nat.zero_le _,rfl,WordsTo.zero _ _,0,rfl⟩
 case round =>
  obtain ⟨k,hk,rfl,hw,nd,rfl⟩:=hrel;have HW:=Lib.hid hw;clear hw;by_cases hlt:k < d.length
  ·obtain ⟨b,off,A1,c1,xs,rfl, -, -,hx,hcx,hrx⟩:=hr.row hlt
   have hlx:=row_le (List.mem_of_getElem? hx) hl;have hox:=HOK.out xs (List.mem_of_getElem? hx);have HOX:=Lib.hid hox;have HX:=Lib.hid hx;have hlt3:(k:Int) < (d.length:Int):=by omega
   clear hx hox;obtain ⟨v,hv⟩:=bool_ofR (IsW rk xs);have HV:=Lib.hid hv;clear hv;cases hvc:v with
   | false =>
    subst hvc;go_wp2_with fail;with_reducible refine (spec_IsWord rk A1 xs c1 _ _ (hrx.rs.drewN nd) HOX.out hlx false HV.out).mono ?_
    rintro e w' ⟨rfl,n2,rfl⟩;go_wp2_with fail;go_ret;obtain rfl:r=false:=bool_false HR.out (fun h=>by have:=HV.out.2 (h.2.2.2.1 xs (List.mem_of_getElem? HX.out));cases this);exact ⟨rfl,_,by first | rfl | exact dn _ _ _⟩
   | true =>
    subst hvc;have HV2:=Lib.hid (HV.out.1 rfl);clear HV;go_wp2_with fail;with_reducible refine (spec_IsWord rk A1 xs c1 _ _ (hrx.rs.drewN nd) HOX.out hlx true (iff_of_true rfl HV2.out)).mono ?_
    rintro e w' ⟨rfl,n2,rfl⟩;go_wp2_with fail;go_roundw
    case rel=>exact ⟨k+1,by omega,by go_num,HW.out.succ HX.out HV2.out,_,by first | rfl | exact dn _ _ _⟩
    case measure=>simp [intOf];omega
  ·obtain rfl:k=d.length:=by omega
   by_cases hb:inB rk 1 3=false
   ·obtain rfl:r=false:=bool_false HR.out (fun h=>by simp [inB] at hb;have:=h.1;have:=h.2.1;omega)
    have HB:=Lib.hid hb;clear hb;go_wp2_with fail;with_reducible refine (l1In_any _ _ _ _).mono ?_
    rintro e w' ⟨rfl,rfl⟩;rw [HB.out];go_wp2_with fail;go_ret;exact ⟨rfl,_,rfl⟩
   ·have hb':inB rk 1 3=true:=by simpa using hb
    have HB:=Lib.hid hb';have hrk:1≤rk∧rk≤3:=by simpa [inB] using hb'
    clear hb hb';by_cases h6:6 < d.length
    ·obtain rfl:r=false:=bool_false HR.out (fun h=>by have:=h.2.2.1;omega)
     have h63:¬ (d.length:Int)≤6:=by omega
     go_wp2_with fail;with_reducible refine (l1In_any _ _ _ _).mono ?_
     rintro e w' ⟨rfl,rfl⟩;rw [HB.out];go_wp2_with fail;go_ret;exact ⟨by first | rfl | (simp;omega),_,rfl⟩
    ·have h63:(d.length:Int)≤6:=by omega
     by_cases h40:sumL d < 40
     ·obtain rfl:r=true:=HR.out.2 ⟨hrk.1,hrk.2,by omega,wordsTo_all.1 HW.out,h40⟩
      have h403:(sumL d:Int) < 40:=by omega
      go_wp2_with fail;with_reducible refine (l1In_any _ _ _ _).mono ?_
      rintro e w' ⟨rfl,rfl⟩;rw [HB.out];go_wp2_with fail;with_reducible refine (spec_TotalLength A d c (w.drewN nd) _ _ (hr.mid ((Mid.refl 0 0 w).drewN nd) oZl) hl).mono ?_
      rintro e w' ⟨rfl,rfl⟩;go_wp2_with fail;go_ret;exact ⟨by simp [h403],_,rfl⟩
     ·obtain rfl:r=false:=bool_false HR.out (fun h=>h40 h.2.2.2.2)
      have h403:¬ (sumL d:Int) < 40:=by omega
      go_wp2_with fail;with_reducible refine (l1In_any _ _ _ _).mono ?_
      rintro e w' ⟨rfl,rfl⟩;rw [HB.out];go_wp2_with fail;with_reducible refine (spec_TotalLength A d c (w.drewN nd) _ _ (hr.mid ((Mid.refl 0 0 w).drewN nd) oZl) hl).mono ?_
      rintro e w' ⟨rfl,rfl⟩;go_wp2_with fail;go_ret;exact ⟨by simp;omega,_,rfl⟩
end
section
open Go.RowKit
theorem spec_l20Words (A:Option Addr) (d:List (List Int)) (c:Nat) (w:World) (lo hi:Nat) (hr:RSS w lo hi A d) (hok:∀ xs∈d,OkI xs) (hl:d.length+sumL d≤1048576) (r:Bool) (hres:r=true↔AreW 3 d) :
  Calls Tryz.prog 97 #[.slice A d.length c] w fun e w'=>e=.returned (.bool r)∧∃ n,w'=w.drewN n:=by
 have HOK:=Lib.hid hok;have HR:=Lib.hid hres;clear hok hres;go_enter Tryz.func97,Tryz.ntmps97
 go_wp2_with fail;with_reducible refine (spec_AreWords 3 A d c _ _ _ hr HOK.out hl r HR.out).mono ?_
 rintro e w' ⟨rfl,n,rfl⟩;go_wp2_with fail;go_ret;exact ⟨rfl,_,rfl⟩
abbrev RetNE (d:List (List Int)) (w:World) (e:Ending) (w':World):Prop:=e=.returned (.tuple #[.agg #[.int .i64 (mvD (nextM d)).kind,.int .i64 (mvD (nextM d)).i,.int .i64 (mvD (nextM d)).j,.int .i64 (mvD (nextM d)).sign],.bool (nextM d).isSome])∧Mid 0 0 w w'
theorem impl_NextMoveE (A:Option Addr) (d:List (List Int)) (c:Nat) (w:World) (lo hi:Nat) (hr:RSC w lo hi A d) (hok:∀ xs∈d,OkI xs) (hl:d.length+sumL d≤1048576) :
  Calls Tryz.prog 27 #[.slice A d.length c] w (RetNE d w):=impl_NextMove A d c w lo hi hr hok hl
theorem spec_NextMoveE (A:Option Addr) (d:List (List Int)) (c:Nat) (w:World) (lo hi:Nat) (hr:RSC w lo hi A d) (hok:∀ xs∈d,OkI xs) (hl:d.length+sumL d≤1048576) :
  Calls Tryz.prog 28 #[.slice A d.length c] w (RetNE d w):=spec_NextMove A d c w lo hi hr hok hl
def IsNielsenReducedIs (d:List (List Int)) (res:Bool):Prop:=res=true↔(AreW 3 d∧nextM d=none)
theorem IsNielsenReducedIs_ex (d:List (List Int)) (_:OkSS d) (_:d.length+sumL d≤1048576):∃ res,IsNielsenReducedIs d res:=bool_ofR _
theorem isSome_eq (o:Option Mv):(o.isSome=true∧¬ o=none) ∨ (o.isSome=false∧o=none):=by cases o <;> simp
theorem simpl_IsNielsenReduced (A:Option Addr) (d:List (List Int)) (c:Nat) (w:World) (lo hi:Nat) (h:OSS w lo hi 44 3 A c d) (ho:OkSS d) (hl:d.length+sumL d≤1048576) (res:Bool) (hres:IsNielsenReducedIs d res) :
  Calls Tryz.prog 17 #[.slice A d.length c] w (Stp (.bool res) w):=by
 have hr:=h.rsc;have HOK:=Lib.hid ho.2;have HR:=Lib.hid hres;clear h hres;obtain ⟨v,hv⟩:=bool_ofR (AreW 3 d);have HV:=Lib.hid hv;clear hv;cases hvc:v with
 | false =>
  subst hvc;have hn:¬ AreW 3 d:=fun h=>by have:=HV.out.2 h;cases this
  obtain rfl:res=false:=bool_false HR.out (fun h=>hn h.1);have HN:=Lib.hid hn;clear HV hn;go_enter Tryz.func17,Tryz.ntmps17
  go_wp2_with fail;with_reducible refine (impl_AreWords 3 A d c _ _ _ hr.rss HOK.out hl false (iff_of_false Bool.false_ne_true HN.out)).mono ?_
  rintro e w' ⟨rfl,rfl⟩;go_wp2_with fail;go_ret;exact ⟨rfl,Mid.refl _ _ _⟩
 | true =>
  subst hvc;have HV2:=Lib.hid (HV.out.1 rfl);clear HV;rcases isSome_eq (nextM d) with ⟨h1,h2⟩ | ⟨h1,h2⟩
  ·obtain rfl:res=false:=bool_false HR.out (fun h=>h2 h.2)
   have H1:=Lib.hid h1;clear h1 h2 HR;go_enter Tryz.func17,Tryz.ntmps17
   go_wp2_with fail;with_reducible refine (impl_AreWords 3 A d c _ _ _ hr.rss HOK.out hl true (iff_of_true rfl HV2.out)).mono ?_
   rintro e w' ⟨rfl,rfl⟩;go_wp2_with fail;with_reducible refine (impl_NextMoveE A d c _ _ _ hr HOK.out hl).mono ?_
   rintro e w1 ⟨rfl,hm1⟩;rw [H1.out];go_wp2_with fail;go_ret;exact ⟨rfl,hm1.trans (Mid.alloc _ _)⟩
  ·obtain rfl:res=true:=HR.out.2 ⟨HV2.out,h2⟩
   have H1:=Lib.hid h1;clear h1 h2 HR;go_enter Tryz.func17,Tryz.ntmps17
   go_wp2_with fail;with_reducible refine (impl_AreWords 3 A d c _ _ _ hr.rss HOK.out hl true (iff_of_true rfl HV2.out)).mono ?_
   rintro e w' ⟨rfl,rfl⟩;go_wp2_with fail;with_reducible refine (impl_NextMoveE A d c _ _ _ hr HOK.out hl).mono ?_
   rintro e w1 ⟨rfl,hm1⟩;rw [H1.out];go_wp2_with fail;go_ret;exact ⟨rfl,hm1.trans (Mid.alloc _ _)⟩
theorem sspec_IsNielsenReduced (A:Option Addr) (d:List (List Int)) (c:Nat) (w:World) (lo hi:Nat) (h:OSS w lo hi 44 3 A c d) (ho:OkSS d) (hl:d.length+sumL d≤1048576) (res:Bool) (hres:IsNielsenReducedIs d res) :
  Calls Tryz.prog 34 #[.slice A d.length c] w (Stp (.bool res) w):=by
 have hr:=h.rsc;have HOK:=Lib.hid ho.2;have HR:=Lib.hid hres;clear h hres;obtain ⟨v,hv⟩:=bool_ofR (AreW 3 d);have HV:=Lib.hid hv;clear hv;cases hvc:v with
 | false =>
  subst hvc;have hn:¬ AreW 3 d:=fun h=>by have:=HV.out.2 h;cases this
  obtain rfl:res=false:=bool_false HR.out (fun h=>hn h.1);have HN:=Lib.hid hn;clear HV hn;go_enter Tryz.func34,Tryz.ntmps34
  go_wp2_with fail;with_reducible refine (spec_NextMoveE A d c _ _ _ hr HOK.out hl).mono ?_
  rintro e w1 ⟨rfl,hm1⟩;have hr1:=hr.mid (hm1.trans (Mid.alloc w1 (.cells #[.int .i64 (mvD (nextM d)).kind,.int .i64 (mvD (nextM d)).i,.int .i64 (mvD (nextM d)).j,.int .i64 (mvD (nextM d)).sign] 48))) oZl;go_wp2_with fail;refine (spec_l20Words A d c _ _ _ hr1.rss HOK.out hl false (iff_of_false Bool.false_ne_true HN.out)).mono ?_;rintro e w2 ⟨rfl,n,rfl⟩;go_wp2_with fail;go_ret;exact ⟨rfl,(hm1.trans (Mid.alloc _ _)).drewN _⟩
 | true =>
  subst hvc;have HV2:=Lib.hid (HV.out.1 rfl);clear HV;rcases isSome_eq (nextM d) with ⟨h1,h2⟩ | ⟨h1,h2⟩
  ·obtain rfl:res=false:=bool_false HR.out (fun h=>h2 h.2)
   have H1:=Lib.hid h1;clear h1 h2 HR;go_enter Tryz.func34,Tryz.ntmps34
   go_wp2_with fail;with_reducible refine (spec_NextMoveE A d c _ _ _ hr HOK.out hl).mono ?_
   rintro e w1 ⟨rfl,hm1⟩;rw [H1.out];have hr1:=hr.mid (hm1.trans (Mid.alloc w1 (.cells #[.int .i64 (mvD (nextM d)).kind,.int .i64 (mvD (nextM d)).i,.int .i64 (mvD (nextM d)).j,.int .i64 (mvD (nextM d)).sign] 48))) oZl;go_wp2_with fail;refine (spec_l20Words A d c _ _ _ hr1.rss HOK.out hl true (iff_of_true rfl HV2.out)).mono ?_;rintro e w2 ⟨rfl,n,rfl⟩;go_wp2_with fail;go_ret;exact ⟨rfl,(hm1.trans (Mid.alloc _ _)).drewN _⟩
  ·obtain rfl:res=true:=HR.out.2 ⟨HV2.out,h2⟩
   have H1:=Lib.hid h1;clear h1 h2 HR;go_enter Tryz.func34,Tryz.ntmps34
   go_wp2_with fail;with_reducible refine (spec_NextMoveE A d c _ _ _ hr HOK.out hl).mono ?_
   rintro e w1 ⟨rfl,hm1⟩;rw [H1.out];have hr1:=hr.mid (hm1.trans (Mid.alloc w1 (.cells #[.int .i64 (mvD (nextM d)).kind,.int .i64 (mvD (nextM d)).i,.int .i64 (mvD (nextM d)).j,.int .i64 (mvD (nextM d)).sign] 48))) oZl;go_wp2_with fail;refine (spec_l20Words A d c _ _ _ hr1.rss HOK.out hl true (iff_of_true rfl HV2.out)).mono ?_;rintro e w2 ⟨rfl,n,rfl⟩;go_wp2_with fail;go_ret;exact ⟨rfl,(hm1.trans (Mid.alloc _ _)).drewN _⟩
end
section
open Go.RowKit
theorem infoMvR:(Tryz.prog.info? 48).map (fun i=>(i.zero,i.size,i.bytes))=some (some (.agg #[.int .i64 0,.int .i64 0,.int .i64 0,.int .i64 0]),4,32):=by kernel_rfl
theorem undSMvR:Tryz.prog.underlying 26=some (.slice 48):=by kernel_rfl
def runR (d:List (List Int)) (b:Bool):List (List Int) × List Mv:=if b then runN 400 d else (d,[])
abbrev OM (w:World) (lo hi:Nat) (A:Option Addr) (c:Nat) (ms:List Mv):Prop:=OV w lo hi 48 4 A c ms.length (ints (mvsI ms))
abbrev RetRN (x:List (List Int)) (ms:List Mv) (w:World) (e:Ending) (w':World):Prop :=
 ∃ A c A2 c2 lo hi lo2 hi2,e=.returned (.tuple #[.slice A x.length c,.slice A2 ms.length c2])∧OSS w' lo hi 44 3 A c x∧OM w' lo2 hi2 A2 c2 ms∧(w.heap.size≤lo∧w.heap.size≤lo2∧hi≤w'.heap.size∧hi2≤w'.heap.size∧(hi2≤lo ∨ hi≤lo2))∧Mid 0 0 w w'
theorem OSS.grown {w w':World} {lo hi:Nat} {A:Option Addr} {c:Nat} {xss:List (List Int)} {base:Nat} {e':TypeId} {s':Nat} {v':Value} {n':Nat} {xs':List Value} (h:OSS w lo hi 44 3 A c xss) (ho:w.ownsRow base e' s' v' n' xs') (h1:44≠e') (h2:3≠e') (hg:w.grownBy w' v'.ownBlock) :
  OSS w' lo hi 44 3 A c xss:=by
 obtain ⟨h0,rows,ha,hb,hc⟩:=h;exact ⟨Nat.le_trans h0 hg.size,rows,ha,hb.grown hg (owns_ne hb.2.1 ho h1),hc.grown ho h2 hg⟩
structure ApartM (w wr:World) (lo hi:Nat) (v:Value) (k:Nat) (mv:List Mv):Prop where
 own:wr.ownsRow w.heap.size 48 4 v k (ints (mvsI mv))
 blk:∃ g,v.ownBlock=some g∧(g < lo ∨ hi≤g)
 low:w.heap.size≤lo
theorem ApartM.mid {w wr w':World} {lo hi:Nat} {v:Value} {k:Nat} {mv:List Mv} (h:ApartM w wr lo hi v k mv) (m:Mid 0 0 wr w'):ApartM w w' lo hi v k mv:=⟨owns_mid h.own m oZl,h.blk,h.low⟩
theorem RetRN.mk {x:List (List Int)} {ms:List Mv} {w w':World} {lo hi:Nat} {A:Option Addr} {c k:Nat} {v:Value} (ho:OSS w' lo hi 44 3 A c x) (hk:ms.length=k) (hv:ApartM w w' lo hi v k ms) (hm:Mid 0 0 w w') :
  RetRN x ms w (.returned (.tuple #[.slice A x.length c,v])) w':=by
 subst hk;obtain ⟨hv,⟨g,hg,hd⟩,hlow⟩:=hv;have hg2:=hv.lt g hg;obtain ⟨A2,c2,rfl, -, -⟩:=owns_shape hv;have hb:w'.ownsRow g 48 4 (.slice A2 ms.length c2) ms.length (ints (mvsI ms)):=by
  refine ⟨hv.1,?_⟩;rcases hv.2 with hn | ⟨g',cap,cur,he,hb,rest⟩
  ·exact .inl hn
  ·refine .inr ⟨g',cap,cur,he,?_,rest⟩
   rw [he] at hg;simp [Value.ownBlock] at hg;omega
 exact ⟨A,c,A2,c2,lo,hi,g,g+1,rfl,ho,⟨hg2.2,hb,fun g' h'=>by rw [hg] at h';injection h' with h';omega⟩,⟨hlow,hg2.1,ho.size,hg2.2,by omega⟩,hm⟩
theorem nextM_cases (d:List (List Int)):nextM d=none ∨ ∃ m,nextM d=some m:=by cases nextM d <;> simp
theorem impl_NextMove0 (A:Option Addr) (d:List (List Int)) (c:Nat) (w:World) (lo hi:Nat) (hr:RSC w lo hi A d) (hok:∀ xs∈d,OkI xs) (hl:d.length+sumL d≤1048576) (h:nextM d=none) :
  Calls Tryz.prog 27 #[.slice A d.length c] w fun e w'=>e=.returned (.tuple #[.agg #[.int .i64 0,.int .i64 0,.int .i64 0,.int .i64 0],.bool false])∧Mid 0 0 w w':=by
 have:=impl_NextMove A d c w lo hi hr hok hl;unfold RetNM at this;rw [h] at this;exact this
theorem spec_NextMove0 (A:Option Addr) (d:List (List Int)) (c:Nat) (w:World) (lo hi:Nat) (hr:RSC w lo hi A d) (hok:∀ xs∈d,OkI xs) (hl:d.length+sumL d≤1048576) (h:nextM d=none) :
  Calls Tryz.prog 28 #[.slice A d.length c] w fun e w'=>e=.returned (.tuple #[.agg #[.int .i64 0,.int .i64 0,.int .i64 0,.int .i64 0],.bool false])∧Mid 0 0 w w':=by
 have:=spec_NextMove A d c w lo hi hr hok hl;unfold RetNM at this;rw [h] at this;exact this
theorem impl_NextMove1 (A:Option Addr) (d:List (List Int)) (c:Nat) (w:World) (lo hi:Nat) (hr:RSC w lo hi A d) (hok:∀ xs∈d,OkI xs) (hl:d.length+sumL d≤1048576) {a b j s:Int} (h:nextM d=some ⟨a,b,j,s⟩) :
  Calls Tryz.prog 27 #[.slice A d.length c] w fun e w'=>e=.returned (.tuple #[.agg #[.int .i64 a,.int .i64 b,.int .i64 j,.int .i64 s],.bool true])∧Mid 0 0 w w':=by
 have:=impl_NextMove A d c w lo hi hr hok hl;unfold RetNM at this;rw [h] at this;exact this
theorem spec_NextMove1 (A:Option Addr) (d:List (List Int)) (c:Nat) (w:World) (lo hi:Nat) (hr:RSC w lo hi A d) (hok:∀ xs∈d,OkI xs) (hl:d.length+sumL d≤1048576) {a b j s:Int} (h:nextM d=some ⟨a,b,j,s⟩) :
  Calls Tryz.prog 28 #[.slice A d.length c] w fun e w'=>e=.returned (.tuple #[.agg #[.int .i64 a,.int .i64 b,.int .i64 j,.int .i64 s],.bool true])∧Mid 0 0 w w':=by
 have:=spec_NextMove A d c w lo hi hr hok hl;unfold RetNM at this;rw [h] at this;exact this
theorem impl_ApplyMoveY (A:Option Addr) (d:List (List Int)) (c:Nat) (a b j s:Int) (w:World) (lo hi:Nat) (h:RSS w lo hi A d) (ho:∀ xs∈d,OkI xs) (hl:d.length+sumL d≤1048576) (x:List (List Int)) (t:Bool) (hx:applyM d ⟨a,b,j,s⟩=(x,t)) :
  Calls Tryz.prog 24 #[.slice A d.length c,.agg #[.int .i64 a,.int .i64 b,.int .i64 j,.int .i64 s]] w fun e w'=>∃ A2 c2,e=.returned (.tuple #[.slice A2 x.length c2,.bool t])∧OSS w' w.heap.size w'.heap.size 44 3 A2 c2 x∧Mid 0 0 w w':=by
 have:=impl_ApplyMove A d c ⟨a,b,j,s⟩ w lo hi h ho hl;unfold RetMv at this;rw [hx] at this;exact this
theorem spec_ApplyMoveY (A:Option Addr) (d:List (List Int)) (c:Nat) (a b j s:Int) (w:World) (lo hi:Nat) (h:RSS w lo hi A d) (ho:∀ xs∈d,OkI xs) (hl:d.length+sumL d≤1048576) (x:List (List Int)) (t:Bool) (hx:applyM d ⟨a,b,j,s⟩=(x,t)) :
  Calls Tryz.prog 25 #[.slice A d.length c,.agg #[.int .i64 a,.int .i64 b,.int .i64 j,.int .i64 s]] w fun e w'=>∃ A2 c2,e=.returned (.tuple #[.slice A2 x.length c2,.bool t])∧OSS w' w.heap.size w'.heap.size 44 3 A2 c2 x∧Mid 0 0 w w':=by
 have:=spec_ApplyMove A d c ⟨a,b,j,s⟩ w lo hi h ho hl;unfold RetMv at this;rw [hx] at this;exact this
structure RnAt (d:List (List Int)) (k:Nat) (cur:List (List Int)) (ms:List Mv):Prop where
 len:ms.length=k
 le:k≤400
 run:runN 400 d=((runN (400 - k) cur).1,ms++(runN (400 - k) cur).2)
 less:Less d cur
theorem RnAt.zero (d:List (List Int)):RnAt d 0 d []:=⟨rfl,by omega,by simp,⟨Nat.le_refl _,Nat.le_refl _,fun h=>h⟩⟩
theorem RnAt.succ {d:List (List Int)} {k:Nat} {cur x:List (List Int)} {ms:List Mv} {m:Mv} {t:Bool} (h:RnAt d k cur ms) (hk:k < 400) (hm:nextM cur=some m) (hx:applyM cur m=(x,t)):RnAt d (k+1) x (ms++[m]):=by
 have hl:=nextM_less hm;rw [hx] at hl;refine ⟨by simp [h.len],hk,?_,⟨Nat.le_trans hl.len h.less.len,Nat.le_trans hl.sum h.less.sum,fun ho=>hl.ok (h.less.ok ho)⟩⟩;obtain ⟨j,hj⟩:∃ j,400 - k=j+1:=⟨400 - k - 1,by omega⟩
 rw [h.run,hj,runN_some hm,hx,show 400 - (k+1)=j from by omega];simp
theorem RnAt.done {d:List (List Int)} {k:Nat} {cur:List (List Int)} {ms:List Mv} (h:RnAt d k cur ms) (he:nextM cur=none ∨ k=400):runN 400 d=(cur,ms):=by
 rw [h.run];rcases he with he | he
 ·rw [runN_none he];simp
 ·subst he
  simp [runN]
theorem impl_ReduceNielsen (A:Option Addr) (d:List (List Int)) (c:Nat) (w:World) (lo hi:Nat) (hr:RSS w lo hi A d) (hok:∀ xs∈d,OkI xs) (hl:d.length+sumL d≤1048576) (b:Bool) (hb:b=true↔AreW 3 d) (x:List (List Int)) (ms:List Mv) (hres:runR d b=(x,ms)) :
  Calls Tryz.prog 8 #[.slice A d.length c] w (RetRN x ms w):=by
 have HOK:=Lib.hid hok;have HB:=Lib.hid hb;have HRES:=Lib.hid hres;have H28:=Lib.hid (fun xs (hx:xs∈d)=>show xs.length≤1073741824 by have:=len_le_sumL hx;omega);clear hok hb hres;cases hbc:b with
 | false =>
  subst hbc;have hn:¬ AreW 3 d:=fun h=>by have:=HB.out.2 h;cases this
  have hx:x=d∧ms=[]:=by have:=HRES.out;simp [runR] at this;exact ⟨this.1.symm,this.2⟩
  obtain ⟨rfl,rfl⟩:=hx;have HN:=Lib.hid hn;clear HB hn HRES;go_enter Tryz.func8,Tryz.ntmps8
  go_wp2_with fail;with_reducible refine (impl_copyLists A x c _ _ _ hr (by omega) H28.out).mono ?_
  rintro e w1 ⟨A1,c1,rfl,ho1,hm1⟩;have hal:Mid 0 0 w1 (w1.alloc (.cells #[] 48)):=Mid.alloc _ _;have hmv:=owns_empty w1 48 4;have hr1:=hr.mid (hm1.trans hal) oZl;go_wp2_with fail;refine (impl_AreWords 3 A x c _ _ _ hr1 HOK.out hl false (iff_of_false Bool.false_ne_true HN.out)).mono ?_;rintro e w' ⟨rfl,rfl⟩;go_wp2_with fail;go_ret2;exact RetRN.mk (ho1.mid hal oZl) rfl ⟨owns_base hmv hm1.size,⟨_,rfl,Or.inr (Nat.le_refl _)⟩,Nat.le_refl _⟩ (hm1.trans hal)
 | true =>
  subst hbc;have HW:=Lib.hid (HB.out.1 rfl);have hrun:runN 400 d=(x,ms):=by have:=HRES.out;simpa [runR] using this
  have HRUN:=Lib.hid hrun;clear HB hrun HRES;go_enter Tryz.func8,Tryz.ntmps8
  go_wp2_with fail;with_reducible refine (impl_copyLists A d c _ _ _ hr (by omega) H28.out).mono ?_
  rintro e w1 ⟨A1,c1,rfl,ho1,hm1⟩;have hal:Mid 0 0 w1 (w1.alloc (.cells #[] 48)):=Mid.alloc _ _;have hmv:=owns_empty w1 48 4;have hr1:=hr.mid (hm1.trans hal) oZl;have hoA:=ho1.mid hal oZl;have hmA:=hm1.trans hal;have hvA:ApartM w _ w.heap.size w1.heap.size _ 0 []:=⟨owns_base hmv hm1.size,⟨_,rfl,Or.inr (Nat.le_refl _)⟩,Nat.le_refl _⟩
  go_wp2_with fail;refine (impl_AreWords 3 A d c _ _ _ hr1 HOK.out hl true (iff_of_true rfl HW.out)).mono ?_;rintro e w' ⟨rfl,rfl⟩;go_wp2_with fail;clear hal hmv hr1 ho1 hm1;go_loopw [4,5,6,7] (fun v4 v5 _ _ wr=>∃ k cur mv A c lo1 hi1,v4=.slice A (List.length cur) c∧RnAt d k cur mv∧OSS wr lo1 hi1 44 3 A c cur∧ApartM w wr lo1 hi1 v5 k mv∧Mid 0 0 w wr)
   (fun _ v5 _ _ _=>400 - (match v5 with | .slice _ n _=>n | _=>0))
  case atStart=>exact ⟨0,d,[],A1,c1,_,_,rfl,RnAt.zero d,hoA,hvA,hmA⟩
  case round =>
   clear hoA hvA hmA;obtain ⟨k,cur,mv,A2,c2,lo1,hi1,rfl,hat,ho,hv,hm⟩:=hrel;have HAT:=Lib.hid hat;have hk4:=hat.le;have hl2:cur.length+sumL cur≤1048576:=by have:=hat.less.len;have:=hat.less.sum;omega
   have HOC:=Lib.hid (hat.less.ok HOK.out);have hszm:=hm.size;clear hat;obtain ⟨A3,c3,rfl, -, -⟩:=owns_shape hv.own;by_cases hlt:k < 400
   ·have hlt3:(k:Int) < 400:=by omega
    rcases nextM_cases cur with hn | ⟨⟨ka,ia,ja,sa⟩,hn⟩
    ·have HN:=Lib.hid hn
     clear hn;go_wp2_with fail;with_reducible refine (impl_NextMove0 A2 cur c2 _ _ _ ho.rsc HOC.out hl2 HN.out).mono ?_
     rintro e w2 ⟨rfl,hm2⟩;have hal:Mid 0 0 w2 (w2.alloc (.cells #[.int .i64 0,.int .i64 0,.int .i64 0,.int .i64 0] 48)):=Mid.alloc _ _;have hmm:=hm2.trans hal;go_wp2_with fail;go_ret2;have hd:=HAT.out.done (.inl HN.out);rw [HRUN.out] at hd;injection hd with e1 e2
     subst e1 e2;exact RetRN.mk (ho.mid hmm oZl) HAT.out.len (hv.mid hmm) (hm.trans hmm)
    ·have HN:=Lib.hid hn
     clear hn;obtain ⟨y,t,hy⟩:∃ y t,applyM cur ⟨ka,ia,ja,sa⟩=(y,t):=⟨_,_,rfl⟩
     have HY:=Lib.hid hy;clear hy;go_wp2_with fail;with_reducible refine (impl_NextMove1 A2 cur c2 _ _ _ ho.rsc HOC.out hl2 HN.out).mono ?_
     rintro e w2 ⟨rfl,hm2⟩;have hal:Mid 0 0 w2 (w2.alloc (.cells #[.int .i64 ka,.int .i64 ia,.int .i64 ja,.int .i64 sa] 48)):=Mid.alloc _ _;have hbx:=Box.new w2 #[.int .i64 ka,.int .i64 ia,.int .i64 ja,.int .i64 sa] 48;have hmm:=hm2.trans hal;have hoB:=ho.mid hmm oZl;have hvB:=owns_mid hv.own hmm oZl;have hblkB:=hv.blk;have hmB:=hm.trans hmm;go_wp2_with fail;refine (impl_ApplyMoveY A2 cur c2 ka ia ja sa _ _ _ hoB.rss HOC.out hl2 y t HY.out).mono ?_;rintro e w3 ⟨A4,c4,rfl,ho4,hm4⟩;have hbx3:=hbx.mid hm4 oZr;have y0:=hbx3.cell 0 rfl;have y1:=hbx3.cell 1 rfl;have y2:=hbx3.cell 2 rfl;have y3:=hbx3.cell 3 rfl;have hvC:=owns_mid hvB hm4 oZl;have hmC:=hmB.trans hm4;have hszB:=hmB.size;have hszC:=hmC.size;have hal2:Mid 0 0 w3 (w3.alloc (.cells #[.int .i64 ka,.int .i64 ia,.int .i64 ja,.int .i64 sa] 48)):=Mid.alloc _ _;have ho5:=ho4.mid hal2 oZl;have hvD:=owns_mid hvC hal2 oZl;go_wp2_with (at_builtin;refine wpList_push rfl _ _ 26 rfl w.heap.size 48 (.agg #[.int .i64 0,.int .i64 0,.int .i64 0,.int .i64 0]) 4 32 undSMvR infoMvR rfl (by decide) _ _ _ rfl hvC 1 [.int .i64 ka,.int .i64 ia,.int .i64 ja,.int .i64 sa] rfl rfl ?c1 ?c2 ?c3 hszC ?next)
     case c1=>simp [Value.oneCell']
     case c2=>unfold maxLen;omega
     case c3=>omega
     case next =>
      intro v6 w6 hv6 hg6 hbk6;obtain ⟨A6,c6,rfl, -, -⟩:=owns_shape hv6;go_wp2_with fail;go_roundw
      case rel =>
       have hat2:=HAT.out.succ hlt HN.out HY.out;have hm6:=hmC.grownNew hg6 (fun g hg=>(hvC.lt g hg).1);have ho6:=ho4.grown hvC (by decide) (by decide) hg6;refine ⟨k+1,y,mv++[⟨ka,ia,ja,sa⟩],A4,c4,_,_,rfl,hat2,ho6,⟨?_,?_,by simpa using hszB⟩,hm6⟩
       ·rw [mvsI_append,mvsI_one,ints_append]
        exact hv6
       ·obtain ⟨g,hg,hgd⟩:=hblkB
        have hgl:=(hvB.lt g hg).2;rcases hbk6 with hb | hb
        ·exact ⟨g,by rw [hb];exact hg,Or.inl (by simpa using hgl)⟩
        ·exact ⟨_,hb,Or.inr (by simp)⟩
      case measure=>simp;omega
   ·obtain rfl:k=400:=by omega
    go_wp2_with fail;go_ret2;have hd:=HAT.out.done (.inr rfl);rw [HRUN.out] at hd;injection hd with e1 e2
    subst e1 e2;exact RetRN.mk ho HAT.out.len hv hm
end
end Go.Proofs.YtkimajabegojoaaGreat
