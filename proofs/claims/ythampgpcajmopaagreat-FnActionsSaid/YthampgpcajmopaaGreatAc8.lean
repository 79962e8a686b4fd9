/- Contracts and lemmas of this seat, many texts in one: see the words ahead of each. No condition beyond those typed in each lemma. -/
import Derived.Test.YthampgpcajmopaaGreatAc3
import Derived.Test.YthampgpcajmopaaGreatAc5
import Derived.Test.YthampgpcajmopaaGreatAc1
import Derived.Test.YthampgpcajmopaaGreatAc7
import Derived.Test.YthampgpcajmopaaGreatAc2
import Derived.Test.YthampgpcajmopaaGreatAc4

namespace Go.Proofs.YthampgpcajmopaaGreat
set_option linter.unusedVariables false
set_option linter.unusedSimpArgs false
set_option maxHeartbeats 40000000
set_option maxRecDepth 100000
section
open Go.RowKit
end
section
open Go.RowKit
end
section
open Go.RowKit
end
section
open Go.RowKit
section
variable {w w':World} {lo hi a b:Nat} {A:Option Addr} {xss:List (List Int)}
end
end
section
open Go.RowKit
end
section
open Go.RowKit
end
section
open Go.RowKit
end
section
open Go.RowKit
end
section
open Go.RowKit
end
section
open Go.RowKit
end
section
open Go.RowKit
end
section
open Go.RowKit
end
section
open Go.RowKit
end
section
open Go.RowKit
def composeP (p q:List Int):List Int:=p.map (fun x=>q.getD x.toNat 0)
theorem impl_Compose_good (A:Option Addr) (p:List Int) (c B:Nat) (A':Option Addr) (q:List Int) (c' B':Nat) (w:World) (hr:Rs w B A (ints p)) (hB:B≤w.heap.size) (hr':Rs w B' A' (ints q)) (hB':B'≤w.heap.size)
  (hp:IsPerm p) (hq:IsPerm q) (hlen:p.length=q.length) :
  Calls Tryz.prog 157 #[.slice A p.length c,.slice A' q.length c'] w fun e w'=>RetI 3 (composeP p q) w e w':=by
 have hp40:=hp.1;have hq40:=hq.1;have hne:((p.length:Int) != (q.length:Int))=false:=by simp;omega
 have HL:=Lib.hid hlen;have hle1:p.length≤q.length:=by omega
 have hle2:q.length≤p.length:=by omega
 have HP:=Lib.hid hp;have HQ:=Lib.hid hq;clear hlen hp hq;go_enter Tryz.func157,Tryz.ntmps157
 go_wp2_with fail;have hb0:=(Below.refl w.heap.size w).alloc (Nat.le_refl _) (.cells #[] 3);have ho0:=owns_empty w 3 1;with_reducible refine (impl_IsPermutation A p c B _ (hr.alloc hB _) (by simp;omega) (by omega) true (by simp [HP.out])).mono ?_
 rintro e w1 ⟨rfl,hb1⟩;have ho1:=owns_belowS ho0 hb1;have hb1':=hb0.trans (hb1.mono hb0.size);go_wp2_with fail;with_reducible refine (impl_IsPermutation A' q c' B' _ ((hr'.alloc hB' _).belowM hb1 (by simp;omega)) (by have:=hb1'.size;omega) (by omega) true (by simp [HQ.out])).mono ?_
 rintro e w2 ⟨rfl,hb2⟩;have ho2:=owns_belowS ho1 hb2;have hb2':=hb1'.trans (hb2.mono hb1'.size);clear ho0 ho1 hb0 hb1 hb1' hb2;go_wp2_with fail;go_loopw [5,7,27] (fun v _ i wr=>∃ k:Nat,k≤p.length∧i=.int .i64 k∧wr.ownsRow w.heap.size 3 1 v k (ints (composeP (p.take k) q))∧Below w.heap.size w wr)
  (fun _ _ i _=>p.length - (intOf i).toNat)
 case atStart=>exact ⟨0,Nat.zero_le _,rfl,ho2,hb2'⟩
 case round =>
  obtain ⟨k,hk,rfl,hown,hb⟩:=hrel;have hsz:=hb.size;by_cases hlt:k < p.length
  ·obtain ⟨b,off,x,rfl, -,hx,hc⟩:=((hr.more hB).below hb).int hlt
   have hxi:=HP.out.2.1 x (mem_of_get hx);obtain ⟨m,rfl⟩:∃ m:Nat,x=m:=⟨x.toNat,by omega⟩
   have hm:m < q.length:=by omega
   obtain ⟨b',off',y,rfl, -,hy,hc'⟩:=((hr'.more hB').below hb).int hm;have HX:=Lib.hid hx;have HY:=Lib.hid hy;clear hx hy hxi;go_wp2_with (at_builtin;refine wpList_push rfl _ _ 34 rfl w.heap.size 3 (.int .i64 0) 1 8 undSI infoI rfl (by decide) _ _ _ rfl hown 1 [.int .i64 y] rfl rfl ?c1 ?c2 ?c3 hsz ?next)
   case c1=>exact one_of_ints [y]
   case c2=>unfold maxLen;omega
   case c3=>omega
   case next =>
    intro v' w3 hown1 hgr _;go_wp2_with fail;go_roundw
    case rel =>
     refine ⟨k+1,by omega,by go_num,?_,hb.grown hgr hsz (fun g hg=>(hown.lt g hg).1)⟩;rw [composeP,take_succ_of p HX.out,List.map_append,ints_append]
     simpa [ints,HY.out,composeP] using hown1
    case measure=>simp [intOf];omega
  ·go_wp2_with fail
   go_ret;have hkl:k=p.length:=by omega
   subst hkl;rw [List.take_length] at hown;exact RetI.mk (by simp [composeP]) hown hb
theorem impl_Compose_bad (A:Option Addr) (p:List Int) (c B:Nat) (A':Option Addr) (q:List Int) (c' B':Nat) (w:World) (hr:Rs w B A (ints p)) (hB:B≤w.heap.size) (hr':Rs w B' A' (ints q)) (hB':B'≤w.heap.size)
  (hlp:p.length≤1048576) (hlq:q.length≤1048576) (hbad:¬ (IsPerm p∧IsPerm q∧p.length=q.length)) :
  Calls Tryz.prog 157 #[.slice A p.length c,.slice A' q.length c'] w fun e w'=>RetI 3 [] w e w':=by
 have hb0:=(Below.refl w.heap.size w).alloc (Nat.le_refl _) (.cells #[] 3);have ho0:=owns_empty w 3 1;by_cases hp:IsPerm p
 ·by_cases hq:IsPerm q
  ·have hne:((p.length:Int) != (q.length:Int))=true:=by
    simp;intro h;exact hbad ⟨hp,hq,by omega⟩
   have HP:=Lib.hid hp;have HQ:=Lib.hid hq;clear hp hq hbad;go_enter Tryz.func157,Tryz.ntmps157
   go_wp2_with fail;with_reducible refine (impl_IsPermutation A p c B _ (hr.alloc hB _) (by simp;omega) (by omega) true (by simp [HP.out])).mono ?_
   rintro e w1 ⟨rfl,hb1⟩;have ho1:=owns_belowS ho0 hb1;have hb1':=hb0.trans (hb1.mono hb0.size);go_wp2_with fail;with_reducible refine (impl_IsPermutation A' q c' B' _ ((hr'.alloc hB' _).belowM hb1 (by simp;omega)) (by have:=hb1'.size;omega) (by omega) true (by simp [HQ.out])).mono ?_
   rintro e w2 ⟨rfl,hb2⟩;have ho2:=owns_belowS ho1 hb2;have hb2':=hb1'.trans (hb2.mono hb1'.size);clear ho0 ho1 hb0 hb1 hb1' hb2;go_wp2_with fail;go_ret;exact RetI.mk (xs:=[]) rfl ho2 hb2'
  ·have HP:=Lib.hid hp
   have HQ:=Lib.hid hq;clear hp hq hbad;go_enter Tryz.func157,Tryz.ntmps157
   go_wp2_with fail;with_reducible refine (impl_IsPermutation A p c B _ (hr.alloc hB _) (by simp;omega) (by omega) true (by simp [HP.out])).mono ?_
   rintro e w1 ⟨rfl,hb1⟩;have ho1:=owns_belowS ho0 hb1;have hb1':=hb0.trans (hb1.mono hb0.size);go_wp2_with fail;with_reducible refine (impl_IsPermutation A' q c' B' _ ((hr'.alloc hB' _).belowM hb1 (by simp;omega)) (by have:=hb1'.size;omega) (by omega) false (by simp [HQ.out])).mono ?_
   rintro e w2 ⟨rfl,hb2⟩;have ho2:=owns_belowS ho1 hb2;have hb2':=hb1'.trans (hb2.mono hb1'.size);clear ho0 ho1 hb0 hb1 hb1' hb2;go_wp2_with fail;go_ret;exact RetI.mk (xs:=[]) rfl ho2 hb2'
 ·have HP:=Lib.hid hp
  clear hp hbad;go_enter Tryz.func157,Tryz.ntmps157
  go_wp2_with fail;with_reducible refine (impl_IsPermutation A p c B _ (hr.alloc hB _) (by simp;omega) (by omega) false (by simp [HP.out])).mono ?_
  rintro e w1 ⟨rfl,hb1⟩;have ho1:=owns_belowS ho0 hb1;have hb1':=hb0.trans (hb1.mono hb0.size);clear ho0 hb0 hb1;go_wp2_with fail;go_ret;exact RetI.mk (xs:=[]) rfl ho1 hb1'
end
section
open Go.RowKit
theorem spec_Compose_good (A:Option Addr) (p:List Int) (c B:Nat) (A':Option Addr) (q:List Int) (c' B':Nat) (w:World) (hr:Rs w B A (ints p)) (hB:B≤w.heap.size) (hr':Rs w B' A' (ints q)) (hB':B'≤w.heap.size)
  (hp:IsPerm p) (hq:IsPerm q) (hlen:p.length=q.length) :
  Calls Tryz.prog 77 #[.slice A p.length c,.slice A' q.length c'] w fun e w'=>RetI 3 (composeP p q) w e w':=by
 have hp40:=hp.1;have hq40:=hq.1;have hne:((p.length:Int) == (q.length:Int))=true:=by simp;omega
 have hle1:p.length≤q.length:=by omega
 have hle2:q.length≤p.length:=by omega
 have HP:=Lib.hid hp;have HQ:=Lib.hid hq;clear hlen hp hq;go_enter Tryz.func77,Tryz.ntmps77
 go_wp2_with fail;have hb0:=(Below.refl w.heap.size w).alloc (Nat.le_refl _) (.cells #[] 3);have ho0:=owns_empty w 3 1;go_loopw [5,6] (fun v i wr=>∃ k:Nat,k≤p.length∧i=.int .i64 k∧wr.ownsRow w.heap.size 3 1 v k (ints (composeP (p.take k) q))∧Below w.heap.size w wr)
  (fun _ i _=>p.length - (intOf i).toNat)
 case atStart=>exact ⟨0,Nat.zero_le _,rfl,ho0,hb0⟩
 case round =>
  obtain ⟨k,hk,rfl,hown,hb⟩:=hrel;have hsz:=hb.size;by_cases hlt:k < p.length
  ·obtain ⟨b,off,x,hA, -,hx,hc⟩:=((hr.more hB).below hb).int hlt
   have hxi:=HP.out.2.1 x (mem_of_get hx);obtain ⟨m,rfl⟩:∃ m:Nat,x=m:=⟨x.toNat,by omega⟩
   have hm:m < q.length:=by omega
   obtain ⟨b',off',y,hA', -,hy,hc'⟩:=((hr'.more hB').below hb).int hm;subst hA;subst hA';have HX:=Lib.hid hx;have HY:=Lib.hid hy;clear hx hy hxi;go_wp2_with fail;with_reducible refine (spec_IsPermutation _ p c B _ ((hr.belowM hb hB)) (by omega) true (by simp [HP.out])).mono ?_
   rintro e w1 ⟨rfl,n1,rfl⟩;go_wp2_with fail;with_reducible refine (spec_IsPermutation _ q c' B' _ ((hr'.belowM hb hB').drewN n1) (by omega) true (by simp [HQ.out])).mono ?_
   rintro e w1 ⟨rfl,n2,rfl⟩;go_wp2_with (at_builtin;refine wpList_push rfl _ _ 34 rfl w.heap.size 3 (.int .i64 0) 1 8 undSI infoI rfl (by decide) _ _ _ rfl (owns_drewN hown _) 1 [.int .i64 y] rfl rfl ?c1 ?c2 ?c3 hsz ?next)
   case c1=>exact one_of_ints [y]
   case c2=>unfold maxLen;omega
   case c3=>omega
   case next =>
    intro v' w3 hown1 hgr _;go_wp2_with fail;go_roundw
    case rel =>
     refine ⟨k+1,by omega,by go_num,?_,hb.grown (owns_row hgr) hsz (fun g hg=>(hown.lt g hg).1)⟩;rw [composeP,take_succ_of p HX.out,List.map_append,ints_append]
     simpa [ints,HY.out,composeP] using hown1
    case measure=>simp [intOf];omega
  ·go_wp2_with fail
   go_ret;have hkl:k=p.length:=by omega
   subst hkl;rw [List.take_length] at hown;exact RetI.mk (by simp [composeP]) hown hb
theorem spec_Compose_bad (A:Option Addr) (p:List Int) (c B:Nat) (A':Option Addr) (q:List Int) (c' B':Nat) (w:World) (hr:Rs w B A (ints p)) (hB:B≤w.heap.size) (hr':Rs w B' A' (ints q)) (hB':B'≤w.heap.size)
  (hlp:p.length≤1048576) (hlq:q.length≤1048576) (hbad:¬ (IsPerm p∧IsPerm q∧p.length=q.length)) :
  Calls Tryz.prog 77 #[.slice A p.length c,.slice A' q.length c'] w fun e w'=>RetI 3 [] w e w':=by
 have hb0:=(Below.refl w.heap.size w).alloc (Nat.le_refl _) (.cells #[] 3);have ho0:=owns_empty w 3 1;by_cases hlen:p.length=q.length
 ·have hne:((p.length:Int) == (q.length:Int))=true:=by simp;omega
  have HL:=Lib.hid hlen;clear hlen;by_cases hp:IsPerm p
  ·by_cases hq:IsPerm q
   ·exact absurd ⟨hp,hq,HL.out⟩ hbad
   ·have HP:=Lib.hid hp
    have HQ:=Lib.hid hq;clear hp hq hbad;go_enter Tryz.func77,Tryz.ntmps77
    go_wp2_with fail;refine wp_loop_rounds 1 ?_;rw [rounds_succ];by_cases h0:0 < p.length
    ·go_wp2_with fail
     with_reducible refine (spec_IsPermutation A p c B _ (hr.alloc hB _) (by omega) true (by simp [HP.out])).mono ?_
     rintro e w1 ⟨rfl,n1,rfl⟩;go_wp2_with fail;with_reducible refine (spec_IsPermutation A' q c' B' _ ((hr'.alloc hB' _).drewN n1) (by omega) false (by simp [HQ.out])).mono ?_
     rintro e w1 ⟨rfl,n2,rfl⟩;go_wp2_with fail;go_ret;exact RetI.mk (xs:=[]) rfl (owns_drewN ho0 _) (below_drewN hb0 _)
    ·go_wp2_with fail
     go_ret;exact RetI.mk (xs:=[]) rfl ho0 hb0
  ·have HP:=Lib.hid hp
   clear hp hbad;go_enter Tryz.func77,Tryz.ntmps77
   go_wp2_with fail;refine wp_loop_rounds 1 ?_;rw [rounds_succ];by_cases h0:0 < p.length
   ·go_wp2_with fail
    with_reducible refine (spec_IsPermutation A p c B _ (hr.alloc hB _) (by omega) false (by simp [HP.out])).mono ?_
    rintro e w1 ⟨rfl,n1,rfl⟩;go_wp2_with fail;go_ret;exact RetI.mk (xs:=[]) rfl (owns_drewN ho0 _) (below_drewN hb0 _)
   ·go_wp2_with fail
    go_ret;exact RetI.mk (xs:=[]) rfl ho0 hb0
 ·have hne:((p.length:Int) == (q.length:Int))=false:=by simp;omega
  clear hlen hbad;go_enter Tryz.func77,Tryz.ntmps77
  go_wp2_with fail;refine wp_loop_rounds 1 ?_;rw [rounds_succ];by_cases h0:0 < p.length
  ·go_wp2_with fail
   go_ret;exact RetI.mk (xs:=[]) rfl ho0 hb0
  ·go_wp2_with fail
   go_ret;exact RetI.mk (xs:=[]) rfl ho0 hb0
def ComposeIs (p q res:List Int):Prop:=((IsPerm p∧IsPerm q∧p.length=q.length)→res=composeP p q)∧(¬ (IsPerm p∧IsPerm q∧p.length=q.length)→res=[])
theorem impl_Compose (A:Option Addr) (p:List Int) (c B:Nat) (A':Option Addr) (q:List Int) (c' B':Nat) (w:World) (hr:Rs w B A (ints p)) (hB:B≤w.heap.size) (hr':Rs w B' A' (ints q)) (hB':B'≤w.heap.size)
  (hlp:p.length≤1048576) (hlq:q.length≤1048576) (res:List Int) (hres:ComposeIs p q res) :
  Calls Tryz.prog 157 #[.slice A p.length c,.slice A' q.length c'] w fun e w'=>RetI 3 res w e w':=by
 by_cases h:IsPerm p∧IsPerm q∧p.length=q.length
 ·rw [hres.1 h]
  exact impl_Compose_good A p c B A' q c' B' w hr hB hr' hB' h.1 h.2.1 h.2.2
 ·rw [hres.2 h]
  exact impl_Compose_bad A p c B A' q c' B' w hr hB hr' hB' hlp hlq h
theorem spec_Compose (A:Option Addr) (p:List Int) (c B:Nat) (A':Option Addr) (q:List Int) (c' B':Nat) (w:World) (hr:Rs w B A (ints p)) (hB:B≤w.heap.size) (hr':Rs w B' A' (ints q)) (hB':B'≤w.heap.size)
  (hlp:p.length≤1048576) (hlq:q.length≤1048576) (res:List Int) (hres:ComposeIs p q res) :
  Calls Tryz.prog 77 #[.slice A p.length c,.slice A' q.length c'] w fun e w'=>RetI 3 res w e w':=by
 by_cases h:IsPerm p∧IsPerm q∧p.length=q.length
 ·rw [hres.1 h]
  exact spec_Compose_good A p c B A' q c' B' w hr hB hr' hB' h.1 h.2.1 h.2.2
 ·rw [hres.2 h]
  exact spec_Compose_bad A p c B A' q c' B' w hr hB hr' hB' hlp hlq h
end
section
open Classical in
noncomputable def cmpX (p q:List Int):List Int:=if IsPerm p∧IsPerm q∧p.length=q.length then composeP p q else []
theorem cmpX_is (p q:List Int):ComposeIs p q (cmpX p q):=⟨fun h=>if_pos h,fun h=>if_neg h⟩
open Classical in
noncomputable def grpRow (q:List Int):List (List Int)→List (List Int)→Option (List (List Int))
 | [],st=>some st
 | p :: t,st=>if cmpX q p∈st then grpRow q t st else if st.length=200 then none else grpRow q t (st++[cmpX q p])
theorem grpRow_in {q p:List Int} {t st:List (List Int)} (h:cmpX q p∈st):grpRow q (p :: t) st=grpRow q t st:=by rw [grpRow,if_pos h]
theorem grpRow_full {q p:List Int} {t st:List (List Int)} (h:cmpX q p ∉ st) (hl:st.length=200):grpRow q (p :: t) st=none:=by rw [grpRow,if_neg h,if_pos hl]
theorem grpRow_new {q p:List Int} {t st:List (List Int)} (h:cmpX q p ∉ st) (hl:¬ st.length=200):grpRow q (p :: t) st=grpRow q t (st++[cmpX q p]):=by rw [grpRow,if_neg h,if_neg hl]
noncomputable def grpRun (act:List (List Int)):Nat→Nat→List (List Int)→List (List Int)
 | 0,_,st=>st
 | f+1,i,st=>match st[i]? with
  | none=>st
  | some q=>match grpRow q act st with
   | none=>[]
   | some st'=>grpRun act f (i+1) st'
theorem grpRun_end {act st:List (List Int)} {f i:Nat} (h:st.length≤i):grpRun act f i st=st:=by
 cases f with
 | zero=>rfl
 | succ f=>rw [grpRun,List.getElem?_eq_none h]
theorem grpRun_none {act st:List (List Int)} {f i:Nat} {q:List Int} (hq:st[i]?=some q) (h:grpRow q act st=none):grpRun act (f+1) i st=[]:=by
 rw [grpRun,hq];simp only [h]
theorem grpRun_some {act st st':List (List Int)} {f i:Nat} {q:List Int} (hq:st[i]?=some q) (h:grpRow q act st=some st'):grpRun act (f+1) i st=grpRun act f (i+1) st':=by
 rw [grpRun,hq];simp only [h]
theorem grpRow_len {q:List Int}:∀ {t st st':List (List Int)},st.length≤200→grpRow q t st=some st'→st'.length≤200
 | [],st,st',hl,h=>by
  rw [grpRow] at h;injection h with h
  subst h;exact hl
 | p :: t,st,st',hl,h=>by
  rw [grpRow] at h;split at h
  ·exact grpRow_len hl h
  ·split at h
   ·cases h
   ·exact grpRow_len (by simp;omega) h
theorem grpRun_len (act:List (List Int)):∀ (f i:Nat) {st:List (List Int)},st.length≤200→(grpRun act f i st).length≤200
 | 0,i,st,h=>h
 | f+1,i,st,h=>by
  rw [grpRun];split
  ·exact h
  ·split
   ·exact Nat.zero_le _
   ·rename_i hq
    exact grpRun_len act f (i+1) (grpRow_len h hq)
theorem cmpX_len (p q:List Int):(cmpX p q).length≤40:=by
 unfold cmpX;split
 ·rename_i h
  have h1:=h.1.1;simp [composeP];omega
 ·simp
theorem grpRow_all {m:Nat} (hm:40≤m) {q:List Int}:∀ {t st st':List (List Int)},(∀ x∈st,x.length≤m)→grpRow q t st=some st'→∀ x∈st',x.length≤m
 | [],st,st',hl,h=>by
  rw [grpRow] at h;injection h with h
  subst h;exact hl
 | p :: t,st,st',hl,h=>by
  rw [grpRow] at h;split at h
  ·exact grpRow_all hm hl h
  ·split at h
   ·cases h
   ·refine grpRow_all hm (fun x hx=>?_) h
    rcases List.mem_append.1 hx with hx | hx
    ·exact hl x hx
    ·simp at hx
     rw [hx];exact Nat.le_trans (cmpX_len _ _) hm
theorem grpRun_all {m:Nat} (hm:40≤m) (act:List (List Int)):∀ (f i:Nat) {st:List (List Int)},(∀ x∈st,x.length≤m)→∀ x∈grpRun act f i st,x.length≤m
 | 0,i,st,h=>h
 | f+1,i,st,h=>by
  rw [grpRun];split
  ·exact h
  ·split
   ·simp
   ·rename_i hq
    exact grpRun_all hm act f (i+1) (grpRow_all hm h hq)
end
end Go.Proofs.YthampgpcajmopaaGreat
