/- Contracts and lemmas of this seat, many texts in one: see the words ahead of each. No condition beyond those typed in each lemma. -/
import Derived.Test.YtkimajabegojoaaGreatNi4
import Derived.Test.YtkimajabegojoaaGreatNi2
import Derived.Test.YtkimajabegojoaaGreatNi1
import Derived.IntWalk
import Derived.Outline
import Derived.Laws.IdiomStrings
import Derived.RegionTactic
import Derived.BigRegion

namespace Go.Proofs.YtkimajabegojoaaGreat
set_option linter.unusedVariables false
set_option linter.unusedSimpArgs false
set_option maxHeartbeats 40000000
set_option maxRecDepth 100000
section
open Go.RowKit
def WordsTo (rk:Int) (d:List (List Int)) (k:Nat):Prop:=∀ j xs,j < k→d[j]?=some xs→IsW rk xs
theorem WordsTo.zero (rk:Int) (d:List (List Int)):WordsTo rk d 0:=fun j x h=>absurd h (Nat.not_lt_zero j)
theorem WordsTo.succ {rk:Int} {d:List (List Int)} {k:Nat} {x:List Int} (h:WordsTo rk d k) (hx:d[k]?=some x) (hl:IsW rk x):WordsTo rk d (k+1):=by
 intro j z hj hz;rcases Nat.lt_or_eq_of_le (Nat.le_of_lt_succ hj) with h1 | rfl
 ·exact h j z h1 hz
 ·rw [hx] at hz
  obtain rfl:=Option.some.inj hz;exact hl
theorem wordsTo_all {rk:Int} {d:List (List Int)}:WordsTo rk d d.length↔∀ xs∈d,IsW rk xs:=by
 constructor
 ·intro h x hx
  obtain ⟨j,hj⟩:=List.mem_iff_getElem?.1 hx;exact h j x (List.getElem?_eq_some_iff.1 hj).1 hj
 ·exact fun h j x _ hx=>h x (List.mem_of_getElem? hx)
theorem bool_ofR (p:Prop):∃ r:Bool,r=true↔p:=by
 by_cases h:p
 ·exact ⟨true,by simp [h]⟩
 ·exact ⟨false,by simp [h]⟩
theorem row_le {d:List (List Int)} {xs:List Int} (h:xs∈d) (hl:d.length+sumL d≤1048576):xs.length≤4194304:=by
 have:=len_le_sumL h;omega
end
section
open Go.RowKit
def PrOut (w wr:World) (v:Value) (out:List Int):Prop:=wr.ownsRow w.heap.size 3 1 v out.length (ints out)∧Below w.heap.size w wr
theorem impl_product (A:Option Addr) (d:List (List Int)) (c:Nat) (w:World) (lo hi:Nat) (hr:RSS w lo hi A d) (hok:∀ xs∈d,OkI xs) (hl:d.length≤4194304) (hs:sumL d≤268435456) :
  Calls Tryz.prog 110 #[.slice A d.length c] w fun e w'=>RetI 3 (red [] d.flatten) w e w':=by
 have HOK:=Lib.hid hok;clear hok;have hb0:=(Below.refl w.heap.size w).alloc (Nat.le_refl _) (.cells #[] 3);have ho0:=owns_empty w 3 1;go_enter Tryz.func110,Tryz.ntmps110
 go_wp2_with fail;go_loopw [3,5,7,11] (fun v _ _ i wr=>∃ k:Nat,k≤d.length∧i=.int .i64 k∧PrOut w wr v (red [] (d.take k).flatten)) (fun _ _ _ i _=>d.length - (intOf i).toNat)
 case atStart=>exact ⟨0,Nat.zero_le _,rfl,by simpa [red,ints] using ho0,hb0⟩
 case round =>
  obtain ⟨k,hk,rfl,hown,hb⟩:=hrel;by_cases hlt:k < d.length
  ·obtain ⟨b,off,A',c',xs,rfl, -,hbh,hx,hc,hrx⟩:=hr.row hlt
   have hhi:=hr.size;have hcw:wr.cell? ⟨b,off+k,none⟩=some (.slice A' xs.length c'):=(hb.cell (by simp;omega)).trans hc;have hm:=List.mem_of_getElem? hx;have hox:=HOK.out xs hm;have hlx:=len_le_sumL hm;have hlx1:xs.length≤268435456:=by omega
   obtain ⟨out0,hout0⟩:∃ o,o=red [] (d.take k).flatten:=⟨_,rfl⟩
   have hstep:=red_flatten_step d hx;rw [← hout0] at hown hstep;have hok0:OkI out0:=by
    rw [hout0];exact red_ok (okI_flatten fun ys hy=>HOK.out ys (List.mem_of_mem_take hy))
   have hl0:out0.length+xs.length≤268435456:=by
    have h1:=red_nil_len (d.take k).flatten;rw [← hout0,sumL_flatten] at h1;have h2:=sumL_take_succ hx;have h3:=sumL_take_le d (k+1);omega
   have HX:=Lib.hid hx;have HS:=Lib.hid hstep;have HO0:=Lib.hid hok0;have HOX:=Lib.hid hox;clear hx hm hox hout0 hstep hok0 hlx;go_wp2_with fail;go_loopw [3,7,17] (fun v _ j wr2=>∃ l:Nat,l≤xs.length∧j=.int .i64 l∧PrOut w wr2 v (red out0 (xs.take l))) (fun _ _ j _=>xs.length - (intOf j).toNat)
   case atStart=>exact ⟨0,Nat.zero_le _,rfl,hown,hb⟩
   case round =>
    clear hown hb hcw;obtain ⟨l,hlk,rfl,hown,hb⟩:=hrel;have hsz:=hb.size;by_cases hl2:l < xs.length
    ·obtain ⟨b',off',x,rfl, -,hxx,hcx⟩:=((hrx.rs.more hhi).below hb).int hl2
     have hst:=red_step xs hxx out0;have hbx:=HOX.out x (List.mem_of_getElem? hxx);have hlen:=red_len out0 (xs.take l);rw [List.length_take] at hlen;obtain ⟨out1,ho1⟩:∃ o,o=red out0 (xs.take l):=⟨_,rfl⟩
     rw [← ho1] at hown hst hlen;have hok1:OkI out1:=fun y hy=>by
      rw [ho1] at hy;rcases red_mem hy with h1 | h1
      ·exact HO0.out y h1
      ·exact HOX.out y (List.mem_of_mem_take h1)
     clear ho1 hxx;have HST:=Lib.hid hst;have HBX:=Lib.hid hbx;clear hst hbx;rcases Nat.eq_zero_or_pos out1.length with he | hp
     ·obtain rfl:=List.eq_nil_of_length_eq_zero he
      clear he hok1 hlen;obtain ⟨A1,c1,rfl, -, -⟩:=owns_shape hown;go_wp2_with (at_builtin;refine wpList_push rfl _ _ 44 rfl w.heap.size 3 (.int .i64 0) 1 8 undSI infoI rfl (by decide) _ _ _ rfl hown 1 [.int .i64 x] rfl rfl (one_of_ints [x]) (by unfold maxLen;simp) (by simp) hsz ?n1)
      case n1 =>
       intro v' w1 hown1 hgr _;go_wp2_with fail;go_roundw
       case rel =>
        refine ⟨l+1,by omega,by go_num,?_,hb.grown hgr hsz (fun g hg=>(hown.lt g hg).1)⟩;rw [HST.out,redStep_empty];exact hown1
       case measure=>simp [intOf];omega
     ·obtain ⟨ys,a,rfl⟩:=eq_concat out1 hp
      have hba:=hok1 a (by simp);rw [List.length_append] at hown hlen;simp only [List.length_cons,List.length_nil,Nat.zero_add] at hown hlen;clear hp hok1;obtain ⟨A1,c1,rfl,hnc, -⟩:=owns_shape hown;obtain ⟨g,rfl, -, -⟩:=owns_addr hown (Nat.succ_pos _);have hca:wr.cell? ⟨g,ys.length,none⟩=some (.int .i64 a):=by
       rw [hown.cellAt ys.length (by omega)];simp [ints]
      have HA:=Lib.hid hba;obtain ⟨ha1,ha2⟩:=hba;by_cases hI:invB a x=true
      ·have HI:=Lib.hid hI
       clear hI;have hys:ys.length≤c1:=by omega
       go_wp2_with fail;refine (impl_areInverse _ _ _ ha1 ha2).mono ?_;rintro e w' ⟨rfl,rfl⟩;rw [HI.out];go_wp2_with fail;go_roundw
       case rel =>
        refine ⟨l+1,by omega,by go_num,?_,hb⟩;rw [HST.out,redStep_pop HI.out];have h1:=owns_cut hown (Nat.le_succ ys.length);rw [Nat.mul_one,ints_append,List.take_left' (ints_len ys)] at h1;exact h1
       case measure=>simp [intOf];omega
      ·have hI':invB a x=false:=by simpa using hI
       have HI:=Lib.hid hI';clear hI hI';go_wp2_with fail;refine (impl_areInverse _ _ _ ha1 ha2).mono ?_;rintro e w' ⟨rfl,rfl⟩;rw [HI.out];go_wp2_with (at_builtin;refine wpList_push rfl _ _ 44 rfl w.heap.size 3 (.int .i64 0) 1 8 undSI infoI rfl (by decide) _ _ _ rfl hown 1 [.int .i64 x] rfl rfl (one_of_ints [x]) (by unfold maxLen;omega) (by omega) hsz ?n2)
       case n2 =>
        intro v' w1 hown1 hgr _;go_wp2_with fail;go_roundw
        case rel =>
         refine ⟨l+1,by omega,by go_num,?_,hb.grown hgr hsz (fun g hg=>(hown.lt g hg).1)⟩;rw [HST.out,redStep_push HI.out,ints_append,List.length_append,List.length_append];exact hown1
        case measure=>simp [intOf];omega
    ·obtain rfl:l=xs.length:=by omega
     rw [List.take_length] at hown;go_wp2_with fail;go_roundw
     case rel =>
      refine ⟨k+1,by omega,by go_num,?_,hb⟩;rw [HS.out];exact hown
     case measure=>simp [intOf];omega
  ·obtain rfl:k=d.length:=by omega
   rw [List.take_length] at hown;go_wp2_with fail;go_ret;exact RetI.mk rfl hown hb
end
section
open Go.RowKit
end
section
open Go.RowKit
end
section
open Go.RowKit
section
variable {W:World} {ops:Array Oper} {rest:List Oper} {o:Oper} {ac:Act} {Q:Exit→Act→World→Prop}
end
end
section
open Go.RowKit
def RSC (w:World) (lo hi:Nat) (A:Option Addr) (xss:List (List Int)):Prop :=
 ∃ rows,rowsD rows=xss∧RV w lo hi A (rowsV rows)∧∀ r∈rows,RV w lo hi r.A (ints r.xs)∧r.xs.length≤r.c
section
variable {w w':World} {lo hi a b:Nat} {A:Option Addr} {xss:List (List Int)}
theorem RSC.rss (h:RSC w lo hi A xss):RSS w lo hi A xss:=by
 obtain ⟨rows,h1,h2,h3⟩:=h;exact ⟨rows,h1,h2,fun r hr=>(h3 r hr).1⟩
theorem RSC.size (h:RSC w lo hi A xss):hi≤w.heap.size:=h.rss.size
theorem RSC.mid (h:RSC w lo hi A xss) (m:Mid a b w w') (hd:b≤lo ∨ hi≤a):RSC w' lo hi A xss:=by
 obtain ⟨rows,h1,h2,h3⟩:=h;exact ⟨rows,h1,h2.mid m hd,fun r hr=>⟨(h3 r hr).1.mid m hd,(h3 r hr).2⟩⟩
theorem owns_cap {e:TypeId} {base size n c:Nat} {xs:List Value} (h:w.ownsRow base e size (.slice A n c) n xs):n≤c:=by
 obtain ⟨_,_,e,h1,_⟩:=owns_shape h;injection e with _ _ e
 omega
theorem OSS.rsc {tSI tI:TypeId} {c:Nat} (h:OSS w lo hi tSI tI A c xss):RSC w lo hi A xss:=by
 obtain ⟨_,rows,h1,h2,h3⟩:=h;exact ⟨rows,h1,h2.rv,fun r hr=>⟨(h3.1 r hr).rv,owns_cap (h3.1 r hr).2.1⟩⟩
theorem RSC.row (h:RSC w lo hi A xss) {k:Nat} (hk:k < xss.length) :
  ∃ b off A' c' xs,A=some ⟨b,off,none⟩∧lo≤b∧b < hi∧xss[k]?=some xs∧w.cell? ⟨b,off+k,none⟩=some (.slice A' xs.length c')∧RV w lo hi A' (ints xs)∧xs.length≤c':=by
 obtain ⟨rows,rfl,h2,h3⟩:=h;rw [rowsD_len] at hk;obtain ⟨b,off,e,hb,hb2,hc⟩:=h2.2 (by intro h0;have:=congrArg List.length h0;rw [rowsV_len] at this;simp at this;subst this;simp at hk);obtain ⟨r,hr⟩:=get_of_lt rows hk;refine ⟨b,off,r.A,r.c,r.xs,e,hb,hb2,by simp [rowsD,hr],hc k _ (by simp [rowsV,hr,Row.v]),(h3 r (List.mem_of_getElem? hr)).1,(h3 r (List.mem_of_getElem? hr)).2⟩
end
end
section
open Go.RowKit
abbrev obS (A:Option Addr) (n c:Nat):Option Nat:=Value.ownBlock (.slice A n c)
structure Own1 (w:World) (lo:Nat) (A:Option Addr) (n c:Nat) (rows:List Row):Prop where
 out:w.ownsRow lo 44 1 (.slice A n c) n (rowsV rows)
 rows:OwnRows w lo w.heap.size 3 rows
section
variable {w w':World} {lo:Nat} {A A2:Option Addr} {n c n2 c2:Nat} {rows rows2:List Row}
theorem Own1.oss (h:Own1 w lo A n c rows) {xss:List (List Int)} (hd:rowsD rows=xss):OSS w lo w.heap.size 44 3 A c xss:=OSS.mk' h.out h.rows hd
theorem Own1.base {lo':Nat} (h:Own1 w lo A n c rows) (hl:lo'≤lo):Own1 w lo' A n c rows:=⟨owns_base h.out hl,h.rows.wide hl (Nat.le_refl _) (Nat.le_refl _)⟩
end
theorem Own1.empty (w:World):Own1 (w.alloc (.cells #[] 44)) w.heap.size (some ⟨w.heap.size,0,none⟩) 0 0 []:=⟨owns_empty w 44 1,OwnRows.nil⟩
section
variable {W:World} {ops:Array Oper} {rest:List Oper} {o:Oper} {ac:Act} {Q:Exit→Act→World→Prop}
end
end
section
open Go.RowKit
section
variable {w w' W W':World} {lo a b:Nat} {A A':Option Addr} {n c c':Nat} {rows:List Row} {r:Row}
theorem Own1.midB (h:Own1 w lo A n c rows) (m:Mid a b w w') (hd:b≤lo):Own1 w' lo A n c rows :=
 ⟨owns_mid h.out m (Or.inl hd),(h.rows.mid m (Or.inl hd)).wide (Nat.le_refl _) m.size (Nat.le_refl _)⟩
theorem Own1.pushB (h:Own1 w lo A n c rows) (m:Mid a b w W) (hd:b≤lo) (hl:lo≤w.heap.size) (hrow:W.ownsRow w.heap.size 3 1 r.v r.xs.length (ints r.xs))
  (h1:W'.ownsRow lo 44 1 (.slice A' (n+1) c') (n+1) (rowsV rows++[r.v])) (h2:W.grownBy W' (obS A n c)):Own1 W' lo A' (n+1) c' (rows++[r]):=by
 refine ⟨by rw [rowsV_append];exact h1,?_⟩;have k1:=(h.rows.mid m (Or.inl hd)).push (r:=r) (base:=w.heap.size) (hi':=W.heap.size) hrow (Nat.le_refl _) hl m.size (Nat.le_refl _) (fun g hg=>(hrow.lt g hg).2);exact (k1.grown (h.midB m hd).out (by decide) h2).wide (Nat.le_refl _) h2.size (Nat.le_refl _)
variable {ops:Array Oper} {rest:List Oper} {o:Oper} {ac:Act} {Q:Exit→Act→World→Prop}
theorem wpList_pushB (hgd:o.guard=none) (s x:Operand)
  (ho:o.op=.call { callee:=.builtin .append,args:=#[s,x],argTypes:=#[24,24] }) (hs:ac.eval s=.slice A n c)
  (h:Own1 w lo A n c rows) (m:Mid a b w W) (hd:b≤lo) (r:Row) (u:Value) (hu:r.v=u) (hrow:W.ownsRow w.heap.size 3 1 r.v r.xs.length (ints r.xs)) (hx:ac.eval x=.slice (some ⟨W.heap.size,0,none⟩) 1 1) (hn:n≤1048576) (hb:lo≤w.heap.size)
  (hk:∀ A' c' w',Own1 w' lo A' (n+1) c' (rows++[r])→W.grownBy w' (obS A n c)→wpList Tryz.prog ops Q rest (ac.put o.dst (.slice A' (n+1) c')) w') :
  wpList Tryz.prog ops Q (o :: rest) ac (W.alloc (.cells #[u] 44)):=by
 subst hu;have hms:=m.size;refine wpList_push (news:=[r.v]) hgd s x 24 ho lo 44 (.slice none 0 0) 1 24 undSSI infoSI rfl (by decide) (.slice A n c) n (rowsV rows) hs (h.midB m hd).out 1 hx rfl ?_ (by unfold maxLen;omega) (by omega) (by omega) ?_
 ·intro u hu
  simp at hu;subst hu
  rfl
 ·intro v' w' h1 h2 h3
  obtain ⟨A',c',rfl, -, -⟩:=owns_shape h1;exact hk A' c' w' (h.pushB m hd hb hrow h1 h2) h2
end
def DrWs (l:List (List Int)):Prop:=l.length≤5∧∀ w∈l,w.length≤5∧LtW w∧Rd w
theorem DrWs.len {l:List (List Int)} (h:DrWs l):∀ {k:Nat},sumL (l.take k)≤5 * k:=by
 intro k
 induction k with
 | zero=>simp [sumL]
 | succ k ih =>
  by_cases hk:k < l.length
  ·have e:=sumL_take_succ (List.getElem?_eq_getElem hk)
   have:=(h.2 _ (List.getElem_mem hk)).1;omega
  ·rw [List.take_of_length_le (by omega)] at ih ⊢
   omega
theorem DrWs.ok {l:List (List Int)} (h:DrWs l):OkSS l:=⟨⟨by have:=h.1;omega,fun xs hx=>by have:=(h.2 xs hx).1;omega⟩,fun xs hx=>(h.2 xs hx).2.1.ok⟩
theorem l6Words_any (r:Int) (hr1:1≤r) (hr3:r≤3) (p:Nat) (A:Option Addr) (bs:List Int) (c:Nat) (w:World) (hb:OkB bs) (hl:bs.length≤1048576) (h:Cur w p A bs c) :
  Calls Tryz.prog 177 #[.pointer (some ⟨p,0,none⟩),.int .i64 r] w fun e w'=>∃ A' c' rows,e=.returned (.slice A' (List.length rows) c')∧((rowsD rows).length≤3∧DrWs (rowsD rows))∧Own1 w' w.heap.size A' rows.length c' rows∧Cur w' p A bs c∧Mid p (p+1) w w':=by
 have hpw:=h.lt;have hal:=Mid.alloc w (.cells #[] 44);have ho:=Own1.empty w;have h0:=h.mid hal (Or.inr rfl);go_enter Tryz.func177,Tryz.ntmps177
 go_wp2_with fail;with_reducible refine (l1BelowI 4 (by decide) (by decide) p A bs c _ hb hl h0).mono ?_
 rintro e w1 ⟨n0,rfl,hn0,h1,m1⟩;have ho1:=ho.midB m1 (by omega);have hm1:=hal.zero.trans m1;have hs1:=hm1.size;clear h0 hal m1 ho;go_wp2_with fail;go_loopw [5,6] (fun wv nv wr=>∃ (rows:List Row) (n:Nat) (Ax:Option Addr) (cx L:Nat),nv=.int .i64 n∧wv=.slice Ax L cx∧Hid (rows.length=L)∧L+n≤3∧Hid (DrWs (rowsD rows))∧Own1 wr w.heap.size Ax L cx rows∧Cur wr p A bs c∧Mid p (p+1) w wr)
  (fun _ nv _=>natV nv)
 case atStart=>exact ⟨[],n0,_,_,0,rfl,rfl,Lib.hid rfl,by omega,Lib.hid ⟨by simp [rowsD],by simp [rowsD]⟩,ho1,h1,hm1⟩
 case round =>
  obtain ⟨rows,n,Ax,cx,L,rfl,rfl,HL,hLm,HW,ho,hc,hm⟩:=hrel;have hs:=hm.size;by_cases hlt:0 < n
  ·go_wp2_with fail
   with_reducible refine (l2Of_any r hr1 hr3 5 (by decide) (by decide) p A bs c _ hb hl hc).mono ?_
   rintro e w2 ⟨Ay,cy,ys,rfl,⟨hyl,hyw,hyr⟩,oy,hc2,m2⟩;have hoy:=oy.2.1;have HY:=Lib.hid (show ys.length≤5∧LtW ys∧Rd ys from ⟨by omega,hyw,hyr⟩);have hm2:=hm.trans m2;have hs2:=hm2.size;clear hyl hyw hyr oy hc hm;go_wp2_with (at_builtin;refine wpList_pushB rfl _ _ rfl rfl ho m2 hpw ⟨Ay,cy,ys⟩ _ rfl hoy rfl (by omega) hs ?next)
   case next =>
    intro A3 c3 w3 ho3 hgr3;have m3:Mid w.heap.size w2.heap.size w2 w3:=Mid.of_grownRow (ho.midB m2 hpw).out hgr3;go_wp2_with fail;go_roundw
    case rel =>
     refine ⟨rows++[⟨Ay,cy,ys⟩],n - 1,A3,c3,L+1,by go_num,rfl,Lib.hid (by simp [HL.out]),by omega,Lib.hid ?_,ho3,hc2.mid m3 (Or.inl hpw),hm2.transNew m3 (Or.inl (Nat.le_refl _))⟩;have h1:=HW.out;have h2:=HL.out;rw [rowsD_append];refine ⟨by rw [List.length_append,rowsD_len];simp [rowsD];omega,fun x hx=>?_⟩;rcases List.mem_append.1 hx with hx | hx
     ·exact h1.2 x hx
     ·simp [rowsD] at hx
      rw [hx];exact HY.out
    case measure=>simp [natV];omega
  ·go_wp2_with fail
   go_ret;have hle:=HL.out;refine ⟨Ax,cx,rows,by rw [hle];rfl,⟨by rw [rowsD_len];omega,HW.out⟩,by rw [hle];exact ho,hc,hm⟩
end
section
open Go.RowKit
def cmpN (a b:List Int):Int:=if a.length < b.length then -1 else if b.length < a.length then 1 else if cmpW (halves a).1 (halves b).1=0 then cmpW (halves a).2 (halves b).2 else cmpW (halves a).1 (halves b).1
theorem spec_CompareNielsen (A A':Option Addr) (xs ys:List Int) (c c':Nat) (w:World) (hr:Rs w w.heap.size A (ints xs)) (hr':Rs w w.heap.size A' (ints ys)) (hc:xs.length≤c) (hc':ys.length≤c') (hox:OkI xs) (hoy:OkI ys) (hl:xs.length≤1048576) (hl':ys.length≤1048576) :
  Calls Tryz.prog 36 #[.slice A xs.length c,.slice A' ys.length c'] w fun e w'=>e=.returned (.int .i64 (cmpN xs ys))∧Mid 0 0 w w':=by
 have HOX:=Lib.hid hox;have HOY:=Lib.hid hoy;clear hox hoy;by_cases h1:xs.length < ys.length
 ·have hv:cmpN xs ys = -1:=by unfold cmpN;rw [if_pos h1]
  rw [hv];clear hv;have hne:((xs.length:Int) != (ys.length:Int))=true:=by simp;omega
  go_enter Tryz.func36,Tryz.ntmps36
  go_wp2_with fail;go_ret;exact ⟨rfl,Mid.refl _ _ _⟩
 ·by_cases h2:ys.length < xs.length
  ·have hv:cmpN xs ys=1:=by unfold cmpN;rw [if_neg h1,if_pos h2]
   rw [hv];clear hv;have hne:((xs.length:Int) != (ys.length:Int))=true:=by simp;omega
   go_enter Tryz.func36,Tryz.ntmps36
   go_wp2_with fail;go_ret;exact ⟨rfl,Mid.refl _ _ _⟩
  ·have hv:cmpN xs ys=if cmpW (halves xs).1 (halves ys).1=0 then cmpW (halves xs).2 (halves ys).2 else cmpW (halves xs).1 (halves ys).1:=by unfold cmpN;rw [if_neg h1,if_neg h2]
   rw [hv];clear hv;have hne:((xs.length:Int) != (ys.length:Int))=false:=by simp;omega
   have hnx:=halfN_le xs;have hny:=halfN_le ys;obtain ⟨p1,hp1⟩:∃ p,p=(halves xs).1:=⟨_,rfl⟩
   obtain ⟨p2,hp2⟩:∃ p,p=(halves xs).2:=⟨_,rfl⟩
   obtain ⟨q1,hq1⟩:∃ p,p=(halves ys).1:=⟨_,rfl⟩
   obtain ⟨q2,hq2⟩:∃ p,p=(halves ys).2:=⟨_,rfl⟩
   have hx:=halves_len xs;have hy:=halves_len ys;have hkx:=halves_ok HOX.out;have hky:=halves_ok HOY.out;have hXr:(∀ w e w',RetHalves xs w e w'→∃ A c A' c',e=.returned (.tuple #[.slice A p1.length c,.slice A' p2.length c'])∧Rs w' w'.heap.size A (ints p1)∧Rs w' w'.heap.size A' (ints p2)∧Mid 0 0 w w'):=by
    intro w e w' h;rw [hp1,hp2,hx.1,hx.2];exact h
   have hYr:(∀ w e w',RetHalves ys w e w'→∃ A c A' c',e=.returned (.tuple #[.slice A q1.length c,.slice A' q2.length c'])∧Rs w' w'.heap.size A (ints q1)∧Rs w' w'.heap.size A' (ints q2)∧Mid 0 0 w w'):=by
    intro w e w' h;rw [hq1,hq2,hy.1,hy.2];exact h
   have HX:=Lib.hid hXr;have HY:=Lib.hid hYr;clear hXr hYr;rw [← hp1,← hp2] at hx hkx;rw [← hq1,← hq2] at hy hky;rw [← hp1,← hp2,← hq1,← hq2];have hlp1:p1.length≤4194304:=by omega
   have hlp2:p2.length≤4194304:=by omega
   have hlq1:q1.length≤4194304:=by omega
   have hlq2:q2.length≤4194304:=by omega
   have HKX:=Lib.hid hkx;have HKY:=Lib.hid hky;clear hp1 hp2 hq1 hq2 hx hy hkx hky hnx hny;obtain ⟨u,hu⟩:∃ u,u=cmpW p1 q1:=⟨_,rfl⟩
   have HU:=Lib.hid hu;rw [← hu];clear hu;by_cases hu0:u=0
   ·subst hu0
    rw [if_pos rfl];go_enter Tryz.func36,Tryz.ntmps36
    go_wp2_with fail;refine (spec_l20Halves A xs c _ hr hc HOX.out hl).mono ?_;intro e w1 hret;obtain ⟨A1,c1,A2,c2,rfl,hA1,hA2,hm1⟩:=HX.out _ _ _ hret;have hr1:=(hr'.below hm1.bel).more hm1.size;go_wp2_with fail;refine (spec_l20Halves A' ys c' _ hr1 hc' HOY.out hl').mono ?_;intro e w2 hret2;obtain ⟨B1,d1,B2,d2,rfl,hB1,hB2,hm2⟩:=HY.out _ _ _ hret2;have hA1':=(hA1.below hm2.bel).more hm2.size;have hA2':=(hA2.below hm2.bel).more hm2.size;go_wp2_with fail;refine (spec_CompareWords A1 B1 p1 q1 c1 d1 _ _ _ hA1' hB1 HKX.out.1 HKY.out.1 hlp1 hlq1).mono ?_;rintro e w3 ⟨rfl,n,rfl⟩;rw [← HU.out];go_wp2_with fail;refine (spec_CompareWords A2 B2 p2 q2 c2 d2 _ _ _ (hA2'.drewN n) (hB2.drewN n) HKX.out.2 HKY.out.2 hlp2 hlq2).mono ?_;rintro e w4 ⟨rfl,m,rfl⟩;go_wp2_with fail;go_ret;exact ⟨rfl,(hm1.trans hm2).drewN (n+m)⟩
   ·rw [if_neg hu0]
    have hub:(u == 0)=false:=by simpa using hu0
    have hub':(u != 0)=true:=by simpa using hu0
    clear hu0;go_enter Tryz.func36,Tryz.ntmps36
    go_wp2_with fail;refine (spec_l20Halves A xs c _ hr hc HOX.out hl).mono ?_;intro e w1 hret;obtain ⟨A1,c1,A2,c2,rfl,hA1,hA2,hm1⟩:=HX.out _ _ _ hret;have hr1:=(hr'.below hm1.bel).more hm1.size;go_wp2_with fail;refine (spec_l20Halves A' ys c' _ hr1 hc' HOY.out hl').mono ?_;intro e w2 hret2;obtain ⟨B1,d1,B2,d2,rfl,hB1,hB2,hm2⟩:=HY.out _ _ _ hret2;have hA1':=(hA1.below hm2.bel).more hm2.size;go_wp2_with fail;refine (spec_CompareWords A1 B1 p1 q1 c1 d1 _ _ _ hA1' hB1 HKX.out.1 HKY.out.1 hlp1 hlq1).mono ?_;rintro e w3 ⟨rfl,n,rfl⟩;rw [← HU.out];go_wp2_with fail;go_ret;exact ⟨rfl,(hm1.trans hm2).drewN n⟩
theorem impl_CompareNielsen (A A':Option Addr) (xs ys:List Int) (c c':Nat) (w:World) (hr:Rs w w.heap.size A (ints xs)) (hr':Rs w w.heap.size A' (ints ys)) (hc:xs.length≤c) (hc':ys.length≤c') (hox:OkI xs) (hoy:OkI ys) (hl:xs.length≤1048576) (hl':ys.length≤1048576) :
  Calls Tryz.prog 35 #[.slice A xs.length c,.slice A' ys.length c'] w fun e w'=>e=.returned (.int .i64 (cmpN xs ys))∧Mid 0 0 w w':=by
 have HOX:=Lib.hid hox;have HOY:=Lib.hid hoy;clear hox hoy;by_cases h1:xs.length < ys.length
 ·have hv:cmpN xs ys = -1:=by unfold cmpN;rw [if_pos h1]
  rw [hv];clear hv;have hci:cmpI (xs.length:Int) (ys.length:Int) = -1:=by unfold cmpI;rw [if_pos (by omega)]
  have hne:((xs.length:Int) != (ys.length:Int))=true:=by simp;omega
  go_enter Tryz.func35,Tryz.ntmps35
  go_wp2_with fail;refine (impl_compareInts _ _ _).mono ?_;rintro e w' ⟨rfl,rfl⟩;rw [hci];go_wp2_with fail;go_ret;exact ⟨rfl,Mid.refl _ _ _⟩
 ·by_cases h2:ys.length < xs.length
  ·have hv:cmpN xs ys=1:=by unfold cmpN;rw [if_neg h1,if_pos h2]
   rw [hv];clear hv;have hci:cmpI (xs.length:Int) (ys.length:Int)=1:=by unfold cmpI;rw [if_neg (by omega),if_pos (by omega)]
   have hne:((xs.length:Int) != (ys.length:Int))=true:=by simp;omega
   go_enter Tryz.func35,Tryz.ntmps35
   go_wp2_with fail;refine (impl_compareInts _ _ _).mono ?_;rintro e w' ⟨rfl,rfl⟩;rw [hci];go_wp2_with fail;go_ret;exact ⟨rfl,Mid.refl _ _ _⟩
  ·have hv:cmpN xs ys=if cmpW (halves xs).1 (halves ys).1=0 then cmpW (halves xs).2 (halves ys).2 else cmpW (halves xs).1 (halves ys).1:=by unfold cmpN;rw [if_neg h1,if_neg h2]
   rw [hv];clear hv;have hci:cmpI (xs.length:Int) (ys.length:Int)=0:=by unfold cmpI;rw [if_neg (by omega),if_neg (by omega)]
   have hne:((xs.length:Int) != (ys.length:Int))=false:=by simp;omega
   have hnx:=halfN_le xs;have hny:=halfN_le ys;obtain ⟨p1,hp1⟩:∃ p,p=(halves xs).1:=⟨_,rfl⟩
   obtain ⟨p2,hp2⟩:∃ p,p=(halves xs).2:=⟨_,rfl⟩
   obtain ⟨q1,hq1⟩:∃ p,p=(halves ys).1:=⟨_,rfl⟩
   obtain ⟨q2,hq2⟩:∃ p,p=(halves ys).2:=⟨_,rfl⟩
   have hx:=halves_len xs;have hy:=halves_len ys;have hkx:=halves_ok HOX.out;have hky:=halves_ok HOY.out;have hXr:(∀ w e w',RetHalves xs w e w'→∃ A c A' c',e=.returned (.tuple #[.slice A p1.length c,.slice A' p2.length c'])∧Rs w' w'.heap.size A (ints p1)∧Rs w' w'.heap.size A' (ints p2)∧Mid 0 0 w w'):=by
    intro w e w' h;rw [hp1,hp2,hx.1,hx.2];exact h
   have hYr:(∀ w e w',RetHalves ys w e w'→∃ A c A' c',e=.returned (.tuple #[.slice A q1.length c,.slice A' q2.length c'])∧Rs w' w'.heap.size A (ints q1)∧Rs w' w'.heap.size A' (ints q2)∧Mid 0 0 w w'):=by
    intro w e w' h;rw [hq1,hq2,hy.1,hy.2];exact h
   have HX:=Lib.hid hXr;have HY:=Lib.hid hYr;clear hXr hYr;rw [← hp1,← hp2] at hx hkx;rw [← hq1,← hq2] at hy hky;rw [← hp1,← hp2,← hq1,← hq2];have hlp1:p1.length≤4194304:=by omega
   have hlp2:p2.length≤4194304:=by omega
   have hlq1:q1.length≤4194304:=by omega
   have hlq2:q2.length≤4194304:=by omega
   have HKX:=Lib.hid hkx;have HKY:=Lib.hid hky;clear hp1 hp2 hq1 hq2 hx hy hkx hky hnx hny;obtain ⟨u,hu⟩:∃ u,u=cmpW p1 q1:=⟨_,rfl⟩
   have HU:=Lib.hid hu;rw [← hu];clear hu;by_cases hu0:u=0
   ·subst hu0
    rw [if_pos rfl];go_enter Tryz.func35,Tryz.ntmps35
    go_wp2_with fail;refine (impl_compareInts _ _ _).mono ?_;rintro e w' ⟨rfl,rfl⟩;rw [hci];go_wp2_with fail;refine (impl_halves A xs c _ hr hc HOX.out hl).mono ?_;intro e w1 hret;obtain ⟨A1,c1,A2,c2,rfl,hA1,hA2,hm1⟩:=HX.out _ _ _ hret;have hr1:=(hr'.below hm1.bel).more hm1.size;go_wp2_with fail;refine (impl_halves A' ys c' _ hr1 hc' HOY.out hl').mono ?_;intro e w2 hret2;obtain ⟨B1,d1,B2,d2,rfl,hB1,hB2,hm2⟩:=HY.out _ _ _ hret2;have hA1':=(hA1.below hm2.bel).more hm2.size;have hA2':=(hA2.below hm2.bel).more hm2.size;go_wp2_with fail;refine (impl_CompareWords A1 B1 p1 q1 c1 d1 _ _ _ hA1' hB1 HKX.out.1 HKY.out.1 hlp1 hlq1).mono ?_;rintro e w3 ⟨rfl,n,rfl⟩;rw [← HU.out];go_wp2_with fail;refine (impl_CompareWords A2 B2 p2 q2 c2 d2 _ _ _ (hA2'.drewN n) (hB2.drewN n) HKX.out.2 HKY.out.2 hlp2 hlq2).mono ?_;rintro e w4 ⟨rfl,m,rfl⟩;go_wp2_with fail;go_ret;exact ⟨rfl,(hm1.trans hm2).drewN (n+m)⟩
   ·rw [if_neg hu0]
    have hub:(u == 0)=false:=by simpa using hu0
    have hub':(u != 0)=true:=by simpa using hu0
    clear hu0;go_enter Tryz.func35,Tryz.ntmps35
    go_wp2_with fail;refine (impl_compareInts _ _ _).mono ?_;rintro e w' ⟨rfl,rfl⟩;rw [hci];go_wp2_with fail;refine (impl_halves A xs c _ hr hc HOX.out hl).mono ?_;intro e w1 hret;obtain ⟨A1,c1,A2,c2,rfl,hA1,hA2,hm1⟩:=HX.out _ _ _ hret;have hr1:=(hr'.below hm1.bel).more hm1.size;go_wp2_with fail;refine (impl_halves A' ys c' _ hr1 hc' HOY.out hl').mono ?_;intro e w2 hret2;obtain ⟨B1,d1,B2,d2,rfl,hB1,hB2,hm2⟩:=HY.out _ _ _ hret2;have hA1':=(hA1.below hm2.bel).more hm2.size;go_wp2_with fail;refine (impl_CompareWords A1 B1 p1 q1 c1 d1 _ _ _ hA1' hB1 HKX.out.1 HKY.out.1 hlp1 hlq1).mono ?_;rintro e w3 ⟨rfl,n,rfl⟩;rw [← HU.out];go_wp2_with fail;go_ret;exact ⟨rfl,(hm1.trans hm2).drewN n⟩
def CompareNielsenIs (a b:List Int) (res:Int):Prop:=cmpN a b=res
theorem OI.cap {w:World} {lo hi:Nat} {A:Option Addr} {c:Nat} {xs:List Int} (h:OI w lo hi A c xs):xs.length≤c:=by
 obtain ⟨A',c',he,hn, -⟩:=owns_shape h.2.1;injection he with _ _ hc
 omega
theorem sspec_CompareNielsen (A:Option Addr) (a:List Int) (c:Nat) (A':Option Addr) (b:List Int) (c':Nat) (w:World) (lo hi:Nat) (h:OI w lo hi A c a) (_o:OkI a) (hl:a.length≤1048576) (lo' hi':Nat) (h':OI w lo' hi' A' c' b) (_o':OkI b) (hl':b.length≤1048576) (res:Int) (hres:CompareNielsenIs a b res) :
  Calls Tryz.prog 36 #[.slice A a.length c,.slice A' b.length c'] w (Stp (.int .i64 res) w):=by
 have h1:=spec_CompareNielsen A A' a b c c' w h.ri.rs h'.ri.rs h.cap h'.cap _o _o' hl hl';rw [hres] at h1;exact h1
theorem simpl_CompareNielsen (A:Option Addr) (a:List Int) (c:Nat) (A':Option Addr) (b:List Int) (c':Nat) (w:World) (lo hi:Nat) (h:OI w lo hi A c a) (_o:OkI a) (hl:a.length≤1048576) (lo' hi':Nat) (h':OI w lo' hi' A' c' b) (_o':OkI b) (hl':b.length≤1048576) (res:Int) (hres:CompareNielsenIs a b res) :
  Calls Tryz.prog 35 #[.slice A a.length c,.slice A' b.length c'] w (Stp (.int .i64 res) w):=by
 have h1:=impl_CompareNielsen A A' a b c c' w h.ri.rs h'.ri.rs h.cap h'.cap _o _o' hl hl';rw [hres] at h1;exact h1
end
section
open Go.RowKit
structure Mv where
 kind:Int
 i:Int
 j:Int
 sign:Int
deriving DecidableEq
def Mv.v (m:Mv):Value:=.agg #[.int .i64 m.kind,.int .i64 m.i,.int .i64 m.j,.int .i64 m.sign]
def rowAt (l:List (List Int)) (i:Int):List Int:=l.getD i.toNat []
def MvOk (l:List (List Int)) (m:Mv):Prop:=0≤m.j∧m.j < l.length∧m.j≠m.i∧(m.sign=1 ∨ m.sign = -1)
instance (l:List (List Int)) (m:Mv):Decidable (MvOk l m):=by unfold MvOk;infer_instance
def mvWord (l:List (List Int)) (m:Mv):List Int:=if m.sign < 0 then invW (rowAt l m.j) else rowAt l m.j
def applyM (l:List (List Int)) (m:Mv):List (List Int) × Bool :=
 if ¬ (0≤m.i∧m.i < l.length) then (l,false)
 else if m.kind=1 then (l.set m.i.toNat (invW (rowAt l m.i)),true)
 else if m.kind=4 then (if 0 < (rowAt l m.i).length then (l,false) else (l.eraseIdx m.i.toNat,true))
 else if ¬ MvOk l m then (l,false)
 else if m.kind=2 then (l.set m.i.toNat (red [] (rowAt l m.i++mvWord l m)),true)
 else if m.kind=3 then (l.set m.i.toNat (red [] (mvWord l m++rowAt l m.i)),true)
 else (l,false)
theorem rowAt_get {l:List (List Int)} {k:Nat} {xs:List Int} (h:l[k]?=some xs):rowAt l (k:Int)=xs:=by
 unfold rowAt;rw [Int.toNat_natCast,List.getD_eq_getElem?_getD,h]
 rfl
theorem sumL_set {l:List (List Int)} {k:Nat} {xs ys:List Int} (h:l[k]?=some xs):sumL (l.set k ys)+xs.length=sumL l+ys.length:=by
 induction l generalizing k with
 | nil=>simp at h
 | cons a t ih =>
  cases k with
  | zero =>
   simp at h;subst h;simp [sumL];omega
  | succ k =>
   simp at h;have:=ih h;simp [sumL] at this ⊢;omega
theorem sumL_erase {l:List (List Int)} {k:Nat} {xs:List Int} (h:l[k]?=some xs):sumL (l.eraseIdx k)+xs.length=sumL l:=by
 induction l generalizing k with
 | nil=>simp at h
 | cons a t ih =>
  cases k with
  | zero =>
   simp at h;subst h;simp [sumL];omega
  | succ k =>
   simp at h;have:=ih h;simp [sumL] at this ⊢;omega
theorem two_le_sumL {l:List (List Int)} {i k:Nat} {xs ys:List Int} (h:l[i]?=some xs) (h':l[k]?=some ys) (hne:i≠k):xs.length+ys.length≤sumL l:=by
 induction l generalizing i k with
 | nil=>simp at h
 | cons a t ih =>
  cases i with
  | zero =>
   cases k with
   | zero=>omega
   | succ k =>
    simp at h h';subst h;have:=len_le_sumL (List.mem_of_getElem? h');simp [sumL] at this ⊢;omega
  | succ i =>
   cases k with
   | zero =>
    simp at h h';subst h';have:=len_le_sumL (List.mem_of_getElem? h);simp [sumL] at this ⊢;omega
   | succ k =>
    simp at h h';have:=ih h h' (by omega);simp [sumL] at this ⊢;omega
theorem okI_app {xs ys:List Int} (h:OkI xs) (h':OkI ys):OkI (xs++ys):=fun x hx=>by
 rcases List.mem_append.1 hx with h1 | h1
 ·exact h x h1
 ·exact h' x h1
def mvOf (i k n:Nat):Mv:=⟨2+(n:Int) / 2,i,k,1 - 2 * ((n:Int) % 2)⟩
def mvTry (l:List (List Int)) (i k n:Nat):Bool :=
 (applyM l (mvOf i k n)).2 && decide (cmpN (rowAt (applyM l (mvOf i k n)).1 i) (rowAt l i) < 0)
def tryN (l:List (List Int)) (i k n:Nat):Option Mv:=if mvTry l i k n then some (mvOf i k n) else none
def tryK (l:List (List Int)) (i k:Nat):Option Mv:=(List.range 4).findSome? (tryN l i k)
def tryI (l:List (List Int)) (i:Nat):Option Mv:=(List.range l.length).findSome? (tryK l i)
def tryD (l:List (List Int)) (i:Nat):Option Mv:=if (rowAt l i).length=0 then some ⟨4,i,0,0⟩ else none
def nextM (l:List (List Int)):Option Mv :=
 ((List.range l.length).findSome? (tryD l)).or ((List.range l.length).findSome? (tryI l))
theorem find_range_succ {α:Type} (f:Nat→Option α) (k:Nat) (h:(List.range k).findSome? f=none):(List.range (k+1)).findSome? f=f k:=by
 rw [List.range_succ,List.findSome?_append,h];cases hf:f k <;> simp [hf]
theorem find_range_some {α:Type} (f:Nat→Option α) {k n:Nat} {x:α} (h:(List.range k).findSome? f=none) (hk:k < n) (hx:f k=some x):(List.range n).findSome? f=some x:=by
 obtain ⟨m,rfl⟩:∃ m,n=k+1+m:=⟨n - (k+1),by omega⟩
 rw [List.range_add,List.findSome?_append,find_range_succ f k h,hx]
 rfl
end
section
open Go.RowKit
theorem spec_MultiplyWords (A A':Option Addr) (xs ys:List Int) (c c':Nat) (w:World) (hr:Rs w w.heap.size A (ints xs)) (hr':Rs w w.heap.size A' (ints ys)) (hok:OkI xs) (hok':OkI ys) (hl:xs.length+ys.length≤268435456) :
  Calls Tryz.prog 21 #[.slice A xs.length c,.slice A' ys.length c'] w fun e w'=>RetI 3 (red [] (xs++ys)) w e w':=by
 have hoe:=owns_empty w 3 1;have hb0:Below w.heap.size w (w.alloc (.cells #[] 3)):=(Below.refl w.heap.size w).alloc (Nat.le_refl _) _;have hra:Rs (w.alloc (.cells #[] 3)) w.heap.size A (ints xs):=hr.alloc (Nat.le_refl _) _;have hla:(ints xs).length=xs.length * 1:=by rw [ints_len];omega
 have hlb:(ints ys).length=ys.length * 1:=by rw [ints_len];omega
 have hoo:=Lib.hid (okI_app hok hok');go_enter Tryz.func21,Tryz.ntmps21
 go_wp2_with (at_builtin;refine wpList_cat rfl (.tmp 5) (.tmp 6) 44 rfl w.heap.size 3 (.int .i64 0) 1 8 undSI infoI rfl (by decide) _ _ _ rfl hoe A xs.length c w.heap.size (ints xs) rfl hra hla (one_of_ints _) ?c4 ?c5 ?c6 ?next)
 case c4=>unfold maxLen;omega
 case c5=>omega
 case c6=>simp
 case next =>
  intro v2 w2 ho2 hgr2 _;try rw [Nat.zero_add,List.nil_append] at ho2
  have hb2:Below w.heap.size w w2:=hb0.grown hgr2 (by simp) (fun g hg=>(hoe.lt g hg).1);have hrb:Rs w2 w.heap.size A' (ints ys):=hr'.below hb2;have hs2:=hb2.size;go_wp2_with (at_builtin;refine wpList_cat rfl (.tmp 7) (.tmp 8) 44 rfl w.heap.size 3 (.int .i64 0) 1 8 undSI infoI rfl (by decide) _ _ _ rfl ho2 A' ys.length c' w.heap.size (ints ys) rfl hrb hlb (one_of_ints _) ?d4 ?d5 ?d6 ?next2)
  case d4=>unfold maxLen;omega
  case d5=>omega
  case d6=>omega
  case next2 =>
   intro v3 w3 ho3 hgr3 _;have hb3:Below w.heap.size w w3:=hb2.grown hgr3 hs2 (fun g hg=>(ho2.lt g hg).1);rw [← ints_append,← List.length_append] at ho3;have hlz:(xs++ys).length≤268435456:=by rw [List.length_append];exact hl
   obtain ⟨zs,hzs⟩:∃ zs,zs=xs++ys:=⟨_,rfl⟩
   rw [← hzs] at ho3 hoo hlz;have HZ:=Lib.hid hzs;clear hzs;obtain ⟨A3,c3,rfl, -, -⟩:=owns_shape ho3;go_wp2_with fail;refine (spec_ReduceLetters A3 zs c3 w3 w3.heap.size (Rs.of_own ho3) (Nat.le_refl _) hoo.out hlz).mono ?_;rintro e w4 ⟨A4,c4,rfl,ho4,hb4⟩;go_wp2_with fail;go_ret;obtain rfl:=HZ.out;exact ⟨A4,c4,rfl,owns_base ho4 hb3.size,hb3.trans (hb4.mono hb3.size)⟩
abbrev RetMv (d:List (List Int)) (m:Mv) (w:World) (e:Ending) (w':World):Prop :=
 ∃ A c,e=.returned (.tuple #[.slice A (applyM d m).1.length c,.bool (applyM d m).2])∧OSS w' w.heap.size w'.heap.size 44 3 A c (applyM d m).1∧Mid 0 0 w w'
theorem RetMv.mk {d ys:List (List Int)} {m:Mv} {b:Bool} {w w':World} {A:Option Addr} {c n:Nat} (he:applyM d m=(ys,b)) (hn:ys.length=n) (ho:OSS w' w.heap.size w'.heap.size 44 3 A c ys) (hm:Mid 0 0 w w'):RetMv d m w (.returned (.tuple #[.slice A n c,.bool b])) w':=by
 subst hn;refine ⟨A,c,?_,?_,hm⟩
 ·rw [he]
 ·rw [he];exact ho
theorem impl_InvertWordE (A:Option Addr) (xs:List Int) (c:Nat) (w:World) (hr:Rs w w.heap.size A (ints xs)) (hok:OkI xs) (hl:xs.length≤4194304) :
  Calls Tryz.prog 109 #[.slice A xs.length c] w fun e w'=>∃ A2 c2,e=.returned (.slice A2 (invW xs).length c2)∧w'.ownsRow w.heap.size 3 1 (.slice A2 (invW xs).length c2) (invW xs).length (ints (invW xs))∧Below w.heap.size w w':=impl_InvertWord A xs c _ w hr (Nat.le_refl _) hok hl
theorem spec_InvertWordE (A:Option Addr) (xs:List Int) (c:Nat) (w:World) (hr:Rs w w.heap.size A (ints xs)) (hok:OkI xs) (hl:xs.length≤4194304) :
  Calls Tryz.prog 22 #[.slice A xs.length c] w fun e w'=>∃ A2 c2,e=.returned (.slice A2 (invW xs).length c2)∧w'.ownsRow w.heap.size 3 1 (.slice A2 (invW xs).length c2) (invW xs).length (ints (invW xs))∧Below w.heap.size w w':=spec_InvertWord A xs c _ w hr (Nat.le_refl _) hok hl
theorem OSS.cut {w:World} {lo hi:Nat} {tSI tI:TypeId} {A:Option Addr} {c:Nat} {xss:List (List Int)} (h:OSS w lo hi tSI tI A c xss):∃ rows,rowsD rows=xss∧w.ownsRow lo tSI 1 (.slice A xss.length c) xss.length (rowsV rows)∧(∀ g,Value.ownBlock (.slice A xss.length c)=some g→g < hi)∧OwnRows w lo hi tI rows:=by
 obtain ⟨_,rows,h1,h2,h3⟩:=h;exact ⟨rows,h1,h2.2.1,h2.2.2,h3⟩
theorem applyM_out {d:List (List Int)} {m:Mv} (h:¬ (0≤m.i∧m.i < d.length)):applyM d m=(d,false):=by unfold applyM;rw [if_pos h]
theorem applyM_1 {d:List (List Int)} {n:Nat} {j s:Int} {xs:List Int} (h:d[n]?=some xs):applyM d ⟨1,n,j,s⟩=(d.set n (invW xs),true):=by
 have hn:=(List.getElem?_eq_some_iff.1 h).1;unfold applyM;rw [if_neg (by simp;omega),if_pos rfl];simp [rowAt_get h]
theorem applyM_4 {d:List (List Int)} {n:Nat} {j s:Int} {xs:List Int} (h:d[n]?=some xs):applyM d ⟨4,n,j,s⟩=if 0 < xs.length then (d,false) else (d.eraseIdx n,true):=by
 have hn:=(List.getElem?_eq_some_iff.1 h).1;unfold applyM;rw [if_neg (by simp;omega),if_neg (show ¬ ((4:Int)=1) by decide),if_pos rfl];simp [rowAt_get h]
theorem applyM_bad {d:List (List Int)} {m:Mv} (h1:m.kind≠1) (h4:m.kind≠4) (h:¬ MvOk d m ∨ (m.kind≠2∧m.kind≠3)):applyM d m=(d,false):=by
 unfold applyM;by_cases h0:¬ (0≤m.i∧m.i < d.length)
 ·rw [if_pos h0]
 ·rw [if_neg h0,if_neg h1,if_neg h4]
  by_cases h5:MvOk d m
  ·rcases h with h | h
   ·exact absurd h5 h
   ·rw [if_neg (not_not_intro h5),if_neg h.1,if_neg h.2]
  ·rw [if_pos h5]
theorem applyM_23 {d:List (List Int)} {n n':Nat} {k s:Int} {xs ys:List Int} (h:d[n]?=some xs) (h':d[n']?=some ys) (hk:k=2 ∨ k=3) (hne:n'≠n) (hs:s=1 ∨ s = -1) :
  applyM d ⟨k,n,n',s⟩=(d.set n (red [] (if k=2 then xs++(if s < 0 then invW ys else ys) else (if s < 0 then invW ys else ys)++xs)),true):=by
 have hn:=(List.getElem?_eq_some_iff.1 h).1;have hn':=(List.getElem?_eq_some_iff.1 h').1;unfold applyM;rw [if_neg (by simp;omega),if_neg (show ¬ (k=1) by omega),if_neg (show ¬ (k=4) by omega),if_neg (by simp [MvOk];omega)];rcases hk with rfl | rfl
 ·simp [rowAt_get h,rowAt_get h',mvWord]
 ·simp [rowAt_get h,rowAt_get h',mvWord]
theorem mv_back {w0 w1 w2:World} {c n:Nat} {d:List (List Int)} {rows:List Row} {r:Row} {g:Nat}
  (hm1:Mid 0 0 w0 w1) (hD:rowsD rows=d) (hown:w1.ownsRow w0.heap.size 44 1 (.slice (some ⟨g,0,none⟩) d.length c) d.length (rowsV rows)) (hrows:OwnRows w1 w0.heap.size w1.heap.size 3 rows)
  (ho2:w2.ownsRow w1.heap.size 3 1 r.v r.xs.length (ints r.xs)) (hb2:Below w1.heap.size w1 w2) {ys:List (List Int)} (hy:ys=d.set n r.xs) :
  OSS (w2.setCell ⟨g,n,none⟩ r.v) w0.heap.size (w2.setCell ⟨g,n,none⟩ r.v).heap.size 44 3 (some ⟨g,0,none⟩) c ys∧Mid 0 0 w0 (w2.setCell ⟨g,n,none⟩ r.v):=by
 subst hy;have hs1:=hm1.size;have hown2:=owns_belowS hown hb2;have hrows2:=hrows.mid (w':=w2) (Mid.of_below (lo:=0) (hi:=0) hb2) oZl;have hp:=hrows2.replace (k:=n) (hi':=w2.heap.size) ho2 (Nat.le_refl _) hs1 hb2.size (Nat.le_refl _) (fun g hg=>(ho2.lt g hg).2);have hp3:=hp.grown hown2 (by decide) (grown_of_setCell w2 g n r.v);have hset:=owns_set hown2 n r.v rfl;have hg:=(hown.lt g rfl).1;refine ⟨?_,(hm1.trans (Mid.of_below hb2)).storeNew (by simpa using hg) _⟩;have h:=OSS.mk' (w:=w2.setCell ⟨g,n,none⟩ r.v) (tI:=3) (rows:=rows.set n r) (xss:=d.set n r.xs) (by rw [rowsV_set];exact hset) (by simpa using hp3) (by rw [rowsD_set,hD]);exact h
theorem impl_ApplyMove_a (A:Option Addr) (d:List (List Int)) (c:Nat) (m:Mv) (w:World) (lo hi:Nat) (hr:RSS w lo hi A d) (hok:∀ xs∈d,OkI xs) (hl:d.length+sumL d≤1048576) (hc:¬ (0≤m.i∧m.i < d.length)) :
  Calls Tryz.prog 24 #[.slice A d.length c,m.v] w (RetMv d m w):=by
 obtain ⟨kd,i,j,s⟩:=m
 show Calls _ _ #[.slice A d.length c,.agg #[.int .i64 kd,.int .i64 i,.int .i64 j,.int .i64 s]] w _
 have HE:=Lib.hid (applyM_out (m:=⟨kd,i,j,s⟩) hc);have hb:inB i 0 ((d.length:Int) - 1)=false:=by simp [inB];simp at hc;omega
 have HB:=Lib.hid hb;have H28:=Lib.hid (fun xs (hx:xs∈d)=>show xs.length≤1073741824 by have:=len_le_sumL hx;omega);clear hb hc;have hb0:Mid 0 0 w (w.alloc (.cells #[.int .i64 kd,.int .i64 i,.int .i64 j,.int .i64 s] 48)):=Mid.alloc _ _;have hbx:=Box.new w #[.int .i64 kd,.int .i64 i,.int .i64 j,.int .i64 s] 48;have hrb:=hr.mid hb0 oZl;go_enter Tryz.func24,Tryz.ntmps24
 go_wp2_with fail;with_reducible refine (impl_copyLists A d c _ _ _ hrb (by omega) H28.out).mono ?_
 rintro e w1 ⟨A1,c1,rfl,ho1,hm1⟩;have hm:=hb0.trans hm1;have hbx1:=hbx.mid hm1 oZr;have hrd1:=hrb.mid hm1 oZl;have k0:=hbx1.cell 0 rfl;have k1:=hbx1.cell 1 rfl;have k2:=hbx1.cell 2 rfl;have k3:=hbx1.cell 3 rfl;go_wp2_with fail;with_reducible refine (within_any _ _ _ _).mono ?_
 rintro e w' ⟨rfl,rfl⟩;rw [HB.out];go_wp2_with fail;go_ret2;exact RetMv.mk HE.out rfl (ho1.wide hb0.size (Nat.le_refl _) ho1.size) hm
theorem impl_ApplyMove_1 (A:Option Addr) (d:List (List Int)) (c:Nat) (n:Nat) (j s:Int) (w:World) (lo hi:Nat) (hr:RSS w lo hi A d) (hok:∀ xs∈d,OkI xs) (hl:d.length+sumL d≤1048576) (hn:n < d.length) :
  Calls Tryz.prog 24 #[.slice A d.length c,(Mv.mk 1 n j s).v] w (RetMv d ⟨1,n,j,s⟩ w):=by
 show Calls _ _ #[.slice A d.length c,.agg #[.int .i64 1,.int .i64 n,.int .i64 j,.int .i64 s]] w _
 obtain ⟨b,off,A',c',xs,rfl, -,hbhi,hx,hcx,hrx⟩:=hr.row hn;have HE:=Lib.hid (applyM_1 (j:=j) (s:=s) hx);have hb:inB n 0 ((d.length:Int) - 1)=true:=by simp [inB];omega
 have HB:=Lib.hid hb;have H28:=Lib.hid (fun xs (hx:xs∈d)=>show xs.length≤1073741824 by have:=len_le_sumL hx;omega);have hlx:xs.length≤4194304:=by have:=len_le_sumL (List.mem_of_getElem? hx);omega
 have HOX:=Lib.hid (hok xs (List.mem_of_getElem? hx));clear hb hx;have hhi:=hr.size;have hb0:Mid 0 0 w (w.alloc (.cells #[.int .i64 1,.int .i64 n,.int .i64 j,.int .i64 s] 48)):=Mid.alloc _ _;have hbx:=Box.new w #[.int .i64 1,.int .i64 n,.int .i64 j,.int .i64 s] 48;have hrb:=hr.mid hb0 oZl;go_enter Tryz.func24,Tryz.ntmps24
 go_wp2_with fail;with_reducible refine (impl_copyLists _ d c _ _ _ hrb (by omega) H28.out).mono ?_
 rintro e w1 ⟨A1,c1,rfl,ho1,hm1⟩;have hm:=hb0.trans hm1;have hbx1:=hbx.mid hm1 oZr;have hrd1:=hrb.mid hm1 oZl;have k0:=hbx1.cell 0 rfl;have k1:=hbx1.cell 1 rfl;have k2:=hbx1.cell 2 rfl;have k3:=hbx1.cell 3 rfl;go_wp2_with fail;with_reducible refine (within_any _ _ _ _).mono ?_
 rintro e w' ⟨rfl,rfl⟩;rw [HB.out];have hcx1:w1.cell? ⟨b,off+n,none⟩=some (.slice A' xs.length c'):=(World.cell?_of_block (hm.block b (by omega) (by omega))).trans hcx;have hrx1:=hrx.mid hm oZl;have hmd:=Mid.drew1 w1;have hrxd:=hrx1.mid hmd oZl;have hbxd:=hbx1.mid hmd oZr;have k1d:=hbxd.cell 1 rfl;have hcxd:w1.drew.cell? ⟨b,off+n,none⟩=some (.slice A' xs.length c'):=hcx1;obtain ⟨rows,hD,hown,hlt,hrows⟩:=ho1.cut;have HD:=Lib.hid hD;obtain ⟨g,rfl,hg0,hg1⟩:=owns_addr hown (by omega);have hs0:=hb0.size;have hownd:w1.drew.ownsRow (w.alloc (.cells #[.int .i64 1,.int .i64 n,.int .i64 j,.int .i64 s] 48)).heap.size 44 1 (.slice (some ⟨g,0,none⟩) d.length c1) d.length (rowsV rows):=hown;have hrowsd:=hrows.mid hmd oZl;have hmdd:=hm.trans hmd;have hs1:=hm1.size;have hszb:b < w1.heap.size:=by omega
 simp only [World.size_alloc] at hg0;have hbg:b < g:=by omega
 have hwg:w.heap.size < g:=by omega
 have hnn:(0:Int)≤(n:Int):=by omega
 have hnl:(n:Int) < (d.length:Int):=by omega
 clear hD hcx hrx1 hrb hrx hr hlt ho1 hrd1;go_wp2_with fail;go_region_held3 (fun w'=>w'.cell? ⟨w.heap.size,1,none⟩=some (.int .i64 n)∧w'.cell? ⟨b,off+n,none⟩=some (.slice A' xs.length c')) (first | exact ⟨k1,hcx1⟩ | exact ⟨k1d,hcxd⟩ | exact ⟨k1f,hcxf⟩ | exact ⟨k1e,hcxe⟩) (first | (go_at_call 109;refine (impl_InvertWordE A' xs c' _ hrxd.rsS HOX.out hlx).mono ?_;rintro e w2 ⟨A2,c2,rfl,ho2,hb2⟩;have hbxe:=hbxd.mid (Mid.of_below (lo:=0) (hi:=0) hb2) oZr;have k1e:=hbxe.cell 1 rfl;have hcxe:w2.cell? ⟨b,off+n,none⟩=some (.slice A' xs.length c'):=(hb2.cell (by simpa using hszb)).trans hcxd;have hwn:=owns_belowS hownd hb2;obtain ⟨u,hu0,hu⟩:=owns_cell hwn hn;have hfz:=hwn.frozenAt n;have hms:=Mid.setCell w2 (lo:=g) (hi:=g+1) (p:=⟨g,n,none⟩) (.slice A2 (invW xs).length c2) (Nat.le_refl _) (Nat.lt_succ_self _);have k1f:=(hbxe.mid hms (Or.inl hwg)).cell 1 rfl;have hcxf:=cell_keep hms (Nat.lt_of_lt_of_le hszb hb2.size) (Or.inl hbg) hcxe;clear hu0))
 go_wp2_with fail;go_ret2;have hfin:=mv_back (r:=⟨A2,c2,invW xs⟩) hmdd HD.out (owns_base hownd hs0) (hrowsd.wide hs0 (Nat.le_refl _) (Nat.le_refl _)) ho2 hb2 (n:=n) rfl;exact RetMv.mk HE.out (by simp) hfin.1 hfin.2
theorem impl_ApplyMove_4f (A:Option Addr) (d:List (List Int)) (c:Nat) (n:Nat) (j s:Int) (w:World) (lo hi:Nat) (hr:RSS w lo hi A d) (hok:∀ xs∈d,OkI xs) (hl:d.length+sumL d≤1048576) (hn:n < d.length) (hrow:0 < (rowAt d n).length) :
  Calls Tryz.prog 24 #[.slice A d.length c,(Mv.mk 4 n j s).v] w (RetMv d ⟨4,n,j,s⟩ w):=by
 show Calls _ _ #[.slice A d.length c,.agg #[.int .i64 4,.int .i64 n,.int .i64 j,.int .i64 s]] w _
 obtain ⟨b,off,A',c',xs,rfl, -,hbhi,hx,hcx,hrx⟩:=hr.row hn;have HE:=Lib.hid (applyM_4 (j:=j) (s:=s) hx);have hb:inB n 0 ((d.length:Int) - 1)=true:=by simp [inB];omega
 have HB:=Lib.hid hb;have H28:=Lib.hid (fun xs (hx:xs∈d)=>show xs.length≤1073741824 by have:=len_le_sumL hx;omega);have hlx:xs.length≤4194304:=by have:=len_le_sumL (List.mem_of_getElem? hx);omega
 rw [rowAt_get hx] at hrow;have hhi:=hr.size;have hnn:(0:Int)≤(n:Int):=by omega
 have hnl:(n:Int) < (d.length:Int):=by omega
 clear hb hx;have hb0:Mid 0 0 w (w.alloc (.cells #[.int .i64 4,.int .i64 n,.int .i64 j,.int .i64 s] 48)):=Mid.alloc _ _;have hbx:=Box.new w #[.int .i64 4,.int .i64 n,.int .i64 j,.int .i64 s] 48;have hrb:=hr.mid hb0 oZl;go_enter Tryz.func24,Tryz.ntmps24
 go_wp2_with fail;with_reducible refine (impl_copyLists _ d c _ _ _ hrb (by omega) H28.out).mono ?_
 rintro e w1 ⟨A1,c1,rfl,ho1,hm1⟩;have hm:=hb0.trans hm1;have hbx1:=hbx.mid hm1 oZr;have hrd1:=hrb.mid hm1 oZl;have k0:=hbx1.cell 0 rfl;have k1:=hbx1.cell 1 rfl;have k2:=hbx1.cell 2 rfl;have k3:=hbx1.cell 3 rfl;go_wp2_with fail;with_reducible refine (within_any _ _ _ _).mono ?_
 rintro e w' ⟨rfl,rfl⟩;rw [HB.out];have hcx1:w1.cell? ⟨b,off+n,none⟩=some (.slice A' xs.length c'):=(World.cell?_of_block (hm.block b (by omega) (by omega))).trans hcx;have he2:=HE.out;rw [if_pos hrow] at he2;have HE:=Lib.hid he2;clear he2;go_wp2_with fail;go_ret2;exact RetMv.mk HE.out rfl (ho1.wide hb0.size (Nat.le_refl _) ho1.size) hm
theorem impl_ApplyMove_4t (A:Option Addr) (d:List (List Int)) (c:Nat) (n:Nat) (j s:Int) (w:World) (lo hi:Nat) (hr:RSS w lo hi A d) (hok:∀ xs∈d,OkI xs) (hl:d.length+sumL d≤1048576) (hn:n < d.length) (hrow:(rowAt d n).length=0) :
  Calls Tryz.prog 24 #[.slice A d.length c,(Mv.mk 4 n j s).v] w (RetMv d ⟨4,n,j,s⟩ w):=by
 show Calls _ _ #[.slice A d.length c,.agg #[.int .i64 4,.int .i64 n,.int .i64 j,.int .i64 s]] w _
 obtain ⟨b,off,A',c',xs,rfl, -,hbhi,hx,hcx,hrx⟩:=hr.row hn;have HE:=Lib.hid (applyM_4 (j:=j) (s:=s) hx);have hb:inB n 0 ((d.length:Int) - 1)=true:=by simp [inB];omega
 have HB:=Lib.hid hb;have H28:=Lib.hid (fun xs (hx:xs∈d)=>show xs.length≤1073741824 by have:=len_le_sumL hx;omega);have hlx:xs.length≤4194304:=by have:=len_le_sumL (List.mem_of_getElem? hx);omega
 rw [rowAt_get hx] at hrow;have hhi:=hr.size;have hnn:(0:Int)≤(n:Int):=by omega
 have hnl:(n:Int) < (d.length:Int):=by omega
 clear hb hx;have hb0:Mid 0 0 w (w.alloc (.cells #[.int .i64 4,.int .i64 n,.int .i64 j,.int .i64 s] 48)):=Mid.alloc _ _;have hbx:=Box.new w #[.int .i64 4,.int .i64 n,.int .i64 j,.int .i64 s] 48;have hrb:=hr.mid hb0 oZl;go_enter Tryz.func24,Tryz.ntmps24
 go_wp2_with fail;with_reducible refine (impl_copyLists _ d c _ _ _ hrb (by omega) H28.out).mono ?_
 rintro e w1 ⟨A1,c1,rfl,ho1,hm1⟩;have hm:=hb0.trans hm1;have hbx1:=hbx.mid hm1 oZr;have hrd1:=hrb.mid hm1 oZl;have k0:=hbx1.cell 0 rfl;have k1:=hbx1.cell 1 rfl;have k2:=hbx1.cell 2 rfl;have k3:=hbx1.cell 3 rfl;go_wp2_with fail;with_reducible refine (within_any _ _ _ _).mono ?_
 rintro e w' ⟨rfl,rfl⟩;rw [HB.out];have hcx1:w1.cell? ⟨b,off+n,none⟩=some (.slice A' xs.length c'):=(World.cell?_of_block (hm.block b (by omega) (by omega))).trans hcx;have he2:=HE.out;rw [if_neg (by omega)] at he2;have HE2:=Lib.hid he2;obtain rfl:=List.eq_nil_of_length_eq_zero hrow;clear he2 hrow;obtain ⟨rows,hD,hown,hlt,hrows⟩:=ho1.cut;have HD:=Lib.hid hD;have hrl:rows.length=d.length:=by rw [← hD,rowsD_len]
 have hld:(rowsV rows).length=d.length:=by rw [rowsV_len,hrl]
 obtain ⟨g,rfl,hg0,hg1⟩:=owns_addr hown (by omega);have hcap:d.length≤c1:=by
  obtain ⟨_,_,e,h1,_⟩:=owns_shape hown;injection e with _ _ e
  omega
 have hmd:=Mid.drew1 w1;have hbxd:=hbx1.mid hmd oZr;have k1d:=hbxd.cell 1 rfl;have hownd:w1.drew.ownsRow (w.alloc (.cells #[.int .i64 4,.int .i64 n,.int .i64 j,.int .i64 s] 48)).heap.size 44 1 (.slice (some ⟨g,0,none⟩) d.length c1) d.length (rowsV rows):=hown;have hcut:w1.drew.ownsRow (w.alloc (.cells #[.int .i64 4,.int .i64 n,.int .i64 j,.int .i64 s] 48)).heap.size 44 1 (.slice (some ⟨g,0,none⟩) n c1) n ((rowsV rows).take n):=by simpa using owns_cut hownd (show n≤d.length by omega)
 have hrowsd:=(hrows.mid hmd oZl).erase n;have hmdd:=hm.trans hmd;have hs0:=hb0.size;have hs1:=hm1.size;have hnc:(n:Int)≤(c1:Int):=by omega
 have hn1:(n:Int)+1≤(d.length:Int):=by omega
 have hn0:(0:Int)≤(n:Int)+1:=by omega
 have hn3:(n:Int)+1≤(c1:Int):=by omega
 have hnl2:(n:Int)≤(d.length:Int):=by omega
 have hl1:((rowsV rows).take n).length=n * 1:=by rw [List.length_take];omega
 have hl2:((rowsV rows).drop (n+1)).length=(d.length - (n+1)) * 1:=by rw [List.length_drop];omega
 have ho1':∀ u∈(rowsV rows).take n,u.oneCell'=true:=fun u hu=>one_of_rows rows u (List.mem_of_mem_take hu);have ho2':∀ u∈(rowsV rows).drop (n+1),u.oneCell'=true:=fun u hu=>one_of_rows rows u (List.mem_of_mem_drop hu);have hfin:(rowsV rows).take n++(rowsV rows).drop (n+1)=rowsV (rows.eraseIdx n):=by rw [List.eraseIdx_eq_take_drop_succ,rowsV_append];simp [rowsV,List.map_take,List.map_drop]
 have hfd:rowsD (rows.eraseIdx n)=d.eraseIdx n:=by rw [← hD];simp [rowsD,List.eraseIdx_eq_take_drop_succ,List.map_take,List.map_drop]
 have hlen:(d.eraseIdx n).length=n+(d.length - (n+1)):=by rw [List.length_eraseIdx_of_lt hn];omega
 have HF:=Lib.hid hfin;have HFD:=Lib.hid hfd;have HLEN:=Lib.hid hlen;have HL1:=Lib.hid hl1;have HL2:=Lib.hid hl2;have HO1:=Lib.hid ho1';have HO2:=Lib.hid ho2';have hbmx:n+(d.length - (n+1))≤maxLen:=by unfold maxLen;omega
 have hbby:(n+(d.length - (n+1))) * 24≤140737488355328:=by omega
 have hbase:(w.alloc (.cells #[.int .i64 4,.int .i64 n,.int .i64 j,.int .i64 s] 48)).heap.size≤w1.drew.heap.size:=hs1;clear hD hcx hrb hr hlt ho1 hrd1 hfin hfd hlen hl1 hl2 ho1' ho2';have hrsd:Rs w1.drew w1.heap.size (some ⟨g,n+1,none⟩) ((rowsV rows).drop (n+1)):=by
  intro hne;obtain ⟨b',off',e1,h1,h2⟩:=Rs.of_own hownd (by intro h0;rw [h0] at hne;simp at hne);injection e1 with e1
  injection e1 with e1 e2
  subst e1 e2;refine ⟨g,n+1,rfl,h1,fun j u hu=>?_⟩;rw [List.getElem?_drop] at hu;have:=h2 _ u hu
  rwa [Nat.zero_add] at this
 have hrst:Rs w1.drew w1.heap.size (some ⟨g,0,none⟩) ((rowsV rows).take n):=(Rs.of_own hownd).take n;have hrse:c1=n+1→Rs w1.drew w1.heap.size (some ⟨g,0,none⟩) ((rowsV rows).drop (n+1)):=by
  intro hc;have:(rowsV rows).drop (n+1)=[]:=List.drop_eq_nil_of_le (by omega);rw [this];exact Rs.nil
 have HRE:=Lib.hid hrse;clear hrse;have hw1:IntKind.i64.wrap ((n:Int)+1)=(n:Int)+1:=IntWalk.i64_in _ (by omega);have hnp:(n:Int)≤(n:Int)+1:=by omega
 by_cases hce:c1=n+1
 ·subst hce
  go_wp2_with fail;go_region_held3 (fun w'=>w'.cell? ⟨w.heap.size,1,none⟩=some (.int .i64 n)) (first | exact k1 | exact k1d) (fail)
  go_wp2_with fail;go_ret2;have hdn:(rowsV rows).drop (n+1)=[]:=List.drop_eq_nil_of_le (by omega);have hf:=HF.out;rw [hdn,List.append_nil] at hf;rw [hf] at hcut;exact RetMv.mk HE2.out (by have:=HLEN.out;omega) ((OSS.mk' hcut hrowsd HFD.out).wide hs0 (Nat.le_refl _) (Nat.le_refl _)) hmdd
 ·go_wp2_with fail
  go_region_held3 (fun w'=>w'.cell? ⟨w.heap.size,1,none⟩=some (.int .i64 n)) (first | exact k1 | exact k1d | exact k1e) ((refine step_cat (by rfl) (.tmp 44) (.tmp 49) 24 (by rfl) _ 44 (.slice none 0 0) 1 24 undSSI infoSI rfl (by decide) _ n ((rowsV rows).take n) (by rfl) hcut (some ⟨g,n+1,none⟩) (d.length - (n+1)) _ w1.heap.size ((rowsV rows).drop (n+1)) (by rfl) hrsd HL2.out HO2.out hbmx hbby hbase ?_;intro v2 w2 ho2 hgr2 hat2;have k1e:=(hbxd.mid (Mid.of_grownRow hcut hgr2) (Or.inl (by simp))).cell 1 rfl))
  go_wp2_with fail;go_ret2;rw [HF.out] at ho2;obtain ⟨A2,c2,rfl, -, -⟩:=owns_shape ho2;have hsz2:=hgr2.size;have hOR:=hrowsd.grown hcut (by decide) hgr2;exact RetMv.mk HE2.out HLEN.out ((OSS.mk' ho2 (hOR.wide (Nat.le_refl _) hsz2 (Nat.le_refl _)) HFD.out).wide hs0 (Nat.le_refl _) (Nat.le_refl _)) (hmdd.grownNew hgr2 (fun g hg=>Nat.le_trans hs0 (hcut.lt g hg).1))
theorem spec_ApplyMove_a (A:Option Addr) (d:List (List Int)) (c:Nat) (m:Mv) (w:World) (lo hi:Nat) (hr:RSS w lo hi A d) (hok:∀ xs∈d,OkI xs) (hl:d.length+sumL d≤1048576) (hc:¬ (0≤m.i∧m.i < d.length)) :
  Calls Tryz.prog 25 #[.slice A d.length c,m.v] w (RetMv d m w):=by
 obtain ⟨kd,i,j,s⟩:=m
 show Calls _ _ #[.slice A d.length c,.agg #[.int .i64 kd,.int .i64 i,.int .i64 j,.int .i64 s]] w _
 have HE:=Lib.hid (applyM_out (m:=⟨kd,i,j,s⟩) hc);have hb:inB i 0 ((d.length:Int) - 1)=false:=by simp [inB];simp at hc;omega
 have HB:=Lib.hid hb;have H28:=Lib.hid (fun xs (hx:xs∈d)=>show xs.length≤1073741824 by have:=len_le_sumL hx;omega);clear hb hc;have hb0:Mid 0 0 w (w.alloc (.cells #[.int .i64 kd,.int .i64 i,.int .i64 j,.int .i64 s] 48)):=Mid.alloc _ _;have hbx:=Box.new w #[.int .i64 kd,.int .i64 i,.int .i64 j,.int .i64 s] 48;have hrb:=hr.mid hb0 oZl;go_enter Tryz.func25,Tryz.ntmps25
 go_wp2_with fail;with_reducible refine (spec_l20Copy A d c _ _ _ hrb (by omega) H28.out).mono ?_
 rintro e w1 ⟨A1,c1,rfl,ho1,hm1⟩;have hm:=hb0.trans hm1;have hbx1:=hbx.mid hm1 oZr;have hrd1:=hrb.mid hm1 oZl;have k0:=hbx1.cell 0 rfl;have k1:=hbx1.cell 1 rfl;have k2:=hbx1.cell 2 rfl;have k3:=hbx1.cell 3 rfl;go_wp2_with fail;with_reducible refine (l1In_any _ _ _ _).mono ?_
 rintro e w' ⟨rfl,rfl⟩;rw [HB.out];go_wp2_with fail;go_ret2;exact RetMv.mk HE.out rfl (ho1.wide hb0.size (Nat.le_refl _) ho1.size) hm
theorem spec_ApplyMove_1 (A:Option Addr) (d:List (List Int)) (c:Nat) (n:Nat) (j s:Int) (w:World) (lo hi:Nat) (hr:RSS w lo hi A d) (hok:∀ xs∈d,OkI xs) (hl:d.length+sumL d≤1048576) (hn:n < d.length) :
  Calls Tryz.prog 25 #[.slice A d.length c,(Mv.mk 1 n j s).v] w (RetMv d ⟨1,n,j,s⟩ w):=by
 show Calls _ _ #[.slice A d.length c,.agg #[.int .i64 1,.int .i64 n,.int .i64 j,.int .i64 s]] w _
 obtain ⟨b,off,A',c',xs,rfl, -,hbhi,hx,hcx,hrx⟩:=hr.row hn;have HE:=Lib.hid (applyM_1 (j:=j) (s:=s) hx);have hb:inB n 0 ((d.length:Int) - 1)=true:=by simp [inB];omega
 have HB:=Lib.hid hb;have H28:=Lib.hid (fun xs (hx:xs∈d)=>show xs.length≤1073741824 by have:=len_le_sumL hx;omega);have hlx:xs.length≤4194304:=by have:=len_le_sumL (List.mem_of_getElem? hx);omega
 have HOX:=Lib.hid (hok xs (List.mem_of_getElem? hx));clear hb hx;have hhi:=hr.size;have hb0:Mid 0 0 w (w.alloc (.cells #[.int .i64 1,.int .i64 n,.int .i64 j,.int .i64 s] 48)):=Mid.alloc _ _;have hbx:=Box.new w #[.int .i64 1,.int .i64 n,.int .i64 j,.int .i64 s] 48;have hrb:=hr.mid hb0 oZl;go_enter Tryz.func25,Tryz.ntmps25
 go_wp2_with fail;with_reducible refine (spec_l20Copy _ d c _ _ _ hrb (by omega) H28.out).mono ?_
 rintro e w1 ⟨A1,c1,rfl,ho1,hm1⟩;have hm:=hb0.trans hm1;have hbx1:=hbx.mid hm1 oZr;have hrd1:=hrb.mid hm1 oZl;have k0:=hbx1.cell 0 rfl;have k1:=hbx1.cell 1 rfl;have k2:=hbx1.cell 2 rfl;have k3:=hbx1.cell 3 rfl;go_wp2_with fail;with_reducible refine (l1In_any _ _ _ _).mono ?_
 rintro e w' ⟨rfl,rfl⟩;rw [HB.out];have hcx1:w1.cell? ⟨b,off+n,none⟩=some (.slice A' xs.length c'):=(World.cell?_of_block (hm.block b (by omega) (by omega))).trans hcx;have hrx1:=hrx.mid hm oZl;have hmd:=Mid.drew1 w1;have hrxd:=hrx1.mid hmd oZl;have hbxd:=hbx1.mid hmd oZr;have k1d:=hbxd.cell 1 rfl;have hcxd:w1.drew.cell? ⟨b,off+n,none⟩=some (.slice A' xs.length c'):=hcx1;obtain ⟨rows,hD,hown,hlt,hrows⟩:=ho1.cut;have HD:=Lib.hid hD;obtain ⟨g,rfl,hg0,hg1⟩:=owns_addr hown (by omega);have hs0:=hb0.size;have hownd:w1.drew.ownsRow (w.alloc (.cells #[.int .i64 1,.int .i64 n,.int .i64 j,.int .i64 s] 48)).heap.size 44 1 (.slice (some ⟨g,0,none⟩) d.length c1) d.length (rowsV rows):=hown;have hrowsd:=hrows.mid hmd oZl;have hmdd:=hm.trans hmd;have hs1:=hm1.size;have hszb:b < w1.heap.size:=by omega
 simp only [World.size_alloc] at hg0;have hbg:b < g:=by omega
 have hwg:w.heap.size < g:=by omega
 have hnn:(0:Int)≤(n:Int):=by omega
 have hnl:(n:Int) < (d.length:Int):=by omega
 clear hD hcx hrx1 hrb hrx hr hlt ho1 hrd1;go_wp2_with fail;go_region_held3 (fun w'=>w'.cell? ⟨w.heap.size,1,none⟩=some (.int .i64 n)∧w'.cell? ⟨b,off+n,none⟩=some (.slice A' xs.length c')) (first | exact ⟨k1,hcx1⟩ | exact ⟨k1d,hcxd⟩ | exact ⟨k1f,hcxf⟩ | exact ⟨k1e,hcxe⟩) (first | (go_at_call 22;refine (spec_InvertWordE A' xs c' _ hrxd.rsS HOX.out hlx).mono ?_;rintro e w2 ⟨A2,c2,rfl,ho2,hb2⟩;have hbxe:=hbxd.mid (Mid.of_below (lo:=0) (hi:=0) hb2) oZr;have k1e:=hbxe.cell 1 rfl;have hcxe:w2.cell? ⟨b,off+n,none⟩=some (.slice A' xs.length c'):=(hb2.cell (by simpa using hszb)).trans hcxd;have hwn:=owns_belowS hownd hb2;obtain ⟨u,hu0,hu⟩:=owns_cell hwn hn;have hfz:=hwn.frozenAt n;have hms:=Mid.setCell w2 (lo:=g) (hi:=g+1) (p:=⟨g,n,none⟩) (.slice A2 (invW xs).length c2) (Nat.le_refl _) (Nat.lt_succ_self _);have k1f:=(hbxe.mid hms (Or.inl hwg)).cell 1 rfl;have hcxf:=cell_keep hms (Nat.lt_of_lt_of_le hszb hb2.size) (Or.inl hbg) hcxe;clear hu0))
 go_wp2_with fail;go_ret2;have hfin:=mv_back (r:=⟨A2,c2,invW xs⟩) hmdd HD.out (owns_base hownd hs0) (hrowsd.wide hs0 (Nat.le_refl _) (Nat.le_refl _)) ho2 hb2 (n:=n) rfl;exact RetMv.mk HE.out (by simp) hfin.1 hfin.2
theorem spec_ApplyMove_4f (A:Option Addr) (d:List (List Int)) (c:Nat) (n:Nat) (j s:Int) (w:World) (lo hi:Nat) (hr:RSS w lo hi A d) (hok:∀ xs∈d,OkI xs) (hl:d.length+sumL d≤1048576) (hn:n < d.length) (hrow:0 < (rowAt d n).length) :
  Calls Tryz.prog 25 #[.slice A d.length c,(Mv.mk 4 n j s).v] w (RetMv d ⟨4,n,j,s⟩ w):=by
 show Calls _ _ #[.slice A d.length c,.agg #[.int .i64 4,.int .i64 n,.int .i64 j,.int .i64 s]] w _
 obtain ⟨b,off,A',c',xs,rfl, -,hbhi,hx,hcx,hrx⟩:=hr.row hn;have HE:=Lib.hid (applyM_4 (j:=j) (s:=s) hx);have hb:inB n 0 ((d.length:Int) - 1)=true:=by simp [inB];omega
 have HB:=Lib.hid hb;have H28:=Lib.hid (fun xs (hx:xs∈d)=>show xs.length≤1073741824 by have:=len_le_sumL hx;omega);have hlx:xs.length≤4194304:=by have:=len_le_sumL (List.mem_of_getElem? hx);omega
 rw [rowAt_get hx] at hrow;have hhi:=hr.size;have hnn:(0:Int)≤(n:Int):=by omega
 have hnl:(n:Int) < (d.length:Int):=by omega
 clear hb hx;have hb0:Mid 0 0 w (w.alloc (.cells #[.int .i64 4,.int .i64 n,.int .i64 j,.int .i64 s] 48)):=Mid.alloc _ _;have hbx:=Box.new w #[.int .i64 4,.int .i64 n,.int .i64 j,.int .i64 s] 48;have hrb:=hr.mid hb0 oZl;go_enter Tryz.func25,Tryz.ntmps25
 go_wp2_with fail;with_reducible refine (spec_l20Copy _ d c _ _ _ hrb (by omega) H28.out).mono ?_
 rintro e w1 ⟨A1,c1,rfl,ho1,hm1⟩;have hm:=hb0.trans hm1;have hbx1:=hbx.mid hm1 oZr;have hrd1:=hrb.mid hm1 oZl;have k0:=hbx1.cell 0 rfl;have k1:=hbx1.cell 1 rfl;have k2:=hbx1.cell 2 rfl;have k3:=hbx1.cell 3 rfl;go_wp2_with fail;with_reducible refine (l1In_any _ _ _ _).mono ?_
 rintro e w' ⟨rfl,rfl⟩;rw [HB.out];have hcx1:w1.cell? ⟨b,off+n,none⟩=some (.slice A' xs.length c'):=(World.cell?_of_block (hm.block b (by omega) (by omega))).trans hcx;have he2:=HE.out;rw [if_pos hrow] at he2;have HE:=Lib.hid he2;clear he2;go_wp2_with fail;go_ret2;exact RetMv.mk HE.out rfl (ho1.wide hb0.size (Nat.le_refl _) ho1.size) hm
end
section
open Go.RowKit
theorem spec_MultiplyWordsE (A A':Option Addr) (xs ys:List Int) (c c':Nat) (w:World) (hr:Rs w w.heap.size A (ints xs)) (hr':Rs w w.heap.size A' (ints ys)) (hok:OkI xs) (hok':OkI ys) (hl:xs.length+ys.length≤268435456) :
  Calls Tryz.prog 21 #[.slice A xs.length c,.slice A' ys.length c'] w fun e w'=>∃ A2 c2,e=.returned (.slice A2 (red [] (xs++ys)).length c2)∧w'.ownsRow w.heap.size 3 1 (.slice A2 (red [] (xs++ys)).length c2) (red [] (xs++ys)).length (ints (red [] (xs++ys)))∧Below w.heap.size w w' :=
 spec_MultiplyWords A A' xs ys c c' w hr hr' hok hok' hl
theorem spec_ApplyMove_b (A:Option Addr) (d:List (List Int)) (c:Nat) (kd:Int) (n:Nat) (j s:Int) (w:World) (lo hi:Nat) (hr:RSS w lo hi A d) (hok:∀ xs∈d,OkI xs) (hl:d.length+sumL d≤1048576) (hn:n < d.length)
  (hk1:(kd == 1)=false) (hk4:(kd == 4)=false) (hbad:¬ MvOk d ⟨kd,n,j,s⟩) :
  Calls Tryz.prog 25 #[.slice A d.length c,(Mv.mk kd n j s).v] w (RetMv d ⟨kd,n,j,s⟩ w):=by
 show Calls _ _ #[.slice A d.length c,.agg #[.int .i64 kd,.int .i64 n,.int .i64 j,.int .i64 s]] w _
 have hb:inB n 0 ((d.length:Int) - 1)=true:=by simp [inB];omega
 have HB:=Lib.hid hb;have H28:=Lib.hid (fun xs (hx:xs∈d)=>show xs.length≤1073741824 by have:=len_le_sumL hx;omega);have hhi:=hr.size;have hnn:(0:Int)≤(n:Int):=by omega
 have hnl:(n:Int) < (d.length:Int):=by omega
 have HE:=Lib.hid (applyM_bad (d:=d) (m:=⟨kd,n,j,s⟩) (show kd≠1 by simpa using hk1) (show kd≠4 by simpa using hk4) (.inl hbad));clear hb;obtain ⟨b,off,A',c',xs,rfl, -,hbhi,hx,hcx,hrx⟩:=hr.row hn;have hlx:xs.length≤4194304:=by have:=len_le_sumL (List.mem_of_getElem? hx);omega
 have HOX:=Lib.hid (hok xs (List.mem_of_getElem? hx));clear hx;by_cases hj:¬ (0≤j∧j < d.length)
 ·have HJ:Hid (inB j 0 ((d.length:Int) - 1)=false):=Lib.hid (by simp [inB];omega)
  clear hbad hj;have hb0:Mid 0 0 w (w.alloc (.cells #[.int .i64 kd,.int .i64 n,.int .i64 j,.int .i64 s] 48)):=Mid.alloc _ _;have hbx:=Box.new w #[.int .i64 kd,.int .i64 n,.int .i64 j,.int .i64 s] 48;have hrb:=hr.mid hb0 oZl;go_enter Tryz.func25,Tryz.ntmps25
  go_wp2_with fail;with_reducible refine (spec_l20Copy _ d c _ _ _ hrb (by omega) H28.out).mono ?_
  rintro e w1 ⟨A1,c1,rfl,ho1,hm1⟩;have hm:=hb0.trans hm1;have hbx1:=hbx.mid hm1 oZr;have hrd1:=hrb.mid hm1 oZl;have k0:=hbx1.cell 0 rfl;have k1:=hbx1.cell 1 rfl;have k2:=hbx1.cell 2 rfl;have k3:=hbx1.cell 3 rfl;go_wp2_with fail;with_reducible refine (l1In_any _ _ _ _).mono ?_
  rintro e w' ⟨rfl,rfl⟩;rw [HB.out];have hcx1:w1.cell? ⟨b,off+n,none⟩=some (.slice A' xs.length c'):=(World.cell?_of_block (hm.block b (by omega) (by omega))).trans hcx;go_wp2_with fail;with_reducible refine (l1In_any _ _ _ _).mono ?_
  rintro e w' ⟨rfl,rfl⟩;rw [HJ.out];go_wp2_with fail;go_ret2;exact RetMv.mk HE.out rfl (ho1.wide hb0.size (Nat.le_refl _) ho1.size) hm
 ·have HJ:Hid (inB j 0 ((d.length:Int) - 1)=true):=Lib.hid (by simp [inB];omega)
  by_cases hjn:j=n
  ·subst hjn
   have heq:((n:Int) == (n:Int))=true:=by simp
   clear hbad hj;have hb0:Mid 0 0 w (w.alloc (.cells #[.int .i64 kd,.int .i64 n,.int .i64 n,.int .i64 s] 48)):=Mid.alloc _ _;have hbx:=Box.new w #[.int .i64 kd,.int .i64 n,.int .i64 n,.int .i64 s] 48;have hrb:=hr.mid hb0 oZl;go_enter Tryz.func25,Tryz.ntmps25
   go_wp2_with fail;with_reducible refine (spec_l20Copy _ d c _ _ _ hrb (by omega) H28.out).mono ?_
   rintro e w1 ⟨A1,c1,rfl,ho1,hm1⟩;have hm:=hb0.trans hm1;have hbx1:=hbx.mid hm1 oZr;have hrd1:=hrb.mid hm1 oZl;have k0:=hbx1.cell 0 rfl;have k1:=hbx1.cell 1 rfl;have k2:=hbx1.cell 2 rfl;have k3:=hbx1.cell 3 rfl;go_wp2_with fail;with_reducible refine (l1In_any _ _ _ _).mono ?_
   rintro e w' ⟨rfl,rfl⟩;rw [HB.out];have hcx1:w1.cell? ⟨b,off+n,none⟩=some (.slice A' xs.length c'):=(World.cell?_of_block (hm.block b (by omega) (by omega))).trans hcx;go_wp2_with fail;with_reducible refine (l1In_any _ _ _ _).mono ?_
   rintro e w' ⟨rfl,rfl⟩;rw [HJ.out];go_wp2_with fail;go_ret2;exact RetMv.mk HE.out rfl (ho1.wide hb0.size (Nat.le_refl _) ho1.size) hm
  ·have hs1:(s != 1)=true:=by simp;intro h;exact hbad ⟨by simp;omega,by simp;omega,hjn,.inl h⟩
   have hs2:(s != -1)=true:=by simp;intro h;exact hbad ⟨by simp;omega,by simp;omega,hjn,.inr h⟩
   have heq1:(j == (n:Int))=false:=by simpa using hjn
   have heq2:((n:Int) == j)=false:=by simpa using Ne.symm hjn
   clear hbad hj hjn;have hb0:Mid 0 0 w (w.alloc (.cells #[.int .i64 kd,.int .i64 n,.int .i64 j,.int .i64 s] 48)):=Mid.alloc _ _;have hbx:=Box.new w #[.int .i64 kd,.int .i64 n,.int .i64 j,.int .i64 s] 48;have hrb:=hr.mid hb0 oZl;go_enter Tryz.func25,Tryz.ntmps25
   go_wp2_with fail;with_reducible refine (spec_l20Copy _ d c _ _ _ hrb (by omega) H28.out).mono ?_
   rintro e w1 ⟨A1,c1,rfl,ho1,hm1⟩;have hm:=hb0.trans hm1;have hbx1:=hbx.mid hm1 oZr;have hrd1:=hrb.mid hm1 oZl;have k0:=hbx1.cell 0 rfl;have k1:=hbx1.cell 1 rfl;have k2:=hbx1.cell 2 rfl;have k3:=hbx1.cell 3 rfl;go_wp2_with fail;with_reducible refine (l1In_any _ _ _ _).mono ?_
   rintro e w' ⟨rfl,rfl⟩;rw [HB.out];have hcx1:w1.cell? ⟨b,off+n,none⟩=some (.slice A' xs.length c'):=(World.cell?_of_block (hm.block b (by omega) (by omega))).trans hcx;go_wp2_with fail;with_reducible refine (l1In_any _ _ _ _).mono ?_
   rintro e w' ⟨rfl,rfl⟩;rw [HJ.out];go_wp2_with fail;go_ret2;exact RetMv.mk HE.out rfl (ho1.wide hb0.size (Nat.le_refl _) ho1.size) hm
theorem spec_ApplyMove_n (A:Option Addr) (d:List (List Int)) (c:Nat) (kd:Int) (n:Nat) (j s:Int) (w:World) (lo hi:Nat) (hr:RSS w lo hi A d) (hok:∀ xs∈d,OkI xs) (hl:d.length+sumL d≤1048576) (hn:n < d.length)
  (hk1:(kd == 1)=false) (hk4:(kd == 4)=false) (hk2:(kd == 2)=false) (hk3:(kd == 3)=false) (hbad:MvOk d ⟨kd,n,j,s⟩) :
  Calls Tryz.prog 25 #[.slice A d.length c,(Mv.mk kd n j s).v] w (RetMv d ⟨kd,n,j,s⟩ w):=by
 show Calls _ _ #[.slice A d.length c,.agg #[.int .i64 kd,.int .i64 n,.int .i64 j,.int .i64 s]] w _
 have hb:inB n 0 ((d.length:Int) - 1)=true:=by simp [inB];omega
 have HB:=Lib.hid hb;have H28:=Lib.hid (fun xs (hx:xs∈d)=>show xs.length≤1073741824 by have:=len_le_sumL hx;omega);have hhi:=hr.size;have hnn:(0:Int)≤(n:Int):=by omega
 have hnl:(n:Int) < (d.length:Int):=by omega
 have HE:=Lib.hid (applyM_bad (d:=d) (m:=⟨kd,n,j,s⟩) (show kd≠1 by simpa using hk1) (show kd≠4 by simpa using hk4) (.inr ⟨show kd≠2 by simpa using hk2,show kd≠3 by simpa using hk3⟩));clear hb;obtain ⟨b,off,A',c',xs,rfl, -,hbhi,hx,hcx,hrx⟩:=hr.row hn;have hlx:xs.length≤4194304:=by have:=len_le_sumL (List.mem_of_getElem? hx);omega
 have HOX:=Lib.hid (hok xs (List.mem_of_getElem? hx));clear hx;obtain ⟨h1,h2,h3,hs⟩:=hbad;simp at h1 h2 h3 hs;obtain ⟨n',rfl⟩:∃ n':Nat,j=(n':Int):=⟨j.toNat,by omega⟩
 have hn':n' < d.length:=by omega
 have hne':n'≠n:=by omega
 obtain ⟨b',off',Ay,cy,ys,e1, -,hbhi',hy,hcy,hry⟩:=hr.row hn';injection e1 with e1
 injection e1 with e1 e2
 subst e1 e2;have hly:ys.length≤4194304:=by have:=len_le_sumL (List.mem_of_getElem? hy);omega
 have HOY:=Lib.hid (hok ys (List.mem_of_getElem? hy));have HJ:Hid (inB (n':Int) 0 ((d.length:Int) - 1)=true):=Lib.hid (by simp [inB];omega);have hmn:(0:Int)≤(n':Int):=by omega
 have hml:(n':Int) < (d.length:Int):=by omega
 have heq1:((n':Int) == (n:Int))=false:=by simp;omega
 have heq2:((n:Int) == (n':Int))=false:=by simp;omega
 clear hy h1 h2 h3;rcases hs with rfl | rfl
 ·skip
  have hb0:Mid 0 0 w (w.alloc (.cells #[.int .i64 kd,.int .i64 n,.int .i64 n',.int .i64 1] 48)):=Mid.alloc _ _;have hbx:=Box.new w #[.int .i64 kd,.int .i64 n,.int .i64 n',.int .i64 1] 48;have hrb:=hr.mid hb0 oZl;go_enter Tryz.func25,Tryz.ntmps25
  go_wp2_with fail;with_reducible refine (spec_l20Copy _ d c _ _ _ hrb (by omega) H28.out).mono ?_
  rintro e w1 ⟨A1,c1,rfl,ho1,hm1⟩;have hm:=hb0.trans hm1;have hbx1:=hbx.mid hm1 oZr;have hrd1:=hrb.mid hm1 oZl;have k0:=hbx1.cell 0 rfl;have k1:=hbx1.cell 1 rfl;have k2:=hbx1.cell 2 rfl;have k3:=hbx1.cell 3 rfl;go_wp2_with fail;with_reducible refine (l1In_any _ _ _ _).mono ?_
  rintro e w' ⟨rfl,rfl⟩;rw [HB.out];have hcx1:w1.cell? ⟨b,off+n,none⟩=some (.slice A' xs.length c'):=(World.cell?_of_block (hm.block b (by omega) (by omega))).trans hcx;go_wp2_with fail;with_reducible refine (l1In_any _ _ _ _).mono ?_
  rintro e w' ⟨rfl,rfl⟩;rw [HJ.out];have hcy1:w1.cell? ⟨b,off+n',none⟩=some (.slice Ay ys.length cy):=(World.cell?_of_block (hm.block b (by omega) (by omega))).trans hcy;have hrx1:=hrx.mid hm oZl;have hry1:=hry.mid hm oZl;clear hcx hcy hrx hry hrb hr hrd1;have hmX:=hm;have hoX:=ho1;have hbxX:=hbx1;have hcxX:=hcx1;have hrxX:=hrx1;have hryX:=hry1.rsS;go_wp2_with fail;go_ret2;exact RetMv.mk HE.out rfl (OSS.wide hoX hb0.size hoX.size (Nat.le_refl _)) hmX
 ·skip
  have hb0:Mid 0 0 w (w.alloc (.cells #[.int .i64 kd,.int .i64 n,.int .i64 n',.int .i64 (-1)] 48)):=Mid.alloc _ _;have hbx:=Box.new w #[.int .i64 kd,.int .i64 n,.int .i64 n',.int .i64 (-1)] 48;have hrb:=hr.mid hb0 oZl;go_enter Tryz.func25,Tryz.ntmps25
  go_wp2_with fail;with_reducible refine (spec_l20Copy _ d c _ _ _ hrb (by omega) H28.out).mono ?_
  rintro e w1 ⟨A1,c1,rfl,ho1,hm1⟩;have hm:=hb0.trans hm1;have hbx1:=hbx.mid hm1 oZr;have hrd1:=hrb.mid hm1 oZl;have k0:=hbx1.cell 0 rfl;have k1:=hbx1.cell 1 rfl;have k2:=hbx1.cell 2 rfl;have k3:=hbx1.cell 3 rfl;go_wp2_with fail;with_reducible refine (l1In_any _ _ _ _).mono ?_
  rintro e w' ⟨rfl,rfl⟩;rw [HB.out];have hcx1:w1.cell? ⟨b,off+n,none⟩=some (.slice A' xs.length c'):=(World.cell?_of_block (hm.block b (by omega) (by omega))).trans hcx;go_wp2_with fail;with_reducible refine (l1In_any _ _ _ _).mono ?_
  rintro e w' ⟨rfl,rfl⟩;rw [HJ.out];have hcy1:w1.cell? ⟨b,off+n',none⟩=some (.slice Ay ys.length cy):=(World.cell?_of_block (hm.block b (by omega) (by omega))).trans hcy;have hrx1:=hrx.mid hm oZl;have hry1:=hry.mid hm oZl;clear hcx hcy hrx hry hrb hr hrd1;go_wp2_with fail;with_reducible refine (spec_InvertWordE Ay ys cy _ hry1.rsS HOY.out hly).mono ?_
  rintro e wX ⟨Az,cz,rfl,hoz,hbz⟩;have hmz:Mid 0 0 w1 wX:=Mid.of_below hbz;have hmX:=hm.trans hmz;have hoX:=ho1.mid hmz oZl;have hbxX:=hbx1.mid hmz oZr;have hcxX:=cell_keep hmz (show b < w1.heap.size by have:=hm.size;omega) oZr hcx1;have hrxX:=hrx1.mid hmz oZl;have hryX:Rs wX wX.heap.size Az (ints (invW ys)):=Rs.of_own hoz;have q0:=hbxX.cell 0 rfl;have q1:=hbxX.cell 1 rfl;have q2:=hbxX.cell 2 rfl;have q3:=hbxX.cell 3 rfl;clear k0 k1 k2 k3;go_wp2_with fail;go_ret2;exact RetMv.mk HE.out rfl (OSS.wide hoX hb0.size hoX.size (Nat.le_refl _)) hmX
theorem spec_ApplyMove_g (A:Option Addr) (d:List (List Int)) (c:Nat) (kd:Int) (n:Nat) (j s:Int) (w:World) (lo hi:Nat) (hr:RSS w lo hi A d) (hok:∀ xs∈d,OkI xs) (hl:d.length+sumL d≤1048576) (hn:n < d.length)
  (hk:kd=2 ∨ kd=3) (hne:j≠n) (hbad:MvOk d ⟨kd,n,j,s⟩) :
  Calls Tryz.prog 25 #[.slice A d.length c,(Mv.mk kd n j s).v] w (RetMv d ⟨kd,n,j,s⟩ w):=by
 show Calls _ _ #[.slice A d.length c,.agg #[.int .i64 kd,.int .i64 n,.int .i64 j,.int .i64 s]] w _
 have hb:inB n 0 ((d.length:Int) - 1)=true:=by simp [inB];omega
 have HB:=Lib.hid hb;have H28:=Lib.hid (fun xs (hx:xs∈d)=>show xs.length≤1073741824 by have:=len_le_sumL hx;omega);have hhi:=hr.size;have hnn:(0:Int)≤(n:Int):=by omega
 have hnl:(n:Int) < (d.length:Int):=by omega
 clear hb;obtain ⟨b,off,A',c',xs,rfl, -,hbhi,hx,hcx,hrx⟩:=hr.row hn;have hlx:xs.length≤4194304:=by have:=len_le_sumL (List.mem_of_getElem? hx);omega
 have HOX:=Lib.hid (hok xs (List.mem_of_getElem? hx));obtain ⟨h1,h2,h3,hs⟩:=hbad;simp at h1 h2 h3 hs;obtain ⟨n',rfl⟩:∃ n':Nat,j=(n':Int):=⟨j.toNat,by omega⟩
 have hn':n' < d.length:=by omega
 have hne':n'≠n:=by omega
 obtain ⟨b',off',Ay,cy,ys,e1, -,hbhi',hy,hcy,hry⟩:=hr.row hn';injection e1 with e1
 injection e1 with e1 e2
 subst e1 e2;have hly:ys.length≤4194304:=by have:=len_le_sumL (List.mem_of_getElem? hy);omega
 have HOY:=Lib.hid (hok ys (List.mem_of_getElem? hy));have HJ:Hid (inB (n':Int) 0 ((d.length:Int) - 1)=true):=Lib.hid (by simp [inB];omega);have hmn:(0:Int)≤(n':Int):=by omega
 have hml:(n':Int) < (d.length:Int):=by omega
 have heq1:((n':Int) == (n:Int))=false:=by simp;omega
 have heq2:((n:Int) == (n':Int))=false:=by simp;omega
 have HEE:=fun (k s:Int) (hk:k=2 ∨ k=3) (hs:s=1 ∨ s = -1)=>applyM_23 hx hy hk hne' hs;clear hx hy h1 h2 h3;rcases hk with rfl | rfl
 ·rcases hs with rfl | rfl
  ·have he3:=HEE 2 1 (by omega) (by omega)
   rw [if_pos rfl,if_neg (by omega)] at he3;have HE:=Lib.hid he3;clear he3 HEE;have hb0:Mid 0 0 w (w.alloc (.cells #[.int .i64 2,.int .i64 n,.int .i64 n',.int .i64 1] 48)):=Mid.alloc _ _;have hbx:=Box.new w #[.int .i64 2,.int .i64 n,.int .i64 n',.int .i64 1] 48;have hrb:=hr.mid hb0 oZl;go_enter Tryz.func25,Tryz.ntmps25
   go_wp2_with fail;with_reducible refine (spec_l20Copy _ d c _ _ _ hrb (by omega) H28.out).mono ?_
   rintro e w1 ⟨A1,c1,rfl,ho1,hm1⟩;have hm:=hb0.trans hm1;have hbx1:=hbx.mid hm1 oZr;have hrd1:=hrb.mid hm1 oZl;have k0:=hbx1.cell 0 rfl;have k1:=hbx1.cell 1 rfl;have k2:=hbx1.cell 2 rfl;have k3:=hbx1.cell 3 rfl;go_wp2_with fail;with_reducible refine (l1In_any _ _ _ _).mono ?_
   rintro e w' ⟨rfl,rfl⟩;rw [HB.out];have hcx1:w1.cell? ⟨b,off+n,none⟩=some (.slice A' xs.length c'):=(World.cell?_of_block (hm.block b (by omega) (by omega))).trans hcx;go_wp2_with fail;with_reducible refine (l1In_any _ _ _ _).mono ?_
   rintro e w' ⟨rfl,rfl⟩;rw [HJ.out];have hcy1:w1.cell? ⟨b,off+n',none⟩=some (.slice Ay ys.length cy):=(World.cell?_of_block (hm.block b (by omega) (by omega))).trans hcy;have hrx1:=hrx.mid hm oZl;have hry1:=hry.mid hm oZl;clear hcx hcy hrx hry hrb hr hrd1;have hmX:=hm;have hoX:=ho1;have hbxX:=hbx1;have hcxX:=hcx1;have hrxX:=hrx1;have hryX:=hry1.rsS;have hmd:=Mid.drew1 w1;have hrxd:=hrxX.mid hmd oZl;have hryd:Rs w1.drew w1.drew.heap.size Ay (ints ys):=hryX;have hbxd:=hbxX.mid hmd oZr;have k1d:=hbxd.cell 1 rfl;have hcxd:w1.drew.cell? ⟨b,off+n,none⟩=some (.slice A' xs.length c'):=hcxX;obtain ⟨rows,hD,hown,hlt,hrows⟩:=(hoX.mid hmd oZl).cut;have HD:=Lib.hid hD;obtain ⟨g,rfl,hg0, -⟩:=owns_addr hown (by omega);simp only [World.size_alloc] at hg0;have hbg:b < g:=by omega
   have hwg:w.heap.size < g:=by omega
   have hmdd:=hmX.trans hmd;have hs0:=hb0.size;have hszX:b < w1.drew.heap.size:=by have:=hmdd.size;omega
   have hrowsd:=hrows.wide (Nat.le_refl _) hoX.size (Nat.le_refl w1.drew.heap.size);have hokz:=Lib.hid HOY.out;have hlz:ys.length≤4194304:=by exact hly
   have hoka:=Lib.hid HOX.out;have hokb:=Lib.hid HOY.out;clear hD hlt;have hC:=spec_MultiplyWordsE A' Ay xs ys c' cy w1.drew hrxd.rsS hryd hoka.out hokb.out (by omega);have HC:=Lib.hid hC;clear hC;go_wp2_with fail;go_region_held3 (fun w'=>w'.cell? ⟨w.heap.size,1,none⟩=some (.int .i64 n)∧w'.cell? ⟨b,off+n,none⟩=some (.slice A' xs.length c')) (first | exact ⟨k1,hcxX⟩ | exact ⟨k1d,hcxd⟩ | exact ⟨k1f,hcxf⟩ | exact ⟨k1e,hcxe⟩) (first | (go_at_call 21;refine (HC.out).mono ?_;rintro e w2 ⟨A2,c2,rfl,ho2,hb2⟩;have hm2:Mid 0 0 w1.drew w2:=Mid.of_below hb2;have hbxe:=hbxd.mid hm2 oZr;have k1e:=hbxe.cell 1 rfl;have hcxe:=cell_keep hm2 hszX oZr hcxd;have hwn:=owns_belowS hown hb2;obtain ⟨u,hu0,hu⟩:=owns_cell hwn hn;have hfz:=hwn.frozenAt n;have hms:=Mid.setCell w2 (lo:=g) (hi:=g+1) (p:=⟨g,n,none⟩) (.slice A2 (red [] (xs++ys)).length c2) (Nat.le_refl _) (Nat.lt_succ_self _);have k1f:=(hbxe.mid hms (Or.inl hwg)).cell 1 rfl;have hcxf:=cell_keep hms (Nat.lt_of_lt_of_le hszX hb2.size) (Or.inl hbg) hcxe;clear hu0))
   go_wp2_with fail;go_ret2;have hfin:=mv_back (r:=⟨A2,c2,red [] (xs++ys)⟩) hmdd HD.out (owns_base hown hs0) (hrowsd.wide hs0 (Nat.le_refl _) (Nat.le_refl _)) ho2 hb2 (n:=n) rfl;exact RetMv.mk HE.out (by simp) hfin.1 hfin.2
  ·have he3:=HEE 2 (-1) (by omega) (by omega)
   rw [if_pos rfl,if_pos (by omega)] at he3;have HE:=Lib.hid he3;clear he3 HEE;have hb0:Mid 0 0 w (w.alloc (.cells #[.int .i64 2,.int .i64 n,.int .i64 n',.int .i64 (-1)] 48)):=Mid.alloc _ _;have hbx:=Box.new w #[.int .i64 2,.int .i64 n,.int .i64 n',.int .i64 (-1)] 48;have hrb:=hr.mid hb0 oZl;go_enter Tryz.func25,Tryz.ntmps25
   go_wp2_with fail;with_reducible refine (spec_l20Copy _ d c _ _ _ hrb (by omega) H28.out).mono ?_
   rintro e w1 ⟨A1,c1,rfl,ho1,hm1⟩;have hm:=hb0.trans hm1;have hbx1:=hbx.mid hm1 oZr;have hrd1:=hrb.mid hm1 oZl;have k0:=hbx1.cell 0 rfl;have k1:=hbx1.cell 1 rfl;have k2:=hbx1.cell 2 rfl;have k3:=hbx1.cell 3 rfl;go_wp2_with fail;with_reducible refine (l1In_any _ _ _ _).mono ?_
   rintro e w' ⟨rfl,rfl⟩;rw [HB.out];have hcx1:w1.cell? ⟨b,off+n,none⟩=some (.slice A' xs.length c'):=(World.cell?_of_block (hm.block b (by omega) (by omega))).trans hcx;go_wp2_with fail;with_reducible refine (l1In_any _ _ _ _).mono ?_
   rintro e w' ⟨rfl,rfl⟩;rw [HJ.out];have hcy1:w1.cell? ⟨b,off+n',none⟩=some (.slice Ay ys.length cy):=(World.cell?_of_block (hm.block b (by omega) (by omega))).trans hcy;have hrx1:=hrx.mid hm oZl;have hry1:=hry.mid hm oZl;clear hcx hcy hrx hry hrb hr hrd1;go_wp2_with fail;with_reducible refine (spec_InvertWordE Ay ys cy _ hry1.rsS HOY.out hly).mono ?_
   rintro e wX ⟨Az,cz,rfl,hoz,hbz⟩;have hmz:Mid 0 0 w1 wX:=Mid.of_below hbz;have hmX:=hm.trans hmz;have hoX:=ho1.mid hmz oZl;have hbxX:=hbx1.mid hmz oZr;have hcxX:=cell_keep hmz (show b < w1.heap.size by have:=hm.size;omega) oZr hcx1;have hrxX:=hrx1.mid hmz oZl;have hryX:Rs wX wX.heap.size Az (ints (invW ys)):=Rs.of_own hoz;have q0:=hbxX.cell 0 rfl;have q1:=hbxX.cell 1 rfl;have q2:=hbxX.cell 2 rfl;have q3:=hbxX.cell 3 rfl;clear k0 k1 k2 k3;have hmd:=Mid.drew1 wX;have hrxd:=hrxX.mid hmd oZl;have hryd:Rs wX.drew wX.drew.heap.size Az (ints (invW ys)):=hryX;have hbxd:=hbxX.mid hmd oZr;have k1d:=hbxd.cell 1 rfl;have hcxd:wX.drew.cell? ⟨b,off+n,none⟩=some (.slice A' xs.length c'):=hcxX;obtain ⟨rows,hD,hown,hlt,hrows⟩:=(hoX.mid hmd oZl).cut;have HD:=Lib.hid hD;obtain ⟨g,rfl,hg0, -⟩:=owns_addr hown (by omega);simp only [World.size_alloc] at hg0;have hbg:b < g:=by omega
   have hwg:w.heap.size < g:=by omega
   have hmdd:=hmX.trans hmd;have hs0:=hb0.size;have hszX:b < wX.drew.heap.size:=by have:=hmdd.size;omega
   have hrowsd:=hrows.wide (Nat.le_refl _) hoX.size (Nat.le_refl wX.drew.heap.size);have hokz:=Lib.hid (okI_invW HOY.out);have hlz:(invW ys).length≤4194304:=by rw [invW_len];exact hly
   have hoka:=Lib.hid HOX.out;have hokb:=Lib.hid (okI_invW HOY.out);clear hD hlt;have hC:=spec_MultiplyWordsE A' Az xs (invW ys) c' cz wX.drew hrxd.rsS hryd hoka.out hokb.out (by omega);have HC:=Lib.hid hC;clear hC;go_wp2_with fail;go_region_held3 (fun w'=>w'.cell? ⟨w.heap.size,1,none⟩=some (.int .i64 n)∧w'.cell? ⟨b,off+n,none⟩=some (.slice A' xs.length c')) (first | exact ⟨q1,hcxX⟩ | exact ⟨k1d,hcxd⟩ | exact ⟨k1f,hcxf⟩ | exact ⟨k1e,hcxe⟩) (first | (go_at_call 21;refine (HC.out).mono ?_;rintro e w2 ⟨A2,c2,rfl,ho2,hb2⟩;have hm2:Mid 0 0 wX.drew w2:=Mid.of_below hb2;have hbxe:=hbxd.mid hm2 oZr;have k1e:=hbxe.cell 1 rfl;have hcxe:=cell_keep hm2 hszX oZr hcxd;have hwn:=owns_belowS hown hb2;obtain ⟨u,hu0,hu⟩:=owns_cell hwn hn;have hfz:=hwn.frozenAt n;have hms:=Mid.setCell w2 (lo:=g) (hi:=g+1) (p:=⟨g,n,none⟩) (.slice A2 (red [] (xs++(invW ys))).length c2) (Nat.le_refl _) (Nat.lt_succ_self _);have k1f:=(hbxe.mid hms (Or.inl hwg)).cell 1 rfl;have hcxf:=cell_keep hms (Nat.lt_of_lt_of_le hszX hb2.size) (Or.inl hbg) hcxe;clear hu0))
   go_wp2_with fail;go_ret2;have hfin:=mv_back (r:=⟨A2,c2,red [] (xs++(invW ys))⟩) hmdd HD.out (owns_base hown hs0) (hrowsd.wide hs0 (Nat.le_refl _) (Nat.le_refl _)) ho2 hb2 (n:=n) rfl;exact RetMv.mk HE.out (by simp) hfin.1 hfin.2
 ·rcases hs with rfl | rfl
  ·have he3:=HEE 3 1 (by omega) (by omega)
   rw [if_neg (by omega),if_neg (by omega)] at he3;have HE:=Lib.hid he3;clear he3 HEE;have hb0:Mid 0 0 w (w.alloc (.cells #[.int .i64 3,.int .i64 n,.int .i64 n',.int .i64 1] 48)):=Mid.alloc _ _;have hbx:=Box.new w #[.int .i64 3,.int .i64 n,.int .i64 n',.int .i64 1] 48;have hrb:=hr.mid hb0 oZl;go_enter Tryz.func25,Tryz.ntmps25
   go_wp2_with fail;with_reducible refine (spec_l20Copy _ d c _ _ _ hrb (by omega) H28.out).mono ?_
   rintro e w1 ⟨A1,c1,rfl,ho1,hm1⟩;have hm:=hb0.trans hm1;have hbx1:=hbx.mid hm1 oZr;have hrd1:=hrb.mid hm1 oZl;have k0:=hbx1.cell 0 rfl;have k1:=hbx1.cell 1 rfl;have k2:=hbx1.cell 2 rfl;have k3:=hbx1.cell 3 rfl;go_wp2_with fail;with_reducible refine (l1In_any _ _ _ _).mono ?_
   rintro e w' ⟨rfl,rfl⟩;rw [HB.out];have hcx1:w1.cell? ⟨b,off+n,none⟩=some (.slice A' xs.length c'):=(World.cell?_of_block (hm.block b (by omega) (by omega))).trans hcx;go_wp2_with fail;with_reducible refine (l1In_any _ _ _ _).mono ?_
   rintro e w' ⟨rfl,rfl⟩;rw [HJ.out];have hcy1:w1.cell? ⟨b,off+n',none⟩=some (.slice Ay ys.length cy):=(World.cell?_of_block (hm.block b (by omega) (by omega))).trans hcy;have hrx1:=hrx.mid hm oZl;have hry1:=hry.mid hm oZl;clear hcx hcy hrx hry hrb hr hrd1;have hmX:=hm;have hoX:=ho1;have hbxX:=hbx1;have hcxX:=hcx1;have hrxX:=hrx1;have hryX:=hry1.rsS;have hmd:=Mid.drew1 w1;have hrxd:=hrxX.mid hmd oZl;have hryd:Rs w1.drew w1.drew.heap.size Ay (ints ys):=hryX;have hbxd:=hbxX.mid hmd oZr;have k1d:=hbxd.cell 1 rfl;have hcxd:w1.drew.cell? ⟨b,off+n,none⟩=some (.slice A' xs.length c'):=hcxX;obtain ⟨rows,hD,hown,hlt,hrows⟩:=(hoX.mid hmd oZl).cut;have HD:=Lib.hid hD;obtain ⟨g,rfl,hg0, -⟩:=owns_addr hown (by omega);simp only [World.size_alloc] at hg0;have hbg:b < g:=by omega
   have hwg:w.heap.size < g:=by omega
   have hmdd:=hmX.trans hmd;have hs0:=hb0.size;have hszX:b < w1.drew.heap.size:=by have:=hmdd.size;omega
   have hrowsd:=hrows.wide (Nat.le_refl _) hoX.size (Nat.le_refl w1.drew.heap.size);have hokz:=Lib.hid HOY.out;have hlz:ys.length≤4194304:=by exact hly
   have hoka:=Lib.hid HOY.out;have hokb:=Lib.hid HOX.out;clear hD hlt;have hC:=spec_MultiplyWordsE Ay A' ys xs cy c' w1.drew hryd hrxd.rsS hoka.out hokb.out (by omega);have HC:=Lib.hid hC;clear hC;go_wp2_with fail;go_region_held3 (fun w'=>w'.cell? ⟨w.heap.size,1,none⟩=some (.int .i64 n)∧w'.cell? ⟨b,off+n,none⟩=some (.slice A' xs.length c')) (first | exact ⟨k1,hcxX⟩ | exact ⟨k1d,hcxd⟩ | exact ⟨k1f,hcxf⟩ | exact ⟨k1e,hcxe⟩) (first | (go_at_call 21;refine (HC.out).mono ?_;rintro e w2 ⟨A2,c2,rfl,ho2,hb2⟩;have hm2:Mid 0 0 w1.drew w2:=Mid.of_below hb2;have hbxe:=hbxd.mid hm2 oZr;have k1e:=hbxe.cell 1 rfl;have hcxe:=cell_keep hm2 hszX oZr hcxd;have hwn:=owns_belowS hown hb2;obtain ⟨u,hu0,hu⟩:=owns_cell hwn hn;have hfz:=hwn.frozenAt n;have hms:=Mid.setCell w2 (lo:=g) (hi:=g+1) (p:=⟨g,n,none⟩) (.slice A2 (red [] (ys++xs)).length c2) (Nat.le_refl _) (Nat.lt_succ_self _);have k1f:=(hbxe.mid hms (Or.inl hwg)).cell 1 rfl;have hcxf:=cell_keep hms (Nat.lt_of_lt_of_le hszX hb2.size) (Or.inl hbg) hcxe;clear hu0))
   go_wp2_with fail;go_ret2;have hfin:=mv_back (r:=⟨A2,c2,red [] (ys++xs)⟩) hmdd HD.out (owns_base hown hs0) (hrowsd.wide hs0 (Nat.le_refl _) (Nat.le_refl _)) ho2 hb2 (n:=n) rfl;exact RetMv.mk HE.out (by simp) hfin.1 hfin.2
  ·have he3:=HEE 3 (-1) (by omega) (by omega)
   rw [if_neg (by omega),if_pos (by omega)] at he3;have HE:=Lib.hid he3;clear he3 HEE;have hb0:Mid 0 0 w (w.alloc (.cells #[.int .i64 3,.int .i64 n,.int .i64 n',.int .i64 (-1)] 48)):=Mid.alloc _ _;have hbx:=Box.new w #[.int .i64 3,.int .i64 n,.int .i64 n',.int .i64 (-1)] 48;have hrb:=hr.mid hb0 oZl;go_enter Tryz.func25,Tryz.ntmps25
   go_wp2_with fail;with_reducible refine (spec_l20Copy _ d c _ _ _ hrb (by omega) H28.out).mono ?_
   rintro e w1 ⟨A1,c1,rfl,ho1,hm1⟩;have hm:=hb0.trans hm1;have hbx1:=hbx.mid hm1 oZr;have hrd1:=hrb.mid hm1 oZl;have k0:=hbx1.cell 0 rfl;have k1:=hbx1.cell 1 rfl;have k2:=hbx1.cell 2 rfl;have k3:=hbx1.cell 3 rfl;go_wp2_with fail;with_reducible refine (l1In_any _ _ _ _).mono ?_
   rintro e w' ⟨rfl,rfl⟩;rw [HB.out];have hcx1:w1.cell? ⟨b,off+n,none⟩=some (.slice A' xs.length c'):=(World.cell?_of_block (hm.block b (by omega) (by omega))).trans hcx;go_wp2_with fail;with_reducible refine (l1In_any _ _ _ _).mono ?_
   rintro e w' ⟨rfl,rfl⟩;rw [HJ.out];have hcy1:w1.cell? ⟨b,off+n',none⟩=some (.slice Ay ys.length cy):=(World.cell?_of_block (hm.block b (by omega) (by omega))).trans hcy;have hrx1:=hrx.mid hm oZl;have hry1:=hry.mid hm oZl;clear hcx hcy hrx hry hrb hr hrd1;go_wp2_with fail;with_reducible refine (spec_InvertWordE Ay ys cy _ hry1.rsS HOY.out hly).mono ?_
   rintro e wX ⟨Az,cz,rfl,hoz,hbz⟩;have hmz:Mid 0 0 w1 wX:=Mid.of_below hbz;have hmX:=hm.trans hmz;have hoX:=ho1.mid hmz oZl;have hbxX:=hbx1.mid hmz oZr;have hcxX:=cell_keep hmz (show b < w1.heap.size by have:=hm.size;omega) oZr hcx1;have hrxX:=hrx1.mid hmz oZl;have hryX:Rs wX wX.heap.size Az (ints (invW ys)):=Rs.of_own hoz;have q0:=hbxX.cell 0 rfl;have q1:=hbxX.cell 1 rfl;have q2:=hbxX.cell 2 rfl;have q3:=hbxX.cell 3 rfl;clear k0 k1 k2 k3;have hmd:=Mid.drew1 wX;have hrxd:=hrxX.mid hmd oZl;have hryd:Rs wX.drew wX.drew.heap.size Az (ints (invW ys)):=hryX;have hbxd:=hbxX.mid hmd oZr;have k1d:=hbxd.cell 1 rfl;have hcxd:wX.drew.cell? ⟨b,off+n,none⟩=some (.slice A' xs.length c'):=hcxX;obtain ⟨rows,hD,hown,hlt,hrows⟩:=(hoX.mid hmd oZl).cut;have HD:=Lib.hid hD;obtain ⟨g,rfl,hg0, -⟩:=owns_addr hown (by omega);simp only [World.size_alloc] at hg0;have hbg:b < g:=by omega
   have hwg:w.heap.size < g:=by omega
   have hmdd:=hmX.trans hmd;have hs0:=hb0.size;have hszX:b < wX.drew.heap.size:=by have:=hmdd.size;omega
   have hrowsd:=hrows.wide (Nat.le_refl _) hoX.size (Nat.le_refl wX.drew.heap.size);have hokz:=Lib.hid (okI_invW HOY.out);have hlz:(invW ys).length≤4194304:=by rw [invW_len];exact hly
   have hoka:=Lib.hid (okI_invW HOY.out);have hokb:=Lib.hid HOX.out;clear hD hlt;have hC:=spec_MultiplyWordsE Az A' (invW ys) xs cz c' wX.drew hryd hrxd.rsS hoka.out hokb.out (by omega);have HC:=Lib.hid hC;clear hC;go_wp2_with fail;go_region_held3 (fun w'=>w'.cell? ⟨w.heap.size,1,none⟩=some (.int .i64 n)∧w'.cell? ⟨b,off+n,none⟩=some (.slice A' xs.length c')) (first | exact ⟨q1,hcxX⟩ | exact ⟨k1d,hcxd⟩ | exact ⟨k1f,hcxf⟩ | exact ⟨k1e,hcxe⟩) (first | (go_at_call 21;refine (HC.out).mono ?_;rintro e w2 ⟨A2,c2,rfl,ho2,hb2⟩;have hm2:Mid 0 0 wX.drew w2:=Mid.of_below hb2;have hbxe:=hbxd.mid hm2 oZr;have k1e:=hbxe.cell 1 rfl;have hcxe:=cell_keep hm2 hszX oZr hcxd;have hwn:=owns_belowS hown hb2;obtain ⟨u,hu0,hu⟩:=owns_cell hwn hn;have hfz:=hwn.frozenAt n;have hms:=Mid.setCell w2 (lo:=g) (hi:=g+1) (p:=⟨g,n,none⟩) (.slice A2 (red [] ((invW ys)++xs)).length c2) (Nat.le_refl _) (Nat.lt_succ_self _);have k1f:=(hbxe.mid hms (Or.inl hwg)).cell 1 rfl;have hcxf:=cell_keep hms (Nat.lt_of_lt_of_le hszX hb2.size) (Or.inl hbg) hcxe;clear hu0))
   go_wp2_with fail;go_ret2;have hfin:=mv_back (r:=⟨A2,c2,red [] ((invW ys)++xs)⟩) hmdd HD.out (owns_base hown hs0) (hrowsd.wide hs0 (Nat.le_refl _) (Nat.le_refl _)) ho2 hb2 (n:=n) rfl;exact RetMv.mk HE.out (by simp) hfin.1 hfin.2
end
section
open Go.RowKit
theorem l20List_any (p:Nat) (A:Option Addr) (bs:List Int) (c:Nat) (w:World) (hb:OkB bs) (hl:bs.length≤1048576) (h:Cur w p A bs c) :
  Calls Tryz.prog 93 #[.pointer (some ⟨p,0,none⟩)] w fun e w'=>∃ A' c' rows,e=.returned (.slice A' (List.length rows) c')∧((rowsD rows).length≤3∧DrWs (rowsD rows))∧Own1 w' w.heap.size A' rows.length c' rows∧Cur w' p A bs c∧Mid p (p+1) w w':=by
 have hpw:=h.lt;have hal:=Mid.alloc w (.cells #[.int .i64 1,.int .i64 2,.int .i64 2,.int .i64 3] 3);have hbx:=Box.new w #[.int .i64 1,.int .i64 2,.int .i64 2,.int .i64 3] 3;have h0:=h.mid hal (Or.inr rfl);go_enter Tryz.func93,Tryz.ntmps93
 go_wp2_with fail;generalize w.alloc (.cells #[.int .i64 1,.int .i64 2,.int .i64 2,.int .i64 3] 3)=w1 at hbx h0 hal ⊢;have hs1:w.heap.size < w1.heap.size:=hbx.1;have hri:RI w1 w.heap.size (w.heap.size+1) (some ⟨w.heap.size,0,none⟩) [1,2,2,3] :=
  ⟨hs1,fun _=>⟨w.heap.size,0,rfl,Nat.le_refl _,Nat.lt_succ_self _,fun j u hu=>by rw [Nat.zero_add];exact hbx.2.1 j u (by simpa [ints] using hu)⟩⟩
 with_reducible refine (l1PickIntN (some ⟨w.heap.size,0,none⟩) [1,2,2,3] 4 4 rfl (by decide) (by decide) p A bs c _ w.heap.size _ hri (Or.inl (by omega)) hb hl h0).mono ?_
 rintro e w2 ⟨r,rfl,hrm,h2,m2⟩;have hr:1≤r∧r≤3:=by simp at hrm;omega
 have hm2:=hal.zero.trans m2;have hs2:=hm2.size;clear hri hbx hrm h0 hal m2;go_wp2_with fail;with_reducible refine (l6Words_any r hr.1 hr.2 p A bs c _ hb hl h2).mono ?_
 rintro e w3 ⟨Al,cl,rows,rfl,hd,hL,h3,m3⟩;have HD:=Lib.hid hd;have HL:=Lib.hid (hL.base (lo':=w.heap.size) hs2);clear hd hL h2;go_wp2_with fail;go_ret;exact ⟨Al,cl,rows,rfl,HD.out,HL.out,h3,hm2.trans m3⟩
theorem DrawNextMove_any (A:Option Addr) (bs:List Int) (c:Nat) (w:World) (hi:Nat) (hb:OkB bs) (hl:bs.length≤1048576) (hr:RV w 0 hi A (byts bs)) :
  Calls Tryz.prog 26 #[.slice A bs.length c] w fun e w'=>∃ A' c' rows,e=.returned (.slice A' (List.length rows) c')∧((rowsD rows).length≤3∧DrWs (rowsD rows))∧Own1 w' w.heap.size A' rows.length c' rows∧Mid 0 0 w w':=by
 go_enter Tryz.func26,Tryz.ntmps26
 go_wp2_with fail;with_reducible refine (l1New_any A bs c w hi hb hl hr).mono ?_
 rintro e w2 ⟨p,rfl,hp,h2,m2⟩;have hs2:=m2.size;go_wp2_with fail;with_reducible refine (l20List_any p A bs c _ hb hl h2).mono ?_
 rintro e w3 ⟨Al,cl,rows,rfl,hd,hL,h3,m3⟩;have HD:=Lib.hid hd;have HL:=Lib.hid (hL.base (lo':=w.heap.size) hs2);clear hd hL h2;go_wp2_with fail;go_ret;exact ⟨Al,cl,rows,rfl,HD.out,HL.out,m2.transNew m3 (Or.inl hp)⟩
def MvB (a b j s:Int):Prop:=-1≤a∧a≤5∧-1≤b∧b≤3∧0≤j∧j≤2∧-1≤s∧s≤2
theorem l20Move_any (p:Nat) (A:Option Addr) (bs:List Int) (c:Nat) (w:World) (hb:OkB bs) (hl:bs.length≤1048576) (h:Cur w p A bs c) :
  Calls Tryz.prog 107 #[.pointer (some ⟨p,0,none⟩)] w fun e w'=>∃ a b j s:Int,e=.returned (.agg #[.int .i64 a,.int .i64 b,.int .i64 j,.int .i64 s])∧MvB a b j s∧Cur w' p A bs c∧Mid p (p+1) w w':=by
 have hpw:=h.lt;have hal:=Mid.alloc w (.cells #[.int .i64 0,.int .i64 0,.int .i64 0,.int .i64 0] 48);have B2:=Box.new w #[.int .i64 0,.int .i64 0,.int .i64 0,.int .i64 0] 48;have h0:=h.mid hal (Or.inr rfl);go_enter Tryz.func107,Tryz.ntmps107
 go_wp2_with fail;generalize w.alloc (.cells #[.int .i64 0,.int .i64 0,.int .i64 0,.int .i64 0] 48)=w1 at B2 h0 hal ⊢;have hs1:w.heap.size < w1.heap.size:=B2.1;with_reducible refine (l1BelowI 4 (by decide) (by decide) p A bs c _ hb hl h0).mono ?_
 rintro e w2 ⟨x1,rfl,hx1,h2,m2⟩;replace B2:=B2.mid m2 (Or.inr (by omega));have hm2:=hal.zero.trans m2;have ew1:IntKind.i64.wrap (1+(x1:Int))=1+(x1:Int):=IntWalk.i64_in _ (by omega);have hs2:=m2.size;clear h0 hal m2;go_wp2_with fail;with_reducible refine (l1BelowI 3 (by decide) (by decide) p A bs c _ hb hl h2).mono ?_
 rintro e w3 ⟨x2,rfl,hx2,h3,m3⟩;replace B2:=B2.mid m3 (Or.inr (by omega));have hm3:=hm2.trans m3;have hs3:=m3.size;clear h2 hm2 m3;go_wp2_with fail;with_reducible refine (l1BelowI 3 (by decide) (by decide) p A bs c _ hb hl h3).mono ?_
 rintro e w4 ⟨x3,rfl,hx3,h4,m4⟩;replace B2:=B2.mid m4 (Or.inr (by omega));have hm4:=hm3.trans m4;have hs4:=m4.size;have hal4:=Mid.alloc w4 (.cells #[.int .i64 (1+(x1:Int)),.int .i64 x2,.int .i64 x3,.int .i64 1] 48);have B3:=Box.new w4 #[.int .i64 (1+(x1:Int)),.int .i64 x2,.int .i64 x3,.int .i64 1] 48;have h5:=h4.mid hal4 (Or.inr rfl);replace B2:=B2.mid hal4 oZr;have hm5:=hm4.trans hal4.zero;have hcl:=h4.lt;clear h3 hm3 m4;go_wp2_with fail;generalize w4.alloc (.cells #[.int .i64 (1+(x1:Int)),.int .i64 x2,.int .i64 x3,.int .i64 1] 48)=w5 at B2 B3 h5 hal4 hm5 ⊢;obtain ⟨g,hg⟩:∃ g,w4.heap.size=g:=⟨_,rfl⟩
 rw [hg] at B3 ⊢;have hgp:p < g:=by omega
 have hgw:w.heap.size < g:=by omega
 have hs5:g < w5.heap.size:=B3.1;clear h4 hm4 hal4 hg hcl;with_reducible refine (l1OnceI 2 (by decide) (by decide) p A bs c _ hb hl h5).mono ?_
 rintro e w6 ⟨b6,rfl,h6,m6⟩;replace B2:=B2.mid m6 (Or.inr (by omega));replace B3:=B3.mid m6 (Or.inr (by omega));have hm6:=hm5.trans m6;have hs6:=m6.size;clear h5 hm5 m6;obtain ⟨u1,hu1⟩:∃ u:Int,1+(x1:Int)=u:=⟨_,rfl⟩
 have hub:1≤u1∧u1≤4:=by omega
 rw [hu1] at B3;clear ew1;cases b6
 focus
  go_wp2_with fail;obtain ⟨w7,rfl⟩:∃ x,x=w6:=⟨_,rfl⟩
  obtain ⟨s1,hs1e⟩:∃ s:Int,s=1:=⟨_,rfl⟩
  rw [← hs1e] at B3;have hsb:-1≤s1∧s1≤2:=by omega
  have h7:=h6;have hm7:=hm6;clear hs1e h6 hm6
 rotate_left
 focus
  have k0:=B3.cell 0 rfl;have k1:=B3.cell 1 rfl;have k2:=B3.cell 2 rfl;have k3:=B3.cell 3 rfl;have kf:=B3.2.2;have hst:=Mid.setAt w6 g 3 (.int .i64 (-1));have V:=B3.set 3 (.int .i64 (-1)) (by simp) rfl;simp only [List.set_cons_succ,List.set_cons_zero] at V;have h7:=h6.mid hst (by omega);have hm7:=hm6.transNew hst (Or.inl (by omega));replace B2:=B2.mid hst (by omega);have hs7:=hst.size;go_wp2_with fail;generalize w6.setCell ⟨g,3,none⟩ (.int .i64 (-1))=w7 at V h7 hm7 B2 hs7 ⊢;clear B3 hst h6 hm6 k0 k1 k2 k3 kf;have B3:=V;clear V;obtain ⟨s1,hs1e⟩:∃ s:Int,s = -1:=⟨_,rfl⟩
  rw [← hs1e] at B3;have hsb:-1≤s1∧s1≤2:=by omega
  clear hs1e
 rotate_left
 all_goals
  with_reducible refine (l1OnceI 8 (by decide) (by decide) p A bs c _ hb hl h7).mono ?_
  rintro e w8 ⟨b8,rfl,h8,m8⟩;replace B2:=B2.mid m8 (Or.inr (by omega));replace B3:=B3.mid m8 (Or.inr (by omega));have hm8:=hm7.trans m8;clear h7 hm7 m8;cases b8
  ·have hMB:MvB u1 (x2:Int) (x3:Int) s1:=by unfold MvB;omega
   have q0:=B3.cell 0 rfl;have q1:=B3.cell 1 rfl;have q2:=B3.cell 2 rfl;have q3:=B3.cell 3 rfl;have p0:=B2.cell 0 rfl;have p1:=B2.cell 1 rfl;have p2:=B2.cell 2 rfl;have p3:=B2.cell 3 rfl;have pf:=B2.2.2;have hst:=(((Mid.setAt (w8) w.heap.size 0 (.int .i64 u1)).trans (Mid.setAt _ w.heap.size 1 (.int .i64 (x2:Int)))).trans (Mid.setAt _ w.heap.size 2 (.int .i64 (x3:Int)))).trans (Mid.setAt _ w.heap.size 3 (.int .i64 s1));have C9:=Lib.hid (h8.mid hst (Or.inl hpw));have M9:=Lib.hid (hm8.transNew hst (Or.inl (Nat.le_refl _)));have HB:=Lib.hid (show MvB u1 (x2:Int) (x3:Int) s1 from hMB);clear hst h8 hm8;go_wp2_with fail;refine bodyPost_ret (v:=.agg #[.int .i64 u1,.int .i64 (x2:Int),.int .i64 (x3:Int),.int .i64 s1]) (by simp [results,Tryz.results107,go_sem,p0,p1,p2,p3,pf,q0,q1,q2,q3]) rfl ⟨u1,(x2:Int),(x3:Int),s1,rfl,HB.out,C9.out,M9.out⟩
  ·go_wp2_with fail
   with_reducible refine (l1BelowI 7 (by decide) (by decide) p A bs c _ hb hl h8).mono ?_
   rintro e w9 ⟨y1,rfl,hy1,h9,m9⟩;replace B2:=B2.mid m9 (Or.inr (by omega));replace B3:=B3.mid m9 (Or.inr (by omega));have hm9:=hm8.trans m9;have ey1:IntKind.i64.wrap ((y1:Int) - 1)=(y1:Int) - 1:=IntWalk.i64_in _ (by omega);have k0:=B3.cell 0 rfl;have k1:=B3.cell 1 rfl;have k2:=B3.cell 2 rfl;have k3:=B3.cell 3 rfl;have kf:=B3.2.2;have hst:=Mid.setAt w9 g 0 (.int .i64 ((y1:Int) - 1));have V:=B3.set 0 (.int .i64 ((y1:Int) - 1)) (by simp) rfl;simp only [List.set_cons_succ,List.set_cons_zero] at V;have h10:=h9.mid hst (by omega);have hm10:=hm9.transNew hst (Or.inl (by omega));replace B2:=B2.mid hst (by omega);clear h8 hm8 m9;go_wp2_with fail;generalize w9.setCell ⟨g,0,none⟩ (.int .i64 ((y1:Int) - 1))=w10 at V h10 hm10 B2 ⊢;clear B3 hst h9 hm9 k0 k1 k2 k3 kf;with_reducible refine (l1BelowI 4 (by decide) (by decide) p A bs c _ hb hl h10).mono ?_
   rintro e w11 ⟨y2,rfl,hy2,h11,m11⟩;replace B2:=B2.mid m11 (Or.inr (by omega));have B3:=V.mid m11 (Or.inr (by omega));have hm11:=hm10.trans m11;have ey2:IntKind.i64.wrap ((y2:Int) - 1)=(y2:Int) - 1:=IntWalk.i64_in _ (by omega);clear V;have k0:=B3.cell 0 rfl;have k1:=B3.cell 1 rfl;have k2:=B3.cell 2 rfl;have k3:=B3.cell 3 rfl;have kf:=B3.2.2;have hst:=Mid.setAt w11 g 3 (.int .i64 ((y2:Int) - 1));have V:=B3.set 3 (.int .i64 ((y2:Int) - 1)) (by simp) rfl;simp only [List.set_cons_succ,List.set_cons_zero] at V;have h12:=h11.mid hst (by omega);have hm12:=hm11.transNew hst (Or.inl (by omega));replace B2:=B2.mid hst (by omega);clear h10 hm10 m11;go_wp2_with fail;generalize w11.setCell ⟨g,3,none⟩ (.int .i64 ((y2:Int) - 1))=w12 at V h12 hm12 B2 ⊢;clear B3 hst h11 hm11 k0 k1 k2 k3 kf;with_reducible refine (l1BelowI 5 (by decide) (by decide) p A bs c _ hb hl h12).mono ?_
   rintro e w13 ⟨y3,rfl,hy3,h13,m13⟩;replace B2:=B2.mid m13 (Or.inr (by omega));have B3:=V.mid m13 (Or.inr (by omega));have hm13:=hm12.trans m13;have ey3:IntKind.i64.wrap ((y3:Int) - 1)=(y3:Int) - 1:=IntWalk.i64_in _ (by omega);clear V;have k0:=B3.cell 0 rfl;have k1:=B3.cell 1 rfl;have k2:=B3.cell 2 rfl;have k3:=B3.cell 3 rfl;have kf:=B3.2.2;have hst:=Mid.setAt w13 g 1 (.int .i64 ((y3:Int) - 1));have V:=B3.set 1 (.int .i64 ((y3:Int) - 1)) (by simp) rfl;simp only [List.set_cons_succ,List.set_cons_zero] at V;have hC:=h13.mid hst (by omega);have hM:=hm13.transNew hst (Or.inl (by omega));replace B2:=B2.mid hst (by omega);clear h12 hm12 m13;have hMB:MvB ((y1:Int) - 1) ((y3:Int) - 1) (x3:Int) ((y2:Int) - 1):=by unfold MvB;omega
   have q0:=V.cell 0 rfl;have q1:=V.cell 1 rfl;have q2:=V.cell 2 rfl;have q3:=V.cell 3 rfl;have p0:=B2.cell 0 rfl;have p1:=B2.cell 1 rfl;have p2:=B2.cell 2 rfl;have p3:=B2.cell 3 rfl;have pf:=B2.2.2;have hst:=(((Mid.setAt (w13.setCell ⟨g,1,none⟩ (.int .i64 ((y3:Int) - 1))) w.heap.size 0 (.int .i64 ((y1:Int) - 1))).trans (Mid.setAt _ w.heap.size 1 (.int .i64 ((y3:Int) - 1)))).trans (Mid.setAt _ w.heap.size 2 (.int .i64 (x3:Int)))).trans (Mid.setAt _ w.heap.size 3 (.int .i64 ((y2:Int) - 1)));have C9:=Lib.hid (hC.mid hst (Or.inl hpw));have M9:=Lib.hid (hM.transNew hst (Or.inl (Nat.le_refl _)));have HB:=Lib.hid (show MvB ((y1:Int) - 1) ((y3:Int) - 1) (x3:Int) ((y2:Int) - 1) from hMB);clear hst hC hM;go_wp2_with fail;refine bodyPost_ret (v:=.agg #[.int .i64 ((y1:Int) - 1),.int .i64 ((y3:Int) - 1),.int .i64 (x3:Int),.int .i64 ((y2:Int) - 1)]) (by simp [results,Tryz.results107,go_sem,p0,p1,p2,p3,pf,q0,q1,q2,q3]) rfl ⟨((y1:Int) - 1),((y3:Int) - 1),(x3:Int),((y2:Int) - 1),rfl,HB.out,C9.out,M9.out⟩
end
def rdig (n:Nat):List Nat:=if h:n=0 then [] else n % 10 :: rdig (n / 10)
termination_by n
decreasing_by omega
theorem rdig_zero:rdig 0=[]:=by rw [rdig];rfl
theorem rdig_pos {n:Nat} (h:0 < n):rdig n=n % 10 :: rdig (n / 10):=by rw [rdig,dif_neg (by omega)]
theorem rdig_len:∀ (k n:Nat),n < 10 ^ k→(rdig n).length≤k
 | 0,n,h=>by
  have:n=0:=by simpa using h
  subst this;simp [rdig_zero]
 | k+1,n,h=>by
  rcases Nat.eq_zero_or_pos n with rfl | hn
  ·simp [rdig_zero]
  ·rw [rdig_pos hn,List.length_cons]
   have:=rdig_len k (n / 10) (by rw [Nat.pow_succ] at h;omega);omega
def dbytes (n:Nat):List UInt8:=(rdig n).map fun d=>UInt8.ofNat (48+d)
theorem dbytes_zero:dbytes 0=[]:=by rw [dbytes,rdig_zero];rfl
theorem dbytes_pos {n:Nat} (h:0 < n):dbytes n=UInt8.ofNat (48+n % 10) :: dbytes (n / 10):=by rw [dbytes,rdig_pos h];rfl
theorem dbytes_len {n:Nat} (h:n < 10 ^ 20):(dbytes n).length≤20:=by rw [dbytes,List.length_map];exact rdig_len 20 n h
theorem dbytes_ne {n:Nat} (h:0 < n):dbytes n≠[]:=by rw [dbytes_pos h];simp
def fmtI (n:Int):List UInt8:=if n=0 then [48] else (if n < 0 then [45] else [])++(dbytes n.natAbs).reverse
theorem fmtI_len {n:Int} (h1:-9223372036854775808≤n) (h2:n≤9223372036854775807):(fmtI n).length≤21:=by
 unfold fmtI;split
 ·simp
 ·have:=dbytes_len (n:=n.natAbs) (by omega)
  split <;> simp <;> omega
theorem fmtI_ne (n:Int):fmtI n≠[]:=by
 unfold fmtI;split
 ·simp
 ·have:=dbytes_ne (n:=n.natAbs) (by omega)
  intro h;simp at h;exact this h.2
def RevAt (bs:List UInt8) (i:Nat) (zs:List UInt8):Prop:=zs.length=bs.length∧∀ p,p < bs.length→zs[p]?=if p < i ∨ bs.length≤p+i then bs[bs.length - 1 - p]? else bs[p]?
theorem RevAt.zero (bs:List UInt8):RevAt bs 0 bs:=⟨rfl,fun p hp=>by rw [if_neg (by omega)]⟩
theorem RevAt.step {bs zs:List UInt8} {i j:Nat} (h:RevAt bs i zs) (hij:i < j) (hs:i+j+1=bs.length) {x y:UInt8} (hx:zs[i]?=some x) (hy:zs[j]?=some y):RevAt bs (i+1) ((zs.set i y).set j x):=by
 have h1:=h.2 i (by omega);rw [if_neg (by omega),hx] at h1;have h2:=h.2 j (by omega);rw [if_neg (by omega),hy] at h2;refine ⟨by rw [List.length_set,List.length_set];exact h.1,fun p hp=>?_⟩;by_cases hj:p=j
 ·subst hj
  rw [List.getElem?_set_self (by rw [List.length_set,h.1];omega),if_pos (by omega),h1]
  congr 1
  omega
 ·rw [List.getElem?_set_ne (Ne.symm hj)]
  by_cases hi:p=i
  ·subst hi
   rw [List.getElem?_set_self (by rw [h.1];omega),if_pos (by omega),h2]
   congr 1
   omega
  ·rw [List.getElem?_set_ne (Ne.symm hi),h.2 p hp]
   by_cases hc:p < i ∨ bs.length≤p+i
   ·rw [if_pos hc,if_pos (by omega)]
   ·rw [if_neg hc,if_neg (by omega)]
theorem RevAt.done {bs zs:List UInt8} {i:Nat} (h:RevAt bs i zs) (hs:bs.length≤2 * i+1):zs=bs.reverse:=by
 apply List.ext_getElem?;intro p;by_cases hp:p < bs.length
 ·rw [h.2 p hp,List.getElem?_reverse hp]
  by_cases hc:p < i ∨ bs.length≤p+i
  ·rw [if_pos hc]
  ·rw [if_neg hc]
   congr 1
   omega
 ·rw [List.getElem?_eq_none (by rw [h.1];omega),List.getElem?_eq_none (by rw [List.length_reverse];omega)]
abbrev str (l:List UInt8):ByteArray:=⟨l.toArray⟩
theorem str_app (a b:List UInt8):str a++str b=str (a++b):=by
 rw [ByteArray.mk_append_mk]
theorem str_size (a:List UInt8):(str a).size=a.length:=by simp [str,ByteArray.size]
section
open Go.RowKit
def MarkerS (P:Prop):Prop:=P
theorem MarkerS.to {P:Prop} (h:MarkerS P):P:=h
def bys (l:List UInt8):List Value:=l.map fun b=>.int .u8 b.toNat
theorem bys_append (a b:List UInt8):bys (a++b)=bys a++bys b:=by simp [bys]
theorem bys_get (l:List UInt8) (k:Nat):(bys l)[k]?=(l[k]?).map fun b=>.int .u8 b.toNat:=by simp [bys]
theorem infoU:(Tryz.prog.info? 5).map (fun i=>(i.zero,i.size,i.bytes))=some (some (.int .u8 0),1,1):=by kernel_rfl
theorem undSU:Tryz.prog.underlying 22=some (.slice 5):=by kernel_rfl
theorem undU:Tryz.prog.underlying 5=some (.int .u8):=by kernel_rfl
theorem undStr:Tryz.prog.underlying 9=some .string:=by kernel_rfl
section
variable {W:World} {ops:Array Oper} {rest:List Oper} {o:Oper} {a:Act} {Q:Exit→Act→World→Prop}
theorem wpList_pushU (hgd:o.guard=none) (s x:Operand)
  (ho:o.op=.call { callee:=.builtin .append,args:=#[s,x],argTypes:=#[22,22] }) (lo:Nat) (A:Option Addr) (n c:Nat) (xs:List UInt8) (hs:a.eval s=.slice A n c)
  (hown:W.ownsRow lo 5 1 (.slice A n c) n (bys xs)) (y:UInt8) (u:Value) (hu:u=.int .u8 y.toNat) (hx:a.eval x=.slice (some ⟨W.heap.size,0,none⟩) 1 1) (hn:n≤1048576) (hb:lo≤W.heap.size)
  (h:∀ A' c' w',w'.ownsRow lo 5 1 (.slice A' (n+1) c') (n+1) (bys (xs++[y]))→Mid lo W.heap.size W w'→wpList Tryz.prog ops Q rest (a.put o.dst (.slice A' (n+1) c')) w') :
  wpList Tryz.prog ops Q (o :: rest) a (W.alloc (.cells #[u] 5)):=by
 subst hu;refine wpList_push (news:=[.int .u8 y.toNat]) hgd s x 22 ho lo 5 (.int .u8 0) 1 1 undSU infoU rfl (by decide) (.slice A n c) n (bys xs) hs hown 1 hx rfl ?_ (by unfold maxLen;omega) (by omega) hb ?_
 ·intro u hu
  simp at hu;subst hu
  rfl
 ·intro v' w' h1 h2 _
  obtain ⟨A',c',rfl, -, -⟩:=owns_shape h1;refine h A' c' w' ?_ (Mid.of_grownRow hown h2);rw [bys_append];exact h1
end
theorem digit_u8 {q:Nat}:((UInt8.ofNat (48+q % 10)).toNat:Int)=48+((q % 10:Nat):Int):=by
 have h:q % 10 < 10:=Nat.mod_lt _ (by omega);rw [UInt8.toNat_ofNat'];omega
theorem impl_FormatInt (n:Int) (w:World) (h1:-9223372036854775808≤n) (h2:n≤9223372036854775807) :
  Calls Tryz.prog 98 #[.int .i64 n] w fun e w'=>e=.returned (.string (str (fmtI n)))∧Mid 0 0 w w':=by
 by_cases hn0:n=0
 ·subst hn0
  go_enter Tryz.func98,Tryz.ntmps98
  go_wp2_with fail;go_ret;exact ⟨rfl,Mid.refl _ _ _⟩
 have d0:(n == 0)=false:=by simp [hn0]
 have O0:=owns_empty w 5 1;have hm0:=Mid.alloc w (.cells #[] 5);go_enter Tryz.func98,Tryz.ntmps98
 go_wp2_with fail;generalize w.alloc (.cells #[] 5)=w1 at O0 hm0 ⊢;have hs1:w.heap.size < w1.heap.size:=(O0.lt _ rfl).2;have HO0:Hid (w1.ownsRow w.heap.size 5 1 (.slice (some ⟨w.heap.size,0,none⟩) 0 0) 0 (bys [])):=Lib.hid O0;have HQ0:Hid (([]:List UInt8)++dbytes n.natAbs=dbytes n.natAbs):=Lib.hid rfl;clear O0 hs1;generalize (some (⟨w.heap.size,0,none⟩:Addr))=A0 at HO0 ⊢;go_loopw [3,4] (fun ov mv wr=>∃ (mi:Int) (k:Nat) (bs:List UInt8) (A:Option Addr) (c:Nat),mv=.int .i64 mi∧ov=.slice A k c∧-9223372036854775808≤mi∧mi≤9223372036854775807∧Hid (bs.length=k)∧Hid (bs++dbytes mi.natAbs=dbytes n.natAbs)∧Hid (wr.ownsRow w.heap.size 5 1 (.slice A k c) k (bys bs))∧Mid 0 0 w wr) (fun _ mv _=>(intOf mv).natAbs)
 case atStart=>exact ⟨n,0,[],A0,0,rfl,rfl,h1,h2,Lib.hid rfl,HQ0,HO0,hm0⟩
 case round =>
  clear HQ0 HO0 hm0;obtain ⟨wo,hwo⟩:∃ wo,wo=wr:=⟨_,rfl⟩
  subst hwo;obtain ⟨mi,k,bs,A,c,rfl,rfl,hm1,hm2,HB,HQ,HO,hm⟩:=hrel;have hk:k≤20:=by
   have e1:=congrArg List.length HQ.out;have e2:=dbytes_len (n:=n.natAbs) (by omega);rw [List.length_append,HB.out] at e1;omega
  by_cases hz:mi=0
  ·subst hz
   have dz:((0:Int) == 0)=true:=rfl;have hbq:bs=dbytes n.natAbs:=by
    have h:=HQ.out;rw [show (0:Int).natAbs=0 from rfl,dbytes_zero,List.append_nil] at h;exact h
   have HBQ:=Lib.hid hbq;have hk0:0 < k:=by
    have:=dbytes_ne (n:=n.natAbs) (by omega);rcases Nat.eq_zero_or_pos k with h | h
    ·exact absurd (List.eq_nil_of_length_eq_zero (by rw [← hbq,HB.out,h])) this
    ·exact h
   clear hbq HQ hm1 hm2;by_cases hneg:n < 0
   ·go_wp2_with (at_builtin;refine MarkerS.to ?_)
    unfold MarkerS;refine wpList_pushU rfl _ _ rfl w.heap.size A k c bs rfl HO.out 45 _ rfl rfl (by omega) hm.size ?_;intro A2 c2 w2 ho2 hm2;have HO2:=Lib.hid ho2;have hm3:=hm.transNew hm2 (Or.inl (Nat.le_refl _));have HB2:Hid ((bs++[45]).length=k+1):=Lib.hid (by rw [List.length_append,HB.out];rfl);have HF:Hid ((bs++[45]).reverse=fmtI n):=Lib.hid (by
     rw [HBQ.out,fmtI,if_neg hn0,if_pos hneg,List.reverse_append]
     rfl)
    clear ho2 hm2 HO hm HB HBQ;generalize bs++[45]=bs2 at HO2 HB2 HF;have hk2:0 < k+1∧k+1≤21:=by omega
    generalize k+1=k2 at HO2 HB2 hk2 ⊢;go_wp2_with fail;have HR0:=Lib.hid (RevAt.zero bs2);have hlen2:k2≤21:=by omega
    go_loopw [6,7] (fun iv jv wr=>∃ (i:Nat) (j:Int) (zs:List UInt8),iv=.int .i64 i∧jv=.int .i64 j∧(i:Int)+j+1=(k2:Int)∧Hid (RevAt bs2 i zs)∧Hid (wr.ownsRow w.heap.size 5 1 (.slice A2 k2 c2) k2 (bys zs))∧Mid 0 0 w wr) (fun _ jv _=>(intOf jv).toNat)
    case atStart=>exact ⟨0,(k2:Int) - 1,bs2,rfl,by first | rfl | go_num,by omega,HR0,HO2,hm3⟩
    case round =>
     clear HR0 HO2 hm3;obtain ⟨wp,hwp⟩:∃ wp,wp=wr:=⟨_,rfl⟩
     subst hwp;obtain ⟨i,j,zs,rfl,rfl,hij,HRV,HO,hm⟩:=hrel;by_cases hlt:(i:Int) < j
     ·obtain ⟨jn,rfl⟩:∃ n:Nat,j=n:=⟨j.toNat,by omega⟩
      have hzl:zs.length=k2:=by rw [HRV.out.1];exact HB2.out
      obtain ⟨x,hx⟩:=get_of_lt zs (show i < zs.length by omega);obtain ⟨y,hy⟩:=get_of_lt zs (show jn < zs.length by omega);obtain ⟨g,rfl,hg1,hg2⟩:=owns_addr HO.out (show 0 < k2 by omega);have hca:=(HO.out.cellAt i (by omega)).trans (by rw [bys_get,hx];rfl:(bys zs)[i]?=some (.int .u8 x.toNat));have hcb:=(HO.out.cellAt jn (by omega)).trans (by rw [bys_get,hy];rfl:(bys zs)[jn]?=some (.int .u8 y.toNat));have hfa:=HO.out.frozenAt i;have hfb:=HO.out.frozenAt jn;have hne:(wp.setCell ⟨g,i,none⟩ (.int .u8 y.toNat)).frozen? ⟨g,jn,none⟩=false:=by rw [World.frozen?_setCell];exact hfb
      have hs1:=owns_set HO.out i (.int .u8 y.toNat) rfl;have hcu:=(hs1.cellAt jn (by omega)).trans (by rw [List.getElem?_set_ne (by omega),bys_get,hy];rfl:((bys zs).set i (.int .u8 y.toNat))[jn]?=some (.int .u8 y.toNat));have hs2:=owns_set hs1 jn (.int .u8 x.toNat) (ys:=bys ((zs.set i y).set jn x)) (by simp [bys,List.map_set]);have HS2:=Lib.hid hs2;have HRV2:=Lib.hid (HRV.out.step (by omega) (by rw [HB2.out];omega) hx hy);have hmA:=Mid.setCell wp (lo:=w.heap.size) (hi:=g+1) (p:=⟨g,i,none⟩) (.int .u8 y.toNat) hg1 (Nat.lt_succ_self _);have hmB:=Mid.setCell (wp.setCell ⟨g,i,none⟩ (.int .u8 y.toNat)) (lo:=w.heap.size) (hi:=g+1) (p:=⟨g,jn,none⟩) (.int .u8 x.toNat) hg1 (Nat.lt_succ_self _);have hm4:=(hm.transNew hmA (Or.inl (Nat.le_refl _))).transNew hmB (Or.inl (Nat.le_refl _));have hi0:(0:Int)≤(i:Int):=by omega
      have hi1:(i:Int) < (k2:Int):=by omega
      have hj0:(0:Int)≤(jn:Int):=by omega
      have hj1:(jn:Int) < (k2:Int):=by omega
      have hwj:wrap64 ((jn:Int) - 1)=(jn:Int) - 1:=IntWalk.wrap64_in _ (by omega);clear hx hy hs1 hs2 hmA hmB hm HRV hzl;go_wp2_with fail;go_region
      go_wp2_with fail;go_roundw
      case rel=>exact ⟨i+1,(jn:Int) - 1,(zs.set i y).set jn x,by go_num,rfl,by omega,HRV2,HS2.out,hm4.trans (Mid.drew1 _)⟩
      case measure=>simp [intOf];omega
     ·have hres:=HRV.out.done (by rw [HB2.out];omega)
      rw [HF.out] at hres;have hz:=hres;have hzl:zs.length=k2:=by rw [HRV.out.1];exact HB2.out
      obtain ⟨g,rfl,hg1,hg2⟩:=owns_addr HO.out (show 0 < k2 by omega);have hcv:=run_convert_bytes_back (P:=Tryz.prog) wp 22 9 5 ⟨g,0,none⟩ c2 zs undSU undU undStr (fun q hq=>by
       have h:=(HO.out.cellAt q (by omega)).trans (by rw [bys_get,List.getElem?_eq_getElem hq];rfl:(bys zs)[q]?=some (.int .u8 (zs[q]).toNat));rw [Addr.add_lit,Nat.zero_add];exact h)
      rw [hzl,hz] at hcv;clear hres hz hzl HO HRV;go_wp2_with fail;go_ret;exact ⟨rfl,hm⟩
   ·have HO2:=HO
    have hm3:=hm;have HB2:=HB;have HF:Hid (bs.reverse=fmtI n):=Lib.hid (by
     rw [HBQ.out,fmtI,if_neg hn0,if_neg hneg]
     rfl)
    clear HO hm HB HBQ;have hk2:0 < k∧k≤21:=by omega
    generalize wo=w2 at HO2 hm3 ⊢;generalize A=A2 at HO2 ⊢;generalize c=c2 at HO2 ⊢;generalize bs=bs2 at HO2 HB2 HF;generalize k=k2 at HO2 HB2 hk2 ⊢;go_wp2_with fail;have HR0:=Lib.hid (RevAt.zero bs2);have hlen2:k2≤21:=by omega
    go_loopw [6,7] (fun iv jv wr=>∃ (i:Nat) (j:Int) (zs:List UInt8),iv=.int .i64 i∧jv=.int .i64 j∧(i:Int)+j+1=(k2:Int)∧Hid (RevAt bs2 i zs)∧Hid (wr.ownsRow w.heap.size 5 1 (.slice A2 k2 c2) k2 (bys zs))∧Mid 0 0 w wr) (fun _ jv _=>(intOf jv).toNat)
    case atStart=>exact ⟨0,(k2:Int) - 1,bs2,rfl,by first | rfl | go_num,by omega,HR0,HO2,hm3⟩
    case round =>
     clear HR0 HO2 hm3;obtain ⟨wp,hwp⟩:∃ wp,wp=wr:=⟨_,rfl⟩
     subst hwp;obtain ⟨i,j,zs,rfl,rfl,hij,HRV,HO,hm⟩:=hrel;by_cases hlt:(i:Int) < j
     ·obtain ⟨jn,rfl⟩:∃ n:Nat,j=n:=⟨j.toNat,by omega⟩
      have hzl:zs.length=k2:=by rw [HRV.out.1];exact HB2.out
      obtain ⟨x,hx⟩:=get_of_lt zs (show i < zs.length by omega);obtain ⟨y,hy⟩:=get_of_lt zs (show jn < zs.length by omega);obtain ⟨g,rfl,hg1,hg2⟩:=owns_addr HO.out (show 0 < k2 by omega);have hca:=(HO.out.cellAt i (by omega)).trans (by rw [bys_get,hx];rfl:(bys zs)[i]?=some (.int .u8 x.toNat));have hcb:=(HO.out.cellAt jn (by omega)).trans (by rw [bys_get,hy];rfl:(bys zs)[jn]?=some (.int .u8 y.toNat));have hfa:=HO.out.frozenAt i;have hfb:=HO.out.frozenAt jn;have hne:(wp.setCell ⟨g,i,none⟩ (.int .u8 y.toNat)).frozen? ⟨g,jn,none⟩=false:=by rw [World.frozen?_setCell];exact hfb
      have hs1:=owns_set HO.out i (.int .u8 y.toNat) rfl;have hcu:=(hs1.cellAt jn (by omega)).trans (by rw [List.getElem?_set_ne (by omega),bys_get,hy];rfl:((bys zs).set i (.int .u8 y.toNat))[jn]?=some (.int .u8 y.toNat));have hs2:=owns_set hs1 jn (.int .u8 x.toNat) (ys:=bys ((zs.set i y).set jn x)) (by simp [bys,List.map_set]);have HS2:=Lib.hid hs2;have HRV2:=Lib.hid (HRV.out.step (by omega) (by rw [HB2.out];omega) hx hy);have hmA:=Mid.setCell wp (lo:=w.heap.size) (hi:=g+1) (p:=⟨g,i,none⟩) (.int .u8 y.toNat) hg1 (Nat.lt_succ_self _);have hmB:=Mid.setCell (wp.setCell ⟨g,i,none⟩ (.int .u8 y.toNat)) (lo:=w.heap.size) (hi:=g+1) (p:=⟨g,jn,none⟩) (.int .u8 x.toNat) hg1 (Nat.lt_succ_self _);have hm4:=(hm.transNew hmA (Or.inl (Nat.le_refl _))).transNew hmB (Or.inl (Nat.le_refl _));have hi0:(0:Int)≤(i:Int):=by omega
      have hi1:(i:Int) < (k2:Int):=by omega
      have hj0:(0:Int)≤(jn:Int):=by omega
      have hj1:(jn:Int) < (k2:Int):=by omega
      have hwj:wrap64 ((jn:Int) - 1)=(jn:Int) - 1:=IntWalk.wrap64_in _ (by omega);clear hx hy hs1 hs2 hmA hmB hm HRV hzl;go_wp2_with fail;go_region
      go_wp2_with fail;go_roundw
      case rel=>exact ⟨i+1,(jn:Int) - 1,(zs.set i y).set jn x,by go_num,rfl,by omega,HRV2,HS2.out,hm4.trans (Mid.drew1 _)⟩
      case measure=>simp [intOf];omega
     ·have hres:=HRV.out.done (by rw [HB2.out];omega)
      rw [HF.out] at hres;have hz:=hres;have hzl:zs.length=k2:=by rw [HRV.out.1];exact HB2.out
      obtain ⟨g,rfl,hg1,hg2⟩:=owns_addr HO.out (show 0 < k2 by omega);have hcv:=run_convert_bytes_back (P:=Tryz.prog) wp 22 9 5 ⟨g,0,none⟩ c2 zs undSU undU undStr (fun q hq=>by
       have h:=(HO.out.cellAt q (by omega)).trans (by rw [bys_get,List.getElem?_eq_getElem hq];rfl:(bys zs)[q]?=some (.int .u8 (zs[q]).toNat));rw [Addr.add_lit,Nat.zero_add];exact h)
      rw [hzl,hz] at hcv;clear hres hz hzl HO HRV;go_wp2_with fail;go_ret;exact ⟨rfl,hm⟩
  ·have dz:(mi == 0)=false:=by simp [hz]
   obtain ⟨q,hq⟩:∃ q,mi.natAbs % 10=q:=⟨_,rfl⟩
   have hq10:q < 10:=by rw [← hq];exact Nat.mod_lt _ (by omega)
   have ht:(mi.tmod 10).natAbs=q:=by rw [Int.natAbs_tmod,← hq];rfl
   have hdv:(mi.tdiv 10).natAbs=mi.natAbs / 10:=by rw [Int.natAbs_tdiv];rfl
   have e2:wrap64 (48+(q:Int))=48+(q:Int):=IntWalk.wrap64_in _ (by omega);have e3:(48+(q:Int)) % 256=48+(q:Int):=by omega
   have e4:wrap64 (mi.tdiv 10)=mi.tdiv 10:=IntWalk.wrap64_in _ (by omega);have hu:Value.int .u8 (48+(q:Int))=.int .u8 (UInt8.ofNat (48+mi.natAbs % 10)).toNat:=by rw [digit_u8,hq]
   have HU:=Lib.hid hu;have HQ2:Hid ((bs++[UInt8.ofNat (48+mi.natAbs % 10)])++dbytes (mi.tdiv 10).natAbs=dbytes n.natAbs):=Lib.hid (by
    have h:=HQ.out;rw [dbytes_pos (show 0 < mi.natAbs by omega)] at h;rw [List.append_assoc,hdv];exact h)
   have HB2:Hid ((bs++[UInt8.ofNat (48+mi.natAbs % 10)]).length=k+1):=Lib.hid (by rw [List.length_append,HB.out];rfl);have hmes:(mi.tdiv 10).natAbs < mi.natAbs:=by omega
   have hrg:-9223372036854775808≤mi.tdiv 10∧mi.tdiv 10≤9223372036854775807:=by omega
   have HRG:=Lib.hid hrg;have HMES:=Lib.hid hmes;clear hq hdv hu HQ hrg hmes;by_cases hd:mi.tmod 10 < 0
   ·have e1:wrap64 (-mi.tmod 10)=(q:Int):=by rw [IntWalk.wrap64_in _ (by omega)];omega
    clear ht;go_wp2_with (at_builtin;refine MarkerS.to ?_)
    unfold MarkerS;refine wpList_pushU rfl _ _ rfl w.heap.size A k c bs rfl HO.out (UInt8.ofNat (48+mi.natAbs % 10)) _ HU.out rfl (by omega) hm.size ?_;intro A2 c2 w2 ho2 hm2';have HO2:=Lib.hid ho2;have hm3:=hm.transNew hm2' (Or.inl (Nat.le_refl _));clear ho2 hm2' HO hm HB HU;go_wp2_with fail;go_roundw
    case rel=>exact ⟨mi.tdiv 10,k+1,_,A2,c2,rfl,rfl,HRG.out.1,HRG.out.2,HB2,HQ2,HO2,hm3⟩
    case measure=>exact HMES.out
   ·have e1:mi.tmod 10=(q:Int):=by omega
    have hq0:¬ ((q:Int) < 0):=by omega
    clear ht hd;go_wp2_with (at_builtin;refine MarkerS.to ?_)
    unfold MarkerS;refine wpList_pushU rfl _ _ rfl w.heap.size A k c bs rfl HO.out (UInt8.ofNat (48+mi.natAbs % 10)) _ HU.out rfl (by omega) hm.size ?_;intro A2 c2 w2 ho2 hm2';have HO2:=Lib.hid ho2;have hm3:=hm.transNew hm2' (Or.inl (Nat.le_refl _));clear ho2 hm2' HO hm HB HU;go_wp2_with fail;go_roundw
    case rel=>exact ⟨mi.tdiv 10,k+1,_,A2,c2,rfl,rfl,HRG.out.1,HRG.out.2,HB2,HQ2,HO2,hm3⟩
    case measure=>exact HMES.out
theorem spec_FormatInt (n:Int) (w:World) (h1:-9223372036854775808≤n) (h2:n≤9223372036854775807) :
  Calls Tryz.prog 100 #[.int .i64 n] w fun e w'=>e=.returned (.string (str (fmtI n)))∧Mid 0 0 w w':=by
 by_cases hn0:n=0
 ·subst hn0
  go_enter Tryz.func100,Tryz.ntmps100
  go_wp2_with fail;go_ret;exact ⟨rfl,Mid.refl _ _ _⟩
 have d0:(n == 0)=false:=by simp [hn0]
 obtain ⟨ng,hng⟩:∃ ng,decide (n < 0)=ng:=⟨_,rfl⟩
 have HNG:=Lib.hid hng;have HQ0:Hid ((dbytes n.natAbs).reverse++([]:List UInt8)=(dbytes n.natAbs).reverse):=Lib.hid (by simp);go_enter Tryz.func100,Tryz.ntmps100
 go_wp2_with fail;clear hng;go_loopw [0,3] (fun mv ov wr=>∃ (mi:Int) (s:ByteArray) (l:List UInt8),mv=.int .i64 mi∧ov=.string s∧-9223372036854775808≤mi∧mi≤9223372036854775807∧Hid (s=str l)∧Hid ((dbytes mi.natAbs).reverse++l=(dbytes n.natAbs).reverse)∧Mid 0 0 w wr) (fun mv _ _=>(intOf mv).natAbs)
 case atStart=>exact ⟨n,⟨#[]⟩,[],rfl,rfl,h1,h2,Lib.hid rfl,HQ0,Mid.refl _ _ _⟩
 case round =>
  clear HQ0;obtain ⟨wo,hwo⟩:∃ wo,wo=wr:=⟨_,rfl⟩
  subst hwo;obtain ⟨mi,s,l,rfl,rfl,hm1,hm2,HS,HQ,hm⟩:=hrel;have hsl:l.length≤20:=by
   have e1:=congrArg List.length HQ.out;have e2:=dbytes_len (n:=n.natAbs) (by omega);rw [List.length_append,List.length_reverse,List.length_reverse] at e1;omega
  have hss:s.size≤20:=by rw [HS.out,str_size];exact hsl
  by_cases hz:mi=0
  ·subst hz
   have dz:((0:Int) == 0)=true:=rfl;have hl:l=(dbytes n.natAbs).reverse:=by
    have h:=HQ.out;rw [show (0:Int).natAbs=0 from rfl,dbytes_zero,List.reverse_nil,List.nil_append] at h;exact h
   cases ng with
   | true =>
    have hng:=HNG.out;have hneg:n < 0:=by simpa using hng
    have hres:(⟨#[45]⟩:ByteArray)++s=str (fmtI n):=by
     rw [HS.out,hl,fmtI,if_neg hn0,if_pos hneg];exact str_app [45] _
    have hsz2:(⟨#[45]⟩:ByteArray).size+s.size≤9223372036854775807:=by
     have:(⟨#[45]⟩:ByteArray).size=1:=rfl;omega
    clear hng;go_wp2_with fail;go_ret;exact ⟨rfl,hm⟩
   | false =>
    have hng:=HNG.out;have hneg:¬ n < 0:=by simpa using hng
    have hres:s=str (fmtI n):=by
     rw [HS.out,hl,fmtI,if_neg hn0,if_neg hneg]
     rfl
    subst hres;clear hng;go_wp2_with fail;go_ret;exact ⟨rfl,hm⟩
  ·have dz:(mi == 0)=false:=by simp [hz]
   obtain ⟨q,hq⟩:∃ q,mi.natAbs % 10=q:=⟨_,rfl⟩
   have hq10:q < 10:=by rw [← hq];exact Nat.mod_lt _ (by omega)
   have ht:(mi.tmod 10).natAbs=q:=by rw [Int.natAbs_tmod,← hq];rfl
   have hdv:(mi.tdiv 10).natAbs=mi.natAbs / 10:=by rw [Int.natAbs_tdiv];rfl
   have e2:wrap64 (48+(q:Int))=48+(q:Int):=IntWalk.wrap64_in _ (by omega);have e3:(48+(q:Int)) % 256=48+(q:Int):=by omega
   have e4:wrap64 (mi.tdiv 10)=mi.tdiv 10:=IntWalk.wrap64_in _ (by omega);obtain ⟨S1,hS1⟩:∃ S1,S1=str [UInt8.ofNat (48+mi.natAbs % 10)]:=⟨_,rfl⟩
   have hcv:=run_convert_bytes_back (P:=Tryz.prog) (wo.alloc (.cells #[.int .u8 (48+(q:Int))] 5)) 22 9 5 ⟨wo.heap.size,0,none⟩ 1 [UInt8.ofNat (48+mi.natAbs % 10)] undSU undU undStr (fun k hk=>by
    have hk0:k=0:=by simpa using hk
    subst hk0;rw [Addr.add_lit,World.cell?_alloc_new];simp only [List.getElem_cons_zero];rw [digit_u8,hq]
    rfl)
   have hS1':({ data:=[UInt8.ofNat (48+mi.natAbs % 10)].toArray }:ByteArray)=S1:=hS1.symm;rw [hS1'] at hcv;have hcv2:(convert 22 9 (.slice (some ⟨wo.heap.size,0,none⟩) 1 1)).run Tryz.prog (wo.alloc (.cells #[.int .u8 (48+(q:Int))] 5))=.ok (.string S1) (wo.alloc (.cells #[.int .u8 (48+(q:Int))] 5)):=hcv;have hs1:S1.size=1:=by rw [hS1,str_size];rfl
   have hsz2:S1.size+s.size≤9223372036854775807:=by omega
   have HS2:Hid (S1++s=str (UInt8.ofNat (48+mi.natAbs % 10) :: l)):=Lib.hid (by rw [hS1,HS.out,str_app];rfl);have HQ2:Hid ((dbytes (mi.tdiv 10).natAbs).reverse++(UInt8.ofNat (48+mi.natAbs % 10) :: l)=(dbytes n.natAbs).reverse):=Lib.hid (by
    have h:=HQ.out;rw [dbytes_pos (show 0 < mi.natAbs by omega),List.reverse_cons,List.append_assoc] at h;rw [hdv];exact h)
   have hmes:(mi.tdiv 10).natAbs < mi.natAbs:=by omega
   have hrg:-9223372036854775808≤mi.tdiv 10∧mi.tdiv 10≤9223372036854775807:=by omega
   have HRG:=Lib.hid hrg;have HMES:=Lib.hid hmes;have hal:=Mid.alloc wo (.cells #[.int .u8 (48+(q:Int))] 5);have hm3:=hm.trans hal;clear hq hdv HQ hrg hmes hcv hS1' hs1 hal hm hS1;by_cases hd:mi.tmod 10 < 0
   ·have e1:wrap64 (-mi.tmod 10)=(q:Int):=by rw [IntWalk.wrap64_in _ (by omega)];omega
    clear ht;go_wp2_with fail;go_roundw
    case rel=>exact ⟨mi.tdiv 10,S1++s,_,rfl,rfl,HRG.out.1,HRG.out.2,HS2,HQ2,hm3⟩
    case measure=>exact HMES.out
   ·have e1:mi.tmod 10=(q:Int):=by omega
    have hq0:¬ ((q:Int) < 0):=by omega
    clear ht hd;go_wp2_with fail;go_roundw
    case rel=>exact ⟨mi.tdiv 10,S1++s,_,rfl,rfl,HRG.out.1,HRG.out.2,HS2,HQ2,hm3⟩
    case measure=>exact HMES.out
end
section
open Go.RowKit
theorem spec_ApplyMove_4t (A:Option Addr) (d:List (List Int)) (c:Nat) (n:Nat) (j s:Int) (w:World) (lo hi:Nat) (hr:RSS w lo hi A d) (hok:∀ xs∈d,OkI xs) (hl:d.length+sumL d≤1048576) (hn:n < d.length) (hrow:(rowAt d n).length=0) :
  Calls Tryz.prog 25 #[.slice A d.length c,(Mv.mk 4 n j s).v] w (RetMv d ⟨4,n,j,s⟩ w):=by
 show Calls _ _ #[.slice A d.length c,.agg #[.int .i64 4,.int .i64 n,.int .i64 j,.int .i64 s]] w _
 obtain ⟨b,off,A',c',xs,rfl, -,hbhi,hx,hcx,hrx⟩:=hr.row hn;have HE:=Lib.hid (applyM_4 (j:=j) (s:=s) hx);have hb:inB n 0 ((d.length:Int) - 1)=true:=by simp [inB];omega
 have HB:=Lib.hid hb;have H28:=Lib.hid (fun xs (hx:xs∈d)=>show xs.length≤1073741824 by have:=len_le_sumL hx;omega);have hlx:xs.length≤4194304:=by have:=len_le_sumL (List.mem_of_getElem? hx);omega
 rw [rowAt_get hx] at hrow;have hhi:=hr.size;have hnn:(0:Int)≤(n:Int):=by omega
 have hnl:(n:Int) < (d.length:Int):=by omega
 clear hb hx;have hb0:Mid 0 0 w (w.alloc (.cells #[.int .i64 4,.int .i64 n,.int .i64 j,.int .i64 s] 48)):=Mid.alloc _ _;have hbx:=Box.new w #[.int .i64 4,.int .i64 n,.int .i64 j,.int .i64 s] 48;have hrb:=hr.mid hb0 oZl;go_enter Tryz.func25,Tryz.ntmps25
 go_wp2_with fail;with_reducible refine (spec_l20Copy _ d c _ _ _ hrb (by omega) H28.out).mono ?_
 rintro e w1 ⟨A1,c1,rfl,ho1,hm1⟩;have hm:=hb0.trans hm1;have hbx1:=hbx.mid hm1 oZr;have hrd1:=hrb.mid hm1 oZl;have k0:=hbx1.cell 0 rfl;have k1:=hbx1.cell 1 rfl;have k2:=hbx1.cell 2 rfl;have k3:=hbx1.cell 3 rfl;go_wp2_with fail;with_reducible refine (l1In_any _ _ _ _).mono ?_
 rintro e w' ⟨rfl,rfl⟩;rw [HB.out];have hcx1:w1.cell? ⟨b,off+n,none⟩=some (.slice A' xs.length c'):=(World.cell?_of_block (hm.block b (by omega) (by omega))).trans hcx;have he2:=HE.out;rw [if_neg (by omega)] at he2;have HE2:=Lib.hid he2;obtain rfl:=List.eq_nil_of_length_eq_zero hrow;clear he2 hrow;obtain ⟨rows,hD,hown,hlt,hrows⟩:=ho1.cut;have HD:=Lib.hid hD;have hrl:rows.length=d.length:=by rw [← hD,rowsD_len]
 have hld:(rowsV rows).length=d.length:=by rw [rowsV_len,hrl]
 obtain ⟨g,rfl,hg0,hg1⟩:=owns_addr hown (by omega);have hcap:d.length≤c1:=by
  obtain ⟨_,_,e,h1,_⟩:=owns_shape hown;injection e with _ _ e
  omega
 have hmd:=Mid.drew1 w1;have hbxd:=hbx1.mid hmd oZr;have k1d:=hbxd.cell 1 rfl;have hownd:w1.drew.ownsRow (w.alloc (.cells #[.int .i64 4,.int .i64 n,.int .i64 j,.int .i64 s] 48)).heap.size 44 1 (.slice (some ⟨g,0,none⟩) d.length c1) d.length (rowsV rows):=hown;have hcut:w1.drew.ownsRow (w.alloc (.cells #[.int .i64 4,.int .i64 n,.int .i64 j,.int .i64 s] 48)).heap.size 44 1 (.slice (some ⟨g,0,none⟩) n c1) n ((rowsV rows).take n):=by simpa using owns_cut hownd (show n≤d.length by omega)
 have hrowsd:=(hrows.mid hmd oZl).erase n;have hmdd:=hm.trans hmd;have hs0:=hb0.size;have hs1:=hm1.size;have hnc:(n:Int)≤(c1:Int):=by omega
 have hn1:(n:Int)+1≤(d.length:Int):=by omega
 have hn0:(0:Int)≤(n:Int)+1:=by omega
 have hn3:(n:Int)+1≤(c1:Int):=by omega
 have hnl2:(n:Int)≤(d.length:Int):=by omega
 have hl1:((rowsV rows).take n).length=n * 1:=by rw [List.length_take];omega
 have hl2:((rowsV rows).drop (n+1)).length=(d.length - (n+1)) * 1:=by rw [List.length_drop];omega
 have ho1':∀ u∈(rowsV rows).take n,u.oneCell'=true:=fun u hu=>one_of_rows rows u (List.mem_of_mem_take hu);have ho2':∀ u∈(rowsV rows).drop (n+1),u.oneCell'=true:=fun u hu=>one_of_rows rows u (List.mem_of_mem_drop hu);have hfin:(rowsV rows).take n++(rowsV rows).drop (n+1)=rowsV (rows.eraseIdx n):=by rw [List.eraseIdx_eq_take_drop_succ,rowsV_append];simp [rowsV,List.map_take,List.map_drop]
 have hfd:rowsD (rows.eraseIdx n)=d.eraseIdx n:=by rw [← hD];simp [rowsD,List.eraseIdx_eq_take_drop_succ,List.map_take,List.map_drop]
 have hlen:(d.eraseIdx n).length=n+(d.length - (n+1)):=by rw [List.length_eraseIdx_of_lt hn];omega
 have HF:=Lib.hid hfin;have HFD:=Lib.hid hfd;have HLEN:=Lib.hid hlen;have HL1:=Lib.hid hl1;have HL2:=Lib.hid hl2;have HO1:=Lib.hid ho1';have HO2:=Lib.hid ho2';have hbmx:n+(d.length - (n+1))≤maxLen:=by unfold maxLen;omega
 have hbby:(n+(d.length - (n+1))) * 24≤140737488355328:=by omega
 have hbase:(w.alloc (.cells #[.int .i64 4,.int .i64 n,.int .i64 j,.int .i64 s] 48)).heap.size≤w1.drew.heap.size:=hs1;clear hD hcx hrb hr hlt ho1 hrd1 hfin hfd hlen hl1 hl2 ho1' ho2';have hrsd:Rs w1.drew w1.heap.size (some ⟨g,n+1,none⟩) ((rowsV rows).drop (n+1)):=by
  intro hne;obtain ⟨b',off',e1,h1,h2⟩:=Rs.of_own hownd (by intro h0;rw [h0] at hne;simp at hne);injection e1 with e1
  injection e1 with e1 e2
  subst e1 e2;refine ⟨g,n+1,rfl,h1,fun j u hu=>?_⟩;rw [List.getElem?_drop] at hu;have:=h2 _ u hu
  rwa [Nat.zero_add] at this
 have hrst:Rs w1.drew w1.heap.size (some ⟨g,0,none⟩) ((rowsV rows).take n):=(Rs.of_own hownd).take n;have hrse:c1=n+1→Rs w1.drew w1.heap.size (some ⟨g,0,none⟩) ((rowsV rows).drop (n+1)):=by
  intro hc;have:(rowsV rows).drop (n+1)=[]:=List.drop_eq_nil_of_le (by omega);rw [this];exact Rs.nil
 have HRE:=Lib.hid hrse;clear hrse;have hw1:IntKind.i64.wrap ((n:Int)+1)=(n:Int)+1:=IntWalk.i64_in _ (by omega);have hnp:(n:Int)≤(n:Int)+1:=by omega
 by_cases hce:c1=n+1
 ·subst hce
  have hal:Mid 0 0 w1.drew (w1.drew.alloc (.cells #[] 44)):=Mid.alloc _ _;have hoe:=owns_empty w1.drew 44 1;have hbxa:=hbxd.mid hal oZr;have k1a:=hbxa.cell 1 rfl;have hrta:Rs (w1.drew.alloc (.cells #[] 44)) w1.heap.size (some ⟨g,0,none⟩) ((rowsV rows).take n):=hrst.alloc (Nat.le_refl _) _;have hmx1:0+n≤maxLen:=by unfold maxLen;omega
  have hby1:(0+n) * 24≤140737488355328:=by omega
  have hba1:w1.drew.heap.size≤(w1.drew.alloc (.cells #[] 44)).heap.size:=by simp
  have hdn:(rowsV rows).drop (n+1)=[]:=List.drop_eq_nil_of_le (by omega);have HDN:=Lib.hid hdn;have hz1:([]:List Value).length=0 * 1:=rfl;have hz2:∀ u∈([]:List Value),u.oneCell'=true:=by simp
  have HZ1:=Lib.hid hz1;have HZ2:=Lib.hid hz2;have hzmx:n+0≤maxLen:=by unfold maxLen;omega
  have hzby:(n+0) * 24≤140737488355328:=by omega
  clear hdn hz1 hz2;have HR:=Lib.hid (HRE.out rfl);have hbw:w.heap.size < w1.heap.size:=by simp at hs1;omega
  go_wp2_with fail;go_region_held3 (fun w'=>w'.cell? ⟨w.heap.size,1,none⟩=some (.int .i64 n)) (first | exact k1 | exact k1d | exact k1a | exact k1e | exact k1f) (first | (refine step_cat (by rfl) (.tmp 43) (.tmp 47) 24 (by rfl) _ 44 (.slice none 0 0) 1 24 undSSI infoSI rfl (by decide) _ 0 [] (by rfl) hoe (some ⟨g,0,none⟩) n _ w1.heap.size ((rowsV rows).take n) (by rfl) hrta HL1.out HO1.out hmx1 hby1 hba1 ?_;intro v2 w2 ho2 hgr2 hat2;have hm2:=hal.grownNew hgr2 (fun g hg=>(hoe.lt g hg).1);have hbxe:=hbxd.mid hm2 oZr;have k1e:=hbxe.cell 1 rfl;have hrs2:=HR.out.keep (w':=w2) (fun p hp=>World.cell?_of_block (hm2.block p.block hp (Nat.not_lt_zero _ ∘ And.right)));have hsz2:=hm2.size;simp only [Nat.zero_add,List.nil_append] at ho2) | (refine step_cat (by rfl) (.tmp 48) (.tmp 53) 24 (by rfl) _ 44 (.slice none 0 0) 1 24 undSSI infoSI rfl (by decide) v2 n ((rowsV rows).take n) (by rfl) ho2 (some ⟨g,0,none⟩) 0 _ w1.heap.size [] (by rfl) Rs.nil HZ1.out HZ2.out hzmx hzby hsz2 ?_;intro v3 w3 ho3 hgr3 hat3;have hm3:=hm2.grownNew hgr3 (fun g hg=>(ho2.lt g hg).1);have k1f:=(hbxd.mid hm3 oZr).cell 1 rfl))
  go_wp2_with fail;go_ret2;have hf:=HF.out;rw [HDN.out] at hf;rw [hf] at ho3;obtain ⟨A2,c2,rfl, -, -⟩:=owns_shape ho3;have hsz3:=hm3.size;have hOR:=hrowsd.mid hm3 oZl;exact RetMv.mk HE2.out (by have:=HLEN.out;omega) ((OSS.mk' (owns_base ho3 hs1) (hOR.wide (Nat.le_refl _) hsz3 (Nat.le_refl _)) HFD.out).wide hs0 (Nat.le_refl _) (Nat.le_refl _)) (hmdd.trans hm3)
 ·have hal:Mid 0 0 w1.drew (w1.drew.alloc (.cells #[] 44)):=Mid.alloc _ _
  have hoe:=owns_empty w1.drew 44 1;have hbxa:=hbxd.mid hal oZr;have k1a:=hbxa.cell 1 rfl;have hrta:Rs (w1.drew.alloc (.cells #[] 44)) w1.heap.size (some ⟨g,0,none⟩) ((rowsV rows).take n):=hrst.alloc (Nat.le_refl _) _;have hmx1:0+n≤maxLen:=by unfold maxLen;omega
  have hby1:(0+n) * 24≤140737488355328:=by omega
  have hba1:w1.drew.heap.size≤(w1.drew.alloc (.cells #[] 44)).heap.size:=by simp
  have HR:=Lib.hid hrsd;have hbw:w.heap.size < w1.heap.size:=by simp at hs1;omega
  go_wp2_with fail;go_region_held3 (fun w'=>w'.cell? ⟨w.heap.size,1,none⟩=some (.int .i64 n)) (first | exact k1 | exact k1d | exact k1a | exact k1e | exact k1f) (first | (refine step_cat (by rfl) (.tmp 43) (.tmp 47) 24 (by rfl) _ 44 (.slice none 0 0) 1 24 undSSI infoSI rfl (by decide) _ 0 [] (by rfl) hoe (some ⟨g,0,none⟩) n _ w1.heap.size ((rowsV rows).take n) (by rfl) hrta HL1.out HO1.out hmx1 hby1 hba1 ?_;intro v2 w2 ho2 hgr2 hat2;have hm2:=hal.grownNew hgr2 (fun g hg=>(hoe.lt g hg).1);have hbxe:=hbxd.mid hm2 oZr;have k1e:=hbxe.cell 1 rfl;have hrs2:=HR.out.keep (w':=w2) (fun p hp=>World.cell?_of_block (hm2.block p.block hp (Nat.not_lt_zero _ ∘ And.right)));have hsz2:=hm2.size;simp only [Nat.zero_add,List.nil_append] at ho2) | (refine step_cat (by rfl) (.tmp 48) (.tmp 53) 24 (by rfl) _ 44 (.slice none 0 0) 1 24 undSSI infoSI rfl (by decide) v2 n ((rowsV rows).take n) (by rfl) ho2 (some ⟨g,n+1,none⟩) (d.length - (n+1)) _ w1.heap.size ((rowsV rows).drop (n+1)) (by rfl) hrs2 HL2.out HO2.out hbmx hbby hsz2 ?_;intro v3 w3 ho3 hgr3 hat3;have hm3:=hm2.grownNew hgr3 (fun g hg=>(ho2.lt g hg).1);have k1f:=(hbxd.mid hm3 oZr).cell 1 rfl))
  go_wp2_with fail;go_ret2;rw [HF.out] at ho3;obtain ⟨A2,c2,rfl, -, -⟩:=owns_shape ho3;have hsz3:=hm3.size;have hOR:=hrowsd.mid hm3 oZl;exact RetMv.mk HE2.out HLEN.out ((OSS.mk' (owns_base ho3 hs1) (hOR.wide (Nat.le_refl _) hsz3 (Nat.le_refl _)) HFD.out).wide hs0 (Nat.le_refl _) (Nat.le_refl _)) (hmdd.trans hm3)
end
end Go.Proofs.YtkimajabegojoaaGreat
