/- Contracts and lemmas of this seat, many texts in one: see the words ahead of each. No condition beyond those typed in each lemma. -/
import Derived.Test.YthampgpcajmopaaGreatAc8
import Derived.Test.YthampgpcajmopaaGreatAc6
import Derived.Test.YthampgpcajmopaaGreatAc1
import Derived.Test.YthampgpcajmopaaGreatAc3
import Derived.Test.YthampgpcajmopaaGreatAc5
import Derived.Deep.RegionHeld3
import Derived.Test.YthampgpcajmopaaGreatAc4
import Derived.Test.YthampgpcajmopaaGreatAc2
import Derived.Test.YthampgpcajmopaaGreatAc7
import Derived.IntWalk
import Derived.Outline

namespace Go.Proofs.YthampgpcajmopaaGreat
set_option linter.unusedVariables false
set_option linter.unusedSimpArgs false
set_option maxHeartbeats 40000000
set_option maxRecDepth 100000
section
open Go.RowKit
structure Grp (w:World) (lo a b:Nat) (A:Option Addr) (n c:Nat) (rows:List Row) (Aa:Option Addr) (act:List (List Int)):Prop where
 out:w.ownsRow lo 34 1 (.slice A n c) n (rowsV rows)
 rows:OwnRows w b w.heap.size 3 rows
 act:RSS w a b Aa act
 off:∀ g,Value.ownBlock (.slice A n c)=some g→g < a ∨ b≤g
 lob:lo≤b
section
variable {w w':World} {lo a b:Nat} {A:Option Addr} {n c:Nat} {rows:List Row} {Aa:Option Addr} {act:List (List Int)}
theorem Grp.len (h:Grp w lo a b A n c rows Aa act):rows.length=n:=by
 have:=h.out.1;rw [rowsV_len] at this;omega
theorem Grp.mid (h:Grp w lo a b A n c rows Aa act) (m:Mid 0 0 w w'):Grp w' lo a b A n c rows Aa act :=
 ⟨owns_mid h.out m oZl,(h.rows.mid m oZl).wide (Nat.le_refl _) m.size (Nat.le_refl _),h.act.mid m oZl,h.off,h.lob⟩
theorem Grp.rss (h:Grp w lo a b A n c rows Aa act):RSS w lo w.heap.size A (rowsD rows) :=
 (OSS.mk' h.out (h.rows.wide h.lob (Nat.le_refl _) (Nat.le_refl _)) rfl).rss
theorem Grp.row (h:Grp w lo a b A n c rows Aa act) {k:Nat} (hk:k < n) :
  ∃ b off A' c' xs,A=some ⟨b,off,none⟩∧lo≤b∧b < w.heap.size∧(rowsD rows)[k]?=some xs∧w.cell? ⟨b,off+k,none⟩=some (.slice A' xs.length c')∧RV w lo w.heap.size A' (ints xs) :=
 h.rss.row (by rw [rowsD_len,h.len];exact hk)
theorem Grp.push {W:World} {W':World} {A':Option Addr} {c':Nat} {r:Row} (h:Grp w lo a b A n c rows Aa act) (m:Mid 0 0 w W) (hrow:W.ownsRow w.heap.size 3 1 r.v r.xs.length (ints r.xs))
  (h1:W'.ownsRow lo 34 1 (.slice A' (n+1) c') (n+1) (rowsV rows++[r.v])) (h2:W.grownBy W' (Value.ownBlock (.slice A n c))) (h3:Value.ownBlock (.slice A' (n+1) c')=Value.ownBlock (.slice A n c) ∨ Value.ownBlock (.slice A' (n+1) c')=some (W.heap.size+1)) :
  Grp W' lo a b A' (n+1) c' (rows++[r]) Aa act:=by
 have hbs:=h.act.size;have hms:=m.size;have hG:=h.mid m;refine ⟨by rw [rowsV_append];exact h1,?_,?_,?_,h.lob⟩
 ·have k1:=(h.rows.mid m oZl).push (r:=r) (base:=w.heap.size) (hi':=W.heap.size) hrow (Nat.le_refl _) hbs hms (Nat.le_refl _) (fun g hg=>(hrow.lt g hg).2)
  exact (k1.grown hG.out (by decide) h2).wide (Nat.le_refl _) h2.size (Nat.le_refl _)
 ·cases hob:Value.ownBlock (.slice A n c) with
  | none =>
   rw [hob] at h2;exact hG.act.mid (Mid.of_grown (lo:=0) (hi:=0) h2 (by intro g hg;cases hg)) oZl
  | some g =>
   rw [hob] at h2;have:=h.off g hob;exact hG.act.mid (Mid.of_grown (lo:=g) (hi:=g+1) h2 (by intro g' hg;injection hg with hg;omega)) (by omega)
 ·intro g hg
  rcases h3 with h3 | h3
  ·exact h.off g (by rw [← h3];exact hg)
  ·rw [h3] at hg
   injection hg with hg
   omega
end
section
variable {W:World} {ops:Array Oper} {rest:List Oper} {o:Oper} {ac:Act} {Q:Exit→Act→World→Prop}
theorem wpList_pushG {w:World} {lo a b:Nat} {A:Option Addr} {n c:Nat} {rows:List Row} {Aa:Option Addr} {act:List (List Int)} (hgd:o.guard=none) (s x:Operand)
  (ho:o.op=.call { callee:=.builtin .append,args:=#[s,x],argTypes:=#[41,41] }) (hs:ac.eval s=.slice A n c)
  (h:Grp w lo a b A n c rows Aa act) (m:Mid 0 0 w W) (r:Row) (hrow:W.ownsRow w.heap.size 3 1 r.v r.xs.length (ints r.xs)) (hx:ac.eval x=.slice (some ⟨W.heap.size,0,none⟩) 1 1) (hn:n≤1048576)
  (hk:∀ A' c' w',Grp w' lo a b A' (n+1) c' (rows++[r]) Aa act→Mid lo W.heap.size W w'→wpList Tryz.prog ops Q rest (ac.put o.dst (.slice A' (n+1) c')) w') :
  wpList Tryz.prog ops Q (o :: rest) ac (W.alloc (.cells #[r.v] 34)):=by
 have hbs:=h.act.size;have hms:=m.size;have hlo:=h.lob;refine wpList_push (news:=[r.v]) hgd s x 41 ho lo 34 (.slice none 0 0) 1 24 undSSI infoSI rfl (by decide) (.slice A n c) n (rowsV rows) hs (h.mid m).out 1 hx rfl ?_ (by unfold maxLen;omega) (by omega) (by omega) ?_
 ·intro u hu
  simp at hu;subst hu
  rfl
 ·intro v' w' h1 h2 h3
  obtain ⟨A',c',rfl, -, -⟩:=owns_shape h1;exact hk A' c' w' (h.push m hrow h1 h2 h3) (Mid.of_grownRow (h.mid m).out h2)
end
open Classical in
noncomputable def grpI (r s:Int) (es:List Ed):List (List Int):=if IsFin r s es then grpRun (actL s.toNat es r.toNat) 201 0 [upto s.toNat] else []
theorem grpI_yes {r n:Nat} {es:List Ed} (h:IsFin r n es):grpI r n es=grpRun (actL n es r) 201 0 [upto n]:=by
 rw [grpI,if_pos h]
 rfl
theorem grpI_no {r s:Int} {es:List Ed} (h:¬ IsFin r s es):grpI r s es=[]:=if_neg h
theorem grpI_len (r s:Int) (es:List Ed):(grpI r s es).length≤200:=by
 unfold grpI;split
 ·exact grpRun_len _ _ _ (by simp)
 ·simp
theorem sumL_le {m:Nat}:∀ (l:List (List Int)),(∀ x∈l,x.length≤m)→sumL l≤l.length * m
 | [],_=>by simp [sumL]
 | x :: t,h=>by
  have h1:=sumL_le t fun y hy=>h y (by simp [hy]);have h2:=h x (by simp);have h3:sumL (x :: t)=x.length+sumL t:=by simp [sumL]
  rw [h3,List.length_cons,Nat.succ_mul];omega
theorem grpI_sum (r s:Int) (es:List Ed):sumL (grpI r s es)≤8000:=by
 have h1:=grpI_len r s es;have h2:∀ x∈grpI r s es,x.length≤40:=by
  unfold grpI;split
  ·rename_i h
   have hs:=h.cor.gr.size;exact grpRun_all (Nat.le_refl _) _ _ _ fun x hx=>by simp at hx;rw [hx,upto_len];omega
  ·simp
 have h3:=sumL_le _ h2;have h4:(grpI r s es).length * 40≤200 * 40:=Nat.mul_le_mul_right _ h1;omega
end
section
open Go.RowKit
section
variable {P:Program} (w:World)
end
section
variable {W:World} {ops:Array Oper} {rest:List Oper} {o:Oper} {a:Act} {Q:Exit→Act→World→Prop}
end
section
variable {W:World} {ops:Array Oper} {rest:List Oper} {o:Oper} {ac:Act} {Q:Exit→Act→World→Prop}
end
end
section
def oneW (f:List Int→Int→Bool) (L:List Int) (w:List Int):List (List Int):=(L.filter (f w)).map fun x=>w++[x]
def layStep (f:List Int→Int→Bool) (L:List Int) (l:List (List Int)):List (List Int):=l.flatMap (oneW f L)
def lay (f:List Int→Int→Bool) (L:List Int):Nat→List (List Int)
 | 0=>[[]]
 | n+1=>layStep f L (lay f L n)
section
variable {f:List Int→Int→Bool} {L:List Int}
end
end
section
open Go.RowKit
end
section
open Go.RowKit
def halfN (xs:List Int):Nat:=(xs.length+1) / 2
def halfA (xs:List Int):List Int:=xs.take (halfN xs)
def halfB (xs:List Int):List Int:=(invW xs).take (halfN xs)
def halves (xs:List Int):List Int × List Int:=if 0 < cmpW (halfA xs) (halfB xs) then (halfB xs,halfA xs) else (halfA xs,halfB xs)
end
section
open Go.RowKit
end
section
open Go.RowKit
end
section
open Go.RowKit
def WordsTo (rk:Int) (d:List (List Int)) (k:Nat):Prop:=∀ j xs,j < k→d[j]?=some xs→IsW rk xs
theorem WordsTo.zero (rk:Int) (d:List (List Int)):WordsTo rk d 0:=fun j x h=>absurd h (Nat.not_lt_zero j)
theorem WordsTo.succ {rk:Int} {d:List (List Int)} {k:Nat} {x:List Int} (h:WordsTo rk d k) (hx:d[k]?=some x) (hl:IsW rk x):WordsTo rk d (k+1):=by
 intro j z hj hz;rcases Nat.lt_or_eq_of_le (Nat.le_of_lt_succ hj) with h1 | rfl
 ·exact h j z h1 hz
 ·rw [hx] at hz
  obtain rfl:=Option.some.inj hz;exact hl
theorem wordsTo_all {rk:Int} {d:List (List Int)}:WordsTo rk d d.length↔∀ xs∈d,IsW rk xs:=by
 constructor
 ·intro h x hx
  obtain ⟨j,hj⟩:=List.mem_iff_getElem?.1 hx;exact h j x (List.getElem?_eq_some_iff.1 hj).1 hj
 ·exact fun h j x _ hx=>h x (List.mem_of_getElem? hx)
theorem bool_ofR (p:Prop):∃ r:Bool,r=true↔p:=by
 by_cases h:p
 ·exact ⟨true,by simp [h]⟩
 ·exact ⟨false,by simp [h]⟩
theorem row_le {d:List (List Int)} {xs:List Int} (h:xs∈d) (hl:d.length+sumL d≤1048576):xs.length≤4194304:=by
 have:=len_le_sumL h;omega
end
section
open Go.RowKit
def PrOut (w wr:World) (v:Value) (out:List Int):Prop:=wr.ownsRow w.heap.size 3 1 v out.length (ints out)∧Below w.heap.size w wr
theorem impl_product (A:Option Addr) (d:List (List Int)) (c:Nat) (w:World) (lo hi:Nat) (hr:RSS w lo hi A d) (hok:∀ xs∈d,OkI xs) (hl:d.length≤4194304) (hs:sumL d≤268435456) :
  Calls Tryz.prog 122 #[.slice A d.length c] w fun e w'=>RetI 3 (red [] d.flatten) w e w':=by
 have HOK:=Lib.hid hok;clear hok;have hb0:=(Below.refl w.heap.size w).alloc (Nat.le_refl _) (.cells #[] 3);have ho0:=owns_empty w 3 1;go_enter Tryz.func122,Tryz.ntmps122
 go_wp2_with fail;go_loopw [3,5,7,11] (fun v _ _ i wr=>∃ k:Nat,k≤d.length∧i=.int .i64 k∧PrOut w wr v (red [] (d.take k).flatten)) (fun _ _ _ i _=>d.length - (intOf i).toNat)
 case atStart=>exact ⟨0,Nat.zero_le _,rfl,by simpa [red,ints] using ho0,hb0⟩
 case round =>
  obtain ⟨k,hk,rfl,hown,hb⟩:=hrel;by_cases hlt:k < d.length
  ·obtain ⟨b,off,A',c',xs,rfl, -,hbh,hx,hc,hrx⟩:=hr.row hlt
   have hhi:=hr.size;have hcw:wr.cell? ⟨b,off+k,none⟩=some (.slice A' xs.length c'):=(hb.cell (by simp;omega)).trans hc;have hm:=List.mem_of_getElem? hx;have hox:=HOK.out xs hm;have hlx:=len_le_sumL hm;have hlx1:xs.length≤268435456:=by omega
   obtain ⟨out0,hout0⟩:∃ o,o=red [] (d.take k).flatten:=⟨_,rfl⟩
   have hstep:=red_flatten_step d hx;rw [← hout0] at hown hstep;have hok0:OkI out0:=by
    rw [hout0];exact red_ok (okI_flatten fun ys hy=>HOK.out ys (List.mem_of_mem_take hy))
   have hl0:out0.length+xs.length≤268435456:=by
    have h1:=red_nil_len (d.take k).flatten;rw [← hout0,sumL_flatten] at h1;have h2:=sumL_take_succ hx;have h3:=sumL_take_le d (k+1);omega
   have HX:=Lib.hid hx;have HS:=Lib.hid hstep;have HO0:=Lib.hid hok0;have HOX:=Lib.hid hox;clear hx hm hox hout0 hstep hok0 hlx;go_wp2_with fail;go_loopw [3,7,17] (fun v _ j wr2=>∃ l:Nat,l≤xs.length∧j=.int .i64 l∧PrOut w wr2 v (red out0 (xs.take l))) (fun _ _ j _=>xs.length - (intOf j).toNat)
   case atStart=>exact ⟨0,Nat.zero_le _,rfl,hown,hb⟩
   case round =>
    clear hown hb hcw;obtain ⟨l,hlk,rfl,hown,hb⟩:=hrel;have hsz:=hb.size;by_cases hl2:l < xs.length
    ·obtain ⟨b',off',x,rfl, -,hxx,hcx⟩:=((hrx.rs.more hhi).below hb).int hl2
     have hst:=red_step xs hxx out0;have hbx:=HOX.out x (List.mem_of_getElem? hxx);have hlen:=red_len out0 (xs.take l);rw [List.length_take] at hlen;obtain ⟨out1,ho1⟩:∃ o,o=red out0 (xs.take l):=⟨_,rfl⟩
     rw [← ho1] at hown hst hlen;have hok1:OkI out1:=fun y hy=>by
      rw [ho1] at hy;rcases red_mem hy with h1 | h1
      ·exact HO0.out y h1
      ·exact HOX.out y (List.mem_of_mem_take h1)
     clear ho1 hxx;have HST:=Lib.hid hst;have HBX:=Lib.hid hbx;clear hst hbx;rcases Nat.eq_zero_or_pos out1.length with he | hp
     ·obtain rfl:=List.eq_nil_of_length_eq_zero he
      clear he hok1 hlen;obtain ⟨A1,c1,rfl, -, -⟩:=owns_shape hown;go_wp2_with (at_builtin;refine wpList_push rfl _ _ 34 rfl w.heap.size 3 (.int .i64 0) 1 8 undSI infoI rfl (by decide) _ _ _ rfl hown 1 [.int .i64 x] rfl rfl (one_of_ints [x]) (by unfold maxLen;simp) (by simp) hsz ?n1)
      case n1 =>
       intro v' w1 hown1 hgr _;go_wp2_with fail;go_roundw
       case rel =>
        refine ⟨l+1,by omega,by go_num,?_,hb.grown hgr hsz (fun g hg=>(hown.lt g hg).1)⟩;rw [HST.out,redStep_empty];exact hown1
       case measure=>simp [intOf];omega
     ·obtain ⟨ys,a,rfl⟩:=eq_concat out1 hp
      have hba:=hok1 a (by simp);rw [List.length_append] at hown hlen;simp only [List.length_cons,List.length_nil,Nat.zero_add] at hown hlen;clear hp hok1;obtain ⟨A1,c1,rfl,hnc, -⟩:=owns_shape hown;obtain ⟨g,rfl, -, -⟩:=owns_addr hown (Nat.succ_pos _);have hca:wr.cell? ⟨g,ys.length,none⟩=some (.int .i64 a):=by
       rw [hown.cellAt ys.length (by omega)];simp [ints]
      have HA:=Lib.hid hba;obtain ⟨ha1,ha2⟩:=hba;by_cases hI:invB a x=true
      ·have HI:=Lib.hid hI
       clear hI;have hys:ys.length≤c1:=by omega
       go_wp2_with fail;refine (impl_areInverse _ _ _ ha1 ha2).mono ?_;rintro e w' ⟨rfl,rfl⟩;rw [HI.out];go_wp2_with fail;go_roundw
       case rel =>
        refine ⟨l+1,by omega,by go_num,?_,hb⟩;rw [HST.out,redStep_pop HI.out];have h1:=owns_cut hown (Nat.le_succ ys.length);rw [Nat.mul_one,ints_append,List.take_left' (ints_len ys)] at h1;exact h1
       case measure=>simp [intOf];omega
      ·have hI':invB a x=false:=by simpa using hI
       have HI:=Lib.hid hI';clear hI hI';go_wp2_with fail;refine (impl_areInverse _ _ _ ha1 ha2).mono ?_;rintro e w' ⟨rfl,rfl⟩;rw [HI.out];go_wp2_with (at_builtin;refine wpList_push rfl _ _ 34 rfl w.heap.size 3 (.int .i64 0) 1 8 undSI infoI rfl (by decide) _ _ _ rfl hown 1 [.int .i64 x] rfl rfl (one_of_ints [x]) (by unfold maxLen;omega) (by omega) hsz ?n2)
       case n2 =>
        intro v' w1 hown1 hgr _;go_wp2_with fail;go_roundw
        case rel =>
         refine ⟨l+1,by omega,by go_num,?_,hb.grown hgr hsz (fun g hg=>(hown.lt g hg).1)⟩;rw [HST.out,redStep_push HI.out,ints_append,List.length_append,List.length_append];exact hown1
        case measure=>simp [intOf];omega
    ·obtain rfl:l=xs.length:=by omega
     rw [List.take_length] at hown;go_wp2_with fail;go_roundw
     case rel =>
      refine ⟨k+1,by omega,by go_num,?_,hb⟩;rw [HS.out];exact hown
     case measure=>simp [intOf];omega
  ·obtain rfl:k=d.length:=by omega
   rw [List.take_length] at hown;go_wp2_with fail;go_ret;exact RetI.mk rfl hown hb
end
section
open Go.RowKit
end
section
open Go.RowKit
end
section
open Go.RowKit
section
variable {W:World} {ops:Array Oper} {rest:List Oper} {o:Oper} {ac:Act} {Q:Exit→Act→World→Prop}
end
theorem RetI.get {eI:TypeId} {xs:List Int} {w w':World} {e:Ending} (h:RetI eI xs w e w'):∃ A c,e=.returned (.slice A xs.length c)∧w'.ownsRow w.heap.size eI 1 (.slice A xs.length c) xs.length (ints xs)∧Mid 0 0 w w':=by
 obtain ⟨A,c,h1,h2,h3⟩:=h;exact ⟨A,c,h1,h2,Mid.of_below h3⟩
end
section
open Go.RowKit
abbrev obS (A:Option Addr) (n c:Nat):Option Nat:=Value.ownBlock (.slice A n c)
structure Own1 (w:World) (lo:Nat) (A:Option Addr) (n c:Nat) (rows:List Row):Prop where
 out:w.ownsRow lo 34 1 (.slice A n c) n (rowsV rows)
 rows:OwnRows w lo w.heap.size 3 rows
section
variable {w w':World} {lo:Nat} {A A2:Option Addr} {n c n2 c2:Nat} {rows rows2:List Row}
theorem Own1.oss (h:Own1 w lo A n c rows) {xss:List (List Int)} (hd:rowsD rows=xss):OSS w lo w.heap.size 34 3 A c xss:=OSS.mk' h.out h.rows hd
end
theorem Own1.empty (w:World):Own1 (w.alloc (.cells #[] 34)) w.heap.size (some ⟨w.heap.size,0,none⟩) 0 0 []:=⟨owns_empty w 34 1,OwnRows.nil⟩
section
variable {W:World} {ops:Array Oper} {rest:List Oper} {o:Oper} {ac:Act} {Q:Exit→Act→World→Prop}
end
end
section
open Go.RowKit
end
section
open Go.RowKit
end
section
open Go.RowKit
end
section
open Go.RowKit
end
section
open Go.RowKit
end
section
open Go.RowKit
structure Mv where
 kind:Int
 i:Int
 j:Int
 sign:Int
deriving DecidableEq
def MvOk (l:List (List Int)) (m:Mv):Prop:=0≤m.j∧m.j < l.length∧m.j≠m.i∧(m.sign=1 ∨ m.sign = -1)
instance (l:List (List Int)) (m:Mv):Decidable (MvOk l m):=by unfold MvOk;infer_instance
theorem okI_app {xs ys:List Int} (h:OkI xs) (h':OkI ys):OkI (xs++ys):=fun x hx=>by
 rcases List.mem_append.1 hx with h1 | h1
 ·exact h x h1
 ·exact h' x h1
end
section
open Go.RowKit
theorem spec_MultiplyWords (A A':Option Addr) (xs ys:List Int) (c c':Nat) (w:World) (hr:Rs w w.heap.size A (ints xs)) (hr':Rs w w.heap.size A' (ints ys)) (hok:OkI xs) (hok':OkI ys) (hl:xs.length+ys.length≤268435456) :
  Calls Tryz.prog 76 #[.slice A xs.length c,.slice A' ys.length c'] w fun e w'=>RetI 3 (red [] (xs++ys)) w e w':=by
 have hoe:=owns_empty w 3 1;have hb0:Below w.heap.size w (w.alloc (.cells #[] 3)):=(Below.refl w.heap.size w).alloc (Nat.le_refl _) _;have hra:Rs (w.alloc (.cells #[] 3)) w.heap.size A (ints xs):=hr.alloc (Nat.le_refl _) _;have hla:(ints xs).length=xs.length * 1:=by rw [ints_len];omega
 have hlb:(ints ys).length=ys.length * 1:=by rw [ints_len];omega
 have hoo:=Lib.hid (okI_app hok hok');go_enter Tryz.func76,Tryz.ntmps76
 go_wp2_with (at_builtin;refine wpList_cat rfl (.tmp 5) (.tmp 6) 34 rfl w.heap.size 3 (.int .i64 0) 1 8 undSI infoI rfl (by decide) _ _ _ rfl hoe A xs.length c w.heap.size (ints xs) rfl hra hla (one_of_ints _) ?c4 ?c5 ?c6 ?next)
 case c4=>unfold maxLen;omega
 case c5=>omega
 case c6=>simp
 case next =>
  intro v2 w2 ho2 hgr2 _;try rw [Nat.zero_add,List.nil_append] at ho2
  have hb2:Below w.heap.size w w2:=hb0.grown hgr2 (by simp) (fun g hg=>(hoe.lt g hg).1);have hrb:Rs w2 w.heap.size A' (ints ys):=hr'.below hb2;have hs2:=hb2.size;go_wp2_with (at_builtin;refine wpList_cat rfl (.tmp 7) (.tmp 8) 34 rfl w.heap.size 3 (.int .i64 0) 1 8 undSI infoI rfl (by decide) _ _ _ rfl ho2 A' ys.length c' w.heap.size (ints ys) rfl hrb hlb (one_of_ints _) ?d4 ?d5 ?d6 ?next2)
  case d4=>unfold maxLen;omega
  case d5=>omega
  case d6=>omega
  case next2 =>
   intro v3 w3 ho3 hgr3 _;have hb3:Below w.heap.size w w3:=hb2.grown hgr3 hs2 (fun g hg=>(ho2.lt g hg).1);rw [← ints_append,← List.length_append] at ho3;have hlz:(xs++ys).length≤268435456:=by rw [List.length_append];exact hl
   obtain ⟨zs,hzs⟩:∃ zs,zs=xs++ys:=⟨_,rfl⟩
   rw [← hzs] at ho3 hoo hlz;have HZ:=Lib.hid hzs;clear hzs;obtain ⟨A3,c3,rfl, -, -⟩:=owns_shape ho3;go_wp2_with fail;refine (spec_ReduceLetters A3 zs c3 w3 w3.heap.size (Rs.of_own ho3) (Nat.le_refl _) hoo.out hlz).mono ?_;rintro e w4 ⟨A4,c4,rfl,ho4,hb4⟩;go_wp2_with fail;go_ret;obtain rfl:=HZ.out;exact ⟨A4,c4,rfl,owns_base ho4 hb3.size,hb3.trans (hb4.mono hb3.size)⟩
end
end Go.Proofs.YthampgpcajmopaaGreat
