/- Contracts and lemmas of this seat, many texts in one: see the words ahead of each. No condition beyond those typed in each lemma. -/
import Derived.Test.YthampgpcajmopaaGreatCj7
import Derived.Test.YthampgpcajmopaaGreatCj3
import Derived.Test.YthampgpcajmopaaGreatCj6
import Derived.Test.YthampgpcajmopaaGreatCj5
import Derived.Test.YthampgpcajmopaaGreatCj1
import Derived.Test.YthampgpcajmopaaGreatCj4
import Derived.Test.YthampgpcajmopaaGreatCj2

namespace Go.Proofs.YthampgpcajmopaaGreat
set_option linter.unusedVariables false
set_option linter.unusedSimpArgs false
set_option maxHeartbeats 40000000
set_option maxRecDepth 100000
section
open Go.RowKit
end
section
open Go.RowKit
end
section
open Go.RowKit
end
section
open Go.RowKit
end
section
open Go.RowKit
end
section
open Go.RowKit
end
section
open Go.RowKit
noncomputable def dropI (r s:Int) (es:List Ed) (r' s':Int) (es':List Ed) (rr rs:Int) (res:List Ed) (b:Bool):Int:=if b=true then rankI r s es+rankI r' s' es' - rankI rr rs res else -1
end
section
open Go.RowKit
def MarkerX (P:Prop):Prop:=P
theorem MarkerX.to {P:Prop} (h:MarkerX P):P:=h
end
section
open Go.RowKit
end
section
open Go.RowKit
end
section
open Go.RowKit
end
section
open Go.RowKit
section
variable {w w':World} {lo a b:Nat} {A:Option Addr} {n c:Nat} {rows:List Row} {Aa:Option Addr} {act:List (List Int)}
end
section
variable {W:World} {ops:Array Oper} {rest:List Oper} {o:Oper} {ac:Act} {Q:Exit→Act→World→Prop}
end
end
section
open Go.RowKit
section
variable {P:Program} (w:World)
end
section
variable {W:World} {ops:Array Oper} {rest:List Oper} {o:Oper} {a:Act} {Q:Exit→Act→World→Prop}
end
section
variable {W:World} {ops:Array Oper} {rest:List Oper} {o:Oper} {ac:Act} {Q:Exit→Act→World→Prop}
end
end
section
def oneW (f:List Int→Int→Bool) (L:List Int) (w:List Int):List (List Int):=(L.filter (f w)).map fun x=>w++[x]
def layStep (f:List Int→Int→Bool) (L:List Int) (l:List (List Int)):List (List Int):=l.flatMap (oneW f L)
def lay (f:List Int→Int→Bool) (L:List Int):Nat→List (List Int)
 | 0=>[[]]
 | n+1=>layStep f L (lay f L n)
section
variable {f:List Int→Int→Bool} {L:List Int}
end
end
section
open Go.RowKit
end
section
open Go.RowKit
def WordsTo (rk:Int) (d:List (List Int)) (k:Nat):Prop:=∀ j xs,j < k→d[j]?=some xs→IsW rk xs
theorem WordsTo.zero (rk:Int) (d:List (List Int)):WordsTo rk d 0:=fun j x h=>absurd h (Nat.not_lt_zero j)
theorem WordsTo.succ {rk:Int} {d:List (List Int)} {k:Nat} {x:List Int} (h:WordsTo rk d k) (hx:d[k]?=some x) (hl:IsW rk x):WordsTo rk d (k+1):=by
 intro j z hj hz;rcases Nat.lt_or_eq_of_le (Nat.le_of_lt_succ hj) with h1 | rfl
 ·exact h j z h1 hz
 ·rw [hx] at hz
  obtain rfl:=Option.some.inj hz;exact hl
theorem wordsTo_all {rk:Int} {d:List (List Int)}:WordsTo rk d d.length↔∀ xs∈d,IsW rk xs:=by
 constructor
 ·intro h x hx
  obtain ⟨j,hj⟩:=List.mem_iff_getElem?.1 hx;exact h j x (List.getElem?_eq_some_iff.1 hj).1 hj
 ·exact fun h j x _ hx=>h x (List.mem_of_getElem? hx)
theorem bool_ofR (p:Prop):∃ r:Bool,r=true↔p:=by
 by_cases h:p
 ·exact ⟨true,by simp [h]⟩
 ·exact ⟨false,by simp [h]⟩
theorem row_le {d:List (List Int)} {xs:List Int} (h:xs∈d) (hl:d.length+sumL d≤1048576):xs.length≤4194304:=by
 have:=len_le_sumL h;omega
end
section
open Go.RowKit
end
section
open Go.RowKit
end
section
open Go.RowKit
section
variable {W:World} {ops:Array Oper} {rest:List Oper} {o:Oper} {ac:Act} {Q:Exit→Act→World→Prop}
end
theorem RetI.get {eI:TypeId} {xs:List Int} {w w':World} {e:Ending} (h:RetI eI xs w e w'):∃ A c,e=.returned (.slice A xs.length c)∧w'.ownsRow w.heap.size eI 1 (.slice A xs.length c) xs.length (ints xs)∧Mid 0 0 w w':=by
 obtain ⟨A,c,h1,h2,h3⟩:=h;exact ⟨A,c,h1,h2,Mid.of_below h3⟩
end
section
open Go.RowKit
abbrev obS (A:Option Addr) (n c:Nat):Option Nat:=Value.ownBlock (.slice A n c)
structure Own1 (w:World) (lo:Nat) (A:Option Addr) (n c:Nat) (rows:List Row):Prop where
 out:w.ownsRow lo 34 1 (.slice A n c) n (rowsV rows)
 rows:OwnRows w lo w.heap.size 3 rows
section
variable {w w':World} {lo:Nat} {A A2:Option Addr} {n c n2 c2:Nat} {rows rows2:List Row}
theorem Own1.mid (h:Own1 w lo A n c rows) (m:Mid 0 0 w w'):Own1 w' lo A n c rows :=
 ⟨owns_mid h.out m oZl,(h.rows.mid m oZl).wide (Nat.le_refl _) m.size (Nat.le_refl _)⟩
theorem Own1.lt (h:Own1 w lo A n c rows) {g:Nat} (hg:obS A n c=some g):lo≤g∧g < w.heap.size:=h.out.lt g hg
theorem Own1.oss (h:Own1 w lo A n c rows) {xss:List (List Int)} (hd:rowsD rows=xss):OSS w lo w.heap.size 34 3 A c xss:=OSS.mk' h.out h.rows hd
theorem Own1.base {lo':Nat} (h:Own1 w lo A n c rows) (hl:lo'≤lo):Own1 w lo' A n c rows:=⟨owns_base h.out hl,h.rows.wide hl (Nat.le_refl _) (Nat.le_refl _)⟩
theorem Own1.push {W W':World} {A':Option Addr} {c':Nat} {r:Row} (h:Own1 w lo A n c rows) (m:Mid 0 0 w W) (hl:lo≤w.heap.size) (hrow:W.ownsRow w.heap.size 3 1 r.v r.xs.length (ints r.xs))
  (h1:W'.ownsRow lo 34 1 (.slice A' (n+1) c') (n+1) (rowsV rows++[r.v])) (h2:W.grownBy W' (obS A n c)):Own1 W' lo A' (n+1) c' (rows++[r]):=by
 refine ⟨by rw [rowsV_append];exact h1,?_⟩;have k1:=(h.rows.mid m oZl).push (r:=r) (base:=w.heap.size) (hi':=W.heap.size) hrow (Nat.le_refl _) hl m.size (Nat.le_refl _) (fun g hg=>(hrow.lt g hg).2);exact (k1.grown (h.mid m).out (by decide) h2).wide (Nat.le_refl _) h2.size (Nat.le_refl _)
end
theorem Own1.empty (w:World):Own1 (w.alloc (.cells #[] 34)) w.heap.size (some ⟨w.heap.size,0,none⟩) 0 0 []:=⟨owns_empty w 34 1,OwnRows.nil⟩
theorem rs_one {w:World} {p:Nat} {v:Value} (h:w.cell? ⟨p,0,none⟩=some v):Rs w (p+1) (some ⟨p,0,none⟩) [v]:=fun _=>⟨p,0,rfl,Nat.lt_succ_self _,fun j u hu=>by
 rcases j with _ | j
 ·rw [← hu];exact h
 ·simp at hu⟩
theorem cell_grown {w w':World} {row:Option Nat} {b i:Nat} {v:Value} (hg:w.grownBy w' row) (hb:b < w.heap.size) (hn:some b≠row) (h:w.cell? ⟨b,i,none⟩=some v):w'.cell? ⟨b,i,none⟩=some v :=
 (World.cell?_of_block (hg.block b hb hn)).trans h
theorem own_ne {b g n c:Nat} (h:b≠g):some b≠Value.ownBlock (.slice (some ⟨g,0,none⟩) n c):=fun e=>by
 have e':some b=some g:=e;injection e' with e'
 exact h e'
section
variable {W:World} {ops:Array Oper} {rest:List Oper} {o:Oper} {ac:Act} {Q:Exit→Act→World→Prop}
theorem wpList_push1 {w:World} {lo:Nat} {A:Option Addr} {n c:Nat} {rows:List Row} (hgd:o.guard=none) (s x:Operand)
  (ho:o.op=.call { callee:=.builtin .append,args:=#[s,x],argTypes:=#[41,41] }) (hs:ac.eval s=.slice A n c)
  (h:Own1 w lo A n c rows) (m:Mid 0 0 w W) (r:Row) (u:Value) (hu:r.v=u) (hrow:W.ownsRow w.heap.size 3 1 r.v r.xs.length (ints r.xs)) (hx:ac.eval x=.slice (some ⟨W.heap.size,0,none⟩) 1 1) (hn:n≤1048576) (hb:lo≤w.heap.size)
  (hk:∀ A' c' w',Own1 w' lo A' (n+1) c' (rows++[r])→W.grownBy w' (obS A n c)→(obS A' (n+1) c'=obS A n c ∨ obS A' (n+1) c'=some (W.heap.size+1))→wpList Tryz.prog ops Q rest (ac.put o.dst (.slice A' (n+1) c')) w') :
  wpList Tryz.prog ops Q (o :: rest) ac (W.alloc (.cells #[u] 34)):=by
 subst hu;have hms:=m.size;refine wpList_push (news:=[r.v]) hgd s x 41 ho lo 34 (.slice none 0 0) 1 24 undSSI infoSI rfl (by decide) (.slice A n c) n (rowsV rows) hs (h.mid m).out 1 hx rfl ?_ (by unfold maxLen;omega) (by omega) (by omega) ?_
 ·intro u hu
  simp at hu;subst hu
  rfl
 ·intro v' w' h1 h2 h3
  obtain ⟨A',c',rfl, -, -⟩:=owns_shape h1;exact hk A' c' w' (h.push m hb hrow h1 h2) h2 h3
end
end
end Go.Proofs.YthampgpcajmopaaGreat
