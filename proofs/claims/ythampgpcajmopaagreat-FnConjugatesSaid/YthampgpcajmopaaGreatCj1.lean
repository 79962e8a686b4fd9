/- Contracts and lemmas of this seat, many texts in one: see the words ahead of each. No condition beyond those typed in each lemma. -/
import Derived.WalkKit
import Derived.WalkSpells
import Derived.WalkLawsBesides
import Derived.Maps.AppendAt
import Derived.Lib.Hide
import Derived.Deep.Draws
import Derived.Deep.QuietTactic
import Derived.BigQuiet
import Derived.Test.YthampgpcajmopaaGreatRows
import Derived.Deep.RegionHeld3
import Derived.Deep.Matrix
import Derived.Lib.SmallJoins
import Derived.ProofKit
import Derived.OpenShut
import Derived.ShutString
import Derived.ChangeOld
import Derived.Deep.AppendLies
import Derived.RegionTactic
import Derived.IntWalk
import Derived.Outline

namespace Go.Proofs.YthampgpcajmopaaGreat
set_option linter.unusedVariables false
set_option linter.unusedSimpArgs false
set_option maxHeartbeats 40000000
set_option maxRecDepth 100000
theorem oZr {p:Prop} {n:Nat}:p ∨ 0≤n:=Or.inr (Nat.zero_le _)
theorem oZl {p:Prop} {n:Nat}:0≤n ∨ p:=Or.inl (Nat.zero_le _)
theorem zs1 {α:Type _} (l:List α) (i:Nat) (a:α):l.toArray.setIfInBounds i a=(l.set i a).toArray:=List.setIfInBounds_toArray l i a
theorem zs2 {α:Type _} {x:α} {xs:List α} {a:α}:(x :: xs).set 0 a=a :: xs:=List.set_cons_zero
theorem zs3 {α:Type _} {x:α} {xs:List α} {i:Nat} {a:α}:(x :: xs).set (i+1) a=x :: xs.set i a:=List.set_cons_succ
theorem zs4 {α:Type _} {xs:List α} {i:Nat} (h:i < xs.toArray.size):xs.toArray[i]=xs[i]'(by simpa using h):=List.getElem_toArray h
theorem zs5 {α:Type _} (a:α) (xs:List α) (h:0 < (a :: xs).length):(a :: xs)[0]=a:=List.getElem_cons_zero a xs h
theorem zs6 {α:Type _} (a:α) (xs:List α) (i:Nat) (h:i+1 < (a :: xs).length):(a :: xs)[i+1]=xs[i]'(Nat.lt_of_succ_lt_succ h):=List.getElem_cons_succ a xs i h
section
open Go.RowKit
def ints (xs:List Int):List Value:=xs.map (Value.int .i64)
theorem ints_len (xs:List Int):(ints xs).length=xs.length:=by simp [ints]
theorem ints_append (xs ys:List Int):ints (xs++ys)=ints xs++ints ys:=by simp [ints]
theorem ints_get (xs:List Int) (k:Nat):(ints xs)[k]?=(xs[k]?).map (Value.int .i64):=by simp [ints]
def Rs (w:World) (B:Nat) (A:Option Addr) (cs:List Value):Prop :=
 cs≠[]→∃ b off,A=some ⟨b,off,none⟩∧b < B∧∀ j u,cs[j]?=some u→w.cell? ⟨b,off+j,none⟩=some u
section
variable {w w' w0:World} {B B':Nat} {A:Option Addr} {cs:List Value}
theorem Rs.keep (h:Rs w B A cs) (hk:∀ p:Addr,p.block < B→w'.cell? p=w.cell? p):Rs w' B A cs:=fun hn=>by
 obtain ⟨b,off,e,hb,hc⟩:=h hn;exact ⟨b,off,e,hb,fun j u hu=>(hk _ hb).trans (hc j u hu)⟩
theorem Rs.more (h:Rs w B A cs) (hB:B≤B'):Rs w B' A cs:=fun hn=>by
 obtain ⟨b,off,e,hb,hc⟩:=h hn;exact ⟨b,off,e,by omega,hc⟩
theorem Rs.below (h:Rs w B A cs) (hb:Below B w w'):Rs w' B A cs:=h.keep fun _ hp=>hb.cell hp
theorem Rs.drewN (h:Rs w B A cs) (k:Nat):Rs (w.drewN k) B A cs:=h
theorem Rs.alloc (h:Rs w B A cs) (hB:B≤w.heap.size) (o:Obj):Rs (w.alloc o) B A cs:=h.keep fun p hp=>World.cell?_alloc_lt w o p (by omega)
theorem Rs.of_own {base:Nat} {e:TypeId} {size n c:Nat} (h:w.ownsRow base e size (.slice A n c) n cs):Rs w w.heap.size A cs:=fun hn=>by
 rcases h.2 with ⟨hv,h0⟩ | ⟨g,cap,cur,hv,hg,hh,hnc,hcm,hcs,htake⟩
 ·subst h0
  exact absurd (List.eq_nil_of_length_eq_zero (by simpa using h.1)) hn
 ·injection hv with hA _ hc
  subst hA;subst hc;refine ⟨g,0,rfl,(Array.getElem?_eq_some_iff.1 hh).1,fun j u hu=>?_⟩;rw [Nat.zero_add];have hjl:=(List.getElem?_eq_some_iff.1 hu).1;rw [h.cellAt j (by have:=h.1;omega)];exact hu
theorem Rs.at (h:Rs w B A cs) {j:Nat} (hj:j < cs.length):∃ b off u,A=some ⟨b,off,none⟩∧b < B∧cs[j]?=some u∧w.cell? ⟨b,off+j,none⟩=some u:=by
 obtain ⟨b,off,e,hb,hc⟩:=h (by intro h0;subst h0;simp at hj);exact ⟨b,off,cs[j],e,hb,List.getElem?_eq_getElem hj,hc j _ (List.getElem?_eq_getElem hj)⟩
theorem Rs.drop (h:Rs w B A cs) {k n cap:Nat} (size:Nat) (hn:cs.length=n * size) (hc:n≤cap) :
  Rs w B (if cap=k then A else A.map (·.add (k * size))) (cs.drop (k * size)):=by
 intro hne;have hlt:k * size < cs.length:=by
  rcases Nat.lt_or_ge (k * size) cs.length with h1 | h1
  ·exact h1
  ·exact absurd (List.drop_eq_nil_of_le h1) hne
 obtain ⟨b,off,rfl,hb,hcell⟩:=h (by intro h0;subst h0;simp at hlt);have hk:¬ cap=k:=by
  intro e;subst e;rw [hn] at hlt;exact absurd (Nat.lt_of_mul_lt_mul_right hlt) (by omega)
 rw [if_neg hk];refine ⟨b,off+k * size,?_,hb,fun j u hu=>?_⟩
 ·simp [Addr.add]
 ·rw [Nat.add_assoc]
  exact hcell _ u (by rw [← hu,List.getElem?_drop])
theorem Rs.take (h:Rs w B A cs) (k:Nat):Rs w B A (cs.take k):=fun hne=>by
 obtain ⟨b,off,e,hb,hc⟩:=h (by intro h0;subst h0;simp at hne);refine ⟨b,off,e,hb,fun j u hu=>hc j u ?_⟩;rw [List.getElem?_take] at hu;split at hu
 ·exact hu
 ·cases hu
end
theorem below_of_grown {w w':World} {row:Option Nat} (hg:w.grownBy w' row) {B:Nat} (hB:B≤w.heap.size) (hr:∀ g,row=some g→B≤g):Below B w w' :=
 (Below.refl B w).grown hg hB hr
theorem below_none {w w':World} (hg:w.grownBy w' none):Below w.heap.size w w':=below_of_grown hg (Nat.le_refl _) (by intro g h;cases h)
theorem below_drewN {B:Nat} {a w:World} (h:Below B a w) (n:Nat):Below B a (w.drewN n):=⟨h.os,h.tape,h.output,h.size,h.block⟩
theorem grown_trans {a b c:World} {row:Option Nat} (h:a.grownBy b row) (k:b.grownBy c row):a.grownBy c row :=
 ⟨k.os.trans h.os,k.tape.trans h.tape,k.output.trans h.output,Nat.le_trans h.size k.size,
  fun i hi hn=>(k.block i (Nat.lt_of_lt_of_le hi h.size) hn).trans (h.block i hi hn)⟩
theorem grown_of_below {a w:World} (h:Below a.heap.size a w) (row:Option Nat):a.grownBy w row:=⟨h.os,h.tape,h.output,h.size,fun i hi _=>h.block i hi⟩
section
variable {w w':World} {base:Nat} {e:TypeId} {size:Nat} {v:Value} {n:Nat} {xs:List Value}
theorem owns_base {base':Nat} (h:w.ownsRow base e size v n xs) (hb:base'≤base):w.ownsRow base' e size v n xs:=by
 refine ⟨h.1,?_⟩;rcases h.2 with hn | ⟨g,cap,cur,rfl,hbg,rest⟩
 ·exact .inl hn
 ·exact .inr ⟨g,cap,cur,rfl,by omega,rest⟩
theorem owns_shape (h:w.ownsRow base e size v n xs):∃ A c,v=.slice A n c∧n≤c∧c≤maxLen:=by
 rcases h.2 with ⟨rfl,rfl⟩ | ⟨g,cap,cur,rfl,_,_,hnc,hcm,_⟩
 ·exact ⟨none,0,rfl,Nat.le_refl _,Nat.zero_le _⟩
 ·exact ⟨_,cap,rfl,hnc,hcm⟩
end
theorem owns_empty (w:World) (e:TypeId) (size:Nat):(w.alloc (.cells #[] e)).ownsRow w.heap.size e size (.slice (some ⟨w.heap.size,0,none⟩) 0 0) 0 [] :=
 World.ownsRow_lit (size:=size) w #[] 0 (Nat.le_refl _) (Nat.zero_le _) (by simp)
theorem owns_drewN {w:World} {base:Nat} {e:TypeId} {size:Nat} {v:Value} {n:Nat} {xs:List Value} (h:w.ownsRow base e size v n xs) (k:Nat):(w.drewN k).ownsRow base e size v n xs:=h
theorem dn (w:World) (a b:Nat):(w.drewN a).drewN b=w.drewN (a+b):=World.drewN_drewN _ _ _
theorem owns_row {w w':World} {row:Option Nat} {n:Nat} (h:(w.drewN n).grownBy w' row):w.grownBy w' row:=⟨h.os,h.tape,h.output,h.size,h.block⟩
def RetI (eI:TypeId) (xs:List Int) (w:World) (e:Ending) (w':World):Prop :=
 ∃ A c,e=.returned (.slice A xs.length c)∧w'.ownsRow w.heap.size eI 1 (.slice A xs.length c) xs.length (ints xs)∧Below w.heap.size w w'
theorem RetI.mk {eI:TypeId} {xs:List Int} {w w':World} {v:Value} {n:Nat} (hn:xs.length=n) (h:w'.ownsRow w.heap.size eI 1 v n (ints xs)) (hb:Below w.heap.size w w'):RetI eI xs w (.returned v) w':=by
 subst hn;obtain ⟨A,c,rfl, -, -⟩:=owns_shape h;exact ⟨A,c,rfl,h,hb⟩
section
variable {P:Program} {W:World} {ops:Array Oper} {rest:List Oper} {o:Oper} {a:Act} {Q:Exit→Act→World→Prop}
theorem wpList_push (hgd:o.guard=none) (s x:Operand) (t:TypeId)
  (ho:o.op=.call { callee:=.builtin .append,args:=#[s,x],argTypes:=#[t,t] })
  (base:Nat) (e:TypeId) (z:Value) (size bytes:Nat) (ht:P.underlying t=some (.slice e)) (hinfo:(P.info? e).map (fun i=>(i.zero,i.size,i.bytes))=some (some z,size,bytes))
  (hzs:z.cells.size=size) (hsz:0 < size)
  (v:Value) (n:Nat) (xs:List Value) (hs:a.eval s=v) (hown:W.ownsRow base e size v n xs)
  (m:Nat) (news:List Value) (hx:a.eval x=.slice (some ⟨W.heap.size,0,none⟩) m m) (hl:news.length=m * size) (h1:∀ u∈news,u.oneCell'=true)
  (h63:n+m≤maxLen) (hbytes:(n+m) * bytes≤140737488355328) (hbase:base≤W.heap.size)
  (h:∀ v' w',w'.ownsRow base e size v' (n+m) (xs++news)→W.grownBy w' v.ownBlock→(v'.ownBlock=v.ownBlock ∨ v'.ownBlock=some (W.heap.size+1))→wpList P ops Q rest (a.put o.dst v') w') :
  wpList P ops Q (o :: rest) a (W.alloc (.cells news.toArray e)):=by
 obtain ⟨i,hi,hz,hsize,hby⟩:=info_parts hinfo;refine wpList_append_own_at _ hgd s x t ho base e i z size bytes ht hi hz hsize hby hzs hsz v n xs hs (hown.alloc _) ⟨W.heap.size,0,none⟩ m m news hx hl ?_ h1 h63 hbytes (by simp;omega) ?_
 ·intro j u hu
  rw [Addr.add_lit,Nat.zero_add,World.cell?_alloc_new]
  simpa using hu
 ·intro v' w' h2 h3 _ h4
  exact h v' w' h2 (grown_trans (World.grownBy_alloc W _ _) h3) (by simpa using h4)
theorem run_append_none (base:Nat) (t ty e:TypeId) (i:TypeInfo) (size:Nat) (ht:P.underlying t=some (.slice e)) (hi:P.info? e=some i)
  (v:Value) (n:Nat) (xs:List Value) (hown:W.ownsRow base e size v n xs) (c:Nat):(Builtin.append_ #[t,t] ty #[v,.slice none 0 c]).run P W=.ok v W:=by
 rcases hown.2 with ⟨rfl,rfl⟩ | ⟨g,cap,cur,rfl,_,_,hnc,_⟩
 ·simp [Builtin.append_,run_underlying ht,sizeOf,typeInfo,hi,Builtin.lenOf,Builtin.firstCells]
 ·simp [Builtin.append_,run_underlying ht,sizeOf,typeInfo,hi,Builtin.lenOf,Builtin.firstCells,hnc,storeCells]
theorem wpList_cat (hgd:o.guard=none) (s x:Operand) (t:TypeId)
  (ho:o.op=.call { callee:=.builtin .append,args:=#[s,x],argTypes:=#[t,t] })
  (base:Nat) (e:TypeId) (z:Value) (size bytes:Nat) (ht:P.underlying t=some (.slice e)) (hinfo:(P.info? e).map (fun i=>(i.zero,i.size,i.bytes))=some (some z,size,bytes))
  (hzs:z.cells.size=size) (hsz:0 < size)
  (v:Value) (n:Nat) (xs:List Value) (hs:a.eval s=v) (hown:W.ownsRow base e size v n xs)
  (A:Option Addr) (m c B:Nat) (news:List Value) (hx:a.eval x=.slice A m c) (hr:Rs W B A news) (hl:news.length=m * size) (h1:∀ u∈news,u.oneCell'=true)
  (h63:n+m≤maxLen) (hbytes:(n+m) * bytes≤140737488355328) (hbase:base≤W.heap.size)
  (h:∀ v' w',w'.ownsRow base e size v' (n+m) (xs++news)→W.grownBy w' v.ownBlock→(v'.ownBlock=v.ownBlock ∨ v'.ownBlock=some W.heap.size)→wpList P ops Q rest (a.put o.dst v') w') :
  wpList P ops Q (o :: rest) a W:=by
 obtain ⟨i,hi,hz,hsize,hby⟩:=info_parts hinfo;cases A with
 | none =>
  have hn:news=[]:=by
   cases hne:news with
   | nil=>rfl
   | cons u r =>
    obtain ⟨b,off,he,_⟩:=hr (by rw [hne];simp);cases he
  subst hn;have hm:m=0:=by
   rcases Nat.eq_zero_or_pos m with h0 | h0
   ·exact h0
   ·have:=Nat.mul_pos h0 hsz
    simp at hl;omega
  subst hm;refine wpList_plain hgd fun K hK=>?_;have hrun:=run_append_none (P:=P) (W:=W) base t o.type e i size ht hi v n xs hown c;unfold Oper.wp;simp [execOp,ho,resolve,invoke,builtin,hs,hx,hrun,Result.andThen];exact hK _ _ (h v W (by simpa using hown) (World.grownBy.refl W _) (Or.inl rfl))
 | some ad =>
  refine wpList_append_own_at _ hgd s x t ho base e i z size bytes ht hi hz hsize hby hzs hsz v n xs hs hown ad m c news hx hl ?_ h1 h63 hbytes hbase ?_
  ·intro j u hu
   obtain ⟨b,off,he,_,hc⟩:=hr (by intro h0;subst h0;simp at hu);injection he with he
   subst he;rw [Addr.add_lit];exact hc j u hu
  ·intro v' w' h2 h3 _ h4
   exact h v' w' h2 h3 h4
theorem wpList_mk (hgd:o.guard=none) (l c:Operand) (t:TypeId) (hop:o.op=Op.makeSlice t l c)
  (e:TypeId) (z:Value) (bytes:Nat) (ht:P.underlying t=some (.slice e)) (hinfo:(P.info? e).map (fun i=>(i.zero,i.size,i.bytes))=some (some z,1,bytes)) (hz1:z.cells=#[z])
  (kl kc:IntKind) (L C:Int) (n:Nat) (hl:a.eval l=.int kl L) (hc:a.eval c=.int kc C) (hL:L=(n:Int)) (hC:C=(n:Int)) (b2:bytes * n≤281474976710656) (b3:n≤maxLen)
  (hK:∀ w',w'.ownsRow W.heap.size e 1 (.slice (some ⟨W.heap.size,0,none⟩) n n) n (List.replicate n z)→W.grownBy w' none→W.heap.size < w'.heap.size→wpList P ops Q rest (a.put o.dst (.slice (some ⟨W.heap.size,0,none⟩) n n)) w') :
  wpList P ops Q (o :: rest) a W:=by
 obtain ⟨i,hi,hz,hsize,hby⟩:=info_parts hinfo;refine wpList_make_full W hgd l c t hop W.heap.size e i z 1 ht hi hz hsize kl kc L C n hl hc hL hC (by rw [hby];exact b2) b3 (Nat.le_refl _) ?_;intro w' h1 h2;rw [hz1,Nat.mul_one,toList_madeCells_one] at h1;exact hK w' h1 h2 ((h1.lt W.heap.size rfl).2)
end
section
variable {w w' w0:World} {base B:Nat} {e:TypeId} {g n cap:Nat} {xs ys:List Value}
theorem owns_set (h:w.ownsRow base e 1 (.slice (some ⟨g,0,none⟩) n cap) n xs) (j:Nat) (u:Value) (hy:xs.set j u=ys) :
  (w.setCell ⟨g,j,none⟩ u).ownsRow base e 1 (.slice (some ⟨g,0,none⟩) n cap) n ys:=by
 subst hy;exact (h.stored j u).1
theorem owns_cell (h:w.ownsRow base e 1 (.slice (some ⟨g,0,none⟩) n cap) n xs) {j:Nat} (hj:j < n):∃ u,xs[j]?=some u∧w.cell? ⟨g,j,none⟩=some u:=by
 have hl:j < xs.length:=by have:=h.1;omega
 exact ⟨xs[j],List.getElem?_eq_getElem hl,(h.cellAt j (by omega)).trans (List.getElem?_eq_getElem hl)⟩
end
theorem set_mid {α:Type} (xs ys:List α) (y x:α):(xs++y :: ys).set xs.length x=(xs++[x])++ys:=by simp
theorem owns_addr {w:World} {base:Nat} {e:TypeId} {size:Nat} {A:Option Addr} {n c:Nat} {xs:List Value} (h:w.ownsRow base e size (.slice A n c) n xs) (hn:0 < n) :
  ∃ g,A=some ⟨g,0,none⟩∧base≤g∧g < w.heap.size:=by
 rcases h.2 with ⟨_,h0⟩ | ⟨g,cap,cur,hv,hbg,hh,_⟩
 ·omega
 ·injection hv with hA
  exact ⟨g,hA,hbg,(Array.getElem?_eq_some_iff.1 hh).1⟩
theorem set_over {α:Type} (ys xs:List α) (u:α) {k:Nat} (hy:ys.length=k) (h:k < xs.length):(ys++xs.drop k).set k u=(ys++[u])++xs.drop (k+1):=by
 subst hy;rw [List.drop_eq_getElem_cons h,set_mid]
theorem grown_setCell {a w:World} {g:Nat} (h:a.grownBy w (some g)) (i:Nat) (u:Value):a.grownBy (w.setCell ⟨g,i,none⟩ u) (some g) :=
 ⟨h.os,h.tape,h.output,by simpa [World.setCell] using h.size,fun k hk hne=>(Below.heap_setCell w _ u k (by rintro rfl;exact hne rfl)).trans (h.block k hk hne)⟩
theorem one_of_ints (xs:List Int):∀ u∈ints xs,u.oneCell'=true:=ints_oneCell .i64 xs
def upto (k:Nat):List Int:=(List.range k).map (fun (i:Nat)=>(i:Int))
theorem upto_succ (k:Nat):upto (k+1)=upto k++[(k:Int)]:=by simp [upto,List.range_succ]
theorem upto_len (k:Nat):(upto k).length=k:=by simp [upto]
def marks (k:Int) (n:Nat):List Int:=(List.range n).map (fun (i:Nat)=>k+(i:Int))
theorem take_succ_of {α:Type} (xs:List α) {k:Nat} {x:α} (h:xs[k]?=some x):xs.take (k+1)=xs.take k++[x]:=by
 rw [List.take_add_one,h];rfl
theorem drop_of {α:Type} (xs:List α) {k:Nat} {x:α} (h:xs[k]?=some x):xs.drop k=x :: xs.drop (k+1):=by
 obtain ⟨hk,rfl⟩:=List.getElem?_eq_some_iff.1 h;exact List.drop_eq_getElem_cons hk
theorem get_of_lt {α:Type} (xs:List α) {k:Nat} (h:k < xs.length):∃ x,xs[k]?=some x:=⟨_,List.getElem?_eq_getElem h⟩
theorem Rs.int {w:World} {B:Nat} {A:Option Addr} {xs:List Int} (h:Rs w B A (ints xs)) {k:Nat} (hk:k < xs.length) :
  ∃ b off x,A=some ⟨b,off,none⟩∧b < B∧xs[k]?=some x∧w.cell? ⟨b,off+k,none⟩=some (.int .i64 x):=by
 obtain ⟨b,off,u,e,hb,hu,hc⟩:=h.at (j:=k) (by simpa [ints] using hk);rw [ints_get] at hu;obtain ⟨x,hx⟩:=get_of_lt xs hk;rw [hx] at hu;simp at hu;subst hu;exact ⟨b,off,x,e,hb,hx,hc⟩
section
variable {P:Program} {f:FuncId} {args:Array Value} {v:Value}
theorem qz0 {W:World} {n:Nat} (h:Calls P f args (W.drewN n) fun e w'=>e=.returned v∧∃ m,w'=(W.drewN n).drewN m) :
  Calls P f args (W.drewN n) fun e w''=>e=.returned v∧∃ m,w''=W.drewN m:=Calls.quiet_of h
theorem qz1 {w:World} {a n:Nat} (h:Calls P f args (w.drewN (a+n)) fun e w'=>e=.returned v∧∃ m,w'=(w.drewN (a+n)).drewN m) :
  Calls P f args (w.drewN (a+n)) fun e w''=>e=.returned v∧∃ m,w''=w.drewN (a+m) :=
 h.mono fun _ _ ⟨he,m,hm⟩=>⟨he,n+m,by rw [hm,World.drewN_drewN,Nat.add_assoc]⟩
theorem pq {W:World} (h:Calls P f args W fun e w'=>e=.returned v∧W=w'):Calls P f args W fun e w'=>e=.returned v∧∃ m,w'=W.drewN m :=
 h.mono fun _ _ ⟨he,hw⟩=>⟨he,0,hw ▸ rfl⟩
end
end
theorem infoI:(Tryz.prog.info? 3).map (fun i=>(i.zero,i.size,i.bytes))=some (some (.int .i64 0),1,8):=by kernel_rfl
theorem infoB:(Tryz.prog.info? 4).map (fun i=>(i.zero,i.size,i.bytes))=some (some (.bool false),1,1):=by kernel_rfl
theorem undSI:Tryz.prog.underlying 34=some (.slice 3):=by kernel_rfl
theorem undSB:Tryz.prog.underlying 124=some (.slice 4):=by kernel_rfl
section
open Go.RowKit
def inB (x lo hi:Int):Bool:=decide (lo≤x) && decide (x≤hi)
theorem within_any (x lo hi:Int) (w:World) :
  Calls Tryz.prog 154 #[.int .i64 x,.int .i64 lo,.int .i64 hi] w fun e w'=>e=.returned (.bool (inB x lo hi))∧w=w':=by
 go_enter Tryz.func154,Tryz.ntmps154
 go_wp2_with fail;all_goals
  go_ret;exact ⟨by simp [inB];omega,rfl⟩
theorem l1In_any (x lo hi:Int) (w:World) :
  Calls Tryz.prog 131 #[.int .i64 x,.int .i64 lo,.int .i64 hi] w fun e w'=>e=.returned (.bool (inB x lo hi))∧w=w':=by
 go_enter Tryz.func131,Tryz.ntmps131
 go_wp2_with fail;all_goals
  go_ret;exact ⟨by simp [inB];omega,rfl⟩
end
section
open Go.RowKit
def OkI (xs:List Int):Prop:=∀ x∈xs, -9223372036854775808≤x∧x≤9223372036854775807
structure Mid (lo hi:Nat) (w w':World):Prop where
 os:w'.os=w.os
 tape:w'.tape=w.tape
 output:w'.output=w.output
 size:w.heap.size≤w'.heap.size
 block:∀ k,k < w.heap.size→¬ (lo≤k∧k < hi)→w'.heap[k]?=w.heap[k]?
theorem Mid.of_grown {lo hi:Nat} {w w':World} {row:Option Nat} (h:w.grownBy w' row) (hr:∀ g,row=some g→lo≤g∧g < hi):Mid lo hi w w' :=
 ⟨h.os,h.tape,h.output,h.size,fun k hk hn=>h.block k hk (fun e=>hn (hr k e.symm))⟩
theorem Mid.trans {lo hi:Nat} {a b c:World} (h:Mid lo hi a b) (k:Mid lo hi b c):Mid lo hi a c :=
 ⟨k.os.trans h.os,k.tape.trans h.tape,k.output.trans h.output,Nat.le_trans h.size k.size,
  fun i hi' hn=>(k.block i (Nat.lt_of_lt_of_le hi' h.size) hn).trans (h.block i hi' hn)⟩
theorem Mid.refl (lo hi:Nat) (w:World):Mid lo hi w w:=⟨rfl,rfl,rfl,Nat.le_refl _,fun _ _ _=>rfl⟩
theorem Mid.of_below {lo hi:Nat} {w w':World} (h:Below w.heap.size w w'):Mid lo hi w w':=⟨h.os,h.tape,h.output,h.size,fun k hk _=>h.block k hk⟩
theorem Mid.drewN {lo hi:Nat} {w w':World} (h:Mid lo hi w w') (n:Nat):Mid lo hi w (w'.drewN n):=⟨h.os,h.tape,h.output,h.size,h.block⟩
theorem Mid.alloc (w:World) (o:Obj):Mid 0 0 w (w.alloc o):=Mid.of_grown (World.grownBy_alloc w o none) (by intro g h;cases h)
theorem Mid.setCell (w:World) {lo hi:Nat} {p:Addr} (u:Value) (h1:lo≤p.block) (h2:p.block < hi):Mid lo hi w (w.setCell p u) :=
 ⟨rfl,rfl,rfl,by simp [World.setCell],fun k _ hn=>Below.heap_setCell w p u k (by rintro rfl;exact hn ⟨h1,h2⟩)⟩
theorem Mid.grownNew {lo hi:Nat} {w wr w':World} {row:Option Nat} (h:Mid lo hi w wr) (hg:wr.grownBy w' row) (hr:∀ g,row=some g→w.heap.size≤g):Mid lo hi w w' :=
 ⟨hg.os.trans h.os,hg.tape.trans h.tape,hg.output.trans h.output,Nat.le_trans h.size hg.size,fun k hk hn =>
  (hg.block k (Nat.lt_of_lt_of_le hk h.size) (fun e=>by have:=hr k e.symm;omega)).trans (h.block k hk hn)⟩
theorem Mid.storeNew {lo hi:Nat} {w wr:World} {p:Addr} (h:Mid lo hi w wr) (hp:w.heap.size≤p.block) (u:Value):Mid lo hi w (wr.setCell p u) :=
 ⟨h.os,h.tape,h.output,by simpa [World.setCell] using h.size,fun k hk hn=>(Below.heap_setCell wr p u k (by omega)).trans (h.block k hk hn)⟩
theorem Mid.zero {lo hi:Nat} {w w':World} (h:Mid 0 0 w w'):Mid lo hi w w':=⟨h.os,h.tape,h.output,h.size,fun k hk _=>h.block k hk (by omega)⟩
theorem Mid.bel {w w':World} (h:Mid 0 0 w w'):Below w.heap.size w w':=⟨h.os,h.tape,h.output,h.size,fun k hk=>h.block k hk (by omega)⟩
def RV (w:World) (lo hi:Nat) (A:Option Addr) (cs:List Value):Prop :=
 hi≤w.heap.size∧(cs≠[]→∃ b off,A=some ⟨b,off,none⟩∧lo≤b∧b < hi∧∀ j u,cs[j]?=some u→w.cell? ⟨b,off+j,none⟩=some u)
theorem RV.rs {w:World} {lo hi:Nat} {A:Option Addr} {cs:List Value} (h:RV w lo hi A cs):Rs w hi A cs:=fun hn=>by
 obtain ⟨b,off,e,_,hb,hc⟩:=h.2 hn;exact ⟨b,off,e,hb,hc⟩
theorem RV.rsS {w:World} {lo hi:Nat} {A:Option Addr} {cs:List Value} (h:RV w lo hi A cs):Rs w w.heap.size A cs:=h.rs.more h.1
theorem RV.of_rs {w:World} {hi:Nat} {A:Option Addr} {cs:List Value} (h:Rs w hi A cs) (hs:hi≤w.heap.size):RV w 0 hi A cs:=⟨hs,fun hn=>by
 obtain ⟨b,off,e,hb,hc⟩:=h hn;exact ⟨b,off,e,Nat.zero_le _,hb,hc⟩⟩
theorem RV.mid {w w':World} {lo hi a b:Nat} {A:Option Addr} {cs:List Value} (h:RV w lo hi A cs) (m:Mid a b w w') (hd:b≤lo ∨ hi≤a):RV w' lo hi A cs :=
 ⟨Nat.le_trans h.1 m.size,fun hn=>by
  obtain ⟨g,off,e,h1,h2,hc⟩:=h.2 hn;have hs:=h.1;exact ⟨g,off,e,h1,h2,fun j u hu=>(World.cell?_of_block (m.block g (by omega) (by omega))).trans (hc j u hu)⟩⟩
theorem RV.wide {w:World} {lo hi lo' hi':Nat} {A:Option Addr} {cs:List Value} (h:RV w lo hi A cs) (h1:lo'≤lo) (h2:hi≤hi') (h3:hi'≤w.heap.size):RV w lo' hi' A cs :=
 ⟨h3,fun hn=>by
  obtain ⟨g,off,e,ha,hb,hc⟩:=h.2 hn;exact ⟨g,off,e,by omega,by omega,hc⟩⟩
def OV (w:World) (lo hi:Nat) (e:TypeId) (size:Nat) (A:Option Addr) (c n:Nat) (cs:List Value):Prop :=
 hi≤w.heap.size∧w.ownsRow lo e size (.slice A n c) n cs∧∀ g,Value.ownBlock (.slice A n c)=some g→g < hi
section
variable {w w':World} {lo hi a b:Nat} {e:TypeId} {size:Nat} {A:Option Addr} {c n:Nat} {cs:List Value}
theorem OV.new {w0:World} (h:w.ownsRow w0.heap.size e size (.slice A n c) n cs):OV w w0.heap.size w.heap.size e size A c n cs :=
 ⟨Nat.le_refl _,h,fun g hg=>(h.lt g hg).2⟩
theorem OV.mid (h:OV w lo hi e size A c n cs) (m:Mid a b w w') (hd:b≤lo ∨ hi≤a):OV w' lo hi e size A c n cs:=by
 refine ⟨Nat.le_trans h.1 m.size,⟨h.2.1.1,?_⟩,h.2.2⟩;rcases h.2.1.2 with hn | ⟨g,cap,cur,hv,hbg,hgg,rest⟩
 ·exact .inl hn
 ·refine .inr ⟨g,cap,cur,hv,hbg,?_,rest⟩
  have hlt:=h.2.2 g (by rw [hv];rfl);rw [m.block g (Array.getElem?_eq_some_iff.1 hgg).1 (by omega)];exact hgg
theorem OV.rv (h:OV w lo hi e size A c n cs):RV w lo hi A cs:=⟨h.1,fun hn=>by
 obtain ⟨g,off,hA,_,hc⟩:=Rs.of_own h.2.1 hn;have hg:Value.ownBlock (.slice A n c)=some g:=by rw [hA];rfl
 exact ⟨g,off,hA,(h.2.1.lt g hg).1,h.2.2 g hg,hc⟩⟩
theorem OV.wide {lo' hi':Nat} (h:OV w lo hi e size A c n cs) (h1:lo'≤lo) (h2:hi≤hi') (h3:hi'≤w.heap.size):OV w lo' hi' e size A c n cs :=
 ⟨h3,owns_base h.2.1 h1,fun g hg=>by have:=h.2.2 g hg;omega⟩
end
theorem owns_ne {w:World} {b b':Nat} {e e':TypeId} {s s':Nat} {v v':Value} {n n':Nat} {xs xs':List Value} (h:w.ownsRow b e s v n xs) (h':w.ownsRow b' e' s' v' n' xs') (hne:e≠e') :
  v.ownBlock=none ∨ v.ownBlock≠v'.ownBlock:=by
 rcases h.2 with ⟨rfl,_⟩ | ⟨g,cap,cur,rfl,_,hg,_⟩
 ·exact .inl rfl
 ·rcases h'.2 with ⟨rfl,_⟩ | ⟨g',cap',cur',rfl,_,hg',_⟩
  ·exact .inr (by simp [Value.ownBlock])
  ·refine .inr fun he=>?_
   have:g=g':=by simpa [Value.ownBlock] using he
   subst this;rw [hg] at hg';injection hg' with hg'
   injection hg' with _ ht
   exact hne ht
theorem grown_of_setCell (w:World) (g j:Nat) (u:Value):w.grownBy (w.setCell ⟨g,j,none⟩ u) (some g):=grown_setCell (World.grownBy.refl w _) j u
structure Row where
 A:Option Addr
 c:Nat
 xs:List Int
def Row.v (r:Row):Value:=.slice r.A r.xs.length r.c
def rowsV (rows:List Row):List Value:=rows.map Row.v
def rowsD (rows:List Row):List (List Int):=rows.map Row.xs
theorem rowsV_len (rows:List Row):(rowsV rows).length=rows.length:=by simp [rowsV]
theorem rowsD_len (rows:List Row):(rowsD rows).length=rows.length:=by simp [rowsD]
theorem rowsV_append (a b:List Row):rowsV (a++b)=rowsV a++rowsV b:=by simp [rowsV]
theorem rowsD_append (a b:List Row):rowsD (a++b)=rowsD a++rowsD b:=by simp [rowsD]
def RSS (w:World) (lo hi:Nat) (A:Option Addr) (xss:List (List Int)):Prop :=
 ∃ rows,rowsD rows=xss∧RV w lo hi A (rowsV rows)∧∀ r∈rows,RV w lo hi r.A (ints r.xs)
section
variable {w w':World} {lo hi a b:Nat} {A:Option Addr} {xss:List (List Int)}
theorem RSS.size (h:RSS w lo hi A xss):hi≤w.heap.size:=by obtain ⟨_,_,h,_⟩:=h;exact h.1
theorem RSS.mid (h:RSS w lo hi A xss) (m:Mid a b w w') (hd:b≤lo ∨ hi≤a):RSS w' lo hi A xss:=by
 obtain ⟨rows,h1,h2,h3⟩:=h;exact ⟨rows,h1,h2.mid m hd,fun r hr=>(h3 r hr).mid m hd⟩
theorem RSS.row (h:RSS w lo hi A xss) {k:Nat} (hk:k < xss.length) :
  ∃ b off A' c' xs,A=some ⟨b,off,none⟩∧lo≤b∧b < hi∧xss[k]?=some xs∧w.cell? ⟨b,off+k,none⟩=some (.slice A' xs.length c')∧RV w lo hi A' (ints xs):=by
 obtain ⟨rows,rfl,h2,h3⟩:=h;rw [rowsD_len] at hk;obtain ⟨b,off,e,hb,hb2,hc⟩:=h2.2 (by intro h0;have:=congrArg List.length h0;rw [rowsV_len] at this;simp at this;subst this;simp at hk);obtain ⟨r,hr⟩:=get_of_lt rows hk;refine ⟨b,off,r.A,r.c,r.xs,e,hb,hb2,by simp [rowsD,hr],hc k _ (by simp [rowsV,hr,Row.v]),h3 r (List.mem_of_getElem? hr)⟩
end
def OwnRows (w:World) (lo hi:Nat) (tI:TypeId) (rows:List Row):Prop :=
 (∀ r∈rows,OV w lo hi tI 1 r.A r.c r.xs.length (ints r.xs))∧rows.Pairwise (fun r s=>r.v.ownBlock=none ∨ r.v.ownBlock≠s.v.ownBlock)
def OSS (w:World) (lo hi:Nat) (tSI tI:TypeId) (A:Option Addr) (c:Nat) (xss:List (List Int)):Prop :=
 hi≤w.heap.size∧∃ rows,rowsD rows=xss∧OV w lo hi tSI 1 A c xss.length (rowsV rows)∧OwnRows w lo hi tI rows
section
variable {w w':World} {lo hi a b:Nat} {tSI tI:TypeId} {A:Option Addr} {c:Nat} {xss:List (List Int)} {rows:List Row}
theorem OwnRows.mid (h:OwnRows w lo hi tI rows) (m:Mid a b w w') (hd:b≤lo ∨ hi≤a):OwnRows w' lo hi tI rows:=⟨fun r hr=>(h.1 r hr).mid m hd,h.2⟩
theorem OwnRows.wide {lo' hi':Nat} (h:OwnRows w lo hi tI rows) (h1:lo'≤lo) (h2:hi≤hi') (h3:hi'≤w.heap.size):OwnRows w lo' hi' tI rows:=⟨fun r hr=>(h.1 r hr).wide h1 h2 h3,h.2⟩
theorem OwnRows.nil:OwnRows w lo hi tI []:=⟨by simp,List.Pairwise.nil⟩
theorem OwnRows.grown {bb:Nat} {e':TypeId} {s':Nat} {v':Value} {n':Nat} {xs':List Value} (h:OwnRows w lo hi tI rows) (ho:w.ownsRow bb e' s' v' n' xs') (hne:tI≠e') (hg:w.grownBy w' v'.ownBlock):OwnRows w' lo hi tI rows :=
 ⟨fun r hr=>by
  obtain ⟨h1,h2,h3⟩:=h.1 r hr;exact ⟨Nat.le_trans h1 hg.size,h2.kept hg (owns_ne h2 ho hne),h3⟩,h.2⟩
theorem OwnRows.push {base hi':Nat} {r:Row} (h:OwnRows w lo hi tI rows) (hr:w.ownsRow base tI 1 r.v r.xs.length (ints r.xs)) (hb:hi≤base) (hl:lo≤base) (hh:hi≤hi') (hs:hi'≤w.heap.size) (hlt:∀ g,r.v.ownBlock=some g→g < hi') :
  OwnRows w lo hi' tI (rows++[r]):=by
 refine ⟨fun s hs'=>?_,?_⟩
 ·rcases List.mem_append.1 hs' with hm | hm
  ·exact (h.1 s hm).wide (Nat.le_refl _) hh hs
  ·simp at hm
   subst hm;exact ⟨hs,owns_base hr hl,hlt⟩
 ·rw [List.pairwise_append]
  refine ⟨h.2,by simp,fun s hsm t ht=>?_⟩;simp at ht;subst ht;cases hv:s.v.ownBlock with
  | none=>exact .inl rfl
  | some g =>
   refine .inr fun e=>?_;have h1:=(h.1 s hsm).2.2 g hv;have h2:=(hr.lt g e.symm).1;omega
theorem OSS.mid (h:OSS w lo hi tSI tI A c xss) (m:Mid a b w w') (hd:b≤lo ∨ hi≤a):OSS w' lo hi tSI tI A c xss:=by
 obtain ⟨h0,rows,h1,h2,h3⟩:=h;exact ⟨Nat.le_trans h0 m.size,rows,h1,h2.mid m hd,h3.mid m hd⟩
theorem OSS.wide {lo' hi':Nat} (h:OSS w lo hi tSI tI A c xss) (h1:lo'≤lo) (h2:hi≤hi') (h3:hi'≤w.heap.size):OSS w lo' hi' tSI tI A c xss:=by
 obtain ⟨_,rows,ha,hb,hc⟩:=h;exact ⟨h3,rows,ha,hb.wide h1 h2 h3,hc.wide h1 h2 h3⟩
theorem OSS.rss (h:OSS w lo hi tSI tI A c xss):RSS w lo hi A xss:=by
 obtain ⟨_,rows,h1,h2,h3⟩:=h;exact ⟨rows,h1,h2.rv,fun r hr=>(h3.1 r hr).rv⟩
end
end
section
open Go.RowKit
theorem infoSI:(Tryz.prog.info? 34).map (fun i=>(i.zero,i.size,i.bytes))=some (some (.slice none 0 0),1,24):=by kernel_rfl
theorem undSSI:Tryz.prog.underlying 41=some (.slice 34):=by kernel_rfl
def sumL (xss:List (List Int)):Nat:=(xss.map List.length).sum
theorem sumL_append (a b:List (List Int)):sumL (a++b)=sumL a+sumL b:=by simp [sumL]
theorem sumL_one (a:List Int):sumL [a]=a.length:=by simp [sumL]
theorem sumL_take_succ {xss:List (List Int)} {k:Nat} {xs:List Int} (h:xss[k]?=some xs):sumL (xss.take (k+1))=sumL (xss.take k)+xs.length:=by
 rw [take_succ_of xss h,sumL_append,sumL_one]
theorem sumL_take_le (xss:List (List Int)) (k:Nat):sumL (xss.take k)≤sumL xss:=by
 have h:=List.take_append_drop k xss;have:=sumL_append (xss.take k) (xss.drop k);rw [h] at this;omega
theorem len_le_sumL {xss:List (List Int)} {xs:List Int} (h:xs∈xss):xs.length≤sumL xss:=by
 obtain ⟨k,hk⟩:=List.mem_iff_getElem?.1 h;have h1:=sumL_take_succ hk;have h2:=sumL_take_le xss (k+1);omega
end
section
open Go.RowKit
end
section
open Go.RowKit
end
def minI:Int:=-9223372036854775808
def invB (a b:Int):Bool:=decide (a≠0∧a≠minI∧b = -a)
theorem invB_iff (a b:Int):invB a b=true↔(a≠0∧a≠minI∧b = -a):=by simp [invB]
def letB (rank x:Int):Bool:=decide (x≠0∧-rank≤x∧x≤rank)
def WordP (rank:Int) (w:List Int):Prop :=
 (∀ x∈w,x≠0∧-rank≤x∧x≤rank)∧(∀ k x y,w[k]?=some x→w[k+1]?=some y→y≠-x)
def IsW (rank:Int) (w:List Int):Prop:=1≤rank∧rank≤3∧w.length≤24∧WordP rank w
def cmpI (a b:Int):Int:=if a < b then -1 else if b < a then 1 else 0
def absI (a:Int):Int:=if a < 0 then -a else a
def cmpL (a b:Int):Int :=
 if a=b then 0 else if a=minI then 1 else if b=minI then -1
 else if absI a < absI b then -1 else if absI b < absI a then 1 else if b < a then -1 else 1
def cmpLs:List Int→List Int→Int
 | a :: x,b :: y=>if cmpL a b=0 then cmpLs x y else cmpL a b
 | _,_=>0
def cmpW (a b:List Int):Int:=if a.length < b.length then -1 else if b.length < a.length then 1 else cmpLs a b
def negI (x:Int):Int:=if x=minI then minI else -x
def invW (w:List Int):List Int:=(w.map negI).reverse
theorem invW_len (w:List Int):(invW w).length=w.length:=by simp [invW]
def redStep (out:List Int) (x:Int):List Int :=
 match out.getLast? with
 | some a=>if invB a x then out.dropLast else out++[x]
 | none=>[x]
def red (out w:List Int):List Int:=w.foldl redStep out
theorem red_nil (out:List Int):red out []=out:=rfl
theorem red_cons (out:List Int) (x:Int) (w:List Int):red out (x :: w)=red (redStep out x) w:=rfl
theorem red_append (out a b:List Int):red out (a++b)=red (red out a) b:=by simp [red]
theorem redStep_empty (x:Int):redStep [] x=[x]:=rfl
theorem redStep_pop {out:List Int} {a x:Int} (h:invB a x=true):redStep (out++[a]) x=out:=by simp [redStep,h]
theorem redStep_push {out:List Int} {a x:Int} (h:invB a x=false):redStep (out++[a]) x=out++[a]++[x]:=by simp [redStep,h]
theorem redStep_len (out:List Int) (x:Int):(redStep out x).length≤out.length+1:=by
 unfold redStep;split
 ·split <;> simp
  omega
 ·simp
theorem red_len (out w:List Int):(red out w).length≤out.length+w.length:=by
 induction w generalizing out with
 | nil=>simp [red]
 | cons x t ih =>
  rw [red_cons];have h1:=ih (redStep out x);have h2:=redStep_len out x;simp;omega
section
open Go.RowKit
theorem impl_areInverse (a b:Int) (w:World) (ha:-9223372036854775808≤a) (ha2:a≤9223372036854775807) :
  Calls Tryz.prog 183 #[.int .i64 a,.int .i64 b] w fun e w'=>e=.returned (.bool (invB a b))∧w=w':=by
 by_cases h0:a=0
 ·subst h0
  go_enter Tryz.func183,Tryz.ntmps183
  go_wp2_with fail;go_ret;exact ⟨by simp [invB],rfl⟩
 ·by_cases hm:a=minI
  ·have hr:invB a b=false:=by simp [invB,hm]
   rw [hr];clear h0 hr;subst hm;unfold minI;clear ha ha2;go_enter Tryz.func183,Tryz.ntmps183
   go_wp2_with fail;go_ret;exact ⟨rfl,rfl⟩
  ·have hlo:-9223372036854775807≤a:=by unfold minI at hm;omega
   have hx:(a != 0)=true:=by simpa using h0
   by_cases hb:(b == -a)=true
   ·have hr:invB a b=true:=by simp [invB,h0,hm];simpa using hb
    rw [hr];clear h0 hm hr;go_enter Tryz.func183,Tryz.ntmps183
    go_wp2_with fail;go_ret;exact ⟨by simp;omega,rfl⟩
   ·have hb':(b == -a)=false:=by simpa using hb
    have hr:invB a b=false:=by simp [invB];intro _ _;simpa using hb
    rw [hr];clear h0 hm hr hb;go_enter Tryz.func183,Tryz.ntmps183
    go_wp2_with fail;go_ret;exact ⟨rfl,rfl⟩
theorem impl_isLetter (rank x:Int) (w:World) (h1:1≤rank) (h3:rank≤3) :
  Calls Tryz.prog 182 #[.int .i64 rank,.int .i64 x] w fun e w'=>e=.returned (.bool (letB rank x))∧w=w':=by
 by_cases h0:x=0
 ·subst h0
  go_enter Tryz.func182,Tryz.ntmps182
  go_wp2_with fail;go_ret;exact ⟨by simp [letB],rfl⟩
 ·have hx:(x != 0)=true:=by simpa using h0
  have hr:letB rank x=inB x (-rank) rank:=by simp [letB,inB,h0]
  rw [hr];clear h0 hr;go_enter Tryz.func182,Tryz.ntmps182
  go_wp2_with fail;with_reducible refine (within_any _ _ _ _).mono ?_
  rintro e w' ⟨rfl,rfl⟩;go_wp2_with fail;go_ret;exact ⟨rfl,rfl⟩
theorem impl_compareInts (a b:Int) (w:World) :
  Calls Tryz.prog 208 #[.int .i64 a,.int .i64 b] w fun e w'=>e=.returned (.int .i64 (cmpI a b))∧w=w':=by
 by_cases h1:a < b
 ·have hr:cmpI a b = -1:=by simp [cmpI,h1]
  rw [hr];clear hr;go_enter Tryz.func208,Tryz.ntmps208
  go_wp2_with fail;go_ret;exact ⟨rfl,rfl⟩
 ·by_cases h2:b < a
  ·have hr:cmpI a b=1:=by simp [cmpI,h1,h2]
   rw [hr];clear hr;go_enter Tryz.func208,Tryz.ntmps208
   go_wp2_with fail;go_ret;exact ⟨rfl,rfl⟩
  ·have hr:cmpI a b=0:=by simp [cmpI,h1,h2]
   rw [hr];clear hr;go_enter Tryz.func208,Tryz.ntmps208
   go_wp2_with fail;go_ret;exact ⟨rfl,rfl⟩
theorem wrap_neg {x:Int} (h1:-9223372036854775808≤x) (h2:x≤9223372036854775807):wrap64 (-x)=negI x:=by
 unfold negI minI;by_cases h:x = -9223372036854775808
 ·rw [if_pos h,h]
  unfold wrap64;omega
 ·rw [if_neg h]
  exact IntWalk.wrap64_in _ ⟨by omega,by omega⟩
theorem invW_cons (x:Int) (t:List Int):invW (x :: t)=invW t++[negI x]:=by simp [invW]
theorem spec_InvertWord (A:Option Addr) (xs:List Int) (c B:Nat) (w:World) (hr:Rs w B A (ints xs)) (hB:B≤w.heap.size) (hok:OkI xs) (hl:xs.length≤4194304) :
  Calls Tryz.prog 119 #[.slice A xs.length c] w fun e w'=>RetI 3 (invW xs) w e w':=by
 have HOK:=Lib.hid hok;clear hok;have hb0:=(Below.refl w.heap.size w).alloc (Nat.le_refl _) (.cells #[] 3);have ho0:=owns_empty w 3 1;go_enter Tryz.func119,Tryz.ntmps119
 go_wp2_with fail;go_loopw [3,4] (fun v i wr=>∃ j:Nat,j≤xs.length∧i=.int .i64 ((j:Int) - 1)∧wr.ownsRow w.heap.size 3 1 v (xs.length - j) (ints (invW (xs.drop j)))∧Below w.heap.size w wr)
  (fun _ i _=>(intOf i+1).toNat)
 case atStart=>exact ⟨xs.length,Nat.le_refl _,rfl,by simpa [invW,ints] using ho0,hb0⟩
 case round =>
  obtain ⟨j,hj,rfl,hown,hb⟩:=hrel;have hsz:=hb.size;cases j with
  | zero =>
   go_wp2_with fail;go_ret;exact RetI.mk (by rw [invW_len]) (by simpa using hown) hb
  | succ m =>
   rw [show (((m+1:Nat):Int) - 1)=(m:Int) from by omega];obtain ⟨b,off,x,rfl, -,hx,hc⟩:=((hr.more hB).below hb).int (show m < xs.length by omega);have hbx:=HOK.out x (List.mem_of_getElem? hx);have HW:=Lib.hid (wrap_neg hbx.1 hbx.2);have HX:=Lib.hid hx;clear hx hbx;go_wp2_with (at_builtin;refine wpList_push rfl _ _ 34 rfl w.heap.size 3 (.int .i64 0) 1 8 undSI infoI rfl (by decide) _ _ _ rfl hown 1 [.int .i64 (wrap64 (-x))] rfl rfl ?c1 ?c2 ?c3 hsz ?next)
   case c1=>exact one_of_ints [wrap64 (-x)]
   case c2=>unfold maxLen;omega
   case c3=>omega
   case next =>
    intro v' w1 hown1 hgr _;go_wp2_with fail;go_roundw
    case rel =>
     refine ⟨m,by omega,rfl,?_,hb.grown hgr hsz (fun g hg=>(hown.lt g hg).1)⟩;rw [drop_of xs HX.out,invW_cons,ints_append,show xs.length - m=xs.length - (m+1)+1 from by omega,← HW.out];exact hown1
    case measure=>simp [intOf]
end
section
open Go.RowKit
end
section
open Go.RowKit
def Box (w:World) (b:Nat) (cs:List Value):Prop:=b < w.heap.size∧(∀ i u,cs[i]?=some u→w.cell? ⟨b,i,none⟩=some u)∧∀ i,w.frozen? ⟨b,i,none⟩=false
section
variable {w w':World} {b lo hi:Nat} {cs ys:List Value}
theorem Box.new (w:World) (a:Array Value) (t:TypeId):Box (w.alloc (.cells a t)) w.heap.size a.toList :=
 ⟨by simp,fun i u hu=>(World.cell?_alloc_at _ _ _ _ rfl).trans (by simpa using hu),fun i=>World.frozen?_alloc_at _ _ _ _ rfl⟩
theorem Box.mid (h:Box w b cs) (m:Mid lo hi w w') (hd:b < lo ∨ hi≤b):Box w' b cs :=
 ⟨Nat.lt_of_lt_of_le h.1 m.size,fun i u hu=>(World.cell?_of_block (m.block b h.1 (by omega))).trans (h.2.1 i u hu),fun i=>(World.frozen?_of_block (m.block b h.1 (by omega))).trans (h.2.2 i)⟩
theorem Box.cell (h:Box w b cs) (i:Nat) {u:Value} (hu:cs[i]?=some u):w.cell? ⟨b,i,none⟩=some u:=h.2.1 i u hu
theorem Box.set (h:Box w b cs) (i:Nat) (u:Value) (hi:i < cs.length) (hy:cs.set i u=ys):Box (w.setCell ⟨b,i,none⟩ u) b ys:=by
 subst hy;have hc:=h.2.1 i cs[i] (List.getElem?_eq_getElem hi);refine ⟨by simpa using h.1,fun j v hv=>?_,fun j=>by rw [World.frozen?_setCell];exact h.2.2 j⟩;by_cases hj:j=i
 ·subst hj
  rw [List.getElem?_set_self hi] at hv;rw [World.cell?_setCell_same w _ u hc];exact hv
 ·rw [List.getElem?_set_ne (Ne.symm hj)] at hv
  rw [World.cell?_setCell_other w _ _ u (by intro e;injection e;omega)];exact h.2.1 j v hv
theorem Box.drewN (h:Box w b cs) (n:Nat):Box (w.drewN n) b cs:=h
theorem Mid.of_grownRow {base:Nat} {e:TypeId} {size:Nat} {v:Value} {n:Nat} {xs:List Value} (h:w.ownsRow base e size v n xs) (hg:w.grownBy w' v.ownBlock):Mid base w.heap.size w w' :=
 Mid.of_grown hg fun g hg'=>h.lt g hg'
theorem owns_mid {base:Nat} {e:TypeId} {size:Nat} {v:Value} {n:Nat} {xs:List Value} (h:w.ownsRow base e size v n xs) (m:Mid lo hi w w') (hd:hi≤base ∨ w.heap.size≤lo):w'.ownsRow base e size v n xs:=by
 refine ⟨h.1,?_⟩;rcases h.2 with hn | ⟨g,cap,cur,hv,hbg,hgg,rest⟩
 ·exact .inl hn
 ·refine .inr ⟨g,cap,cur,hv,hbg,?_,rest⟩
  have hlt:=(Array.getElem?_eq_some_iff.1 hgg).1;rw [m.block g hlt (by omega)];exact hgg
theorem Mid.drew1 (w:World):Mid 0 0 w w.drew:=⟨rfl,rfl,rfl,Nat.le_refl _,fun _ _ _=>rfl⟩
theorem Mid.transNew {a b:Nat} {wa:World} (h:Mid lo hi w wa) (m:Mid a b wa w') (ha:w.heap.size≤a ∨ b=0):Mid lo hi w w' :=
 ⟨m.os.trans h.os,m.tape.trans h.tape,m.output.trans h.output,Nat.le_trans h.size m.size,fun k hk hn =>
  (m.block k (Nat.lt_of_lt_of_le hk h.size) (by omega)).trans (h.block k hk hn)⟩
theorem OSS.mk' {tSI tI:TypeId} {A:Option Addr} {c:Nat} {rows:List Row} {n:Nat} {base:Nat} {xss:List (List Int)} (h:w.ownsRow base tSI 1 (.slice A n c) n (rowsV rows)) (hr:OwnRows w base w.heap.size tI rows) (hd:rowsD rows=xss) :
  OSS w base w.heap.size tSI tI A c xss:=by
 have hl:xss.length=n:=by rw [← hd,rowsD_len,← rowsV_len];simpa using h.1
 subst hl;exact ⟨Nat.le_refl _,rows,hd,⟨Nat.le_refl _,h,fun g hg=>(h.lt g hg).2⟩,hr⟩
end
end
section
open Go.RowKit
theorem impl_InvertWord (A:Option Addr) (xs:List Int) (c B:Nat) (w:World) (hr:Rs w B A (ints xs)) (hB:B≤w.heap.size) (hok:OkI xs) (hl:xs.length≤4194304) :
  Calls Tryz.prog 124 #[.slice A xs.length c] w fun e w'=>RetI 3 (invW xs) w e w':=by
 have HOK:=Lib.hid hok;clear hok;have hmx:xs.length≤maxLen:=by unfold maxLen;omega
 obtain ⟨i0,hi,hz0,hz1,hz2⟩:=info_parts infoI;have hby:i0.bytes * xs.length≤281474976710656:=by rw [hz2];omega
 go_enter Tryz.func124,Tryz.ntmps124
 go_wp2_with (at_make;refine wpList_make_own _ rfl _ _ 34 rfl w.heap.size 3 i0 (.int .i64 0) 1 undSI hi hz0 hz1 .i64 .i64 _ xs.length rfl rfl rfl hby hmx (Nat.le_refl _) ?_;intro w1 hown1 hgr1)
 have hb1:=below_none hgr1;clear hi hz0 hz1 hz2 hby;go_loopw [3,4] (fun v i wr=>∃ j:Nat,j≤xs.length∧i=.int .i64 ((j:Int) - 1)∧wr.ownsRow w.heap.size 3 1 v (xs.length - j) (ints (invW (xs.drop j)))∧Below w.heap.size w wr)
  (fun _ i _=>(intOf i+1).toNat)
 case atStart=>exact ⟨xs.length,Nat.le_refl _,rfl,by simpa [invW,ints] using hown1,hb1⟩
 case round =>
  obtain ⟨j,hj,rfl,hown,hb⟩:=hrel;have hsz:=hb.size;cases j with
  | zero =>
   go_wp2_with fail;go_ret;exact RetI.mk (by rw [invW_len]) (by simpa using hown) hb
  | succ m =>
   rw [show (((m+1:Nat):Int) - 1)=(m:Int) from by omega];obtain ⟨b,off,x,rfl, -,hx,hc⟩:=((hr.more hB).below hb).int (show m < xs.length by omega);have hbx:=HOK.out x (List.mem_of_getElem? hx);have HW:=Lib.hid (wrap_neg hbx.1 hbx.2);have HX:=Lib.hid hx;clear hx hbx;go_wp2_with (at_builtin;refine wpList_push rfl _ _ 34 rfl w.heap.size 3 (.int .i64 0) 1 8 undSI infoI rfl (by decide) _ _ _ rfl hown 1 [.int .i64 (wrap64 (-x))] rfl rfl ?c1 ?c2 ?c3 hsz ?next)
   case c1=>exact one_of_ints [wrap64 (-x)]
   case c2=>unfold maxLen;omega
   case c3=>omega
   case next =>
    intro v' w1 hown1 hgr _;go_wp2_with fail;go_roundw
    case rel =>
     refine ⟨m,by omega,rfl,?_,hb.grown hgr hsz (fun g hg=>(hown.lt g hg).1)⟩;rw [drop_of xs HX.out,invW_cons,ints_append,show xs.length - m=xs.length - (m+1)+1 from by omega,← HW.out];exact hown1
    case measure=>simp [intOf]
def halfN (xs:List Int):Nat:=(xs.length+1) / 2
def halfA (xs:List Int):List Int:=xs.take (halfN xs)
def halfB (xs:List Int):List Int:=(invW xs).take (halfN xs)
def halves (xs:List Int):List Int × List Int:=if 0 < cmpW (halfA xs) (halfB xs) then (halfB xs,halfA xs) else (halfA xs,halfB xs)
theorem okI_invW {xs:List Int} (h:OkI xs):OkI (invW xs):=by
 intro x hx;unfold invW at hx;rw [List.mem_reverse,List.mem_map] at hx;obtain ⟨y,hy,rfl⟩:=hx;have:=h y hy;unfold negI minI;split <;> omega
end
section
open Go.RowKit
def RI (w:World) (lo hi:Nat) (A:Option Addr) (xs:List Int):Prop:=RV w lo hi A (ints xs)
def OI (w:World) (lo hi:Nat) (A:Option Addr) (c:Nat) (xs:List Int):Prop:=OV w lo hi 3 1 A c xs.length (ints xs)
theorem RI.mid {w w':World} {lo hi a b:Nat} {A:Option Addr} {xs:List Int} (h:RI w lo hi A xs) (m:Mid a b w w') (hd:b≤lo ∨ hi≤a):RI w' lo hi A xs:=RV.mid h m hd
theorem OI.mid {w w':World} {lo hi a b:Nat} {A:Option Addr} {c:Nat} {xs:List Int} (h:OI w lo hi A c xs) (m:Mid a b w w') (hd:b≤lo ∨ hi≤a):OI w' lo hi A c xs:=OV.mid h m hd
theorem OI.ri {w:World} {lo hi:Nat} {A:Option Addr} {c:Nat} {xs:List Int} (h:OI w lo hi A c xs):RI w lo hi A xs:=OV.rv h
theorem OI.size {w:World} {lo hi:Nat} {A:Option Addr} {c:Nat} {xs:List Int} (h:OI w lo hi A c xs):hi≤w.heap.size:=h.1
theorem RI.rs {w:World} {lo hi:Nat} {A:Option Addr} {xs:List Int} (h:RI w lo hi A xs):Rs w w.heap.size A (ints xs):=(RV.rs h).more h.1
abbrev Stp (v:Value) (w:World) (e:Ending) (w':World):Prop:=e=.returned v∧Mid 0 0 w w'
end
section
open Go.ChangeShapes Go.WideShapes Go.ChangeAt Go.RowKit
open Go.Joins
section
variable {H:Type} {enc:TypeId × Value→H} {P:Program} {W:World} {T E:TypeId}
def OkSS (xss:List (List Int)):Prop:=(xss.length≤9223372036854775807∧∀ xs∈xss,xs.length≤9223372036854775807)∧∀ xs∈xss,OkI xs
end
end
section
open Go.RowKit
end
section
open Go.RowKit
structure Mv where
 kind:Int
 i:Int
 j:Int
 sign:Int
deriving DecidableEq
def MvOk (l:List (List Int)) (m:Mv):Prop:=0≤m.j∧m.j < l.length∧m.j≠m.i∧(m.sign=1 ∨ m.sign = -1)
instance (l:List (List Int)) (m:Mv):Decidable (MvOk l m):=by unfold MvOk;infer_instance
theorem okI_app {xs ys:List Int} (h:OkI xs) (h':OkI ys):OkI (xs++ys):=fun x hx=>by
 rcases List.mem_append.1 hx with h1 | h1
 ·exact h x h1
 ·exact h' x h1
end
section
open Go.RowKit
theorem owns_cut {w:World} {base:Nat} {e:TypeId} {size g n cap:Nat} {xs:List Value} (h:w.ownsRow base e size (.slice (some ⟨g,0,none⟩) n cap) n xs) {m:Nat} (hm:m≤n) :
  w.ownsRow base e size (.slice (some ⟨g,0,none⟩) m cap) m (xs.take (m * size)):=by
 have hle:m * size≤n * size:=Nat.mul_le_mul_right _ hm;refine ⟨?_,?_⟩
 ·rw [List.length_take,h.1]
  omega
 ·rcases h.2 with ⟨hv,_⟩ | ⟨g',cap',cur,hv,hbg,hgg,hnc,hcm,hcs,htake⟩
  ·cases hv
  ·refine .inr ⟨g',cap',cur,?_,hbg,hgg,by omega,hcm,hcs,?_⟩
   ·injection hv with h1 _ h3
    rw [h1,h3]
   ·rw [← htake,List.take_take,Nat.min_eq_left hle]
theorem redStep_mem {out:List Int} {x y:Int} (h:y∈redStep out x):y∈out ∨ y=x:=by
 unfold redStep at h;split at h
 ·split at h
  ·exact .inl ((List.dropLast_sublist _).subset h)
  ·simpa using h
 ·simp at h
  exact .inr h
theorem red_mem {out w:List Int} {y:Int} (h:y∈red out w):y∈out ∨ y∈w:=by
 induction w generalizing out with
 | nil=>exact .inl h
 | cons x t ih =>
  rw [red_cons] at h;rcases ih h with h1 | h1
  ·rcases redStep_mem h1 with h2 | rfl
   ·exact .inl h2
   ·exact .inr (List.mem_cons_self)
  ·exact .inr (List.mem_cons_of_mem _ h1)
theorem red_ok {w:List Int} (h:OkI w):OkI (red [] w):=fun x hx=>by
 rcases red_mem hx with h1 | h1
 ·simp at h1
 ·exact h x h1
theorem red_step (w:List Int) {k:Nat} {x:Int} (h:w[k]?=some x) (out:List Int):red out (w.take (k+1))=redStep (red out (w.take k)) x:=by
 rw [take_succ_of w h,red_append]
 rfl
theorem red_nil_len (w:List Int):(red [] w).length≤w.length:=by
 have:=red_len [] w
 simpa using this
theorem sumL_flatten (d:List (List Int)):d.flatten.length=sumL d:=by
 simp [sumL,List.length_flatten]
theorem red_flatten_step (d:List (List Int)) {k:Nat} {xs:List Int} (h:d[k]?=some xs):red [] (d.take (k+1)).flatten=red (red [] (d.take k).flatten) xs:=by
 rw [take_succ_of d h,List.flatten_append,red_append];simp
theorem okI_flatten {d:List (List Int)} (h:∀ xs∈d,OkI xs):OkI d.flatten:=fun x hx=>by
 obtain ⟨xs,h1,h2⟩:=List.mem_flatten.1 hx;exact h xs h1 x h2
theorem eq_concat {α:Type} (l:List α) (h:0 < l.length):∃ ys a,l=ys++[a]:=by
 rcases List.eq_nil_or_concat l with rfl | ⟨ys,a,e⟩
 ·simp at h
 ·exact ⟨ys,a,by rw [e];simp⟩
end
section
open Go.RowKit
def PrOut (w wr:World) (v:Value) (out:List Int):Prop:=wr.ownsRow w.heap.size 3 1 v out.length (ints out)∧Below w.heap.size w wr
theorem impl_product (A:Option Addr) (d:List (List Int)) (c:Nat) (w:World) (lo hi:Nat) (hr:RSS w lo hi A d) (hok:∀ xs∈d,OkI xs) (hl:d.length≤4194304) (hs:sumL d≤268435456) :
  Calls Tryz.prog 122 #[.slice A d.length c] w fun e w'=>RetI 3 (red [] d.flatten) w e w':=by
 have HOK:=Lib.hid hok;clear hok;have hb0:=(Below.refl w.heap.size w).alloc (Nat.le_refl _) (.cells #[] 3);have ho0:=owns_empty w 3 1;go_enter Tryz.func122,Tryz.ntmps122
 go_wp2_with fail;go_loopw [3,5,7,11] (fun v _ _ i wr=>∃ k:Nat,k≤d.length∧i=.int .i64 k∧PrOut w wr v (red [] (d.take k).flatten)) (fun _ _ _ i _=>d.length - (intOf i).toNat)
 case atStart=>exact ⟨0,Nat.zero_le _,rfl,by simpa [red,ints] using ho0,hb0⟩
 case round =>
  obtain ⟨k,hk,rfl,hown,hb⟩:=hrel;by_cases hlt:k < d.length
  ·obtain ⟨b,off,A',c',xs,rfl, -,hbh,hx,hc,hrx⟩:=hr.row hlt
   have hhi:=hr.size;have hcw:wr.cell? ⟨b,off+k,none⟩=some (.slice A' xs.length c'):=(hb.cell (by simp;omega)).trans hc;have hm:=List.mem_of_getElem? hx;have hox:=HOK.out xs hm;have hlx:=len_le_sumL hm;have hlx1:xs.length≤268435456:=by omega
   obtain ⟨out0,hout0⟩:∃ o,o=red [] (d.take k).flatten:=⟨_,rfl⟩
   have hstep:=red_flatten_step d hx;rw [← hout0] at hown hstep;have hok0:OkI out0:=by
    rw [hout0];exact red_ok (okI_flatten fun ys hy=>HOK.out ys (List.mem_of_mem_take hy))
   have hl0:out0.length+xs.length≤268435456:=by
    have h1:=red_nil_len (d.take k).flatten;rw [← hout0,sumL_flatten] at h1;have h2:=sumL_take_succ hx;have h3:=sumL_take_le d (k+1);omega
   have HX:=Lib.hid hx;have HS:=Lib.hid hstep;have HO0:=Lib.hid hok0;have HOX:=Lib.hid hox;clear hx hm hox hout0 hstep hok0 hlx;go_wp2_with fail;go_loopw [3,7,17] (fun v _ j wr2=>∃ l:Nat,l≤xs.length∧j=.int .i64 l∧PrOut w wr2 v (red out0 (xs.take l))) (fun _ _ j _=>xs.length - (intOf j).toNat)
   case atStart=>exact ⟨0,Nat.zero_le _,rfl,hown,hb⟩
   case round =>
    clear hown hb hcw;obtain ⟨l,hlk,rfl,hown,hb⟩:=hrel;have hsz:=hb.size;by_cases hl2:l < xs.length
    ·obtain ⟨b',off',x,rfl, -,hxx,hcx⟩:=((hrx.rs.more hhi).below hb).int hl2
     have hst:=red_step xs hxx out0;have hbx:=HOX.out x (List.mem_of_getElem? hxx);have hlen:=red_len out0 (xs.take l);rw [List.length_take] at hlen;obtain ⟨out1,ho1⟩:∃ o,o=red out0 (xs.take l):=⟨_,rfl⟩
     rw [← ho1] at hown hst hlen;have hok1:OkI out1:=fun y hy=>by
      rw [ho1] at hy;rcases red_mem hy with h1 | h1
      ·exact HO0.out y h1
      ·exact HOX.out y (List.mem_of_mem_take h1)
     clear ho1 hxx;have HST:=Lib.hid hst;have HBX:=Lib.hid hbx;clear hst hbx;rcases Nat.eq_zero_or_pos out1.length with he | hp
     ·obtain rfl:=List.eq_nil_of_length_eq_zero he
      clear he hok1 hlen;obtain ⟨A1,c1,rfl, -, -⟩:=owns_shape hown;go_wp2_with (at_builtin;refine wpList_push rfl _ _ 34 rfl w.heap.size 3 (.int .i64 0) 1 8 undSI infoI rfl (by decide) _ _ _ rfl hown 1 [.int .i64 x] rfl rfl (one_of_ints [x]) (by unfold maxLen;simp) (by simp) hsz ?n1)
      case n1 =>
       intro v' w1 hown1 hgr _;go_wp2_with fail;go_roundw
       case rel =>
        refine ⟨l+1,by omega,by go_num,?_,hb.grown hgr hsz (fun g hg=>(hown.lt g hg).1)⟩;rw [HST.out,redStep_empty];exact hown1
       case measure=>simp [intOf];omega
     ·obtain ⟨ys,a,rfl⟩:=eq_concat out1 hp
      have hba:=hok1 a (by simp);rw [List.length_append] at hown hlen;simp only [List.length_cons,List.length_nil,Nat.zero_add] at hown hlen;clear hp hok1;obtain ⟨A1,c1,rfl,hnc, -⟩:=owns_shape hown;obtain ⟨g,rfl, -, -⟩:=owns_addr hown (Nat.succ_pos _);have hca:wr.cell? ⟨g,ys.length,none⟩=some (.int .i64 a):=by
       rw [hown.cellAt ys.length (by omega)];simp [ints]
      have HA:=Lib.hid hba;obtain ⟨ha1,ha2⟩:=hba;by_cases hI:invB a x=true
      ·have HI:=Lib.hid hI
       clear hI;have hys:ys.length≤c1:=by omega
       go_wp2_with fail;refine (impl_areInverse _ _ _ ha1 ha2).mono ?_;rintro e w' ⟨rfl,rfl⟩;rw [HI.out];go_wp2_with fail;go_roundw
       case rel =>
        refine ⟨l+1,by omega,by go_num,?_,hb⟩;rw [HST.out,redStep_pop HI.out];have h1:=owns_cut hown (Nat.le_succ ys.length);rw [Nat.mul_one,ints_append,List.take_left' (ints_len ys)] at h1;exact h1
       case measure=>simp [intOf];omega
      ·have hI':invB a x=false:=by simpa using hI
       have HI:=Lib.hid hI';clear hI hI';go_wp2_with fail;refine (impl_areInverse _ _ _ ha1 ha2).mono ?_;rintro e w' ⟨rfl,rfl⟩;rw [HI.out];go_wp2_with (at_builtin;refine wpList_push rfl _ _ 34 rfl w.heap.size 3 (.int .i64 0) 1 8 undSI infoI rfl (by decide) _ _ _ rfl hown 1 [.int .i64 x] rfl rfl (one_of_ints [x]) (by unfold maxLen;omega) (by omega) hsz ?n2)
       case n2 =>
        intro v' w1 hown1 hgr _;go_wp2_with fail;go_roundw
        case rel =>
         refine ⟨l+1,by omega,by go_num,?_,hb.grown hgr hsz (fun g hg=>(hown.lt g hg).1)⟩;rw [HST.out,redStep_push HI.out,ints_append,List.length_append,List.length_append];exact hown1
        case measure=>simp [intOf];omega
    ·obtain rfl:l=xs.length:=by omega
     rw [List.take_length] at hown;go_wp2_with fail;go_roundw
     case rel =>
      refine ⟨k+1,by omega,by go_num,?_,hb⟩;rw [HS.out];exact hown
     case measure=>simp [intOf];omega
  ·obtain rfl:k=d.length:=by omega
   rw [List.take_length] at hown;go_wp2_with fail;go_ret;exact RetI.mk rfl hown hb
end
section
open Go.RowKit
theorem invB_spec {a x:Int} (ha:-9223372036854775808≤a∧a≤9223372036854775807) (hx:-9223372036854775808≤x∧x≤9223372036854775807) :
  invB a x=true↔(x≠0∧a=wrap64 (-x)∧a≠x):=by
 rw [invB_iff,wrap_neg hx.1 hx.2];unfold negI minI;split <;> omega
def RdOut (w wr:World) (v:Value) (out:List Int):Prop:=wr.ownsRow w.heap.size 3 1 v out.length (ints out)∧Below w.heap.size w wr
theorem spec_ReduceLetters (A:Option Addr) (xs:List Int) (c:Nat) (w:World) (B:Nat) (hr:Rs w B A (ints xs)) (hB:B≤w.heap.size) (hok:OkI xs) (hl:xs.length≤268435456) :
  Calls Tryz.prog 109 #[.slice A xs.length c] w fun e w'=>RetI 3 (red [] xs) w e w':=by
 have HOK:=Lib.hid hok;clear hok;have hb0:=(Below.refl w.heap.size w).alloc (Nat.le_refl _) (.cells #[] 3);have ho0:=owns_empty w 3 1;go_enter Tryz.func109,Tryz.ntmps109
 go_wp2_with fail;go_loopw [3,4,5] (fun v i _ wr=>∃ k:Nat,k≤xs.length∧i=.int .i64 k∧RdOut w wr v (red [] (xs.take k))) (fun _ i _ _=>xs.length - (intOf i).toNat)
 case atStart=>exact ⟨0,Nat.zero_le _,rfl,ho0,hb0⟩
 case round =>
  obtain ⟨k,hk,rfl,hown,hb⟩:=hrel;have hsz:=hb.size;by_cases hlt:k < xs.length
  ·obtain ⟨b,off,x,rfl, -,hxx,hc⟩:=((hr.more hB).below hb).int hlt
   have hlt3:(k:Int) < (xs.length:Int):=by omega
   have hst:=red_step xs hxx [];have hbx:=HOK.out x (List.mem_of_getElem? hxx);have hlen:=red_len [] (xs.take k);rw [List.length_take,List.length_nil,Nat.zero_add] at hlen;have hok1:OkI (red [] (xs.take k)):=red_ok fun y hy=>HOK.out y (List.mem_of_mem_take hy);obtain ⟨out1,ho1⟩:∃ o,o=red [] (xs.take k):=⟨_,rfl⟩
   rw [← ho1] at hown hst hlen hok1;have HBX:=Lib.hid hbx;have HST:=Lib.hid hst;clear ho1 hxx hbx hst;rcases Nat.eq_zero_or_pos out1.length with he | hp
   ·obtain rfl:=List.eq_nil_of_length_eq_zero he
    clear he hok1 hlen;obtain ⟨A1,c1,rfl, -, -⟩:=owns_shape hown;go_wp2_with fail;go_quiet (fail)
    go_wp2_with (at_builtin;refine wpList_push rfl _ _ 34 rfl w.heap.size 3 (.int .i64 0) 1 8 undSI infoI rfl (by decide) _ _ _ rfl (owns_drewN hown _) 1 [.int .i64 x] rfl rfl (one_of_ints [x]) (by unfold maxLen;simp) (by simp) hsz ?n1)
    case n1 =>
     intro v' w1 hown1 hgr _;go_wp2_with fail;go_roundw
     case rel =>
      refine ⟨k+1,by omega,by go_num,?_,hb.grown (owns_row hgr) hsz (fun g hg=>(hown.lt g hg).1)⟩;rw [HST.out,redStep_empty];exact hown1
     case measure=>simp [intOf];omega
   ·obtain ⟨ys,a,rfl⟩:=eq_concat out1 hp
    have hba:=hok1 a (by simp);rw [List.length_append] at hown hlen;simp only [List.length_cons,List.length_nil,Nat.zero_add] at hown hlen;clear hp hok1;obtain ⟨A1,c1,rfl,hnc, -⟩:=owns_shape hown;obtain ⟨g,rfl, -, -⟩:=owns_addr hown (Nat.succ_pos _);have hca:wr.cell? ⟨g,ys.length,none⟩=some (.int .i64 a):=by
     rw [hown.cellAt ys.length (by omega)];simp [ints]
    have hiff:=invB_spec hba HBX.out;have HI:=Lib.hid hiff;clear hba hiff;obtain ⟨nx,hnx⟩:∃ nx,wrap64 (-x)=nx:=⟨_,rfl⟩
    have hp0:(0:Int) < (ys.length:Int)+1:=by omega
    have hp1:(ys.length:Int)+1 - 1=(ys.length:Int):=by omega
    have hys:ys.length≤c1:=by omega
    by_cases hpop:invB a x=true
    ·obtain ⟨h1,h2,h3⟩:=HI.out.1 hpop
     have hx0:(x != 0)=true:=by simpa using h1
     have hanx:(a == nx)=true:=by rw [← hnx];simpa using h2
     have hax:(a != x)=true:=by simpa using h3
     have HP:=Lib.hid hpop;clear h1 h2 h3 hpop;go_wp2_with fail;go_quiet (fail)
     go_wp2_with fail;go_roundw
     case rel =>
      refine ⟨k+1,by omega,by go_num,?_,by first | exact below_drewN hb _ | exact hb⟩;rw [HST.out,redStep_pop HP.out];have h1:=owns_cut hown (Nat.le_succ ys.length);rw [Nat.mul_one,ints_append,List.take_left' (ints_len ys)] at h1;exact owns_drewN h1 _
     case measure=>simp [intOf];omega
    ·have hpf:invB a x=false:=by simpa using hpop
     have HP:=Lib.hid hpf;have hcases:(x != 0)=false ∨ ((x != 0)=true∧(a == nx)=false) ∨ ((x != 0)=true∧(a == nx)=true∧(a != x)=false):=by
      rw [← hnx];by_cases h1:x=0
      ·left;simpa using h1
      ·by_cases h2:a=wrap64 (-x)
       ·right;right
        refine ⟨by simpa using h1,by simpa using h2,?_⟩;cases hv:(a != x) with
        | false=>rfl
        | true=>exact absurd (HI.out.2 ⟨h1,h2,by simpa using hv⟩) hpop
       ·right;left
        exact ⟨by simpa using h1,by simpa using h2⟩
     clear hpop hpf;rcases hcases with h1 | ⟨h1,h2⟩ | ⟨h1,h2,h3⟩
     ·go_wp2_with fail
      go_quiet (fail)
      go_wp2_with (at_builtin;refine wpList_push rfl _ _ 34 rfl w.heap.size 3 (.int .i64 0) 1 8 undSI infoI rfl (by decide) _ _ _ rfl (owns_drewN hown _) 1 [.int .i64 x] rfl rfl (one_of_ints [x]) (by unfold maxLen;omega) (by omega) hsz ?n2)
      case n2 =>
       intro v' w1 hown1 hgr _;go_wp2_with fail;go_roundw
       case rel =>
        refine ⟨k+1,by omega,by go_num,?_,hb.grown (owns_row hgr) hsz (fun g hg=>(hown.lt g hg).1)⟩;rw [HST.out,redStep_push HP.out,ints_append,List.length_append,List.length_append];exact hown1
       case measure=>simp [intOf];omega
     ·go_wp2_with fail
      go_quiet (fail)
      go_wp2_with (at_builtin;refine wpList_push rfl _ _ 34 rfl w.heap.size 3 (.int .i64 0) 1 8 undSI infoI rfl (by decide) _ _ _ rfl (owns_drewN hown _) 1 [.int .i64 x] rfl rfl (one_of_ints [x]) (by unfold maxLen;omega) (by omega) hsz ?n3)
      case n3 =>
       intro v' w1 hown1 hgr _;go_wp2_with fail;go_roundw
       case rel =>
        refine ⟨k+1,by omega,by go_num,?_,hb.grown (owns_row hgr) hsz (fun g hg=>(hown.lt g hg).1)⟩;rw [HST.out,redStep_push HP.out,ints_append,List.length_append,List.length_append];exact hown1
       case measure=>simp [intOf];omega
     ·go_wp2_with fail
      go_quiet (fail)
      go_wp2_with (at_builtin;refine wpList_push rfl _ _ 34 rfl w.heap.size 3 (.int .i64 0) 1 8 undSI infoI rfl (by decide) _ _ _ rfl (owns_drewN hown _) 1 [.int .i64 x] rfl rfl (one_of_ints [x]) (by unfold maxLen;omega) (by omega) hsz ?n4)
      case n4 =>
       intro v' w1 hown1 hgr _;go_wp2_with fail;go_roundw
       case rel =>
        refine ⟨k+1,by omega,by go_num,?_,hb.grown (owns_row hgr) hsz (fun g hg=>(hown.lt g hg).1)⟩;rw [HST.out,redStep_push HP.out,ints_append,List.length_append,List.length_append];exact hown1
       case measure=>simp [intOf];omega
  ·obtain rfl:k=xs.length:=by omega
   rw [List.take_length] at hown;have hlr:=red_nil_len xs;obtain ⟨out,hout⟩:∃ o,o=red [] xs:=⟨_,rfl⟩
   rw [← hout] at hown hlr;have HO:=Lib.hid hout;clear hout;obtain ⟨A1,c1,rfl,hnc, -⟩:=owns_shape hown;have ho2:=owns_empty wr 3 1;have ho2':(wr.alloc (.cells #[] 3)).ownsRow w.heap.size 3 1 (.slice (some ⟨wr.heap.size,0,none⟩) 0 0) 0 []:=owns_base ho2 hsz;have hra:Rs (wr.alloc (.cells #[] 3)) wr.heap.size A1 (ints out):=(Rs.of_own hown).alloc (Nat.le_refl _) _;have hla:(ints out).length=out.length * 1:=by rw [ints_len];omega
   go_wp2_with (at_builtin;refine wpList_cat rfl _ _ 34 rfl w.heap.size 3 (.int .i64 0) 1 8 undSI infoI rfl (by decide) _ _ _ rfl ho2' A1 out.length c1 wr.heap.size (ints out) rfl hra hla (one_of_ints _) ?c2 ?c3 (by simp;omega) ?next)
   case c2=>unfold maxLen;omega
   case c3=>omega
   case next =>
    intro v1 w1 hown1 hgr1 _;have hb1:Below w.heap.size w w1:=(hb.grown (World.grownBy_alloc wr _ none) hsz (by intro g h;cases h)).grown hgr1 (by simp;omega) (fun g hg=>(ho2'.lt g hg).1);go_wp2_with fail;go_ret;rw [← HO.out];exact RetI.mk rfl (by simpa using hown1) hb1
end
section
open Go.RowKit
end
section
open Go.RowKit
theorem cell_keep {w w':World} {lo hi b i:Nat} {u:Value} (m:Mid lo hi w w') (hb:b < w.heap.size) (hd:b < lo ∨ hi≤b) (hc:w.cell? ⟨b,i,none⟩=some u):w'.cell? ⟨b,i,none⟩=some u :=
 (World.cell?_of_block (m.block b hb (by omega))).trans hc
section
variable {P:Program} {w:World}
theorem run_cat (base:Nat) (t ty e:TypeId) (z:Value) (size bytes:Nat) (ht:P.underlying t=some (.slice e)) (hinfo:(P.info? e).map (fun i=>(i.zero,i.size,i.bytes))=some (some z,size,bytes))
  (hzs:z.cells.size=size) (hsz:0 < size)
  (v:Value) (n:Nat) (xs:List Value) (hown:w.ownsRow base e size v n xs)
  (A:Option Addr) (m c B:Nat) (news:List Value) (hr:Rs w B A news) (hl:news.length=m * size) (h1:∀ u∈news,u.oneCell'=true)
  (h63:n+m≤maxLen) (hbytes:(n+m) * bytes≤140737488355328) (hbase:base≤w.heap.size) :
  ∃ v' w',(Builtin.append_ #[t,t] ty #[v,.slice A m c]).run P w=.ok v' w'∧w'.ownsRow base e size v' (n+m) (xs++news)∧w.grownBy w' v.ownBlock ∧
   (v'.ownBlock=v.ownBlock ∨ v'.ownBlock=some w.heap.size):=by
 obtain ⟨i,hi,hz,hsize,hby⟩:=info_parts hinfo;rcases A with _ | ad
 ·have hn:news=[]:=by
   cases hne:news with
   | nil=>rfl
   | cons u r =>
    obtain ⟨b,off,he,_⟩:=hr (by rw [hne];simp);cases he
  subst hn;have hm:m=0:=by
   rcases Nat.eq_zero_or_pos m with h0 | h0
   ·exact h0
   ·have:=Nat.mul_pos h0 hsz
    simp at hl;omega
  subst hm;exact ⟨v,w,run_append_none base t ty e i size ht hi v n xs hown c,by simpa using hown,World.grownBy.refl w _,.inl rfl⟩
 ·have hcells:∀ j u,news[j]?=some u→w.cell? (ad.add j)=some u:=by
   intro j u hu;obtain ⟨b,off,he,_,hc⟩:=hr (by intro h0;subst h0;simp at hu);injection he with he
   subst he;rw [Addr.add_lit];exact hc j u hu
  obtain ⟨v',w',hrun,h2,h3,_,h5⟩:=run_append_own_at (P:=P) w base t ty e i z size bytes ht hi hz hsize hby hzs hsz v n xs hown ad m c news hl hcells h1 h63 hbytes hbase;exact ⟨v',w',hrun,h2,h3,h5⟩
theorem wp_cat {o:Oper} {a:Act} {K:Act→World→Prop} {Q:Exit→Act→World→Prop} (s x:Operand) (t:TypeId)
  (ho:o.op=.call { callee:=.builtin .append,args:=#[s,x],argTypes:=#[t,t] })
  (base:Nat) (e:TypeId) (z:Value) (size bytes:Nat) (ht:P.underlying t=some (.slice e)) (hinfo:(P.info? e).map (fun i=>(i.zero,i.size,i.bytes))=some (some z,size,bytes))
  (hzs:z.cells.size=size) (hsz:0 < size)
  (v:Value) (n:Nat) (xs:List Value) (hs:a.eval s=v) (hown:w.ownsRow base e size v n xs)
  (A:Option Addr) (m c B:Nat) (news:List Value) (hx:a.eval x=.slice A m c) (hr:Rs w B A news) (hl:news.length=m * size) (h1:∀ u∈news,u.oneCell'=true)
  (h63:n+m≤maxLen) (hbytes:(n+m) * bytes≤140737488355328) (hbase:base≤w.heap.size)
  (h:∀ v' w',w'.ownsRow base e size v' (n+m) (xs++news)→w.grownBy w' v.ownBlock→(v'.ownBlock=v.ownBlock ∨ v'.ownBlock=some w.heap.size)→K (a.put o.dst v') w'):o.wp P a w K Q:=by
 obtain ⟨v',w',hrun,h2,h3,h4⟩:=run_cat (P:=P) base t o.type e z size bytes ht hinfo hzs hsz v n xs hown A m c B news hr hl h1 h63 hbytes hbase;unfold Oper.wp execOp;simp only [ho,resolve,invoke,builtin,Sem.run_bind,Sem.run_pure,Result.andThen_ok,List.map_toArray,List.map_cons,List.map_nil,hs,hx,hrun];exact h v' w' h2 h3 h4
theorem step_cat {ops:Array Oper} {o:Oper} {a:Act} {K:Act→World→Prop} {Q:Exit→Act→World→Prop} {E:Prop} (hgd:o.guard=none) (s x:Operand) (t:TypeId)
  (ho:o.op=.call { callee:=.builtin .append,args:=#[s,x],argTypes:=#[t,t] })
  (base:Nat) (e:TypeId) (z:Value) (size bytes:Nat) (ht:P.underlying t=some (.slice e)) (hinfo:(P.info? e).map (fun i=>(i.zero,i.size,i.bytes))=some (some z,size,bytes))
  (hzs:z.cells.size=size) (hsz:0 < size)
  (v:Value) (n:Nat) (xs:List Value) (hs:a.eval s=v) (hown:w.ownsRow base e size v n xs)
  (A:Option Addr) (m c B:Nat) (news:List Value) (hx:a.eval x=.slice A m c) (hr:Rs w B A news) (hl:news.length=m * size) (h1:∀ u∈news,u.oneCell'=true)
  (h63:n+m≤maxLen) (hbytes:(n+m) * bytes≤140737488355328) (hbase:base≤w.heap.size)
  (h:∀ v' w',w'.ownsRow base e size v' (n+m) (xs++news)→w.grownBy w' v.ownBlock→(v'.ownBlock=v.ownBlock ∨ v'.ownBlock=some w.heap.size)→K (a.put o.dst v') w') :
  if Region.wanted o (yielded ops a.tmps)=true then Oper.wp P o a w K Q else E:=by
 have hw:Region.wanted o (yielded ops a.tmps)=true:=by simp [Region.wanted,hgd]
 rw [if_pos hw];exact wp_cat s x t ho base e z size bytes ht hinfo hzs hsz v n xs hs hown A m c B news hx hr hl h1 h63 hbytes hbase h
end
end
section
open Go.RowKit
theorem spec_MultiplyWords (A A':Option Addr) (xs ys:List Int) (c c':Nat) (w:World) (hr:Rs w w.heap.size A (ints xs)) (hr':Rs w w.heap.size A' (ints ys)) (hok:OkI xs) (hok':OkI ys) (hl:xs.length+ys.length≤268435456) :
  Calls Tryz.prog 76 #[.slice A xs.length c,.slice A' ys.length c'] w fun e w'=>RetI 3 (red [] (xs++ys)) w e w':=by
 have hoe:=owns_empty w 3 1;have hb0:Below w.heap.size w (w.alloc (.cells #[] 3)):=(Below.refl w.heap.size w).alloc (Nat.le_refl _) _;have hra:Rs (w.alloc (.cells #[] 3)) w.heap.size A (ints xs):=hr.alloc (Nat.le_refl _) _;have hla:(ints xs).length=xs.length * 1:=by rw [ints_len];omega
 have hlb:(ints ys).length=ys.length * 1:=by rw [ints_len];omega
 have hoo:=Lib.hid (okI_app hok hok');go_enter Tryz.func76,Tryz.ntmps76
 go_wp2_with (at_builtin;refine wpList_cat rfl (.tmp 5) (.tmp 6) 34 rfl w.heap.size 3 (.int .i64 0) 1 8 undSI infoI rfl (by decide) _ _ _ rfl hoe A xs.length c w.heap.size (ints xs) rfl hra hla (one_of_ints _) ?c4 ?c5 ?c6 ?next)
 case c4=>unfold maxLen;omega
 case c5=>omega
 case c6=>simp
 case next =>
  intro v2 w2 ho2 hgr2 _;try rw [Nat.zero_add,List.nil_append] at ho2
  have hb2:Below w.heap.size w w2:=hb0.grown hgr2 (by simp) (fun g hg=>(hoe.lt g hg).1);have hrb:Rs w2 w.heap.size A' (ints ys):=hr'.below hb2;have hs2:=hb2.size;go_wp2_with (at_builtin;refine wpList_cat rfl (.tmp 7) (.tmp 8) 34 rfl w.heap.size 3 (.int .i64 0) 1 8 undSI infoI rfl (by decide) _ _ _ rfl ho2 A' ys.length c' w.heap.size (ints ys) rfl hrb hlb (one_of_ints _) ?d4 ?d5 ?d6 ?next2)
  case d4=>unfold maxLen;omega
  case d5=>omega
  case d6=>omega
  case next2 =>
   intro v3 w3 ho3 hgr3 _;have hb3:Below w.heap.size w w3:=hb2.grown hgr3 hs2 (fun g hg=>(ho2.lt g hg).1);rw [← ints_append,← List.length_append] at ho3;have hlz:(xs++ys).length≤268435456:=by rw [List.length_append];exact hl
   obtain ⟨zs,hzs⟩:∃ zs,zs=xs++ys:=⟨_,rfl⟩
   rw [← hzs] at ho3 hoo hlz;have HZ:=Lib.hid hzs;clear hzs;obtain ⟨A3,c3,rfl, -, -⟩:=owns_shape ho3;go_wp2_with fail;refine (spec_ReduceLetters A3 zs c3 w3 w3.heap.size (Rs.of_own ho3) (Nat.le_refl _) hoo.out hlz).mono ?_;rintro e w4 ⟨A4,c4,rfl,ho4,hb4⟩;go_wp2_with fail;go_ret;obtain rfl:=HZ.out;exact ⟨A4,c4,rfl,owns_base ho4 hb3.size,hb3.trans (hb4.mono hb3.size)⟩
theorem impl_InvertWordE (A:Option Addr) (xs:List Int) (c:Nat) (w:World) (hr:Rs w w.heap.size A (ints xs)) (hok:OkI xs) (hl:xs.length≤4194304) :
  Calls Tryz.prog 124 #[.slice A xs.length c] w fun e w'=>∃ A2 c2,e=.returned (.slice A2 (invW xs).length c2)∧w'.ownsRow w.heap.size 3 1 (.slice A2 (invW xs).length c2) (invW xs).length (ints (invW xs))∧Below w.heap.size w w':=impl_InvertWord A xs c _ w hr (Nat.le_refl _) hok hl
theorem spec_InvertWordE (A:Option Addr) (xs:List Int) (c:Nat) (w:World) (hr:Rs w w.heap.size A (ints xs)) (hok:OkI xs) (hl:xs.length≤4194304) :
  Calls Tryz.prog 119 #[.slice A xs.length c] w fun e w'=>∃ A2 c2,e=.returned (.slice A2 (invW xs).length c2)∧w'.ownsRow w.heap.size 3 1 (.slice A2 (invW xs).length c2) (invW xs).length (ints (invW xs))∧Below w.heap.size w w':=spec_InvertWord A xs c _ w hr (Nat.le_refl _) hok hl
end
section
open Go.RowKit
theorem spec_MultiplyWordsE (A A':Option Addr) (xs ys:List Int) (c c':Nat) (w:World) (hr:Rs w w.heap.size A (ints xs)) (hr':Rs w w.heap.size A' (ints ys)) (hok:OkI xs) (hok':OkI ys) (hl:xs.length+ys.length≤268435456) :
  Calls Tryz.prog 76 #[.slice A xs.length c,.slice A' ys.length c'] w fun e w'=>∃ A2 c2,e=.returned (.slice A2 (red [] (xs++ys)).length c2)∧w'.ownsRow w.heap.size 3 1 (.slice A2 (red [] (xs++ys)).length c2) (red [] (xs++ys)).length (ints (red [] (xs++ys)))∧Below w.heap.size w w' :=
 spec_MultiplyWords A A' xs ys c c' w hr hr' hok hok' hl
end
def Lt3 (x:Int):Prop:=x≠0∧-3≤x∧x≤3
def LtW (w:List Int):Prop:=∀ x∈w,Lt3 x
def Rd (w:List Int):Prop:=∀ (a b:List Int) (x:Int),w≠a++x :: -x :: b
theorem Lt3.neg {x:Int} (h:Lt3 x):Lt3 (-x):=by unfold Lt3 at *;omega
theorem Lt3.negI {x:Int} (h:Lt3 x):negI x = -x:=by
 unfold Lt3 at h;unfold Go.Proofs.YthampgpcajmopaaGreat.negI minI;rw [if_neg (by omega)]
theorem LtW.nil:LtW []:=fun x h=>by simp at h
theorem LtW.left {a b:List Int} (h:LtW (a++b)):LtW a:=fun x hx=>h x (List.mem_append_left _ hx)
theorem LtW.right {a b:List Int} (h:LtW (a++b)):LtW b:=fun x hx=>h x (List.mem_append_right _ hx)
theorem LtW.app {a b:List Int} (h:LtW a) (k:LtW b):LtW (a++b):=fun x hx=>(List.mem_append.1 hx).elim (h x) (k x)
theorem LtW.head {x:Int} {t:List Int} (h:LtW (x :: t)):Lt3 x:=h x List.mem_cons_self
theorem LtW.tail {x:Int} {t:List Int} (h:LtW (x :: t)):LtW t:=fun y hy=>h y (List.mem_cons_of_mem _ hy)
theorem LtW.cons {x:Int} {t:List Int} (h:Lt3 x) (k:LtW t):LtW (x :: t):=fun y hy=>by
 rcases List.mem_cons.1 hy with rfl | hy
 ·exact h
 ·exact k y hy
theorem LtW.one {x:Int} (h:Lt3 x):LtW [x]:=LtW.cons h LtW.nil
theorem LtW.red {out w:List Int} (h:LtW out) (k:LtW w):LtW (red out w):=fun x hx=>(red_mem hx).elim (h x) (k x)
theorem invB_lt {x y:Int} (hx:Lt3 x) (hy:Lt3 y):invB x y=true↔x = -y:=by
 rw [invB_iff];unfold Lt3 at *;unfold minI;omega
theorem Rd.nil:Rd []:=fun a b x h=>by simp at h
theorem Rd.one (y:Int):Rd [y]:=fun a b x h=>by
 have:=congrArg List.length h;simp at this;omega
theorem Rd.left {a b:List Int} (h:Rd (a++b)):Rd a:=fun c d x e=>h c (d++b) x (by rw [e];simp)
theorem Rd.right {a b:List Int} (h:Rd (a++b)):Rd b:=fun c d x e=>h (a++c) d x (by rw [e];simp)
theorem snoc_cases {α:Type} (l:List α):l=[] ∨ ∃ t x,l=t++[x]:=by
 rcases List.eq_nil_or_concat l with h | ⟨t,x,h⟩
 ·exact .inl h
 ·exact .inr ⟨t,x,by simpa using h⟩
theorem snoc_inj {α:Type} {a b:List α} {x y:α} (h:a++[x]=b++[y]):a=b∧x=y:=by
 have:=List.append_inj' h rfl;exact ⟨this.1,by simpa using this.2⟩
theorem Rd.snoc {w:List Int} {x:Int} (h:Rd w) (hl:∀ t a,w=t++[a]→a≠-x):Rd (w++[x]):=by
 intro a b y e;rcases snoc_cases b with rfl | ⟨b',z,rfl⟩
 ·have e2:w++[x]=(a++[y])++[-y]:=by rw [e];simp
  obtain ⟨h1,h2⟩:=snoc_inj e2;exact hl a y h1 (by omega)
 ·have e2:w++[x]=(a++y :: -y :: b')++[z]:=by rw [e];simp
  exact h a b' y (snoc_inj e2).1
theorem Rd.last {w:List Int} {a x:Int} (h:Rd (w++[a]++[x])):a≠-x:=fun e=>h w [] a (by rw [e];simp)
theorem Rd.step {out:List Int} {x:Int} (h:Rd out) (hw:LtW out) (hx:Lt3 x):Rd (redStep out x):=by
 rcases snoc_cases out with rfl | ⟨o,a,rfl⟩
 ·rw [redStep_empty]
  exact Rd.one x
 ·have ha:=hw.right.head
  cases hb:invB a x with
  | true=>rw [redStep_pop hb];exact h.left
  | false =>
   rw [redStep_push hb];refine h.snoc fun t b e=>?_;obtain ⟨-,rfl⟩:=snoc_inj e;intro e2;rw [(invB_lt ha hx).2 e2] at hb;cases hb
theorem Rd.red {w:List Int}:∀ {out:List Int},Rd out→LtW out→LtW w→Rd (red out w):=by
 induction w with
 | nil=>exact fun h _ _=>h
 | cons x t ih =>
  intro out h ho hw;rw [red_cons];exact ih (h.step ho hw.head) (LtW.red (w:=[x]) ho (LtW.one hw.head)) hw.tail
theorem red_rd {w:List Int}:∀ {out:List Int},Rd (out++w)→LtW (out++w)→red out w=out++w:=by
 induction w with
 | nil=>intro out _ _;simp [red_nil]
 | cons x t ih =>
  intro out h hw;have hx:=hw.right.head;have e:redStep out x=out++[x]:=by
   rcases snoc_cases out with rfl | ⟨o,a,rfl⟩
   ·rfl
   ·refine redStep_push ?_
    have ha:=hw.left.right.head;cases hb:invB a x with
    | false=>rfl
    | true =>
     have e2:=(invB_lt ha hx).1 hb;exact absurd (by rw [e2];simp) (h o t a)
  rw [red_cons,e,ih (by simpa using h) (by simpa using hw)];simp
theorem red_self {w:List Int} (h:Rd w) (hw:LtW w):red [] w=w:=by
 have:=red_rd (out:=[]) (w:=w) (by simpa using h) (by simpa using hw)
 simpa using this
theorem rd_red {w:List Int} (hw:LtW w):Rd (red [] w):=Rd.nil.red LtW.nil hw
theorem lt_red {w:List Int} (hw:LtW w):LtW (red [] w):=LtW.red LtW.nil hw
theorem red_idem {w:List Int} (hw:LtW w):red [] (red [] w)=red [] w:=red_self (rd_red hw) (lt_red hw)
theorem redStep_inv {out:List Int} {x:Int} (h:Rd out) (hw:LtW out) (hx:Lt3 x):redStep (redStep out x) (-x)=out:=by
 rcases snoc_cases out with rfl | ⟨o,a,rfl⟩
 ·rw [redStep_empty]
  exact redStep_pop (out:=[]) ((invB_lt hx hx.neg).2 (by omega))
 ·have ha:=hw.right.head
  cases hb:invB a x with
  | true =>
   rw [redStep_pop hb];have e:=(invB_lt ha hx).1 hb;rcases snoc_cases o with rfl | ⟨p,b,rfl⟩
   ·rw [redStep_empty,e];rfl
   ·have hb2:=hw.left.right.head
    have:invB b (-x)=false:=by
     cases h2:invB b (-x) with
     | false=>rfl
     | true =>
      have e2:=(invB_lt hb2 hx.neg).1 h2;exact absurd e2 (by rw [← e];exact h.last)
    rw [redStep_push this,e]
  | false =>
   rw [redStep_push hb];exact redStep_pop ((invB_lt hx hx.neg).2 (by omega))
theorem red_pair {out:List Int} {x:Int} (b:List Int) (h:Rd out) (hw:LtW out) (hx:Lt3 x):red out (x :: -x :: b)=red out b:=by
 rw [red_cons,red_cons,redStep_inv h hw hx]
theorem red_app {b:List Int}:∀ {s out:List Int},Rd out→LtW out→LtW s→LtW b→red out (s++b)=red out (red s b):=by
 induction b with
 | nil=>intro s out _ _ _ _;simp [red_nil]
 | cons x t ih =>
  intro s out h ho hs hb;have hx:=hb.head;have hst:LtW (redStep s x):=LtW.red (w:=[x]) hs (LtW.one hx);rw [red_cons,← ih h ho hst hb.tail];rcases snoc_cases s with rfl | ⟨o,a,rfl⟩
  ·rw [redStep_empty];rfl
  ·cases hc:invB a x with
   | false=>rw [redStep_push hc];simp
   | true =>
    rw [redStep_pop hc];have ha:=hs.right.head;have e:=(invB_lt ha hx).1 hc;have e2:x = -a:=by omega
    subst e2;have h1:(o++[a])++-a :: t=o++(a :: -a :: t):=by simp
    rw [h1,red_append,red_append,red_pair t (h.red ho hs.left) (LtW.red ho hs.left) ha]
theorem red_right {a b:List Int} (ha:LtW a) (hb:LtW b):red [] (a++red [] b)=red [] (a++b):=by
 rw [red_append,red_append,← red_app (s:=[]) (rd_red ha) (lt_red ha) LtW.nil hb]
 rfl
theorem red_left (a b:List Int) (ha:LtW a):red [] (red [] a++b)=red [] (a++b):=by
 rw [red_append,red_append,red_idem ha]
def Eqv (a b:List Int):Prop:=red [] a=red [] b
theorem Eqv.app {a b c d:List Int} (ha:LtW a) (hb:LtW b) (hc:LtW c) (hd:LtW d) (h:Eqv a b) (k:Eqv c d):Eqv (a++c) (b++d):=by
 unfold Eqv at *;rw [← red_left _ _ ha,← red_right (lt_red ha) hc,h,k,red_right (lt_red hb) hd,red_left _ _ hb]
theorem Eqv.toRed {a:List Int} (ha:LtW a):Eqv (red [] a) a:=red_idem ha
theorem invW_nil:invW []=[]:=rfl
theorem invW_app (a b:List Int):invW (a++b)=invW b++invW a:=by simp [invW]
theorem invW_lt {w:List Int} (h:LtW w):invW w=(w.map (- ·)).reverse:=by
 unfold invW
 congr 1
 exact List.map_congr_left fun x hx=>(h x hx).negI
theorem LtW.inv {w:List Int} (h:LtW w):LtW (invW w):=by
 rw [invW_lt h];intro x hx;rw [List.mem_reverse,List.mem_map] at hx;obtain ⟨y,hy,rfl⟩:=hx;exact (h y hy).neg
theorem invW_invW {w:List Int} (h:LtW w):invW (invW w)=w:=by
 rw [invW_lt h.inv,invW_lt h,List.map_reverse,List.reverse_reverse,List.map_map]
 conv=>rhs;rw [← List.map_id w]
 exact List.map_congr_left fun x _=>by simp
theorem red_inv_cancel {w:List Int} (h:LtW w):∀ {out:List Int},Rd out→LtW out→red out (w++invW w)=out:=by
 induction w with
 | nil=>intro out _ _;rfl
 | cons x t ih =>
  intro out ho hl;have hx:=h.head;have e:invW (x :: t)=invW t++[-x]:=by rw [show x :: t=[x]++t from rfl,invW_app];simp [invW,hx.negI]
  rw [e,List.cons_append,red_cons,← List.append_assoc,red_append,ih h.tail (ho.step hl hx) (LtW.red (w:=[x]) hl (LtW.one hx))]
  show redStep (redStep out x) (-x)=out
  exact redStep_inv ho hl hx
theorem Eqv.inv_right {w:List Int} (h:LtW w):Eqv (w++invW w) []:=red_inv_cancel h Rd.nil LtW.nil
theorem Eqv.inv_left {w:List Int} (h:LtW w):Eqv (invW w++w) []:=by
 have:=Eqv.inv_right h.inv
 rwa [invW_invW h] at this
theorem Eqv.symm {a b:List Int} (h:Eqv a b):Eqv b a:=Eq.symm h
theorem Eqv.trans {a b c:List Int} (h:Eqv a b) (k:Eqv b c):Eqv a c:=Eq.trans h k
theorem Eqv.inv {a b:List Int} (ha:LtW a) (hb:LtW b) (h:Eqv a b):Eqv (invW a) (invW b):=by
 -- invW a=invW a (b invW b)=(invW a a) invW b
 have h1:Eqv (invW a++(b++invW b)) (invW a++[]):=Eqv.app ha.inv ha.inv (hb.app hb.inv) LtW.nil rfl (Eqv.inv_right hb);have h2:Eqv (invW a++b) []:=(Eqv.app ha.inv ha.inv hb ha rfl h.symm).trans (Eqv.inv_left ha);have h3:Eqv ((invW a++b)++invW b) ([]++invW b):=Eqv.app (ha.inv.app hb) LtW.nil hb.inv hb.inv h2 rfl;rw [List.append_nil] at h1;rw [List.append_assoc] at h3;exact h1.symm.trans h3
theorem Rd.inv {w:List Int} (h:Rd w) (hw:LtW w):Rd (invW w):=by
 intro a b x e;have hl:=hw.inv;rw [e] at hl;have ex:Lt3 x:=hl.right.head;have e2:w=invW (a++x :: -x :: b):=by rw [← e,invW_invW hw]
 have e3:a++x :: -x :: b=a++([x]++([-x]++b)):=rfl;rw [e3,invW_app,invW_app,invW_app] at e2;have e4:invW [x]=[-x]:=by simp [invW,ex.negI]
 have e5:invW [-x]=[x]:=by simp [invW,ex.neg.negI]
 rw [e4,e5] at e2;exact h (invW b) (invW a) x (by rw [e2];simp)
structure Ed where
 a:Int
 l:Int
 b:Int
deriving DecidableEq
theorem Ed.ext' {e f:Ed} (h1:e.a=f.a) (h2:e.l=f.l) (h3:e.b=f.b):e=f:=by
 cases e
 cases f
 simp at h1 h2 h3;simp [h1,h2,h3]
def cmpE (e f:Ed):Int:=if cmpI e.a f.a≠0 then cmpI e.a f.a else if cmpI e.l f.l≠0 then cmpI e.l f.l else cmpI e.b f.b
theorem cmpI_zero {a b:Int}:cmpI a b=0↔a=b:=by
 unfold cmpI;split
 ·simp;omega
 ·split
  ·simp;omega
  ·simp;omega
theorem cmpI_neg {a b:Int}:cmpI a b < 0↔a < b:=by
 unfold cmpI;split
 ·simp;omega
 ·split
  ·simp;omega
  ·simp;omega
def LtE (e f:Ed):Prop:=e.a < f.a ∨ (e.a=f.a∧(e.l < f.l ∨ (e.l=f.l∧e.b < f.b)))
theorem cmpE_neg {e f:Ed}:cmpE e f < 0↔LtE e f:=by
 unfold cmpE LtE;by_cases h1:cmpI e.a f.a=0
 ·by_cases h2:cmpI e.l f.l=0
  ·rw [if_neg (by simpa using h1),if_neg (by simpa using h2),cmpI_neg]
   have:=cmpI_zero.1 h1;have:=cmpI_zero.1 h2;omega
  ·rw [if_neg (by simpa using h1),if_pos h2,cmpI_neg]
   have:=cmpI_zero.1 h1;have:e.l≠f.l:=fun h=>h2 (cmpI_zero.2 h);omega
 ·rw [if_pos h1,cmpI_neg]
  have:e.a≠f.a:=fun h=>h1 (cmpI_zero.2 h);omega
theorem cmpE_zero {e f:Ed}:cmpE e f=0↔e=f:=by
 unfold cmpE;constructor
 ·intro h
  split at h
  ·contradiction
  ·split at h
   ·contradiction
   ·exact Ed.ext' (cmpI_zero.1 (by simpa using ‹¬ cmpI e.a f.a≠0›)) (cmpI_zero.1 (by simpa using ‹¬ cmpI e.l f.l≠0›)) (cmpI_zero.1 h)
 ·rintro rfl
  simp [cmpI]
theorem LtE.trans {e f g:Ed} (h:LtE e f) (k:LtE f g):LtE e g:=by unfold LtE at *;omega
theorem LtE.irrefl (e:Ed):¬ LtE e e:=by unfold LtE;omega
theorem LtE.tri (e f:Ed):LtE e f ∨ e=f ∨ LtE f e:=by
 by_cases h:e=f
 ·exact .inr (.inl h)
 ·have:¬ (e.a=f.a∧e.l=f.l∧e.b=f.b):=fun ⟨h1,h2,h3⟩=>h (Ed.ext' h1 h2 h3)
  unfold LtE;omega
theorem LtE.ne {e f:Ed} (h:LtE e f):e≠f:=fun hf=>LtE.irrefl f (hf ▸ h)
theorem LtE.asymm {e f:Ed} (h:LtE e f):¬ LtE f e:=fun k=>LtE.irrefl e (h.trans k)
def Asc (es:List Ed):Prop:=es.Pairwise LtE
theorem asc_ext:∀ {xs ys:List Ed},Asc xs→Asc ys→(∀ e,e∈xs↔e∈ys)→xs=ys
 | [],[],_,_,_=>rfl
 | [],y :: ys,_,_,h=>absurd ((h y).2 (by simp)) (by simp)
 | x :: xs,[],_,_,h=>absurd ((h x).1 (by simp)) (by simp)
 | x :: xs,y :: ys,hx,hy,h=>by
  obtain ⟨hx1,hx2⟩:=List.pairwise_cons.1 hx;obtain ⟨hy1,hy2⟩:=List.pairwise_cons.1 hy;have hxy:x=y:=by
   have h1:=(h x).1 (by simp);have h2:=(h y).2 (by simp);rcases List.mem_cons.1 h1 with rfl | h1
   ·rfl
   ·rcases List.mem_cons.1 h2 with rfl | h2
    ·rfl
    ·exact absurd (hx1 y h2) (hy1 x h1).asymm
  subst hxy;rw [asc_ext hx2 hy2 (fun e=>?_)];have:=h e;simp only [List.mem_cons] at this;constructor
  ·intro he
   rcases this.1 (.inr he) with rfl | h1
   ·exact absurd (hx1 e he) (LtE.irrefl e)
   ·exact h1
  ·intro he
   rcases this.2 (.inr he) with rfl | h1
   ·exact absurd (hy1 e he) (LtE.irrefl e)
   ·exact h1
def putE (e:Ed):List Ed→List Ed
 | []=>[e]
 | f :: t=>if cmpE e f < 0 then e :: f :: t else if cmpE e f=0 then f :: t else f :: putE e t
theorem mem_putE {e x:Ed} {l:List Ed}:x∈putE e l↔x=e ∨ x∈l:=by
 induction l with
 | nil=>simp [putE]
 | cons f t ih =>
  unfold putE;split
  ·simp
  ·split
   ·rename_i h
    rw [cmpE_zero] at h;subst h;simp
   ·simp only [List.mem_cons,ih]
    constructor
    ·rintro (h | h | h)
     ·exact .inr (.inl h)
     ·exact .inl h
     ·exact .inr (.inr h)
    ·rintro (h | h | h)
     ·exact .inr (.inl h)
     ·exact .inl h
     ·exact .inr (.inr h)
theorem asc_putE {e:Ed} {l:List Ed} (h:Asc l):Asc (putE e l):=by
 induction l with
 | nil=>simp [putE,Asc]
 | cons f t ih =>
  obtain ⟨h1,h2⟩:=List.pairwise_cons.1 h;unfold putE;split
  ·rename_i hc
   have hc:=cmpE_neg.1 hc;refine List.pairwise_cons.2 ⟨fun x hx=>?_,h⟩;rcases List.mem_cons.1 hx with rfl | hx
   ·exact hc
   ·exact hc.trans (h1 x hx)
  ·split
   ·exact h
   ·rename_i hc hz
    refine List.pairwise_cons.2 ⟨fun x hx=>?_,ih h2⟩;rcases mem_putE.1 hx with rfl | hx
    ·rcases LtE.tri x f with h3 | h3 | h3
     ·exact absurd (cmpE_neg.2 h3) hc
     ·exact absurd (cmpE_zero.2 h3) hz
     ·exact h3
    ·exact h1 x hx
theorem putE_len (e:Ed) (l:List Ed):(putE e l).length≤l.length+1:=by
 induction l with
 | nil=>simp [putE]
 | cons f t ih =>
  unfold putE;split
  ·simp
  ·split
   ·simp
   ·simp only [List.length_cons];omega
def putAll (l es:List Ed):List Ed:=es.foldl (fun l e=>putE e l) l
def canon (es:List Ed):List Ed:=putAll [] es
theorem putAll_snoc (l es:List Ed) (e:Ed):putAll l (es++[e])=putE e (putAll l es):=by simp [putAll]
theorem mem_putAll {x:Ed} {l es:List Ed}:x∈putAll l es↔x∈l ∨ x∈es:=by
 induction es generalizing l with
 | nil=>simp [putAll]
 | cons e t ih =>
  have:putAll l (e :: t)=putAll (putE e l) t:=rfl;rw [this,ih,mem_putE];simp only [List.mem_cons];constructor
  ·rintro ((h | h) | h)
   ·exact .inr (.inl h)
   ·exact .inl h
   ·exact .inr (.inr h)
  ·rintro (h | h | h)
   ·exact .inl (.inr h)
   ·exact .inl (.inl h)
   ·exact .inr h
theorem asc_putAll {l es:List Ed} (h:Asc l):Asc (putAll l es):=by
 induction es generalizing l with
 | nil=>exact h
 | cons e t ih=>exact ih (asc_putE h)
theorem putAll_len (l es:List Ed):(putAll l es).length≤l.length+es.length:=by
 induction es generalizing l with
 | nil=>simp [putAll]
 | cons e t ih =>
  have:=ih (putE e l);have:=putE_len e l;have h:putAll l (e :: t)=putAll (putE e l) t:=rfl;rw [h];simp only [List.length_cons];omega
theorem mem_canon {x:Ed} {es:List Ed}:x∈canon es↔x∈es:=by simp [canon,mem_putAll]
theorem asc_canon (es:List Ed):Asc (canon es):=asc_putAll List.Pairwise.nil
theorem canon_len (es:List Ed):(canon es).length≤es.length:=by have:=putAll_len [] es;simpa [canon] using this
theorem canon_eq {es fs:List Ed} (h:Asc fs) (hm:∀ e,e∈fs↔e∈es):fs=canon es:=asc_ext h (asc_canon es) fun e=>(hm e).trans mem_canon.symm
theorem putAll_canon {l es:List Ed} (h:Asc l):putAll l es=canon (l++es):=canon_eq (asc_putAll h) fun e=>by rw [mem_putAll,List.mem_append]
def edI (es:List Ed):List Int:=(es.map fun e=>[e.a,e.l,e.b]).flatten
theorem edI_len (es:List Ed):(edI es).length=es.length * 3:=by
 induction es with
 | nil=>rfl
 | cons m t ih=>simp [edI] at ih ⊢;omega
theorem edI_append (a b:List Ed):edI (a++b)=edI a++edI b:=by simp [edI]
theorem edI_cons (e:Ed) (t:List Ed):edI (e :: t)=e.a :: e.l :: e.b :: edI t:=by simp [edI]
theorem edI_one (e:Ed):edI [e]=[e.a,e.l,e.b]:=by simp [edI]
theorem edI_at {es:List Ed} {k:Nat} {e:Ed} (h:es[k]?=some e):(edI es)[k * 3]?=some e.a∧(edI es)[k * 3+1]?=some e.l∧(edI es)[k * 3+2]?=some e.b:=by
 induction es generalizing k with
 | nil=>simp at h
 | cons m t ih =>
  rw [edI_cons];cases k with
  | zero=>simp at h;subst h;simp
  | succ k =>
   have:=ih (by simpa using h);rw [show (k+1) * 3=k * 3+1+1+1 from by omega]
   simpa using this
theorem edI_take (es:List Ed) (k:Nat):edI (es.take k)=(edI es).take (k * 3):=by
 induction es generalizing k with
 | nil=>simp [edI]
 | cons m t ih =>
  cases k with
  | zero=>simp [edI]
  | succ k =>
   rw [List.take_succ_cons,edI_cons,edI_cons,ih,show (k+1) * 3=k * 3+1+1+1 from by omega];simp
theorem edI_drop (es:List Ed) (k:Nat):edI (es.drop k)=(edI es).drop (k * 3):=by
 induction es generalizing k with
 | nil=>simp [edI]
 | cons m t ih =>
  cases k with
  | zero=>simp
  | succ k =>
   rw [List.drop_succ_cons,edI_cons,ih,show (k+1) * 3=k * 3+1+1+1 from by omega];simp
def InG (r s:Int) (e:Ed):Prop:=0≤e.a∧e.a < s∧0≤e.b∧e.b < s∧1≤e.l∧e.l≤r
structure IsGr (r s:Int) (es:List Ed):Prop where
 rank:1≤r∧r≤3
 size:1≤s∧s≤40
 len:es.length≤120
 all:∀ e∈es,InG r s e
 asc:Asc es
def endOf (v x:Int) (e:Ed):Option Int:=if 0 < x∧e.l=x∧e.a=v then some e.b else if x < 0∧e.l = -x∧e.b=v then some e.a else none
def ends (es:List Ed) (v x:Int):List Int:=es.filterMap (endOf v x)
theorem mem_ends {es:List Ed} {v x u:Int}:u∈ends es v x↔∃ e∈es,endOf v x e=some u:=by simp [ends]
theorem ends_len (es:List Ed) (v x:Int):(ends es v x).length≤es.length:=List.length_filterMap_le _ _
theorem endOf_some {v x u:Int} {e:Ed}:endOf v x e=some u↔(0 < x∧e.l=x∧e.a=v∧e.b=u) ∨ (x < 0∧e.l = -x∧e.b=v∧e.a=u):=by
 unfold endOf;split
 ·rename_i h
  simp;omega
 ·split
  ·rename_i h h'
   simp;omega
  ·simp
   omega
def leastI:List Int→Int
 | []=>-1
 | x :: t=>t.foldl min x
theorem foldl_min_le (t:List Int) (x:Int):t.foldl min x≤x∧(∀ y∈t,t.foldl min x≤y)∧(t.foldl min x=x ∨ t.foldl min x∈t):=by
 induction t generalizing x with
 | nil=>simp
 | cons y t ih =>
  obtain ⟨h1,h2,h3⟩:=ih (min x y);simp only [List.foldl_cons];refine ⟨by omega,?_,?_⟩
  ·intro z hz
   rcases List.mem_cons.1 hz with rfl | hz
   ·omega
   ·exact h2 z hz
  ·rcases h3 with h3 | h3
   ·rcases Int.le_total x y with h | h
    ·left;rw [h3];omega
    ·right;rw [h3,show min x y=y by omega];simp
   ·right;exact List.mem_cons_of_mem _ h3
theorem leastI_mem {l:List Int} (h:l≠[]):leastI l∈l∧∀ y∈l,leastI l≤y:=by
 cases l with
 | nil=>exact absurd rfl h
 | cons x t =>
  obtain ⟨h1,h2,h3⟩:=foldl_min_le t x;refine ⟨?_,?_⟩
  ·rcases h3 with h3 | h3
   ·show t.foldl min x∈_;rw [h3];simp
   ·exact List.mem_cons_of_mem _ h3
  ·intro y hy
   rcases List.mem_cons.1 hy with rfl | hy
   ·exact h1
   ·exact h2 y hy
theorem leastI_eq {l:List Int} {x:Int} (h:x∈l) (hm:∀ y∈l,x≤y):leastI l=x:=by
 have h0:l≠[]:=by intro h0;subst h0;simp at h
 obtain ⟨h1,h2⟩:=leastI_mem h0;have:=h2 x h;have:=hm _ h1;omega
def nextV (es:List Ed) (v x:Int):Int:=leastI (ends es v x)
theorem nextV_none {es:List Ed} {v x:Int} (h:ends es v x=[]):nextV es v x = -1:=by rw [nextV,h];rfl
theorem nextV_edge {es:List Ed} {v x:Int} (h:0≤nextV es v x):∃ e∈es,endOf v x e=some (nextV es v x):=by
 by_cases h0:ends es v x=[]
 ·rw [nextV_none h0] at h;omega
 ·exact mem_ends.1 (leastI_mem h0).1
theorem nextV_cases {r s:Int} {es:List Ed} (hg:∀ e∈es,InG r s e) (v x:Int):nextV es v x = -1 ∨ (0≤nextV es v x∧nextV es v x < s):=by
 by_cases h0:ends es v x=[]
 ·exact .inl (nextV_none h0)
 ·right
  obtain ⟨e,he,h⟩:=mem_ends.1 (leastI_mem h0).1;have:=hg e he;unfold InG at this;have h':endOf v x e=some (nextV es v x):=h;rw [endOf_some] at h';omega
theorem nextV_neg {es:List Ed} {v x:Int} (h:nextV es v x = -1) (hg:∀ e∈es,0≤e.a∧0≤e.b):ends es v x=[]:=by
 refine Classical.byContradiction fun h0=>?_;obtain ⟨e,he,h'⟩:=mem_ends.1 (leastI_mem h0).1;have:=hg e he;have h':endOf v x e=some (nextV es v x):=h';rw [endOf_some] at h';omega
def Clash (e f:Ed):Prop:=e.l=f.l∧(e.a=f.a ∨ e.b=f.b)
instance (e f:Ed):Decidable (Clash e f):=by unfold Clash;infer_instance
theorem Clash.symm {e f:Ed} (h:Clash e f):Clash f e:=by unfold Clash at *;omega
structure IsFol (r s:Int) (es:List Ed):Prop where
 gr:IsGr r s es
 fol:es.Pairwise fun e f=>¬ Clash e f
def foldsAB (e f:Ed):List (Int × Int) :=
 if e.l=f.l then (if e.a=f.a then [(min e.b f.b,max e.b f.b)] else [])++(if e.b=f.b then [(min e.a f.a,max e.a f.a)] else []) else []
def folds:List Ed→List (Int × Int)
 | []=>[]
 | e :: t=>t.flatMap (foldsAB e)++folds t
theorem foldsAB_nil {e f:Ed}:foldsAB e f=[]↔¬ Clash e f:=by
 unfold foldsAB Clash;by_cases h1:e.l=f.l <;> by_cases h2:e.a=f.a <;> by_cases h3:e.b=f.b <;> simp [h1,h2,h3]
theorem folds_nil {es:List Ed}:folds es=[]↔es.Pairwise fun e f=>¬ Clash e f:=by
 induction es with
 | nil=>simp [folds]
 | cons e t ih =>
  rw [List.pairwise_cons,folds,List.append_eq_nil_iff,ih,List.flatMap_eq_nil_iff];simp only [foldsAB_nil]
theorem mem_foldsAB {r s:Int} {e f:Ed} {p:Int × Int} (he:InG r s e) (hf:InG r s f) (hne:e≠f) (h:p∈foldsAB e f):0≤p.1∧p.1 < p.2∧p.2 < s:=by
 unfold foldsAB at h;unfold InG at he hf;have hd:¬ (e.a=f.a∧e.l=f.l∧e.b=f.b):=fun ⟨h1,h2,h3⟩=>hne (Ed.ext' h1 h2 h3);split at h
 ·rcases List.mem_append.1 h with h | h
  ·split at h
   ·simp at h;subst h;simp only [];omega
   ·simp at h
  ·split at h
   ·simp at h;subst h;simp only [];omega
   ·simp at h
 ·simp at h
theorem mem_folds {r s:Int} {es:List Ed} {p:Int × Int} (hg:∀ e∈es,InG r s e) (ha:Asc es) (h:p∈folds es):0≤p.1∧p.1 < p.2∧p.2 < s:=by
 induction es with
 | nil=>simp [folds] at h
 | cons e t ih =>
  obtain ⟨h1,h2⟩:=List.pairwise_cons.1 ha;rcases List.mem_append.1 h with h | h
  ·obtain ⟨f,hf,h⟩:=List.mem_flatMap.1 h
   exact mem_foldsAB (hg e (by simp)) (hg f (by simp [hf])) (h1 f hf).ne h
  ·exact ih (fun f hf=>hg f (by simp [hf])) h2 h
def foldV (p:Int × Int) (v:Int):Int:=if v=p.2 then p.1 else if p.2 < v then v - 1 else v
def foldE (p:Int × Int) (e:Ed):Ed:=⟨foldV p e.a,e.l,foldV p e.b⟩
def mergeE (p:Int × Int) (es:List Ed):List Ed:=canon (es.map (foldE p))
theorem mergeE_gr {r s:Int} {es:List Ed} {p:Int × Int} (hg:IsGr r s es) (h0:0≤p.1) (h1:p.1 < p.2) (h2:p.2 < s):IsGr r (s - 1) (mergeE p es):=by
 refine ⟨hg.rank,?_,?_,?_,asc_canon _⟩
 ·have:=hg.size;omega
 ·have:=canon_len (es.map (foldE p))
  have:=hg.len;simp at *;unfold mergeE;omega
 ·intro e he
  obtain ⟨f,hf,rfl⟩:=List.mem_map.1 (mem_canon.1 he);have h3:=hg.all f hf;have hv:∀ v:Int,0≤v→v < s→0≤foldV p v∧foldV p v < s - 1:=by
   intro v hv0 hv1;unfold foldV;split
   ·omega
   ·split <;> omega
  unfold InG at *;have:=hv f.a (by omega) (by omega);have:=hv f.b (by omega) (by omega);simp only [foldE];omega
def foldA:Nat→Int × List Ed→Int × List Ed
 | 0,g=>g
 | n+1,g=>match folds g.2 with
  | []=>g
  | p :: _=>foldA n (g.1 - 1,mergeE p g.2)
theorem foldA_nil {n:Nat} {g:Int × List Ed} (h:folds g.2=[]):foldA n g=g:=by
 cases n with
 | zero=>rfl
 | succ n=>simp [foldA,h]
theorem foldA_cons {n:Nat} {g:Int × List Ed} {p:Int × Int} {t:List (Int × Int)} (h:folds g.2=p :: t):foldA (n+1) g=foldA n (g.1 - 1,mergeE p g.2):=by simp [foldA,h]
theorem foldA_gr {r:Int}:∀ (n:Nat) {g:Int × List Ed},IsGr r g.1 g.2→IsGr r (foldA n g).1 (foldA n g).2
 | 0,g,h=>h
 | n+1,g,h=>by
  cases hf:folds g.2 with
  | nil=>rw [foldA_nil hf];exact h
  | cons p t =>
   rw [foldA_cons hf];obtain ⟨h0,h1,h2⟩:=mem_folds h.all h.asc (p:=p) (by rw [hf];simp);exact foldA_gr n (mergeE_gr h h0 h1 h2)
theorem foldA_fol:∀ (n:Nat) {r:Int} {g:Int × List Ed},IsGr r g.1 g.2→g.1≤n→folds (foldA n g).2=[]
 | 0,r,g,h,hn=>by have:=h.size;omega
 | n+1,r,g,h,hn=>by
  cases hf:folds g.2 with
  | nil=>rw [foldA_nil hf];exact hf
  | cons p t =>
   rw [foldA_cons hf];obtain ⟨h0,h1,h2⟩:=mem_folds h.all h.asc (p:=p) (by rw [hf];simp);exact foldA_fol n (mergeE_gr h h0 h1 h2) (by simp only [];omega)
def idxI (order:List Int) (v:Int):Int:=if v∈order then (order.idxOf v:Int) else -1
theorem idxI_neg {order:List Int} {v:Int} (h:v ∉ order):idxI order v = -1:=by simp [idxI,h]
theorem idxI_lt {order:List Int} {v:Int} (h:0≤idxI order v):idxI order v < order.length:=by
 unfold idxI at *;split
 ·rename_i hm
  have:=List.idxOf_lt_length_iff.2 hm;omega
 ·rename_i hm
  rw [if_neg hm] at h;omega
theorem idxI_at {order:List Int} {k:Nat} {v:Int} (hn:order.Nodup) (h:order[k]?=some v):idxI order v=k:=by
 have hm:v∈order:=List.mem_of_getElem? h;obtain ⟨hk,h'⟩:=List.getElem?_eq_some_iff.1 h;rw [idxI,if_pos hm,← h',hn.idxOf_getElem k hk]
def partOf (order:List Int) (e:Ed):Option Ed:=if 0≤idxI order e.a∧0≤idxI order e.b then some ⟨idxI order e.a,e.l,idxI order e.b⟩ else none
def partE (order:List Int) (es:List Ed):List Ed:=canon (es.filterMap (partOf order))
theorem partE_gr {r s:Int} {es:List Ed} {order:List Int} (hg:IsGr r s es) (h0:order≠[]) (h40:order.length≤40):IsGr r order.length (partE order es):=by
 have hpos:0 < order.length:=List.length_pos_iff.2 h0;refine ⟨hg.rank,by omega,?_,?_,asc_canon _⟩
 ·have h1:=canon_len (es.filterMap (partOf order))
  have h2:=List.length_filterMap_le (partOf order) es;have h3:=hg.len;unfold partE;omega
 ·intro e he
  obtain ⟨f,hf,h⟩:=List.mem_filterMap.1 (mem_canon.1 he);have h3:=hg.all f hf;unfold partOf at h;split at h
  ·rename_i hc
   injection h with h
   subst h;have:=idxI_lt hc.1;have:=idxI_lt hc.2;unfold InG at *;simp only [];omega
  ·cases h
section
inductive Conn (es:List Ed) (v:Int):Int→Prop
 | here:Conn es v v
 | out {e:Ed}:e∈es→Conn es v e.a→Conn es v e.b
 | inn {e:Ed}:e∈es→Conn es v e.b→Conn es v e.a
theorem conn_iff {es:List Ed} {v:Int} {P:Int→Prop} (h0:P v) (hc:∀ e∈es,P e.a↔P e.b) (hs:∀ u,P u→Conn es v u) (u:Int):P u↔Conn es v u:=by
 refine ⟨hs u,fun h=>?_⟩
 induction h with
 | here=>exact h0
 | out he _ ih=>exact (hc _ he).1 ih
 | inn he _ ih=>exact (hc _ he).2 ih
def degE (v:Int) (e:Ed):Nat:=(if e.a=v then 1 else 0)+(if e.b=v then 1 else 0)
def deg (es:List Ed) (v:Int):Nat:=(es.map (degE v)).sum
theorem deg_take_succ {es:List Ed} {k:Nat} {e:Ed} (h:es[k]?=some e) (v:Int):deg (es.take (k+1)) v=deg (es.take k) v+degE v e:=by
 obtain ⟨hk,h'⟩:=List.getElem?_eq_some_iff.1 h;rw [List.take_succ_eq_append_getElem hk,h'];simp [deg]
theorem deg_le (es:List Ed) (v:Int):deg es v≤2 * es.length:=by
 induction es with
 | nil=>simp [deg]
 | cons e t ih =>
  have h:deg (e :: t) v=degE v e+deg t v:=by simp [deg]
  have:degE v e≤2:=by unfold degE;split <;> split <;> omega
  simp only [List.length_cons];omega
def Bad (es:List Ed) (v:Int):Prop:=deg es v < 2 ∨ ¬ Conn es 0 v
open Classical in
noncomputable def leaf (s:Int) (es:List Ed):Option Nat:=((List.range s.toNat).drop 1).find? fun v=>decide (Bad es (v:Int))
theorem find_drop_range {p:Nat→Bool} (n k:Nat) (hk:k < n) (hp:p k=true):∀ m,m≤k→(∀ u,m≤u→u < k→p u=false)→((List.range n).drop m).find? p=some k:=by
 intro m hm;obtain ⟨d,hd⟩:∃ d,k=m+d:=⟨k - m,by omega⟩
 induction d generalizing m with
 | zero =>
  intro _;obtain rfl:k=m:=by omega
  rw [List.drop_eq_getElem_cons (by simpa using hk)];simp [hp]
 | succ d ih =>
  intro hu;rw [List.drop_eq_getElem_cons (by simp;omega)];have h1:=hu m (Nat.le_refl _) (by omega);simp only [List.getElem_range,List.find?_cons,h1];exact ih (m+1) (by omega) (by omega) (fun u h2 h3=>hu u (by omega) h3)
theorem leaf_some {s:Int} {es:List Ed} {v:Nat} (h1:1≤v) (h2:(v:Int) < s) (hb:Bad es v) (hu:∀ u:Nat,1≤u→u < v→¬ Bad es u):leaf s es=some v :=
 find_drop_range _ v (by omega) (by simpa using hb) 1 h1 fun u h h'=>by simpa using hu u h h'
theorem leaf_none {s:Int} {es:List Ed} (hu:∀ u:Nat,1≤u→(u:Int) < s→¬ Bad es u):leaf s es=none:=by
 refine List.find?_eq_none.2 fun u hm=>?_;have h1:u < s.toNat:=List.mem_range.1 (List.mem_of_mem_drop hm);have h2:1≤u:=by
  obtain ⟨k,hk,h⟩:=List.mem_iff_getElem.1 hm;simp at h;omega
 simpa using hu u h2 (by omega)
theorem leaf_spec {s:Int} {es:List Ed} {v:Nat} (h:leaf s es=some v):1≤v∧(v:Int) < s∧Bad es v:=by
 have hm:=List.mem_of_find?_eq_some h;have h1:v < s.toNat:=List.mem_range.1 (List.mem_of_mem_drop hm);have h3:Bad es v:=by simpa using List.find?_some h
 refine ⟨?_,by omega,h3⟩;obtain ⟨k,hk,h⟩:=List.mem_iff_getElem.1 hm;simp at h;omega
theorem leaf_cases (s:Int) (es:List Ed):(leaf s es=none∧∀ u:Nat,1≤u→(u:Int) < s→¬ Bad es u) ∨ ∃ v:Nat,leaf s es=some v∧1≤v∧(v:Int) < s∧Bad es v∧∀ u:Nat,1≤u→u < v→¬ Bad es u:=by
 by_cases h:∃ v:Nat,1≤v∧(v:Int) < s∧Bad es v
 ·right
  obtain ⟨v,hv⟩:=h
  induction v using Nat.strongRecOn with
  | _ v ih =>
   by_cases hu:∃ u:Nat,1≤u∧u < v∧Bad es u
   ·obtain ⟨u,h1,h2,h3⟩:=hu
    exact ih u h2 ⟨h1,by omega,h3⟩
   ·have hall:∀ u:Nat,1≤u→u < v→¬ Bad es u:=fun u h1 h2 h3=>hu ⟨u,h1,h2,h3⟩
    exact ⟨v,leaf_some hv.1 hv.2.1 hv.2.2 hall,hv.1,hv.2.1,hv.2.2,hall⟩
 ·left
  have hall:∀ u:Nat,1≤u→(u:Int) < s→¬ Bad es u:=fun u h1 h2 h3=>h ⟨u,h1,h2,h3⟩;exact ⟨leaf_none hall,hall⟩
def but (v k:Nat):List Int:=((List.range k).filter (· != v)).map Int.ofNat
theorem but_succ (v k:Nat):but v (k+1)=if k=v then but v k else but v k++[(k:Int)]:=by
 unfold but;rw [List.range_succ,List.filter_append];by_cases h:k=v
 ·simp [h]
 ·simp [h]
theorem but_le (v:Nat):∀ k,k≤v→(but v k).length=k
 | 0,_=>by simp [but]
 | k+1,h=>by rw [but_succ,if_neg (by omega)];simp [but_le v k (by omega)]
theorem but_len (v:Nat) {k:Nat} (h:v < k):(but v k).length=k - 1:=by
 induction k with
 | zero=>omega
 | succ k ih =>
  rw [but_succ];by_cases hk:k=v
  ·rw [if_pos hk,hk,but_le v v (Nat.le_refl _)];omega
  ·rw [if_neg hk];simp;rw [ih (by omega)];omega
theorem but_nodup (v k:Nat):(but v k).Nodup:=by
 unfold but;refine List.Pairwise.map _ (fun a b h=>?_) (List.Pairwise.filter _ List.nodup_range);intro he;exact h (by injection he)
theorem mem_but {v k:Nat} {x:Int}:x∈but v k↔∃ u:Nat,u < k∧u≠v∧x=(u:Int):=by
 unfold but;simp only [List.mem_map,List.mem_filter,List.mem_range,bne_iff_ne];constructor
 ·rintro ⟨u,⟨h1,h2⟩,rfl⟩;exact ⟨u,h1,h2,rfl⟩
 ·rintro ⟨u,h1,h2,rfl⟩;exact ⟨u,⟨h1,h2⟩,rfl⟩
theorem but_range {v k:Nat} {x:Int} (h:x∈but v k):0≤x∧x < k:=by
 obtain ⟨u,h1,h2,rfl⟩:=mem_but.1 h;omega
def cutV (g:Int × List Ed) (v:Nat):Int × List Ed:=(((but v g.1.toNat).length:Int),partE (but v g.1.toNat) g.2)
theorem cutV_size {g:Int × List Ed} {v:Nat} (h:(v:Int) < g.1):(cutV g v).1=g.1 - 1:=by
 show ((but v g.1.toNat).length:Int)=_
 rw [but_len v (by omega)];omega
theorem cutV_gr {r:Int} {g:Int × List Ed} {v:Nat} (hg:IsGr r g.1 g.2) (h1:1≤v) (h2:(v:Int) < g.1):IsGr r (cutV g v).1 (cutV g v).2:=by
 have hl:=but_len v (show v < g.1.toNat by omega);have:=hg.size;refine partE_gr hg ?_ (by omega);intro h0;rw [h0] at hl;simp at hl;omega
noncomputable def trimA:Nat→Int × List Ed→Int × List Ed
 | 0,g=>g
 | n+1,g=>match leaf g.1 g.2 with
  | none=>g
  | some v=>trimA n (cutV g v)
theorem trimA_none {n:Nat} {g:Int × List Ed} (h:leaf g.1 g.2=none):trimA n g=g:=by
 cases n with
 | zero=>rfl
 | succ n=>simp [trimA,h]
theorem trimA_some {n:Nat} {g:Int × List Ed} {v:Nat} (h:leaf g.1 g.2=some v):trimA (n+1) g=trimA n (cutV g v):=by simp [trimA,h]
theorem trimA_gr {r:Int}:∀ (n:Nat) {g:Int × List Ed},IsGr r g.1 g.2→IsGr r (trimA n g).1 (trimA n g).2
 | 0,g,h=>h
 | n+1,g,h=>by
  cases hf:leaf g.1 g.2 with
  | none=>rw [trimA_none hf];exact h
  | some v =>
   rw [trimA_some hf];obtain ⟨h1,h2,_⟩:=leaf_spec hf;exact trimA_gr n (cutV_gr h h1 h2)
theorem trimA_size:∀ (n:Nat) {g:Int × List Ed},(trimA n g).1≤g.1
 | 0,g=>Int.le_refl _
 | n+1,g=>by
  cases hf:leaf g.1 g.2 with
  | none=>rw [trimA_none hf];exact Int.le_refl _
  | some v =>
   rw [trimA_some hf];obtain ⟨h1,h2,_⟩:=leaf_spec hf;have:=trimA_size n (g:=cutV g v);rw [cutV_size h2] at this;omega
theorem trimA_same {n:Nat} {g:Int × List Ed} (hn:0 < n):(trimA n g).1=g.1↔leaf g.1 g.2=none:=by
 constructor
 ·intro h
  cases hf:leaf g.1 g.2 with
  | none=>rfl
  | some v =>
   obtain ⟨m,rfl⟩:∃ m,n=m+1:=⟨n - 1,by omega⟩
   rw [trimA_some hf] at h;obtain ⟨h1,h2,_⟩:=leaf_spec hf;have:=trimA_size m (g:=cutV g v);rw [cutV_size h2] at this;omega
 ·intro h
  rw [trimA_none h]
def lets:Nat→List Int
 | 0=>[]
 | n+1=>lets n++[((n:Int)+1), -((n:Int)+1)]
theorem lets_len (n:Nat):(lets n).length=2 * n:=by
 induction n with
 | zero=>rfl
 | succ n ih=>simp [lets,ih];omega
theorem mem_lets {n:Nat} {x:Int}:x∈lets n↔x≠0∧-(n:Int)≤x∧x≤n:=by
 induction n with
 | zero=>simp [lets];omega
 | succ n ih =>
  simp only [lets,List.mem_append,ih,List.mem_cons,List.not_mem_nil,or_false];omega
abbrev BS:=List (Int × List Int)
def bfsStep (es:List Ed) (u:Int) (w:List Int) (st:BS) (x:Int):BS :=
 if nextV es u x < 0 ∨ nextV es u x∈st.map Prod.fst then st else st++[(nextV es u x,w++[x])]
def bfsRow (es:List Ed) (L:List Int) (p:Int × List Int) (st:BS):BS:=L.foldl (bfsStep es p.1 p.2) st
def bfsSt (es:List Ed) (L:List Int) (v:Int):Nat→BS
 | 0=>[(v,[])]
 | i+1=>match (bfsSt es L v i)[i]? with
  | none=>bfsSt es L v i
  | some p=>bfsRow es L p (bfsSt es L v i)
def bfs (es:List Ed) (L:List Int) (v:Int):BS:=bfsSt es L v 41
theorem bfsStep_pre (es:List Ed) (u:Int) (w:List Int) (st:BS) (x:Int):st <+: bfsStep es u w st x:=by
 unfold bfsStep;split
 ·exact List.prefix_refl _
 ·exact List.prefix_append _ _
theorem bfsRow_pre (es:List Ed) (L:List Int) (p:Int × List Int) (st:BS):st <+: bfsRow es L p st:=by
 unfold bfsRow
 induction L generalizing st with
 | nil=>exact List.prefix_refl _
 | cons x t ih=>exact (bfsStep_pre es p.1 p.2 st x).trans (ih _)
theorem bfsSt_pre (es:List Ed) (L:List Int) (v:Int) (i:Nat):bfsSt es L v i <+: bfsSt es L v (i+1):=by
 show _ <+: (match (bfsSt es L v i)[i]? with | none=>bfsSt es L v i | some p=>bfsRow es L p (bfsSt es L v i))
 split
 ·exact List.prefix_refl _
 ·exact bfsRow_pre es L _ _
theorem bfsSt_pre' (es:List Ed) (L:List Int) (v:Int) (i d:Nat):bfsSt es L v i <+: bfsSt es L v (i+d):=by
 induction d with
 | zero=>exact List.prefix_refl _
 | succ d ih=>exact ih.trans (bfsSt_pre es L v (i+d))
theorem prefix_get {α:Type} {xs ys:List α} (h:xs <+: ys) {k:Nat} {a:α} (hk:xs[k]?=some a):ys[k]?=some a:=by
 obtain ⟨t,rfl⟩:=h;rw [List.getElem?_append_left (List.getElem?_eq_some_iff.1 hk).1];exact hk
theorem bfsSt_stop {es:List Ed} {L:List Int} {v:Int} {i:Nat} (h:(bfsSt es L v i).length≤i) (d:Nat):bfsSt es L v (i+d)=bfsSt es L v i:=by
 induction d with
 | zero=>rfl
 | succ d ih =>
  show (match (bfsSt es L v (i+d))[i+d]? with | none=>bfsSt es L v (i+d) | some p=>bfsRow es L p (bfsSt es L v (i+d)))=_
  rw [ih,List.getElem?_eq_none (by omega)]
structure BfsOk (s:Int) (L:List Int) (st:BS):Prop where
 nd:(st.map Prod.fst).Nodup
 rng:∀ p∈st,0≤p.1∧p.1 < s
 wl:∀ (j:Nat) (p:Int × List Int),st[j]?=some p→p.2.length≤j
 wm:∀ p∈st,∀ x∈p.2,x∈L
theorem BfsOk.len {s:Int} {L:List Int} {st:BS} (h:BfsOk s L st) (hs:0≤s):(st.length:Int)≤s:=by
 have h1:∀ (L:Nat) (l:List Int),l.Nodup→(∀ v∈l,0≤v∧v < (L:Int))→l.length≤L:=by
  intro L
  induction L with
  | zero =>
   intro l _ h;cases l with
   | nil=>simp
   | cons x t=>have:=h x (by simp);omega
  | succ L ih =>
   intro l hn h;have h2:=ih (l.erase (L:Int)) (hn.erase _) fun v hv=>by
    have h3:=h v (List.mem_of_mem_erase hv);have h4:v≠(L:Int):=((List.Nodup.mem_erase_iff hn).1 hv).1;omega
   have h5:=List.length_erase (a:=(L:Int)) (l:=l);split at h5 <;> omega
 have:=h1 s.toNat (st.map Prod.fst) h.nd (fun v hv=>by
  obtain ⟨p,hp,rfl⟩:=List.mem_map.1 hv;have:=h.rng p hp;omega)
 simp at this;omega
theorem BfsOk.start {s v:Int} (L:List Int) (h0:0≤v) (h1:v < s):BfsOk s L [(v,[])]:=by
 refine ⟨by simp,?_,?_,?_⟩
 ·intro p hp;simp at hp;subst hp;exact ⟨h0,h1⟩
 ·intro j p hp
  cases j with
  | zero=>simp at hp;subst hp;simp
  | succ j=>simp at hp
 ·intro p hp x hx;simp at hp;subst hp;simp at hx
theorem BfsOk.step {r s:Int} {es:List Ed} {L:List Int} {st:BS} (hg:∀ e∈es,InG r s e) (h:BfsOk s L st) {i:Nat} {p:Int × List Int} (hp:st[i]?=some p) {x:Int} (hx:x∈L):BfsOk s L (bfsStep es p.1 p.2 st x):=by
 unfold bfsStep;split
 ·exact h
 ·rename_i hc
  have hc1:¬ nextV es p.1 x < 0:=fun h=>hc (.inl h);have hc2:nextV es p.1 x ∉ st.map Prod.fst:=fun h=>hc (.inr h);have hr:=nextV_cases hg p.1 x;have hi:=(List.getElem?_eq_some_iff.1 hp).1;refine ⟨?_,?_,?_,?_⟩
  ·rw [List.map_append,List.nodup_append]
   refine ⟨h.nd,by simp,?_⟩;intro a ha b hb;simp at hb;subst hb;intro e;subst e;exact hc2 ha
  ·intro q hq
   rcases List.mem_append.1 hq with hq | hq
   ·exact h.rng q hq
   ·simp at hq;subst hq;simp only [];omega
  ·intro j q hq
   rcases Nat.lt_or_ge j st.length with hj | hj
   ·rw [List.getElem?_append_left hj] at hq;exact h.wl j q hq
   ·rw [List.getElem?_append_right hj] at hq
    rcases Nat.eq_zero_or_pos (j - st.length) with h0 | h0
    ·rw [h0] at hq
     simp at hq;subst hq;have:=h.wl i p hp;simp only [List.length_append,List.length_cons,List.length_nil];omega
    ·rw [List.getElem?_eq_none (by simp;omega)] at hq;cases hq
  ·intro q hq y hy
   rcases List.mem_append.1 hq with hq | hq
   ·exact h.wm q hq y hy
   ·simp at hq
    subst hq;rcases List.mem_append.1 hy with hy | hy
    ·exact h.wm p (List.mem_of_getElem? hp) y hy
    ·simp at hy;subst hy;exact hx
theorem BfsOk.row {r s:Int} {es:List Ed} {L:List Int} (hg:∀ e∈es,InG r s e) {i:Nat} {p:Int × List Int}:∀ (K:List Int),(∀ x∈K,x∈L)→∀ {st:BS},BfsOk s L st→st[i]?=some p→BfsOk s L (bfsRow es K p st)
 | [],_,st,h,_=>h
 | x :: K,hK,st,h,hp=>BfsOk.row hg K (fun y hy=>hK y (by simp [hy])) (h.step hg hp (hK x (by simp))) (prefix_get (bfsStep_pre es p.1 p.2 st x) hp)
theorem bfsSt_ok {r s v:Int} {es:List Ed} {L:List Int} (hg:∀ e∈es,InG r s e) (h0:0≤v) (h1:v < s) (i:Nat):BfsOk s L (bfsSt es L v i):=by
 induction i with
 | zero=>exact BfsOk.start L h0 h1
 | succ i ih =>
  show BfsOk s L (match (bfsSt es L v i)[i]? with | none=>bfsSt es L v i | some p=>bfsRow es L p (bfsSt es L v i))
  split
  ·exact ih
  ·rename_i p hp
   exact BfsOk.row hg L (fun x hx=>hx) ih hp
theorem bfs_eq {r s v:Int} {es:List Ed} {L:List Int} (hg:∀ e∈es,InG r s e) (h0:0≤v) (h1:v < s) (hs:s≤40) {i:Nat} (h:(bfsSt es L v i).length=i):bfs es L v=bfsSt es L v i:=by
 have:=(bfsSt_ok (L:=L) hg h0 h1 i).len (by omega);have h2:=bfsSt_stop (show (bfsSt es L v i).length≤i by omega) (41 - i);rw [← h2,show i+(41 - i)=41 by omega]
 rfl
theorem bfs_ok {r s v:Int} {es:List Ed} {L:List Int} (hg:∀ e∈es,InG r s e) (h0:0≤v) (h1:v < s):BfsOk s L (bfs es L v):=bfsSt_ok hg h0 h1 41
theorem bfs_ne (es:List Ed) (L:List Int) (v:Int):bfs es L v≠[]:=by
 intro h;obtain ⟨t,ht⟩:=bfsSt_pre' es L v 0 41;rw [show (0:Nat)+41=41 from rfl,show bfsSt es L v 41=bfs es L v from rfl,h] at ht;simp [bfsSt] at ht
def ordE (r:Int) (es:List Ed) (v:Int):List Int:=(bfs es (lets r.toNat) v).map Prod.fst
open Classical in
noncomputable def canonG (r:Int) (g:Int × List Ed):Int × List Ed:=if IsFol r g.1 g.2 then (((ordE r g.2 0).length:Int),partE (ordE r g.2 0) g.2) else g
noncomputable def coreA (r:Int) (g:Int × List Ed):Int × List Ed:=canonG r (trimA 40 (foldA 40 g))
structure IsCor (r s:Int) (es:List Ed):Prop where
 fol:IsFol r s es
 leaf:leaf s es=none
 canon:canonG r (s,es)=(s,es)
theorem ordE_len {r s v:Int} {es:List Ed} (hg:IsGr r s es) (h0:0≤v) (h1:v < s):0 < (ordE r es v).length∧((ordE r es v).length:Int)≤s∧(ordE r es v).Nodup∧∀ x∈ordE r es v,0≤x∧x < s:=by
 have h:=bfs_ok (L:=lets r.toNat) hg.all h0 h1;refine ⟨?_,?_,h.nd,?_⟩
 ·unfold ordE
  rw [List.length_map];exact List.length_pos_iff.2 (bfs_ne _ _ _)
 ·unfold ordE
  rw [List.length_map];exact h.len (by omega)
 ·intro x hx
  obtain ⟨p,hp,rfl⟩:=List.mem_map.1 hx;exact h.rng p hp
theorem canonG_gr {r:Int} {g:Int × List Ed} (hg:IsGr r g.1 g.2):IsGr r (canonG r g).1 (canonG r g).2:=by
 unfold canonG;split
 ·have hs:=hg.size
  have h:=ordE_len hg (v:=0) (Int.le_refl _) (by omega);refine partE_gr hg ?_ (by omega);intro h0;rw [h0] at h;simp at h
 ·exact hg
theorem coreA_gr {r:Int} {g:Int × List Ed} (hg:IsGr r g.1 g.2):IsGr r (coreA r g).1 (coreA r g).2:=canonG_gr (trimA_gr 40 (foldA_gr 40 hg))
theorem IsCor.gr {r s:Int} {es:List Ed} (h:IsCor r s es):IsGr r s es:=h.fol.gr
end
theorem nextV_pos_iff {r s:Int} {es:List Ed} (hg:∀ e∈es,InG r s e) (v x:Int):0≤nextV es v x↔∃ e∈es,∃ u,endOf v x e=some u:=by
 constructor
 ·intro h
  obtain ⟨e,he,h'⟩:=nextV_edge h;exact ⟨e,he,_,h'⟩
 ·rintro ⟨e,he,u,h⟩
  rcases nextV_cases hg v x with h1 | h1
  ·have:=nextV_neg h1 fun e he=>by have:=hg e he;unfold InG at this;omega
   have hu:u∈ends es v x:=mem_ends.2 ⟨e,he,h⟩;rw [this] at hu;simp at hu
  ·exact h1.1
section
open Go.RowKit
def WordTo (rank:Int) (xs:List Int) (k:Nat):Prop :=
 ∀ j x,j < k→xs[j]?=some x→letB rank x=true∧∀ y,0 < j→xs[j - 1]?=some y→invB y x=false
theorem WordTo.zero (rank:Int) (xs:List Int):WordTo rank xs 0:=fun j x h=>absurd h (Nat.not_lt_zero j)
theorem WordTo.succ {rank:Int} {xs:List Int} {k:Nat} {x:Int} (h:WordTo rank xs k) (hx:xs[k]?=some x) (hl:letB rank x=true) (hp:∀ y,0 < k→xs[k - 1]?=some y→invB y x=false):WordTo rank xs (k+1):=by
 intro j z hj hz;rcases Nat.lt_or_eq_of_le (Nat.le_of_lt_succ hj) with h1 | rfl
 ·exact h j z h1 hz
 ·rw [hx] at hz
  obtain rfl:=Option.some.inj hz;exact ⟨hl,hp⟩
theorem wordTo_all {rank:Int} {xs:List Int} (h1:1≤rank) (h3:rank≤3):WordTo rank xs xs.length↔WordP rank xs:=by
 constructor
 ·intro h
  refine ⟨fun x hx=>?_,fun k x y hx hy he=>?_⟩
  ·obtain ⟨j,hj⟩:=List.mem_iff_getElem?.1 hx
   have:=(h j x (List.getElem?_eq_some_iff.1 hj).1 hj).1
   simpa [letB] using this
  ·have hl:=(List.getElem?_eq_some_iff.1 hy).1
   have h2:=(h (k+1) y hl hy).2 x (Nat.succ_pos k) (by simpa using hx);have h4:=(h k x (by omega) hx).1;simp [letB] at h4;have:invB x y=true:=(invB_iff x y).2 ⟨h4.1,by unfold minI;omega,he⟩;rw [this] at h2;cases h2
 ·rintro ⟨ha,hb⟩ j x hj hx
  refine ⟨by simpa [letB] using ha x (List.mem_of_getElem? hx),fun y h0 hy=>?_⟩;cases hv:invB y x with
  | false=>rfl
  | true=>exact absurd ((invB_iff y x).1 hv).2.2 (hb (j - 1) y x hy (by rw [Nat.sub_add_cancel h0];exact hx))
def RawAt (rank:Int) (xs:List Int) (j:Nat) (x:Int):Prop:=(x == 0)=false∧inB x (wrap64 (-rank)) rank=true∧∀ y,0 < j→xs[j - 1]?=some y→(x == wrap64 (-y))=false
def RawTo (rank:Int) (xs:List Int) (k:Nat):Prop:=∀ j x,j < k→xs[j]?=some x→RawAt rank xs j x
theorem RawTo.zero (rank:Int) (xs:List Int):RawTo rank xs 0:=fun j x h=>absurd h (Nat.not_lt_zero j)
theorem RawTo.succ {rank:Int} {xs:List Int} {k:Nat} {x:Int} (h:RawTo rank xs k) (hx:xs[k]?=some x) (hp:RawAt rank xs k x):RawTo rank xs (k+1):=by
 intro j z hj hz;rcases Nat.lt_or_eq_of_le (Nat.le_of_lt_succ hj) with h1 | rfl
 ·exact h j z h1 hz
 ·rw [hx] at hz
  obtain rfl:=Option.some.inj hz;exact hp
theorem rawTo_all {rank:Int} {xs:List Int} (h1:1≤rank) (h3:rank≤3):RawTo rank xs xs.length↔WordP rank xs:=by
 have hw:wrap64 (-rank) = -rank:=by rw [wrap_neg (by omega) (by omega)];unfold negI minI;rw [if_neg (by omega)]
 have hwy:∀ y, -rank≤y→y≤rank→wrap64 (-y) = -y:=fun y ha hb=>by rw [wrap_neg (by omega) (by omega)];unfold negI minI;rw [if_neg (by omega)]
 unfold RawTo RawAt;rw [hw];constructor
 ·intro h
  refine ⟨fun x hx=>?_,fun k x y hx hy he=>?_⟩
  ·obtain ⟨j,hj⟩:=List.mem_iff_getElem?.1 hx
   have:=h j x (List.getElem?_eq_some_iff.1 hj).1 hj;simp [inB] at this;exact ⟨this.1,this.2.1⟩
  ·have hl:=(List.getElem?_eq_some_iff.1 hy).1
   have h2:=(h (k+1) y hl hy).2.2 x (Nat.succ_pos k) (by simpa using hx);have h4:=(h k x (by omega) hx).2.1;simp [inB] at h4;rw [hwy x h4.1 h4.2,he] at h2;simp at h2
 ·rintro ⟨ha,hb⟩ j x hj hx
  have h0:=ha x (List.mem_of_getElem? hx);refine ⟨by simpa using h0.1,by simpa [inB] using h0.2,fun y hp hy=>?_⟩;have h5:=ha y (List.mem_of_getElem? hy);rw [hwy y h5.2.1 h5.2.2];have:=hb (j - 1) y x hy (by rw [Nat.sub_add_cancel hp];exact hx)
  simpa using this
end
def stepE (u x v:Int):Ed:=if x < 0 then ⟨v, -x,u⟩ else ⟨u,x,v⟩
def pathV (u s:Int) (n:Nat) (v:Int) (i:Nat):Int:=if i=0 then u else if i < n then s+(i:Int) - 1 else v
def pathE (u s:Int) (w:List Int) (v:Int) (k:Nat):List Ed:=(List.range k).map fun i=>stepE (pathV u s w.length v i) (w.getD i 0) (pathV u s w.length v (i+1))
theorem pathE_succ {u s v x:Int} {w:List Int} {k:Nat} (h:w[k]?=some x):pathE u s w v (k+1)=pathE u s w v k++[stepE (pathV u s w.length v k) x (pathV u s w.length v (k+1))]:=by
 simp [pathE,List.range_succ,List.getD,h]
theorem pathE_len (u s:Int) (w:List Int) (v:Int) (k:Nat):(pathE u s w v k).length=k:=by simp [pathE]
structure PathOk (r s:Int) (es:List Ed) (u:Int) (w:List Int) (v:Int):Prop where
 gr:IsGr r s es
 u0:0≤u∧u < s
 v0:0≤v∧v < s
 word:IsW r w
 ne:w≠[]
 sz:s+(w.length:Int) - 1≤40
 ln:es.length+w.length≤120
theorem pathV_in {u s v:Int} {n:Nat} (hu:0≤u∧u < s) (hv:0≤v∧v < s) (i:Nat):0≤pathV u s n v i∧(0 < n→pathV u s n v i < s+(n:Int) - 1):=by
 unfold pathV;split
 ·omega
 ·split <;> omega
theorem stepE_in {r s u x v:Int} (hu:0≤u∧u < s) (hv:0≤v∧v < s) (hx:x≠0∧-r≤x∧x≤r):InG r s (stepE u x v):=by
 unfold stepE InG;split <;> simp only <;> omega
theorem path_gr {r s:Int} {es:List Ed} {u:Int} {w:List Int} {v:Int} (h:PathOk r s es u w v):IsGr r (s+(w.length:Int) - 1) (canon (es++pathE u s w v w.length)):=by
 have hs:=h.gr.size;have hn:0 < w.length:=List.length_pos_iff.2 h.ne;refine ⟨h.gr.rank,⟨by omega,h.sz⟩,?_,?_,asc_canon _⟩
 ·have h1:=canon_len (es++pathE u s w v w.length)
  rw [List.length_append,pathE_len] at h1;have:=h.ln;omega
 ·intro e he
  rcases List.mem_append.1 (mem_canon.1 he) with h1 | h1
  ·have:=h.gr.all e h1
   unfold InG at this ⊢;omega
  ·simp only [pathE,List.mem_map,List.mem_range] at h1
   obtain ⟨i,hi,rfl⟩:=h1;have h2:=pathV_in (n:=w.length) h.u0 h.v0 i;have h3:=pathV_in (n:=w.length) h.u0 h.v0 (i+1);refine stepE_in ⟨h2.1,h2.2 hn⟩ ⟨h3.1,h3.2 hn⟩ ?_;have hw:=h.word.2.2.2;have hm:w.getD i 0∈w:=by
    rw [List.getD_eq_getElem?_getD,List.getElem?_eq_getElem hi];exact List.getElem_mem hi
   exact hw.1 _ hm
theorem nodup_le:∀ (L:Nat) (l:List Int),l.Nodup→(∀ v∈l,0≤v∧v < (L:Int))→l.length≤L:=by
 intro L
 induction L with
 | zero =>
  intro l _ h;cases l with
  | nil=>simp
  | cons a t=>have:=h a List.mem_cons_self;omega
 | succ L ih =>
  intro l hn h;by_cases hm:(L:Int)∈l
  ·have h1:=ih (l.erase (L:Int)) (hn.erase _) (fun v hv=>by
    have hv2:=List.mem_of_mem_erase hv;have h3:=h v hv2;have h4:v≠(L:Int):=fun e=>by subst e;exact (hn.not_mem_erase) hv
    omega)
   rw [List.length_erase_of_mem hm] at h1;omega
  ·have h1:=ih l hn (fun v hv=>by
    have h3:=h v hv;have h4:v≠(L:Int):=fun e=>by subst e;exact hm hv
    omega)
   omega
def placeL (n:Nat) (ord:List Int):List Int:=(List.range n).map fun (v:Nat)=>idxI ord (v:Int)
theorem placeL_len (n:Nat) (ord:List Int):(placeL n ord).length=n:=by simp [placeL]
theorem placeL_nil (n:Nat):placeL n []=List.replicate n (-1):=by
 unfold placeL;rw [List.eq_replicate_iff];refine ⟨by simp,fun b hb=>?_⟩;obtain ⟨v, -,rfl⟩:=List.mem_map.1 hb;exact idxI_neg (by simp)
theorem placeL_get {n j:Nat} (ord:List Int) (h:j < n):(placeL n ord)[j]?=some (idxI ord (j:Int)):=by simp [placeL,h]
theorem idxI_snoc {xs:List Int} {x:Int} (h:x ∉ xs) (v:Int):idxI (xs++[x]) v=if v=x then (xs.length:Int) else idxI xs v:=by
 unfold idxI;by_cases hv:v=x
 ·subst hv
  rw [if_pos (by simp),if_pos rfl,List.idxOf_append,if_neg h];simp
 ·rw [if_neg hv]
  by_cases hm:v∈xs
  ·rw [if_pos (by simp [hm]),if_pos hm,List.idxOf_append,if_pos hm]
  ·rw [if_neg (by simp [hm,hv]),if_neg hm]
theorem placeL_set {n m k:Nat} {ord:List Int} (hn:ord.Nodup) (hk:ord[k]?=some (m:Int)) (hm:m < n):(placeL n (ord.take k)).set m (k:Int)=placeL n (ord.take (k+1)):=by
 obtain ⟨hkl,hk'⟩:=List.getElem?_eq_some_iff.1 hk;have ht:ord.take (k+1)=ord.take k++[(m:Int)]:=by rw [List.take_succ_eq_append_getElem hkl,hk']
 have hnm:(m:Int) ∉ ord.take k:=by
  rw [← List.take_append_drop (k+1) ord,ht] at hn;exact fun h=>(List.nodup_append.1 (List.nodup_append.1 hn).1).2.2 _ h _ (by simp) rfl
 have hl:(ord.take k).length=k:=by rw [List.length_take];omega
 apply List.ext_getElem?;intro j;rw [ht];by_cases hj:j < n
 ·rw [placeL_get _ hj,idxI_snoc hnm]
  by_cases hjm:m=j
  ·subst hjm
   rw [List.getElem?_set_self (by rw [placeL_len];exact hj),if_pos rfl,hl]
  ·rw [List.getElem?_set_ne hjm,placeL_get _ hj,if_neg (by omega)]
 ·rw [List.getElem?_eq_none (by rw [List.length_set,placeL_len];omega),List.getElem?_eq_none (by rw [placeL_len];omega)]
def placeM (n:Nat) (ord:List Int):List Int:=(placeL n ord).map (·+1)
theorem placeM_nil (n:Nat):placeM n []=List.replicate n 0:=by simp [placeM,placeL_nil]
theorem placeM_get {n j:Nat} (ord:List Int) (h:j < n):(placeM n ord)[j]?=some (idxI ord (j:Int)+1):=by simp [placeM,placeL_get ord h]
theorem placeM_set {n m k:Nat} {ord:List Int} (hn:ord.Nodup) (hk:ord[k]?=some (m:Int)) (hm:m < n):(placeM n (ord.take k)).set m ((k:Int)+1)=placeM n (ord.take (k+1)):=by
 unfold placeM;rw [← placeL_set hn hk hm,List.map_set]
theorem not_in_take {k:Nat} {x:Int} {ord:List Int} (hn:ord.Nodup) (hk:ord[k]?=some x):x ∉ ord.take k:=by
 obtain ⟨hkl,hk'⟩:=List.getElem?_eq_some_iff.1 hk;have ht:ord.take (k+1)=ord.take k++[x]:=by rw [List.take_succ_eq_append_getElem hkl,hk']
 rw [← List.take_append_drop (k+1) ord,ht] at hn;exact fun h=>(List.nodup_append.1 (List.nodup_append.1 hn).1).2.2 _ h _ (by simp) rfl
def rdA (es:List Ed):Int→List Int→Int × Nat
 | v,[]=>(v,0)
 | v,x :: t=>if nextV es v x < 0 then (v,0) else ((rdA es (nextV es v x) t).1,(rdA es (nextV es v x) t).2+1)
theorem rdA_le (es:List Ed):∀ (w:List Int) (v:Int),(rdA es v w).2≤w.length
 | [],v=>Nat.le_refl _
 | x :: t,v=>by
  rw [rdA];split
  ·exact Nat.zero_le _
  ·exact Nat.succ_le_succ (rdA_le es t _)
theorem rdA_in {r s:Int} {es:List Ed} (hg:∀ e∈es,InG r s e):∀ (w:List Int) {v:Int},0≤v∧v < s→0≤(rdA es v w).1∧(rdA es v w).1 < s
 | [],v,h=>h
 | x :: t,v,h=>by
  rw [rdA];split
  ·exact h
  ·have:=nextV_cases hg v x
   exact rdA_in hg t (by omega)
def ExtIs (r s:Int) (es:List Ed) (w:List Int) (b:Bool) (s2:Int) (es2:List Ed) (x:Int):Prop :=
 (b=true∧(rdA es 0 w).2=w.length∧s2=s∧es2=es∧x=(rdA es 0 w).1) ∨
 (b=true∧(rdA es 0 w).2 < w.length∧s < 40∧PathOk r (s+1) es (rdA es 0 w).1 (w.drop (rdA es 0 w).2) s∧s2=s+1+((w.drop (rdA es 0 w).2).length:Int) - 1 ∧
  es2=canon (es++pathE (rdA es 0 w).1 (s+1) (w.drop (rdA es 0 w).2) s (w.drop (rdA es 0 w).2).length)∧x=s) ∨
 (b=false∧(rdA es 0 w).2 < w.length∧¬ (s < 40∧PathOk r (s+1) es (rdA es 0 w).1 (w.drop (rdA es 0 w).2) s)∧s2=0∧es2=[]∧x=0)
theorem ext_ex (r s:Int) (es:List Ed) (w:List Int):∃ b s2 es2 x,ExtIs r s es w b s2 es2 x:=by
 rcases Nat.lt_or_ge (rdA es 0 w).2 w.length with h | h
 ·by_cases hc:s < 40∧PathOk r (s+1) es (rdA es 0 w).1 (w.drop (rdA es 0 w).2) s
  ·exact ⟨_,_,_,_,.inr (.inl ⟨rfl,h,hc.1,hc.2,rfl,rfl,rfl⟩)⟩
  ·exact ⟨_,_,_,_,.inr (.inr ⟨rfl,h,hc,rfl,rfl,rfl⟩)⟩
 ·have:=rdA_le es w 0
  exact ⟨_,_,_,_,.inl ⟨rfl,by omega,rfl,rfl,rfl⟩⟩
theorem ExtIs.gr {r s:Int} {es:List Ed} {w:List Int} {s2:Int} {es2:List Ed} {x:Int} (h:ExtIs r s es w true s2 es2 x) (hg:IsGr r s es):IsGr r s2 es2∧0≤x∧x < s2:=by
 have hs:=hg.size;rcases h with ⟨-, -,rfl,rfl,rfl⟩ | ⟨-, -,h1,h2,rfl,rfl,rfl⟩ | ⟨h, -⟩
 ·exact ⟨hg,rdA_in hg.all w (by omega)⟩
 ·have hl:0 < (w.drop (rdA es 0 w).2).length:=List.length_pos_iff.2 h2.ne
  exact ⟨path_gr h2,by omega,by omega⟩
 ·cases h
def mvOrd (s v:Int):List Int:=v :: but v.toNat s.toNat
noncomputable def moveA (r s:Int) (es:List Ed) (v:Int):Int × List Ed:=coreA r (s,partE (mvOrd s v) es)
theorem mvOrd_ok {s v:Int} (h:0≤v∧v < s):(mvOrd s v).length=s.toNat∧(mvOrd s v).Nodup∧∀ x∈mvOrd s v,0≤x∧x < s:=by
 refine ⟨?_,?_,?_⟩
 ·have:=but_len v.toNat (k:=s.toNat) (by omega)
  simp only [mvOrd,List.length_cons,this];omega
 ·refine List.nodup_cons.2 ⟨fun hm=>?_,but_nodup _ _⟩
  obtain ⟨u, -,hu,he⟩:=mem_but.1 hm;omega
 ·intro x hx
  rcases List.mem_cons.1 hx with rfl | hx
  ·exact h
  ·have:=but_range hx
   omega
theorem mv_gr {r s:Int} {es:List Ed} {v:Int} (hg:IsGr r s es) (h:0≤v∧v < s):IsGr r s (partE (mvOrd s v) es):=by
 obtain ⟨h1, -, -⟩:=mvOrd_ok h;have h2:=partE_gr hg (order:=mvOrd s v) (by simp [mvOrd]) (by have:=hg.size;omega);rw [h1] at h2;rw [show ((s.toNat:Nat):Int)=s by omega] at h2;exact h2
theorem moveA_gr {r s:Int} {es:List Ed} {v:Int} (hg:IsGr r s es) (h:0≤v∧v < s):IsGr r (moveA r s es v).1 (moveA r s es v).2:=coreA_gr (g:=(s,partE (mvOrd s v) es)) (mv_gr hg h)
def MoveIs (r s:Int) (es:List Ed) (v:Int) (rs:Int) (res:List Ed) (b:Bool):Prop :=
 (b=true∧(IsFol r s es∧0≤v∧v < s)∧rs=(moveA r s es v).1∧res=(moveA r s es v).2) ∨ (b=false∧¬ (IsFol r s es∧0≤v∧v < s)∧rs=s∧res=es)
def petalA (g:Int × List Ed) (w:List Int):Int × List Ed:=if w=[] then g else (g.1+(w.length:Int) - 1,canon (g.2++pathE 0 g.1 w 0 w.length))
def flowA (l:List (List Int)) (g:Int × List Ed):Int × List Ed:=l.foldl petalA g
theorem flowA_take {l:List (List Int)} {k:Nat} {w:List Int} (h:l[k]?=some w) (g:Int × List Ed):flowA (l.take (k+1)) g=petalA (flowA (l.take k) g) w:=by
 unfold flowA;rw [List.take_add_one,h];simp [List.foldl_append]
end Go.Proofs.YthampgpcajmopaaGreat
