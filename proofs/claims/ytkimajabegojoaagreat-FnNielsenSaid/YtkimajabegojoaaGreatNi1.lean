/- Contracts and lemmas of this seat, many texts in one: see the words ahead of each. No condition beyond those typed in each lemma. -/
import Derived.WalkKit
import Derived.WalkSpells
import Derived.WalkLawsBesides
import Derived.Maps.AppendAt
import Derived.Lib.Hide
import Derived.Deep.Draws
import Derived.Deep.QuietTactic
import Derived.BigQuiet
import Derived.Test.YtkimajabegojoaaGreatRows
import Derived.Laws.Bits128
import Derived.IntWalk
import Derived.Deep.AppendLies
import Derived.RegionTactic
import Derived.Shelf.Small.Wraps
import Derived.Shelf.Sort.Plain
import Derived.Ground.Names2Prog
import Derived.Shelf.Slices.CompactI
import Derived.Shelf.Slices.Cells
import Derived.Shelf.Slices.In.SortNone
import Derived.Test.YtkimajabegojoaaGreatProg
import Derived.Lib.OwnBridge
import Derived.Shelf.SlGeneric
import Derived.Shelf.SlSortCmp.WholeK
import Derived.Shelf.SlicesQ.Contains
import Derived.Shelf.SlicesQ.Equal
import Derived.Ground.SlsfProg
import Derived.Ground.SlgqProg

namespace Go.Proofs.YtkimajabegojoaaGreat
set_option linter.unusedVariables false
set_option linter.unusedSimpArgs false
set_option maxHeartbeats 40000000
set_option maxRecDepth 100000
theorem oZr {p:Prop} {n:Nat}:p ∨ 0≤n:=Or.inr (Nat.zero_le _)
theorem oZl {p:Prop} {n:Nat}:0≤n ∨ p:=Or.inl (Nat.zero_le _)
theorem zs1 {α:Type _} (l:List α) (i:Nat) (a:α):l.toArray.setIfInBounds i a=(l.set i a).toArray:=List.setIfInBounds_toArray l i a
theorem zs2 {α:Type _} {x:α} {xs:List α} {a:α}:(x :: xs).set 0 a=a :: xs:=List.set_cons_zero
theorem zs3 {α:Type _} {x:α} {xs:List α} {i:Nat} {a:α}:(x :: xs).set (i+1) a=x :: xs.set i a:=List.set_cons_succ
theorem zs4 {α:Type _} {xs:List α} {i:Nat} (h:i < xs.toArray.size):xs.toArray[i]=xs[i]'(by simpa using h):=List.getElem_toArray h
theorem zs5 {α:Type _} (a:α) (xs:List α) (h:0 < (a :: xs).length):(a :: xs)[0]=a:=List.getElem_cons_zero a xs h
theorem zs6 {α:Type _} (a:α) (xs:List α) (i:Nat) (h:i+1 < (a :: xs).length):(a :: xs)[i+1]=xs[i]'(Nat.lt_of_succ_lt_succ h):=List.getElem_cons_succ a xs i h
section
open Go.RowKit
def ints (xs:List Int):List Value:=xs.map (Value.int .i64)
theorem ints_len (xs:List Int):(ints xs).length=xs.length:=by simp [ints]
theorem ints_append (xs ys:List Int):ints (xs++ys)=ints xs++ints ys:=by simp [ints]
theorem ints_get (xs:List Int) (k:Nat):(ints xs)[k]?=(xs[k]?).map (Value.int .i64):=by simp [ints]
def Rs (w:World) (B:Nat) (A:Option Addr) (cs:List Value):Prop :=
 cs≠[]→∃ b off,A=some ⟨b,off,none⟩∧b < B∧∀ j u,cs[j]?=some u→w.cell? ⟨b,off+j,none⟩=some u
section
variable {w w' w0:World} {B B':Nat} {A:Option Addr} {cs:List Value}
theorem Rs.nil:Rs w B A []:=fun h=>absurd rfl h
theorem Rs.keep (h:Rs w B A cs) (hk:∀ p:Addr,p.block < B→w'.cell? p=w.cell? p):Rs w' B A cs:=fun hn=>by
 obtain ⟨b,off,e,hb,hc⟩:=h hn;exact ⟨b,off,e,hb,fun j u hu=>(hk _ hb).trans (hc j u hu)⟩
theorem Rs.more (h:Rs w B A cs) (hB:B≤B'):Rs w B' A cs:=fun hn=>by
 obtain ⟨b,off,e,hb,hc⟩:=h hn;exact ⟨b,off,e,by omega,hc⟩
theorem Rs.below (h:Rs w B A cs) (hb:Below B w w'):Rs w' B A cs:=h.keep fun _ hp=>hb.cell hp
theorem Rs.drewN (h:Rs w B A cs) (k:Nat):Rs (w.drewN k) B A cs:=h
theorem Rs.alloc (h:Rs w B A cs) (hB:B≤w.heap.size) (o:Obj):Rs (w.alloc o) B A cs:=h.keep fun p hp=>World.cell?_alloc_lt w o p (by omega)
theorem Rs.of_own {base:Nat} {e:TypeId} {size n c:Nat} (h:w.ownsRow base e size (.slice A n c) n cs):Rs w w.heap.size A cs:=fun hn=>by
 rcases h.2 with ⟨hv,h0⟩ | ⟨g,cap,cur,hv,hg,hh,hnc,hcm,hcs,htake⟩
 ·subst h0
  exact absurd (List.eq_nil_of_length_eq_zero (by simpa using h.1)) hn
 ·injection hv with hA _ hc
  subst hA;subst hc;refine ⟨g,0,rfl,(Array.getElem?_eq_some_iff.1 hh).1,fun j u hu=>?_⟩;rw [Nat.zero_add];have hjl:=(List.getElem?_eq_some_iff.1 hu).1;rw [h.cellAt j (by have:=h.1;omega)];exact hu
theorem Rs.at (h:Rs w B A cs) {j:Nat} (hj:j < cs.length):∃ b off u,A=some ⟨b,off,none⟩∧b < B∧cs[j]?=some u∧w.cell? ⟨b,off+j,none⟩=some u:=by
 obtain ⟨b,off,e,hb,hc⟩:=h (by intro h0;subst h0;simp at hj);exact ⟨b,off,cs[j],e,hb,List.getElem?_eq_getElem hj,hc j _ (List.getElem?_eq_getElem hj)⟩
theorem Rs.drop (h:Rs w B A cs) {k n cap:Nat} (size:Nat) (hn:cs.length=n * size) (hc:n≤cap) :
  Rs w B (if cap=k then A else A.map (·.add (k * size))) (cs.drop (k * size)):=by
 intro hne;have hlt:k * size < cs.length:=by
  rcases Nat.lt_or_ge (k * size) cs.length with h1 | h1
  ·exact h1
  ·exact absurd (List.drop_eq_nil_of_le h1) hne
 obtain ⟨b,off,rfl,hb,hcell⟩:=h (by intro h0;subst h0;simp at hlt);have hk:¬ cap=k:=by
  intro e;subst e;rw [hn] at hlt;exact absurd (Nat.lt_of_mul_lt_mul_right hlt) (by omega)
 rw [if_neg hk];refine ⟨b,off+k * size,?_,hb,fun j u hu=>?_⟩
 ·simp [Addr.add]
 ·rw [Nat.add_assoc]
  exact hcell _ u (by rw [← hu,List.getElem?_drop])
theorem Rs.take (h:Rs w B A cs) (k:Nat):Rs w B A (cs.take k):=fun hne=>by
 obtain ⟨b,off,e,hb,hc⟩:=h (by intro h0;subst h0;simp at hne);refine ⟨b,off,e,hb,fun j u hu=>hc j u ?_⟩;rw [List.getElem?_take] at hu;split at hu
 ·exact hu
 ·cases hu
end
theorem below_of_grown {w w':World} {row:Option Nat} (hg:w.grownBy w' row) {B:Nat} (hB:B≤w.heap.size) (hr:∀ g,row=some g→B≤g):Below B w w' :=
 (Below.refl B w).grown hg hB hr
theorem below_none {w w':World} (hg:w.grownBy w' none):Below w.heap.size w w':=below_of_grown hg (Nat.le_refl _) (by intro g h;cases h)
theorem below_drewN {B:Nat} {a w:World} (h:Below B a w) (n:Nat):Below B a (w.drewN n):=⟨h.os,h.tape,h.output,h.size,h.block⟩
theorem grown_trans {a b c:World} {row:Option Nat} (h:a.grownBy b row) (k:b.grownBy c row):a.grownBy c row :=
 ⟨k.os.trans h.os,k.tape.trans h.tape,k.output.trans h.output,Nat.le_trans h.size k.size,
  fun i hi hn=>(k.block i (Nat.lt_of_lt_of_le hi h.size) hn).trans (h.block i hi hn)⟩
theorem grown_of_below {a w:World} (h:Below a.heap.size a w) (row:Option Nat):a.grownBy w row:=⟨h.os,h.tape,h.output,h.size,fun i hi _=>h.block i hi⟩
section
variable {w w':World} {base:Nat} {e:TypeId} {size:Nat} {v:Value} {n:Nat} {xs:List Value}
theorem owns_below {C:Nat} (h:w.ownsRow base e size v n xs) (hb:Below C w w') (hC:∀ g,v.ownBlock=some g→g < C):w'.ownsRow base e size v n xs:=by
 refine ⟨h.1,?_⟩;rcases h.2 with hn | ⟨g,cap,cur,rfl,hbg,hgg,rest⟩
 ·exact .inl hn
 ·exact .inr ⟨g,cap,cur,rfl,hbg,(hb.block g (hC g rfl)).trans hgg,rest⟩
theorem owns_belowS (h:w.ownsRow base e size v n xs) (hb:Below w.heap.size w w'):w'.ownsRow base e size v n xs :=
 owns_below h hb fun g hg=>(h.lt g hg).2
theorem owns_base {base':Nat} (h:w.ownsRow base e size v n xs) (hb:base'≤base):w.ownsRow base' e size v n xs:=by
 refine ⟨h.1,?_⟩;rcases h.2 with hn | ⟨g,cap,cur,rfl,hbg,rest⟩
 ·exact .inl hn
 ·exact .inr ⟨g,cap,cur,rfl,by omega,rest⟩
theorem owns_shape (h:w.ownsRow base e size v n xs):∃ A c,v=.slice A n c∧n≤c∧c≤maxLen:=by
 rcases h.2 with ⟨rfl,rfl⟩ | ⟨g,cap,cur,rfl,_,_,hnc,hcm,_⟩
 ·exact ⟨none,0,rfl,Nat.le_refl _,Nat.zero_le _⟩
 ·exact ⟨_,cap,rfl,hnc,hcm⟩
end
theorem owns_empty (w:World) (e:TypeId) (size:Nat):(w.alloc (.cells #[] e)).ownsRow w.heap.size e size (.slice (some ⟨w.heap.size,0,none⟩) 0 0) 0 [] :=
 World.ownsRow_lit (size:=size) w #[] 0 (Nat.le_refl _) (Nat.zero_le _) (by simp)
theorem owns_drewN {w:World} {base:Nat} {e:TypeId} {size:Nat} {v:Value} {n:Nat} {xs:List Value} (h:w.ownsRow base e size v n xs) (k:Nat):(w.drewN k).ownsRow base e size v n xs:=h
theorem dn (w:World) (a b:Nat):(w.drewN a).drewN b=w.drewN (a+b):=World.drewN_drewN _ _ _
theorem owns_row {w w':World} {row:Option Nat} {n:Nat} (h:(w.drewN n).grownBy w' row):w.grownBy w' row:=⟨h.os,h.tape,h.output,h.size,h.block⟩
def RetI (eI:TypeId) (xs:List Int) (w:World) (e:Ending) (w':World):Prop :=
 ∃ A c,e=.returned (.slice A xs.length c)∧w'.ownsRow w.heap.size eI 1 (.slice A xs.length c) xs.length (ints xs)∧Below w.heap.size w w'
theorem RetI.mk {eI:TypeId} {xs:List Int} {w w':World} {v:Value} {n:Nat} (hn:xs.length=n) (h:w'.ownsRow w.heap.size eI 1 v n (ints xs)) (hb:Below w.heap.size w w'):RetI eI xs w (.returned v) w':=by
 subst hn;obtain ⟨A,c,rfl, -, -⟩:=owns_shape h;exact ⟨A,c,rfl,h,hb⟩
section
variable {P:Program} {W:World} {ops:Array Oper} {rest:List Oper} {o:Oper} {a:Act} {Q:Exit→Act→World→Prop}
theorem wpList_push (hgd:o.guard=none) (s x:Operand) (t:TypeId)
  (ho:o.op=.call { callee:=.builtin .append,args:=#[s,x],argTypes:=#[t,t] })
  (base:Nat) (e:TypeId) (z:Value) (size bytes:Nat) (ht:P.underlying t=some (.slice e)) (hinfo:(P.info? e).map (fun i=>(i.zero,i.size,i.bytes))=some (some z,size,bytes))
  (hzs:z.cells.size=size) (hsz:0 < size)
  (v:Value) (n:Nat) (xs:List Value) (hs:a.eval s=v) (hown:W.ownsRow base e size v n xs)
  (m:Nat) (news:List Value) (hx:a.eval x=.slice (some ⟨W.heap.size,0,none⟩) m m) (hl:news.length=m * size) (h1:∀ u∈news,u.oneCell'=true)
  (h63:n+m≤maxLen) (hbytes:(n+m) * bytes≤140737488355328) (hbase:base≤W.heap.size)
  (h:∀ v' w',w'.ownsRow base e size v' (n+m) (xs++news)→W.grownBy w' v.ownBlock→(v'.ownBlock=v.ownBlock ∨ v'.ownBlock=some (W.heap.size+1))→wpList P ops Q rest (a.put o.dst v') w') :
  wpList P ops Q (o :: rest) a (W.alloc (.cells news.toArray e)):=by
 obtain ⟨i,hi,hz,hsize,hby⟩:=info_parts hinfo;refine wpList_append_own_at _ hgd s x t ho base e i z size bytes ht hi hz hsize hby hzs hsz v n xs hs (hown.alloc _) ⟨W.heap.size,0,none⟩ m m news hx hl ?_ h1 h63 hbytes (by simp;omega) ?_
 ·intro j u hu
  rw [Addr.add_lit,Nat.zero_add,World.cell?_alloc_new]
  simpa using hu
 ·intro v' w' h2 h3 _ h4
  exact h v' w' h2 (grown_trans (World.grownBy_alloc W _ _) h3) (by simpa using h4)
theorem run_append_none (base:Nat) (t ty e:TypeId) (i:TypeInfo) (size:Nat) (ht:P.underlying t=some (.slice e)) (hi:P.info? e=some i)
  (v:Value) (n:Nat) (xs:List Value) (hown:W.ownsRow base e size v n xs) (c:Nat):(Builtin.append_ #[t,t] ty #[v,.slice none 0 c]).run P W=.ok v W:=by
 rcases hown.2 with ⟨rfl,rfl⟩ | ⟨g,cap,cur,rfl,_,_,hnc,_⟩
 ·simp [Builtin.append_,run_underlying ht,sizeOf,typeInfo,hi,Builtin.lenOf,Builtin.firstCells]
 ·simp [Builtin.append_,run_underlying ht,sizeOf,typeInfo,hi,Builtin.lenOf,Builtin.firstCells,hnc,storeCells]
theorem wpList_cat (hgd:o.guard=none) (s x:Operand) (t:TypeId)
  (ho:o.op=.call { callee:=.builtin .append,args:=#[s,x],argTypes:=#[t,t] })
  (base:Nat) (e:TypeId) (z:Value) (size bytes:Nat) (ht:P.underlying t=some (.slice e)) (hinfo:(P.info? e).map (fun i=>(i.zero,i.size,i.bytes))=some (some z,size,bytes))
  (hzs:z.cells.size=size) (hsz:0 < size)
  (v:Value) (n:Nat) (xs:List Value) (hs:a.eval s=v) (hown:W.ownsRow base e size v n xs)
  (A:Option Addr) (m c B:Nat) (news:List Value) (hx:a.eval x=.slice A m c) (hr:Rs W B A news) (hl:news.length=m * size) (h1:∀ u∈news,u.oneCell'=true)
  (h63:n+m≤maxLen) (hbytes:(n+m) * bytes≤140737488355328) (hbase:base≤W.heap.size)
  (h:∀ v' w',w'.ownsRow base e size v' (n+m) (xs++news)→W.grownBy w' v.ownBlock→(v'.ownBlock=v.ownBlock ∨ v'.ownBlock=some W.heap.size)→wpList P ops Q rest (a.put o.dst v') w') :
  wpList P ops Q (o :: rest) a W:=by
 obtain ⟨i,hi,hz,hsize,hby⟩:=info_parts hinfo;cases A with
 | none =>
  have hn:news=[]:=by
   cases hne:news with
   | nil=>rfl
   | cons u r =>
    obtain ⟨b,off,he,_⟩:=hr (by rw [hne];simp);cases he
  subst hn;have hm:m=0:=by
   rcases Nat.eq_zero_or_pos m with h0 | h0
   ·exact h0
   ·have:=Nat.mul_pos h0 hsz
    simp at hl;omega
  subst hm;refine wpList_plain hgd fun K hK=>?_;have hrun:=run_append_none (P:=P) (W:=W) base t o.type e i size ht hi v n xs hown c;unfold Oper.wp;simp [execOp,ho,resolve,invoke,builtin,hs,hx,hrun,Result.andThen];exact hK _ _ (h v W (by simpa using hown) (World.grownBy.refl W _) (Or.inl rfl))
 | some ad =>
  refine wpList_append_own_at _ hgd s x t ho base e i z size bytes ht hi hz hsize hby hzs hsz v n xs hs hown ad m c news hx hl ?_ h1 h63 hbytes hbase ?_
  ·intro j u hu
   obtain ⟨b,off,he,_,hc⟩:=hr (by intro h0;subst h0;simp at hu);injection he with he
   subst he;rw [Addr.add_lit];exact hc j u hu
  ·intro v' w' h2 h3 _ h4
   exact h v' w' h2 h3 h4
theorem wpList_mk (hgd:o.guard=none) (l c:Operand) (t:TypeId) (hop:o.op=Op.makeSlice t l c)
  (e:TypeId) (z:Value) (bytes:Nat) (ht:P.underlying t=some (.slice e)) (hinfo:(P.info? e).map (fun i=>(i.zero,i.size,i.bytes))=some (some z,1,bytes)) (hz1:z.cells=#[z])
  (kl kc:IntKind) (L C:Int) (n:Nat) (hl:a.eval l=.int kl L) (hc:a.eval c=.int kc C) (hL:L=(n:Int)) (hC:C=(n:Int)) (b2:bytes * n≤281474976710656) (b3:n≤maxLen)
  (hK:∀ w',w'.ownsRow W.heap.size e 1 (.slice (some ⟨W.heap.size,0,none⟩) n n) n (List.replicate n z)→W.grownBy w' none→W.heap.size < w'.heap.size→wpList P ops Q rest (a.put o.dst (.slice (some ⟨W.heap.size,0,none⟩) n n)) w') :
  wpList P ops Q (o :: rest) a W:=by
 obtain ⟨i,hi,hz,hsize,hby⟩:=info_parts hinfo;refine wpList_make_full W hgd l c t hop W.heap.size e i z 1 ht hi hz hsize kl kc L C n hl hc hL hC (by rw [hby];exact b2) b3 (Nat.le_refl _) ?_;intro w' h1 h2;rw [hz1,Nat.mul_one,toList_madeCells_one] at h1;exact hK w' h1 h2 ((h1.lt W.heap.size rfl).2)
end
section
variable {w w' w0:World} {base B:Nat} {e:TypeId} {g n cap:Nat} {xs ys:List Value}
theorem owns_set (h:w.ownsRow base e 1 (.slice (some ⟨g,0,none⟩) n cap) n xs) (j:Nat) (u:Value) (hy:xs.set j u=ys) :
  (w.setCell ⟨g,j,none⟩ u).ownsRow base e 1 (.slice (some ⟨g,0,none⟩) n cap) n ys:=by
 subst hy;exact (h.stored j u).1
theorem owns_cell (h:w.ownsRow base e 1 (.slice (some ⟨g,0,none⟩) n cap) n xs) {j:Nat} (hj:j < n):∃ u,xs[j]?=some u∧w.cell? ⟨g,j,none⟩=some u:=by
 have hl:j < xs.length:=by have:=h.1;omega
 exact ⟨xs[j],List.getElem?_eq_getElem hl,(h.cellAt j (by omega)).trans (List.getElem?_eq_getElem hl)⟩
end
theorem set_mid {α:Type} (xs ys:List α) (y x:α):(xs++y :: ys).set xs.length x=(xs++[x])++ys:=by simp
theorem owns_addr {w:World} {base:Nat} {e:TypeId} {size:Nat} {A:Option Addr} {n c:Nat} {xs:List Value} (h:w.ownsRow base e size (.slice A n c) n xs) (hn:0 < n) :
  ∃ g,A=some ⟨g,0,none⟩∧base≤g∧g < w.heap.size:=by
 rcases h.2 with ⟨_,h0⟩ | ⟨g,cap,cur,hv,hbg,hh,_⟩
 ·omega
 ·injection hv with hA
  exact ⟨g,hA,hbg,(Array.getElem?_eq_some_iff.1 hh).1⟩
theorem set_over {α:Type} (ys xs:List α) (u:α) {k:Nat} (hy:ys.length=k) (h:k < xs.length):(ys++xs.drop k).set k u=(ys++[u])++xs.drop (k+1):=by
 subst hy;rw [List.drop_eq_getElem_cons h,set_mid]
theorem grown_setCell {a w:World} {g:Nat} (h:a.grownBy w (some g)) (i:Nat) (u:Value):a.grownBy (w.setCell ⟨g,i,none⟩ u) (some g) :=
 ⟨h.os,h.tape,h.output,by simpa [World.setCell] using h.size,fun k hk hne=>(Below.heap_setCell w _ u k (by rintro rfl;exact hne rfl)).trans (h.block k hk hne)⟩
theorem one_of_ints (xs:List Int):∀ u∈ints xs,u.oneCell'=true:=ints_oneCell .i64 xs
def upto (k:Nat):List Int:=(List.range k).map (fun (i:Nat)=>(i:Int))
theorem upto_succ (k:Nat):upto (k+1)=upto k++[(k:Int)]:=by simp [upto,List.range_succ]
theorem upto_len (k:Nat):(upto k).length=k:=by simp [upto]
def marks (k:Int) (n:Nat):List Int:=(List.range n).map (fun (i:Nat)=>k+(i:Int))
theorem take_succ_of {α:Type} (xs:List α) {k:Nat} {x:α} (h:xs[k]?=some x):xs.take (k+1)=xs.take k++[x]:=by
 rw [List.take_add_one,h];rfl
theorem drop_of {α:Type} (xs:List α) {k:Nat} {x:α} (h:xs[k]?=some x):xs.drop k=x :: xs.drop (k+1):=by
 obtain ⟨hk,rfl⟩:=List.getElem?_eq_some_iff.1 h;exact List.drop_eq_getElem_cons hk
theorem get_of_lt {α:Type} (xs:List α) {k:Nat} (h:k < xs.length):∃ x,xs[k]?=some x:=⟨_,List.getElem?_eq_getElem h⟩
theorem Rs.int {w:World} {B:Nat} {A:Option Addr} {xs:List Int} (h:Rs w B A (ints xs)) {k:Nat} (hk:k < xs.length) :
  ∃ b off x,A=some ⟨b,off,none⟩∧b < B∧xs[k]?=some x∧w.cell? ⟨b,off+k,none⟩=some (.int .i64 x):=by
 obtain ⟨b,off,u,e,hb,hu,hc⟩:=h.at (j:=k) (by simpa [ints] using hk);rw [ints_get] at hu;obtain ⟨x,hx⟩:=get_of_lt xs hk;rw [hx] at hu;simp at hu;subst hu;exact ⟨b,off,x,e,hb,hx,hc⟩
section
variable {P:Program} {f:FuncId} {args:Array Value} {v:Value}
theorem qz0 {W:World} {n:Nat} (h:Calls P f args (W.drewN n) fun e w'=>e=.returned v∧∃ m,w'=(W.drewN n).drewN m) :
  Calls P f args (W.drewN n) fun e w''=>e=.returned v∧∃ m,w''=W.drewN m:=Calls.quiet_of h
theorem qz1 {w:World} {a n:Nat} (h:Calls P f args (w.drewN (a+n)) fun e w'=>e=.returned v∧∃ m,w'=(w.drewN (a+n)).drewN m) :
  Calls P f args (w.drewN (a+n)) fun e w''=>e=.returned v∧∃ m,w''=w.drewN (a+m) :=
 h.mono fun _ _ ⟨he,m,hm⟩=>⟨he,n+m,by rw [hm,World.drewN_drewN,Nat.add_assoc]⟩
theorem pq {W:World} (h:Calls P f args W fun e w'=>e=.returned v∧W=w'):Calls P f args W fun e w'=>e=.returned v∧∃ m,w'=W.drewN m :=
 h.mono fun _ _ ⟨he,hw⟩=>⟨he,0,hw ▸ rfl⟩
end
end
section
open Go.RowKit
def OkI (xs:List Int):Prop:=∀ x∈xs, -9223372036854775808≤x∧x≤9223372036854775807
structure Mid (lo hi:Nat) (w w':World):Prop where
 os:w'.os=w.os
 tape:w'.tape=w.tape
 output:w'.output=w.output
 size:w.heap.size≤w'.heap.size
 block:∀ k,k < w.heap.size→¬ (lo≤k∧k < hi)→w'.heap[k]?=w.heap[k]?
theorem Mid.of_grown {lo hi:Nat} {w w':World} {row:Option Nat} (h:w.grownBy w' row) (hr:∀ g,row=some g→lo≤g∧g < hi):Mid lo hi w w' :=
 ⟨h.os,h.tape,h.output,h.size,fun k hk hn=>h.block k hk (fun e=>hn (hr k e.symm))⟩
theorem Mid.trans {lo hi:Nat} {a b c:World} (h:Mid lo hi a b) (k:Mid lo hi b c):Mid lo hi a c :=
 ⟨k.os.trans h.os,k.tape.trans h.tape,k.output.trans h.output,Nat.le_trans h.size k.size,
  fun i hi' hn=>(k.block i (Nat.lt_of_lt_of_le hi' h.size) hn).trans (h.block i hi' hn)⟩
theorem Mid.refl (lo hi:Nat) (w:World):Mid lo hi w w:=⟨rfl,rfl,rfl,Nat.le_refl _,fun _ _ _=>rfl⟩
theorem Mid.of_below {lo hi:Nat} {w w':World} (h:Below w.heap.size w w'):Mid lo hi w w':=⟨h.os,h.tape,h.output,h.size,fun k hk _=>h.block k hk⟩
theorem Mid.drewN {lo hi:Nat} {w w':World} (h:Mid lo hi w w') (n:Nat):Mid lo hi w (w'.drewN n):=⟨h.os,h.tape,h.output,h.size,h.block⟩
theorem Mid.alloc (w:World) (o:Obj):Mid 0 0 w (w.alloc o):=Mid.of_grown (World.grownBy_alloc w o none) (by intro g h;cases h)
theorem Mid.setCell (w:World) {lo hi:Nat} {p:Addr} (u:Value) (h1:lo≤p.block) (h2:p.block < hi):Mid lo hi w (w.setCell p u) :=
 ⟨rfl,rfl,rfl,by simp [World.setCell],fun k _ hn=>Below.heap_setCell w p u k (by rintro rfl;exact hn ⟨h1,h2⟩)⟩
theorem Mid.grownNew {lo hi:Nat} {w wr w':World} {row:Option Nat} (h:Mid lo hi w wr) (hg:wr.grownBy w' row) (hr:∀ g,row=some g→w.heap.size≤g):Mid lo hi w w' :=
 ⟨hg.os.trans h.os,hg.tape.trans h.tape,hg.output.trans h.output,Nat.le_trans h.size hg.size,fun k hk hn =>
  (hg.block k (Nat.lt_of_lt_of_le hk h.size) (fun e=>by have:=hr k e.symm;omega)).trans (h.block k hk hn)⟩
theorem Mid.storeNew {lo hi:Nat} {w wr:World} {p:Addr} (h:Mid lo hi w wr) (hp:w.heap.size≤p.block) (u:Value):Mid lo hi w (wr.setCell p u) :=
 ⟨h.os,h.tape,h.output,by simpa [World.setCell] using h.size,fun k hk hn=>(Below.heap_setCell wr p u k (by omega)).trans (h.block k hk hn)⟩
theorem Mid.zero {lo hi:Nat} {w w':World} (h:Mid 0 0 w w'):Mid lo hi w w':=⟨h.os,h.tape,h.output,h.size,fun k hk _=>h.block k hk (by omega)⟩
theorem Mid.bel {w w':World} (h:Mid 0 0 w w'):Below w.heap.size w w':=⟨h.os,h.tape,h.output,h.size,fun k hk=>h.block k hk (by omega)⟩
def RV (w:World) (lo hi:Nat) (A:Option Addr) (cs:List Value):Prop :=
 hi≤w.heap.size∧(cs≠[]→∃ b off,A=some ⟨b,off,none⟩∧lo≤b∧b < hi∧∀ j u,cs[j]?=some u→w.cell? ⟨b,off+j,none⟩=some u)
theorem RV.rs {w:World} {lo hi:Nat} {A:Option Addr} {cs:List Value} (h:RV w lo hi A cs):Rs w hi A cs:=fun hn=>by
 obtain ⟨b,off,e,_,hb,hc⟩:=h.2 hn;exact ⟨b,off,e,hb,hc⟩
theorem RV.rsS {w:World} {lo hi:Nat} {A:Option Addr} {cs:List Value} (h:RV w lo hi A cs):Rs w w.heap.size A cs:=h.rs.more h.1
theorem RV.mid {w w':World} {lo hi a b:Nat} {A:Option Addr} {cs:List Value} (h:RV w lo hi A cs) (m:Mid a b w w') (hd:b≤lo ∨ hi≤a):RV w' lo hi A cs :=
 ⟨Nat.le_trans h.1 m.size,fun hn=>by
  obtain ⟨g,off,e,h1,h2,hc⟩:=h.2 hn;have hs:=h.1;exact ⟨g,off,e,h1,h2,fun j u hu=>(World.cell?_of_block (m.block g (by omega) (by omega))).trans (hc j u hu)⟩⟩
theorem RV.wide {w:World} {lo hi lo' hi':Nat} {A:Option Addr} {cs:List Value} (h:RV w lo hi A cs) (h1:lo'≤lo) (h2:hi≤hi') (h3:hi'≤w.heap.size):RV w lo' hi' A cs :=
 ⟨h3,fun hn=>by
  obtain ⟨g,off,e,ha,hb,hc⟩:=h.2 hn;exact ⟨g,off,e,by omega,by omega,hc⟩⟩
def OV (w:World) (lo hi:Nat) (e:TypeId) (size:Nat) (A:Option Addr) (c n:Nat) (cs:List Value):Prop :=
 hi≤w.heap.size∧w.ownsRow lo e size (.slice A n c) n cs∧∀ g,Value.ownBlock (.slice A n c)=some g→g < hi
section
variable {w w':World} {lo hi a b:Nat} {e:TypeId} {size:Nat} {A:Option Addr} {c n:Nat} {cs:List Value}
theorem OV.new {w0:World} (h:w.ownsRow w0.heap.size e size (.slice A n c) n cs):OV w w0.heap.size w.heap.size e size A c n cs :=
 ⟨Nat.le_refl _,h,fun g hg=>(h.lt g hg).2⟩
theorem OV.mid (h:OV w lo hi e size A c n cs) (m:Mid a b w w') (hd:b≤lo ∨ hi≤a):OV w' lo hi e size A c n cs:=by
 refine ⟨Nat.le_trans h.1 m.size,⟨h.2.1.1,?_⟩,h.2.2⟩;rcases h.2.1.2 with hn | ⟨g,cap,cur,hv,hbg,hgg,rest⟩
 ·exact .inl hn
 ·refine .inr ⟨g,cap,cur,hv,hbg,?_,rest⟩
  have hlt:=h.2.2 g (by rw [hv];rfl);rw [m.block g (Array.getElem?_eq_some_iff.1 hgg).1 (by omega)];exact hgg
theorem OV.rv (h:OV w lo hi e size A c n cs):RV w lo hi A cs:=⟨h.1,fun hn=>by
 obtain ⟨g,off,hA,_,hc⟩:=Rs.of_own h.2.1 hn;have hg:Value.ownBlock (.slice A n c)=some g:=by rw [hA];rfl
 exact ⟨g,off,hA,(h.2.1.lt g hg).1,h.2.2 g hg,hc⟩⟩
theorem OV.wide {lo' hi':Nat} (h:OV w lo hi e size A c n cs) (h1:lo'≤lo) (h2:hi≤hi') (h3:hi'≤w.heap.size):OV w lo' hi' e size A c n cs :=
 ⟨h3,owns_base h.2.1 h1,fun g hg=>by have:=h.2.2 g hg;omega⟩
end
theorem owns_ne {w:World} {b b':Nat} {e e':TypeId} {s s':Nat} {v v':Value} {n n':Nat} {xs xs':List Value} (h:w.ownsRow b e s v n xs) (h':w.ownsRow b' e' s' v' n' xs') (hne:e≠e') :
  v.ownBlock=none ∨ v.ownBlock≠v'.ownBlock:=by
 rcases h.2 with ⟨rfl,_⟩ | ⟨g,cap,cur,rfl,_,hg,_⟩
 ·exact .inl rfl
 ·rcases h'.2 with ⟨rfl,_⟩ | ⟨g',cap',cur',rfl,_,hg',_⟩
  ·exact .inr (by simp [Value.ownBlock])
  ·refine .inr fun he=>?_
   have:g=g':=by simpa [Value.ownBlock] using he
   subst this;rw [hg] at hg';injection hg' with hg'
   injection hg' with _ ht
   exact hne ht
theorem grown_of_setCell (w:World) (g j:Nat) (u:Value):w.grownBy (w.setCell ⟨g,j,none⟩ u) (some g):=grown_setCell (World.grownBy.refl w _) j u
structure Row where
 A:Option Addr
 c:Nat
 xs:List Int
def Row.v (r:Row):Value:=.slice r.A r.xs.length r.c
def rowsV (rows:List Row):List Value:=rows.map Row.v
def rowsD (rows:List Row):List (List Int):=rows.map Row.xs
theorem rowsV_len (rows:List Row):(rowsV rows).length=rows.length:=by simp [rowsV]
theorem rowsD_len (rows:List Row):(rowsD rows).length=rows.length:=by simp [rowsD]
theorem rowsV_append (a b:List Row):rowsV (a++b)=rowsV a++rowsV b:=by simp [rowsV]
theorem rowsD_append (a b:List Row):rowsD (a++b)=rowsD a++rowsD b:=by simp [rowsD]
theorem one_of_rows (rows:List Row):∀ u∈rowsV rows,u.oneCell'=true:=by
 intro u hu;obtain ⟨r,_,rfl⟩:=List.mem_map.1 hu
 rfl
def RSS (w:World) (lo hi:Nat) (A:Option Addr) (xss:List (List Int)):Prop :=
 ∃ rows,rowsD rows=xss∧RV w lo hi A (rowsV rows)∧∀ r∈rows,RV w lo hi r.A (ints r.xs)
section
variable {w w':World} {lo hi a b:Nat} {A:Option Addr} {xss:List (List Int)}
theorem RSS.size (h:RSS w lo hi A xss):hi≤w.heap.size:=by obtain ⟨_,_,h,_⟩:=h;exact h.1
theorem RSS.mid (h:RSS w lo hi A xss) (m:Mid a b w w') (hd:b≤lo ∨ hi≤a):RSS w' lo hi A xss:=by
 obtain ⟨rows,h1,h2,h3⟩:=h;exact ⟨rows,h1,h2.mid m hd,fun r hr=>(h3 r hr).mid m hd⟩
theorem RSS.row (h:RSS w lo hi A xss) {k:Nat} (hk:k < xss.length) :
  ∃ b off A' c' xs,A=some ⟨b,off,none⟩∧lo≤b∧b < hi∧xss[k]?=some xs∧w.cell? ⟨b,off+k,none⟩=some (.slice A' xs.length c')∧RV w lo hi A' (ints xs):=by
 obtain ⟨rows,rfl,h2,h3⟩:=h;rw [rowsD_len] at hk;obtain ⟨b,off,e,hb,hb2,hc⟩:=h2.2 (by intro h0;have:=congrArg List.length h0;rw [rowsV_len] at this;simp at this;subst this;simp at hk);obtain ⟨r,hr⟩:=get_of_lt rows hk;refine ⟨b,off,r.A,r.c,r.xs,e,hb,hb2,by simp [rowsD,hr],hc k _ (by simp [rowsV,hr,Row.v]),h3 r (List.mem_of_getElem? hr)⟩
end
def OwnRows (w:World) (lo hi:Nat) (tI:TypeId) (rows:List Row):Prop :=
 (∀ r∈rows,OV w lo hi tI 1 r.A r.c r.xs.length (ints r.xs))∧rows.Pairwise (fun r s=>r.v.ownBlock=none ∨ r.v.ownBlock≠s.v.ownBlock)
def OSS (w:World) (lo hi:Nat) (tSI tI:TypeId) (A:Option Addr) (c:Nat) (xss:List (List Int)):Prop :=
 hi≤w.heap.size∧∃ rows,rowsD rows=xss∧OV w lo hi tSI 1 A c xss.length (rowsV rows)∧OwnRows w lo hi tI rows
section
variable {w w':World} {lo hi a b:Nat} {tSI tI:TypeId} {A:Option Addr} {c:Nat} {xss:List (List Int)} {rows:List Row}
theorem OwnRows.mid (h:OwnRows w lo hi tI rows) (m:Mid a b w w') (hd:b≤lo ∨ hi≤a):OwnRows w' lo hi tI rows:=⟨fun r hr=>(h.1 r hr).mid m hd,h.2⟩
theorem OwnRows.wide {lo' hi':Nat} (h:OwnRows w lo hi tI rows) (h1:lo'≤lo) (h2:hi≤hi') (h3:hi'≤w.heap.size):OwnRows w lo' hi' tI rows:=⟨fun r hr=>(h.1 r hr).wide h1 h2 h3,h.2⟩
theorem OwnRows.nil:OwnRows w lo hi tI []:=⟨by simp,List.Pairwise.nil⟩
theorem OwnRows.grown {bb:Nat} {e':TypeId} {s':Nat} {v':Value} {n':Nat} {xs':List Value} (h:OwnRows w lo hi tI rows) (ho:w.ownsRow bb e' s' v' n' xs') (hne:tI≠e') (hg:w.grownBy w' v'.ownBlock):OwnRows w' lo hi tI rows :=
 ⟨fun r hr=>by
  obtain ⟨h1,h2,h3⟩:=h.1 r hr;exact ⟨Nat.le_trans h1 hg.size,h2.kept hg (owns_ne h2 ho hne),h3⟩,h.2⟩
theorem OwnRows.push {base hi':Nat} {r:Row} (h:OwnRows w lo hi tI rows) (hr:w.ownsRow base tI 1 r.v r.xs.length (ints r.xs)) (hb:hi≤base) (hl:lo≤base) (hh:hi≤hi') (hs:hi'≤w.heap.size) (hlt:∀ g,r.v.ownBlock=some g→g < hi') :
  OwnRows w lo hi' tI (rows++[r]):=by
 refine ⟨fun s hs'=>?_,?_⟩
 ·rcases List.mem_append.1 hs' with hm | hm
  ·exact (h.1 s hm).wide (Nat.le_refl _) hh hs
  ·simp at hm
   subst hm;exact ⟨hs,owns_base hr hl,hlt⟩
 ·rw [List.pairwise_append]
  refine ⟨h.2,by simp,fun s hsm t ht=>?_⟩;simp at ht;subst ht;cases hv:s.v.ownBlock with
  | none=>exact .inl rfl
  | some g =>
   refine .inr fun e=>?_;have h1:=(h.1 s hsm).2.2 g hv;have h2:=(hr.lt g e.symm).1;omega
theorem OSS.size (h:OSS w lo hi tSI tI A c xss):hi≤w.heap.size:=h.1
theorem OSS.mid (h:OSS w lo hi tSI tI A c xss) (m:Mid a b w w') (hd:b≤lo ∨ hi≤a):OSS w' lo hi tSI tI A c xss:=by
 obtain ⟨h0,rows,h1,h2,h3⟩:=h;exact ⟨Nat.le_trans h0 m.size,rows,h1,h2.mid m hd,h3.mid m hd⟩
theorem OSS.wide {lo' hi':Nat} (h:OSS w lo hi tSI tI A c xss) (h1:lo'≤lo) (h2:hi≤hi') (h3:hi'≤w.heap.size):OSS w lo' hi' tSI tI A c xss:=by
 obtain ⟨_,rows,ha,hb,hc⟩:=h;exact ⟨h3,rows,ha,hb.wide h1 h2 h3,hc.wide h1 h2 h3⟩
theorem OSS.rss (h:OSS w lo hi tSI tI A c xss):RSS w lo hi A xss:=by
 obtain ⟨_,rows,h1,h2,h3⟩:=h;exact ⟨rows,h1,h2.rv,fun r hr=>(h3.1 r hr).rv⟩
end
def RetSS (tSI tI:TypeId) (xss:List (List Int)) (w:World) (e:Ending) (w':World):Prop :=
 ∃ A c,e=.returned (.slice A xss.length c)∧OSS w' w.heap.size w'.heap.size tSI tI A c xss∧Mid 0 0 w w'
end
section
open Go.RowKit
def Box (w:World) (b:Nat) (cs:List Value):Prop:=b < w.heap.size∧(∀ i u,cs[i]?=some u→w.cell? ⟨b,i,none⟩=some u)∧∀ i,w.frozen? ⟨b,i,none⟩=false
section
variable {w w':World} {b lo hi:Nat} {cs ys:List Value}
theorem Box.new (w:World) (a:Array Value) (t:TypeId):Box (w.alloc (.cells a t)) w.heap.size a.toList :=
 ⟨by simp,fun i u hu=>(World.cell?_alloc_at _ _ _ _ rfl).trans (by simpa using hu),fun i=>World.frozen?_alloc_at _ _ _ _ rfl⟩
theorem Box.mid (h:Box w b cs) (m:Mid lo hi w w') (hd:b < lo ∨ hi≤b):Box w' b cs :=
 ⟨Nat.lt_of_lt_of_le h.1 m.size,fun i u hu=>(World.cell?_of_block (m.block b h.1 (by omega))).trans (h.2.1 i u hu),fun i=>(World.frozen?_of_block (m.block b h.1 (by omega))).trans (h.2.2 i)⟩
theorem Box.cell (h:Box w b cs) (i:Nat) {u:Value} (hu:cs[i]?=some u):w.cell? ⟨b,i,none⟩=some u:=h.2.1 i u hu
theorem Box.set (h:Box w b cs) (i:Nat) (u:Value) (hi:i < cs.length) (hy:cs.set i u=ys):Box (w.setCell ⟨b,i,none⟩ u) b ys:=by
 subst hy;have hc:=h.2.1 i cs[i] (List.getElem?_eq_getElem hi);refine ⟨by simpa using h.1,fun j v hv=>?_,fun j=>by rw [World.frozen?_setCell];exact h.2.2 j⟩;by_cases hj:j=i
 ·subst hj
  rw [List.getElem?_set_self hi] at hv;rw [World.cell?_setCell_same w _ u hc];exact hv
 ·rw [List.getElem?_set_ne (Ne.symm hj)] at hv
  rw [World.cell?_setCell_other w _ _ u (by intro e;injection e;omega)];exact h.2.1 j v hv
theorem Box.drewN (h:Box w b cs) (n:Nat):Box (w.drewN n) b cs:=h
theorem Mid.of_grownRow {base:Nat} {e:TypeId} {size:Nat} {v:Value} {n:Nat} {xs:List Value} (h:w.ownsRow base e size v n xs) (hg:w.grownBy w' v.ownBlock):Mid base w.heap.size w w' :=
 Mid.of_grown hg fun g hg'=>h.lt g hg'
theorem owns_mid {base:Nat} {e:TypeId} {size:Nat} {v:Value} {n:Nat} {xs:List Value} (h:w.ownsRow base e size v n xs) (m:Mid lo hi w w') (hd:hi≤base ∨ w.heap.size≤lo):w'.ownsRow base e size v n xs:=by
 refine ⟨h.1,?_⟩;rcases h.2 with hn | ⟨g,cap,cur,hv,hbg,hgg,rest⟩
 ·exact .inl hn
 ·refine .inr ⟨g,cap,cur,hv,hbg,?_,rest⟩
  have hlt:=(Array.getElem?_eq_some_iff.1 hgg).1;rw [m.block g hlt (by omega)];exact hgg
theorem Mid.drew1 (w:World):Mid 0 0 w w.drew:=⟨rfl,rfl,rfl,Nat.le_refl _,fun _ _ _=>rfl⟩
theorem Mid.transNew {a b:Nat} {wa:World} (h:Mid lo hi w wa) (m:Mid a b wa w') (ha:w.heap.size≤a ∨ b=0):Mid lo hi w w' :=
 ⟨m.os.trans h.os,m.tape.trans h.tape,m.output.trans h.output,Nat.le_trans h.size m.size,fun k hk hn =>
  (m.block k (Nat.lt_of_lt_of_le hk h.size) (by omega)).trans (h.block k hk hn)⟩
theorem OSS.mk' {tSI tI:TypeId} {A:Option Addr} {c:Nat} {rows:List Row} {n:Nat} {base:Nat} {xss:List (List Int)} (h:w.ownsRow base tSI 1 (.slice A n c) n (rowsV rows)) (hr:OwnRows w base w.heap.size tI rows) (hd:rowsD rows=xss) :
  OSS w base w.heap.size tSI tI A c xss:=by
 have hl:xss.length=n:=by rw [← hd,rowsD_len,← rowsV_len];simpa using h.1
 subst hl;exact ⟨Nat.le_refl _,rows,hd,⟨Nat.le_refl _,h,fun g hg=>(h.lt g hg).2⟩,hr⟩
theorem OSS.nil {tSI tI:TypeId}:OSS w lo w.heap.size tSI tI none 0 []:=⟨Nat.le_refl _,[],rfl,⟨Nat.le_refl _,⟨rfl,.inl ⟨rfl,rfl⟩⟩,fun g hg=>by simp [Value.ownBlock] at hg⟩,OwnRows.nil⟩
end
end
theorem infoI:(Tryz.prog.info? 3).map (fun i=>(i.zero,i.size,i.bytes))=some (some (.int .i64 0),1,8):=by kernel_rfl
theorem infoB:(Tryz.prog.info? 4).map (fun i=>(i.zero,i.size,i.bytes))=some (some (.bool false),1,1):=by kernel_rfl
theorem undSI:Tryz.prog.underlying 44=some (.slice 3):=by kernel_rfl
theorem undSB:Tryz.prog.underlying 121=some (.slice 4):=by kernel_rfl
section
open Go.RowKit
def inB (x lo hi:Int):Bool:=decide (lo≤x) && decide (x≤hi)
theorem within_any (x lo hi:Int) (w:World) :
  Calls Tryz.prog 108 #[.int .i64 x,.int .i64 lo,.int .i64 hi] w fun e w'=>e=.returned (.bool (inB x lo hi))∧w=w':=by
 go_enter Tryz.func108,Tryz.ntmps108
 go_wp2_with fail;all_goals
  go_ret;exact ⟨by simp [inB];omega,rfl⟩
theorem l1In_any (x lo hi:Int) (w:World) :
  Calls Tryz.prog 102 #[.int .i64 x,.int .i64 lo,.int .i64 hi] w fun e w'=>e=.returned (.bool (inB x lo hi))∧w=w':=by
 go_enter Tryz.func102,Tryz.ntmps102
 go_wp2_with fail;all_goals
  go_ret;exact ⟨by simp [inB];omega,rfl⟩
end
section
open Go.RowKit
def RI (w:World) (lo hi:Nat) (A:Option Addr) (xs:List Int):Prop:=RV w lo hi A (ints xs)
def OI (w:World) (lo hi:Nat) (A:Option Addr) (c:Nat) (xs:List Int):Prop:=OV w lo hi 3 1 A c xs.length (ints xs)
theorem RI.mid {w w':World} {lo hi a b:Nat} {A:Option Addr} {xs:List Int} (h:RI w lo hi A xs) (m:Mid a b w w') (hd:b≤lo ∨ hi≤a):RI w' lo hi A xs:=RV.mid h m hd
theorem OI.mid {w w':World} {lo hi a b:Nat} {A:Option Addr} {c:Nat} {xs:List Int} (h:OI w lo hi A c xs) (m:Mid a b w w') (hd:b≤lo ∨ hi≤a):OI w' lo hi A c xs:=OV.mid h m hd
theorem OI.ri {w:World} {lo hi:Nat} {A:Option Addr} {c:Nat} {xs:List Int} (h:OI w lo hi A c xs):RI w lo hi A xs:=OV.rv h
theorem RI.rs {w:World} {lo hi:Nat} {A:Option Addr} {xs:List Int} (h:RI w lo hi A xs):Rs w w.heap.size A (ints xs):=(RV.rs h).more h.1
abbrev Stp (v:Value) (w:World) (e:Ending) (w':World):Prop:=e=.returned v∧Mid 0 0 w w'
end
section
open Go.RowKit
theorem and255 (n:Int):bits .and .i64 n 255=n % 256:=by
 have h255:(BitVec.ofInt 64 255).toNat=2 ^ 8 - 1:=by decide
 have key:(BitVec.ofInt 64 n &&& BitVec.ofInt 64 255).toNat=(n % ((2 ^ 64:Nat):Int)).toNat % 2 ^ 8:=by
  rw [BitVec.toNat_and,BitVec.toNat_ofInt,h255,Nat.and_two_pow_sub_one_eq_mod]
 show IntKind.i64.wrap ((BitVec.ofInt 64 n &&& BitVec.ofInt 64 255).toNat:Nat)=n % 256
 rw [key,IntKind.wrap_i64];omega
theorem and30 (n:Int):bits .and .i64 n 1073741823=n % 1073741824:=by
 have h30:(BitVec.ofInt 64 1073741823).toNat=2 ^ 30 - 1:=by decide
 have key:(BitVec.ofInt 64 n &&& BitVec.ofInt 64 1073741823).toNat=(n % ((2 ^ 64:Nat):Int)).toNat % 2 ^ 30:=by
  rw [BitVec.toNat_and,BitVec.toNat_ofInt,h30,Nat.and_two_pow_sub_one_eq_mod]
 show IntKind.i64.wrap ((BitVec.ofInt 64 n &&& BitVec.ofInt 64 1073741823).toNat:Nat)=n % 1073741824
 rw [key,IntKind.wrap_i64];omega
def byts (xs:List Int):List Value:=xs.map (Value.int .u8)
theorem byts_len (xs:List Int):(byts xs).length=xs.length:=by simp [byts]
def OkB (xs:List Int):Prop:=∀ x∈xs,0≤x∧x≤255
theorem Rs.byte {w:World} {B:Nat} {A:Option Addr} {xs:List Int} (h:Rs w B A (byts xs)) {k:Nat} (hk:k < xs.length) :
  ∃ b off x,A=some ⟨b,off,none⟩∧b < B∧xs[k]?=some x∧w.cell? ⟨b,off+k,none⟩=some (.int .u8 x):=by
 obtain ⟨b,off,u,e,hb,hu,hc⟩:=h.at (j:=k) (by rw [byts_len];exact hk);obtain ⟨x,hx⟩:=get_of_lt xs hk;unfold byts at hu;rw [List.getElem?_map,hx] at hu;simp at hu;subst hu;exact ⟨b,off,x,e,hb,hx,hc⟩
def Cur (w:World) (p:Nat) (A:Option Addr) (bs:List Int) (c:Nat):Prop :=
 ∃ (i:Nat) (h:Int),i≤bs.length∧(-9223372036854775808≤h∧h≤9223372036854775807)∧Box w p [.slice A bs.length c,.int .i64 i,.int .i64 h]∧RV w 0 p A (byts bs)
theorem Cur.mid {w w':World} {p:Nat} {A:Option Addr} {bs:List Int} {c a b:Nat} (h:Cur w p A bs c) (m:Mid a b w w') (hd:p < a ∨ b=0):Cur w' p A bs c:=by
 obtain ⟨i,x,h1,h2,h3,h4⟩:=h;exact ⟨i,x,h1,h2,h3.mid m (by omega),h4.mid m (by omega)⟩
theorem Cur.lt {w:World} {p:Nat} {A:Option Addr} {bs:List Int} {c:Nat} (h:Cur w p A bs c):p < w.heap.size:=by
 obtain ⟨i,x,h1,h2,h3,h4⟩:=h;exact h3.1
theorem l1Byte_any (p:Nat) (A:Option Addr) (bs:List Int) (c:Nat) (w:World) (hb:OkB bs) (hl:bs.length≤1048576) (h:Cur w p A bs c) :
  Calls Tryz.prog 189 #[.pointer (some ⟨p,0,none⟩)] w fun e w'=>∃ x:Nat,e=.returned (.int .i64 x)∧x < 256∧Cur w' p A bs c∧Mid p (p+1) w w':=by
 obtain ⟨i,s,hi,hs,hbox,hrv⟩:=h;have cc0:=hbox.cell 0 rfl;have cc1:=hbox.cell 1 rfl;have cc2:=hbox.cell 2 rfl;have hfz:=hbox.2.2;have hpw:=hbox.1;go_enter Tryz.func189,Tryz.ntmps189
 go_wp2_with fail;obtain ⟨s2,hs2⟩:∃ x,wrap64 (wrap64 (s * 6364136223846793005)+1442695040888963407)=x:=⟨_,rfl⟩
 have hs2b:-9223372036854775808≤s2∧s2≤9223372036854775807:=by rw [← hs2];unfold wrap64;omega
 rw [hs2];clear hs2;have hbox1:=hbox.set 2 (.int .i64 s2) (by simp) rfl;have hm1:Mid p (p+1) w (w.setCell ⟨p,2,none⟩ (.int .i64 s2)):=Mid.setCell w _ (Nat.le_refl _) (Nat.lt_succ_self _);have hrv1:=hrv.mid hm1 (Or.inr (Nat.le_refl _));generalize w.setCell ⟨p,2,none⟩ (.int .i64 s2)=w1 at hbox1 hm1 hrv1 ⊢;clear cc0 cc1 cc2 hbox hrv hpw hfz;have cc0:=hbox1.cell 0 rfl;have cc1:=hbox1.cell 1 rfl;have cc2:=hbox1.cell 2 rfl;have hfz:=hbox1.2.2;have hpw:=hbox1.1;go_quiet (fail)
 go_wp2_with fail;obtain ⟨x1,hx1⟩:∃ x:Nat,bits BinOp.and IntKind.i64 (bits BinOp.xor IntKind.i64 (s2 / 8589934592) (s2 / 35184372088832)) 255=x:=⟨_,(Int.toNat_of_nonneg (by rw [and255];omega)).symm⟩
 have hx1b:x1 < 256:=by rw [and255] at hx1;omega
 rw [hx1];clear hx1;have hm2:=hm1.drewN nq;have hbox2:=hbox1.drewN nq;have hrv2:RV (w1.drewN nq) 0 p A (byts bs):=hrv1;generalize w1.drewN nq=w2 at hbox2 hm2 hrv2 ⊢;clear cc0 cc1 cc2 hbox1 hrv1 hpw hfz hm1;have cc0:=hbox2.cell 0 rfl;have cc1:=hbox2.cell 1 rfl;have cc2:=hbox2.cell 2 rfl;have hfz:=hbox2.2.2;have hpw:=hbox2.1;by_cases hlt:i < bs.length
 ·go_quiet (fail)
  have hm3:=hm2.drewN nq;have hbox3:=hbox2.drewN nq;have hrv3:RV (w2.drewN nq) 0 p A (byts bs):=hrv2;generalize w2.drewN nq=w3 at hbox3 hm3 hrv3 ⊢;clear cc0 cc1 cc2 hbox2 hrv2 hpw hfz hm2;have cc0:=hbox3.cell 0 rfl;have cc1:=hbox3.cell 1 rfl;have cc2:=hbox3.cell 2 rfl;have hfz:=hbox3.2.2;have hpw:=hbox3.1;go_wp2_with fail;obtain ⟨B,off,y,rfl,hB,hy,hcy⟩:=hrv3.rs.byte hlt;have hyb:=hb y (List.mem_of_getElem? hy);clear hy;go_quiet (fail)
  go_wp2_with fail;obtain ⟨x2,hx2⟩:∃ x:Nat,bits BinOp.and IntKind.i64 ((x1:Int)+y) 255=x:=⟨_,(Int.toNat_of_nonneg (by rw [and255];omega)).symm⟩
  have hx2b:x2 < 256:=by rw [and255] at hx2;omega
  rw [hx2];go_ret;have hm4:=(hm3.drewN nq).trans (Mid.setCell (w3.drewN nq) (p:=⟨p,1,none⟩) (.int .i64 ((i:Int)+1)) (Nat.le_refl _) (Nat.lt_succ_self _));refine ⟨x2,rfl,hx2b,⟨i+1,s2,by omega,hs2b,?_,?_⟩,hm4⟩
  ·simpa using (hbox3.drewN nq).set 1 (.int .i64 ((i:Int)+1)) (by simp) rfl
  ·exact RV.mid (w:=w3.drewN nq) hrv3 (Mid.setCell (w3.drewN nq) (p:=⟨p,1,none⟩) (.int .i64 ((i:Int)+1)) (Nat.le_refl _) (Nat.lt_succ_self _)) (Or.inr (Nat.le_refl _))
 ·go_quiet (fail)
  go_wp2_with fail;go_ret;exact ⟨x1,rfl,hx1b,⟨i,s2,hi,hs2b,hbox2.drewN _,hrv2⟩,hm2.drewN _⟩
theorem l1Below_pos (n:Nat) (hn:0 < n) (hn2:n≤1048576) (p:Nat) (A:Option Addr) (bs:List Int) (c:Nat) (w:World) (hb:OkB bs) (hl:bs.length≤1048576) (h:Cur w p A bs c) :
  Calls Tryz.prog 111 #[.pointer (some ⟨p,0,none⟩),.int .i64 n] w fun e w'=>∃ x:Nat,e=.returned (.int .i64 x)∧x < n∧Cur w' p A bs c∧Mid p (p+1) w w':=by
 have hn0:¬ n=0:=by omega
 by_cases hs:n≤256
 ·go_enter Tryz.func111,Tryz.ntmps111
  go_wp2_with fail;with_reducible refine (l1Byte_any p A bs c _ hb hl h).mono ?_
  rintro e w1 ⟨x,rfl,hx,h1,m1⟩;go_wp2_with fail;go_ret;exact ⟨x % n,rfl,Nat.mod_lt _ hn,h1,m1⟩
 ·go_enter Tryz.func111,Tryz.ntmps111
  go_wp2_with fail;with_reducible refine (l1Byte_any p A bs c _ hb hl h).mono ?_
  rintro e w1 ⟨x,rfl,hx,h1,m1⟩;go_wp2_with fail;with_reducible refine (l1Byte_any p A bs c _ hb hl h1).mono ?_
  rintro e w2 ⟨y,rfl,hy,h2,m2⟩;go_wp2_with fail;with_reducible refine (l1Byte_any p A bs c _ hb hl h2).mono ?_
  rintro e w3 ⟨z,rfl,hz,h3,m3⟩;go_wp2_with fail;with_reducible refine (l1Byte_any p A bs c _ hb hl h3).mono ?_
  rintro e w4 ⟨t,rfl,ht,h4,m4⟩;go_wp2_with fail;go_ret;exact ⟨(x * 16777216+y * 65536+z * 256+t) % n,by simp,Nat.mod_lt _ hn,h4,((m1.trans m2).trans m3).trans m4⟩
theorem l1Once_any (n:Nat) (hn:0 < n) (hn2:n≤1048576) (p:Nat) (A:Option Addr) (bs:List Int) (c:Nat) (w:World) (hb:OkB bs) (hl:bs.length≤1048576) (h:Cur w p A bs c) :
  Calls Tryz.prog 91 #[.pointer (some ⟨p,0,none⟩),.int .i64 n] w fun e w'=>∃ x:Bool,e=.returned (.bool x)∧Cur w' p A bs c∧Mid p (p+1) w w':=by
 go_enter Tryz.func91,Tryz.ntmps91
 go_wp2_with fail;with_reducible refine (l1Below_pos n hn hn2 p A bs c _ hb hl h).mono ?_
 rintro e w1 ⟨x,rfl,hx,h1,m1⟩;go_wp2_with fail;all_goals
  go_ret;exact ⟨_,rfl,h1,m1⟩
theorem l1PickInt_any (B:Option Addr) (xs:List Int) (d:Nat) (hne:0 < xs.length) (hln:xs.length≤1048576) (p:Nat) (A:Option Addr) (bs:List Int) (c:Nat) (w:World) (lo hi:Nat) (hx:RI w lo hi B xs) (hp:p < lo ∨ hi≤p) (hb:OkB bs) (hl:bs.length≤1048576) (h:Cur w p A bs c) :
  Calls Tryz.prog 176 #[.pointer (some ⟨p,0,none⟩),.slice B xs.length d] w fun e w'=>∃ x:Int,e=.returned (.int .i64 x)∧x∈xs∧Cur w' p A bs c∧Mid p (p+1) w w':=by
 go_enter Tryz.func176,Tryz.ntmps176
 go_wp2_with fail;with_reducible refine (l1Below_pos xs.length hne hln p A bs c _ hb hl h).mono ?_
 rintro e w1 ⟨k,rfl,hk,h1,m1⟩;have hx1:=hx.mid m1 (by omega);obtain ⟨b,off,x,rfl, -,hxx,hcx⟩:=hx1.rs.int hk;have hmem:=List.mem_of_getElem? hxx;clear hxx;go_wp2_with fail;go_ret;exact ⟨x,rfl,hmem,h1,m1⟩
theorem l1BelowI (n:Int) (hn:0 < n) (hn2:n≤1048576) (p:Nat) (A:Option Addr) (bs:List Int) (c:Nat) (w:World) (hb:OkB bs) (hl:bs.length≤1048576) (h:Cur w p A bs c) :
  Calls Tryz.prog 111 #[.pointer (some ⟨p,0,none⟩),.int .i64 n] w fun e w'=>∃ x:Nat,e=.returned (.int .i64 x)∧(x:Int) < n∧Cur w' p A bs c∧Mid p (p+1) w w':=by
 obtain ⟨m,rfl⟩:=Int.eq_ofNat_of_zero_le (by omega:0≤n);exact (l1Below_pos m (by omega) (by omega) p A bs c w hb hl h).mono fun _ _ ⟨x,he,hx,h⟩=>⟨x,he,by omega,h⟩
theorem l1OnceI (n:Int) (hn:0 < n) (hn2:n≤1048576) (p:Nat) (A:Option Addr) (bs:List Int) (c:Nat) (w:World) (hb:OkB bs) (hl:bs.length≤1048576) (h:Cur w p A bs c) :
  Calls Tryz.prog 91 #[.pointer (some ⟨p,0,none⟩),.int .i64 n] w fun e w'=>∃ x:Bool,e=.returned (.bool x)∧Cur w' p A bs c∧Mid p (p+1) w w':=by
 obtain ⟨m,rfl⟩:=Int.eq_ofNat_of_zero_le (by omega:0≤n);exact l1Once_any m (by omega) (by omega) p A bs c w hb hl h
theorem l1PickIntN (B:Option Addr) (xs:List Int) (n d:Nat) (hxn:xs.length=n) (hne:0 < n) (hln:n≤1048576) (p:Nat) (A:Option Addr) (bs:List Int) (c:Nat) (w:World) (lo hi:Nat) (hx:RI w lo hi B xs) (hp:p < lo ∨ hi≤p) (hb:OkB bs) (hl:bs.length≤1048576) (h:Cur w p A bs c) :
  Calls Tryz.prog 176 #[.pointer (some ⟨p,0,none⟩),.slice B n d] w fun e w'=>∃ x:Int,e=.returned (.int .i64 x)∧x∈xs∧Cur w' p A bs c∧Mid p (p+1) w w':=by
 subst hxn;exact l1PickInt_any B xs d hne hln p A bs c w lo hi hx hp hb hl h
theorem l1New_any (A:Option Addr) (bs:List Int) (c:Nat) (w:World) (hi:Nat) (hb:OkB bs) (hl:bs.length≤1048576) (hr:RV w 0 hi A (byts bs)) :
  Calls Tryz.prog 90 #[.slice A bs.length c] w fun e w'=>∃ p,e=.returned (.pointer (some ⟨p,0,none⟩))∧w.heap.size≤p∧Cur w' p A bs c∧Mid 0 0 w w':=by
 have hfin:∀ x:Int,(0≤x∧x≤1073741824)→Cur (w.alloc (.cells #[.slice A bs.length c,.int .i64 0,.int .i64 x] 149)) w.heap.size A bs c:=fun x hx =>
  ⟨0,x,Nat.zero_le _,by omega,by simpa using Box.new w #[.slice A bs.length c,.int .i64 0,.int .i64 x] 149,(hr.mid (Mid.alloc w _) oZl).wide (Nat.zero_le _) hr.1 (by simp)⟩
 have hfin:=Lib.hid hfin;go_enter Tryz.func90,Tryz.ntmps90
 go_wp2_with fail;go_loop [3,4] (fun hv i=>∃ (k:Nat) (x:Int),k≤bs.length∧i=.int .i64 k∧hv=.int .i64 x∧(0≤x∧x≤1073741824)) (fun _ i=>bs.length - (intOf i).toNat)
 case atStart=>exact ⟨0,_,Nat.zero_le _,rfl,rfl,by omega,by omega⟩
 case round =>
  obtain ⟨k,x,hk,rfl,rfl,hx⟩:=hrel;by_cases hlt:k < bs.length
  ·obtain ⟨K,hK⟩:∃ x:Bool,decide ((k:Int) < 4000)=x:=⟨_,rfl⟩
   cases K
   ·go_wp2_with fail
    go_ret;exact ⟨w.heap.size,rfl,Nat.le_refl _,hfin.out x hx,Mid.alloc _ _⟩
   ·obtain ⟨b,off,y,rfl, -,hy,hcy⟩:=hr.rs.byte hlt
    have hyb:=hb y (List.mem_of_getElem? hy);clear hy;go_wp2_with fail;obtain ⟨x2,hx2⟩:∃ z,bits BinOp.and IntKind.i64 (x * 131+y+7) 1073741823=z:=⟨_,rfl⟩
    have hx2b:0≤x2∧x2≤1073741824:=by rw [and30] at hx2;omega
    rw [hx2];go_round
    case rel=>exact ⟨k+1,x2,by omega,by go_num,rfl,hx2b⟩
    case measure=>simp [intOf];omega
  ·go_wp2_with fail
   go_ret;exact ⟨w.heap.size,rfl,Nat.le_refl _,hfin.out x hx,Mid.alloc _ _⟩
end
def minI:Int:=-9223372036854775808
def invB (a b:Int):Bool:=decide (a≠0∧a≠minI∧b = -a)
theorem invB_iff (a b:Int):invB a b=true↔(a≠0∧a≠minI∧b = -a):=by simp [invB]
def letB (rank x:Int):Bool:=decide (x≠0∧-rank≤x∧x≤rank)
def WordP (rank:Int) (w:List Int):Prop :=
 (∀ x∈w,x≠0∧-rank≤x∧x≤rank)∧(∀ k x y,w[k]?=some x→w[k+1]?=some y→y≠-x)
def IsW (rank:Int) (w:List Int):Prop:=1≤rank∧rank≤3∧w.length≤24∧WordP rank w
def cmpI (a b:Int):Int:=if a < b then -1 else if b < a then 1 else 0
theorem cmpI_vals (a b:Int):cmpI a b = -1 ∨ cmpI a b=0 ∨ cmpI a b=1:=by
 unfold cmpI;repeat' split
 all_goals simp
def absI (a:Int):Int:=if a < 0 then -a else a
def cmpL (a b:Int):Int :=
 if a=b then 0 else if a=minI then 1 else if b=minI then -1
 else if absI a < absI b then -1 else if absI b < absI a then 1 else if b < a then -1 else 1
theorem cmpL_vals (a b:Int):cmpL a b = -1 ∨ cmpL a b=0 ∨ cmpL a b=1:=by
 unfold cmpL;repeat' split
 all_goals simp
def cmpLs:List Int→List Int→Int
 | a :: x,b :: y=>if cmpL a b=0 then cmpLs x y else cmpL a b
 | _,_=>0
def cmpW (a b:List Int):Int:=if a.length < b.length then -1 else if b.length < a.length then 1 else cmpLs a b
theorem cmpLs_vals (a b:List Int):cmpLs a b = -1 ∨ cmpLs a b=0 ∨ cmpLs a b=1:=by
 induction a generalizing b with
 | nil=>simp [cmpLs]
 | cons x t ih =>
  cases b with
  | nil=>simp [cmpLs]
  | cons y s =>
   simp only [cmpLs];split
   ·exact ih s
   ·exact cmpL_vals x y
theorem cmpW_vals (a b:List Int):cmpW a b = -1 ∨ cmpW a b=0 ∨ cmpW a b=1:=by
 unfold cmpW;split
 ·simp
 ·split
  ·simp
  ·exact cmpLs_vals a b
theorem cmpL_swap {a b:Int} (_ha:minI≤a) (_hb:minI≤b):cmpL b a = -cmpL a b:=by
 unfold cmpL absI minI at *;repeat' split
 all_goals first | rfl | omega
theorem cmpLs_swap {a b:List Int} (hlen:a.length=b.length) (ha:∀ x∈a,minI≤x) (hb:∀ x∈b,minI≤x):cmpLs b a = -cmpLs a b:=by
 induction a generalizing b with
 | nil=>cases b <;> simp [cmpLs]
 | cons x t ih =>
  cases b with
  | nil=>simp at hlen
  | cons y s =>
   have h1:=cmpL_swap (ha x (by simp)) (hb y (by simp));have h2:=ih (b:=s) (by simpa using hlen) (fun z hz=>ha z (by simp [hz])) (fun z hz=>hb z (by simp [hz]));simp only [cmpLs];by_cases h0:cmpL x y=0
   ·rw [if_pos h0,if_pos (by omega),h2]
   ·rw [if_neg h0,if_neg (by omega),h1]
theorem cmpW_swap {a b:List Int} (ha:∀ x∈a,minI≤x) (hb:∀ x∈b,minI≤x):cmpW b a = -cmpW a b:=by
 unfold cmpW;by_cases h1:a.length < b.length
 ·rw [if_neg (by omega),if_pos h1,if_pos h1];rfl
 ·by_cases h2:b.length < a.length
  ·rw [if_pos h2,if_neg h1,if_pos h2]
  ·rw [if_neg h2,if_neg h1,if_neg h1,if_neg h2]
   exact cmpLs_swap (by omega) ha hb
def negI (x:Int):Int:=if x=minI then minI else -x
def invW (w:List Int):List Int:=(w.map negI).reverse
theorem invW_len (w:List Int):(invW w).length=w.length:=by simp [invW]
def redStep (out:List Int) (x:Int):List Int :=
 match out.getLast? with
 | some a=>if invB a x then out.dropLast else out++[x]
 | none=>[x]
def red (out w:List Int):List Int:=w.foldl redStep out
theorem red_nil (out:List Int):red out []=out:=rfl
theorem red_cons (out:List Int) (x:Int) (w:List Int):red out (x :: w)=red (redStep out x) w:=rfl
theorem red_append (out a b:List Int):red out (a++b)=red (red out a) b:=by simp [red]
theorem redStep_empty (x:Int):redStep [] x=[x]:=rfl
theorem redStep_pop {out:List Int} {a x:Int} (h:invB a x=true):redStep (out++[a]) x=out:=by simp [redStep,h]
theorem redStep_push {out:List Int} {a x:Int} (h:invB a x=false):redStep (out++[a]) x=out++[a]++[x]:=by simp [redStep,h]
theorem redStep_len (out:List Int) (x:Int):(redStep out x).length≤out.length+1:=by
 unfold redStep;split
 ·split <;> simp
  omega
 ·simp
theorem red_len (out w:List Int):(red out w).length≤out.length+w.length:=by
 induction w generalizing out with
 | nil=>simp [red]
 | cons x t ih =>
  rw [red_cons];have h1:=ih (redStep out x);have h2:=redStep_len out x;simp;omega
section
open Go.RowKit
theorem infoSI:(Tryz.prog.info? 44).map (fun i=>(i.zero,i.size,i.bytes))=some (some (.slice none 0 0),1,24):=by kernel_rfl
theorem undSSI:Tryz.prog.underlying 24=some (.slice 44):=by kernel_rfl
def sumL (xss:List (List Int)):Nat:=(xss.map List.length).sum
theorem sumL_append (a b:List (List Int)):sumL (a++b)=sumL a+sumL b:=by simp [sumL]
theorem sumL_one (a:List Int):sumL [a]=a.length:=by simp [sumL]
theorem sumL_take_succ {xss:List (List Int)} {k:Nat} {xs:List Int} (h:xss[k]?=some xs):sumL (xss.take (k+1))=sumL (xss.take k)+xs.length:=by
 rw [take_succ_of xss h,sumL_append,sumL_one]
theorem sumL_take_le (xss:List (List Int)) (k:Nat):sumL (xss.take k)≤sumL xss:=by
 have h:=List.take_append_drop k xss;have:=sumL_append (xss.take k) (xss.drop k);rw [h] at this;omega
theorem len_le_sumL {xss:List (List Int)} {xs:List Int} (h:xs∈xss):xs.length≤sumL xss:=by
 obtain ⟨k,hk⟩:=List.mem_iff_getElem?.1 h;have h1:=sumL_take_succ hk;have h2:=sumL_take_le xss (k+1);omega
theorem OV.grown {w w':World} {lo hi:Nat} {e:TypeId} {size:Nat} {A:Option Addr} {c n:Nat} {cs:List Value} {row:Option Nat} (h:OV w lo hi e size A c n cs) (hg:w.grownBy w' row)
  (hne:Value.ownBlock (.slice A n c)=none ∨ Value.ownBlock (.slice A n c)≠row):OV w' lo hi e size A c n cs :=
 ⟨Nat.le_trans h.1 hg.size,h.2.1.kept hg hne,h.2.2⟩
end
section
open Go.RowKit
theorem owns_cut {w:World} {base:Nat} {e:TypeId} {size g n cap:Nat} {xs:List Value} (h:w.ownsRow base e size (.slice (some ⟨g,0,none⟩) n cap) n xs) {m:Nat} (hm:m≤n) :
  w.ownsRow base e size (.slice (some ⟨g,0,none⟩) m cap) m (xs.take (m * size)):=by
 have hle:m * size≤n * size:=Nat.mul_le_mul_right _ hm;refine ⟨?_,?_⟩
 ·rw [List.length_take,h.1]
  omega
 ·rcases h.2 with ⟨hv,_⟩ | ⟨g',cap',cur,hv,hbg,hgg,hnc,hcm,hcs,htake⟩
  ·cases hv
  ·refine .inr ⟨g',cap',cur,?_,hbg,hgg,by omega,hcm,hcs,?_⟩
   ·injection hv with h1 _ h3
    rw [h1,h3]
   ·rw [← htake,List.take_take,Nat.min_eq_left hle]
theorem redStep_mem {out:List Int} {x y:Int} (h:y∈redStep out x):y∈out ∨ y=x:=by
 unfold redStep at h;split at h
 ·split at h
  ·exact .inl ((List.dropLast_sublist _).subset h)
  ·simpa using h
 ·simp at h
  exact .inr h
theorem red_mem {out w:List Int} {y:Int} (h:y∈red out w):y∈out ∨ y∈w:=by
 induction w generalizing out with
 | nil=>exact .inl h
 | cons x t ih =>
  rw [red_cons] at h;rcases ih h with h1 | h1
  ·rcases redStep_mem h1 with h2 | rfl
   ·exact .inl h2
   ·exact .inr (List.mem_cons_self)
  ·exact .inr (List.mem_cons_of_mem _ h1)
theorem red_ok {w:List Int} (h:OkI w):OkI (red [] w):=fun x hx=>by
 rcases red_mem hx with h1 | h1
 ·simp at h1
 ·exact h x h1
theorem red_step (w:List Int) {k:Nat} {x:Int} (h:w[k]?=some x) (out:List Int):red out (w.take (k+1))=redStep (red out (w.take k)) x:=by
 rw [take_succ_of w h,red_append]
 rfl
theorem red_nil_len (w:List Int):(red [] w).length≤w.length:=by
 have:=red_len [] w
 simpa using this
theorem sumL_flatten (d:List (List Int)):d.flatten.length=sumL d:=by
 simp [sumL,List.length_flatten]
theorem red_flatten_step (d:List (List Int)) {k:Nat} {xs:List Int} (h:d[k]?=some xs):red [] (d.take (k+1)).flatten=red (red [] (d.take k).flatten) xs:=by
 rw [take_succ_of d h,List.flatten_append,red_append];simp
theorem okI_flatten {d:List (List Int)} (h:∀ xs∈d,OkI xs):OkI d.flatten:=fun x hx=>by
 obtain ⟨xs,h1,h2⟩:=List.mem_flatten.1 hx;exact h xs h1 x h2
theorem eq_concat {α:Type} (l:List α) (h:0 < l.length):∃ ys a,l=ys++[a]:=by
 rcases List.eq_nil_or_concat l with rfl | ⟨ys,a,e⟩
 ·simp at h
 ·exact ⟨ys,a,by rw [e];simp⟩
end
def Lt3 (x:Int):Prop:=x≠0∧-3≤x∧x≤3
def LtW (w:List Int):Prop:=∀ x∈w,Lt3 x
def Rd (w:List Int):Prop:=∀ (a b:List Int) (x:Int),w≠a++x :: -x :: b
theorem Lt3.neg {x:Int} (h:Lt3 x):Lt3 (-x):=by unfold Lt3 at *;omega
theorem Lt3.negI {x:Int} (h:Lt3 x):negI x = -x:=by
 unfold Lt3 at h;unfold Go.Proofs.YtkimajabegojoaaGreat.negI minI;rw [if_neg (by omega)]
theorem LtW.nil:LtW []:=fun x h=>by simp at h
theorem LtW.left {a b:List Int} (h:LtW (a++b)):LtW a:=fun x hx=>h x (List.mem_append_left _ hx)
theorem LtW.right {a b:List Int} (h:LtW (a++b)):LtW b:=fun x hx=>h x (List.mem_append_right _ hx)
theorem LtW.app {a b:List Int} (h:LtW a) (k:LtW b):LtW (a++b):=fun x hx=>(List.mem_append.1 hx).elim (h x) (k x)
theorem LtW.head {x:Int} {t:List Int} (h:LtW (x :: t)):Lt3 x:=h x List.mem_cons_self
theorem LtW.tail {x:Int} {t:List Int} (h:LtW (x :: t)):LtW t:=fun y hy=>h y (List.mem_cons_of_mem _ hy)
theorem LtW.cons {x:Int} {t:List Int} (h:Lt3 x) (k:LtW t):LtW (x :: t):=fun y hy=>by
 rcases List.mem_cons.1 hy with rfl | hy
 ·exact h
 ·exact k y hy
theorem LtW.one {x:Int} (h:Lt3 x):LtW [x]:=LtW.cons h LtW.nil
theorem LtW.red {out w:List Int} (h:LtW out) (k:LtW w):LtW (red out w):=fun x hx=>(red_mem hx).elim (h x) (k x)
theorem invB_lt {x y:Int} (hx:Lt3 x) (hy:Lt3 y):invB x y=true↔x = -y:=by
 rw [invB_iff];unfold Lt3 at *;unfold minI;omega
theorem Rd.nil:Rd []:=fun a b x h=>by simp at h
theorem Rd.one (y:Int):Rd [y]:=fun a b x h=>by
 have:=congrArg List.length h;simp at this;omega
theorem Rd.left {a b:List Int} (h:Rd (a++b)):Rd a:=fun c d x e=>h c (d++b) x (by rw [e];simp)
theorem Rd.right {a b:List Int} (h:Rd (a++b)):Rd b:=fun c d x e=>h (a++c) d x (by rw [e];simp)
theorem snoc_cases {α:Type} (l:List α):l=[] ∨ ∃ t x,l=t++[x]:=by
 rcases List.eq_nil_or_concat l with h | ⟨t,x,h⟩
 ·exact .inl h
 ·exact .inr ⟨t,x,by simpa using h⟩
theorem snoc_inj {α:Type} {a b:List α} {x y:α} (h:a++[x]=b++[y]):a=b∧x=y:=by
 have:=List.append_inj' h rfl;exact ⟨this.1,by simpa using this.2⟩
theorem Rd.snoc {w:List Int} {x:Int} (h:Rd w) (hl:∀ t a,w=t++[a]→a≠-x):Rd (w++[x]):=by
 intro a b y e;rcases snoc_cases b with rfl | ⟨b',z,rfl⟩
 ·have e2:w++[x]=(a++[y])++[-y]:=by rw [e];simp
  obtain ⟨h1,h2⟩:=snoc_inj e2;exact hl a y h1 (by omega)
 ·have e2:w++[x]=(a++y :: -y :: b')++[z]:=by rw [e];simp
  exact h a b' y (snoc_inj e2).1
theorem Rd.last {w:List Int} {a x:Int} (h:Rd (w++[a]++[x])):a≠-x:=fun e=>h w [] a (by rw [e];simp)
theorem Rd.step {out:List Int} {x:Int} (h:Rd out) (hw:LtW out) (hx:Lt3 x):Rd (redStep out x):=by
 rcases snoc_cases out with rfl | ⟨o,a,rfl⟩
 ·rw [redStep_empty]
  exact Rd.one x
 ·have ha:=hw.right.head
  cases hb:invB a x with
  | true=>rw [redStep_pop hb];exact h.left
  | false =>
   rw [redStep_push hb];refine h.snoc fun t b e=>?_;obtain ⟨-,rfl⟩:=snoc_inj e;intro e2;rw [(invB_lt ha hx).2 e2] at hb;cases hb
theorem Rd.red {w:List Int}:∀ {out:List Int},Rd out→LtW out→LtW w→Rd (red out w):=by
 induction w with
 | nil=>exact fun h _ _=>h
 | cons x t ih =>
  intro out h ho hw;rw [red_cons];exact ih (h.step ho hw.head) (LtW.red (w:=[x]) ho (LtW.one hw.head)) hw.tail
theorem red_rd {w:List Int}:∀ {out:List Int},Rd (out++w)→LtW (out++w)→red out w=out++w:=by
 induction w with
 | nil=>intro out _ _;simp [red_nil]
 | cons x t ih =>
  intro out h hw;have hx:=hw.right.head;have e:redStep out x=out++[x]:=by
   rcases snoc_cases out with rfl | ⟨o,a,rfl⟩
   ·rfl
   ·refine redStep_push ?_
    have ha:=hw.left.right.head;cases hb:invB a x with
    | false=>rfl
    | true =>
     have e2:=(invB_lt ha hx).1 hb;exact absurd (by rw [e2];simp) (h o t a)
  rw [red_cons,e,ih (by simpa using h) (by simpa using hw)];simp
theorem red_self {w:List Int} (h:Rd w) (hw:LtW w):red [] w=w:=by
 have:=red_rd (out:=[]) (w:=w) (by simpa using h) (by simpa using hw)
 simpa using this
theorem rd_red {w:List Int} (hw:LtW w):Rd (red [] w):=Rd.nil.red LtW.nil hw
theorem lt_red {w:List Int} (hw:LtW w):LtW (red [] w):=LtW.red LtW.nil hw
theorem red_idem {w:List Int} (hw:LtW w):red [] (red [] w)=red [] w:=red_self (rd_red hw) (lt_red hw)
theorem redStep_inv {out:List Int} {x:Int} (h:Rd out) (hw:LtW out) (hx:Lt3 x):redStep (redStep out x) (-x)=out:=by
 rcases snoc_cases out with rfl | ⟨o,a,rfl⟩
 ·rw [redStep_empty]
  exact redStep_pop (out:=[]) ((invB_lt hx hx.neg).2 (by omega))
 ·have ha:=hw.right.head
  cases hb:invB a x with
  | true =>
   rw [redStep_pop hb];have e:=(invB_lt ha hx).1 hb;rcases snoc_cases o with rfl | ⟨p,b,rfl⟩
   ·rw [redStep_empty,e];rfl
   ·have hb2:=hw.left.right.head
    have:invB b (-x)=false:=by
     cases h2:invB b (-x) with
     | false=>rfl
     | true =>
      have e2:=(invB_lt hb2 hx.neg).1 h2;exact absurd e2 (by rw [← e];exact h.last)
    rw [redStep_push this,e]
  | false =>
   rw [redStep_push hb];exact redStep_pop ((invB_lt hx hx.neg).2 (by omega))
theorem red_pair {out:List Int} {x:Int} (b:List Int) (h:Rd out) (hw:LtW out) (hx:Lt3 x):red out (x :: -x :: b)=red out b:=by
 rw [red_cons,red_cons,redStep_inv h hw hx]
theorem red_app {b:List Int}:∀ {s out:List Int},Rd out→LtW out→LtW s→LtW b→red out (s++b)=red out (red s b):=by
 induction b with
 | nil=>intro s out _ _ _ _;simp [red_nil]
 | cons x t ih =>
  intro s out h ho hs hb;have hx:=hb.head;have hst:LtW (redStep s x):=LtW.red (w:=[x]) hs (LtW.one hx);rw [red_cons,← ih h ho hst hb.tail];rcases snoc_cases s with rfl | ⟨o,a,rfl⟩
  ·rw [redStep_empty];rfl
  ·cases hc:invB a x with
   | false=>rw [redStep_push hc];simp
   | true =>
    rw [redStep_pop hc];have ha:=hs.right.head;have e:=(invB_lt ha hx).1 hc;have e2:x = -a:=by omega
    subst e2;have h1:(o++[a])++-a :: t=o++(a :: -a :: t):=by simp
    rw [h1,red_append,red_append,red_pair t (h.red ho hs.left) (LtW.red ho hs.left) ha]
theorem red_right {a b:List Int} (ha:LtW a) (hb:LtW b):red [] (a++red [] b)=red [] (a++b):=by
 rw [red_append,red_append,← red_app (s:=[]) (rd_red ha) (lt_red ha) LtW.nil hb]
 rfl
theorem red_left (a b:List Int) (ha:LtW a):red [] (red [] a++b)=red [] (a++b):=by
 rw [red_append,red_append,red_idem ha]
def Eqv (a b:List Int):Prop:=red [] a=red [] b
theorem Eqv.app {a b c d:List Int} (ha:LtW a) (hb:LtW b) (hc:LtW c) (hd:LtW d) (h:Eqv a b) (k:Eqv c d):Eqv (a++c) (b++d):=by
 unfold Eqv at *;rw [← red_left _ _ ha,← red_right (lt_red ha) hc,h,k,red_right (lt_red hb) hd,red_left _ _ hb]
theorem Eqv.toRed {a:List Int} (ha:LtW a):Eqv (red [] a) a:=red_idem ha
theorem invW_nil:invW []=[]:=rfl
theorem invW_app (a b:List Int):invW (a++b)=invW b++invW a:=by simp [invW]
theorem invW_lt {w:List Int} (h:LtW w):invW w=(w.map (- ·)).reverse:=by
 unfold invW
 congr 1
 exact List.map_congr_left fun x hx=>(h x hx).negI
theorem LtW.inv {w:List Int} (h:LtW w):LtW (invW w):=by
 rw [invW_lt h];intro x hx;rw [List.mem_reverse,List.mem_map] at hx;obtain ⟨y,hy,rfl⟩:=hx;exact (h y hy).neg
theorem invW_invW {w:List Int} (h:LtW w):invW (invW w)=w:=by
 rw [invW_lt h.inv,invW_lt h,List.map_reverse,List.reverse_reverse,List.map_map]
 conv=>rhs;rw [← List.map_id w]
 exact List.map_congr_left fun x _=>by simp
theorem red_inv_cancel {w:List Int} (h:LtW w):∀ {out:List Int},Rd out→LtW out→red out (w++invW w)=out:=by
 induction w with
 | nil=>intro out _ _;rfl
 | cons x t ih =>
  intro out ho hl;have hx:=h.head;have e:invW (x :: t)=invW t++[-x]:=by rw [show x :: t=[x]++t from rfl,invW_app];simp [invW,hx.negI]
  rw [e,List.cons_append,red_cons,← List.append_assoc,red_append,ih h.tail (ho.step hl hx) (LtW.red (w:=[x]) hl (LtW.one hx))]
  show redStep (redStep out x) (-x)=out
  exact redStep_inv ho hl hx
theorem Eqv.inv_right {w:List Int} (h:LtW w):Eqv (w++invW w) []:=red_inv_cancel h Rd.nil LtW.nil
theorem Eqv.inv_left {w:List Int} (h:LtW w):Eqv (invW w++w) []:=by
 have:=Eqv.inv_right h.inv
 rwa [invW_invW h] at this
theorem Eqv.refl (a:List Int):Eqv a a:=rfl
theorem Eqv.symm {a b:List Int} (h:Eqv a b):Eqv b a:=Eq.symm h
theorem Eqv.trans {a b c:List Int} (h:Eqv a b) (k:Eqv b c):Eqv a c:=Eq.trans h k
theorem Eqv.inv {a b:List Int} (ha:LtW a) (hb:LtW b) (h:Eqv a b):Eqv (invW a) (invW b):=by
 -- invW a=invW a (b invW b)=(invW a a) invW b
 have h1:Eqv (invW a++(b++invW b)) (invW a++[]):=Eqv.app ha.inv ha.inv (hb.app hb.inv) LtW.nil rfl (Eqv.inv_right hb);have h2:Eqv (invW a++b) []:=(Eqv.app ha.inv ha.inv hb ha rfl h.symm).trans (Eqv.inv_left ha);have h3:Eqv ((invW a++b)++invW b) ([]++invW b):=Eqv.app (ha.inv.app hb) LtW.nil hb.inv hb.inv h2 rfl;rw [List.append_nil] at h1;rw [List.append_assoc] at h3;exact h1.symm.trans h3
theorem Rd.inv {w:List Int} (h:Rd w) (hw:LtW w):Rd (invW w):=by
 intro a b x e;have hl:=hw.inv;rw [e] at hl;have ex:Lt3 x:=hl.right.head;have e2:w=invW (a++x :: -x :: b):=by rw [← e,invW_invW hw]
 have e3:a++x :: -x :: b=a++([x]++([-x]++b)):=rfl;rw [e3,invW_app,invW_app,invW_app] at e2;have e4:invW [x]=[-x]:=by simp [invW,ex.negI]
 have e5:invW [-x]=[x]:=by simp [invW,ex.neg.negI]
 rw [e4,e5] at e2;exact h (invW b) (invW a) x (by rw [e2];simp)
theorem invW_red {w:List Int} (h:LtW w):invW (red [] w)=red [] (invW w):=by
 have h1:Eqv (invW (red [] w)) (invW w):=Eqv.inv (lt_red h) h (Eqv.toRed h);have h2:=red_self ((rd_red h).inv (lt_red h)) (lt_red h).inv;rw [← h2];exact h1
section
open Go.RowKit
end
section
open Go.RowKit
end
section
open Go.RowKit
theorem impl_areInverse (a b:Int) (w:World) (ha:-9223372036854775808≤a) (ha2:a≤9223372036854775807) :
  Calls Tryz.prog 188 #[.int .i64 a,.int .i64 b] w fun e w'=>e=.returned (.bool (invB a b))∧w=w':=by
 by_cases h0:a=0
 ·subst h0
  go_enter Tryz.func188,Tryz.ntmps188
  go_wp2_with fail;go_ret;exact ⟨by simp [invB],rfl⟩
 ·by_cases hm:a=minI
  ·have hr:invB a b=false:=by simp [invB,hm]
   rw [hr];clear h0 hr;subst hm;unfold minI;clear ha ha2;go_enter Tryz.func188,Tryz.ntmps188
   go_wp2_with fail;go_ret;exact ⟨rfl,rfl⟩
  ·have hlo:-9223372036854775807≤a:=by unfold minI at hm;omega
   have hx:(a != 0)=true:=by simpa using h0
   by_cases hb:(b == -a)=true
   ·have hr:invB a b=true:=by simp [invB,h0,hm];simpa using hb
    rw [hr];clear h0 hm hr;go_enter Tryz.func188,Tryz.ntmps188
    go_wp2_with fail;go_ret;exact ⟨by simp;omega,rfl⟩
   ·have hb':(b == -a)=false:=by simpa using hb
    have hr:invB a b=false:=by simp [invB];intro _ _;simpa using hb
    rw [hr];clear h0 hm hr hb;go_enter Tryz.func188,Tryz.ntmps188
    go_wp2_with fail;go_ret;exact ⟨rfl,rfl⟩
theorem impl_isLetter (rank x:Int) (w:World) (h1:1≤rank) (h3:rank≤3) :
  Calls Tryz.prog 216 #[.int .i64 rank,.int .i64 x] w fun e w'=>e=.returned (.bool (letB rank x))∧w=w':=by
 by_cases h0:x=0
 ·subst h0
  go_enter Tryz.func216,Tryz.ntmps216
  go_wp2_with fail;go_ret;exact ⟨by simp [letB],rfl⟩
 ·have hx:(x != 0)=true:=by simpa using h0
  have hr:letB rank x=inB x (-rank) rank:=by simp [letB,inB,h0]
  rw [hr];clear h0 hr;go_enter Tryz.func216,Tryz.ntmps216
  go_wp2_with fail;with_reducible refine (within_any _ _ _ _).mono ?_
  rintro e w' ⟨rfl,rfl⟩;go_wp2_with fail;go_ret;exact ⟨rfl,rfl⟩
theorem impl_compareInts (a b:Int) (w:World) :
  Calls Tryz.prog 113 #[.int .i64 a,.int .i64 b] w fun e w'=>e=.returned (.int .i64 (cmpI a b))∧w=w':=by
 by_cases h1:a < b
 ·have hr:cmpI a b = -1:=by simp [cmpI,h1]
  rw [hr];clear hr;go_enter Tryz.func113,Tryz.ntmps113
  go_wp2_with fail;go_ret;exact ⟨rfl,rfl⟩
 ·by_cases h2:b < a
  ·have hr:cmpI a b=1:=by simp [cmpI,h1,h2]
   rw [hr];clear hr;go_enter Tryz.func113,Tryz.ntmps113
   go_wp2_with fail;go_ret;exact ⟨rfl,rfl⟩
  ·have hr:cmpI a b=0:=by simp [cmpI,h1,h2]
   rw [hr];clear hr;go_enter Tryz.func113,Tryz.ntmps113
   go_wp2_with fail;go_ret;exact ⟨rfl,rfl⟩
theorem wrap_neg {x:Int} (h1:-9223372036854775808≤x) (h2:x≤9223372036854775807):wrap64 (-x)=negI x:=by
 unfold negI minI;by_cases h:x = -9223372036854775808
 ·rw [if_pos h,h]
  unfold wrap64;omega
 ·rw [if_neg h]
  exact IntWalk.wrap64_in _ ⟨by omega,by omega⟩
theorem invW_cons (x:Int) (t:List Int):invW (x :: t)=invW t++[negI x]:=by simp [invW]
theorem spec_InvertWord (A:Option Addr) (xs:List Int) (c B:Nat) (w:World) (hr:Rs w B A (ints xs)) (hB:B≤w.heap.size) (hok:OkI xs) (hl:xs.length≤4194304) :
  Calls Tryz.prog 22 #[.slice A xs.length c] w fun e w'=>RetI 3 (invW xs) w e w':=by
 have HOK:=Lib.hid hok;clear hok;have hb0:=(Below.refl w.heap.size w).alloc (Nat.le_refl _) (.cells #[] 3);have ho0:=owns_empty w 3 1;go_enter Tryz.func22,Tryz.ntmps22
 go_wp2_with fail;go_loopw [3,4] (fun v i wr=>∃ j:Nat,j≤xs.length∧i=.int .i64 ((j:Int) - 1)∧wr.ownsRow w.heap.size 3 1 v (xs.length - j) (ints (invW (xs.drop j)))∧Below w.heap.size w wr)
  (fun _ i _=>(intOf i+1).toNat)
 case atStart=>exact ⟨xs.length,Nat.le_refl _,rfl,by simpa [invW,ints] using ho0,hb0⟩
 case round =>
  obtain ⟨j,hj,rfl,hown,hb⟩:=hrel;have hsz:=hb.size;cases j with
  | zero =>
   go_wp2_with fail;go_ret;exact RetI.mk (by rw [invW_len]) (by simpa using hown) hb
  | succ m =>
   rw [show (((m+1:Nat):Int) - 1)=(m:Int) from by omega];obtain ⟨b,off,x,rfl, -,hx,hc⟩:=((hr.more hB).below hb).int (show m < xs.length by omega);have hbx:=HOK.out x (List.mem_of_getElem? hx);have HW:=Lib.hid (wrap_neg hbx.1 hbx.2);have HX:=Lib.hid hx;clear hx hbx;go_wp2_with (at_builtin;refine wpList_push rfl _ _ 44 rfl w.heap.size 3 (.int .i64 0) 1 8 undSI infoI rfl (by decide) _ _ _ rfl hown 1 [.int .i64 (wrap64 (-x))] rfl rfl ?c1 ?c2 ?c3 hsz ?next)
   case c1=>exact one_of_ints [wrap64 (-x)]
   case c2=>unfold maxLen;omega
   case c3=>omega
   case next =>
    intro v' w1 hown1 hgr _;go_wp2_with fail;go_roundw
    case rel =>
     refine ⟨m,by omega,rfl,?_,hb.grown hgr hsz (fun g hg=>(hown.lt g hg).1)⟩;rw [drop_of xs HX.out,invW_cons,ints_append,show xs.length - m=xs.length - (m+1)+1 from by omega,← HW.out];exact hown1
    case measure=>simp [intOf]
end
section
open Go.RowKit
theorem invB_spec {a x:Int} (ha:-9223372036854775808≤a∧a≤9223372036854775807) (hx:-9223372036854775808≤x∧x≤9223372036854775807) :
  invB a x=true↔(x≠0∧a=wrap64 (-x)∧a≠x):=by
 rw [invB_iff,wrap_neg hx.1 hx.2];unfold negI minI;split <;> omega
def RdOut (w wr:World) (v:Value) (out:List Int):Prop:=wr.ownsRow w.heap.size 3 1 v out.length (ints out)∧Below w.heap.size w wr
theorem spec_ReduceLetters (A:Option Addr) (xs:List Int) (c:Nat) (w:World) (B:Nat) (hr:Rs w B A (ints xs)) (hB:B≤w.heap.size) (hok:OkI xs) (hl:xs.length≤268435456) :
  Calls Tryz.prog 106 #[.slice A xs.length c] w fun e w'=>RetI 3 (red [] xs) w e w':=by
 have HOK:=Lib.hid hok;clear hok;have hb0:=(Below.refl w.heap.size w).alloc (Nat.le_refl _) (.cells #[] 3);have ho0:=owns_empty w 3 1;go_enter Tryz.func106,Tryz.ntmps106
 go_wp2_with fail;go_loopw [3,4,5] (fun v i _ wr=>∃ k:Nat,k≤xs.length∧i=.int .i64 k∧RdOut w wr v (red [] (xs.take k))) (fun _ i _ _=>xs.length - (intOf i).toNat)
 case atStart=>exact ⟨0,Nat.zero_le _,rfl,ho0,hb0⟩
 case round =>
  obtain ⟨k,hk,rfl,hown,hb⟩:=hrel;have hsz:=hb.size;by_cases hlt:k < xs.length
  ·obtain ⟨b,off,x,rfl, -,hxx,hc⟩:=((hr.more hB).below hb).int hlt
   have hlt3:(k:Int) < (xs.length:Int):=by omega
   have hst:=red_step xs hxx [];have hbx:=HOK.out x (List.mem_of_getElem? hxx);have hlen:=red_len [] (xs.take k);rw [List.length_take,List.length_nil,Nat.zero_add] at hlen;have hok1:OkI (red [] (xs.take k)):=red_ok fun y hy=>HOK.out y (List.mem_of_mem_take hy);obtain ⟨out1,ho1⟩:∃ o,o=red [] (xs.take k):=⟨_,rfl⟩
   rw [← ho1] at hown hst hlen hok1;have HBX:=Lib.hid hbx;have HST:=Lib.hid hst;clear ho1 hxx hbx hst;rcases Nat.eq_zero_or_pos out1.length with he | hp
   ·obtain rfl:=List.eq_nil_of_length_eq_zero he
    clear he hok1 hlen;obtain ⟨A1,c1,rfl, -, -⟩:=owns_shape hown;go_wp2_with fail;go_quiet (fail)
    go_wp2_with (at_builtin;refine wpList_push rfl _ _ 44 rfl w.heap.size 3 (.int .i64 0) 1 8 undSI infoI rfl (by decide) _ _ _ rfl (owns_drewN hown _) 1 [.int .i64 x] rfl rfl (one_of_ints [x]) (by unfold maxLen;simp) (by simp) hsz ?n1)
    case n1 =>
     intro v' w1 hown1 hgr _;go_wp2_with fail;go_roundw
     case rel =>
      refine ⟨k+1,by omega,by go_num,?_,hb.grown (owns_row hgr) hsz (fun g hg=>(hown.lt g hg).1)⟩;rw [HST.out,redStep_empty];exact hown1
     case measure=>simp [intOf];omega
   ·obtain ⟨ys,a,rfl⟩:=eq_concat out1 hp
    have hba:=hok1 a (by simp);rw [List.length_append] at hown hlen;simp only [List.length_cons,List.length_nil,Nat.zero_add] at hown hlen;clear hp hok1;obtain ⟨A1,c1,rfl,hnc, -⟩:=owns_shape hown;obtain ⟨g,rfl, -, -⟩:=owns_addr hown (Nat.succ_pos _);have hca:wr.cell? ⟨g,ys.length,none⟩=some (.int .i64 a):=by
     rw [hown.cellAt ys.length (by omega)];simp [ints]
    have hiff:=invB_spec hba HBX.out;have HI:=Lib.hid hiff;clear hba hiff;obtain ⟨nx,hnx⟩:∃ nx,wrap64 (-x)=nx:=⟨_,rfl⟩
    have hp0:(0:Int) < (ys.length:Int)+1:=by omega
    have hp1:(ys.length:Int)+1 - 1=(ys.length:Int):=by omega
    have hys:ys.length≤c1:=by omega
    by_cases hpop:invB a x=true
    ·obtain ⟨h1,h2,h3⟩:=HI.out.1 hpop
     have hx0:(x != 0)=true:=by simpa using h1
     have hanx:(a == nx)=true:=by rw [← hnx];simpa using h2
     have hax:(a != x)=true:=by simpa using h3
     have HP:=Lib.hid hpop;clear h1 h2 h3 hpop;go_wp2_with fail;go_quiet (fail)
     go_wp2_with fail;go_roundw
     case rel =>
      refine ⟨k+1,by omega,by go_num,?_,by first | exact below_drewN hb _ | exact hb⟩;rw [HST.out,redStep_pop HP.out];have h1:=owns_cut hown (Nat.le_succ ys.length);rw [Nat.mul_one,ints_append,List.take_left' (ints_len ys)] at h1;exact owns_drewN h1 _
     case measure=>simp [intOf];omega
    ·have hpf:invB a x=false:=by simpa using hpop
     have HP:=Lib.hid hpf;have hcases:(x != 0)=false ∨ ((x != 0)=true∧(a == nx)=false) ∨ ((x != 0)=true∧(a == nx)=true∧(a != x)=false):=by
      rw [← hnx];by_cases h1:x=0
      ·left;simpa using h1
      ·by_cases h2:a=wrap64 (-x)
       ·right;right
        refine ⟨by simpa using h1,by simpa using h2,?_⟩;cases hv:(a != x) with
        | false=>rfl
        | true=>exact absurd (HI.out.2 ⟨h1,h2,by simpa using hv⟩) hpop
       ·right;left
        exact ⟨by simpa using h1,by simpa using h2⟩
     clear hpop hpf;rcases hcases with h1 | ⟨h1,h2⟩ | ⟨h1,h2,h3⟩
     ·go_wp2_with fail
      go_quiet (fail)
      go_wp2_with (at_builtin;refine wpList_push rfl _ _ 44 rfl w.heap.size 3 (.int .i64 0) 1 8 undSI infoI rfl (by decide) _ _ _ rfl (owns_drewN hown _) 1 [.int .i64 x] rfl rfl (one_of_ints [x]) (by unfold maxLen;omega) (by omega) hsz ?n2)
      case n2 =>
       intro v' w1 hown1 hgr _;go_wp2_with fail;go_roundw
       case rel =>
        refine ⟨k+1,by omega,by go_num,?_,hb.grown (owns_row hgr) hsz (fun g hg=>(hown.lt g hg).1)⟩;rw [HST.out,redStep_push HP.out,ints_append,List.length_append,List.length_append];exact hown1
       case measure=>simp [intOf];omega
     ·go_wp2_with fail
      go_quiet (fail)
      go_wp2_with (at_builtin;refine wpList_push rfl _ _ 44 rfl w.heap.size 3 (.int .i64 0) 1 8 undSI infoI rfl (by decide) _ _ _ rfl (owns_drewN hown _) 1 [.int .i64 x] rfl rfl (one_of_ints [x]) (by unfold maxLen;omega) (by omega) hsz ?n3)
      case n3 =>
       intro v' w1 hown1 hgr _;go_wp2_with fail;go_roundw
       case rel =>
        refine ⟨k+1,by omega,by go_num,?_,hb.grown (owns_row hgr) hsz (fun g hg=>(hown.lt g hg).1)⟩;rw [HST.out,redStep_push HP.out,ints_append,List.length_append,List.length_append];exact hown1
       case measure=>simp [intOf];omega
     ·go_wp2_with fail
      go_quiet (fail)
      go_wp2_with (at_builtin;refine wpList_push rfl _ _ 44 rfl w.heap.size 3 (.int .i64 0) 1 8 undSI infoI rfl (by decide) _ _ _ rfl (owns_drewN hown _) 1 [.int .i64 x] rfl rfl (one_of_ints [x]) (by unfold maxLen;omega) (by omega) hsz ?n4)
      case n4 =>
       intro v' w1 hown1 hgr _;go_wp2_with fail;go_roundw
       case rel =>
        refine ⟨k+1,by omega,by go_num,?_,hb.grown (owns_row hgr) hsz (fun g hg=>(hown.lt g hg).1)⟩;rw [HST.out,redStep_push HP.out,ints_append,List.length_append,List.length_append];exact hown1
       case measure=>simp [intOf];omega
  ·obtain rfl:k=xs.length:=by omega
   rw [List.take_length] at hown;have hlr:=red_nil_len xs;obtain ⟨out,hout⟩:∃ o,o=red [] xs:=⟨_,rfl⟩
   rw [← hout] at hown hlr;have HO:=Lib.hid hout;clear hout;obtain ⟨A1,c1,rfl,hnc, -⟩:=owns_shape hown;have ho2:=owns_empty wr 3 1;have ho2':(wr.alloc (.cells #[] 3)).ownsRow w.heap.size 3 1 (.slice (some ⟨wr.heap.size,0,none⟩) 0 0) 0 []:=owns_base ho2 hsz;have hra:Rs (wr.alloc (.cells #[] 3)) wr.heap.size A1 (ints out):=(Rs.of_own hown).alloc (Nat.le_refl _) _;have hla:(ints out).length=out.length * 1:=by rw [ints_len];omega
   go_wp2_with (at_builtin;refine wpList_cat rfl _ _ 44 rfl w.heap.size 3 (.int .i64 0) 1 8 undSI infoI rfl (by decide) _ _ _ rfl ho2' A1 out.length c1 wr.heap.size (ints out) rfl hra hla (one_of_ints _) ?c2 ?c3 (by simp;omega) ?next)
   case c2=>unfold maxLen;omega
   case c3=>omega
   case next =>
    intro v1 w1 hown1 hgr1 _;have hb1:Below w.heap.size w w1:=(hb.grown (World.grownBy_alloc wr _ none) hsz (by intro g h;cases h)).grown hgr1 (by simp;omega) (fun g hg=>(ho2'.lt g hg).1);go_wp2_with fail;go_ret;rw [← HO.out];exact RetI.mk rfl (by simpa using hown1) hb1
end
section
open Go.RowKit
theorem cell_keep {w w':World} {lo hi b i:Nat} {u:Value} (m:Mid lo hi w w') (hb:b < w.heap.size) (hd:b < lo ∨ hi≤b) (hc:w.cell? ⟨b,i,none⟩=some u):w'.cell? ⟨b,i,none⟩=some u :=
 (World.cell?_of_block (m.block b hb (by omega))).trans hc
section
variable {P:Program} {w:World}
theorem run_cat (base:Nat) (t ty e:TypeId) (z:Value) (size bytes:Nat) (ht:P.underlying t=some (.slice e)) (hinfo:(P.info? e).map (fun i=>(i.zero,i.size,i.bytes))=some (some z,size,bytes))
  (hzs:z.cells.size=size) (hsz:0 < size)
  (v:Value) (n:Nat) (xs:List Value) (hown:w.ownsRow base e size v n xs)
  (A:Option Addr) (m c B:Nat) (news:List Value) (hr:Rs w B A news) (hl:news.length=m * size) (h1:∀ u∈news,u.oneCell'=true)
  (h63:n+m≤maxLen) (hbytes:(n+m) * bytes≤140737488355328) (hbase:base≤w.heap.size) :
  ∃ v' w',(Builtin.append_ #[t,t] ty #[v,.slice A m c]).run P w=.ok v' w'∧w'.ownsRow base e size v' (n+m) (xs++news)∧w.grownBy w' v.ownBlock ∧
   (v'.ownBlock=v.ownBlock ∨ v'.ownBlock=some w.heap.size):=by
 obtain ⟨i,hi,hz,hsize,hby⟩:=info_parts hinfo;rcases A with _ | ad
 ·have hn:news=[]:=by
   cases hne:news with
   | nil=>rfl
   | cons u r =>
    obtain ⟨b,off,he,_⟩:=hr (by rw [hne];simp);cases he
  subst hn;have hm:m=0:=by
   rcases Nat.eq_zero_or_pos m with h0 | h0
   ·exact h0
   ·have:=Nat.mul_pos h0 hsz
    simp at hl;omega
  subst hm;exact ⟨v,w,run_append_none base t ty e i size ht hi v n xs hown c,by simpa using hown,World.grownBy.refl w _,.inl rfl⟩
 ·have hcells:∀ j u,news[j]?=some u→w.cell? (ad.add j)=some u:=by
   intro j u hu;obtain ⟨b,off,he,_,hc⟩:=hr (by intro h0;subst h0;simp at hu);injection he with he
   subst he;rw [Addr.add_lit];exact hc j u hu
  obtain ⟨v',w',hrun,h2,h3,_,h5⟩:=run_append_own_at (P:=P) w base t ty e i z size bytes ht hi hz hsize hby hzs hsz v n xs hown ad m c news hl hcells h1 h63 hbytes hbase;exact ⟨v',w',hrun,h2,h3,h5⟩
theorem wp_cat {o:Oper} {a:Act} {K:Act→World→Prop} {Q:Exit→Act→World→Prop} (s x:Operand) (t:TypeId)
  (ho:o.op=.call { callee:=.builtin .append,args:=#[s,x],argTypes:=#[t,t] })
  (base:Nat) (e:TypeId) (z:Value) (size bytes:Nat) (ht:P.underlying t=some (.slice e)) (hinfo:(P.info? e).map (fun i=>(i.zero,i.size,i.bytes))=some (some z,size,bytes))
  (hzs:z.cells.size=size) (hsz:0 < size)
  (v:Value) (n:Nat) (xs:List Value) (hs:a.eval s=v) (hown:w.ownsRow base e size v n xs)
  (A:Option Addr) (m c B:Nat) (news:List Value) (hx:a.eval x=.slice A m c) (hr:Rs w B A news) (hl:news.length=m * size) (h1:∀ u∈news,u.oneCell'=true)
  (h63:n+m≤maxLen) (hbytes:(n+m) * bytes≤140737488355328) (hbase:base≤w.heap.size)
  (h:∀ v' w',w'.ownsRow base e size v' (n+m) (xs++news)→w.grownBy w' v.ownBlock→(v'.ownBlock=v.ownBlock ∨ v'.ownBlock=some w.heap.size)→K (a.put o.dst v') w'):o.wp P a w K Q:=by
 obtain ⟨v',w',hrun,h2,h3,h4⟩:=run_cat (P:=P) base t o.type e z size bytes ht hinfo hzs hsz v n xs hown A m c B news hr hl h1 h63 hbytes hbase;unfold Oper.wp execOp;simp only [ho,resolve,invoke,builtin,Sem.run_bind,Sem.run_pure,Result.andThen_ok,List.map_toArray,List.map_cons,List.map_nil,hs,hx,hrun];exact h v' w' h2 h3 h4
theorem step_cat {ops:Array Oper} {o:Oper} {a:Act} {K:Act→World→Prop} {Q:Exit→Act→World→Prop} {E:Prop} (hgd:o.guard=none) (s x:Operand) (t:TypeId)
  (ho:o.op=.call { callee:=.builtin .append,args:=#[s,x],argTypes:=#[t,t] })
  (base:Nat) (e:TypeId) (z:Value) (size bytes:Nat) (ht:P.underlying t=some (.slice e)) (hinfo:(P.info? e).map (fun i=>(i.zero,i.size,i.bytes))=some (some z,size,bytes))
  (hzs:z.cells.size=size) (hsz:0 < size)
  (v:Value) (n:Nat) (xs:List Value) (hs:a.eval s=v) (hown:w.ownsRow base e size v n xs)
  (A:Option Addr) (m c B:Nat) (news:List Value) (hx:a.eval x=.slice A m c) (hr:Rs w B A news) (hl:news.length=m * size) (h1:∀ u∈news,u.oneCell'=true)
  (h63:n+m≤maxLen) (hbytes:(n+m) * bytes≤140737488355328) (hbase:base≤w.heap.size)
  (h:∀ v' w',w'.ownsRow base e size v' (n+m) (xs++news)→w.grownBy w' v.ownBlock→(v'.ownBlock=v.ownBlock ∨ v'.ownBlock=some w.heap.size)→K (a.put o.dst v') w') :
  if Region.wanted o (yielded ops a.tmps)=true then Oper.wp P o a w K Q else E:=by
 have hw:Region.wanted o (yielded ops a.tmps)=true:=by simp [Region.wanted,hgd]
 rw [if_pos hw];exact wp_cat s x t ho base e z size bytes ht hinfo hzs hsz v n xs hs hown A m c B news hx hr hl h1 h63 hbytes hbase h
end
end
section
open Go.RowKit
theorem LtW.ok {w:List Int} (h:LtW w):OkI w:=fun x hx=>by
 have:=h x hx;unfold Lt3 at this;omega
def natV:Value→Nat
 | .int _ n=>n.toNat
 | _=>0
theorem l2Of_any (r:Int) (hr1:1≤r) (hr3:r≤3) (m:Int) (hm0:0≤m) (hm2:m≤24) (p:Nat) (A:Option Addr) (bs:List Int) (c:Nat) (w:World) (hb:OkB bs) (hl:bs.length≤1048576) (h:Cur w p A bs c) :
  Calls Tryz.prog 139 #[.pointer (some ⟨p,0,none⟩),.int .i64 r,.int .i64 m] w fun e w'=>∃ A' c' xs,e=.returned (.slice A' (List.length xs) c')∧(((xs.length:Nat):Int)≤m∧LtW xs∧Rd xs)∧OI w' w.heap.size w'.heap.size A' c' xs∧Cur w' p A bs c∧Mid p (p+1) w w':=by
 have hpw:=h.lt;have hal:=Mid.alloc w (.cells #[] 3);have ho:=owns_empty w 3 1;have h0:=h.mid hal (Or.inr rfl);go_enter Tryz.func139,Tryz.ntmps139
 go_wp2_with fail;with_reducible refine (l1BelowI (m+1) (by omega) (by omega) p A bs c _ hb hl h0).mono ?_
 rintro e w1 ⟨n0,rfl,hn0,h1,m1⟩;have ho1:=owns_mid ho m1 (Or.inl (by omega));have hm1:=hal.zero.trans m1;have hs1:=hm1.size;clear h0 hal m1 ho;go_wp2_with fail;go_loopw [7,8] (fun wv nv wr=>∃ (xs:List Int) (n:Nat) (Ax:Option Addr) (cx L:Nat),nv=.int .i64 n∧wv=.slice Ax L cx∧Hid (xs.length=L)∧(L:Int)+(n:Int)≤m∧Hid (LtW xs)∧wr.ownsRow w.heap.size 3 1 (.slice Ax L cx) L (ints xs)∧Cur wr p A bs c∧Mid p (p+1) w wr)
  (fun _ nv _=>natV nv)
 case atStart=>exact ⟨[],n0,_,_,0,rfl,rfl,Lib.hid rfl,by omega,Lib.hid LtW.nil,by simpa [ints] using ho1,h1,hm1⟩
 case round =>
  obtain ⟨xs,n,Ax,cx,L,rfl,rfl,HL,hLm,HW,ho,hc,hm⟩:=hrel;have hs:=hm.size;by_cases hlt:0 < n
  ·go_wp2_with fail
   with_reducible refine (l1BelowI r (by omega) (by omega) p A bs c _ hb hl hc).mono ?_
   rintro e w2 ⟨x,rfl,hx,hc2,m2⟩;have ho2:=owns_mid ho m2 (Or.inl hpw);have hm2:=hm.trans m2;have ew1:IntKind.i64.wrap (1+(x:Int))=1+(x:Int):=IntWalk.i64_in _ (by omega);clear ho hc m2;go_wp2_with fail;with_reducible refine (l1OnceI 2 (by decide) (by decide) p A bs c _ hb hl hc2).mono ?_
   rintro e w3 ⟨b,rfl,hc3,m3⟩;have ho3:=owns_mid ho2 m3 (Or.inl hpw);have hm3:=hm2.trans m3;have hs3:=hm3.size;clear ho2 hc2 m3 hm2 hm;have key:∀ y:Int,(y=1+(x:Int) ∨ y = -(1+(x:Int)))→Lt3 y:=fun y hy=>by
    unfold Lt3;omega
   have KEY:=Lib.hid key;clear key;cases b
   ·go_wp2_with (at_builtin;refine wpList_push rfl _ _ 44 rfl w.heap.size 3 (.int .i64 0) 1 8 undSI infoI rfl (by decide) _ _ _ rfl ho3 1 [.int .i64 (1+(x:Int))] rfl rfl ?c1 ?c2 ?c3 hs3 ?next)
    case c1=>exact one_of_ints [1+(x:Int)]
    case c2=>unfold maxLen;omega
    case c3=>omega
    case next =>
     intro v4 w4 ho4 hgr4 hat4;obtain ⟨A4,c4,rfl, -, -⟩:=owns_shape ho4;have m4:Mid w.heap.size w3.heap.size w3 w4:=Mid.of_grownRow ho3 hgr4;go_wp2_with fail;go_roundw
     case rel =>
      refine ⟨xs++[1+(x:Int)],n - 1,A4,c4,L+1,by go_num,rfl,Lib.hid (by simp [HL.out]),by omega,Lib.hid (HW.out.app (LtW.one (KEY.out _ (.inl rfl)))),by rw [ints_append];exact ho4,hc3.mid m4 (Or.inl hpw),hm3.transNew m4 (Or.inl (Nat.le_refl _))⟩
     case measure=>simp [natV];omega
   ·go_wp2_with (at_builtin;refine wpList_push rfl _ _ 44 rfl w.heap.size 3 (.int .i64 0) 1 8 undSI infoI rfl (by decide) _ _ _ rfl ho3 1 [.int .i64 (-(1+(x:Int)))] rfl rfl ?c1 ?c2 ?c3 hs3 ?next)
    case c1=>exact one_of_ints [-(1+(x:Int))]
    case c2=>unfold maxLen;omega
    case c3=>omega
    case next =>
     intro v4 w4 ho4 hgr4 hat4;obtain ⟨A4,c4,rfl, -, -⟩:=owns_shape ho4;have m4:Mid w.heap.size w3.heap.size w3 w4:=Mid.of_grownRow ho3 hgr4;go_wp2_with fail;go_roundw
     case rel =>
      refine ⟨xs++[-(1+(x:Int))],n - 1,A4,c4,L+1,by go_num,rfl,Lib.hid (by simp [HL.out]),by omega,Lib.hid (HW.out.app (LtW.one (KEY.out _ (.inr rfl)))),by rw [ints_append];exact ho4,hc3.mid m4 (Or.inl hpw),hm3.transNew m4 (Or.inl (Nat.le_refl _))⟩
     case measure=>simp [natV];omega
  ·have hok:=HW.out.ok
   have hxl:=HL.out;have hrs:=Rs.of_own ho;have hc5:Calls Tryz.prog 106 #[.slice Ax L cx] wr fun e w'=>RetI 3 (red [] xs) wr e w':=by
    have:=spec_ReduceLetters Ax xs cx wr wr.heap.size hrs (Nat.le_refl _) hok (by omega)
    rwa [hxl] at this
   clear hok hxl hrs;go_wp2_with fail;with_reducible refine hc5.mono ?_
   rintro e w5 ⟨A5,c5,rfl,ho5,hb5⟩;go_wp2_with fail;go_ret;have hlen:=red_nil_len xs;have hL:=HL.out;have m5:Mid 0 0 wr w5:=Mid.of_below hb5;exact ⟨A5,c5,red [] xs,rfl,⟨by omega,lt_red HW.out,rd_red HW.out⟩,(OV.new ho5).wide hs (Nat.le_refl _) (Nat.le_refl _),hc.mid m5 (Or.inr rfl),hm.trans m5.zero⟩
end
section
open Go.RowKit
end
section
open Go.RowKit
def seenOf (n:Nat) (l:List Int):List Value:=(List.range n).map (fun (j:Nat)=>Value.bool (decide ((j:Int)∈l)))
theorem seenOf_nil (n:Nat):seenOf n []=List.replicate n (.bool false):=by
 unfold seenOf;apply List.ext_getElem <;> simp
theorem seenOf_get {n j:Nat} {l:List Int} (h:j < n):(seenOf n l)[j]?=some (.bool (decide ((j:Int)∈l))):=by simp [seenOf,h]
theorem seenOf_set {n m:Nat} {l:List Int} (_h:m < n):(seenOf n l).set m (.bool true)=seenOf n (l++[(m:Int)]):=by
 unfold seenOf;apply List.ext_getElem
 ·simp
 ·intro i h1 h2
  rw [List.getElem_set];by_cases e:m=i
  ·subst e
   simp
  ·simp [e]
   intro e';omega
end
section
open Go.RowKit
end
section
open Go.RowKit
end
structure Ed where
 a:Int
 l:Int
 b:Int
deriving DecidableEq
theorem Ed.ext' {e f:Ed} (h1:e.a=f.a) (h2:e.l=f.l) (h3:e.b=f.b):e=f:=by
 cases e
 cases f
 simp at h1 h2 h3;simp [h1,h2,h3]
def cmpE (e f:Ed):Int:=if cmpI e.a f.a≠0 then cmpI e.a f.a else if cmpI e.l f.l≠0 then cmpI e.l f.l else cmpI e.b f.b
theorem cmpI_zero {a b:Int}:cmpI a b=0↔a=b:=by
 unfold cmpI;split
 ·simp;omega
 ·split
  ·simp;omega
  ·simp;omega
theorem cmpI_neg {a b:Int}:cmpI a b < 0↔a < b:=by
 unfold cmpI;split
 ·simp;omega
 ·split
  ·simp;omega
  ·simp;omega
def LtE (e f:Ed):Prop:=e.a < f.a ∨ (e.a=f.a∧(e.l < f.l ∨ (e.l=f.l∧e.b < f.b)))
theorem cmpE_neg {e f:Ed}:cmpE e f < 0↔LtE e f:=by
 unfold cmpE LtE;by_cases h1:cmpI e.a f.a=0
 ·by_cases h2:cmpI e.l f.l=0
  ·rw [if_neg (by simpa using h1),if_neg (by simpa using h2),cmpI_neg]
   have:=cmpI_zero.1 h1;have:=cmpI_zero.1 h2;omega
  ·rw [if_neg (by simpa using h1),if_pos h2,cmpI_neg]
   have:=cmpI_zero.1 h1;have:e.l≠f.l:=fun h=>h2 (cmpI_zero.2 h);omega
 ·rw [if_pos h1,cmpI_neg]
  have:e.a≠f.a:=fun h=>h1 (cmpI_zero.2 h);omega
theorem cmpE_zero {e f:Ed}:cmpE e f=0↔e=f:=by
 unfold cmpE;constructor
 ·intro h
  split at h
  ·contradiction
  ·split at h
   ·contradiction
   ·exact Ed.ext' (cmpI_zero.1 (by simpa using ‹¬ cmpI e.a f.a≠0›)) (cmpI_zero.1 (by simpa using ‹¬ cmpI e.l f.l≠0›)) (cmpI_zero.1 h)
 ·rintro rfl
  simp [cmpI]
theorem LtE.trans {e f g:Ed} (h:LtE e f) (k:LtE f g):LtE e g:=by unfold LtE at *;omega
theorem LtE.irrefl (e:Ed):¬ LtE e e:=by unfold LtE;omega
theorem LtE.tri (e f:Ed):LtE e f ∨ e=f ∨ LtE f e:=by
 by_cases h:e=f
 ·exact .inr (.inl h)
 ·have:¬ (e.a=f.a∧e.l=f.l∧e.b=f.b):=fun ⟨h1,h2,h3⟩=>h (Ed.ext' h1 h2 h3)
  unfold LtE;omega
theorem LtE.ne {e f:Ed} (h:LtE e f):e≠f:=fun hf=>LtE.irrefl f (hf ▸ h)
theorem LtE.asymm {e f:Ed} (h:LtE e f):¬ LtE f e:=fun k=>LtE.irrefl e (h.trans k)
def Asc (es:List Ed):Prop:=es.Pairwise LtE
theorem asc_ext:∀ {xs ys:List Ed},Asc xs→Asc ys→(∀ e,e∈xs↔e∈ys)→xs=ys
 | [],[],_,_,_=>rfl
 | [],y :: ys,_,_,h=>absurd ((h y).2 (by simp)) (by simp)
 | x :: xs,[],_,_,h=>absurd ((h x).1 (by simp)) (by simp)
 | x :: xs,y :: ys,hx,hy,h=>by
  obtain ⟨hx1,hx2⟩:=List.pairwise_cons.1 hx;obtain ⟨hy1,hy2⟩:=List.pairwise_cons.1 hy;have hxy:x=y:=by
   have h1:=(h x).1 (by simp);have h2:=(h y).2 (by simp);rcases List.mem_cons.1 h1 with rfl | h1
   ·rfl
   ·rcases List.mem_cons.1 h2 with rfl | h2
    ·rfl
    ·exact absurd (hx1 y h2) (hy1 x h1).asymm
  subst hxy;rw [asc_ext hx2 hy2 (fun e=>?_)];have:=h e;simp only [List.mem_cons] at this;constructor
  ·intro he
   rcases this.1 (.inr he) with rfl | h1
   ·exact absurd (hx1 e he) (LtE.irrefl e)
   ·exact h1
  ·intro he
   rcases this.2 (.inr he) with rfl | h1
   ·exact absurd (hy1 e he) (LtE.irrefl e)
   ·exact h1
def putE (e:Ed):List Ed→List Ed
 | []=>[e]
 | f :: t=>if cmpE e f < 0 then e :: f :: t else if cmpE e f=0 then f :: t else f :: putE e t
theorem mem_putE {e x:Ed} {l:List Ed}:x∈putE e l↔x=e ∨ x∈l:=by
 induction l with
 | nil=>simp [putE]
 | cons f t ih =>
  unfold putE;split
  ·simp
  ·split
   ·rename_i h
    rw [cmpE_zero] at h;subst h;simp
   ·simp only [List.mem_cons,ih]
    constructor
    ·rintro (h | h | h)
     ·exact .inr (.inl h)
     ·exact .inl h
     ·exact .inr (.inr h)
    ·rintro (h | h | h)
     ·exact .inr (.inl h)
     ·exact .inl h
     ·exact .inr (.inr h)
theorem asc_putE {e:Ed} {l:List Ed} (h:Asc l):Asc (putE e l):=by
 induction l with
 | nil=>simp [putE,Asc]
 | cons f t ih =>
  obtain ⟨h1,h2⟩:=List.pairwise_cons.1 h;unfold putE;split
  ·rename_i hc
   have hc:=cmpE_neg.1 hc;refine List.pairwise_cons.2 ⟨fun x hx=>?_,h⟩;rcases List.mem_cons.1 hx with rfl | hx
   ·exact hc
   ·exact hc.trans (h1 x hx)
  ·split
   ·exact h
   ·rename_i hc hz
    refine List.pairwise_cons.2 ⟨fun x hx=>?_,ih h2⟩;rcases mem_putE.1 hx with rfl | hx
    ·rcases LtE.tri x f with h3 | h3 | h3
     ·exact absurd (cmpE_neg.2 h3) hc
     ·exact absurd (cmpE_zero.2 h3) hz
     ·exact h3
    ·exact h1 x hx
theorem putE_len (e:Ed) (l:List Ed):(putE e l).length≤l.length+1:=by
 induction l with
 | nil=>simp [putE]
 | cons f t ih =>
  unfold putE;split
  ·simp
  ·split
   ·simp
   ·simp only [List.length_cons];omega
def putAll (l es:List Ed):List Ed:=es.foldl (fun l e=>putE e l) l
def canon (es:List Ed):List Ed:=putAll [] es
theorem putAll_snoc (l es:List Ed) (e:Ed):putAll l (es++[e])=putE e (putAll l es):=by simp [putAll]
theorem mem_putAll {x:Ed} {l es:List Ed}:x∈putAll l es↔x∈l ∨ x∈es:=by
 induction es generalizing l with
 | nil=>simp [putAll]
 | cons e t ih =>
  have:putAll l (e :: t)=putAll (putE e l) t:=rfl;rw [this,ih,mem_putE];simp only [List.mem_cons];constructor
  ·rintro ((h | h) | h)
   ·exact .inr (.inl h)
   ·exact .inl h
   ·exact .inr (.inr h)
  ·rintro (h | h | h)
   ·exact .inl (.inr h)
   ·exact .inl (.inl h)
   ·exact .inr h
theorem asc_putAll {l es:List Ed} (h:Asc l):Asc (putAll l es):=by
 induction es generalizing l with
 | nil=>exact h
 | cons e t ih=>exact ih (asc_putE h)
theorem putAll_len (l es:List Ed):(putAll l es).length≤l.length+es.length:=by
 induction es generalizing l with
 | nil=>simp [putAll]
 | cons e t ih =>
  have:=ih (putE e l);have:=putE_len e l;have h:putAll l (e :: t)=putAll (putE e l) t:=rfl;rw [h];simp only [List.length_cons];omega
theorem mem_canon {x:Ed} {es:List Ed}:x∈canon es↔x∈es:=by simp [canon,mem_putAll]
theorem asc_canon (es:List Ed):Asc (canon es):=asc_putAll List.Pairwise.nil
theorem canon_len (es:List Ed):(canon es).length≤es.length:=by have:=putAll_len [] es;simpa [canon] using this
theorem canon_eq {es fs:List Ed} (h:Asc fs) (hm:∀ e,e∈fs↔e∈es):fs=canon es:=asc_ext h (asc_canon es) fun e=>(hm e).trans mem_canon.symm
theorem putAll_canon {l es:List Ed} (h:Asc l):putAll l es=canon (l++es):=canon_eq (asc_putAll h) fun e=>by rw [mem_putAll,List.mem_append]
theorem canon_congr {es fs:List Ed} (h:∀ e,e∈es↔e∈fs):canon es=canon fs:=canon_eq (asc_canon es) fun e=>mem_canon.trans (h e)
def edI (es:List Ed):List Int:=(es.map fun e=>[e.a,e.l,e.b]).flatten
theorem edI_len (es:List Ed):(edI es).length=es.length * 3:=by
 induction es with
 | nil=>rfl
 | cons m t ih=>simp [edI] at ih ⊢;omega
theorem edI_append (a b:List Ed):edI (a++b)=edI a++edI b:=by simp [edI]
theorem edI_cons (e:Ed) (t:List Ed):edI (e :: t)=e.a :: e.l :: e.b :: edI t:=by simp [edI]
theorem edI_one (e:Ed):edI [e]=[e.a,e.l,e.b]:=by simp [edI]
theorem edI_at {es:List Ed} {k:Nat} {e:Ed} (h:es[k]?=some e):(edI es)[k * 3]?=some e.a∧(edI es)[k * 3+1]?=some e.l∧(edI es)[k * 3+2]?=some e.b:=by
 induction es generalizing k with
 | nil=>simp at h
 | cons m t ih =>
  rw [edI_cons];cases k with
  | zero=>simp at h;subst h;simp
  | succ k =>
   have:=ih (by simpa using h);rw [show (k+1) * 3=k * 3+1+1+1 from by omega]
   simpa using this
theorem edI_take (es:List Ed) (k:Nat):edI (es.take k)=(edI es).take (k * 3):=by
 induction es generalizing k with
 | nil=>simp [edI]
 | cons m t ih =>
  cases k with
  | zero=>simp [edI]
  | succ k =>
   rw [List.take_succ_cons,edI_cons,edI_cons,ih,show (k+1) * 3=k * 3+1+1+1 from by omega];simp
theorem edI_drop (es:List Ed) (k:Nat):edI (es.drop k)=(edI es).drop (k * 3):=by
 induction es generalizing k with
 | nil=>simp [edI]
 | cons m t ih =>
  cases k with
  | zero=>simp
  | succ k =>
   rw [List.drop_succ_cons,edI_cons,ih,show (k+1) * 3=k * 3+1+1+1 from by omega];simp
def InG (r s:Int) (e:Ed):Prop:=0≤e.a∧e.a < s∧0≤e.b∧e.b < s∧1≤e.l∧e.l≤r
structure IsGr (r s:Int) (es:List Ed):Prop where
 rank:1≤r∧r≤3
 size:1≤s∧s≤40
 len:es.length≤120
 all:∀ e∈es,InG r s e
 asc:Asc es
def endOf (v x:Int) (e:Ed):Option Int:=if 0 < x∧e.l=x∧e.a=v then some e.b else if x < 0∧e.l = -x∧e.b=v then some e.a else none
def ends (es:List Ed) (v x:Int):List Int:=es.filterMap (endOf v x)
theorem mem_ends {es:List Ed} {v x u:Int}:u∈ends es v x↔∃ e∈es,endOf v x e=some u:=by simp [ends]
theorem ends_len (es:List Ed) (v x:Int):(ends es v x).length≤es.length:=List.length_filterMap_le _ _
theorem endOf_some {v x u:Int} {e:Ed}:endOf v x e=some u↔(0 < x∧e.l=x∧e.a=v∧e.b=u) ∨ (x < 0∧e.l = -x∧e.b=v∧e.a=u):=by
 unfold endOf;split
 ·rename_i h
  simp;omega
 ·split
  ·rename_i h h'
   simp;omega
  ·simp
   omega
def leastI:List Int→Int
 | []=>-1
 | x :: t=>t.foldl min x
theorem foldl_min_le (t:List Int) (x:Int):t.foldl min x≤x∧(∀ y∈t,t.foldl min x≤y)∧(t.foldl min x=x ∨ t.foldl min x∈t):=by
 induction t generalizing x with
 | nil=>simp
 | cons y t ih =>
  obtain ⟨h1,h2,h3⟩:=ih (min x y);simp only [List.foldl_cons];refine ⟨by omega,?_,?_⟩
  ·intro z hz
   rcases List.mem_cons.1 hz with rfl | hz
   ·omega
   ·exact h2 z hz
  ·rcases h3 with h3 | h3
   ·rcases Int.le_total x y with h | h
    ·left;rw [h3];omega
    ·right;rw [h3,show min x y=y by omega];simp
   ·right;exact List.mem_cons_of_mem _ h3
theorem leastI_mem {l:List Int} (h:l≠[]):leastI l∈l∧∀ y∈l,leastI l≤y:=by
 cases l with
 | nil=>exact absurd rfl h
 | cons x t =>
  obtain ⟨h1,h2,h3⟩:=foldl_min_le t x;refine ⟨?_,?_⟩
  ·rcases h3 with h3 | h3
   ·show t.foldl min x∈_;rw [h3];simp
   ·exact List.mem_cons_of_mem _ h3
  ·intro y hy
   rcases List.mem_cons.1 hy with rfl | hy
   ·exact h1
   ·exact h2 y hy
theorem leastI_eq {l:List Int} {x:Int} (h:x∈l) (hm:∀ y∈l,x≤y):leastI l=x:=by
 have h0:l≠[]:=by intro h0;subst h0;simp at h
 obtain ⟨h1,h2⟩:=leastI_mem h0;have:=h2 x h;have:=hm _ h1;omega
def nextV (es:List Ed) (v x:Int):Int:=leastI (ends es v x)
theorem nextV_none {es:List Ed} {v x:Int} (h:ends es v x=[]):nextV es v x = -1:=by rw [nextV,h];rfl
theorem nextV_edge {es:List Ed} {v x:Int} (h:0≤nextV es v x):∃ e∈es,endOf v x e=some (nextV es v x):=by
 by_cases h0:ends es v x=[]
 ·rw [nextV_none h0] at h;omega
 ·exact mem_ends.1 (leastI_mem h0).1
theorem nextV_cases {r s:Int} {es:List Ed} (hg:∀ e∈es,InG r s e) (v x:Int):nextV es v x = -1 ∨ (0≤nextV es v x∧nextV es v x < s):=by
 by_cases h0:ends es v x=[]
 ·exact .inl (nextV_none h0)
 ·right
  obtain ⟨e,he,h⟩:=mem_ends.1 (leastI_mem h0).1;have:=hg e he;unfold InG at this;have h':endOf v x e=some (nextV es v x):=h;rw [endOf_some] at h';omega
def Clash (e f:Ed):Prop:=e.l=f.l∧(e.a=f.a ∨ e.b=f.b)
instance (e f:Ed):Decidable (Clash e f):=by unfold Clash;infer_instance
theorem Clash.symm {e f:Ed} (h:Clash e f):Clash f e:=by unfold Clash at *;omega
structure IsFol (r s:Int) (es:List Ed):Prop where
 gr:IsGr r s es
 fol:es.Pairwise fun e f=>¬ Clash e f
def foldsAB (e f:Ed):List (Int × Int) :=
 if e.l=f.l then (if e.a=f.a then [(min e.b f.b,max e.b f.b)] else [])++(if e.b=f.b then [(min e.a f.a,max e.a f.a)] else []) else []
def folds:List Ed→List (Int × Int)
 | []=>[]
 | e :: t=>t.flatMap (foldsAB e)++folds t
theorem foldsAB_nil {e f:Ed}:foldsAB e f=[]↔¬ Clash e f:=by
 unfold foldsAB Clash;by_cases h1:e.l=f.l <;> by_cases h2:e.a=f.a <;> by_cases h3:e.b=f.b <;> simp [h1,h2,h3]
theorem folds_nil {es:List Ed}:folds es=[]↔es.Pairwise fun e f=>¬ Clash e f:=by
 induction es with
 | nil=>simp [folds]
 | cons e t ih =>
  rw [List.pairwise_cons,folds,List.append_eq_nil_iff,ih,List.flatMap_eq_nil_iff];simp only [foldsAB_nil]
theorem mem_foldsAB {r s:Int} {e f:Ed} {p:Int × Int} (he:InG r s e) (hf:InG r s f) (hne:e≠f) (h:p∈foldsAB e f):0≤p.1∧p.1 < p.2∧p.2 < s:=by
 unfold foldsAB at h;unfold InG at he hf;have hd:¬ (e.a=f.a∧e.l=f.l∧e.b=f.b):=fun ⟨h1,h2,h3⟩=>hne (Ed.ext' h1 h2 h3);split at h
 ·rcases List.mem_append.1 h with h | h
  ·split at h
   ·simp at h;subst h;simp only [];omega
   ·simp at h
  ·split at h
   ·simp at h;subst h;simp only [];omega
   ·simp at h
 ·simp at h
theorem mem_folds {r s:Int} {es:List Ed} {p:Int × Int} (hg:∀ e∈es,InG r s e) (ha:Asc es) (h:p∈folds es):0≤p.1∧p.1 < p.2∧p.2 < s:=by
 induction es with
 | nil=>simp [folds] at h
 | cons e t ih =>
  obtain ⟨h1,h2⟩:=List.pairwise_cons.1 ha;rcases List.mem_append.1 h with h | h
  ·obtain ⟨f,hf,h⟩:=List.mem_flatMap.1 h
   exact mem_foldsAB (hg e (by simp)) (hg f (by simp [hf])) (h1 f hf).ne h
  ·exact ih (fun f hf=>hg f (by simp [hf])) h2 h
def foldV (p:Int × Int) (v:Int):Int:=if v=p.2 then p.1 else if p.2 < v then v - 1 else v
def foldE (p:Int × Int) (e:Ed):Ed:=⟨foldV p e.a,e.l,foldV p e.b⟩
def mergeE (p:Int × Int) (es:List Ed):List Ed:=canon (es.map (foldE p))
theorem mergeE_gr {r s:Int} {es:List Ed} {p:Int × Int} (hg:IsGr r s es) (h0:0≤p.1) (h1:p.1 < p.2) (h2:p.2 < s):IsGr r (s - 1) (mergeE p es):=by
 refine ⟨hg.rank,?_,?_,?_,asc_canon _⟩
 ·have:=hg.size;omega
 ·have:=canon_len (es.map (foldE p))
  have:=hg.len;simp at *;unfold mergeE;omega
 ·intro e he
  obtain ⟨f,hf,rfl⟩:=List.mem_map.1 (mem_canon.1 he);have h3:=hg.all f hf;have hv:∀ v:Int,0≤v→v < s→0≤foldV p v∧foldV p v < s - 1:=by
   intro v hv0 hv1;unfold foldV;split
   ·omega
   ·split <;> omega
  unfold InG at *;have:=hv f.a (by omega) (by omega);have:=hv f.b (by omega) (by omega);simp only [foldE];omega
def foldA:Nat→Int × List Ed→Int × List Ed
 | 0,g=>g
 | n+1,g=>match folds g.2 with
  | []=>g
  | p :: _=>foldA n (g.1 - 1,mergeE p g.2)
theorem foldA_nil {n:Nat} {g:Int × List Ed} (h:folds g.2=[]):foldA n g=g:=by
 cases n with
 | zero=>rfl
 | succ n=>simp [foldA,h]
theorem foldA_cons {n:Nat} {g:Int × List Ed} {p:Int × Int} {t:List (Int × Int)} (h:folds g.2=p :: t):foldA (n+1) g=foldA n (g.1 - 1,mergeE p g.2):=by simp [foldA,h]
theorem foldA_gr {r:Int}:∀ (n:Nat) {g:Int × List Ed},IsGr r g.1 g.2→IsGr r (foldA n g).1 (foldA n g).2
 | 0,g,h=>h
 | n+1,g,h=>by
  cases hf:folds g.2 with
  | nil=>rw [foldA_nil hf];exact h
  | cons p t =>
   rw [foldA_cons hf];obtain ⟨h0,h1,h2⟩:=mem_folds h.all h.asc (p:=p) (by rw [hf];simp);exact foldA_gr n (mergeE_gr h h0 h1 h2)
theorem foldA_fol:∀ (n:Nat) {r:Int} {g:Int × List Ed},IsGr r g.1 g.2→g.1≤n→folds (foldA n g).2=[]
 | 0,r,g,h,hn=>by have:=h.size;omega
 | n+1,r,g,h,hn=>by
  cases hf:folds g.2 with
  | nil=>rw [foldA_nil hf];exact hf
  | cons p t =>
   rw [foldA_cons hf];obtain ⟨h0,h1,h2⟩:=mem_folds h.all h.asc (p:=p) (by rw [hf];simp);exact foldA_fol n (mergeE_gr h h0 h1 h2) (by simp only [];omega)
def idxI (order:List Int) (v:Int):Int:=if v∈order then (order.idxOf v:Int) else -1
theorem idxI_neg {order:List Int} {v:Int} (h:v ∉ order):idxI order v = -1:=by simp [idxI,h]
theorem idxI_lt {order:List Int} {v:Int} (h:0≤idxI order v):idxI order v < order.length:=by
 unfold idxI at *;split
 ·rename_i hm
  have:=List.idxOf_lt_length_iff.2 hm;omega
 ·rename_i hm
  rw [if_neg hm] at h;omega
theorem idxI_at {order:List Int} {k:Nat} {v:Int} (hn:order.Nodup) (h:order[k]?=some v):idxI order v=k:=by
 have hm:v∈order:=List.mem_of_getElem? h;obtain ⟨hk,h'⟩:=List.getElem?_eq_some_iff.1 h;rw [idxI,if_pos hm,← h',hn.idxOf_getElem k hk]
def partOf (order:List Int) (e:Ed):Option Ed:=if 0≤idxI order e.a∧0≤idxI order e.b then some ⟨idxI order e.a,e.l,idxI order e.b⟩ else none
def partE (order:List Int) (es:List Ed):List Ed:=canon (es.filterMap (partOf order))
theorem partE_gr {r s:Int} {es:List Ed} {order:List Int} (hg:IsGr r s es) (h0:order≠[]) (h40:order.length≤40):IsGr r order.length (partE order es):=by
 have hpos:0 < order.length:=List.length_pos_iff.2 h0;refine ⟨hg.rank,by omega,?_,?_,asc_canon _⟩
 ·have h1:=canon_len (es.filterMap (partOf order))
  have h2:=List.length_filterMap_le (partOf order) es;have h3:=hg.len;unfold partE;omega
 ·intro e he
  obtain ⟨f,hf,h⟩:=List.mem_filterMap.1 (mem_canon.1 he);have h3:=hg.all f hf;unfold partOf at h;split at h
  ·rename_i hc
   injection h with h
   subst h;have:=idxI_lt hc.1;have:=idxI_lt hc.2;unfold InG at *;simp only [];omega
  ·cases h
section
inductive Conn (es:List Ed) (v:Int):Int→Prop
 | here:Conn es v v
 | out {e:Ed}:e∈es→Conn es v e.a→Conn es v e.b
 | inn {e:Ed}:e∈es→Conn es v e.b→Conn es v e.a
theorem conn_iff {es:List Ed} {v:Int} {P:Int→Prop} (h0:P v) (hc:∀ e∈es,P e.a↔P e.b) (hs:∀ u,P u→Conn es v u) (u:Int):P u↔Conn es v u:=by
 refine ⟨hs u,fun h=>?_⟩
 induction h with
 | here=>exact h0
 | out he _ ih=>exact (hc _ he).1 ih
 | inn he _ ih=>exact (hc _ he).2 ih
def degE (v:Int) (e:Ed):Nat:=(if e.a=v then 1 else 0)+(if e.b=v then 1 else 0)
def deg (es:List Ed) (v:Int):Nat:=(es.map (degE v)).sum
theorem deg_take_succ {es:List Ed} {k:Nat} {e:Ed} (h:es[k]?=some e) (v:Int):deg (es.take (k+1)) v=deg (es.take k) v+degE v e:=by
 obtain ⟨hk,h'⟩:=List.getElem?_eq_some_iff.1 h;rw [List.take_succ_eq_append_getElem hk,h'];simp [deg]
theorem deg_le (es:List Ed) (v:Int):deg es v≤2 * es.length:=by
 induction es with
 | nil=>simp [deg]
 | cons e t ih =>
  have h:deg (e :: t) v=degE v e+deg t v:=by simp [deg]
  have:degE v e≤2:=by unfold degE;split <;> split <;> omega
  simp only [List.length_cons];omega
def Bad (es:List Ed) (v:Int):Prop:=deg es v < 2 ∨ ¬ Conn es 0 v
open Classical in
noncomputable def leaf (s:Int) (es:List Ed):Option Nat:=((List.range s.toNat).drop 1).find? fun v=>decide (Bad es (v:Int))
theorem find_drop_range {p:Nat→Bool} (n k:Nat) (hk:k < n) (hp:p k=true):∀ m,m≤k→(∀ u,m≤u→u < k→p u=false)→((List.range n).drop m).find? p=some k:=by
 intro m hm;obtain ⟨d,hd⟩:∃ d,k=m+d:=⟨k - m,by omega⟩
 induction d generalizing m with
 | zero =>
  intro _;obtain rfl:k=m:=by omega
  rw [List.drop_eq_getElem_cons (by simpa using hk)];simp [hp]
 | succ d ih =>
  intro hu;rw [List.drop_eq_getElem_cons (by simp;omega)];have h1:=hu m (Nat.le_refl _) (by omega);simp only [List.getElem_range,List.find?_cons,h1];exact ih (m+1) (by omega) (by omega) (fun u h2 h3=>hu u (by omega) h3)
theorem leaf_some {s:Int} {es:List Ed} {v:Nat} (h1:1≤v) (h2:(v:Int) < s) (hb:Bad es v) (hu:∀ u:Nat,1≤u→u < v→¬ Bad es u):leaf s es=some v :=
 find_drop_range _ v (by omega) (by simpa using hb) 1 h1 fun u h h'=>by simpa using hu u h h'
theorem leaf_none {s:Int} {es:List Ed} (hu:∀ u:Nat,1≤u→(u:Int) < s→¬ Bad es u):leaf s es=none:=by
 refine List.find?_eq_none.2 fun u hm=>?_;have h1:u < s.toNat:=List.mem_range.1 (List.mem_of_mem_drop hm);have h2:1≤u:=by
  obtain ⟨k,hk,h⟩:=List.mem_iff_getElem.1 hm;simp at h;omega
 simpa using hu u h2 (by omega)
theorem leaf_spec {s:Int} {es:List Ed} {v:Nat} (h:leaf s es=some v):1≤v∧(v:Int) < s∧Bad es v:=by
 have hm:=List.mem_of_find?_eq_some h;have h1:v < s.toNat:=List.mem_range.1 (List.mem_of_mem_drop hm);have h3:Bad es v:=by simpa using List.find?_some h
 refine ⟨?_,by omega,h3⟩;obtain ⟨k,hk,h⟩:=List.mem_iff_getElem.1 hm;simp at h;omega
theorem leaf_cases (s:Int) (es:List Ed):(leaf s es=none∧∀ u:Nat,1≤u→(u:Int) < s→¬ Bad es u) ∨ ∃ v:Nat,leaf s es=some v∧1≤v∧(v:Int) < s∧Bad es v∧∀ u:Nat,1≤u→u < v→¬ Bad es u:=by
 by_cases h:∃ v:Nat,1≤v∧(v:Int) < s∧Bad es v
 ·right
  obtain ⟨v,hv⟩:=h
  induction v using Nat.strongRecOn with
  | _ v ih =>
   by_cases hu:∃ u:Nat,1≤u∧u < v∧Bad es u
   ·obtain ⟨u,h1,h2,h3⟩:=hu
    exact ih u h2 ⟨h1,by omega,h3⟩
   ·have hall:∀ u:Nat,1≤u→u < v→¬ Bad es u:=fun u h1 h2 h3=>hu ⟨u,h1,h2,h3⟩
    exact ⟨v,leaf_some hv.1 hv.2.1 hv.2.2 hall,hv.1,hv.2.1,hv.2.2,hall⟩
 ·left
  have hall:∀ u:Nat,1≤u→(u:Int) < s→¬ Bad es u:=fun u h1 h2 h3=>h ⟨u,h1,h2,h3⟩;exact ⟨leaf_none hall,hall⟩
def but (v k:Nat):List Int:=((List.range k).filter (· != v)).map Int.ofNat
theorem but_succ (v k:Nat):but v (k+1)=if k=v then but v k else but v k++[(k:Int)]:=by
 unfold but;rw [List.range_succ,List.filter_append];by_cases h:k=v
 ·simp [h]
 ·simp [h]
theorem but_le (v:Nat):∀ k,k≤v→(but v k).length=k
 | 0,_=>by simp [but]
 | k+1,h=>by rw [but_succ,if_neg (by omega)];simp [but_le v k (by omega)]
theorem but_len (v:Nat) {k:Nat} (h:v < k):(but v k).length=k - 1:=by
 induction k with
 | zero=>omega
 | succ k ih =>
  rw [but_succ];by_cases hk:k=v
  ·rw [if_pos hk,hk,but_le v v (Nat.le_refl _)];omega
  ·rw [if_neg hk];simp;rw [ih (by omega)];omega
theorem but_nodup (v k:Nat):(but v k).Nodup:=by
 unfold but;refine List.Pairwise.map _ (fun a b h=>?_) (List.Pairwise.filter _ List.nodup_range);intro he;exact h (by injection he)
theorem mem_but {v k:Nat} {x:Int}:x∈but v k↔∃ u:Nat,u < k∧u≠v∧x=(u:Int):=by
 unfold but;simp only [List.mem_map,List.mem_filter,List.mem_range,bne_iff_ne];constructor
 ·rintro ⟨u,⟨h1,h2⟩,rfl⟩;exact ⟨u,h1,h2,rfl⟩
 ·rintro ⟨u,h1,h2,rfl⟩;exact ⟨u,⟨h1,h2⟩,rfl⟩
theorem but_range {v k:Nat} {x:Int} (h:x∈but v k):0≤x∧x < k:=by
 obtain ⟨u,h1,h2,rfl⟩:=mem_but.1 h;omega
def cutV (g:Int × List Ed) (v:Nat):Int × List Ed:=(((but v g.1.toNat).length:Int),partE (but v g.1.toNat) g.2)
theorem cutV_size {g:Int × List Ed} {v:Nat} (h:(v:Int) < g.1):(cutV g v).1=g.1 - 1:=by
 show ((but v g.1.toNat).length:Int)=_
 rw [but_len v (by omega)];omega
theorem cutV_gr {r:Int} {g:Int × List Ed} {v:Nat} (hg:IsGr r g.1 g.2) (h1:1≤v) (h2:(v:Int) < g.1):IsGr r (cutV g v).1 (cutV g v).2:=by
 have hl:=but_len v (show v < g.1.toNat by omega);have:=hg.size;refine partE_gr hg ?_ (by omega);intro h0;rw [h0] at hl;simp at hl;omega
noncomputable def trimA:Nat→Int × List Ed→Int × List Ed
 | 0,g=>g
 | n+1,g=>match leaf g.1 g.2 with
  | none=>g
  | some v=>trimA n (cutV g v)
theorem trimA_none {n:Nat} {g:Int × List Ed} (h:leaf g.1 g.2=none):trimA n g=g:=by
 cases n with
 | zero=>rfl
 | succ n=>simp [trimA,h]
theorem trimA_some {n:Nat} {g:Int × List Ed} {v:Nat} (h:leaf g.1 g.2=some v):trimA (n+1) g=trimA n (cutV g v):=by simp [trimA,h]
theorem trimA_gr {r:Int}:∀ (n:Nat) {g:Int × List Ed},IsGr r g.1 g.2→IsGr r (trimA n g).1 (trimA n g).2
 | 0,g,h=>h
 | n+1,g,h=>by
  cases hf:leaf g.1 g.2 with
  | none=>rw [trimA_none hf];exact h
  | some v =>
   rw [trimA_some hf];obtain ⟨h1,h2,_⟩:=leaf_spec hf;exact trimA_gr n (cutV_gr h h1 h2)
theorem trimA_size:∀ (n:Nat) {g:Int × List Ed},(trimA n g).1≤g.1
 | 0,g=>Int.le_refl _
 | n+1,g=>by
  cases hf:leaf g.1 g.2 with
  | none=>rw [trimA_none hf];exact Int.le_refl _
  | some v =>
   rw [trimA_some hf];obtain ⟨h1,h2,_⟩:=leaf_spec hf;have:=trimA_size n (g:=cutV g v);rw [cutV_size h2] at this;omega
theorem trimA_same {n:Nat} {g:Int × List Ed} (hn:0 < n):(trimA n g).1=g.1↔leaf g.1 g.2=none:=by
 constructor
 ·intro h
  cases hf:leaf g.1 g.2 with
  | none=>rfl
  | some v =>
   obtain ⟨m,rfl⟩:∃ m,n=m+1:=⟨n - 1,by omega⟩
   rw [trimA_some hf] at h;obtain ⟨h1,h2,_⟩:=leaf_spec hf;have:=trimA_size m (g:=cutV g v);rw [cutV_size h2] at this;omega
 ·intro h
  rw [trimA_none h]
def lets:Nat→List Int
 | 0=>[]
 | n+1=>lets n++[((n:Int)+1), -((n:Int)+1)]
theorem lets_len (n:Nat):(lets n).length=2 * n:=by
 induction n with
 | zero=>rfl
 | succ n ih=>simp [lets,ih];omega
theorem mem_lets {n:Nat} {x:Int}:x∈lets n↔x≠0∧-(n:Int)≤x∧x≤n:=by
 induction n with
 | zero=>simp [lets];omega
 | succ n ih =>
  simp only [lets,List.mem_append,ih,List.mem_cons,List.not_mem_nil,or_false];omega
abbrev BS:=List (Int × List Int)
def bfsStep (es:List Ed) (u:Int) (w:List Int) (st:BS) (x:Int):BS :=
 if nextV es u x < 0 ∨ nextV es u x∈st.map Prod.fst then st else st++[(nextV es u x,w++[x])]
def bfsRow (es:List Ed) (L:List Int) (p:Int × List Int) (st:BS):BS:=L.foldl (bfsStep es p.1 p.2) st
def bfsSt (es:List Ed) (L:List Int) (v:Int):Nat→BS
 | 0=>[(v,[])]
 | i+1=>match (bfsSt es L v i)[i]? with
  | none=>bfsSt es L v i
  | some p=>bfsRow es L p (bfsSt es L v i)
def bfs (es:List Ed) (L:List Int) (v:Int):BS:=bfsSt es L v 41
theorem bfsStep_pre (es:List Ed) (u:Int) (w:List Int) (st:BS) (x:Int):st <+: bfsStep es u w st x:=by
 unfold bfsStep;split
 ·exact List.prefix_refl _
 ·exact List.prefix_append _ _
theorem bfsRow_pre (es:List Ed) (L:List Int) (p:Int × List Int) (st:BS):st <+: bfsRow es L p st:=by
 unfold bfsRow
 induction L generalizing st with
 | nil=>exact List.prefix_refl _
 | cons x t ih=>exact (bfsStep_pre es p.1 p.2 st x).trans (ih _)
theorem bfsSt_pre (es:List Ed) (L:List Int) (v:Int) (i:Nat):bfsSt es L v i <+: bfsSt es L v (i+1):=by
 show _ <+: (match (bfsSt es L v i)[i]? with | none=>bfsSt es L v i | some p=>bfsRow es L p (bfsSt es L v i))
 split
 ·exact List.prefix_refl _
 ·exact bfsRow_pre es L _ _
theorem bfsSt_pre' (es:List Ed) (L:List Int) (v:Int) (i d:Nat):bfsSt es L v i <+: bfsSt es L v (i+d):=by
 induction d with
 | zero=>exact List.prefix_refl _
 | succ d ih=>exact ih.trans (bfsSt_pre es L v (i+d))
theorem prefix_get {α:Type} {xs ys:List α} (h:xs <+: ys) {k:Nat} {a:α} (hk:xs[k]?=some a):ys[k]?=some a:=by
 obtain ⟨t,rfl⟩:=h;rw [List.getElem?_append_left (List.getElem?_eq_some_iff.1 hk).1];exact hk
theorem bfsSt_stop {es:List Ed} {L:List Int} {v:Int} {i:Nat} (h:(bfsSt es L v i).length≤i) (d:Nat):bfsSt es L v (i+d)=bfsSt es L v i:=by
 induction d with
 | zero=>rfl
 | succ d ih =>
  show (match (bfsSt es L v (i+d))[i+d]? with | none=>bfsSt es L v (i+d) | some p=>bfsRow es L p (bfsSt es L v (i+d)))=_
  rw [ih,List.getElem?_eq_none (by omega)]
structure BfsOk (s:Int) (L:List Int) (st:BS):Prop where
 nd:(st.map Prod.fst).Nodup
 rng:∀ p∈st,0≤p.1∧p.1 < s
 wl:∀ (j:Nat) (p:Int × List Int),st[j]?=some p→p.2.length≤j
 wm:∀ p∈st,∀ x∈p.2,x∈L
theorem BfsOk.len {s:Int} {L:List Int} {st:BS} (h:BfsOk s L st) (hs:0≤s):(st.length:Int)≤s:=by
 have h1:∀ (L:Nat) (l:List Int),l.Nodup→(∀ v∈l,0≤v∧v < (L:Int))→l.length≤L:=by
  intro L
  induction L with
  | zero =>
   intro l _ h;cases l with
   | nil=>simp
   | cons x t=>have:=h x (by simp);omega
  | succ L ih =>
   intro l hn h;have h2:=ih (l.erase (L:Int)) (hn.erase _) fun v hv=>by
    have h3:=h v (List.mem_of_mem_erase hv);have h4:v≠(L:Int):=((List.Nodup.mem_erase_iff hn).1 hv).1;omega
   have h5:=List.length_erase (a:=(L:Int)) (l:=l);split at h5 <;> omega
 have:=h1 s.toNat (st.map Prod.fst) h.nd (fun v hv=>by
  obtain ⟨p,hp,rfl⟩:=List.mem_map.1 hv;have:=h.rng p hp;omega)
 simp at this;omega
theorem BfsOk.start {s v:Int} (L:List Int) (h0:0≤v) (h1:v < s):BfsOk s L [(v,[])]:=by
 refine ⟨by simp,?_,?_,?_⟩
 ·intro p hp;simp at hp;subst hp;exact ⟨h0,h1⟩
 ·intro j p hp
  cases j with
  | zero=>simp at hp;subst hp;simp
  | succ j=>simp at hp
 ·intro p hp x hx;simp at hp;subst hp;simp at hx
theorem BfsOk.step {r s:Int} {es:List Ed} {L:List Int} {st:BS} (hg:∀ e∈es,InG r s e) (h:BfsOk s L st) {i:Nat} {p:Int × List Int} (hp:st[i]?=some p) {x:Int} (hx:x∈L):BfsOk s L (bfsStep es p.1 p.2 st x):=by
 unfold bfsStep;split
 ·exact h
 ·rename_i hc
  have hc1:¬ nextV es p.1 x < 0:=fun h=>hc (.inl h);have hc2:nextV es p.1 x ∉ st.map Prod.fst:=fun h=>hc (.inr h);have hr:=nextV_cases hg p.1 x;have hi:=(List.getElem?_eq_some_iff.1 hp).1;refine ⟨?_,?_,?_,?_⟩
  ·rw [List.map_append,List.nodup_append]
   refine ⟨h.nd,by simp,?_⟩;intro a ha b hb;simp at hb;subst hb;intro e;subst e;exact hc2 ha
  ·intro q hq
   rcases List.mem_append.1 hq with hq | hq
   ·exact h.rng q hq
   ·simp at hq;subst hq;simp only [];omega
  ·intro j q hq
   rcases Nat.lt_or_ge j st.length with hj | hj
   ·rw [List.getElem?_append_left hj] at hq;exact h.wl j q hq
   ·rw [List.getElem?_append_right hj] at hq
    rcases Nat.eq_zero_or_pos (j - st.length) with h0 | h0
    ·rw [h0] at hq
     simp at hq;subst hq;have:=h.wl i p hp;simp only [List.length_append,List.length_cons,List.length_nil];omega
    ·rw [List.getElem?_eq_none (by simp;omega)] at hq;cases hq
  ·intro q hq y hy
   rcases List.mem_append.1 hq with hq | hq
   ·exact h.wm q hq y hy
   ·simp at hq
    subst hq;rcases List.mem_append.1 hy with hy | hy
    ·exact h.wm p (List.mem_of_getElem? hp) y hy
    ·simp at hy;subst hy;exact hx
theorem BfsOk.row {r s:Int} {es:List Ed} {L:List Int} (hg:∀ e∈es,InG r s e) {i:Nat} {p:Int × List Int}:∀ (K:List Int),(∀ x∈K,x∈L)→∀ {st:BS},BfsOk s L st→st[i]?=some p→BfsOk s L (bfsRow es K p st)
 | [],_,st,h,_=>h
 | x :: K,hK,st,h,hp=>BfsOk.row hg K (fun y hy=>hK y (by simp [hy])) (h.step hg hp (hK x (by simp))) (prefix_get (bfsStep_pre es p.1 p.2 st x) hp)
theorem bfsSt_ok {r s v:Int} {es:List Ed} {L:List Int} (hg:∀ e∈es,InG r s e) (h0:0≤v) (h1:v < s) (i:Nat):BfsOk s L (bfsSt es L v i):=by
 induction i with
 | zero=>exact BfsOk.start L h0 h1
 | succ i ih =>
  show BfsOk s L (match (bfsSt es L v i)[i]? with | none=>bfsSt es L v i | some p=>bfsRow es L p (bfsSt es L v i))
  split
  ·exact ih
  ·rename_i p hp
   exact BfsOk.row hg L (fun x hx=>hx) ih hp
theorem bfs_eq {r s v:Int} {es:List Ed} {L:List Int} (hg:∀ e∈es,InG r s e) (h0:0≤v) (h1:v < s) (hs:s≤40) {i:Nat} (h:(bfsSt es L v i).length=i):bfs es L v=bfsSt es L v i:=by
 have:=(bfsSt_ok (L:=L) hg h0 h1 i).len (by omega);have h2:=bfsSt_stop (show (bfsSt es L v i).length≤i by omega) (41 - i);rw [← h2,show i+(41 - i)=41 by omega]
 rfl
theorem bfs_ok {r s v:Int} {es:List Ed} {L:List Int} (hg:∀ e∈es,InG r s e) (h0:0≤v) (h1:v < s):BfsOk s L (bfs es L v):=bfsSt_ok hg h0 h1 41
theorem bfs_ne (es:List Ed) (L:List Int) (v:Int):bfs es L v≠[]:=by
 intro h;obtain ⟨t,ht⟩:=bfsSt_pre' es L v 0 41;rw [show (0:Nat)+41=41 from rfl,show bfsSt es L v 41=bfs es L v from rfl,h] at ht;simp [bfsSt] at ht
def ordE (r:Int) (es:List Ed) (v:Int):List Int:=(bfs es (lets r.toNat) v).map Prod.fst
open Classical in
noncomputable def canonG (r:Int) (g:Int × List Ed):Int × List Ed:=if IsFol r g.1 g.2 then (((ordE r g.2 0).length:Int),partE (ordE r g.2 0) g.2) else g
noncomputable def coreA (r:Int) (g:Int × List Ed):Int × List Ed:=canonG r (trimA 40 (foldA 40 g))
structure IsCor (r s:Int) (es:List Ed):Prop where
 fol:IsFol r s es
 leaf:leaf s es=none
 canon:canonG r (s,es)=(s,es)
theorem ordE_len {r s v:Int} {es:List Ed} (hg:IsGr r s es) (h0:0≤v) (h1:v < s):0 < (ordE r es v).length∧((ordE r es v).length:Int)≤s∧(ordE r es v).Nodup∧∀ x∈ordE r es v,0≤x∧x < s:=by
 have h:=bfs_ok (L:=lets r.toNat) hg.all h0 h1;refine ⟨?_,?_,h.nd,?_⟩
 ·unfold ordE
  rw [List.length_map];exact List.length_pos_iff.2 (bfs_ne _ _ _)
 ·unfold ordE
  rw [List.length_map];exact h.len (by omega)
 ·intro x hx
  obtain ⟨p,hp,rfl⟩:=List.mem_map.1 hx;exact h.rng p hp
theorem canonG_gr {r:Int} {g:Int × List Ed} (hg:IsGr r g.1 g.2):IsGr r (canonG r g).1 (canonG r g).2:=by
 unfold canonG;split
 ·have hs:=hg.size
  have h:=ordE_len hg (v:=0) (Int.le_refl _) (by omega);refine partE_gr hg ?_ (by omega);intro h0;rw [h0] at h;simp at h
 ·exact hg
theorem coreA_gr {r:Int} {g:Int × List Ed} (hg:IsGr r g.1 g.2):IsGr r (coreA r g).1 (coreA r g).2:=canonG_gr (trimA_gr 40 (foldA_gr 40 hg))
theorem IsCor.gr {r s:Int} {es:List Ed} (h:IsCor r s es):IsGr r s es:=h.fol.gr
end
theorem nodup_le:∀ (L:Nat) (l:List Int),l.Nodup→(∀ v∈l,0≤v∧v < (L:Int))→l.length≤L:=by
 intro L
 induction L with
 | zero =>
  intro l _ h;cases l with
  | nil=>simp
  | cons a t=>have:=h a List.mem_cons_self;omega
 | succ L ih =>
  intro l hn h;by_cases hm:(L:Int)∈l
  ·have h1:=ih (l.erase (L:Int)) (hn.erase _) (fun v hv=>by
    have hv2:=List.mem_of_mem_erase hv;have h3:=h v hv2;have h4:v≠(L:Int):=fun e=>by subst e;exact (hn.not_mem_erase) hv
    omega)
   rw [List.length_erase_of_mem hm] at h1;omega
  ·have h1:=ih l hn (fun v hv=>by
    have h3:=h v hv;have h4:v≠(L:Int):=fun e=>by subst e;exact hm hv
    omega)
   omega
def placeL (n:Nat) (ord:List Int):List Int:=(List.range n).map fun (v:Nat)=>idxI ord (v:Int)
theorem placeL_len (n:Nat) (ord:List Int):(placeL n ord).length=n:=by simp [placeL]
theorem placeL_nil (n:Nat):placeL n []=List.replicate n (-1):=by
 unfold placeL;rw [List.eq_replicate_iff];refine ⟨by simp,fun b hb=>?_⟩;obtain ⟨v, -,rfl⟩:=List.mem_map.1 hb;exact idxI_neg (by simp)
theorem placeL_get {n j:Nat} (ord:List Int) (h:j < n):(placeL n ord)[j]?=some (idxI ord (j:Int)):=by simp [placeL,h]
theorem idxI_snoc {xs:List Int} {x:Int} (h:x ∉ xs) (v:Int):idxI (xs++[x]) v=if v=x then (xs.length:Int) else idxI xs v:=by
 unfold idxI;by_cases hv:v=x
 ·subst hv
  rw [if_pos (by simp),if_pos rfl,List.idxOf_append,if_neg h];simp
 ·rw [if_neg hv]
  by_cases hm:v∈xs
  ·rw [if_pos (by simp [hm]),if_pos hm,List.idxOf_append,if_pos hm]
  ·rw [if_neg (by simp [hm,hv]),if_neg hm]
theorem placeL_set {n m k:Nat} {ord:List Int} (hn:ord.Nodup) (hk:ord[k]?=some (m:Int)) (hm:m < n):(placeL n (ord.take k)).set m (k:Int)=placeL n (ord.take (k+1)):=by
 obtain ⟨hkl,hk'⟩:=List.getElem?_eq_some_iff.1 hk;have ht:ord.take (k+1)=ord.take k++[(m:Int)]:=by rw [List.take_succ_eq_append_getElem hkl,hk']
 have hnm:(m:Int) ∉ ord.take k:=by
  rw [← List.take_append_drop (k+1) ord,ht] at hn;exact fun h=>(List.nodup_append.1 (List.nodup_append.1 hn).1).2.2 _ h _ (by simp) rfl
 have hl:(ord.take k).length=k:=by rw [List.length_take];omega
 apply List.ext_getElem?;intro j;rw [ht];by_cases hj:j < n
 ·rw [placeL_get _ hj,idxI_snoc hnm]
  by_cases hjm:m=j
  ·subst hjm
   rw [List.getElem?_set_self (by rw [placeL_len];exact hj),if_pos rfl,hl]
  ·rw [List.getElem?_set_ne hjm,placeL_get _ hj,if_neg (by omega)]
 ·rw [List.getElem?_eq_none (by rw [List.length_set,placeL_len];omega),List.getElem?_eq_none (by rw [placeL_len];omega)]
def placeM (n:Nat) (ord:List Int):List Int:=(placeL n ord).map (·+1)
theorem placeM_nil (n:Nat):placeM n []=List.replicate n 0:=by simp [placeM,placeL_nil]
theorem placeM_get {n j:Nat} (ord:List Int) (h:j < n):(placeM n ord)[j]?=some (idxI ord (j:Int)+1):=by simp [placeM,placeL_get ord h]
theorem placeM_set {n m k:Nat} {ord:List Int} (hn:ord.Nodup) (hk:ord[k]?=some (m:Int)) (hm:m < n):(placeM n (ord.take k)).set m ((k:Int)+1)=placeM n (ord.take (k+1)):=by
 unfold placeM;rw [← placeL_set hn hk hm,List.map_set]
theorem not_in_take {k:Nat} {x:Int} {ord:List Int} (hn:ord.Nodup) (hk:ord[k]?=some x):x ∉ ord.take k:=by
 obtain ⟨hkl,hk'⟩:=List.getElem?_eq_some_iff.1 hk;have ht:ord.take (k+1)=ord.take k++[x]:=by rw [List.take_succ_eq_append_getElem hkl,hk']
 rw [← List.take_append_drop (k+1) ord,ht] at hn;exact fun h=>(List.nodup_append.1 (List.nodup_append.1 hn).1).2.2 _ h _ (by simp) rfl
end Go.Proofs.YtkimajabegojoaaGreat
namespace Go.Proofs
open Go.Shelf
def Tryz.lays215_ren:Go.Shelf.Ren:=⟨fun | 215=>296 | n=>n,fun | 3=>3 | 4=>4 | n=>n,fun | n=>n⟩
theorem Tryz.lays215:Go.Proofs.Lays.n215 Tryz.prog Tryz.lays215_ren:={
 mixed:=by kernel_rfl
 f215:=Tryz.func296.trans (congrArg some (by kernel_rfl))
 t3:=Tryz.underlying3
 a3:=Tryz.isAgg3
 z3:=Tryz.sizeOf3
 v3:=Tryz.zeroValue3
 t4:=Tryz.underlying4
 a4:=Tryz.isAgg4
 z4:=Tryz.sizeOf4
 v4:=Tryz.zeroValue4 }
def Tryz.lays189_ren:Go.Shelf.Ren:=⟨fun | 189=>248 | 125=>251 | 257=>262 | 128=>271 | 129=>272 | 294=>278 | 295=>279 | 296=>280 | 297=>281 | 298=>282 | 299=>283 | 216=>284 | 300=>285 | 301=>286 | 328=>293 | 329=>288 | 330=>289 | 331=>294 | 332=>295 | 215=>296 | 343=>298 | n=>n,fun | 28=>44 | 3=>3 | 46=>187 | 0=>0 | 51=>209 | 53=>211 | 4=>4 | 183=>203 | 182=>202 | 131=>127 | 5=>5 | 9=>9 | 218=>221 | 222=>225 | 228=>231 | 229=>165 | n=>n,fun | n=>n⟩
theorem Tryz.lays189:Go.Proofs.Lays.n189 Tryz.prog Tryz.lays189_ren:={
 mixed:=by kernel_rfl
 f125:=Tryz.func251.trans (congrArg some (by kernel_rfl))
 f128:=Tryz.func271.trans (congrArg some (by kernel_rfl))
 f129:=Tryz.func272.trans (congrArg some (by kernel_rfl))
 f189:=Tryz.func248.trans (congrArg some (by kernel_rfl))
 f215:=Tryz.func296.trans (congrArg some (by kernel_rfl))
 f216:=Tryz.func284.trans (congrArg some (by kernel_rfl))
 f257:=Tryz.func262.trans (congrArg some (by kernel_rfl))
 f294:=Tryz.func278.trans (congrArg some (by kernel_rfl))
 f295:=Tryz.func279.trans (congrArg some (by kernel_rfl))
 f296:=Tryz.func280.trans (congrArg some (by kernel_rfl))
 f297:=Tryz.func281.trans (congrArg some (by kernel_rfl))
 f298:=Tryz.func282.trans (congrArg some (by kernel_rfl))
 f299:=Tryz.func283.trans (congrArg some (by kernel_rfl))
 f300:=Tryz.func285.trans (congrArg some (by kernel_rfl))
 f301:=Tryz.func286.trans (congrArg some (by kernel_rfl))
 f328:=Tryz.func293.trans (congrArg some (by kernel_rfl))
 f329:=Tryz.func288.trans (congrArg some (by kernel_rfl))
 f330:=Tryz.func289.trans (congrArg some (by kernel_rfl))
 f331:=Tryz.func294.trans (congrArg some (by kernel_rfl))
 f332:=Tryz.func295.trans (congrArg some (by kernel_rfl))
 f343:=Tryz.func298.trans (congrArg some (by kernel_rfl))
 t0:=Tryz.underlying0
 a0:=Tryz.isAgg0
 z0:=Tryz.sizeOf0
 v0:=Tryz.zeroValue0
 t3:=Tryz.underlying3
 a3:=Tryz.isAgg3
 z3:=Tryz.sizeOf3
 v3:=Tryz.zeroValue3
 t4:=Tryz.underlying4
 a4:=Tryz.isAgg4
 z4:=Tryz.sizeOf4
 v4:=Tryz.zeroValue4
 t5:=Tryz.underlying5
 a5:=Tryz.isAgg5
 z5:=Tryz.sizeOf5
 v5:=Tryz.zeroValue5
 t9:=Tryz.underlying9
 a9:=Tryz.isAgg9
 z9:=Tryz.sizeOf9
 v9:=Tryz.zeroValue9
 t28:=Tryz.underlying44
 a28:=Tryz.isAgg44
 z28:=Tryz.sizeOf44
 v28:=Tryz.zeroValue44
 t46:=Tryz.underlying187
 a46:=Tryz.isAgg187
 z46:=Tryz.sizeOf187
 v46:=Tryz.zeroValue187
 t51:=Tryz.underlying209
 a51:=Tryz.isAgg209
 z51:=Tryz.sizeOf209
 v51:=Tryz.zeroValue209
 t53:=Tryz.underlying211
 a53:=Tryz.isAgg211
 z53:=Tryz.sizeOf211
 v53:=Tryz.zeroValue211
 t131:=Tryz.underlying127
 a131:=Tryz.isAgg127
 z131:=Tryz.sizeOf127
 v131:=Tryz.zeroValue127
 t182:=Tryz.underlying202
 a182:=Tryz.isAgg202
 z182:=Tryz.sizeOf202
 v182:=Tryz.zeroValue202
 t183:=Tryz.underlying203
 a183:=Tryz.isAgg203
 z183:=Tryz.sizeOf203
 v183:=Tryz.zeroValue203
 t218:=Tryz.underlying221
 a218:=Tryz.isAgg221
 z218:=Tryz.sizeOf221
 v218:=Tryz.zeroValue221
 t222:=Tryz.underlying225
 a222:=Tryz.isAgg225
 z222:=Tryz.sizeOf225
 v222:=Tryz.zeroValue225
 t228:=Tryz.underlying231
 a228:=Tryz.isAgg231
 z228:=Tryz.sizeOf231
 v228:=Tryz.zeroValue231
 t229:=Tryz.underlying165
 a229:=Tryz.isAgg165
 z229:=Tryz.sizeOf165
 v229:=Tryz.zeroValue165 }
open Go.Sort Go.RowKit in
theorem Tryz.slices_Sort_int (blk off cap:Nat) (zs:List Int) (w:World) (hH:Holds (Value.int .i64) w blk off zs.toArray) (hblk:blk < w.heap.size) (hsz:zs.length < 4611686018427387904) :
  Calls Tryz.prog 248 #[.slice (some ⟨blk,off,none⟩) zs.length cap] w fun e w' =>
   e=.returned (.tuple #[])∧∃ n os,w'=grow (putRow (Value.int .i64) (Sort.ahead w n) blk off (zs.mergeSort fun x y=>decide (x≤y)).toArray) os:=Any.slices_Sort_int Tryz.lays189 blk off cap zs w hH hblk hsz
def Tryz.laysNm220_ren:Go.Shelf.Ren:=⟨fun | 20=>249 | n=>n,fun | 22=>44 | 3=>3 | 4=>4 | 0=>0 | n=>n,fun | n=>n⟩
theorem Tryz.laysNm220:Go.Proofs.Lays2.n20 Tryz.prog Tryz.laysNm220_ren:={
 mixed:=by kernel_rfl
 f20:=Tryz.func249.trans (congrArg some (by kernel_rfl))
 t0:=Tryz.underlying0
 a0:=Tryz.isAgg0
 z0:=Tryz.sizeOf0
 v0:=Tryz.zeroValue0
 t3:=Tryz.underlying3
 a3:=Tryz.isAgg3
 z3:=Tryz.sizeOf3
 v3:=Tryz.zeroValue3
 t4:=Tryz.underlying4
 a4:=Tryz.isAgg4
 z4:=Tryz.sizeOf4
 v4:=Tryz.zeroValue4
 t22:=Tryz.underlying44
 a22:=Tryz.isAgg44
 z22:=Tryz.sizeOf44
 v22:=Tryz.zeroValue44
 i3:=by kernel_rfl }
open Go.RowKit Go.Lib Go.Sort in
theorem Tryz.slices_Compact_int_arr (blk off cap:Nat) (d:Array Int) (w:World) (hH:Holds encI w blk off d) (hsz:d.size≤9223372036854775807) (hcap:d.size≤cap) :
  Calls Tryz.prog 249 #[.slice (some ⟨blk,off,none⟩) d.size cap] w fun e w'=>e=.returned (.slice (some ⟨blk,off,none⟩) (compactUpTo d d.size).length cap)∧∃ q,w'=putRow encI (Sort.ahead w q) blk off (compactUpTo d d.size++List.replicate (d.size - (compactUpTo d d.size).length) 0).toArray:=Any.slices_Compact_int_arr Tryz.laysNm220 blk off cap d w hH hsz hcap
open Go.RowKit Go.Lib Go.Sort in
theorem Tryz.slices_Compact_int (blk off cap:Nat) (zs:List Int) (w:World) (hH:Holds (Value.int .i64) w blk off zs.toArray) (hsz:zs.length≤9223372036854775807) (hcap:zs.length≤cap) :
  Calls Tryz.prog 249 #[.slice (some ⟨blk,off,none⟩) zs.length cap] w fun e w'=>e=.returned (.slice (some ⟨blk,off,none⟩) (Lib.compact zs).length cap)∧∃ q,w'=putRow (Value.int .i64) (Sort.ahead w q) blk off (Lib.compact zs++List.replicate (zs.length - (Lib.compact zs).length) 0).toArray:=Any.slices_Compact_int Tryz.laysNm220 blk off cap zs w hH hsz hcap
open Go.RowKit Go.Lib Go.Sort in
theorem Tryz.slices_Compact_int_empty (a:Option Addr) (cap:Nat) (w:World) :
  Calls Tryz.prog 249 #[.slice a 0 cap] w fun e w'=>e=.returned (.slice a 0 cap)∧w'=w:=Any.slices_Compact_int_empty Tryz.laysNm220 a cap w
open Go.RowKit Go.Lib Go.Sort in
theorem Tryz.slices_Compact_int_cells (b off n c:Nat) (zs:List Int) (w:World) (hz:n≤zs.length) (hbig:n≤9223372036854775807) (hcap:n≤c) (hc:∀ j,j < zs.length→w.cell? ⟨b,off+j,none⟩=some (.int .i64 (zs.getD j 0))) (hf:∀ j,j < n→w.frozen? ⟨b,off+j,none⟩=false) :
  Calls Tryz.prog 249 #[.slice (some ⟨b,off,none⟩) n c] w fun e w'=>e=.returned (.slice (some ⟨b,off,none⟩) (Lib.compact (zs.take n)).length c)∧∃ q,w'=(w.drewN q).setCells b off ((Lib.compact (zs.take n)++List.replicate (n - (Lib.compact (zs.take n)).length) 0).map (Value.int .i64)):=Any.slices_Compact_int_cells Tryz.laysNm220 b off n c zs w hz hbig hcap hc hf
open Go.RowKit Go.Sort in
theorem Tryz.slices_Sort_int_none (p:Option Addr) (cap:Nat) (w:World) :
  Calls Tryz.prog 248 #[.slice p 0 cap] w fun e w'=>e=.returned (.tuple #[])∧w'=w:=Any.slices_Sort_int_none Tryz.lays189 p cap w
end Go.Proofs
namespace Go.Proofs.YtkimajabegojoaaGreat
set_option linter.unusedVariables false
set_option linter.unusedSimpArgs false
set_option maxHeartbeats 40000000
set_option maxRecDepth 100000
section
open Go.RowKit Go.Sort
theorem put_mid {w:World} {g n:Nat} {d:Array Int} {os:Array Obj}:w.grownBy (grow (putRow (Value.int .i64) (Sort.ahead w n) g 0 d) os) (some g):=by
 refine ⟨rfl,rfl,rfl,by simp,fun k hk hne=>?_⟩;rw [heap_grow_old _ _ (by simpa using hk)];have:g≠k:=fun e=>hne (by rw [e]);simp [putRow,mapBlock,Sort.ahead,Array.getElem?_modify,this]
theorem owns_grow {w:World} {base:Nat} {e:TypeId} {size:Nat} {v:Value} {n:Nat} {xs:List Value} (h:w.ownsRow base e size v n xs) (os:Array Obj):(grow w os).ownsRow base e size v n xs:=by
 refine ⟨h.1,?_⟩;rcases h.2 with hn | ⟨g,cap,cur,rfl,hb,hh,rest⟩
 ·exact .inl hn
 ·refine .inr ⟨g,cap,cur,rfl,hb,?_,rest⟩
  rw [heap_grow_old _ _ (Array.getElem?_eq_some_iff.1 hh).1];exact hh
abbrev Turned (w:World) (lo hi:Nat) (A:Option Addr) (c:Nat) (ys:List Int) (e:Ending) (w':World):Prop :=
 e=.returned (.tuple #[])∧w'.ownsRow lo 3 1 (.slice A ys.length c) ys.length (ints ys)∧w.grownBy w' (Value.ownBlock (.slice A ys.length c))
theorem sortI (A:Option Addr) (xs:List Int) (c:Nat) (w:World) (lo:Nat) (ho:w.ownsRow lo 3 1 (.slice A xs.length c) xs.length (ints xs)) (hl:xs.length≤1048576) :
  Calls Tryz.prog 248 #[.slice A xs.length c] w (Turned w lo 0 A c (xs.mergeSort fun x y=>decide (x≤y))):=by
 by_cases hv:Value.slice A xs.length c=.slice none 0 0
 ·injection hv with h1 h2 h3
  obtain rfl:=List.eq_nil_of_length_eq_zero h2;subst h1 h3;exact (Tryz.slices_Sort_int_none none 0 w).mono fun e w' ⟨he,hw⟩=>by
   refine ⟨he,?_⟩
   first
    | (subst hw;exact ⟨by simpa using ho,World.grownBy.refl _ _⟩)
    | (obtain ⟨n,rfl⟩:=hw;exact ⟨by simpa using ho,World.grownBy.refl _ _⟩)
 ·obtain ⟨g,cap,he,hb,hg,hn,hm,hz,hH⟩:=Lib.holds_of_ownsRow (enc:=Value.int .i64) (zs:=xs) ho hv
  injection he with h1 _ h3
  subst h1 h3;refine (Tryz.slices_Sort_int g 0 c xs w hH hg (by omega)).mono ?_;rintro e w' ⟨he,n,os,rfl⟩;have hlen:(xs.mergeSort fun x y=>decide (x≤y)).length=xs.length:=List.length_mergeSort _;have h2:=Lib.ownsRow_putRow (enc:=Value.int .i64) (q:=n) (k:=xs.length) (ys:=xs.mergeSort fun x y=>decide (x≤y)) ho hlen (Nat.le_refl _);rw [List.take_of_length_le (by omega)] at h2;refine ⟨he,?_,?_⟩
  ·rw [hlen]
   exact owns_grow h2 os
  ·rw [hlen]
   exact put_mid
end
end Go.Proofs.YtkimajabegojoaaGreat
namespace Go.Proofs
open Go.Shelf
def Tryz.sortEd_ren:Go.Shelf.Ren:=⟨fun | 6=>203 | 15=>251 | 14=>250 | 28=>271 | 29=>272 | 20=>263 | 21=>264 | 22=>265 | 23=>266 | 24=>267 | 25=>268 | 26=>269 | 27=>270 | 46=>287 | 47=>288 | 48=>289 | 49=>290 | 50=>291 | 57=>297 | n=>n,fun | 22=>33 | 24=>110 | 25=>168 | 3=>3 | 39=>187 | 0=>0 | 53=>209 | 55=>211 | 4=>4 | 46=>203 | 45=>202 | 50=>127 | 5=>5 | 9=>9 | 66=>221 | 70=>225 | 76=>231 | 77=>165 | n=>n,fun | n=>n⟩
theorem Tryz.sortEd:Go.Proofs.SlLaysF0.n6 Tryz.prog Tryz.sortEd_ren:={
 mixed:=by kernel_rfl
 f6:=⟨Tryz.f203.name,by decide,Tryz.func203.trans (congrArg some (by kernel_rfl))⟩
 f14:=⟨Tryz.f250.name,by decide,Tryz.func250.trans (congrArg some (by kernel_rfl))⟩
 f15:=Tryz.func251.trans (congrArg some (by kernel_rfl))
 f20:=⟨Tryz.f263.name,by decide,Tryz.func263.trans (congrArg some (by kernel_rfl))⟩
 f21:=⟨Tryz.f264.name,by decide,Tryz.func264.trans (congrArg some (by kernel_rfl))⟩
 f22:=⟨Tryz.f265.name,by decide,Tryz.func265.trans (congrArg some (by kernel_rfl))⟩
 f23:=⟨Tryz.f266.name,by decide,Tryz.func266.trans (congrArg some (by kernel_rfl))⟩
 f24:=⟨Tryz.f267.name,by decide,Tryz.func267.trans (congrArg some (by kernel_rfl))⟩
 f25:=⟨Tryz.f268.name,by decide,Tryz.func268.trans (congrArg some (by kernel_rfl))⟩
 f26:=⟨Tryz.f269.name,by decide,Tryz.func269.trans (congrArg some (by kernel_rfl))⟩
 f27:=⟨Tryz.f270.name,by decide,Tryz.func270.trans (congrArg some (by kernel_rfl))⟩
 f28:=Tryz.func271.trans (congrArg some (by kernel_rfl))
 f29:=Tryz.func272.trans (congrArg some (by kernel_rfl))
 f46:=⟨Tryz.f287.name,by decide,Tryz.func287.trans (congrArg some (by kernel_rfl))⟩
 f47:=Tryz.func288.trans (congrArg some (by kernel_rfl))
 f48:=Tryz.func289.trans (congrArg some (by kernel_rfl))
 f49:=⟨Tryz.f290.name,by decide,Tryz.func290.trans (congrArg some (by kernel_rfl))⟩
 f50:=⟨Tryz.f291.name,by decide,Tryz.func291.trans (congrArg some (by kernel_rfl))⟩
 f57:=⟨Tryz.f297.name,by decide,Tryz.func297.trans (congrArg some (by kernel_rfl))⟩
 t0:=Tryz.underlying0
 a0:=Tryz.isAgg0
 z0:=Tryz.sizeOf0
 v0:=Tryz.zeroValue0
 t3:=Tryz.underlying3
 a3:=Tryz.isAgg3
 z3:=Tryz.sizeOf3
 v3:=Tryz.zeroValue3
 t4:=Tryz.underlying4
 a4:=Tryz.isAgg4
 z4:=Tryz.sizeOf4
 v4:=Tryz.zeroValue4
 t5:=Tryz.underlying5
 a5:=Tryz.isAgg5
 z5:=Tryz.sizeOf5
 v5:=Tryz.zeroValue5
 t9:=Tryz.underlying9
 a9:=Tryz.isAgg9
 z9:=Tryz.sizeOf9
 v9:=Tryz.zeroValue9
 t22:=Tryz.underlying33
 a22:=Tryz.isAgg33
 z22:=Tryz.sizeOf33
 v22:=Tryz.zeroValue33
 t25:=Tryz.underlying168
 a25:=Tryz.isAgg168
 z25:=Tryz.sizeOf168
 v25:=Tryz.zeroValue168
 t39:=Tryz.underlying187
 a39:=Tryz.isAgg187
 z39:=Tryz.sizeOf187
 v39:=Tryz.zeroValue187
 t45:=Tryz.underlying202
 a45:=Tryz.isAgg202
 z45:=Tryz.sizeOf202
 v45:=Tryz.zeroValue202
 t46:=Tryz.underlying203
 a46:=Tryz.isAgg203
 z46:=Tryz.sizeOf203
 v46:=Tryz.zeroValue203
 t50:=Tryz.underlying127
 a50:=Tryz.isAgg127
 z50:=Tryz.sizeOf127
 v50:=Tryz.zeroValue127
 t53:=Tryz.underlying209
 a53:=Tryz.isAgg209
 z53:=Tryz.sizeOf209
 v53:=Tryz.zeroValue209
 t55:=Tryz.underlying211
 a55:=Tryz.isAgg211
 z55:=Tryz.sizeOf211
 v55:=Tryz.zeroValue211
 t66:=Tryz.underlying221
 a66:=Tryz.isAgg221
 z66:=Tryz.sizeOf221
 v66:=Tryz.zeroValue221
 t70:=Tryz.underlying225
 a70:=Tryz.isAgg225
 z70:=Tryz.sizeOf225
 v70:=Tryz.zeroValue225
 t76:=Tryz.underlying231
 a76:=Tryz.isAgg231
 z76:=Tryz.sizeOf231
 v76:=Tryz.zeroValue231
 t77:=Tryz.underlying165
 a77:=Tryz.isAgg165
 z77:=Tryz.sizeOf165
 v77:=Tryz.zeroValue165 }
def Tryz.indexEd_ren:Go.Shelf.Ren:=⟨fun | 6=>261 | n=>n,fun | 22=>33 | 24=>110 | 3=>3 | 0=>0 | 4=>4 | n=>n,fun | n=>n⟩
theorem Tryz.indexEd:Go.Proofs.SlLaysQ.n6 Tryz.prog Tryz.indexEd_ren:={
 mixed:=by kernel_rfl
 f6:=⟨Tryz.f261.name,by decide,Tryz.func261.trans (congrArg some (by kernel_rfl))⟩
 t0:=Tryz.underlying0
 a0:=Tryz.isAgg0
 z0:=Tryz.sizeOf0
 v0:=Tryz.zeroValue0
 t3:=Tryz.underlying3
 a3:=Tryz.isAgg3
 z3:=Tryz.sizeOf3
 v3:=Tryz.zeroValue3
 t4:=Tryz.underlying4
 a4:=Tryz.isAgg4
 z4:=Tryz.sizeOf4
 v4:=Tryz.zeroValue4
 t22:=Tryz.underlying33
 a22:=Tryz.isAgg33
 z22:=Tryz.sizeOf33
 v22:=Tryz.zeroValue33 }
def Tryz.containsEd_ren:Go.Shelf.Ren:=⟨fun | 7=>245 | 6=>261 | n=>n,fun | 22=>33 | 24=>110 | 4=>4 | 0=>0 | 3=>3 | n=>n,fun | n=>n⟩
theorem Tryz.containsEd:Go.Proofs.SlLaysQ.n7 Tryz.prog Tryz.containsEd_ren:={
 mixed:=by kernel_rfl
 f6:=⟨Tryz.f261.name,by decide,Tryz.func261.trans (congrArg some (by kernel_rfl))⟩
 f7:=⟨Tryz.f245.name,by decide,Tryz.func245.trans (congrArg some (by kernel_rfl))⟩
 t0:=Tryz.underlying0
 a0:=Tryz.isAgg0
 z0:=Tryz.sizeOf0
 v0:=Tryz.zeroValue0
 t3:=Tryz.underlying3
 a3:=Tryz.isAgg3
 z3:=Tryz.sizeOf3
 v3:=Tryz.zeroValue3
 t4:=Tryz.underlying4
 a4:=Tryz.isAgg4
 z4:=Tryz.sizeOf4
 v4:=Tryz.zeroValue4
 t22:=Tryz.underlying33
 a22:=Tryz.isAgg33
 z22:=Tryz.sizeOf33
 v22:=Tryz.zeroValue33 }
def Tryz.equalEd_ren:Go.Shelf.Ren:=⟨fun | 8=>236 | n=>n,fun | 22=>33 | 24=>110 | 4=>4 | 3=>3 | 0=>0 | n=>n,fun | n=>n⟩
theorem Tryz.equalEd:Go.Proofs.SlLaysQ.n8 Tryz.prog Tryz.equalEd_ren:={
 mixed:=by kernel_rfl
 f8:=⟨Tryz.f236.name,by decide,Tryz.func236.trans (congrArg some (by kernel_rfl))⟩
 t0:=Tryz.underlying0
 a0:=Tryz.isAgg0
 z0:=Tryz.sizeOf0
 v0:=Tryz.zeroValue0
 t3:=Tryz.underlying3
 a3:=Tryz.isAgg3
 z3:=Tryz.sizeOf3
 v3:=Tryz.zeroValue3
 t4:=Tryz.underlying4
 a4:=Tryz.isAgg4
 z4:=Tryz.sizeOf4
 v4:=Tryz.zeroValue4
 t22:=Tryz.underlying33
 a22:=Tryz.isAgg33
 z22:=Tryz.sizeOf33
 v22:=Tryz.zeroValue33 }
end Go.Proofs
namespace Go.Proofs.YtkimajabegojoaaGreat
set_option linter.unusedVariables false
set_option linter.unusedSimpArgs false
set_option maxHeartbeats 40000000
set_option maxRecDepth 100000
section
open Go.RowKit
def wg (w:World) (m:Nat) (os:Array Obj):World:={ w with heap:=w.heap++os,drawn:=m }
structure GB where
 n:Nat
 os:Array Obj
 deriving Inhabited
theorem Mid.ofWg (w:World) (m:Nat) (os:Array Obj):Mid 0 0 w (wg w m os) :=
 ⟨rfl,rfl,rfl,by simp [wg],fun k hk _=>by simp [wg,Array.getElem?_append,hk]⟩
theorem Mid.toWg {w w':World} (h:Mid 0 0 w w'):∃ p:GB,w'=wg w p.n p.os:=by
 refine ⟨⟨w'.drawn,w'.heap.extract w.heap.size w'.heap.size⟩,?_⟩;have hh:w'.heap=w.heap++w'.heap.extract w.heap.size w'.heap.size:=by
  apply Array.ext_getElem?;intro k;by_cases hk:k < w.heap.size
  ·rw [Array.getElem?_append_left hk]
   exact h.block k hk (by omega)
  ·rw [Array.getElem?_append_right (by omega),Array.getElem?_extract]
   have hs:=h.size;by_cases hk2:k < w'.heap.size
   ·rw [if_pos (by omega),show w.heap.size+(k - w.heap.size)=k by omega]
   ·rw [if_neg (by omega),Array.getElem?_eq_none (by omega)]
 have h1:=h.os;have h2:=h.tape;have h3:=h.output;cases w'
 cases w
 simp only [wg] at *;subst h1 h2 h3
 congr 1
theorem wg_cell {w:World} {a:Addr} {v:Value} (hb:a.block < w.heap.size) (h:w.cell? a=some v) (n:Nat) (os:Array Obj):(wg w n os).cell? a=some v :=
 (World.cell?_of_block ((Mid.ofWg w n os).block a.block hb (by omega))).trans h
theorem wg_size (w:World) (n:Nat) (os:Array Obj):(wg w n os).heap.size=w.heap.size+os.size:=by simp [wg]
theorem wp_region_quiet_wg {P:Program} {id:Nat} {Q:Exit→Act→World→Prop} {a:Act} {w:World} {l:List Oper} (hm:P.follows .mixedOrders=true) (hB:Region.lexB .any l.toArray=true)
  (h:wpQuiet P l.toArray (fun w'=>∃ p:GB,w'=wg w p.n p.os) (fun a'=>∀ w',(∃ p:GB,w'=wg w p.n p.os)→Q .normal a' w') l a):(Code.region id l.toArray true).wp P Q a w :=
 wp_region_quiet (C:=fun w'=>∃ p:GB,w'=wg w p.n p.os) hm hB (Mid.drew1 w).toWg (by simpa using h)
theorem Calls.wg_of {P:Program} {f:FuncId} {args:Array Value} {w:World} {n:Nat} {os:Array Obj} {v:Value}
  (h:Calls P f args (wg w n os) fun e w'=>e=.returned v∧Mid 0 0 (wg w n os) w'):Calls P f args (wg w n os) fun e w''=>e=.returned v∧∃ p:GB,w''=wg w p.n p.os :=
 h.mono fun _ _ ⟨he,hm⟩=>⟨he,((Mid.ofWg w n os).trans hm).toWg⟩
theorem Calls.wg_same {P:Program} {f:FuncId} {args:Array Value} {w:World} {n:Nat} {os:Array Obj} {v:Value}
  (h:Calls P f args (wg w n os) fun e w'=>e=.returned v∧wg w n os=w'):Calls P f args (wg w n os) fun e w''=>e=.returned v∧∃ p:GB,w''=wg w p.n p.os :=
 h.mono fun _ _ ⟨he,hm⟩=>⟨he,⟨n,os⟩,hm.symm⟩
end
section
open Go.RowKit
abbrev Ed.v (e:Ed):Value:=.agg #[.int .i64 e.a,.int .i64 e.l,.int .i64 e.b]
def edB (r s:Int) (e:Ed):Bool:=inB e.a 0 (wrap64 (s - 1)) && inB e.b 0 (wrap64 (s - 1)) && inB e.l 1 r
theorem RV.ed {w:World} {lo hi:Nat} {A:Option Addr} {es:List Ed} {k:Nat} (h:RV w lo hi A (ints (edI es))) (hk:k < es.length) :
  ∃ b off e,A=some ⟨b,off,none⟩∧lo≤b∧b < hi∧es[k]?=some e∧w.cell? ⟨b,off+k * 3,none⟩=some (.int .i64 e.a)∧w.cell? ⟨b,off+k * 3+1,none⟩=some (.int .i64 e.l)∧w.cell? ⟨b,off+k * 3+2,none⟩=some (.int .i64 e.b):=by
 obtain ⟨e,he⟩:=get_of_lt es hk;obtain ⟨g0,g1,g2⟩:=edI_at he;obtain ⟨b,off,hA,h1,h2,hc⟩:=h.2 (by intro h0;have:=congrArg List.length h0;rw [ints_len,edI_len] at this;simp at this;omega);exact ⟨b,off,e,hA,h1,h2,he,hc (k * 3) _ (by rw [ints_get,g0];rfl),hc (k * 3+1) _ (by rw [ints_get,g1];rfl),hc (k * 3+2) _ (by rw [ints_get,g2];rfl)⟩
theorem impl_has (r s:Int) (A:Option Addr) (n c:Nat) (x:Int) (w:World) (b:Bool) (hb:inB x 0 (wrap64 (s - 1))=b) :
  Calls Tryz.prog 133 #[.agg #[.int .i64 r,.int .i64 s,.slice A n c],.int .i64 x] w fun e w'=>e=.returned (.bool b)∧Mid 0 0 w w':=by
 subst hb;go_enter Tryz.func133,Tryz.ntmps133
 go_wp2_with fail;with_reducible refine (within_any _ _ _ _).mono ?_
 rintro e w' ⟨rfl,rfl⟩;go_wp2_with fail;go_ret;exact ⟨rfl,Mid.alloc _ _⟩
theorem impl_accepts (r s:Int) (A:Option Addr) (n c:Nat) (e:Ed) (w:World) :
  Calls Tryz.prog 215 #[.agg #[.int .i64 r,.int .i64 s,.slice A n c],e.v] w fun en w'=>en=.returned (.bool (edB r s e))∧Mid 0 0 w w':=by
 obtain ⟨a,l,b⟩:=e;have hm0:Mid 0 0 w ((w.alloc (.cells #[.int .i64 r,.int .i64 s,.slice A n c] 35)).alloc (.cells #[.int .i64 a,.int .i64 l,.int .i64 b] 110)):=(Mid.alloc _ _).trans (Mid.alloc _ _);have B0:=(Box.new w #[.int .i64 r,.int .i64 s,.slice A n c] 35).mid (Mid.alloc _ (.cells #[.int .i64 a,.int .i64 l,.int .i64 b] 110)) oZr;have B1:=Box.new (w.alloc (.cells #[.int .i64 r,.int .i64 s,.slice A n c] 35)) #[.int .i64 a,.int .i64 l,.int .i64 b] 110;cases h1:inB a 0 (wrap64 (s - 1)) with
 | false =>
  have hv:edB r s ⟨a,l,b⟩=false:=by simp [edB,h1]
  rw [hv];clear hv B0 B1;go_enter Tryz.func215,Tryz.ntmps215
  go_wp2_with fail;with_reducible refine (impl_has _ _ _ _ _ _ _ _ h1).mono ?_
  rintro en w1 ⟨rfl,hm1⟩;go_wp2_with fail;go_ret;exact ⟨rfl,hm0.trans hm1⟩
 | true =>
  cases h2:inB b 0 (wrap64 (s - 1)) with
  | false =>
   have hv:edB r s ⟨a,l,b⟩=false:=by simp [edB,h2]
   rw [hv];clear hv;go_enter Tryz.func215,Tryz.ntmps215
   go_wp2_with fail;with_reducible refine (impl_has _ _ _ _ _ _ _ _ h1).mono ?_
   rintro en w1 ⟨rfl,hm1⟩;have C0:=B0.mid hm1 oZr;have C1:=B1.mid hm1 oZr;have c00:=C0.cell 0 rfl;have c01:=C0.cell 1 rfl;have c02:=C0.cell 2 rfl;have c10:=C1.cell 0 rfl;have c11:=C1.cell 1 rfl;have c12:=C1.cell 2 rfl;simp only [World.size_alloc] at c10 c11 c12;go_wp2_with fail;with_reducible refine (impl_has _ _ _ _ _ _ _ _ h2).mono ?_
   rintro en w2 ⟨rfl,hm2⟩;go_wp2_with fail;go_ret;exact ⟨rfl,(hm0.trans hm1).trans hm2⟩
  | true =>
   have hv:edB r s ⟨a,l,b⟩=inB l 1 r:=by simp [edB,h1,h2]
   rw [hv];clear hv;go_enter Tryz.func215,Tryz.ntmps215
   go_wp2_with fail;with_reducible refine (impl_has _ _ _ _ _ _ _ _ h1).mono ?_
   rintro en w1 ⟨rfl,hm1⟩;have C0:=B0.mid hm1 oZr;have C1:=B1.mid hm1 oZr;have c00:=C0.cell 0 rfl;have c01:=C0.cell 1 rfl;have c02:=C0.cell 2 rfl;have c10:=C1.cell 0 rfl;have c11:=C1.cell 1 rfl;have c12:=C1.cell 2 rfl;simp only [World.size_alloc] at c10 c11 c12;go_wp2_with fail;with_reducible refine (impl_has _ _ _ _ _ _ _ _ h2).mono ?_
   rintro en w2 ⟨rfl,hm2⟩;have D0:=C0.mid hm2 oZr;have D1:=C1.mid hm2 oZr;have d00:=D0.cell 0 rfl;have d11:=D1.cell 1 rfl;simp only [World.size_alloc] at d11;go_wp2_with fail;with_reducible refine (within_any _ _ _ _).mono ?_
   rintro en w3 ⟨rfl,rfl⟩;go_wp2_with fail;go_ret;exact ⟨rfl,(hm0.trans hm1).trans hm2⟩
theorem spec_l4Edge (r s:Int) (A:Option Addr) (n c:Nat) (e:Ed) (w:World) :
  Calls Tryz.prog 246 #[.agg #[.int .i64 r,.int .i64 s,.slice A n c],e.v] w fun en w'=>en=.returned (.bool (edB r s e))∧Mid 0 0 w w':=by
 obtain ⟨a,l,b⟩:=e;have hm0:Mid 0 0 w ((w.alloc (.cells #[.int .i64 r,.int .i64 s,.slice A n c] 35)).alloc (.cells #[.int .i64 a,.int .i64 l,.int .i64 b] 110)):=(Mid.alloc _ _).trans (Mid.alloc _ _);have hL:∀ x lo hi (W:World) (b:Bool),inB x lo hi=b→Calls Tryz.prog 102 #[.int .i64 x,.int .i64 lo,.int .i64 hi] W fun e w'=>e=.returned (.bool b)∧W=w':=fun x lo hi W b h=>h ▸ l1In_any x lo hi W;cases h1:inB a 0 (wrap64 (s - 1)) with
 | false =>
  have hv:edB r s ⟨a,l,b⟩=false:=by simp [edB,h1]
  rw [hv];clear hv;go_enter Tryz.func246,Tryz.ntmps246
  go_wp2_with fail;with_reducible refine (hL _ _ _ _ _ h1).mono ?_
  rintro en w1 ⟨rfl,rfl⟩;go_wp2_with fail;go_ret;exact ⟨rfl,hm0⟩
 | true =>
  cases h2:inB b 0 (wrap64 (s - 1)) with
  | false =>
   have hv:edB r s ⟨a,l,b⟩=false:=by simp [edB,h2]
   rw [hv];clear hv;go_enter Tryz.func246,Tryz.ntmps246
   go_wp2_with fail;with_reducible refine (hL _ _ _ _ _ h1).mono ?_
   rintro en w1 ⟨rfl,rfl⟩;go_wp2_with fail;with_reducible refine (hL _ _ _ _ _ h2).mono ?_
   rintro en w1 ⟨rfl,rfl⟩;go_wp2_with fail;go_ret;exact ⟨rfl,hm0⟩
  | true =>
   have hv:edB r s ⟨a,l,b⟩=inB l 1 r:=by simp [edB,h1,h2]
   rw [hv];clear hv;go_enter Tryz.func246,Tryz.ntmps246
   go_wp2_with fail;with_reducible refine (hL _ _ _ _ _ h1).mono ?_
   rintro en w1 ⟨rfl,rfl⟩;go_wp2_with fail;with_reducible refine (hL _ _ _ _ _ h2).mono ?_
   rintro en w1 ⟨rfl,rfl⟩;go_wp2_with fail;with_reducible refine (l1In_any _ _ _ _).mono ?_
   rintro en w1 ⟨rfl,rfl⟩;go_wp2_with fail;go_ret;exact ⟨rfl,hm0⟩
theorem impl_CompareEdgesW (e f:Ed) (w:World) :
  Calls Tryz.prog 204 #[e.v,f.v] w fun en w'=>en=.returned (.int .i64 (cmpE e f))∧((w.alloc (.cells #[.int .i64 e.a,.int .i64 e.l,.int .i64 e.b] 110)).alloc (.cells #[.int .i64 f.a,.int .i64 f.l,.int .i64 f.b] 110))=w':=by
 obtain ⟨a,l,b⟩:=e;obtain ⟨a',l',b'⟩:=f;have hC:∀ x y (W:World) (v:Int),cmpI x y=v→Calls Tryz.prog 113 #[.int .i64 x,.int .i64 y] W fun e w'=>e=.returned (.int .i64 v)∧W=w':=fun x y W v h=>h ▸ impl_compareInts x y W;obtain ⟨u,hu⟩:∃ u,cmpI a a'=u:=⟨_,rfl⟩
 obtain ⟨v,hv⟩:∃ v,cmpI l l'=v:=⟨_,rfl⟩
 have he:cmpE ⟨a,l,b⟩ ⟨a',l',b'⟩=if u≠0 then u else if v≠0 then v else cmpI b b':=by simp [cmpE,hu,hv]
 rw [he];clear he;by_cases h1:u=0
 ·by_cases h2:v=0
  ·rw [if_neg (by simpa using h1),if_neg (by simpa using h2)]
   subst h1;subst h2;go_enter Tryz.func204,Tryz.ntmps204
   go_wp2_with fail;with_reducible refine (hC _ _ _ _ hu).mono ?_
   rintro en w1 ⟨rfl,rfl⟩;go_wp2_with fail;with_reducible refine (hC _ _ _ _ hv).mono ?_
   rintro en w1 ⟨rfl,rfl⟩;go_wp2_with fail;with_reducible refine (impl_compareInts _ _ _).mono ?_
   rintro en w1 ⟨rfl,rfl⟩;go_wp2_with fail;go_ret;exact ⟨rfl,rfl⟩
  ·rw [if_neg (by simpa using h1),if_pos (by simpa using h2)]
   subst h1;have hn:(v != 0)=true:=by simpa using h2
   go_enter Tryz.func204,Tryz.ntmps204
   go_wp2_with fail;with_reducible refine (hC _ _ _ _ hu).mono ?_
   rintro en w1 ⟨rfl,rfl⟩;go_wp2_with fail;with_reducible refine (hC _ _ _ _ hv).mono ?_
   rintro en w1 ⟨rfl,rfl⟩;go_wp2_with fail;go_ret;exact ⟨rfl,rfl⟩
 ·rw [if_pos (by simpa using h1)]
  have hn:(u != 0)=true:=by simpa using h1
  go_enter Tryz.func204,Tryz.ntmps204
  go_wp2_with fail;with_reducible refine (hC _ _ _ _ hu).mono ?_
  rintro en w1 ⟨rfl,rfl⟩;go_wp2_with fail;go_ret;exact ⟨rfl,rfl⟩
theorem impl_CompareEdges (e f:Ed) (w:World) :
  Calls Tryz.prog 204 #[e.v,f.v] w fun en w'=>en=.returned (.int .i64 (cmpE e f))∧Mid 0 0 w w' :=
 (impl_CompareEdgesW e f w).mono fun _ _ ⟨h,hw⟩=>⟨h,hw ▸ (Mid.alloc _ _).trans (Mid.alloc _ _)⟩
end
section
open Go.RowKit
theorem cmpI_lt {a b:Int} (h:a < b):cmpI a b = -1:=by simp [cmpI,h]
theorem cmpI_gt {a b:Int} (h:b < a):cmpI a b=1:=by simp [cmpI,h,show ¬ a < b from by omega]
theorem cmpE_first {e f:Ed} {v:Int} (h:cmpI e.a f.a=v) (h0:v≠0):cmpE e f=v:=by simp [cmpE,h,h0]
theorem cmpE_second {e f:Ed} {v:Int} (h1:e.a=f.a) (h:cmpI e.l f.l=v) (h0:v≠0):cmpE e f=v:=by simp [cmpE,cmpI_zero.2 h1,h,h0]
theorem cmpE_third {e f:Ed} {v:Int} (h1:e.a=f.a) (h2:e.l=f.l) (h:cmpI e.b f.b=v):cmpE e f=v:=by simp [cmpE,cmpI_zero.2 h1,cmpI_zero.2 h2,h]
theorem spec_CompareEdges (e f:Ed) (w:World) :
  Calls Tryz.prog 206 #[e.v,f.v] w fun en w'=>en=.returned (.int .i64 (cmpE e f))∧Mid 0 0 w w':=by
 obtain ⟨a,l,b⟩:=e;obtain ⟨a',l',b'⟩:=f;obtain ⟨u,hu⟩:∃ u,cmpE ⟨a,l,b⟩ ⟨a',l',b'⟩=u:=⟨_,rfl⟩
 rw [hu];have HU:=Lib.hid hu;clear hu;go_enter Tryz.func206,Tryz.ntmps206
 go_wp2_with fail;go_loopw [4,7] (fun _ i wr=>∃ k:Nat,i=.int .i64 k∧k≤3∧Mid 0 0 w wr∧(0 < k→a=a')∧(1 < k→l=l')∧(2 < k→b=b') ∧
   wr.cell? ⟨w.heap.size+1+1,0,none⟩=some (.int .i64 a)∧wr.cell? ⟨w.heap.size+1+1,1,none⟩=some (.int .i64 l)∧wr.cell? ⟨w.heap.size+1+1,2,none⟩=some (.int .i64 b) ∧
   wr.cell? ⟨w.heap.size+1+1+1,0,none⟩=some (.int .i64 a')∧wr.cell? ⟨w.heap.size+1+1+1,1,none⟩=some (.int .i64 l')∧wr.cell? ⟨w.heap.size+1+1+1,2,none⟩=some (.int .i64 b')) (fun _ i _=>4 - (intOf i).toNat)
 case atStart =>
  refine ⟨0,rfl,by omega,?_,by simp,by simp,by simp,?_,?_,?_,?_,?_,?_⟩
  ·exact (((Mid.alloc _ _).trans (Mid.alloc _ _)).trans (Mid.alloc _ _)).trans (Mid.alloc _ _)
  all_goals simp [World.cell?_alloc_at,World.cell?_alloc_past]
 case round =>
  obtain ⟨k,rfl,hk,hm,e0,e1,e2,c0,c1,c2,d0,d1,d2⟩:=hrel;by_cases h3:3≤k
  ·go_wp2_with fail
   go_ret;obtain rfl:u=0:=by rw [← HU.out];exact cmpE_third (e0 (by omega)) (e1 (by omega)) (cmpI_zero.2 (e2 (by omega)))
   exact ⟨rfl,hm⟩
  ·have step:∀ (x y:Int),wr.cell? ⟨w.heap.size+1+1,k,none⟩=some (.int .i64 x)→wr.cell? ⟨w.heap.size+1+1+1,k,none⟩=some (.int .i64 y)→True:=fun _ _ _ _=>trivial
   obtain ⟨x,y,cx,cy,hxy⟩:∃ x y,wr.cell? ⟨w.heap.size+1+1,k,none⟩=some (.int .i64 x)∧wr.cell? ⟨w.heap.size+1+1+1,k,none⟩=some (.int .i64 y)∧(x≠y→u=cmpI x y)∧(k=0→x=a∧y=a')∧(k=1→x=l∧y=l')∧(k=2→x=b∧y=b'):=by
    rcases (by omega:k=0 ∨ k=1 ∨ k=2) with rfl | rfl | rfl
    ·exact ⟨a,a',c0,d0,fun h=>by rw [← HU.out];exact cmpE_first rfl (fun h0=>h (cmpI_zero.1 h0)),by simp,by simp,by simp⟩
    ·exact ⟨l,l',c1,d1,fun h=>by rw [← HU.out];exact cmpE_second (e0 (by omega)) rfl (fun h0=>h (cmpI_zero.1 h0)),by simp,by simp,by simp⟩
    ·exact ⟨b,b',c2,d2,fun h=>by rw [← HU.out];exact cmpE_third (e0 (by omega)) (e1 (by omega)) rfl,by simp,by simp,by simp⟩
   have hk2:k < 3:=by omega
   have HE:=Lib.hid (And.intro e0 (And.intro e1 e2));have HC:=Lib.hid (And.intro c0 (And.intro c1 (And.intro c2 (And.intro d0 (And.intro d1 d2)))));have HX:=Lib.hid hxy;clear e0 e1 e2 c0 c1 c2 d0 d1 d2 hxy step h3 hk;by_cases hlt:x < y
   ·have hv:=HX.out.1 (by omega)
    rw [cmpI_lt hlt] at hv;subst hv;go_wp2_with fail;go_quiet (fail)
    go_wp2_with fail;go_ret;exact ⟨rfl,hm.drewN _⟩
   ·by_cases hgt:y < x
    ·have hv:=HX.out.1 (by omega)
     rw [cmpI_gt hgt] at hv;subst hv;go_wp2_with fail;go_quiet (fail)
     go_wp2_with fail;go_quiet (fail)
     go_wp2_with fail;go_ret;exact ⟨rfl,by first | exact (hm.drewN _).drewN _ | exact hm.drewN _⟩
    ·have hq:x=y:=by omega
     clear hlt hgt;subst hq;go_wp2_with fail;go_quiet (fail)
     go_wp2_with fail;go_quiet (fail)
     go_wp2_with fail;go_roundw
     case rel =>
      obtain ⟨e0,e1,e2⟩:=HE.out;obtain ⟨c0,c1,c2,d0,d1,d2⟩:=HC.out;obtain ⟨-,q0,q1,q2⟩:=HX.out;refine ⟨k+1,by go_num,by omega,by first | exact (hm.drewN _).drewN _ | exact hm.drewN _,fun h=>?_,fun h=>?_,fun h=>?_,c0,c1,c2,d0,d1,d2⟩
      ·rcases (by omega:k=0 ∨ 0 < k) with h5 | h5
       ·rw [← (q0 h5).1,← (q0 h5).2]
       ·exact e0 h5
      ·rcases (by omega:k=1 ∨ 1 < k) with h5 | h5
       ·rw [← (q1 h5).1,← (q1 h5).2]
       ·exact e1 h5
      ·rcases (by omega:k=2 ∨ 2 < k) with h5 | h5
       ·rw [← (q2 h5).1,← (q2 h5).2]
       ·exact e2 h5
     case measure=>simp [intOf];omega
end
end Go.Proofs.YtkimajabegojoaaGreat
