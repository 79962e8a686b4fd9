/- Contracts and lemmas of this seat, many texts in one: see the words ahead of each. No condition beyond those typed in each lemma. -/
import Derived.WalkKit
import Derived.WalkSpells
import Derived.WalkLawsBesides
import Derived.Maps.AppendAt
import Derived.Lib.Hide
import Derived.Deep.Draws
import Derived.Deep.QuietTactic
import Derived.BigQuiet
import Derived.Test.YthampgpcajmopaaGreatRows

namespace Go.Proofs.YthampgpcajmopaaGreat
set_option linter.unusedVariables false
set_option linter.unusedSimpArgs false
set_option maxHeartbeats 40000000
set_option maxRecDepth 100000
theorem oZr {p:Prop} {n:Nat}:p ∨ 0≤n:=Or.inr (Nat.zero_le _)
theorem oZl {p:Prop} {n:Nat}:0≤n ∨ p:=Or.inl (Nat.zero_le _)
theorem zs1 {α:Type _} (l:List α) (i:Nat) (a:α):l.toArray.setIfInBounds i a=(l.set i a).toArray:=List.setIfInBounds_toArray l i a
theorem zs2 {α:Type _} {x:α} {xs:List α} {a:α}:(x :: xs).set 0 a=a :: xs:=List.set_cons_zero
theorem zs3 {α:Type _} {x:α} {xs:List α} {i:Nat} {a:α}:(x :: xs).set (i+1) a=x :: xs.set i a:=List.set_cons_succ
theorem zs4 {α:Type _} {xs:List α} {i:Nat} (h:i < xs.toArray.size):xs.toArray[i]=xs[i]'(by simpa using h):=List.getElem_toArray h
theorem zs5 {α:Type _} (a:α) (xs:List α) (h:0 < (a :: xs).length):(a :: xs)[0]=a:=List.getElem_cons_zero a xs h
theorem zs6 {α:Type _} (a:α) (xs:List α) (i:Nat) (h:i+1 < (a :: xs).length):(a :: xs)[i+1]=xs[i]'(Nat.lt_of_succ_lt_succ h):=List.getElem_cons_succ a xs i h
def minI:Int:=-9223372036854775808
def invB (a b:Int):Bool:=decide (a≠0∧a≠minI∧b = -a)
theorem invB_iff (a b:Int):invB a b=true↔(a≠0∧a≠minI∧b = -a):=by simp [invB]
def letB (rank x:Int):Bool:=decide (x≠0∧-rank≤x∧x≤rank)
def WordP (rank:Int) (w:List Int):Prop :=
 (∀ x∈w,x≠0∧-rank≤x∧x≤rank)∧(∀ k x y,w[k]?=some x→w[k+1]?=some y→y≠-x)
def IsW (rank:Int) (w:List Int):Prop:=1≤rank∧rank≤3∧w.length≤24∧WordP rank w
def cmpI (a b:Int):Int:=if a < b then -1 else if b < a then 1 else 0
def absI (a:Int):Int:=if a < 0 then -a else a
def cmpL (a b:Int):Int :=
 if a=b then 0 else if a=minI then 1 else if b=minI then -1
 else if absI a < absI b then -1 else if absI b < absI a then 1 else if b < a then -1 else 1
def cmpLs:List Int→List Int→Int
 | a :: x,b :: y=>if cmpL a b=0 then cmpLs x y else cmpL a b
 | _,_=>0
def cmpW (a b:List Int):Int:=if a.length < b.length then -1 else if b.length < a.length then 1 else cmpLs a b
def negI (x:Int):Int:=if x=minI then minI else -x
def invW (w:List Int):List Int:=(w.map negI).reverse
theorem invW_len (w:List Int):(invW w).length=w.length:=by simp [invW]
def redStep (out:List Int) (x:Int):List Int :=
 match out.getLast? with
 | some a=>if invB a x then out.dropLast else out++[x]
 | none=>[x]
def red (out w:List Int):List Int:=w.foldl redStep out
theorem red_nil (out:List Int):red out []=out:=rfl
theorem red_cons (out:List Int) (x:Int) (w:List Int):red out (x :: w)=red (redStep out x) w:=rfl
theorem red_append (out a b:List Int):red out (a++b)=red (red out a) b:=by simp [red]
theorem redStep_empty (x:Int):redStep [] x=[x]:=rfl
theorem redStep_pop {out:List Int} {a x:Int} (h:invB a x=true):redStep (out++[a]) x=out:=by simp [redStep,h]
theorem redStep_push {out:List Int} {a x:Int} (h:invB a x=false):redStep (out++[a]) x=out++[a]++[x]:=by simp [redStep,h]
theorem redStep_len (out:List Int) (x:Int):(redStep out x).length≤out.length+1:=by
 unfold redStep;split
 ·split <;> simp
  omega
 ·simp
theorem red_len (out w:List Int):(red out w).length≤out.length+w.length:=by
 induction w generalizing out with
 | nil=>simp [red]
 | cons x t ih =>
  rw [red_cons];have h1:=ih (redStep out x);have h2:=redStep_len out x;simp;omega
section
open Go.RowKit
def ints (xs:List Int):List Value:=xs.map (Value.int .i64)
theorem ints_len (xs:List Int):(ints xs).length=xs.length:=by simp [ints]
theorem ints_append (xs ys:List Int):ints (xs++ys)=ints xs++ints ys:=by simp [ints]
theorem ints_get (xs:List Int) (k:Nat):(ints xs)[k]?=(xs[k]?).map (Value.int .i64):=by simp [ints]
def Rs (w:World) (B:Nat) (A:Option Addr) (cs:List Value):Prop :=
 cs≠[]→∃ b off,A=some ⟨b,off,none⟩∧b < B∧∀ j u,cs[j]?=some u→w.cell? ⟨b,off+j,none⟩=some u
section
variable {w w' w0:World} {B B':Nat} {A:Option Addr} {cs:List Value}
theorem Rs.keep (h:Rs w B A cs) (hk:∀ p:Addr,p.block < B→w'.cell? p=w.cell? p):Rs w' B A cs:=fun hn=>by
 obtain ⟨b,off,e,hb,hc⟩:=h hn;exact ⟨b,off,e,hb,fun j u hu=>(hk _ hb).trans (hc j u hu)⟩
theorem Rs.more (h:Rs w B A cs) (hB:B≤B'):Rs w B' A cs:=fun hn=>by
 obtain ⟨b,off,e,hb,hc⟩:=h hn;exact ⟨b,off,e,by omega,hc⟩
theorem Rs.below (h:Rs w B A cs) (hb:Below B w w'):Rs w' B A cs:=h.keep fun _ hp=>hb.cell hp
theorem Rs.drewN (h:Rs w B A cs) (k:Nat):Rs (w.drewN k) B A cs:=h
theorem Rs.alloc (h:Rs w B A cs) (hB:B≤w.heap.size) (o:Obj):Rs (w.alloc o) B A cs:=h.keep fun p hp=>World.cell?_alloc_lt w o p (by omega)
theorem Rs.of_own {base:Nat} {e:TypeId} {size n c:Nat} (h:w.ownsRow base e size (.slice A n c) n cs):Rs w w.heap.size A cs:=fun hn=>by
 rcases h.2 with ⟨hv,h0⟩ | ⟨g,cap,cur,hv,hg,hh,hnc,hcm,hcs,htake⟩
 ·subst h0
  exact absurd (List.eq_nil_of_length_eq_zero (by simpa using h.1)) hn
 ·injection hv with hA _ hc
  subst hA;subst hc;refine ⟨g,0,rfl,(Array.getElem?_eq_some_iff.1 hh).1,fun j u hu=>?_⟩;rw [Nat.zero_add];have hjl:=(List.getElem?_eq_some_iff.1 hu).1;rw [h.cellAt j (by have:=h.1;omega)];exact hu
theorem Rs.at (h:Rs w B A cs) {j:Nat} (hj:j < cs.length):∃ b off u,A=some ⟨b,off,none⟩∧b < B∧cs[j]?=some u∧w.cell? ⟨b,off+j,none⟩=some u:=by
 obtain ⟨b,off,e,hb,hc⟩:=h (by intro h0;subst h0;simp at hj);exact ⟨b,off,cs[j],e,hb,List.getElem?_eq_getElem hj,hc j _ (List.getElem?_eq_getElem hj)⟩
theorem Rs.drop (h:Rs w B A cs) {k n cap:Nat} (size:Nat) (hn:cs.length=n * size) (hc:n≤cap) :
  Rs w B (if cap=k then A else A.map (·.add (k * size))) (cs.drop (k * size)):=by
 intro hne;have hlt:k * size < cs.length:=by
  rcases Nat.lt_or_ge (k * size) cs.length with h1 | h1
  ·exact h1
  ·exact absurd (List.drop_eq_nil_of_le h1) hne
 obtain ⟨b,off,rfl,hb,hcell⟩:=h (by intro h0;subst h0;simp at hlt);have hk:¬ cap=k:=by
  intro e;subst e;rw [hn] at hlt;exact absurd (Nat.lt_of_mul_lt_mul_right hlt) (by omega)
 rw [if_neg hk];refine ⟨b,off+k * size,?_,hb,fun j u hu=>?_⟩
 ·simp [Addr.add]
 ·rw [Nat.add_assoc]
  exact hcell _ u (by rw [← hu,List.getElem?_drop])
theorem Rs.take (h:Rs w B A cs) (k:Nat):Rs w B A (cs.take k):=fun hne=>by
 obtain ⟨b,off,e,hb,hc⟩:=h (by intro h0;subst h0;simp at hne);refine ⟨b,off,e,hb,fun j u hu=>hc j u ?_⟩;rw [List.getElem?_take] at hu;split at hu
 ·exact hu
 ·cases hu
end
theorem below_of_grown {w w':World} {row:Option Nat} (hg:w.grownBy w' row) {B:Nat} (hB:B≤w.heap.size) (hr:∀ g,row=some g→B≤g):Below B w w' :=
 (Below.refl B w).grown hg hB hr
theorem below_none {w w':World} (hg:w.grownBy w' none):Below w.heap.size w w':=below_of_grown hg (Nat.le_refl _) (by intro g h;cases h)
theorem below_drewN {B:Nat} {a w:World} (h:Below B a w) (n:Nat):Below B a (w.drewN n):=⟨h.os,h.tape,h.output,h.size,h.block⟩
theorem grown_trans {a b c:World} {row:Option Nat} (h:a.grownBy b row) (k:b.grownBy c row):a.grownBy c row :=
 ⟨k.os.trans h.os,k.tape.trans h.tape,k.output.trans h.output,Nat.le_trans h.size k.size,
  fun i hi hn=>(k.block i (Nat.lt_of_lt_of_le hi h.size) hn).trans (h.block i hi hn)⟩
theorem grown_of_below {a w:World} (h:Below a.heap.size a w) (row:Option Nat):a.grownBy w row:=⟨h.os,h.tape,h.output,h.size,fun i hi _=>h.block i hi⟩
section
variable {w w':World} {base:Nat} {e:TypeId} {size:Nat} {v:Value} {n:Nat} {xs:List Value}
theorem owns_base {base':Nat} (h:w.ownsRow base e size v n xs) (hb:base'≤base):w.ownsRow base' e size v n xs:=by
 refine ⟨h.1,?_⟩;rcases h.2 with hn | ⟨g,cap,cur,rfl,hbg,rest⟩
 ·exact .inl hn
 ·exact .inr ⟨g,cap,cur,rfl,by omega,rest⟩
theorem owns_shape (h:w.ownsRow base e size v n xs):∃ A c,v=.slice A n c∧n≤c∧c≤maxLen:=by
 rcases h.2 with ⟨rfl,rfl⟩ | ⟨g,cap,cur,rfl,_,_,hnc,hcm,_⟩
 ·exact ⟨none,0,rfl,Nat.le_refl _,Nat.zero_le _⟩
 ·exact ⟨_,cap,rfl,hnc,hcm⟩
end
theorem owns_empty (w:World) (e:TypeId) (size:Nat):(w.alloc (.cells #[] e)).ownsRow w.heap.size e size (.slice (some ⟨w.heap.size,0,none⟩) 0 0) 0 [] :=
 World.ownsRow_lit (size:=size) w #[] 0 (Nat.le_refl _) (Nat.zero_le _) (by simp)
theorem owns_drewN {w:World} {base:Nat} {e:TypeId} {size:Nat} {v:Value} {n:Nat} {xs:List Value} (h:w.ownsRow base e size v n xs) (k:Nat):(w.drewN k).ownsRow base e size v n xs:=h
theorem dn (w:World) (a b:Nat):(w.drewN a).drewN b=w.drewN (a+b):=World.drewN_drewN _ _ _
theorem owns_row {w w':World} {row:Option Nat} {n:Nat} (h:(w.drewN n).grownBy w' row):w.grownBy w' row:=⟨h.os,h.tape,h.output,h.size,h.block⟩
def RetI (eI:TypeId) (xs:List Int) (w:World) (e:Ending) (w':World):Prop :=
 ∃ A c,e=.returned (.slice A xs.length c)∧w'.ownsRow w.heap.size eI 1 (.slice A xs.length c) xs.length (ints xs)∧Below w.heap.size w w'
theorem RetI.mk {eI:TypeId} {xs:List Int} {w w':World} {v:Value} {n:Nat} (hn:xs.length=n) (h:w'.ownsRow w.heap.size eI 1 v n (ints xs)) (hb:Below w.heap.size w w'):RetI eI xs w (.returned v) w':=by
 subst hn;obtain ⟨A,c,rfl, -, -⟩:=owns_shape h;exact ⟨A,c,rfl,h,hb⟩
section
variable {P:Program} {W:World} {ops:Array Oper} {rest:List Oper} {o:Oper} {a:Act} {Q:Exit→Act→World→Prop}
theorem wpList_push (hgd:o.guard=none) (s x:Operand) (t:TypeId)
  (ho:o.op=.call { callee:=.builtin .append,args:=#[s,x],argTypes:=#[t,t] })
  (base:Nat) (e:TypeId) (z:Value) (size bytes:Nat) (ht:P.underlying t=some (.slice e)) (hinfo:(P.info? e).map (fun i=>(i.zero,i.size,i.bytes))=some (some z,size,bytes))
  (hzs:z.cells.size=size) (hsz:0 < size)
  (v:Value) (n:Nat) (xs:List Value) (hs:a.eval s=v) (hown:W.ownsRow base e size v n xs)
  (m:Nat) (news:List Value) (hx:a.eval x=.slice (some ⟨W.heap.size,0,none⟩) m m) (hl:news.length=m * size) (h1:∀ u∈news,u.oneCell'=true)
  (h63:n+m≤maxLen) (hbytes:(n+m) * bytes≤140737488355328) (hbase:base≤W.heap.size)
  (h:∀ v' w',w'.ownsRow base e size v' (n+m) (xs++news)→W.grownBy w' v.ownBlock→(v'.ownBlock=v.ownBlock ∨ v'.ownBlock=some (W.heap.size+1))→wpList P ops Q rest (a.put o.dst v') w') :
  wpList P ops Q (o :: rest) a (W.alloc (.cells news.toArray e)):=by
 obtain ⟨i,hi,hz,hsize,hby⟩:=info_parts hinfo;refine wpList_append_own_at _ hgd s x t ho base e i z size bytes ht hi hz hsize hby hzs hsz v n xs hs (hown.alloc _) ⟨W.heap.size,0,none⟩ m m news hx hl ?_ h1 h63 hbytes (by simp;omega) ?_
 ·intro j u hu
  rw [Addr.add_lit,Nat.zero_add,World.cell?_alloc_new]
  simpa using hu
 ·intro v' w' h2 h3 _ h4
  exact h v' w' h2 (grown_trans (World.grownBy_alloc W _ _) h3) (by simpa using h4)
theorem run_append_none (base:Nat) (t ty e:TypeId) (i:TypeInfo) (size:Nat) (ht:P.underlying t=some (.slice e)) (hi:P.info? e=some i)
  (v:Value) (n:Nat) (xs:List Value) (hown:W.ownsRow base e size v n xs) (c:Nat):(Builtin.append_ #[t,t] ty #[v,.slice none 0 c]).run P W=.ok v W:=by
 rcases hown.2 with ⟨rfl,rfl⟩ | ⟨g,cap,cur,rfl,_,_,hnc,_⟩
 ·simp [Builtin.append_,run_underlying ht,sizeOf,typeInfo,hi,Builtin.lenOf,Builtin.firstCells]
 ·simp [Builtin.append_,run_underlying ht,sizeOf,typeInfo,hi,Builtin.lenOf,Builtin.firstCells,hnc,storeCells]
theorem wpList_cat (hgd:o.guard=none) (s x:Operand) (t:TypeId)
  (ho:o.op=.call { callee:=.builtin .append,args:=#[s,x],argTypes:=#[t,t] })
  (base:Nat) (e:TypeId) (z:Value) (size bytes:Nat) (ht:P.underlying t=some (.slice e)) (hinfo:(P.info? e).map (fun i=>(i.zero,i.size,i.bytes))=some (some z,size,bytes))
  (hzs:z.cells.size=size) (hsz:0 < size)
  (v:Value) (n:Nat) (xs:List Value) (hs:a.eval s=v) (hown:W.ownsRow base e size v n xs)
  (A:Option Addr) (m c B:Nat) (news:List Value) (hx:a.eval x=.slice A m c) (hr:Rs W B A news) (hl:news.length=m * size) (h1:∀ u∈news,u.oneCell'=true)
  (h63:n+m≤maxLen) (hbytes:(n+m) * bytes≤140737488355328) (hbase:base≤W.heap.size)
  (h:∀ v' w',w'.ownsRow base e size v' (n+m) (xs++news)→W.grownBy w' v.ownBlock→(v'.ownBlock=v.ownBlock ∨ v'.ownBlock=some W.heap.size)→wpList P ops Q rest (a.put o.dst v') w') :
  wpList P ops Q (o :: rest) a W:=by
 obtain ⟨i,hi,hz,hsize,hby⟩:=info_parts hinfo;cases A with
 | none =>
  have hn:news=[]:=by
   cases hne:news with
   | nil=>rfl
   | cons u r =>
    obtain ⟨b,off,he,_⟩:=hr (by rw [hne];simp);cases he
  subst hn;have hm:m=0:=by
   rcases Nat.eq_zero_or_pos m with h0 | h0
   ·exact h0
   ·have:=Nat.mul_pos h0 hsz
    simp at hl;omega
  subst hm;refine wpList_plain hgd fun K hK=>?_;have hrun:=run_append_none (P:=P) (W:=W) base t o.type e i size ht hi v n xs hown c;unfold Oper.wp;simp [execOp,ho,resolve,invoke,builtin,hs,hx,hrun,Result.andThen];exact hK _ _ (h v W (by simpa using hown) (World.grownBy.refl W _) (Or.inl rfl))
 | some ad =>
  refine wpList_append_own_at _ hgd s x t ho base e i z size bytes ht hi hz hsize hby hzs hsz v n xs hs hown ad m c news hx hl ?_ h1 h63 hbytes hbase ?_
  ·intro j u hu
   obtain ⟨b,off,he,_,hc⟩:=hr (by intro h0;subst h0;simp at hu);injection he with he
   subst he;rw [Addr.add_lit];exact hc j u hu
  ·intro v' w' h2 h3 _ h4
   exact h v' w' h2 h3 h4
theorem wpList_mk (hgd:o.guard=none) (l c:Operand) (t:TypeId) (hop:o.op=Op.makeSlice t l c)
  (e:TypeId) (z:Value) (bytes:Nat) (ht:P.underlying t=some (.slice e)) (hinfo:(P.info? e).map (fun i=>(i.zero,i.size,i.bytes))=some (some z,1,bytes)) (hz1:z.cells=#[z])
  (kl kc:IntKind) (L C:Int) (n:Nat) (hl:a.eval l=.int kl L) (hc:a.eval c=.int kc C) (hL:L=(n:Int)) (hC:C=(n:Int)) (b2:bytes * n≤281474976710656) (b3:n≤maxLen)
  (hK:∀ w',w'.ownsRow W.heap.size e 1 (.slice (some ⟨W.heap.size,0,none⟩) n n) n (List.replicate n z)→W.grownBy w' none→W.heap.size < w'.heap.size→wpList P ops Q rest (a.put o.dst (.slice (some ⟨W.heap.size,0,none⟩) n n)) w') :
  wpList P ops Q (o :: rest) a W:=by
 obtain ⟨i,hi,hz,hsize,hby⟩:=info_parts hinfo;refine wpList_make_full W hgd l c t hop W.heap.size e i z 1 ht hi hz hsize kl kc L C n hl hc hL hC (by rw [hby];exact b2) b3 (Nat.le_refl _) ?_;intro w' h1 h2;rw [hz1,Nat.mul_one,toList_madeCells_one] at h1;exact hK w' h1 h2 ((h1.lt W.heap.size rfl).2)
end
section
variable {w w' w0:World} {base B:Nat} {e:TypeId} {g n cap:Nat} {xs ys:List Value}
theorem owns_set (h:w.ownsRow base e 1 (.slice (some ⟨g,0,none⟩) n cap) n xs) (j:Nat) (u:Value) (hy:xs.set j u=ys) :
  (w.setCell ⟨g,j,none⟩ u).ownsRow base e 1 (.slice (some ⟨g,0,none⟩) n cap) n ys:=by
 subst hy;exact (h.stored j u).1
theorem owns_cell (h:w.ownsRow base e 1 (.slice (some ⟨g,0,none⟩) n cap) n xs) {j:Nat} (hj:j < n):∃ u,xs[j]?=some u∧w.cell? ⟨g,j,none⟩=some u:=by
 have hl:j < xs.length:=by have:=h.1;omega
 exact ⟨xs[j],List.getElem?_eq_getElem hl,(h.cellAt j (by omega)).trans (List.getElem?_eq_getElem hl)⟩
end
theorem set_mid {α:Type} (xs ys:List α) (y x:α):(xs++y :: ys).set xs.length x=(xs++[x])++ys:=by simp
theorem owns_addr {w:World} {base:Nat} {e:TypeId} {size:Nat} {A:Option Addr} {n c:Nat} {xs:List Value} (h:w.ownsRow base e size (.slice A n c) n xs) (hn:0 < n) :
  ∃ g,A=some ⟨g,0,none⟩∧base≤g∧g < w.heap.size:=by
 rcases h.2 with ⟨_,h0⟩ | ⟨g,cap,cur,hv,hbg,hh,_⟩
 ·omega
 ·injection hv with hA
  exact ⟨g,hA,hbg,(Array.getElem?_eq_some_iff.1 hh).1⟩
theorem set_over {α:Type} (ys xs:List α) (u:α) {k:Nat} (hy:ys.length=k) (h:k < xs.length):(ys++xs.drop k).set k u=(ys++[u])++xs.drop (k+1):=by
 subst hy;rw [List.drop_eq_getElem_cons h,set_mid]
theorem grown_setCell {a w:World} {g:Nat} (h:a.grownBy w (some g)) (i:Nat) (u:Value):a.grownBy (w.setCell ⟨g,i,none⟩ u) (some g) :=
 ⟨h.os,h.tape,h.output,by simpa [World.setCell] using h.size,fun k hk hne=>(Below.heap_setCell w _ u k (by rintro rfl;exact hne rfl)).trans (h.block k hk hne)⟩
theorem one_of_ints (xs:List Int):∀ u∈ints xs,u.oneCell'=true:=ints_oneCell .i64 xs
def upto (k:Nat):List Int:=(List.range k).map (fun (i:Nat)=>(i:Int))
theorem upto_succ (k:Nat):upto (k+1)=upto k++[(k:Int)]:=by simp [upto,List.range_succ]
theorem upto_len (k:Nat):(upto k).length=k:=by simp [upto]
def marks (k:Int) (n:Nat):List Int:=(List.range n).map (fun (i:Nat)=>k+(i:Int))
theorem take_succ_of {α:Type} (xs:List α) {k:Nat} {x:α} (h:xs[k]?=some x):xs.take (k+1)=xs.take k++[x]:=by
 rw [List.take_add_one,h];rfl
theorem drop_of {α:Type} (xs:List α) {k:Nat} {x:α} (h:xs[k]?=some x):xs.drop k=x :: xs.drop (k+1):=by
 obtain ⟨hk,rfl⟩:=List.getElem?_eq_some_iff.1 h;exact List.drop_eq_getElem_cons hk
theorem get_of_lt {α:Type} (xs:List α) {k:Nat} (h:k < xs.length):∃ x,xs[k]?=some x:=⟨_,List.getElem?_eq_getElem h⟩
theorem Rs.int {w:World} {B:Nat} {A:Option Addr} {xs:List Int} (h:Rs w B A (ints xs)) {k:Nat} (hk:k < xs.length) :
  ∃ b off x,A=some ⟨b,off,none⟩∧b < B∧xs[k]?=some x∧w.cell? ⟨b,off+k,none⟩=some (.int .i64 x):=by
 obtain ⟨b,off,u,e,hb,hu,hc⟩:=h.at (j:=k) (by simpa [ints] using hk);rw [ints_get] at hu;obtain ⟨x,hx⟩:=get_of_lt xs hk;rw [hx] at hu;simp at hu;subst hu;exact ⟨b,off,x,e,hb,hx,hc⟩
section
variable {P:Program} {f:FuncId} {args:Array Value} {v:Value}
theorem qz0 {W:World} {n:Nat} (h:Calls P f args (W.drewN n) fun e w'=>e=.returned v∧∃ m,w'=(W.drewN n).drewN m) :
  Calls P f args (W.drewN n) fun e w''=>e=.returned v∧∃ m,w''=W.drewN m:=Calls.quiet_of h
theorem qz1 {w:World} {a n:Nat} (h:Calls P f args (w.drewN (a+n)) fun e w'=>e=.returned v∧∃ m,w'=(w.drewN (a+n)).drewN m) :
  Calls P f args (w.drewN (a+n)) fun e w''=>e=.returned v∧∃ m,w''=w.drewN (a+m) :=
 h.mono fun _ _ ⟨he,m,hm⟩=>⟨he,n+m,by rw [hm,World.drewN_drewN,Nat.add_assoc]⟩
theorem pq {W:World} (h:Calls P f args W fun e w'=>e=.returned v∧W=w'):Calls P f args W fun e w'=>e=.returned v∧∃ m,w'=W.drewN m :=
 h.mono fun _ _ ⟨he,hw⟩=>⟨he,0,hw ▸ rfl⟩
end
end
section
open Go.RowKit
def OkI (xs:List Int):Prop:=∀ x∈xs, -9223372036854775808≤x∧x≤9223372036854775807
structure Mid (lo hi:Nat) (w w':World):Prop where
 os:w'.os=w.os
 tape:w'.tape=w.tape
 output:w'.output=w.output
 size:w.heap.size≤w'.heap.size
 block:∀ k,k < w.heap.size→¬ (lo≤k∧k < hi)→w'.heap[k]?=w.heap[k]?
theorem Mid.of_grown {lo hi:Nat} {w w':World} {row:Option Nat} (h:w.grownBy w' row) (hr:∀ g,row=some g→lo≤g∧g < hi):Mid lo hi w w' :=
 ⟨h.os,h.tape,h.output,h.size,fun k hk hn=>h.block k hk (fun e=>hn (hr k e.symm))⟩
theorem Mid.trans {lo hi:Nat} {a b c:World} (h:Mid lo hi a b) (k:Mid lo hi b c):Mid lo hi a c :=
 ⟨k.os.trans h.os,k.tape.trans h.tape,k.output.trans h.output,Nat.le_trans h.size k.size,
  fun i hi' hn=>(k.block i (Nat.lt_of_lt_of_le hi' h.size) hn).trans (h.block i hi' hn)⟩
theorem Mid.refl (lo hi:Nat) (w:World):Mid lo hi w w:=⟨rfl,rfl,rfl,Nat.le_refl _,fun _ _ _=>rfl⟩
theorem Mid.of_below {lo hi:Nat} {w w':World} (h:Below w.heap.size w w'):Mid lo hi w w':=⟨h.os,h.tape,h.output,h.size,fun k hk _=>h.block k hk⟩
theorem Mid.drewN {lo hi:Nat} {w w':World} (h:Mid lo hi w w') (n:Nat):Mid lo hi w (w'.drewN n):=⟨h.os,h.tape,h.output,h.size,h.block⟩
theorem Mid.alloc (w:World) (o:Obj):Mid 0 0 w (w.alloc o):=Mid.of_grown (World.grownBy_alloc w o none) (by intro g h;cases h)
theorem Mid.setCell (w:World) {lo hi:Nat} {p:Addr} (u:Value) (h1:lo≤p.block) (h2:p.block < hi):Mid lo hi w (w.setCell p u) :=
 ⟨rfl,rfl,rfl,by simp [World.setCell],fun k _ hn=>Below.heap_setCell w p u k (by rintro rfl;exact hn ⟨h1,h2⟩)⟩
theorem Mid.grownNew {lo hi:Nat} {w wr w':World} {row:Option Nat} (h:Mid lo hi w wr) (hg:wr.grownBy w' row) (hr:∀ g,row=some g→w.heap.size≤g):Mid lo hi w w' :=
 ⟨hg.os.trans h.os,hg.tape.trans h.tape,hg.output.trans h.output,Nat.le_trans h.size hg.size,fun k hk hn =>
  (hg.block k (Nat.lt_of_lt_of_le hk h.size) (fun e=>by have:=hr k e.symm;omega)).trans (h.block k hk hn)⟩
theorem Mid.storeNew {lo hi:Nat} {w wr:World} {p:Addr} (h:Mid lo hi w wr) (hp:w.heap.size≤p.block) (u:Value):Mid lo hi w (wr.setCell p u) :=
 ⟨h.os,h.tape,h.output,by simpa [World.setCell] using h.size,fun k hk hn=>(Below.heap_setCell wr p u k (by omega)).trans (h.block k hk hn)⟩
theorem Mid.zero {lo hi:Nat} {w w':World} (h:Mid 0 0 w w'):Mid lo hi w w':=⟨h.os,h.tape,h.output,h.size,fun k hk _=>h.block k hk (by omega)⟩
theorem Mid.bel {w w':World} (h:Mid 0 0 w w'):Below w.heap.size w w':=⟨h.os,h.tape,h.output,h.size,fun k hk=>h.block k hk (by omega)⟩
def RV (w:World) (lo hi:Nat) (A:Option Addr) (cs:List Value):Prop :=
 hi≤w.heap.size∧(cs≠[]→∃ b off,A=some ⟨b,off,none⟩∧lo≤b∧b < hi∧∀ j u,cs[j]?=some u→w.cell? ⟨b,off+j,none⟩=some u)
theorem RV.rs {w:World} {lo hi:Nat} {A:Option Addr} {cs:List Value} (h:RV w lo hi A cs):Rs w hi A cs:=fun hn=>by
 obtain ⟨b,off,e,_,hb,hc⟩:=h.2 hn;exact ⟨b,off,e,hb,hc⟩
theorem RV.rsS {w:World} {lo hi:Nat} {A:Option Addr} {cs:List Value} (h:RV w lo hi A cs):Rs w w.heap.size A cs:=h.rs.more h.1
theorem RV.of_rs {w:World} {hi:Nat} {A:Option Addr} {cs:List Value} (h:Rs w hi A cs) (hs:hi≤w.heap.size):RV w 0 hi A cs:=⟨hs,fun hn=>by
 obtain ⟨b,off,e,hb,hc⟩:=h hn;exact ⟨b,off,e,Nat.zero_le _,hb,hc⟩⟩
theorem RV.mid {w w':World} {lo hi a b:Nat} {A:Option Addr} {cs:List Value} (h:RV w lo hi A cs) (m:Mid a b w w') (hd:b≤lo ∨ hi≤a):RV w' lo hi A cs :=
 ⟨Nat.le_trans h.1 m.size,fun hn=>by
  obtain ⟨g,off,e,h1,h2,hc⟩:=h.2 hn;have hs:=h.1;exact ⟨g,off,e,h1,h2,fun j u hu=>(World.cell?_of_block (m.block g (by omega) (by omega))).trans (hc j u hu)⟩⟩
theorem RV.wide {w:World} {lo hi lo' hi':Nat} {A:Option Addr} {cs:List Value} (h:RV w lo hi A cs) (h1:lo'≤lo) (h2:hi≤hi') (h3:hi'≤w.heap.size):RV w lo' hi' A cs :=
 ⟨h3,fun hn=>by
  obtain ⟨g,off,e,ha,hb,hc⟩:=h.2 hn;exact ⟨g,off,e,by omega,by omega,hc⟩⟩
def OV (w:World) (lo hi:Nat) (e:TypeId) (size:Nat) (A:Option Addr) (c n:Nat) (cs:List Value):Prop :=
 hi≤w.heap.size∧w.ownsRow lo e size (.slice A n c) n cs∧∀ g,Value.ownBlock (.slice A n c)=some g→g < hi
section
variable {w w':World} {lo hi a b:Nat} {e:TypeId} {size:Nat} {A:Option Addr} {c n:Nat} {cs:List Value}
theorem OV.new {w0:World} (h:w.ownsRow w0.heap.size e size (.slice A n c) n cs):OV w w0.heap.size w.heap.size e size A c n cs :=
 ⟨Nat.le_refl _,h,fun g hg=>(h.lt g hg).2⟩
theorem OV.mid (h:OV w lo hi e size A c n cs) (m:Mid a b w w') (hd:b≤lo ∨ hi≤a):OV w' lo hi e size A c n cs:=by
 refine ⟨Nat.le_trans h.1 m.size,⟨h.2.1.1,?_⟩,h.2.2⟩;rcases h.2.1.2 with hn | ⟨g,cap,cur,hv,hbg,hgg,rest⟩
 ·exact .inl hn
 ·refine .inr ⟨g,cap,cur,hv,hbg,?_,rest⟩
  have hlt:=h.2.2 g (by rw [hv];rfl);rw [m.block g (Array.getElem?_eq_some_iff.1 hgg).1 (by omega)];exact hgg
theorem OV.rv (h:OV w lo hi e size A c n cs):RV w lo hi A cs:=⟨h.1,fun hn=>by
 obtain ⟨g,off,hA,_,hc⟩:=Rs.of_own h.2.1 hn;have hg:Value.ownBlock (.slice A n c)=some g:=by rw [hA];rfl
 exact ⟨g,off,hA,(h.2.1.lt g hg).1,h.2.2 g hg,hc⟩⟩
theorem OV.wide {lo' hi':Nat} (h:OV w lo hi e size A c n cs) (h1:lo'≤lo) (h2:hi≤hi') (h3:hi'≤w.heap.size):OV w lo' hi' e size A c n cs :=
 ⟨h3,owns_base h.2.1 h1,fun g hg=>by have:=h.2.2 g hg;omega⟩
end
theorem owns_ne {w:World} {b b':Nat} {e e':TypeId} {s s':Nat} {v v':Value} {n n':Nat} {xs xs':List Value} (h:w.ownsRow b e s v n xs) (h':w.ownsRow b' e' s' v' n' xs') (hne:e≠e') :
  v.ownBlock=none ∨ v.ownBlock≠v'.ownBlock:=by
 rcases h.2 with ⟨rfl,_⟩ | ⟨g,cap,cur,rfl,_,hg,_⟩
 ·exact .inl rfl
 ·rcases h'.2 with ⟨rfl,_⟩ | ⟨g',cap',cur',rfl,_,hg',_⟩
  ·exact .inr (by simp [Value.ownBlock])
  ·refine .inr fun he=>?_
   have:g=g':=by simpa [Value.ownBlock] using he
   subst this;rw [hg] at hg';injection hg' with hg'
   injection hg' with _ ht
   exact hne ht
theorem grown_of_setCell (w:World) (g j:Nat) (u:Value):w.grownBy (w.setCell ⟨g,j,none⟩ u) (some g):=grown_setCell (World.grownBy.refl w _) j u
structure Row where
 A:Option Addr
 c:Nat
 xs:List Int
def Row.v (r:Row):Value:=.slice r.A r.xs.length r.c
def rowsV (rows:List Row):List Value:=rows.map Row.v
def rowsD (rows:List Row):List (List Int):=rows.map Row.xs
theorem rowsV_len (rows:List Row):(rowsV rows).length=rows.length:=by simp [rowsV]
theorem rowsD_len (rows:List Row):(rowsD rows).length=rows.length:=by simp [rowsD]
theorem rowsV_append (a b:List Row):rowsV (a++b)=rowsV a++rowsV b:=by simp [rowsV]
theorem rowsD_append (a b:List Row):rowsD (a++b)=rowsD a++rowsD b:=by simp [rowsD]
def RSS (w:World) (lo hi:Nat) (A:Option Addr) (xss:List (List Int)):Prop :=
 ∃ rows,rowsD rows=xss∧RV w lo hi A (rowsV rows)∧∀ r∈rows,RV w lo hi r.A (ints r.xs)
section
variable {w w':World} {lo hi a b:Nat} {A:Option Addr} {xss:List (List Int)}
theorem RSS.size (h:RSS w lo hi A xss):hi≤w.heap.size:=by obtain ⟨_,_,h,_⟩:=h;exact h.1
theorem RSS.mid (h:RSS w lo hi A xss) (m:Mid a b w w') (hd:b≤lo ∨ hi≤a):RSS w' lo hi A xss:=by
 obtain ⟨rows,h1,h2,h3⟩:=h;exact ⟨rows,h1,h2.mid m hd,fun r hr=>(h3 r hr).mid m hd⟩
theorem RSS.row (h:RSS w lo hi A xss) {k:Nat} (hk:k < xss.length) :
  ∃ b off A' c' xs,A=some ⟨b,off,none⟩∧lo≤b∧b < hi∧xss[k]?=some xs∧w.cell? ⟨b,off+k,none⟩=some (.slice A' xs.length c')∧RV w lo hi A' (ints xs):=by
 obtain ⟨rows,rfl,h2,h3⟩:=h;rw [rowsD_len] at hk;obtain ⟨b,off,e,hb,hb2,hc⟩:=h2.2 (by intro h0;have:=congrArg List.length h0;rw [rowsV_len] at this;simp at this;subst this;simp at hk);obtain ⟨r,hr⟩:=get_of_lt rows hk;refine ⟨b,off,r.A,r.c,r.xs,e,hb,hb2,by simp [rowsD,hr],hc k _ (by simp [rowsV,hr,Row.v]),h3 r (List.mem_of_getElem? hr)⟩
end
def OwnRows (w:World) (lo hi:Nat) (tI:TypeId) (rows:List Row):Prop :=
 (∀ r∈rows,OV w lo hi tI 1 r.A r.c r.xs.length (ints r.xs))∧rows.Pairwise (fun r s=>r.v.ownBlock=none ∨ r.v.ownBlock≠s.v.ownBlock)
def OSS (w:World) (lo hi:Nat) (tSI tI:TypeId) (A:Option Addr) (c:Nat) (xss:List (List Int)):Prop :=
 hi≤w.heap.size∧∃ rows,rowsD rows=xss∧OV w lo hi tSI 1 A c xss.length (rowsV rows)∧OwnRows w lo hi tI rows
section
variable {w w':World} {lo hi a b:Nat} {tSI tI:TypeId} {A:Option Addr} {c:Nat} {xss:List (List Int)} {rows:List Row}
theorem OwnRows.mid (h:OwnRows w lo hi tI rows) (m:Mid a b w w') (hd:b≤lo ∨ hi≤a):OwnRows w' lo hi tI rows:=⟨fun r hr=>(h.1 r hr).mid m hd,h.2⟩
theorem OwnRows.wide {lo' hi':Nat} (h:OwnRows w lo hi tI rows) (h1:lo'≤lo) (h2:hi≤hi') (h3:hi'≤w.heap.size):OwnRows w lo' hi' tI rows:=⟨fun r hr=>(h.1 r hr).wide h1 h2 h3,h.2⟩
theorem OwnRows.nil:OwnRows w lo hi tI []:=⟨by simp,List.Pairwise.nil⟩
theorem OwnRows.grown {bb:Nat} {e':TypeId} {s':Nat} {v':Value} {n':Nat} {xs':List Value} (h:OwnRows w lo hi tI rows) (ho:w.ownsRow bb e' s' v' n' xs') (hne:tI≠e') (hg:w.grownBy w' v'.ownBlock):OwnRows w' lo hi tI rows :=
 ⟨fun r hr=>by
  obtain ⟨h1,h2,h3⟩:=h.1 r hr;exact ⟨Nat.le_trans h1 hg.size,h2.kept hg (owns_ne h2 ho hne),h3⟩,h.2⟩
theorem OwnRows.push {base hi':Nat} {r:Row} (h:OwnRows w lo hi tI rows) (hr:w.ownsRow base tI 1 r.v r.xs.length (ints r.xs)) (hb:hi≤base) (hl:lo≤base) (hh:hi≤hi') (hs:hi'≤w.heap.size) (hlt:∀ g,r.v.ownBlock=some g→g < hi') :
  OwnRows w lo hi' tI (rows++[r]):=by
 refine ⟨fun s hs'=>?_,?_⟩
 ·rcases List.mem_append.1 hs' with hm | hm
  ·exact (h.1 s hm).wide (Nat.le_refl _) hh hs
  ·simp at hm
   subst hm;exact ⟨hs,owns_base hr hl,hlt⟩
 ·rw [List.pairwise_append]
  refine ⟨h.2,by simp,fun s hsm t ht=>?_⟩;simp at ht;subst ht;cases hv:s.v.ownBlock with
  | none=>exact .inl rfl
  | some g =>
   refine .inr fun e=>?_;have h1:=(h.1 s hsm).2.2 g hv;have h2:=(hr.lt g e.symm).1;omega
theorem OSS.rss (h:OSS w lo hi tSI tI A c xss):RSS w lo hi A xss:=by
 obtain ⟨_,rows,h1,h2,h3⟩:=h;exact ⟨rows,h1,h2.rv,fun r hr=>(h3.1 r hr).rv⟩
end
end
section
open Go.RowKit
def Box (w:World) (b:Nat) (cs:List Value):Prop:=b < w.heap.size∧(∀ i u,cs[i]?=some u→w.cell? ⟨b,i,none⟩=some u)∧∀ i,w.frozen? ⟨b,i,none⟩=false
section
variable {w w':World} {b lo hi:Nat} {cs ys:List Value}
theorem Box.new (w:World) (a:Array Value) (t:TypeId):Box (w.alloc (.cells a t)) w.heap.size a.toList :=
 ⟨by simp,fun i u hu=>(World.cell?_alloc_at _ _ _ _ rfl).trans (by simpa using hu),fun i=>World.frozen?_alloc_at _ _ _ _ rfl⟩
theorem Box.mid (h:Box w b cs) (m:Mid lo hi w w') (hd:b < lo ∨ hi≤b):Box w' b cs :=
 ⟨Nat.lt_of_lt_of_le h.1 m.size,fun i u hu=>(World.cell?_of_block (m.block b h.1 (by omega))).trans (h.2.1 i u hu),fun i=>(World.frozen?_of_block (m.block b h.1 (by omega))).trans (h.2.2 i)⟩
theorem Box.cell (h:Box w b cs) (i:Nat) {u:Value} (hu:cs[i]?=some u):w.cell? ⟨b,i,none⟩=some u:=h.2.1 i u hu
theorem Box.set (h:Box w b cs) (i:Nat) (u:Value) (hi:i < cs.length) (hy:cs.set i u=ys):Box (w.setCell ⟨b,i,none⟩ u) b ys:=by
 subst hy;have hc:=h.2.1 i cs[i] (List.getElem?_eq_getElem hi);refine ⟨by simpa using h.1,fun j v hv=>?_,fun j=>by rw [World.frozen?_setCell];exact h.2.2 j⟩;by_cases hj:j=i
 ·subst hj
  rw [List.getElem?_set_self hi] at hv;rw [World.cell?_setCell_same w _ u hc];exact hv
 ·rw [List.getElem?_set_ne (Ne.symm hj)] at hv
  rw [World.cell?_setCell_other w _ _ u (by intro e;injection e;omega)];exact h.2.1 j v hv
theorem Box.drewN (h:Box w b cs) (n:Nat):Box (w.drewN n) b cs:=h
theorem Mid.of_grownRow {base:Nat} {e:TypeId} {size:Nat} {v:Value} {n:Nat} {xs:List Value} (h:w.ownsRow base e size v n xs) (hg:w.grownBy w' v.ownBlock):Mid base w.heap.size w w' :=
 Mid.of_grown hg fun g hg'=>h.lt g hg'
theorem owns_mid {base:Nat} {e:TypeId} {size:Nat} {v:Value} {n:Nat} {xs:List Value} (h:w.ownsRow base e size v n xs) (m:Mid lo hi w w') (hd:hi≤base ∨ w.heap.size≤lo):w'.ownsRow base e size v n xs:=by
 refine ⟨h.1,?_⟩;rcases h.2 with hn | ⟨g,cap,cur,hv,hbg,hgg,rest⟩
 ·exact .inl hn
 ·refine .inr ⟨g,cap,cur,hv,hbg,?_,rest⟩
  have hlt:=(Array.getElem?_eq_some_iff.1 hgg).1;rw [m.block g hlt (by omega)];exact hgg
theorem Mid.drew1 (w:World):Mid 0 0 w w.drew:=⟨rfl,rfl,rfl,Nat.le_refl _,fun _ _ _=>rfl⟩
theorem Mid.transNew {a b:Nat} {wa:World} (h:Mid lo hi w wa) (m:Mid a b wa w') (ha:w.heap.size≤a ∨ b=0):Mid lo hi w w' :=
 ⟨m.os.trans h.os,m.tape.trans h.tape,m.output.trans h.output,Nat.le_trans h.size m.size,fun k hk hn =>
  (m.block k (Nat.lt_of_lt_of_le hk h.size) (by omega)).trans (h.block k hk hn)⟩
theorem OSS.mk' {tSI tI:TypeId} {A:Option Addr} {c:Nat} {rows:List Row} {n:Nat} {base:Nat} {xss:List (List Int)} (h:w.ownsRow base tSI 1 (.slice A n c) n (rowsV rows)) (hr:OwnRows w base w.heap.size tI rows) (hd:rowsD rows=xss) :
  OSS w base w.heap.size tSI tI A c xss:=by
 have hl:xss.length=n:=by rw [← hd,rowsD_len,← rowsV_len];simpa using h.1
 subst hl;exact ⟨Nat.le_refl _,rows,hd,⟨Nat.le_refl _,h,fun g hg=>(h.lt g hg).2⟩,hr⟩
end
end
theorem infoI:(Tryz.prog.info? 3).map (fun i=>(i.zero,i.size,i.bytes))=some (some (.int .i64 0),1,8):=by kernel_rfl
theorem infoB:(Tryz.prog.info? 4).map (fun i=>(i.zero,i.size,i.bytes))=some (some (.bool false),1,1):=by kernel_rfl
theorem undSI:Tryz.prog.underlying 34=some (.slice 3):=by kernel_rfl
theorem undSB:Tryz.prog.underlying 124=some (.slice 4):=by kernel_rfl
section
open Go.RowKit
def inB (x lo hi:Int):Bool:=decide (lo≤x) && decide (x≤hi)
theorem within_any (x lo hi:Int) (w:World) :
  Calls Tryz.prog 154 #[.int .i64 x,.int .i64 lo,.int .i64 hi] w fun e w'=>e=.returned (.bool (inB x lo hi))∧w=w':=by
 go_enter Tryz.func154,Tryz.ntmps154
 go_wp2_with fail;all_goals
  go_ret;exact ⟨by simp [inB];omega,rfl⟩
theorem l1In_any (x lo hi:Int) (w:World) :
  Calls Tryz.prog 131 #[.int .i64 x,.int .i64 lo,.int .i64 hi] w fun e w'=>e=.returned (.bool (inB x lo hi))∧w=w':=by
 go_enter Tryz.func131,Tryz.ntmps131
 go_wp2_with fail;all_goals
  go_ret;exact ⟨by simp [inB];omega,rfl⟩
end
section
open Go.RowKit
theorem infoSI:(Tryz.prog.info? 34).map (fun i=>(i.zero,i.size,i.bytes))=some (some (.slice none 0 0),1,24):=by kernel_rfl
theorem undSSI:Tryz.prog.underlying 41=some (.slice 34):=by kernel_rfl
def sumL (xss:List (List Int)):Nat:=(xss.map List.length).sum
theorem sumL_append (a b:List (List Int)):sumL (a++b)=sumL a+sumL b:=by simp [sumL]
theorem sumL_one (a:List Int):sumL [a]=a.length:=by simp [sumL]
theorem sumL_take_succ {xss:List (List Int)} {k:Nat} {xs:List Int} (h:xss[k]?=some xs):sumL (xss.take (k+1))=sumL (xss.take k)+xs.length:=by
 rw [take_succ_of xss h,sumL_append,sumL_one]
theorem sumL_take_le (xss:List (List Int)) (k:Nat):sumL (xss.take k)≤sumL xss:=by
 have h:=List.take_append_drop k xss;have:=sumL_append (xss.take k) (xss.drop k);rw [h] at this;omega
theorem len_le_sumL {xss:List (List Int)} {xs:List Int} (h:xs∈xss):xs.length≤sumL xss:=by
 obtain ⟨k,hk⟩:=List.mem_iff_getElem?.1 h;have h1:=sumL_take_succ hk;have h2:=sumL_take_le xss (k+1);omega
end
section
open Go.RowKit
theorem owns_cut {w:World} {base:Nat} {e:TypeId} {size g n cap:Nat} {xs:List Value} (h:w.ownsRow base e size (.slice (some ⟨g,0,none⟩) n cap) n xs) {m:Nat} (hm:m≤n) :
  w.ownsRow base e size (.slice (some ⟨g,0,none⟩) m cap) m (xs.take (m * size)):=by
 have hle:m * size≤n * size:=Nat.mul_le_mul_right _ hm;refine ⟨?_,?_⟩
 ·rw [List.length_take,h.1]
  omega
 ·rcases h.2 with ⟨hv,_⟩ | ⟨g',cap',cur,hv,hbg,hgg,hnc,hcm,hcs,htake⟩
  ·cases hv
  ·refine .inr ⟨g',cap',cur,?_,hbg,hgg,by omega,hcm,hcs,?_⟩
   ·injection hv with h1 _ h3
    rw [h1,h3]
   ·rw [← htake,List.take_take,Nat.min_eq_left hle]
theorem redStep_mem {out:List Int} {x y:Int} (h:y∈redStep out x):y∈out ∨ y=x:=by
 unfold redStep at h;split at h
 ·split at h
  ·exact .inl ((List.dropLast_sublist _).subset h)
  ·simpa using h
 ·simp at h
  exact .inr h
theorem red_mem {out w:List Int} {y:Int} (h:y∈red out w):y∈out ∨ y∈w:=by
 induction w generalizing out with
 | nil=>exact .inl h
 | cons x t ih =>
  rw [red_cons] at h;rcases ih h with h1 | h1
  ·rcases redStep_mem h1 with h2 | rfl
   ·exact .inl h2
   ·exact .inr (List.mem_cons_self)
  ·exact .inr (List.mem_cons_of_mem _ h1)
theorem red_ok {w:List Int} (h:OkI w):OkI (red [] w):=fun x hx=>by
 rcases red_mem hx with h1 | h1
 ·simp at h1
 ·exact h x h1
theorem red_step (w:List Int) {k:Nat} {x:Int} (h:w[k]?=some x) (out:List Int):red out (w.take (k+1))=redStep (red out (w.take k)) x:=by
 rw [take_succ_of w h,red_append]
 rfl
theorem red_nil_len (w:List Int):(red [] w).length≤w.length:=by
 have:=red_len [] w
 simpa using this
theorem sumL_flatten (d:List (List Int)):d.flatten.length=sumL d:=by
 simp [sumL,List.length_flatten]
theorem red_flatten_step (d:List (List Int)) {k:Nat} {xs:List Int} (h:d[k]?=some xs):red [] (d.take (k+1)).flatten=red (red [] (d.take k).flatten) xs:=by
 rw [take_succ_of d h,List.flatten_append,red_append];simp
theorem okI_flatten {d:List (List Int)} (h:∀ xs∈d,OkI xs):OkI d.flatten:=fun x hx=>by
 obtain ⟨xs,h1,h2⟩:=List.mem_flatten.1 hx;exact h xs h1 x h2
theorem eq_concat {α:Type} (l:List α) (h:0 < l.length):∃ ys a,l=ys++[a]:=by
 rcases List.eq_nil_or_concat l with rfl | ⟨ys,a,e⟩
 ·simp at h
 ·exact ⟨ys,a,by rw [e];simp⟩
end
def Lt3 (x:Int):Prop:=x≠0∧-3≤x∧x≤3
def LtW (w:List Int):Prop:=∀ x∈w,Lt3 x
def Rd (w:List Int):Prop:=∀ (a b:List Int) (x:Int),w≠a++x :: -x :: b
theorem Lt3.neg {x:Int} (h:Lt3 x):Lt3 (-x):=by unfold Lt3 at *;omega
theorem Lt3.negI {x:Int} (h:Lt3 x):negI x = -x:=by
 unfold Lt3 at h;unfold Go.Proofs.YthampgpcajmopaaGreat.negI minI;rw [if_neg (by omega)]
theorem LtW.nil:LtW []:=fun x h=>by simp at h
theorem LtW.left {a b:List Int} (h:LtW (a++b)):LtW a:=fun x hx=>h x (List.mem_append_left _ hx)
theorem LtW.right {a b:List Int} (h:LtW (a++b)):LtW b:=fun x hx=>h x (List.mem_append_right _ hx)
theorem LtW.app {a b:List Int} (h:LtW a) (k:LtW b):LtW (a++b):=fun x hx=>(List.mem_append.1 hx).elim (h x) (k x)
theorem LtW.head {x:Int} {t:List Int} (h:LtW (x :: t)):Lt3 x:=h x List.mem_cons_self
theorem LtW.tail {x:Int} {t:List Int} (h:LtW (x :: t)):LtW t:=fun y hy=>h y (List.mem_cons_of_mem _ hy)
theorem LtW.cons {x:Int} {t:List Int} (h:Lt3 x) (k:LtW t):LtW (x :: t):=fun y hy=>by
 rcases List.mem_cons.1 hy with rfl | hy
 ·exact h
 ·exact k y hy
theorem LtW.one {x:Int} (h:Lt3 x):LtW [x]:=LtW.cons h LtW.nil
theorem LtW.red {out w:List Int} (h:LtW out) (k:LtW w):LtW (red out w):=fun x hx=>(red_mem hx).elim (h x) (k x)
theorem invB_lt {x y:Int} (hx:Lt3 x) (hy:Lt3 y):invB x y=true↔x = -y:=by
 rw [invB_iff];unfold Lt3 at *;unfold minI;omega
theorem Rd.nil:Rd []:=fun a b x h=>by simp at h
theorem Rd.one (y:Int):Rd [y]:=fun a b x h=>by
 have:=congrArg List.length h;simp at this;omega
theorem Rd.left {a b:List Int} (h:Rd (a++b)):Rd a:=fun c d x e=>h c (d++b) x (by rw [e];simp)
theorem Rd.right {a b:List Int} (h:Rd (a++b)):Rd b:=fun c d x e=>h (a++c) d x (by rw [e];simp)
theorem snoc_cases {α:Type} (l:List α):l=[] ∨ ∃ t x,l=t++[x]:=by
 rcases List.eq_nil_or_concat l with h | ⟨t,x,h⟩
 ·exact .inl h
 ·exact .inr ⟨t,x,by simpa using h⟩
theorem snoc_inj {α:Type} {a b:List α} {x y:α} (h:a++[x]=b++[y]):a=b∧x=y:=by
 have:=List.append_inj' h rfl;exact ⟨this.1,by simpa using this.2⟩
theorem Rd.snoc {w:List Int} {x:Int} (h:Rd w) (hl:∀ t a,w=t++[a]→a≠-x):Rd (w++[x]):=by
 intro a b y e;rcases snoc_cases b with rfl | ⟨b',z,rfl⟩
 ·have e2:w++[x]=(a++[y])++[-y]:=by rw [e];simp
  obtain ⟨h1,h2⟩:=snoc_inj e2;exact hl a y h1 (by omega)
 ·have e2:w++[x]=(a++y :: -y :: b')++[z]:=by rw [e];simp
  exact h a b' y (snoc_inj e2).1
theorem Rd.last {w:List Int} {a x:Int} (h:Rd (w++[a]++[x])):a≠-x:=fun e=>h w [] a (by rw [e];simp)
theorem Rd.step {out:List Int} {x:Int} (h:Rd out) (hw:LtW out) (hx:Lt3 x):Rd (redStep out x):=by
 rcases snoc_cases out with rfl | ⟨o,a,rfl⟩
 ·rw [redStep_empty]
  exact Rd.one x
 ·have ha:=hw.right.head
  cases hb:invB a x with
  | true=>rw [redStep_pop hb];exact h.left
  | false =>
   rw [redStep_push hb];refine h.snoc fun t b e=>?_;obtain ⟨-,rfl⟩:=snoc_inj e;intro e2;rw [(invB_lt ha hx).2 e2] at hb;cases hb
theorem Rd.red {w:List Int}:∀ {out:List Int},Rd out→LtW out→LtW w→Rd (red out w):=by
 induction w with
 | nil=>exact fun h _ _=>h
 | cons x t ih =>
  intro out h ho hw;rw [red_cons];exact ih (h.step ho hw.head) (LtW.red (w:=[x]) ho (LtW.one hw.head)) hw.tail
theorem red_rd {w:List Int}:∀ {out:List Int},Rd (out++w)→LtW (out++w)→red out w=out++w:=by
 induction w with
 | nil=>intro out _ _;simp [red_nil]
 | cons x t ih =>
  intro out h hw;have hx:=hw.right.head;have e:redStep out x=out++[x]:=by
   rcases snoc_cases out with rfl | ⟨o,a,rfl⟩
   ·rfl
   ·refine redStep_push ?_
    have ha:=hw.left.right.head;cases hb:invB a x with
    | false=>rfl
    | true =>
     have e2:=(invB_lt ha hx).1 hb;exact absurd (by rw [e2];simp) (h o t a)
  rw [red_cons,e,ih (by simpa using h) (by simpa using hw)];simp
theorem red_self {w:List Int} (h:Rd w) (hw:LtW w):red [] w=w:=by
 have:=red_rd (out:=[]) (w:=w) (by simpa using h) (by simpa using hw)
 simpa using this
theorem rd_red {w:List Int} (hw:LtW w):Rd (red [] w):=Rd.nil.red LtW.nil hw
theorem lt_red {w:List Int} (hw:LtW w):LtW (red [] w):=LtW.red LtW.nil hw
theorem red_idem {w:List Int} (hw:LtW w):red [] (red [] w)=red [] w:=red_self (rd_red hw) (lt_red hw)
theorem redStep_inv {out:List Int} {x:Int} (h:Rd out) (hw:LtW out) (hx:Lt3 x):redStep (redStep out x) (-x)=out:=by
 rcases snoc_cases out with rfl | ⟨o,a,rfl⟩
 ·rw [redStep_empty]
  exact redStep_pop (out:=[]) ((invB_lt hx hx.neg).2 (by omega))
 ·have ha:=hw.right.head
  cases hb:invB a x with
  | true =>
   rw [redStep_pop hb];have e:=(invB_lt ha hx).1 hb;rcases snoc_cases o with rfl | ⟨p,b,rfl⟩
   ·rw [redStep_empty,e];rfl
   ·have hb2:=hw.left.right.head
    have:invB b (-x)=false:=by
     cases h2:invB b (-x) with
     | false=>rfl
     | true =>
      have e2:=(invB_lt hb2 hx.neg).1 h2;exact absurd e2 (by rw [← e];exact h.last)
    rw [redStep_push this,e]
  | false =>
   rw [redStep_push hb];exact redStep_pop ((invB_lt hx hx.neg).2 (by omega))
theorem red_pair {out:List Int} {x:Int} (b:List Int) (h:Rd out) (hw:LtW out) (hx:Lt3 x):red out (x :: -x :: b)=red out b:=by
 rw [red_cons,red_cons,redStep_inv h hw hx]
def Eqv (a b:List Int):Prop:=red [] a=red [] b
theorem Eqv.toRed {a:List Int} (ha:LtW a):Eqv (red [] a) a:=red_idem ha
theorem invW_nil:invW []=[]:=rfl
theorem invW_app (a b:List Int):invW (a++b)=invW b++invW a:=by simp [invW]
theorem invW_lt {w:List Int} (h:LtW w):invW w=(w.map (- ·)).reverse:=by
 unfold invW
 congr 1
 exact List.map_congr_left fun x hx=>(h x hx).negI
theorem LtW.inv {w:List Int} (h:LtW w):LtW (invW w):=by
 rw [invW_lt h];intro x hx;rw [List.mem_reverse,List.mem_map] at hx;obtain ⟨y,hy,rfl⟩:=hx;exact (h y hy).neg
theorem invW_invW {w:List Int} (h:LtW w):invW (invW w)=w:=by
 rw [invW_lt h.inv,invW_lt h,List.map_reverse,List.reverse_reverse,List.map_map]
 conv=>rhs;rw [← List.map_id w]
 exact List.map_congr_left fun x _=>by simp
theorem Eqv.symm {a b:List Int} (h:Eqv a b):Eqv b a:=Eq.symm h
theorem Eqv.trans {a b c:List Int} (h:Eqv a b) (k:Eqv b c):Eqv a c:=Eq.trans h k
theorem Rd.inv {w:List Int} (h:Rd w) (hw:LtW w):Rd (invW w):=by
 intro a b x e;have hl:=hw.inv;rw [e] at hl;have ex:Lt3 x:=hl.right.head;have e2:w=invW (a++x :: -x :: b):=by rw [← e,invW_invW hw]
 have e3:a++x :: -x :: b=a++([x]++([-x]++b)):=rfl;rw [e3,invW_app,invW_app,invW_app] at e2;have e4:invW [x]=[-x]:=by simp [invW,ex.negI]
 have e5:invW [-x]=[x]:=by simp [invW,ex.neg.negI]
 rw [e4,e5] at e2;exact h (invW b) (invW a) x (by rw [e2];simp)
structure Ed where
 a:Int
 l:Int
 b:Int
deriving DecidableEq
theorem Ed.ext' {e f:Ed} (h1:e.a=f.a) (h2:e.l=f.l) (h3:e.b=f.b):e=f:=by
 cases e
 cases f
 simp at h1 h2 h3;simp [h1,h2,h3]
def cmpE (e f:Ed):Int:=if cmpI e.a f.a≠0 then cmpI e.a f.a else if cmpI e.l f.l≠0 then cmpI e.l f.l else cmpI e.b f.b
theorem cmpI_zero {a b:Int}:cmpI a b=0↔a=b:=by
 unfold cmpI;split
 ·simp;omega
 ·split
  ·simp;omega
  ·simp;omega
theorem cmpI_neg {a b:Int}:cmpI a b < 0↔a < b:=by
 unfold cmpI;split
 ·simp;omega
 ·split
  ·simp;omega
  ·simp;omega
def LtE (e f:Ed):Prop:=e.a < f.a ∨ (e.a=f.a∧(e.l < f.l ∨ (e.l=f.l∧e.b < f.b)))
theorem cmpE_neg {e f:Ed}:cmpE e f < 0↔LtE e f:=by
 unfold cmpE LtE;by_cases h1:cmpI e.a f.a=0
 ·by_cases h2:cmpI e.l f.l=0
  ·rw [if_neg (by simpa using h1),if_neg (by simpa using h2),cmpI_neg]
   have:=cmpI_zero.1 h1;have:=cmpI_zero.1 h2;omega
  ·rw [if_neg (by simpa using h1),if_pos h2,cmpI_neg]
   have:=cmpI_zero.1 h1;have:e.l≠f.l:=fun h=>h2 (cmpI_zero.2 h);omega
 ·rw [if_pos h1,cmpI_neg]
  have:e.a≠f.a:=fun h=>h1 (cmpI_zero.2 h);omega
theorem cmpE_zero {e f:Ed}:cmpE e f=0↔e=f:=by
 unfold cmpE;constructor
 ·intro h
  split at h
  ·contradiction
  ·split at h
   ·contradiction
   ·exact Ed.ext' (cmpI_zero.1 (by simpa using ‹¬ cmpI e.a f.a≠0›)) (cmpI_zero.1 (by simpa using ‹¬ cmpI e.l f.l≠0›)) (cmpI_zero.1 h)
 ·rintro rfl
  simp [cmpI]
theorem LtE.trans {e f g:Ed} (h:LtE e f) (k:LtE f g):LtE e g:=by unfold LtE at *;omega
theorem LtE.irrefl (e:Ed):¬ LtE e e:=by unfold LtE;omega
theorem LtE.tri (e f:Ed):LtE e f ∨ e=f ∨ LtE f e:=by
 by_cases h:e=f
 ·exact .inr (.inl h)
 ·have:¬ (e.a=f.a∧e.l=f.l∧e.b=f.b):=fun ⟨h1,h2,h3⟩=>h (Ed.ext' h1 h2 h3)
  unfold LtE;omega
theorem LtE.ne {e f:Ed} (h:LtE e f):e≠f:=fun hf=>LtE.irrefl f (hf ▸ h)
theorem LtE.asymm {e f:Ed} (h:LtE e f):¬ LtE f e:=fun k=>LtE.irrefl e (h.trans k)
def Asc (es:List Ed):Prop:=es.Pairwise LtE
theorem asc_ext:∀ {xs ys:List Ed},Asc xs→Asc ys→(∀ e,e∈xs↔e∈ys)→xs=ys
 | [],[],_,_,_=>rfl
 | [],y :: ys,_,_,h=>absurd ((h y).2 (by simp)) (by simp)
 | x :: xs,[],_,_,h=>absurd ((h x).1 (by simp)) (by simp)
 | x :: xs,y :: ys,hx,hy,h=>by
  obtain ⟨hx1,hx2⟩:=List.pairwise_cons.1 hx;obtain ⟨hy1,hy2⟩:=List.pairwise_cons.1 hy;have hxy:x=y:=by
   have h1:=(h x).1 (by simp);have h2:=(h y).2 (by simp);rcases List.mem_cons.1 h1 with rfl | h1
   ·rfl
   ·rcases List.mem_cons.1 h2 with rfl | h2
    ·rfl
    ·exact absurd (hx1 y h2) (hy1 x h1).asymm
  subst hxy;rw [asc_ext hx2 hy2 (fun e=>?_)];have:=h e;simp only [List.mem_cons] at this;constructor
  ·intro he
   rcases this.1 (.inr he) with rfl | h1
   ·exact absurd (hx1 e he) (LtE.irrefl e)
   ·exact h1
  ·intro he
   rcases this.2 (.inr he) with rfl | h1
   ·exact absurd (hy1 e he) (LtE.irrefl e)
   ·exact h1
def putE (e:Ed):List Ed→List Ed
 | []=>[e]
 | f :: t=>if cmpE e f < 0 then e :: f :: t else if cmpE e f=0 then f :: t else f :: putE e t
theorem mem_putE {e x:Ed} {l:List Ed}:x∈putE e l↔x=e ∨ x∈l:=by
 induction l with
 | nil=>simp [putE]
 | cons f t ih =>
  unfold putE;split
  ·simp
  ·split
   ·rename_i h
    rw [cmpE_zero] at h;subst h;simp
   ·simp only [List.mem_cons,ih]
    constructor
    ·rintro (h | h | h)
     ·exact .inr (.inl h)
     ·exact .inl h
     ·exact .inr (.inr h)
    ·rintro (h | h | h)
     ·exact .inr (.inl h)
     ·exact .inl h
     ·exact .inr (.inr h)
theorem asc_putE {e:Ed} {l:List Ed} (h:Asc l):Asc (putE e l):=by
 induction l with
 | nil=>simp [putE,Asc]
 | cons f t ih =>
  obtain ⟨h1,h2⟩:=List.pairwise_cons.1 h;unfold putE;split
  ·rename_i hc
   have hc:=cmpE_neg.1 hc;refine List.pairwise_cons.2 ⟨fun x hx=>?_,h⟩;rcases List.mem_cons.1 hx with rfl | hx
   ·exact hc
   ·exact hc.trans (h1 x hx)
  ·split
   ·exact h
   ·rename_i hc hz
    refine List.pairwise_cons.2 ⟨fun x hx=>?_,ih h2⟩;rcases mem_putE.1 hx with rfl | hx
    ·rcases LtE.tri x f with h3 | h3 | h3
     ·exact absurd (cmpE_neg.2 h3) hc
     ·exact absurd (cmpE_zero.2 h3) hz
     ·exact h3
    ·exact h1 x hx
theorem putE_len (e:Ed) (l:List Ed):(putE e l).length≤l.length+1:=by
 induction l with
 | nil=>simp [putE]
 | cons f t ih =>
  unfold putE;split
  ·simp
  ·split
   ·simp
   ·simp only [List.length_cons];omega
def putAll (l es:List Ed):List Ed:=es.foldl (fun l e=>putE e l) l
def canon (es:List Ed):List Ed:=putAll [] es
theorem putAll_snoc (l es:List Ed) (e:Ed):putAll l (es++[e])=putE e (putAll l es):=by simp [putAll]
theorem mem_putAll {x:Ed} {l es:List Ed}:x∈putAll l es↔x∈l ∨ x∈es:=by
 induction es generalizing l with
 | nil=>simp [putAll]
 | cons e t ih =>
  have:putAll l (e :: t)=putAll (putE e l) t:=rfl;rw [this,ih,mem_putE];simp only [List.mem_cons];constructor
  ·rintro ((h | h) | h)
   ·exact .inr (.inl h)
   ·exact .inl h
   ·exact .inr (.inr h)
  ·rintro (h | h | h)
   ·exact .inl (.inr h)
   ·exact .inl (.inl h)
   ·exact .inr h
theorem asc_putAll {l es:List Ed} (h:Asc l):Asc (putAll l es):=by
 induction es generalizing l with
 | nil=>exact h
 | cons e t ih=>exact ih (asc_putE h)
theorem putAll_len (l es:List Ed):(putAll l es).length≤l.length+es.length:=by
 induction es generalizing l with
 | nil=>simp [putAll]
 | cons e t ih =>
  have:=ih (putE e l);have:=putE_len e l;have h:putAll l (e :: t)=putAll (putE e l) t:=rfl;rw [h];simp only [List.length_cons];omega
theorem mem_canon {x:Ed} {es:List Ed}:x∈canon es↔x∈es:=by simp [canon,mem_putAll]
theorem asc_canon (es:List Ed):Asc (canon es):=asc_putAll List.Pairwise.nil
theorem canon_len (es:List Ed):(canon es).length≤es.length:=by have:=putAll_len [] es;simpa [canon] using this
theorem canon_eq {es fs:List Ed} (h:Asc fs) (hm:∀ e,e∈fs↔e∈es):fs=canon es:=asc_ext h (asc_canon es) fun e=>(hm e).trans mem_canon.symm
theorem putAll_canon {l es:List Ed} (h:Asc l):putAll l es=canon (l++es):=canon_eq (asc_putAll h) fun e=>by rw [mem_putAll,List.mem_append]
theorem canon_congr {es fs:List Ed} (h:∀ e,e∈es↔e∈fs):canon es=canon fs:=canon_eq (asc_canon es) fun e=>mem_canon.trans (h e)
def edI (es:List Ed):List Int:=(es.map fun e=>[e.a,e.l,e.b]).flatten
theorem edI_len (es:List Ed):(edI es).length=es.length * 3:=by
 induction es with
 | nil=>rfl
 | cons m t ih=>simp [edI] at ih ⊢;omega
theorem edI_append (a b:List Ed):edI (a++b)=edI a++edI b:=by simp [edI]
theorem edI_cons (e:Ed) (t:List Ed):edI (e :: t)=e.a :: e.l :: e.b :: edI t:=by simp [edI]
theorem edI_one (e:Ed):edI [e]=[e.a,e.l,e.b]:=by simp [edI]
theorem edI_at {es:List Ed} {k:Nat} {e:Ed} (h:es[k]?=some e):(edI es)[k * 3]?=some e.a∧(edI es)[k * 3+1]?=some e.l∧(edI es)[k * 3+2]?=some e.b:=by
 induction es generalizing k with
 | nil=>simp at h
 | cons m t ih =>
  rw [edI_cons];cases k with
  | zero=>simp at h;subst h;simp
  | succ k =>
   have:=ih (by simpa using h);rw [show (k+1) * 3=k * 3+1+1+1 from by omega]
   simpa using this
theorem edI_take (es:List Ed) (k:Nat):edI (es.take k)=(edI es).take (k * 3):=by
 induction es generalizing k with
 | nil=>simp [edI]
 | cons m t ih =>
  cases k with
  | zero=>simp [edI]
  | succ k =>
   rw [List.take_succ_cons,edI_cons,edI_cons,ih,show (k+1) * 3=k * 3+1+1+1 from by omega];simp
theorem edI_drop (es:List Ed) (k:Nat):edI (es.drop k)=(edI es).drop (k * 3):=by
 induction es generalizing k with
 | nil=>simp [edI]
 | cons m t ih =>
  cases k with
  | zero=>simp
  | succ k =>
   rw [List.drop_succ_cons,edI_cons,ih,show (k+1) * 3=k * 3+1+1+1 from by omega];simp
def InG (r s:Int) (e:Ed):Prop:=0≤e.a∧e.a < s∧0≤e.b∧e.b < s∧1≤e.l∧e.l≤r
structure IsGr (r s:Int) (es:List Ed):Prop where
 rank:1≤r∧r≤3
 size:1≤s∧s≤40
 len:es.length≤120
 all:∀ e∈es,InG r s e
 asc:Asc es
def endOf (v x:Int) (e:Ed):Option Int:=if 0 < x∧e.l=x∧e.a=v then some e.b else if x < 0∧e.l = -x∧e.b=v then some e.a else none
def ends (es:List Ed) (v x:Int):List Int:=es.filterMap (endOf v x)
theorem mem_ends {es:List Ed} {v x u:Int}:u∈ends es v x↔∃ e∈es,endOf v x e=some u:=by simp [ends]
theorem ends_len (es:List Ed) (v x:Int):(ends es v x).length≤es.length:=List.length_filterMap_le _ _
theorem endOf_some {v x u:Int} {e:Ed}:endOf v x e=some u↔(0 < x∧e.l=x∧e.a=v∧e.b=u) ∨ (x < 0∧e.l = -x∧e.b=v∧e.a=u):=by
 unfold endOf;split
 ·rename_i h
  simp;omega
 ·split
  ·rename_i h h'
   simp;omega
  ·simp
   omega
def leastI:List Int→Int
 | []=>-1
 | x :: t=>t.foldl min x
theorem foldl_min_le (t:List Int) (x:Int):t.foldl min x≤x∧(∀ y∈t,t.foldl min x≤y)∧(t.foldl min x=x ∨ t.foldl min x∈t):=by
 induction t generalizing x with
 | nil=>simp
 | cons y t ih =>
  obtain ⟨h1,h2,h3⟩:=ih (min x y);simp only [List.foldl_cons];refine ⟨by omega,?_,?_⟩
  ·intro z hz
   rcases List.mem_cons.1 hz with rfl | hz
   ·omega
   ·exact h2 z hz
  ·rcases h3 with h3 | h3
   ·rcases Int.le_total x y with h | h
    ·left;rw [h3];omega
    ·right;rw [h3,show min x y=y by omega];simp
   ·right;exact List.mem_cons_of_mem _ h3
theorem leastI_mem {l:List Int} (h:l≠[]):leastI l∈l∧∀ y∈l,leastI l≤y:=by
 cases l with
 | nil=>exact absurd rfl h
 | cons x t =>
  obtain ⟨h1,h2,h3⟩:=foldl_min_le t x;refine ⟨?_,?_⟩
  ·rcases h3 with h3 | h3
   ·show t.foldl min x∈_;rw [h3];simp
   ·exact List.mem_cons_of_mem _ h3
  ·intro y hy
   rcases List.mem_cons.1 hy with rfl | hy
   ·exact h1
   ·exact h2 y hy
theorem leastI_eq {l:List Int} {x:Int} (h:x∈l) (hm:∀ y∈l,x≤y):leastI l=x:=by
 have h0:l≠[]:=by intro h0;subst h0;simp at h
 obtain ⟨h1,h2⟩:=leastI_mem h0;have:=h2 x h;have:=hm _ h1;omega
def nextV (es:List Ed) (v x:Int):Int:=leastI (ends es v x)
theorem nextV_none {es:List Ed} {v x:Int} (h:ends es v x=[]):nextV es v x = -1:=by rw [nextV,h];rfl
theorem nextV_edge {es:List Ed} {v x:Int} (h:0≤nextV es v x):∃ e∈es,endOf v x e=some (nextV es v x):=by
 by_cases h0:ends es v x=[]
 ·rw [nextV_none h0] at h;omega
 ·exact mem_ends.1 (leastI_mem h0).1
theorem nextV_cases {r s:Int} {es:List Ed} (hg:∀ e∈es,InG r s e) (v x:Int):nextV es v x = -1 ∨ (0≤nextV es v x∧nextV es v x < s):=by
 by_cases h0:ends es v x=[]
 ·exact .inl (nextV_none h0)
 ·right
  obtain ⟨e,he,h⟩:=mem_ends.1 (leastI_mem h0).1;have:=hg e he;unfold InG at this;have h':endOf v x e=some (nextV es v x):=h;rw [endOf_some] at h';omega
def Clash (e f:Ed):Prop:=e.l=f.l∧(e.a=f.a ∨ e.b=f.b)
instance (e f:Ed):Decidable (Clash e f):=by unfold Clash;infer_instance
theorem Clash.symm {e f:Ed} (h:Clash e f):Clash f e:=by unfold Clash at *;omega
structure IsFol (r s:Int) (es:List Ed):Prop where
 gr:IsGr r s es
 fol:es.Pairwise fun e f=>¬ Clash e f
def foldsAB (e f:Ed):List (Int × Int) :=
 if e.l=f.l then (if e.a=f.a then [(min e.b f.b,max e.b f.b)] else [])++(if e.b=f.b then [(min e.a f.a,max e.a f.a)] else []) else []
def folds:List Ed→List (Int × Int)
 | []=>[]
 | e :: t=>t.flatMap (foldsAB e)++folds t
theorem foldsAB_nil {e f:Ed}:foldsAB e f=[]↔¬ Clash e f:=by
 unfold foldsAB Clash;by_cases h1:e.l=f.l <;> by_cases h2:e.a=f.a <;> by_cases h3:e.b=f.b <;> simp [h1,h2,h3]
theorem folds_nil {es:List Ed}:folds es=[]↔es.Pairwise fun e f=>¬ Clash e f:=by
 induction es with
 | nil=>simp [folds]
 | cons e t ih =>
  rw [List.pairwise_cons,folds,List.append_eq_nil_iff,ih,List.flatMap_eq_nil_iff];simp only [foldsAB_nil]
theorem mem_foldsAB {r s:Int} {e f:Ed} {p:Int × Int} (he:InG r s e) (hf:InG r s f) (hne:e≠f) (h:p∈foldsAB e f):0≤p.1∧p.1 < p.2∧p.2 < s:=by
 unfold foldsAB at h;unfold InG at he hf;have hd:¬ (e.a=f.a∧e.l=f.l∧e.b=f.b):=fun ⟨h1,h2,h3⟩=>hne (Ed.ext' h1 h2 h3);split at h
 ·rcases List.mem_append.1 h with h | h
  ·split at h
   ·simp at h;subst h;simp only [];omega
   ·simp at h
  ·split at h
   ·simp at h;subst h;simp only [];omega
   ·simp at h
 ·simp at h
theorem mem_folds {r s:Int} {es:List Ed} {p:Int × Int} (hg:∀ e∈es,InG r s e) (ha:Asc es) (h:p∈folds es):0≤p.1∧p.1 < p.2∧p.2 < s:=by
 induction es with
 | nil=>simp [folds] at h
 | cons e t ih =>
  obtain ⟨h1,h2⟩:=List.pairwise_cons.1 ha;rcases List.mem_append.1 h with h | h
  ·obtain ⟨f,hf,h⟩:=List.mem_flatMap.1 h
   exact mem_foldsAB (hg e (by simp)) (hg f (by simp [hf])) (h1 f hf).ne h
  ·exact ih (fun f hf=>hg f (by simp [hf])) h2 h
def foldV (p:Int × Int) (v:Int):Int:=if v=p.2 then p.1 else if p.2 < v then v - 1 else v
def foldE (p:Int × Int) (e:Ed):Ed:=⟨foldV p e.a,e.l,foldV p e.b⟩
def mergeE (p:Int × Int) (es:List Ed):List Ed:=canon (es.map (foldE p))
theorem mergeE_gr {r s:Int} {es:List Ed} {p:Int × Int} (hg:IsGr r s es) (h0:0≤p.1) (h1:p.1 < p.2) (h2:p.2 < s):IsGr r (s - 1) (mergeE p es):=by
 refine ⟨hg.rank,?_,?_,?_,asc_canon _⟩
 ·have:=hg.size;omega
 ·have:=canon_len (es.map (foldE p))
  have:=hg.len;simp at *;unfold mergeE;omega
 ·intro e he
  obtain ⟨f,hf,rfl⟩:=List.mem_map.1 (mem_canon.1 he);have h3:=hg.all f hf;have hv:∀ v:Int,0≤v→v < s→0≤foldV p v∧foldV p v < s - 1:=by
   intro v hv0 hv1;unfold foldV;split
   ·omega
   ·split <;> omega
  unfold InG at *;have:=hv f.a (by omega) (by omega);have:=hv f.b (by omega) (by omega);simp only [foldE];omega
def foldA:Nat→Int × List Ed→Int × List Ed
 | 0,g=>g
 | n+1,g=>match folds g.2 with
  | []=>g
  | p :: _=>foldA n (g.1 - 1,mergeE p g.2)
theorem foldA_nil {n:Nat} {g:Int × List Ed} (h:folds g.2=[]):foldA n g=g:=by
 cases n with
 | zero=>rfl
 | succ n=>simp [foldA,h]
theorem foldA_cons {n:Nat} {g:Int × List Ed} {p:Int × Int} {t:List (Int × Int)} (h:folds g.2=p :: t):foldA (n+1) g=foldA n (g.1 - 1,mergeE p g.2):=by simp [foldA,h]
theorem foldA_gr {r:Int}:∀ (n:Nat) {g:Int × List Ed},IsGr r g.1 g.2→IsGr r (foldA n g).1 (foldA n g).2
 | 0,g,h=>h
 | n+1,g,h=>by
  cases hf:folds g.2 with
  | nil=>rw [foldA_nil hf];exact h
  | cons p t =>
   rw [foldA_cons hf];obtain ⟨h0,h1,h2⟩:=mem_folds h.all h.asc (p:=p) (by rw [hf];simp);exact foldA_gr n (mergeE_gr h h0 h1 h2)
theorem foldA_fol:∀ (n:Nat) {r:Int} {g:Int × List Ed},IsGr r g.1 g.2→g.1≤n→folds (foldA n g).2=[]
 | 0,r,g,h,hn=>by have:=h.size;omega
 | n+1,r,g,h,hn=>by
  cases hf:folds g.2 with
  | nil=>rw [foldA_nil hf];exact hf
  | cons p t =>
   rw [foldA_cons hf];obtain ⟨h0,h1,h2⟩:=mem_folds h.all h.asc (p:=p) (by rw [hf];simp);exact foldA_fol n (mergeE_gr h h0 h1 h2) (by simp only [];omega)
def idxI (order:List Int) (v:Int):Int:=if v∈order then (order.idxOf v:Int) else -1
theorem idxI_neg {order:List Int} {v:Int} (h:v ∉ order):idxI order v = -1:=by simp [idxI,h]
theorem idxI_lt {order:List Int} {v:Int} (h:0≤idxI order v):idxI order v < order.length:=by
 unfold idxI at *;split
 ·rename_i hm
  have:=List.idxOf_lt_length_iff.2 hm;omega
 ·rename_i hm
  rw [if_neg hm] at h;omega
theorem idxI_at {order:List Int} {k:Nat} {v:Int} (hn:order.Nodup) (h:order[k]?=some v):idxI order v=k:=by
 have hm:v∈order:=List.mem_of_getElem? h;obtain ⟨hk,h'⟩:=List.getElem?_eq_some_iff.1 h;rw [idxI,if_pos hm,← h',hn.idxOf_getElem k hk]
def partOf (order:List Int) (e:Ed):Option Ed:=if 0≤idxI order e.a∧0≤idxI order e.b then some ⟨idxI order e.a,e.l,idxI order e.b⟩ else none
def partE (order:List Int) (es:List Ed):List Ed:=canon (es.filterMap (partOf order))
theorem partE_gr {r s:Int} {es:List Ed} {order:List Int} (hg:IsGr r s es) (h0:order≠[]) (h40:order.length≤40):IsGr r order.length (partE order es):=by
 have hpos:0 < order.length:=List.length_pos_iff.2 h0;refine ⟨hg.rank,by omega,?_,?_,asc_canon _⟩
 ·have h1:=canon_len (es.filterMap (partOf order))
  have h2:=List.length_filterMap_le (partOf order) es;have h3:=hg.len;unfold partE;omega
 ·intro e he
  obtain ⟨f,hf,h⟩:=List.mem_filterMap.1 (mem_canon.1 he);have h3:=hg.all f hf;unfold partOf at h;split at h
  ·rename_i hc
   injection h with h
   subst h;have:=idxI_lt hc.1;have:=idxI_lt hc.2;unfold InG at *;simp only [];omega
  ·cases h
section
inductive Conn (es:List Ed) (v:Int):Int→Prop
 | here:Conn es v v
 | out {e:Ed}:e∈es→Conn es v e.a→Conn es v e.b
 | inn {e:Ed}:e∈es→Conn es v e.b→Conn es v e.a
theorem conn_iff {es:List Ed} {v:Int} {P:Int→Prop} (h0:P v) (hc:∀ e∈es,P e.a↔P e.b) (hs:∀ u,P u→Conn es v u) (u:Int):P u↔Conn es v u:=by
 refine ⟨hs u,fun h=>?_⟩
 induction h with
 | here=>exact h0
 | out he _ ih=>exact (hc _ he).1 ih
 | inn he _ ih=>exact (hc _ he).2 ih
def degE (v:Int) (e:Ed):Nat:=(if e.a=v then 1 else 0)+(if e.b=v then 1 else 0)
def deg (es:List Ed) (v:Int):Nat:=(es.map (degE v)).sum
theorem deg_take_succ {es:List Ed} {k:Nat} {e:Ed} (h:es[k]?=some e) (v:Int):deg (es.take (k+1)) v=deg (es.take k) v+degE v e:=by
 obtain ⟨hk,h'⟩:=List.getElem?_eq_some_iff.1 h;rw [List.take_succ_eq_append_getElem hk,h'];simp [deg]
theorem deg_le (es:List Ed) (v:Int):deg es v≤2 * es.length:=by
 induction es with
 | nil=>simp [deg]
 | cons e t ih =>
  have h:deg (e :: t) v=degE v e+deg t v:=by simp [deg]
  have:degE v e≤2:=by unfold degE;split <;> split <;> omega
  simp only [List.length_cons];omega
def Bad (es:List Ed) (v:Int):Prop:=deg es v < 2 ∨ ¬ Conn es 0 v
open Classical in
noncomputable def leaf (s:Int) (es:List Ed):Option Nat:=((List.range s.toNat).drop 1).find? fun v=>decide (Bad es (v:Int))
theorem find_drop_range {p:Nat→Bool} (n k:Nat) (hk:k < n) (hp:p k=true):∀ m,m≤k→(∀ u,m≤u→u < k→p u=false)→((List.range n).drop m).find? p=some k:=by
 intro m hm;obtain ⟨d,hd⟩:∃ d,k=m+d:=⟨k - m,by omega⟩
 induction d generalizing m with
 | zero =>
  intro _;obtain rfl:k=m:=by omega
  rw [List.drop_eq_getElem_cons (by simpa using hk)];simp [hp]
 | succ d ih =>
  intro hu;rw [List.drop_eq_getElem_cons (by simp;omega)];have h1:=hu m (Nat.le_refl _) (by omega);simp only [List.getElem_range,List.find?_cons,h1];exact ih (m+1) (by omega) (by omega) (fun u h2 h3=>hu u (by omega) h3)
theorem leaf_some {s:Int} {es:List Ed} {v:Nat} (h1:1≤v) (h2:(v:Int) < s) (hb:Bad es v) (hu:∀ u:Nat,1≤u→u < v→¬ Bad es u):leaf s es=some v :=
 find_drop_range _ v (by omega) (by simpa using hb) 1 h1 fun u h h'=>by simpa using hu u h h'
theorem leaf_none {s:Int} {es:List Ed} (hu:∀ u:Nat,1≤u→(u:Int) < s→¬ Bad es u):leaf s es=none:=by
 refine List.find?_eq_none.2 fun u hm=>?_;have h1:u < s.toNat:=List.mem_range.1 (List.mem_of_mem_drop hm);have h2:1≤u:=by
  obtain ⟨k,hk,h⟩:=List.mem_iff_getElem.1 hm;simp at h;omega
 simpa using hu u h2 (by omega)
theorem leaf_spec {s:Int} {es:List Ed} {v:Nat} (h:leaf s es=some v):1≤v∧(v:Int) < s∧Bad es v:=by
 have hm:=List.mem_of_find?_eq_some h;have h1:v < s.toNat:=List.mem_range.1 (List.mem_of_mem_drop hm);have h3:Bad es v:=by simpa using List.find?_some h
 refine ⟨?_,by omega,h3⟩;obtain ⟨k,hk,h⟩:=List.mem_iff_getElem.1 hm;simp at h;omega
theorem leaf_cases (s:Int) (es:List Ed):(leaf s es=none∧∀ u:Nat,1≤u→(u:Int) < s→¬ Bad es u) ∨ ∃ v:Nat,leaf s es=some v∧1≤v∧(v:Int) < s∧Bad es v∧∀ u:Nat,1≤u→u < v→¬ Bad es u:=by
 by_cases h:∃ v:Nat,1≤v∧(v:Int) < s∧Bad es v
 ·right
  obtain ⟨v,hv⟩:=h
  induction v using Nat.strongRecOn with
  | _ v ih =>
   by_cases hu:∃ u:Nat,1≤u∧u < v∧Bad es u
   ·obtain ⟨u,h1,h2,h3⟩:=hu
    exact ih u h2 ⟨h1,by omega,h3⟩
   ·have hall:∀ u:Nat,1≤u→u < v→¬ Bad es u:=fun u h1 h2 h3=>hu ⟨u,h1,h2,h3⟩
    exact ⟨v,leaf_some hv.1 hv.2.1 hv.2.2 hall,hv.1,hv.2.1,hv.2.2,hall⟩
 ·left
  have hall:∀ u:Nat,1≤u→(u:Int) < s→¬ Bad es u:=fun u h1 h2 h3=>h ⟨u,h1,h2,h3⟩;exact ⟨leaf_none hall,hall⟩
def but (v k:Nat):List Int:=((List.range k).filter (· != v)).map Int.ofNat
theorem but_succ (v k:Nat):but v (k+1)=if k=v then but v k else but v k++[(k:Int)]:=by
 unfold but;rw [List.range_succ,List.filter_append];by_cases h:k=v
 ·simp [h]
 ·simp [h]
theorem but_le (v:Nat):∀ k,k≤v→(but v k).length=k
 | 0,_=>by simp [but]
 | k+1,h=>by rw [but_succ,if_neg (by omega)];simp [but_le v k (by omega)]
theorem but_len (v:Nat) {k:Nat} (h:v < k):(but v k).length=k - 1:=by
 induction k with
 | zero=>omega
 | succ k ih =>
  rw [but_succ];by_cases hk:k=v
  ·rw [if_pos hk,hk,but_le v v (Nat.le_refl _)];omega
  ·rw [if_neg hk];simp;rw [ih (by omega)];omega
theorem but_nodup (v k:Nat):(but v k).Nodup:=by
 unfold but;refine List.Pairwise.map _ (fun a b h=>?_) (List.Pairwise.filter _ List.nodup_range);intro he;exact h (by injection he)
theorem mem_but {v k:Nat} {x:Int}:x∈but v k↔∃ u:Nat,u < k∧u≠v∧x=(u:Int):=by
 unfold but;simp only [List.mem_map,List.mem_filter,List.mem_range,bne_iff_ne];constructor
 ·rintro ⟨u,⟨h1,h2⟩,rfl⟩;exact ⟨u,h1,h2,rfl⟩
 ·rintro ⟨u,h1,h2,rfl⟩;exact ⟨u,⟨h1,h2⟩,rfl⟩
theorem but_range {v k:Nat} {x:Int} (h:x∈but v k):0≤x∧x < k:=by
 obtain ⟨u,h1,h2,rfl⟩:=mem_but.1 h;omega
def cutV (g:Int × List Ed) (v:Nat):Int × List Ed:=(((but v g.1.toNat).length:Int),partE (but v g.1.toNat) g.2)
theorem cutV_size {g:Int × List Ed} {v:Nat} (h:(v:Int) < g.1):(cutV g v).1=g.1 - 1:=by
 show ((but v g.1.toNat).length:Int)=_
 rw [but_len v (by omega)];omega
theorem cutV_gr {r:Int} {g:Int × List Ed} {v:Nat} (hg:IsGr r g.1 g.2) (h1:1≤v) (h2:(v:Int) < g.1):IsGr r (cutV g v).1 (cutV g v).2:=by
 have hl:=but_len v (show v < g.1.toNat by omega);have:=hg.size;refine partE_gr hg ?_ (by omega);intro h0;rw [h0] at hl;simp at hl;omega
noncomputable def trimA:Nat→Int × List Ed→Int × List Ed
 | 0,g=>g
 | n+1,g=>match leaf g.1 g.2 with
  | none=>g
  | some v=>trimA n (cutV g v)
theorem trimA_none {n:Nat} {g:Int × List Ed} (h:leaf g.1 g.2=none):trimA n g=g:=by
 cases n with
 | zero=>rfl
 | succ n=>simp [trimA,h]
theorem trimA_some {n:Nat} {g:Int × List Ed} {v:Nat} (h:leaf g.1 g.2=some v):trimA (n+1) g=trimA n (cutV g v):=by simp [trimA,h]
theorem trimA_gr {r:Int}:∀ (n:Nat) {g:Int × List Ed},IsGr r g.1 g.2→IsGr r (trimA n g).1 (trimA n g).2
 | 0,g,h=>h
 | n+1,g,h=>by
  cases hf:leaf g.1 g.2 with
  | none=>rw [trimA_none hf];exact h
  | some v =>
   rw [trimA_some hf];obtain ⟨h1,h2,_⟩:=leaf_spec hf;exact trimA_gr n (cutV_gr h h1 h2)
theorem trimA_size:∀ (n:Nat) {g:Int × List Ed},(trimA n g).1≤g.1
 | 0,g=>Int.le_refl _
 | n+1,g=>by
  cases hf:leaf g.1 g.2 with
  | none=>rw [trimA_none hf];exact Int.le_refl _
  | some v =>
   rw [trimA_some hf];obtain ⟨h1,h2,_⟩:=leaf_spec hf;have:=trimA_size n (g:=cutV g v);rw [cutV_size h2] at this;omega
theorem trimA_same {n:Nat} {g:Int × List Ed} (hn:0 < n):(trimA n g).1=g.1↔leaf g.1 g.2=none:=by
 constructor
 ·intro h
  cases hf:leaf g.1 g.2 with
  | none=>rfl
  | some v =>
   obtain ⟨m,rfl⟩:∃ m,n=m+1:=⟨n - 1,by omega⟩
   rw [trimA_some hf] at h;obtain ⟨h1,h2,_⟩:=leaf_spec hf;have:=trimA_size m (g:=cutV g v);rw [cutV_size h2] at this;omega
 ·intro h
  rw [trimA_none h]
def lets:Nat→List Int
 | 0=>[]
 | n+1=>lets n++[((n:Int)+1), -((n:Int)+1)]
theorem lets_len (n:Nat):(lets n).length=2 * n:=by
 induction n with
 | zero=>rfl
 | succ n ih=>simp [lets,ih];omega
theorem mem_lets {n:Nat} {x:Int}:x∈lets n↔x≠0∧-(n:Int)≤x∧x≤n:=by
 induction n with
 | zero=>simp [lets];omega
 | succ n ih =>
  simp only [lets,List.mem_append,ih,List.mem_cons,List.not_mem_nil,or_false];omega
abbrev BS:=List (Int × List Int)
def bfsStep (es:List Ed) (u:Int) (w:List Int) (st:BS) (x:Int):BS :=
 if nextV es u x < 0 ∨ nextV es u x∈st.map Prod.fst then st else st++[(nextV es u x,w++[x])]
def bfsRow (es:List Ed) (L:List Int) (p:Int × List Int) (st:BS):BS:=L.foldl (bfsStep es p.1 p.2) st
def bfsSt (es:List Ed) (L:List Int) (v:Int):Nat→BS
 | 0=>[(v,[])]
 | i+1=>match (bfsSt es L v i)[i]? with
  | none=>bfsSt es L v i
  | some p=>bfsRow es L p (bfsSt es L v i)
def bfs (es:List Ed) (L:List Int) (v:Int):BS:=bfsSt es L v 41
theorem bfsStep_pre (es:List Ed) (u:Int) (w:List Int) (st:BS) (x:Int):st <+: bfsStep es u w st x:=by
 unfold bfsStep;split
 ·exact List.prefix_refl _
 ·exact List.prefix_append _ _
theorem bfsRow_pre (es:List Ed) (L:List Int) (p:Int × List Int) (st:BS):st <+: bfsRow es L p st:=by
 unfold bfsRow
 induction L generalizing st with
 | nil=>exact List.prefix_refl _
 | cons x t ih=>exact (bfsStep_pre es p.1 p.2 st x).trans (ih _)
theorem bfsSt_pre (es:List Ed) (L:List Int) (v:Int) (i:Nat):bfsSt es L v i <+: bfsSt es L v (i+1):=by
 show _ <+: (match (bfsSt es L v i)[i]? with | none=>bfsSt es L v i | some p=>bfsRow es L p (bfsSt es L v i))
 split
 ·exact List.prefix_refl _
 ·exact bfsRow_pre es L _ _
theorem bfsSt_pre' (es:List Ed) (L:List Int) (v:Int) (i d:Nat):bfsSt es L v i <+: bfsSt es L v (i+d):=by
 induction d with
 | zero=>exact List.prefix_refl _
 | succ d ih=>exact ih.trans (bfsSt_pre es L v (i+d))
theorem prefix_get {α:Type} {xs ys:List α} (h:xs <+: ys) {k:Nat} {a:α} (hk:xs[k]?=some a):ys[k]?=some a:=by
 obtain ⟨t,rfl⟩:=h;rw [List.getElem?_append_left (List.getElem?_eq_some_iff.1 hk).1];exact hk
theorem bfsSt_stop {es:List Ed} {L:List Int} {v:Int} {i:Nat} (h:(bfsSt es L v i).length≤i) (d:Nat):bfsSt es L v (i+d)=bfsSt es L v i:=by
 induction d with
 | zero=>rfl
 | succ d ih =>
  show (match (bfsSt es L v (i+d))[i+d]? with | none=>bfsSt es L v (i+d) | some p=>bfsRow es L p (bfsSt es L v (i+d)))=_
  rw [ih,List.getElem?_eq_none (by omega)]
structure BfsOk (s:Int) (L:List Int) (st:BS):Prop where
 nd:(st.map Prod.fst).Nodup
 rng:∀ p∈st,0≤p.1∧p.1 < s
 wl:∀ (j:Nat) (p:Int × List Int),st[j]?=some p→p.2.length≤j
 wm:∀ p∈st,∀ x∈p.2,x∈L
theorem BfsOk.len {s:Int} {L:List Int} {st:BS} (h:BfsOk s L st) (hs:0≤s):(st.length:Int)≤s:=by
 have h1:∀ (L:Nat) (l:List Int),l.Nodup→(∀ v∈l,0≤v∧v < (L:Int))→l.length≤L:=by
  intro L
  induction L with
  | zero =>
   intro l _ h;cases l with
   | nil=>simp
   | cons x t=>have:=h x (by simp);omega
  | succ L ih =>
   intro l hn h;have h2:=ih (l.erase (L:Int)) (hn.erase _) fun v hv=>by
    have h3:=h v (List.mem_of_mem_erase hv);have h4:v≠(L:Int):=((List.Nodup.mem_erase_iff hn).1 hv).1;omega
   have h5:=List.length_erase (a:=(L:Int)) (l:=l);split at h5 <;> omega
 have:=h1 s.toNat (st.map Prod.fst) h.nd (fun v hv=>by
  obtain ⟨p,hp,rfl⟩:=List.mem_map.1 hv;have:=h.rng p hp;omega)
 simp at this;omega
theorem BfsOk.start {s v:Int} (L:List Int) (h0:0≤v) (h1:v < s):BfsOk s L [(v,[])]:=by
 refine ⟨by simp,?_,?_,?_⟩
 ·intro p hp;simp at hp;subst hp;exact ⟨h0,h1⟩
 ·intro j p hp
  cases j with
  | zero=>simp at hp;subst hp;simp
  | succ j=>simp at hp
 ·intro p hp x hx;simp at hp;subst hp;simp at hx
theorem BfsOk.step {r s:Int} {es:List Ed} {L:List Int} {st:BS} (hg:∀ e∈es,InG r s e) (h:BfsOk s L st) {i:Nat} {p:Int × List Int} (hp:st[i]?=some p) {x:Int} (hx:x∈L):BfsOk s L (bfsStep es p.1 p.2 st x):=by
 unfold bfsStep;split
 ·exact h
 ·rename_i hc
  have hc1:¬ nextV es p.1 x < 0:=fun h=>hc (.inl h);have hc2:nextV es p.1 x ∉ st.map Prod.fst:=fun h=>hc (.inr h);have hr:=nextV_cases hg p.1 x;have hi:=(List.getElem?_eq_some_iff.1 hp).1;refine ⟨?_,?_,?_,?_⟩
  ·rw [List.map_append,List.nodup_append]
   refine ⟨h.nd,by simp,?_⟩;intro a ha b hb;simp at hb;subst hb;intro e;subst e;exact hc2 ha
  ·intro q hq
   rcases List.mem_append.1 hq with hq | hq
   ·exact h.rng q hq
   ·simp at hq;subst hq;simp only [];omega
  ·intro j q hq
   rcases Nat.lt_or_ge j st.length with hj | hj
   ·rw [List.getElem?_append_left hj] at hq;exact h.wl j q hq
   ·rw [List.getElem?_append_right hj] at hq
    rcases Nat.eq_zero_or_pos (j - st.length) with h0 | h0
    ·rw [h0] at hq
     simp at hq;subst hq;have:=h.wl i p hp;simp only [List.length_append,List.length_cons,List.length_nil];omega
    ·rw [List.getElem?_eq_none (by simp;omega)] at hq;cases hq
  ·intro q hq y hy
   rcases List.mem_append.1 hq with hq | hq
   ·exact h.wm q hq y hy
   ·simp at hq
    subst hq;rcases List.mem_append.1 hy with hy | hy
    ·exact h.wm p (List.mem_of_getElem? hp) y hy
    ·simp at hy;subst hy;exact hx
theorem BfsOk.row {r s:Int} {es:List Ed} {L:List Int} (hg:∀ e∈es,InG r s e) {i:Nat} {p:Int × List Int}:∀ (K:List Int),(∀ x∈K,x∈L)→∀ {st:BS},BfsOk s L st→st[i]?=some p→BfsOk s L (bfsRow es K p st)
 | [],_,st,h,_=>h
 | x :: K,hK,st,h,hp=>BfsOk.row hg K (fun y hy=>hK y (by simp [hy])) (h.step hg hp (hK x (by simp))) (prefix_get (bfsStep_pre es p.1 p.2 st x) hp)
theorem bfsSt_ok {r s v:Int} {es:List Ed} {L:List Int} (hg:∀ e∈es,InG r s e) (h0:0≤v) (h1:v < s) (i:Nat):BfsOk s L (bfsSt es L v i):=by
 induction i with
 | zero=>exact BfsOk.start L h0 h1
 | succ i ih =>
  show BfsOk s L (match (bfsSt es L v i)[i]? with | none=>bfsSt es L v i | some p=>bfsRow es L p (bfsSt es L v i))
  split
  ·exact ih
  ·rename_i p hp
   exact BfsOk.row hg L (fun x hx=>hx) ih hp
theorem bfs_eq {r s v:Int} {es:List Ed} {L:List Int} (hg:∀ e∈es,InG r s e) (h0:0≤v) (h1:v < s) (hs:s≤40) {i:Nat} (h:(bfsSt es L v i).length=i):bfs es L v=bfsSt es L v i:=by
 have:=(bfsSt_ok (L:=L) hg h0 h1 i).len (by omega);have h2:=bfsSt_stop (show (bfsSt es L v i).length≤i by omega) (41 - i);rw [← h2,show i+(41 - i)=41 by omega]
 rfl
theorem bfs_ok {r s v:Int} {es:List Ed} {L:List Int} (hg:∀ e∈es,InG r s e) (h0:0≤v) (h1:v < s):BfsOk s L (bfs es L v):=bfsSt_ok hg h0 h1 41
theorem bfs_ne (es:List Ed) (L:List Int) (v:Int):bfs es L v≠[]:=by
 intro h;obtain ⟨t,ht⟩:=bfsSt_pre' es L v 0 41;rw [show (0:Nat)+41=41 from rfl,show bfsSt es L v 41=bfs es L v from rfl,h] at ht;simp [bfsSt] at ht
def ordE (r:Int) (es:List Ed) (v:Int):List Int:=(bfs es (lets r.toNat) v).map Prod.fst
open Classical in
noncomputable def canonG (r:Int) (g:Int × List Ed):Int × List Ed:=if IsFol r g.1 g.2 then (((ordE r g.2 0).length:Int),partE (ordE r g.2 0) g.2) else g
noncomputable def coreA (r:Int) (g:Int × List Ed):Int × List Ed:=canonG r (trimA 40 (foldA 40 g))
structure IsCor (r s:Int) (es:List Ed):Prop where
 fol:IsFol r s es
 leaf:leaf s es=none
 canon:canonG r (s,es)=(s,es)
theorem ordE_len {r s v:Int} {es:List Ed} (hg:IsGr r s es) (h0:0≤v) (h1:v < s):0 < (ordE r es v).length∧((ordE r es v).length:Int)≤s∧(ordE r es v).Nodup∧∀ x∈ordE r es v,0≤x∧x < s:=by
 have h:=bfs_ok (L:=lets r.toNat) hg.all h0 h1;refine ⟨?_,?_,h.nd,?_⟩
 ·unfold ordE
  rw [List.length_map];exact List.length_pos_iff.2 (bfs_ne _ _ _)
 ·unfold ordE
  rw [List.length_map];exact h.len (by omega)
 ·intro x hx
  obtain ⟨p,hp,rfl⟩:=List.mem_map.1 hx;exact h.rng p hp
theorem canonG_gr {r:Int} {g:Int × List Ed} (hg:IsGr r g.1 g.2):IsGr r (canonG r g).1 (canonG r g).2:=by
 unfold canonG;split
 ·have hs:=hg.size
  have h:=ordE_len hg (v:=0) (Int.le_refl _) (by omega);refine partE_gr hg ?_ (by omega);intro h0;rw [h0] at h;simp at h
 ·exact hg
theorem coreA_gr {r:Int} {g:Int × List Ed} (hg:IsGr r g.1 g.2):IsGr r (coreA r g).1 (coreA r g).2:=canonG_gr (trimA_gr 40 (foldA_gr 40 hg))
theorem IsCor.gr {r s:Int} {es:List Ed} (h:IsCor r s es):IsGr r s es:=h.fol.gr
end
section
open Go.RowKit
end
section
open Go.RowKit
end
section
open Go.RowKit
theorem impl_areInverse (a b:Int) (w:World) (ha:-9223372036854775808≤a) (ha2:a≤9223372036854775807) :
  Calls Tryz.prog 183 #[.int .i64 a,.int .i64 b] w fun e w'=>e=.returned (.bool (invB a b))∧w=w':=by
 by_cases h0:a=0
 ·subst h0
  go_enter Tryz.func183,Tryz.ntmps183
  go_wp2_with fail;go_ret;exact ⟨by simp [invB],rfl⟩
 ·by_cases hm:a=minI
  ·have hr:invB a b=false:=by simp [invB,hm]
   rw [hr];clear h0 hr;subst hm;unfold minI;clear ha ha2;go_enter Tryz.func183,Tryz.ntmps183
   go_wp2_with fail;go_ret;exact ⟨rfl,rfl⟩
  ·have hlo:-9223372036854775807≤a:=by unfold minI at hm;omega
   have hx:(a != 0)=true:=by simpa using h0
   by_cases hb:(b == -a)=true
   ·have hr:invB a b=true:=by simp [invB,h0,hm];simpa using hb
    rw [hr];clear h0 hm hr;go_enter Tryz.func183,Tryz.ntmps183
    go_wp2_with fail;go_ret;exact ⟨by simp;omega,rfl⟩
   ·have hb':(b == -a)=false:=by simpa using hb
    have hr:invB a b=false:=by simp [invB];intro _ _;simpa using hb
    rw [hr];clear h0 hm hr hb;go_enter Tryz.func183,Tryz.ntmps183
    go_wp2_with fail;go_ret;exact ⟨rfl,rfl⟩
theorem impl_isLetter (rank x:Int) (w:World) (h1:1≤rank) (h3:rank≤3) :
  Calls Tryz.prog 182 #[.int .i64 rank,.int .i64 x] w fun e w'=>e=.returned (.bool (letB rank x))∧w=w':=by
 by_cases h0:x=0
 ·subst h0
  go_enter Tryz.func182,Tryz.ntmps182
  go_wp2_with fail;go_ret;exact ⟨by simp [letB],rfl⟩
 ·have hx:(x != 0)=true:=by simpa using h0
  have hr:letB rank x=inB x (-rank) rank:=by simp [letB,inB,h0]
  rw [hr];clear h0 hr;go_enter Tryz.func182,Tryz.ntmps182
  go_wp2_with fail;with_reducible refine (within_any _ _ _ _).mono ?_
  rintro e w' ⟨rfl,rfl⟩;go_wp2_with fail;go_ret;exact ⟨rfl,rfl⟩
theorem impl_compareInts (a b:Int) (w:World) :
  Calls Tryz.prog 208 #[.int .i64 a,.int .i64 b] w fun e w'=>e=.returned (.int .i64 (cmpI a b))∧w=w':=by
 by_cases h1:a < b
 ·have hr:cmpI a b = -1:=by simp [cmpI,h1]
  rw [hr];clear hr;go_enter Tryz.func208,Tryz.ntmps208
  go_wp2_with fail;go_ret;exact ⟨rfl,rfl⟩
 ·by_cases h2:b < a
  ·have hr:cmpI a b=1:=by simp [cmpI,h1,h2]
   rw [hr];clear hr;go_enter Tryz.func208,Tryz.ntmps208
   go_wp2_with fail;go_ret;exact ⟨rfl,rfl⟩
  ·have hr:cmpI a b=0:=by simp [cmpI,h1,h2]
   rw [hr];clear hr;go_enter Tryz.func208,Tryz.ntmps208
   go_wp2_with fail;go_ret;exact ⟨rfl,rfl⟩
theorem wrap_neg {x:Int} (h1:-9223372036854775808≤x) (h2:x≤9223372036854775807):wrap64 (-x)=negI x:=by
 unfold negI minI;by_cases h:x = -9223372036854775808
 ·rw [if_pos h,h]
  unfold wrap64;omega
 ·rw [if_neg h]
  exact IntWalk.wrap64_in _ ⟨by omega,by omega⟩
theorem invW_cons (x:Int) (t:List Int):invW (x :: t)=invW t++[negI x]:=by simp [invW]
end
section
open Go.RowKit
def WordTo (rank:Int) (xs:List Int) (k:Nat):Prop :=
 ∀ j x,j < k→xs[j]?=some x→letB rank x=true∧∀ y,0 < j→xs[j - 1]?=some y→invB y x=false
theorem WordTo.zero (rank:Int) (xs:List Int):WordTo rank xs 0:=fun j x h=>absurd h (Nat.not_lt_zero j)
theorem WordTo.succ {rank:Int} {xs:List Int} {k:Nat} {x:Int} (h:WordTo rank xs k) (hx:xs[k]?=some x) (hl:letB rank x=true) (hp:∀ y,0 < k→xs[k - 1]?=some y→invB y x=false):WordTo rank xs (k+1):=by
 intro j z hj hz;rcases Nat.lt_or_eq_of_le (Nat.le_of_lt_succ hj) with h1 | rfl
 ·exact h j z h1 hz
 ·rw [hx] at hz
  obtain rfl:=Option.some.inj hz;exact ⟨hl,hp⟩
theorem wordTo_all {rank:Int} {xs:List Int} (h1:1≤rank) (h3:rank≤3):WordTo rank xs xs.length↔WordP rank xs:=by
 constructor
 ·intro h
  refine ⟨fun x hx=>?_,fun k x y hx hy he=>?_⟩
  ·obtain ⟨j,hj⟩:=List.mem_iff_getElem?.1 hx
   have:=(h j x (List.getElem?_eq_some_iff.1 hj).1 hj).1
   simpa [letB] using this
  ·have hl:=(List.getElem?_eq_some_iff.1 hy).1
   have h2:=(h (k+1) y hl hy).2 x (Nat.succ_pos k) (by simpa using hx);have h4:=(h k x (by omega) hx).1;simp [letB] at h4;have:invB x y=true:=(invB_iff x y).2 ⟨h4.1,by unfold minI;omega,he⟩;rw [this] at h2;cases h2
 ·rintro ⟨ha,hb⟩ j x hj hx
  refine ⟨by simpa [letB] using ha x (List.mem_of_getElem? hx),fun y h0 hy=>?_⟩;cases hv:invB y x with
  | false=>rfl
  | true=>exact absurd ((invB_iff y x).1 hv).2.2 (hb (j - 1) y x hy (by rw [Nat.sub_add_cancel h0];exact hx))
def RawAt (rank:Int) (xs:List Int) (j:Nat) (x:Int):Prop:=(x == 0)=false∧inB x (wrap64 (-rank)) rank=true∧∀ y,0 < j→xs[j - 1]?=some y→(x == wrap64 (-y))=false
def RawTo (rank:Int) (xs:List Int) (k:Nat):Prop:=∀ j x,j < k→xs[j]?=some x→RawAt rank xs j x
theorem RawTo.zero (rank:Int) (xs:List Int):RawTo rank xs 0:=fun j x h=>absurd h (Nat.not_lt_zero j)
theorem RawTo.succ {rank:Int} {xs:List Int} {k:Nat} {x:Int} (h:RawTo rank xs k) (hx:xs[k]?=some x) (hp:RawAt rank xs k x):RawTo rank xs (k+1):=by
 intro j z hj hz;rcases Nat.lt_or_eq_of_le (Nat.le_of_lt_succ hj) with h1 | rfl
 ·exact h j z h1 hz
 ·rw [hx] at hz
  obtain rfl:=Option.some.inj hz;exact hp
theorem rawTo_all {rank:Int} {xs:List Int} (h1:1≤rank) (h3:rank≤3):RawTo rank xs xs.length↔WordP rank xs:=by
 have hw:wrap64 (-rank) = -rank:=by rw [wrap_neg (by omega) (by omega)];unfold negI minI;rw [if_neg (by omega)]
 have hwy:∀ y, -rank≤y→y≤rank→wrap64 (-y) = -y:=fun y ha hb=>by rw [wrap_neg (by omega) (by omega)];unfold negI minI;rw [if_neg (by omega)]
 unfold RawTo RawAt;rw [hw];constructor
 ·intro h
  refine ⟨fun x hx=>?_,fun k x y hx hy he=>?_⟩
  ·obtain ⟨j,hj⟩:=List.mem_iff_getElem?.1 hx
   have:=h j x (List.getElem?_eq_some_iff.1 hj).1 hj;simp [inB] at this;exact ⟨this.1,this.2.1⟩
  ·have hl:=(List.getElem?_eq_some_iff.1 hy).1
   have h2:=(h (k+1) y hl hy).2.2 x (Nat.succ_pos k) (by simpa using hx);have h4:=(h k x (by omega) hx).2.1;simp [inB] at h4;rw [hwy x h4.1 h4.2,he] at h2;simp at h2
 ·rintro ⟨ha,hb⟩ j x hj hx
  have h0:=ha x (List.mem_of_getElem? hx);refine ⟨by simpa using h0.1,by simpa [inB] using h0.2,fun y hp hy=>?_⟩;have h5:=ha y (List.mem_of_getElem? hy);rw [hwy y h5.2.1 h5.2.2];have:=hb (j - 1) y x hy (by rw [Nat.sub_add_cancel hp];exact hx)
  simpa using this
end
def stepE (u x v:Int):Ed:=if x < 0 then ⟨v, -x,u⟩ else ⟨u,x,v⟩
def pathV (u s:Int) (n:Nat) (v:Int) (i:Nat):Int:=if i=0 then u else if i < n then s+(i:Int) - 1 else v
def pathE (u s:Int) (w:List Int) (v:Int) (k:Nat):List Ed:=(List.range k).map fun i=>stepE (pathV u s w.length v i) (w.getD i 0) (pathV u s w.length v (i+1))
theorem pathE_succ {u s v x:Int} {w:List Int} {k:Nat} (h:w[k]?=some x):pathE u s w v (k+1)=pathE u s w v k++[stepE (pathV u s w.length v k) x (pathV u s w.length v (k+1))]:=by
 simp [pathE,List.range_succ,List.getD,h]
theorem pathE_len (u s:Int) (w:List Int) (v:Int) (k:Nat):(pathE u s w v k).length=k:=by simp [pathE]
structure PathOk (r s:Int) (es:List Ed) (u:Int) (w:List Int) (v:Int):Prop where
 gr:IsGr r s es
 u0:0≤u∧u < s
 v0:0≤v∧v < s
 word:IsW r w
 ne:w≠[]
 sz:s+(w.length:Int) - 1≤40
 ln:es.length+w.length≤120
theorem pathV_in {u s v:Int} {n:Nat} (hu:0≤u∧u < s) (hv:0≤v∧v < s) (i:Nat):0≤pathV u s n v i∧(0 < n→pathV u s n v i < s+(n:Int) - 1):=by
 unfold pathV;split
 ·omega
 ·split <;> omega
theorem stepE_in {r s u x v:Int} (hu:0≤u∧u < s) (hv:0≤v∧v < s) (hx:x≠0∧-r≤x∧x≤r):InG r s (stepE u x v):=by
 unfold stepE InG;split <;> simp only <;> omega
theorem path_gr {r s:Int} {es:List Ed} {u:Int} {w:List Int} {v:Int} (h:PathOk r s es u w v):IsGr r (s+(w.length:Int) - 1) (canon (es++pathE u s w v w.length)):=by
 have hs:=h.gr.size;have hn:0 < w.length:=List.length_pos_iff.2 h.ne;refine ⟨h.gr.rank,⟨by omega,h.sz⟩,?_,?_,asc_canon _⟩
 ·have h1:=canon_len (es++pathE u s w v w.length)
  rw [List.length_append,pathE_len] at h1;have:=h.ln;omega
 ·intro e he
  rcases List.mem_append.1 (mem_canon.1 he) with h1 | h1
  ·have:=h.gr.all e h1
   unfold InG at this ⊢;omega
  ·simp only [pathE,List.mem_map,List.mem_range] at h1
   obtain ⟨i,hi,rfl⟩:=h1;have h2:=pathV_in (n:=w.length) h.u0 h.v0 i;have h3:=pathV_in (n:=w.length) h.u0 h.v0 (i+1);refine stepE_in ⟨h2.1,h2.2 hn⟩ ⟨h3.1,h3.2 hn⟩ ?_;have hw:=h.word.2.2.2;have hm:w.getD i 0∈w:=by
    rw [List.getD_eq_getElem?_getD,List.getElem?_eq_getElem hi];exact List.getElem_mem hi
   exact hw.1 _ hm
theorem nodup_le:∀ (L:Nat) (l:List Int),l.Nodup→(∀ v∈l,0≤v∧v < (L:Int))→l.length≤L:=by
 intro L
 induction L with
 | zero =>
  intro l _ h;cases l with
  | nil=>simp
  | cons a t=>have:=h a List.mem_cons_self;omega
 | succ L ih =>
  intro l hn h;by_cases hm:(L:Int)∈l
  ·have h1:=ih (l.erase (L:Int)) (hn.erase _) (fun v hv=>by
    have hv2:=List.mem_of_mem_erase hv;have h3:=h v hv2;have h4:v≠(L:Int):=fun e=>by subst e;exact (hn.not_mem_erase) hv
    omega)
   rw [List.length_erase_of_mem hm] at h1;omega
  ·have h1:=ih l hn (fun v hv=>by
    have h3:=h v hv;have h4:v≠(L:Int):=fun e=>by subst e;exact hm hv
    omega)
   omega
def placeL (n:Nat) (ord:List Int):List Int:=(List.range n).map fun (v:Nat)=>idxI ord (v:Int)
theorem placeL_len (n:Nat) (ord:List Int):(placeL n ord).length=n:=by simp [placeL]
theorem placeL_nil (n:Nat):placeL n []=List.replicate n (-1):=by
 unfold placeL;rw [List.eq_replicate_iff];refine ⟨by simp,fun b hb=>?_⟩;obtain ⟨v, -,rfl⟩:=List.mem_map.1 hb;exact idxI_neg (by simp)
theorem placeL_get {n j:Nat} (ord:List Int) (h:j < n):(placeL n ord)[j]?=some (idxI ord (j:Int)):=by simp [placeL,h]
theorem idxI_snoc {xs:List Int} {x:Int} (h:x ∉ xs) (v:Int):idxI (xs++[x]) v=if v=x then (xs.length:Int) else idxI xs v:=by
 unfold idxI;by_cases hv:v=x
 ·subst hv
  rw [if_pos (by simp),if_pos rfl,List.idxOf_append,if_neg h];simp
 ·rw [if_neg hv]
  by_cases hm:v∈xs
  ·rw [if_pos (by simp [hm]),if_pos hm,List.idxOf_append,if_pos hm]
  ·rw [if_neg (by simp [hm,hv]),if_neg hm]
theorem placeL_set {n m k:Nat} {ord:List Int} (hn:ord.Nodup) (hk:ord[k]?=some (m:Int)) (hm:m < n):(placeL n (ord.take k)).set m (k:Int)=placeL n (ord.take (k+1)):=by
 obtain ⟨hkl,hk'⟩:=List.getElem?_eq_some_iff.1 hk;have ht:ord.take (k+1)=ord.take k++[(m:Int)]:=by rw [List.take_succ_eq_append_getElem hkl,hk']
 have hnm:(m:Int) ∉ ord.take k:=by
  rw [← List.take_append_drop (k+1) ord,ht] at hn;exact fun h=>(List.nodup_append.1 (List.nodup_append.1 hn).1).2.2 _ h _ (by simp) rfl
 have hl:(ord.take k).length=k:=by rw [List.length_take];omega
 apply List.ext_getElem?;intro j;rw [ht];by_cases hj:j < n
 ·rw [placeL_get _ hj,idxI_snoc hnm]
  by_cases hjm:m=j
  ·subst hjm
   rw [List.getElem?_set_self (by rw [placeL_len];exact hj),if_pos rfl,hl]
  ·rw [List.getElem?_set_ne hjm,placeL_get _ hj,if_neg (by omega)]
 ·rw [List.getElem?_eq_none (by rw [List.length_set,placeL_len];omega),List.getElem?_eq_none (by rw [placeL_len];omega)]
def placeM (n:Nat) (ord:List Int):List Int:=(placeL n ord).map (·+1)
theorem placeM_nil (n:Nat):placeM n []=List.replicate n 0:=by simp [placeM,placeL_nil]
theorem placeM_get {n j:Nat} (ord:List Int) (h:j < n):(placeM n ord)[j]?=some (idxI ord (j:Int)+1):=by simp [placeM,placeL_get ord h]
theorem placeM_set {n m k:Nat} {ord:List Int} (hn:ord.Nodup) (hk:ord[k]?=some (m:Int)) (hm:m < n):(placeM n (ord.take k)).set m ((k:Int)+1)=placeM n (ord.take (k+1)):=by
 unfold placeM;rw [← placeL_set hn hk hm,List.map_set]
theorem not_in_take {k:Nat} {x:Int} {ord:List Int} (hn:ord.Nodup) (hk:ord[k]?=some x):x ∉ ord.take k:=by
 obtain ⟨hkl,hk'⟩:=List.getElem?_eq_some_iff.1 hk;have ht:ord.take (k+1)=ord.take k++[x]:=by rw [List.take_succ_eq_append_getElem hkl,hk']
 rw [← List.take_append_drop (k+1) ord,ht] at hn;exact fun h=>(List.nodup_append.1 (List.nodup_append.1 hn).1).2.2 _ h _ (by simp) rfl
abbrev PS:=List (Int × Int)
def pbNext (ea eb:List Ed) (p:Int × Int) (x:Int):Int × Int:=(nextV ea p.1 x,nextV eb p.2 x)
def pbStep (ea eb:List Ed) (p:Int × Int) (st:PS) (x:Int):PS :=
 if nextV ea p.1 x < 0 ∨ nextV eb p.2 x < 0 ∨ pbNext ea eb p x∈st then st else st++[pbNext ea eb p x]
def pbRow (ea eb:List Ed) (L:List Int) (p:Int × Int) (st:PS):PS:=L.foldl (pbStep ea eb p) st
def pbSt (ea eb:List Ed) (L:List Int) (p0:Int × Int):Nat→PS
 | 0=>[p0]
 | i+1=>match (pbSt ea eb L p0 i)[i]? with
  | none=>pbSt ea eb L p0 i
  | some p=>pbRow ea eb L p (pbSt ea eb L p0 i)
def pairsOf (ea eb:List Ed) (L:List Int) (p0:Int × Int):PS:=pbSt ea eb L p0 1601
theorem pbStep_pre (ea eb:List Ed) (p:Int × Int) (st:PS) (x:Int):st <+: pbStep ea eb p st x:=by
 unfold pbStep;split
 ·exact List.prefix_refl _
 ·exact List.prefix_append _ _
theorem pbRow_pre (ea eb:List Ed) (L:List Int) (p:Int × Int) (st:PS):st <+: pbRow ea eb L p st:=by
 unfold pbRow
 induction L generalizing st with
 | nil=>exact List.prefix_refl _
 | cons x t ih=>exact (pbStep_pre ea eb p st x).trans (ih _)
theorem pbSt_succ {ea eb:List Ed} {L:List Int} {p0 p:Int × Int} {i:Nat} (h:(pbSt ea eb L p0 i)[i]?=some p):pbSt ea eb L p0 (i+1)=pbRow ea eb L p (pbSt ea eb L p0 i):=by
 show (match (pbSt ea eb L p0 i)[i]? with | none=>pbSt ea eb L p0 i | some p=>pbRow ea eb L p (pbSt ea eb L p0 i))=_
 rw [h]
theorem pbSt_pre (ea eb:List Ed) (L:List Int) (p0:Int × Int) (i:Nat):pbSt ea eb L p0 i <+: pbSt ea eb L p0 (i+1):=by
 show _ <+: (match (pbSt ea eb L p0 i)[i]? with | none=>pbSt ea eb L p0 i | some p=>pbRow ea eb L p (pbSt ea eb L p0 i))
 split
 ·exact List.prefix_refl _
 ·exact pbRow_pre ea eb L _ _
theorem pbSt_pre' (ea eb:List Ed) (L:List Int) (p0:Int × Int) (i d:Nat):pbSt ea eb L p0 i <+: pbSt ea eb L p0 (i+d):=by
 induction d with
 | zero=>exact List.prefix_refl _
 | succ d ih=>exact ih.trans (pbSt_pre ea eb L p0 (i+d))
theorem pbSt_stop {ea eb:List Ed} {L:List Int} {p0:Int × Int} {i:Nat} (h:(pbSt ea eb L p0 i).length≤i) (d:Nat):pbSt ea eb L p0 (i+d)=pbSt ea eb L p0 i:=by
 induction d with
 | zero=>rfl
 | succ d ih =>
  show (match (pbSt ea eb L p0 (i+d))[i+d]? with | none=>pbSt ea eb L p0 (i+d) | some p=>pbRow ea eb L p (pbSt ea eb L p0 (i+d)))=_
  rw [ih,List.getElem?_eq_none (by omega)]
def pcode (sb:Int) (p:Int × Int):Int:=p.1 * sb+p.2
def PIn (sa sb:Int) (p:Int × Int):Prop:=0≤p.1∧p.1 < sa∧0≤p.2∧p.2 < sb
theorem pcode_rng {sa sb:Int} {p:Int × Int} (h:PIn sa sb p):0≤pcode sb p∧pcode sb p < sa * sb:=by
 obtain ⟨h1,h2,h3,h4⟩:=h;have k1:0≤p.1 * sb:=Int.mul_nonneg h1 (by omega);have k2:(p.1+1) * sb≤sa * sb:=Int.mul_le_mul_of_nonneg_right (by omega) (by omega);rw [Int.add_mul,Int.one_mul] at k2;unfold pcode;omega
theorem pcode_div {sa sb:Int} {p:Int × Int} (h:PIn sa sb p):pcode sb p / sb=p.1∧pcode sb p % sb=p.2:=by
 obtain ⟨h1,h2,h3,h4⟩:=h;unfold pcode;constructor
 ·rw [Int.add_comm,Int.add_mul_ediv_right _ _ (by omega),Int.ediv_eq_zero_of_lt h3 h4,Int.zero_add]
 ·rw [Int.add_comm,Int.add_mul_emod_self_right,Int.emod_eq_of_lt h3 h4]
theorem pcode_tdiv {sa sb:Int} {p:Int × Int} (h:PIn sa sb p):Int.tdiv (pcode sb p) sb=p.1∧Int.tmod (pcode sb p) sb=p.2:=by
 have h0:=pcode_rng h;rw [Int.tdiv_eq_ediv_of_nonneg h0.1,Int.tmod_eq_emod_of_nonneg h0.1];exact pcode_div h
theorem pcode_inj {sa sb:Int} {p q:Int × Int} (hp:PIn sa sb p) (hq:PIn sa sb q) (h:pcode sb p=pcode sb q):p=q:=by
 have h1:=pcode_div hp;have h2:=pcode_div hq;rw [h] at h1;exact Prod.ext (h1.1.symm.trans h2.1) (h1.2.symm.trans h2.2)
structure PbOk (sa sb:Int) (st:PS):Prop where
 nd:st.Nodup
 rng:∀ p∈st,PIn sa sb p
theorem PbOk.codes {sa sb:Int} {st:PS} (h:PbOk sa sb st):(st.map (pcode sb)).Nodup:=by
 rw [List.Nodup,List.pairwise_map];exact (List.pairwise_iff_forall_sublist.2 fun {a b} hab hc=>by
  have ha:a∈st:=hab.subset (by simp);have hb:b∈st:=hab.subset (by simp);have h1:=pcode_inj (h.rng a ha) (h.rng b hb) hc;have h2:=(List.pairwise_iff_forall_sublist.1 h.nd) hab;exact h2 h1)
theorem PbOk.mem {sa sb:Int} {st:PS} {p:Int × Int} (h:PbOk sa sb st) (hp:PIn sa sb p):pcode sb p∈st.map (pcode sb)↔p∈st:=by
 constructor
 ·intro hm
  obtain ⟨q,hq,he⟩:=List.mem_map.1 hm;rw [← pcode_inj (h.rng q hq) hp he];exact hq
 ·exact fun hm=>List.mem_map.2 ⟨p,hm,rfl⟩
theorem PbOk.len {sa sb:Int} {st:PS} (h:PbOk sa sb st) (ha:0≤sa) (hb:0≤sb):(st.length:Int)≤sa * sb:=by
 have h1:=nodup_le (sa * sb).toNat (st.map (pcode sb)) h.codes fun x hx=>by
  obtain ⟨p,hp,rfl⟩:=List.mem_map.1 hx;have h2:=pcode_rng (h.rng p hp);omega
 rw [List.length_map] at h1;have h0:0≤sa * sb:=Int.mul_nonneg ha hb;omega
theorem PbOk.start {sa sb:Int} {p0:Int × Int} (h0:PIn sa sb p0):PbOk sa sb [p0]:=⟨by simp,fun p hp=>by simp at hp;subst hp;exact h0⟩
theorem pbNext_in {r r' sa sb:Int} {ea eb:List Ed} (hga:∀ e∈ea,InG r sa e) (hgb:∀ e∈eb,InG r' sb e) (p:Int × Int) {x:Int} (h1:¬ nextV ea p.1 x < 0) (h2:¬ nextV eb p.2 x < 0):PIn sa sb (pbNext ea eb p x):=by
 have k1:=nextV_cases hga p.1 x;have k2:=nextV_cases hgb p.2 x;unfold PIn pbNext;omega
theorem PbOk.step {r r' sa sb:Int} {ea eb:List Ed} (hga:∀ e∈ea,InG r sa e) (hgb:∀ e∈eb,InG r' sb e) {st:PS} (h:PbOk sa sb st) (p:Int × Int) (x:Int):PbOk sa sb (pbStep ea eb p st x):=by
 unfold pbStep;split
 ·exact h
 ·rename_i hc
  have hc1:¬ nextV ea p.1 x < 0:=fun h=>hc (.inl h);have hc2:¬ nextV eb p.2 x < 0:=fun h=>hc (.inr (.inl h));have hc3:pbNext ea eb p x ∉ st:=fun h=>hc (.inr (.inr h));refine ⟨?_,?_⟩
  ·rw [List.nodup_append]
   refine ⟨h.nd,by simp,?_⟩;intro a ha b hb;simp at hb;subst hb;intro e;subst e;exact hc3 ha
  ·intro q hq
   rcases List.mem_append.1 hq with hq | hq
   ·exact h.rng q hq
   ·simp at hq
    subst hq;exact pbNext_in hga hgb p hc1 hc2
theorem PbOk.row {r r' sa sb:Int} {ea eb:List Ed} (hga:∀ e∈ea,InG r sa e) (hgb:∀ e∈eb,InG r' sb e) (p:Int × Int):∀ (K:List Int) {st:PS},PbOk sa sb st→PbOk sa sb (pbRow ea eb K p st)
 | [],st,h=>h
 | x :: K,st,h=>PbOk.row hga hgb p K (h.step hga hgb p x)
theorem pbSt_ok {r r' sa sb:Int} {ea eb:List Ed} (L:List Int) (hga:∀ e∈ea,InG r sa e) (hgb:∀ e∈eb,InG r' sb e) {p0:Int × Int} (h0:PIn sa sb p0) (i:Nat):PbOk sa sb (pbSt ea eb L p0 i):=by
 induction i with
 | zero=>exact PbOk.start h0
 | succ i ih =>
  show PbOk sa sb (match (pbSt ea eb L p0 i)[i]? with | none=>pbSt ea eb L p0 i | some p=>pbRow ea eb L p (pbSt ea eb L p0 i))
  split
  ·exact ih
  ·exact PbOk.row hga hgb _ L ih
theorem pb_len {r r' sa sb:Int} {ea eb:List Ed} (L:List Int) (hga:IsGr r sa ea) (hgb:IsGr r' sb eb) {p0:Int × Int} (h0:PIn sa sb p0) (i:Nat):(pbSt ea eb L p0 i).length≤1600:=by
 have h1:=(pbSt_ok L hga.all hgb.all h0 i).len (by have:=hga.size;omega) (by have:=hgb.size;omega);have h2:sa * sb≤40 * 40:=Int.mul_le_mul hga.size.2 hgb.size.2 (by have:=hgb.size;omega) (by omega);omega
theorem pairs_eq {r r' sa sb:Int} {ea eb:List Ed} {L:List Int} (hga:IsGr r sa ea) (hgb:IsGr r' sb eb) {p0:Int × Int} (h0:PIn sa sb p0) {i:Nat} (h:(pbSt ea eb L p0 i).length=i):pairsOf ea eb L p0=pbSt ea eb L p0 i:=by
 have:=pb_len L hga hgb h0 i;have h2:=pbSt_stop (show (pbSt ea eb L p0 i).length≤i by omega) (1601 - i);rw [← h2,show i+(1601 - i)=1601 by omega]
 rfl
theorem pairs_ok {r r' sa sb:Int} {ea eb:List Ed} (L:List Int) (hga:∀ e∈ea,InG r sa e) (hgb:∀ e∈eb,InG r' sb e) {p0:Int × Int} (h0:PIn sa sb p0):PbOk sa sb (pairsOf ea eb L p0):=pbSt_ok L hga hgb h0 1601
theorem pairs_len {r r' sa sb:Int} {ea eb:List Ed} (L:List Int) (hga:IsGr r sa ea) (hgb:IsGr r' sb eb) {p0:Int × Int} (h0:PIn sa sb p0):(pairsOf ea eb L p0).length≤1600:=pb_len L hga hgb h0 1601
theorem pbSt_pos (ea eb:List Ed) (L:List Int) (p0:Int × Int) (i:Nat):0 < (pbSt ea eb L p0 i).length:=by
 have:=(pbSt_pre' ea eb L p0 0 i).length_le;rw [Nat.zero_add] at this;simp [pbSt] at this;omega
theorem pbRow_cons (ea eb:List Ed) (x:Int) (K:List Int) (p:Int × Int) (st:PS):pbRow ea eb (x :: K) p st=pbRow ea eb K p (pbStep ea eb p st x):=rfl
theorem pbRow_take {ea eb:List Ed} {L:List Int} {p:Int × Int} {st:PS} {k:Nat} {x:Int} (h:L[k]?=some x):pbRow ea eb (L.take (k+1)) p st=pbStep ea eb p (pbRow ea eb (L.take k) p st) x:=by
 unfold pbRow;rw [List.take_add_one,h];simp [List.foldl_append]
def pbEd (ea eb:List Ed) (P:PS) (i:Nat) (p:Int × Int) (x:Int):Option Ed :=
 if nextV ea p.1 x < 0 ∨ nextV eb p.2 x < 0 then none else some ⟨i,x,(P.idxOf (pbNext ea eb p x):Nat)⟩
def pbEs (ea eb:List Ed) (P:PS) (i:Nat) (p:Int × Int) (k:Nat):List Ed:=(List.range k).filterMap fun (j:Nat)=>pbEd ea eb P i p ((j:Int)+1)
def pbAll (ea eb:List Ed) (r:Nat) (P:PS):Nat→List Ed
 | 0=>[]
 | n+1=>pbAll ea eb r P n++(match P[n]? with | none=>[] | some p=>pbEs ea eb P n p r)
theorem pbAll_succ {ea eb:List Ed} {r:Nat} {P:PS} {n:Nat} {p:Int × Int} (h:P[n]?=some p):pbAll ea eb r P (n+1)=pbAll ea eb r P n++pbEs ea eb P n p r:=by rw [pbAll,h]
theorem pbEs_succ (ea eb:List Ed) (P:PS) (i:Nat) (p:Int × Int) (k:Nat):pbEs ea eb P i p (k+1)=pbEs ea eb P i p k++(pbEd ea eb P i p ((k:Int)+1)).toList:=by
 unfold pbEs;rw [List.range_succ,List.filterMap_append];cases h:pbEd ea eb P i p ((k:Int)+1) <;> simp [h]
theorem pbEs_len (ea eb:List Ed) (P:PS) (i:Nat) (p:Int × Int) (k:Nat):(pbEs ea eb P i p k).length≤k:=by
 have:=List.length_filterMap_le (fun (j:Nat)=>pbEd ea eb P i p ((j:Int)+1)) (List.range k);rw [List.length_range] at this;exact this
theorem pbAll_len (ea eb:List Ed) (r:Nat) (P:PS) (n:Nat):(pbAll ea eb r P n).length≤n * r:=by
 induction n with
 | zero=>simp [pbAll]
 | succ n ih =>
  rw [pbAll,List.length_append,Nat.succ_mul];split
  ·simp;omega
  ·have:=pbEs_len ea eb P n ‹_› r
   omega
structure PullOk (r s:Int) (es:List Ed) (r' s':Int) (es':List Ed) (u v:Int):Prop where
 f1:IsFol r s es
 f2:IsFol r' s' es'
 rk:r=r'
 u0:0≤u∧u < s
 v0:0≤v∧v < s'
 sz:(pairsOf es es' (lets r.toNat) (u,v)).length≤40
 ln:(pbAll es es' r.toNat (pairsOf es es' (lets r.toNat) (u,v)) (pairsOf es es' (lets r.toNat) (u,v)).length).length≤120
theorem PullOk.pin {r s:Int} {es:List Ed} {r' s':Int} {es':List Ed} {u v:Int} (h:PullOk r s es r' s' es' u v):PIn s s' (u,v):=⟨h.u0.1,h.u0.2,h.v0.1,h.v0.2⟩
def PClosed (ea eb:List Ed) (L:List Int) (P:PS):Prop:=∀ p∈P,∀ x∈L,¬ nextV ea p.1 x < 0→¬ nextV eb p.2 x < 0→pbNext ea eb p x∈P
theorem pbRow_closed {ea eb:List Ed} {p:Int × Int}:∀ (K:List Int) {st:PS},∀ x∈K,¬ nextV ea p.1 x < 0→¬ nextV eb p.2 x < 0→pbNext ea eb p x∈pbRow ea eb K p st
 | [],st,x,h,_,_=>by cases h
 | y :: K,st,x,h,h1,h2=>by
  rw [pbRow_cons];rcases List.mem_cons.1 h with rfl | h
  ·refine (pbRow_pre ea eb K p _).subset ?_
   unfold pbStep;split
   ·rename_i hc
    rcases hc with hc | hc | hc
    ·exact absurd hc h1
    ·exact absurd hc h2
    ·exact hc
   ·simp
  ·exact pbRow_closed K x h h1 h2
theorem pbSt_closed {ea eb:List Ed} {L:List Int} {p0:Int × Int}:∀ (i j:Nat) {p:Int × Int},j < i→(pbSt ea eb L p0 i)[j]?=some p→∀ x∈L,¬ nextV ea p.1 x < 0→¬ nextV eb p.2 x < 0→pbNext ea eb p x∈pbSt ea eb L p0 i
 | 0,j,p,hj,hp,x,hx,h1,h2=>absurd hj (Nat.not_lt_zero j)
 | i+1,j,p,hj,hp,x,hx,h1,h2=>by
  cases hq:(pbSt ea eb L p0 i)[i]? with
  | none =>
   have he:pbSt ea eb L p0 (i+1)=pbSt ea eb L p0 i:=by
    show (match (pbSt ea eb L p0 i)[i]? with | none=>pbSt ea eb L p0 i | some p=>pbRow ea eb L p (pbSt ea eb L p0 i))=_
    rw [hq]
   rw [he] at hp ⊢;have hl:=List.getElem?_eq_none_iff.1 hq;have:=(List.getElem?_eq_some_iff.1 hp).1;exact pbSt_closed i j (by omega) hp x hx h1 h2
  | some q =>
   have he:=pbSt_succ hq;rcases Nat.lt_or_ge j i with hji | hji
   ·have hl:=(List.getElem?_eq_some_iff.1 hq).1
    have hp':(pbSt ea eb L p0 i)[j]?=some p:=by
     obtain ⟨t,ht⟩:=pbSt_pre ea eb L p0 i;rw [← ht,List.getElem?_append_left (by omega)] at hp;exact hp
    exact (pbSt_pre ea eb L p0 i).subset (pbSt_closed i j hji hp' x hx h1 h2)
   ·obtain rfl:j=i:=by omega
    have hp':=prefix_get (pbSt_pre ea eb L p0 j) hq;rw [hp] at hp';injection hp' with hp'
    subst hp';rw [he];exact pbRow_closed L x hx h1 h2
theorem pairs_closed {r r' sa sb:Int} {ea eb:List Ed} (L:List Int) (hga:IsGr r sa ea) (hgb:IsGr r' sb eb) {p0:Int × Int} (h0:PIn sa sb p0):PClosed ea eb L (pairsOf ea eb L p0):=by
 intro p hp x hx h1 h2;obtain ⟨j,hj⟩:=List.mem_iff_getElem?.1 hp;have hl:=pairs_len L hga hgb h0;have:=(List.getElem?_eq_some_iff.1 hj).1;exact pbSt_closed 1601 j (by omega) hj x hx h1 h2
theorem pbAll_in {ea eb:List Ed} {r:Nat} {P:PS} (hc:PClosed ea eb (lets r) P):∀ (n:Nat) {e:Ed},e∈pbAll ea eb r P n→n≤P.length→InG r P.length e
 | 0,e,h,hn=>by simp [pbAll] at h
 | n+1,e,h,hn=>by
  have hp:=List.getElem?_eq_getElem (l:=P) (i:=n) (by omega);rw [pbAll_succ hp] at h;rcases List.mem_append.1 h with h | h
  ·exact pbAll_in hc n h (by omega)
  ·simp only [pbEs,List.mem_filterMap,List.mem_range] at h
   obtain ⟨j,hj,he⟩:=h;unfold pbEd at he;split at he
   ·cases he
   ·rename_i hcc
    injection he with he
    subst he;have hm:=hc P[n] (List.getElem_mem _) ((j:Int)+1) (mem_lets.2 ⟨by omega,by omega,by omega⟩) (fun h=>hcc (.inl h)) (fun h=>hcc (.inr h));have hi:=List.idxOf_lt_length_iff.2 hm;unfold InG;simp only;omega
def pullE (r:Int) (es es':List Ed) (u v:Int):List Ed:=canon (pbAll es es' r.toNat (pairsOf es es' (lets r.toNat) (u,v)) (pairsOf es es' (lets r.toNat) (u,v)).length)
theorem pull_gr {r s:Int} {es:List Ed} {r' s':Int} {es':List Ed} {u v:Int} (h:PullOk r s es r' s' es' u v):IsGr r ((pairsOf es es' (lets r.toNat) (u,v)).length:Int) (pullE r es es' u v):=by
 have hr:=h.f1.gr.rank;have h0:0 < (pairsOf es es' (lets r.toNat) (u,v)).length:=pbSt_pos es es' (lets r.toNat) (u,v) 1601;have hsz:=h.sz;refine ⟨hr,⟨by omega,by omega⟩,?_,?_,asc_canon _⟩
 ·have h1:=canon_len (pbAll es es' r.toNat (pairsOf es es' (lets r.toNat) (u,v)) (pairsOf es es' (lets r.toNat) (u,v)).length)
  have:=h.ln;unfold pullE;omega
 ·intro e he
  have hi:=pbAll_in (pairs_closed (lets r.toNat) h.f1.gr h.f2.gr h.pin) _ (mem_canon.1 he) (Nat.le_refl _);rw [show ((r.toNat:Nat):Int)=r by omega] at hi;exact hi
def PullIs (r s:Int) (es:List Ed) (r' s':Int) (es':List Ed) (u v:Int) (rr rs:Int) (res:List Ed) (b:Bool):Prop :=
 (b=true∧PullOk r s es r' s' es' u v∧rr=r∧rs=((pairsOf es es' (lets r.toNat) (u,v)).length:Int)∧res=pullE r es es' u v) ∨ (b=false∧¬ PullOk r s es r' s' es' u v∧rr=0∧rs=0∧res=[])
theorem PullIs.no {r s:Int} {es:List Ed} {r' s':Int} {es':List Ed} {u v:Int} {rr rs:Int} {res:List Ed} {b:Bool} (h:PullIs r s es r' s' es' u v rr rs res b) (hn:¬ PullOk r s es r' s' es' u v):b=false∧rr=0∧rs=0∧res=[]:=by
 rcases h with ⟨-,h, -⟩ | ⟨h1, -,h2⟩
 ·exact absurd h hn
 ·exact ⟨h1,h2⟩
theorem PullIs.yes {r s:Int} {es:List Ed} {r' s':Int} {es':List Ed} {u v:Int} {rr rs:Int} {res:List Ed} {b:Bool} (h:PullIs r s es r' s' es' u v rr rs res b) (hn:PullOk r s es r' s' es' u v):b=true∧rr=r∧rs=((pairsOf es es' (lets r.toNat) (u,v)).length:Int)∧res=pullE r es es' u v:=by
 rcases h with ⟨h1, -,h2⟩ | ⟨-,h, -⟩
 ·exact ⟨h1,h2⟩
 ·exact absurd hn h
def rdA (es:List Ed):Int→List Int→Int × Nat
 | v,[]=>(v,0)
 | v,x :: t=>if nextV es v x < 0 then (v,0) else ((rdA es (nextV es v x) t).1,(rdA es (nextV es v x) t).2+1)
def petalA (g:Int × List Ed) (w:List Int):Int × List Ed:=if w=[] then g else (g.1+(w.length:Int) - 1,canon (g.2++pathE 0 g.1 w 0 w.length))
def flowA (l:List (List Int)) (g:Int × List Ed):Int × List Ed:=l.foldl petalA g
theorem flowA_take {l:List (List Int)} {k:Nat} {w:List Int} (h:l[k]?=some w) (g:Int × List Ed):flowA (l.take (k+1)) g=petalA (flowA (l.take k) g) w:=by
 unfold flowA;rw [List.take_add_one,h];simp [List.foldl_append]
def Sp (es:List Ed) (u x v:Int):Prop:=(0 < x∧(⟨u,x,v⟩:Ed)∈es) ∨ (x < 0∧(⟨v, -x,u⟩:Ed)∈es)
def Pa (es:List Ed):Int→List Int→Int→Prop
 | u,[],v=>u=v
 | u,x :: w,v=>∃ t,Sp es u x t∧Pa es t w v
theorem Sp.neg {es:List Ed} {u x v:Int} (h:Sp es u x v):Sp es v (-x) u:=by
 rcases h with ⟨h1,h2⟩ | ⟨h1,h2⟩
 ·exact .inr ⟨by omega,by rw [Int.neg_neg];exact h2⟩
 ·exact .inl ⟨by omega,h2⟩
theorem sp_edge {es:List Ed} {e:Ed} (h:e∈es) (hl:0 < e.l):Sp es e.a e.l e.b:=.inl ⟨hl,h⟩
theorem sp_endOf {es:List Ed} {u x v:Int}:Sp es u x v↔∃ e∈es,endOf u x e=some v:=by
 constructor
 ·rintro (⟨h1,h2⟩ | ⟨h1,h2⟩)
  ·exact ⟨_,h2,endOf_some.2 (.inl ⟨h1,rfl,rfl,rfl⟩)⟩
  ·exact ⟨_,h2,endOf_some.2 (.inr ⟨h1,rfl,rfl,rfl⟩)⟩
 ·rintro ⟨e,he,h⟩
  rcases endOf_some.1 h with ⟨h1,rfl,rfl,rfl⟩ | ⟨h1,h2,rfl,rfl⟩
  ·exact .inl ⟨h1,he⟩
  ·refine .inr ⟨h1,?_⟩
   rw [← h2];exact he
theorem sp_ends {es:List Ed} {u x v:Int}:Sp es u x v↔v∈ends es u x:=sp_endOf.trans mem_ends.symm
theorem Sp.rng {r s:Int} {es:List Ed} (hg:∀ e∈es,InG r s e) {u x v:Int} (h:Sp es u x v):(0≤u∧u < s)∧(0≤v∧v < s)∧x≠0∧-r≤x∧x≤r:=by
 rcases h with ⟨h1,h2⟩ | ⟨h1,h2⟩
 ·have:=hg _ h2
  simp only [InG] at this;omega
 ·have:=hg _ h2
  simp only [InG] at this;omega
theorem Sp.lt3 {r s:Int} {es:List Ed} (hg:IsGr r s es) {u x v:Int} (h:Sp es u x v):Lt3 x:=by
 have h1:=h.rng hg.all;have h2:=hg.rank;unfold Lt3;omega
theorem Sp.mono {es fs:List Ed} (hs:∀ e∈es,e∈fs) {u x v:Int} (h:Sp es u x v):Sp fs u x v:=h.imp (fun h=>⟨h.1,hs _ h.2⟩) (fun h=>⟨h.1,hs _ h.2⟩)
theorem Pa.mono {es fs:List Ed} (hs:∀ e∈es,e∈fs):∀ {w:List Int} {u v:Int},Pa es u w v→Pa fs u w v
 | [],_,_,h=>h
 | _ :: _,_,_,⟨t,h1,h2⟩=>⟨t,h1.mono hs,h2.mono hs⟩
theorem Pa.nil (es:List Ed) (u:Int):Pa es u [] u:=rfl
theorem pa_one {es:List Ed} {u x v:Int}:Pa es u [x] v↔Sp es u x v:=by
 constructor
 ·rintro ⟨t,h,rfl⟩
  exact h
 ·exact fun h=>⟨v,h,rfl⟩
theorem pa_app {es:List Ed} {b:List Int} {v:Int}:∀ {a:List Int} {u:Int},Pa es u (a++b) v↔∃ t,Pa es u a t∧Pa es t b v
 | [],u=>⟨fun h=>⟨u,rfl,h⟩,fun ⟨t,h1,h2⟩=>by cases h1;exact h2⟩
 | x :: a,u=>by
  constructor
  ·rintro ⟨t,h1,h2⟩
   obtain ⟨s,h3,h4⟩:=pa_app.1 h2;exact ⟨s,⟨t,h1,h3⟩,h4⟩
  ·rintro ⟨s,⟨t,h1,h3⟩,h4⟩
   exact ⟨t,h1,pa_app.2 ⟨s,h3,h4⟩⟩
theorem Pa.app {es:List Ed} {a b:List Int} {u t v:Int} (h:Pa es u a t) (k:Pa es t b v):Pa es u (a++b) v:=pa_app.2 ⟨t,h,k⟩
theorem Pa.snoc {es:List Ed} {a:List Int} {u t x v:Int} (h:Pa es u a t) (k:Sp es t x v):Pa es u (a++[x]) v:=h.app (pa_one.2 k)
theorem Pa.lt {r s:Int} {es:List Ed} (hg:IsGr r s es):∀ {w:List Int} {u v:Int},Pa es u w v→LtW w
 | [],_,_,_=>LtW.nil
 | _ :: _,_,_,⟨t,h1,h2⟩=>LtW.cons (h1.lt3 hg) (h2.lt hg)
theorem Pa.rng {r s:Int} {es:List Ed} (hg:∀ e∈es,InG r s e):∀ {w:List Int} {u v:Int},Pa es u w v→0≤u∧u < s→0≤v∧v < s
 | [],_,_,h,hu=>by cases h;exact hu
 | _ :: _,_,_,⟨t,h1,h2⟩,_=>h2.rng hg (h1.rng hg).2.1
theorem Pa.inv {r s:Int} {es:List Ed} (hg:IsGr r s es):∀ {w:List Int} {u v:Int},Pa es u w v→Pa es v (invW w) u
 | [],_,_,h=>by cases h;rfl
 | x :: w,u,v,⟨t,h1,h2⟩=>by
  have e:invW (x :: w)=invW w++[-x]:=by
   rw [show x :: w=[x]++w from rfl,invW_app];simp [invW,(h1.lt3 hg).negI]
  rw [e];exact (h2.inv hg).snoc h1.neg
theorem IsFol.det {r s:Int} {es:List Ed} (h:IsFol r s es) {u x v v':Int} (h1:Sp es u x v) (h2:Sp es u x v'):v=v':=by
 have key:∀ e∈es,∀ f∈es,Clash e f→e=f:=by
  intro e he f hf hc;obtain ⟨i,hi,rfl⟩:=List.getElem_of_mem he;obtain ⟨j,hj,rfl⟩:=List.getElem_of_mem hf;have hp:=List.pairwise_iff_getElem.1 h.fol;rcases Nat.lt_trichotomy i j with hl | rfl | hl
  ·exact absurd hc (hp i j hi hj hl)
  ·rfl
  ·exact absurd hc.symm (hp j i hj hi hl)
 rcases h1 with ⟨a1,b1⟩ | ⟨a1,b1⟩
 ·rcases h2 with ⟨a2,b2⟩ | ⟨a2,b2⟩
  ·have:=key _ b1 _ b2 ⟨rfl,.inl rfl⟩
   injection this
  ·omega
 ·rcases h2 with ⟨a2,b2⟩ | ⟨a2,b2⟩
  ·omega
  ·have:=key _ b1 _ b2 ⟨rfl,.inr rfl⟩
   injection this
theorem Pa.det {r s:Int} {es:List Ed} (h:IsFol r s es):∀ {w:List Int} {u v v':Int},Pa es u w v→Pa es u w v'→v=v'
 | [],_,_,_,h1,h2=>h1.symm.trans h2
 | _ :: _,_,_,_,⟨t,a1,b1⟩,⟨t',a2,b2⟩=>by
  cases h.det a1 a2
  exact b1.det h b2
theorem Pa.det' {r s:Int} {es:List Ed} (h:IsFol r s es) {w:List Int} {u u' v:Int} (h1:Pa es u w v) (h2:Pa es u' w v):u=u':=(h1.inv h.gr).det h (h2.inv h.gr)
theorem nextV_sp {r s:Int} {es:List Ed} (h:IsFol r s es) {u x v:Int} (hs:Sp es u x v):nextV es u x=v:=by
 have hm:=sp_ends.1 hs;exact leastI_eq hm fun y hy=>by
  have:=h.det hs (sp_ends.2 hy);omega
theorem sp_nextV {es:List Ed} {u x:Int} (h:0≤nextV es u x):Sp es u x (nextV es u x):=by
 obtain ⟨e,he,h2⟩:=nextV_edge h;exact sp_endOf.2 ⟨e,he,h2⟩
theorem nextV_no {es:List Ed} {u x:Int} (h:nextV es u x < 0) (hg:∀ e∈es,0≤e.a∧0≤e.b) (v:Int):¬ Sp es u x v:=by
 intro hs;have hm:=sp_ends.1 hs;have hne:ends es u x≠[]:=fun e=>by rw [e] at hm;cases hm
 obtain ⟨h1,h2⟩:=leastI_mem hne;have h3:=sp_ends.2 h1;have:0≤leastI (ends es u x):=by
  rcases h3 with ⟨_,h3⟩ | ⟨_,h3⟩
  ·exact (hg _ h3).2
  ·exact (hg _ h3).1
 unfold nextV at h;omega
theorem IsGr.nn {r s:Int} {es:List Ed} (h:IsGr r s es):∀ e∈es,0≤e.a∧0≤e.b:=fun e he=>⟨(h.all e he).1,(h.all e he).2.2.1⟩
theorem rdA_full {r s:Int} {es:List Ed} (h:IsFol r s es):∀ {w:List Int} {u v:Int},Pa es u w v→rdA es u w=(v,w.length)
 | [],_,_,hp=>by cases hp;rfl
 | x :: w,u,v,⟨t,h1,h2⟩=>by
  have e:=nextV_sp h h1;have ht:=(h1.rng h.gr.all).2.1;rw [rdA,e,if_neg (by omega),rdA_full h h2]
  rfl
theorem rdA_pa {es:List Ed}:∀ {w:List Int} {u:Int},(rdA es u w).2=w.length→Pa es u w (rdA es u w).1
 | [],_,_=>rfl
 | x :: w,u,h=>by
  rw [rdA] at h ⊢;by_cases hn:nextV es u x < 0
  ·rw [if_pos hn] at h
   simp at h
  ·rw [if_neg hn] at h ⊢
   exact ⟨_,sp_nextV (by omega),rdA_pa (by simpa using h)⟩
theorem rdA_iff {r s:Int} {es:List Ed} (h:IsFol r s es) {w:List Int} {u v:Int}:Pa es u w v↔rdA es u w=(v,w.length):=by
 refine ⟨rdA_full h,fun e=>?_⟩;have h2:(rdA es u w).2=w.length:=by rw [e]
 have:=rdA_pa h2
 rwa [e] at this
theorem pa_red {r s:Int} {es:List Ed} (h:IsFol r s es):∀ {w:List Int} {out:List Int} {u t v:Int},Pa es u out t→Pa es t w v→Pa es u (red out w) v
 | [],out,u,t,v,h1,h2=>by cases h2;exact h1
 | x :: w,out,u,t,v,h1,⟨t2,h2,h3⟩=>by
  rw [red_cons];refine pa_red h ?_ h3;rcases snoc_cases out with rfl | ⟨o,a,rfl⟩
  ·cases h1
   rw [redStep_empty];exact pa_one.2 h2
  ·obtain ⟨p,h4,h5⟩:=pa_app.1 h1
   have h5:=pa_one.1 h5;cases hb:invB a x with
   | false=>rw [redStep_push hb];exact h1.snoc h2
   | true =>
    rw [redStep_pop hb];have e:=(invB_lt (h5.lt3 h.gr) (h2.lt3 h.gr)).1 hb;have e2:x = -a:=by omega
    rw [e2] at h2;rw [h.det h2 h5.neg];exact h4
theorem Pa.red {r s:Int} {es:List Ed} (h:IsFol r s es) {w:List Int} {u v:Int} (hp:Pa es u w v):Pa es u (red [] w) v:=pa_red h (Pa.nil es u) hp
def InS (es:List Ed) (w:List Int):Prop:=Pa es 0 (red [] w) 0
theorem InS.mk {r s:Int} {es:List Ed} (h:IsFol r s es) {w:List Int} (hp:Pa es 0 w 0):InS es w:=hp.red h
theorem InS.eqv {es:List Ed} {a b:List Int} (h:Eqv a b):InS es a↔InS es b:=by unfold InS;rw [h]
theorem InS.nil (es:List Ed):InS es []:=rfl
theorem inS_rdA {r s:Int} {es:List Ed} (h:IsFol r s es) (w:List Int):InS es w↔rdA es 0 (red [] w)=(0,(red [] w).length):=rdA_iff h
theorem clash_eq:∀ {es:List Ed},(es.Pairwise fun e f=>¬ Clash e f)→∀ {e f:Ed},e∈es→f∈es→Clash e f→e=f
 | [],_,e,f,he,_,_=>by cases he
 | g :: t,h,e,f,he,hf,hc=>by
  obtain ⟨h1,h2⟩:=List.pairwise_cons.1 h;rcases List.mem_cons.1 he with ha | ha
  ·rcases List.mem_cons.1 hf with hb | hb
   ·rw [ha,hb]
   ·rw [ha] at hc
    exact absurd hc (h1 f hb)
  ·rcases List.mem_cons.1 hf with hb | hb
   ·rw [hb] at hc
    exact absurd hc.symm (h1 e ha)
   ·exact clash_eq h2 ha hb hc
theorem nextV_inv {r s:Int} {es:List Ed} (h:IsFol r s es) {v x:Int} (hx:0≤nextV es v x):nextV es (nextV es v x) (-x)=v:=by
 obtain ⟨e,he,hv⟩:=nextV_edge hx;generalize nextV es v x=u at hv;have hu:endOf u (-x) e=some v:=by
  rw [endOf_some] at hv ⊢;rcases hv with ⟨h1,h2,h3,h4⟩ | ⟨h1,h2,h3,h4⟩
  ·exact .inr ⟨by omega,by omega,h4,h3⟩
  ·exact .inl ⟨by omega,by omega,h4,h3⟩
 have hm:v∈ends es u (-x):=mem_ends.2 ⟨e,he,hu⟩;refine leastI_eq hm fun y hy=>?_;obtain ⟨f,hf,hy⟩:=mem_ends.1 hy;rw [endOf_some] at hu hy;have hc:Clash e f:=by unfold Clash;omega
 have:=clash_eq h.fol he hf hc;subst this;omega
section
def lastL (w:List Int):Int:=w.getLast?.getD 0
theorem lastL_snoc (w:List Int) (x:Int):lastL (w++[x])=x:=by simp [lastL]
def edgeOf (es:List Ed) (q:Int × List Int):Ed:=stepE (nextV es q.1 (-(lastL q.2))) (lastL q.2) q.1
def treeE (es:List Ed) (st:BS):List Ed:=st.tail.map (edgeOf es)
theorem edgeOf_new {r s:Int} {es:List Ed} (hf:IsFol r s es) {u x:Int} {w:List Int} (h:0≤nextV es u x):edgeOf es (nextV es u x,w++[x])=stepE u x (nextV es u x):=by
 unfold edgeOf;simp only [lastL_snoc];rw [nextV_inv hf h]
structure Par (es:List Ed) (L:List Int) (st:BS):Prop where
 ne:st≠[]
 par:∀ q∈st.tail,∃ p∈st,∃ x∈L,q=(nextV es p.1 x,p.2++[x])∧0≤nextV es p.1 x
theorem Par.step {es:List Ed} {L:List Int} {st:BS} (h:Par es L st) {p:Int × List Int} (hp:p∈st) {x:Int} (hx:x∈L):Par es L (bfsStep es p.1 p.2 st x):=by
 unfold bfsStep;split
 ·exact h
 ·rename_i hc
  refine ⟨by simp,fun q hq=>?_⟩;have ht:(st++[(nextV es p.1 x,p.2++[x])]).tail=st.tail++[(nextV es p.1 x,p.2++[x])]:=by
   cases hst:st with
   | nil=>exact absurd hst h.ne
   | cons a t=>rfl
  rw [ht] at hq;rcases List.mem_append.1 hq with hq | hq
  ·obtain ⟨p',hp',x',hx',h1,h2⟩:=h.par q hq
   exact ⟨p',by simp [hp'],x',hx',h1,h2⟩
  ·simp at hq
   subst hq;exact ⟨p,by simp [hp],x,hx,rfl,by omega⟩
theorem Par.row {es:List Ed} {L:List Int} {p:Int × List Int}:∀ (K:List Int),(∀ x∈K,x∈L)→∀ {st:BS},Par es L st→p∈st→Par es L (bfsRow es K p st)
 | [],_,st,h,_=>h
 | x :: K,hK,st,h,hp=>Par.row K (fun y hy=>hK y (by simp [hy])) (h.step hp (hK x (by simp))) ((bfsStep_pre es p.1 p.2 st x).subset hp)
theorem bfsSt_par (es:List Ed) (L:List Int) (v:Int) (i:Nat):Par es L (bfsSt es L v i):=by
 induction i with
 | zero=>exact ⟨by simp [bfsSt],fun q hq=>by simp [bfsSt] at hq⟩
 | succ i ih =>
  show Par es L (match (bfsSt es L v i)[i]? with | none=>bfsSt es L v i | some p=>bfsRow es L p (bfsSt es L v i))
  split
  ·exact ih
  ·rename_i p hp
   exact Par.row L (fun x hx=>hx) ih (List.mem_of_getElem? hp)
theorem bfs_par (es:List Ed) (L:List Int) (v:Int):Par es L (bfs es L v):=bfsSt_par es L v 41
theorem IsCor.found {r n:Nat} {es:List Ed} (h:IsCor r n es):(bfs es (lets r) 0).length=n:=by
 have h1:=h.canon;unfold canonG at h1;rw [if_pos h.fol] at h1;have h2:=congrArg Prod.fst h1;simp only [ordE,List.length_map,Int.toNat_natCast] at h2;omega
theorem IsCor.has {r n:Nat} {es:List Ed} (h:IsCor r n es) {v:Nat} (hv:v < n):∃ w,((v:Int),w)∈bfs es (lets r) 0:=by
 have hn:0 < n:=by omega
 have hb:=bfs_ok (L:=lets r) (v:=0) h.gr.all (Int.le_refl _) (show (0:Int) < (n:Int) by omega);rcases Classical.em ((v:Int)∈(bfs es (lets r) 0).map Prod.fst) with hm | hm
 ·obtain ⟨p,hp,hpv⟩:=List.mem_map.1 hm
  refine ⟨p.2,?_⟩;rw [← hpv];exact hp
 ·exfalso
  have hk:BfsOk n (lets r) (bfs es (lets r) 0++[((v:Int),[])]):=by
   refine ⟨?_,?_,?_,?_⟩
   ·rw [List.map_append,List.nodup_append]
    refine ⟨hb.nd,by simp,?_⟩;intro a ha b hb' e;simp at hb';subst hb' e;exact hm ha
   ·intro q hq
    rcases List.mem_append.1 hq with hq | hq
    ·exact hb.rng q hq
    ·simp at hq;subst hq;simp only [];omega
   ·intro j q hq
    rcases Nat.lt_or_ge j (bfs es (lets r) 0).length with hj | hj
    ·rw [List.getElem?_append_left hj] at hq;exact hb.wl j q hq
    ·rw [List.getElem?_append_right hj] at hq
     have:=List.mem_of_getElem? hq;simp at this;subst this;simp
   ·intro q hq y hy
    rcases List.mem_append.1 hq with hq | hq
    ·exact hb.wm q hq y hy
    ·simp at hq;subst hq;simp at hy
  have h1:=hk.len (by omega);rw [List.length_append,h.found] at h1;simp at h1;omega
open Classical in
noncomputable def wordV (r:Nat) (es:List Ed) (v:Int):List Int:=if h:∃ w,(v,w)∈bfs es (lets r) 0 then h.choose else []
theorem wordV_eq {r n:Nat} {es:List Ed} (hg:IsGr r n es) {v:Int} {w:List Int} (h:(v,w)∈bfs es (lets r) 0):wordV r es v=w:=by
 have hn:(0:Int) < (n:Int):=by have:=hg.size;omega
 have hb:=bfs_ok (L:=lets r) (v:=0) hg.all (Int.le_refl _) hn;have hex:∃ w,(v,w)∈bfs es (lets r) 0:=⟨w,h⟩
 unfold wordV;rw [dif_pos hex];have h2:=hex.choose_spec;generalize hex.choose=w' at h2;have key:∀ (l:BS),(l.map Prod.fst).Nodup→(v,w)∈l→(v,w')∈l→w'=w:=by
  intro l
  induction l with
  | nil=>intro _ h;cases h
  | cons p t ih =>
   intro hnd ha hb;rw [List.map_cons,List.nodup_cons] at hnd;rcases List.mem_cons.1 ha with ha | ha
   ·rcases List.mem_cons.1 hb with hb | hb
    ·rw [← ha] at hb
     injection hb
    ·rw [← ha] at hnd
     exact absurd (List.mem_map_of_mem (f:=Prod.fst) hb) hnd.1
   ·rcases List.mem_cons.1 hb with hb | hb
    ·rw [← hb] at hnd
     exact absurd (List.mem_map_of_mem (f:=Prod.fst) ha) hnd.1
    ·exact ih hnd.2 ha hb
 exact key _ hb.nd h h2
theorem wordV_mem {r n:Nat} {es:List Ed} (h:IsCor r n es) {v:Nat} (hv:v < n):((v:Int),wordV r es v)∈bfs es (lets r) 0:=by
 obtain ⟨w,hw⟩:=h.has hv;rw [wordV_eq h.gr hw];exact hw
theorem wordV_ok {r n:Nat} {es:List Ed} (h:IsCor r n es) {v:Nat} (hv:v < n):(wordV r es v).length≤40∧∀ x∈wordV r es v,x∈lets r:=by
 have hm:=wordV_mem h hv;have hn:(0:Int) < (n:Int):=by omega
 have hn40:n≤40:=by have:=h.gr.size;omega
 have hb:=bfs_ok (L:=lets r) (v:=0) h.gr.all (Int.le_refl _) hn;refine ⟨?_,hb.wm _ hm⟩;obtain ⟨j,hj,hj2⟩:=List.getElem_of_mem hm;have h1:=hb.wl j _ (by rw [List.getElem?_eq_getElem hj,hj2]);have h2:=h.found;simp only at h1;omega
open Classical in
noncomputable def extraE (r:Nat) (es:List Ed):List Ed:=es.filter fun e=>decide (e ∉ treeE es (bfs es (lets r) 0))
theorem extraE_mem {r:Nat} {es:List Ed} {e:Ed} (h:e∈extraE r es):e∈es:=(List.mem_filter.1 h).1
noncomputable def basisW (r:Nat) (es:List Ed) (e:Ed):List Int:=red [] (wordV r es e.a++[e.l]++invW (wordV r es e.b))
noncomputable def basisG (r:Nat) (es:List Ed):List (List Int):=(extraE r es).map (basisW r es)
end
theorem IsFol.key {r s:Int} {es:List Ed} (h:IsFol r s es):∀ e∈es,∀ f∈es,Clash e f→e=f:=by
 intro e he f hf hc;obtain ⟨i,hi,rfl⟩:=List.getElem_of_mem he;obtain ⟨j,hj,rfl⟩:=List.getElem_of_mem hf;have hp:=List.pairwise_iff_getElem.1 h.fol;rcases Nat.lt_trichotomy i j with hl | rfl | hl
 ·exact absurd hc (hp i j hi hj hl)
 ·rfl
 ·exact absurd hc.symm (hp j i hj hi hl)
theorem IsFol.mk' {r s:Int} {es:List Ed} (h:IsGr r s es) (hk:∀ e∈es,∀ f∈es,Clash e f→e=f):IsFol r s es:=by
 refine ⟨h,List.pairwise_iff_getElem.2 fun i j hi hj hij hc=>?_⟩;have e:=hk _ (List.getElem_mem hi) _ (List.getElem_mem hj) hc;have:=List.pairwise_iff_getElem.1 h.asc i j hi hj hij;exact this.ne e
theorem idxI_mem {ord:List Int} {v:Int}:0≤idxI ord v↔v∈ord:=by
 unfold idxI;split
 ·rename_i h
  exact ⟨fun _=>h,fun _=>Int.natCast_nonneg _⟩
 ·rename_i h
  exact ⟨fun h=>by omega,fun h2=>absurd h2 h⟩
theorem idxI_get {ord:List Int} {v:Int} (h:v∈ord):ord[(idxI ord v).toNat]?=some v:=by
 unfold idxI;rw [if_pos h,Int.toNat_natCast];have hl:=List.idxOf_lt_length_iff.2 h;rw [List.getElem?_eq_getElem hl,List.getElem_idxOf hl]
theorem idxI_inj {ord:List Int} {u v:Int} (hu:u∈ord) (hv:v∈ord) (h:idxI ord u=idxI ord v):u=v:=by
 have h1:=idxI_get hu;rw [h,idxI_get hv] at h1;exact (Option.some.inj h1).symm
theorem mem_partE {ord:List Int} {es:List Ed} {f:Ed}:f∈partE ord es↔∃ e∈es,e.a∈ord∧e.b∈ord∧f=⟨idxI ord e.a,e.l,idxI ord e.b⟩:=by
 unfold partE;rw [mem_canon,List.mem_filterMap];constructor
 ·rintro ⟨e,he,h⟩
  unfold partOf at h;split at h
  ·rename_i hc
   exact ⟨e,he,idxI_mem.1 hc.1,idxI_mem.1 hc.2,(Option.some.inj h).symm⟩
  ·cases h
 ·rintro ⟨e,he,h1,h2,rfl⟩
  refine ⟨e,he,?_⟩;unfold partOf;rw [if_pos ⟨idxI_mem.2 h1,idxI_mem.2 h2⟩]
theorem part_sp {ord:List Int} {es:List Ed} {i x j:Int}:Sp (partE ord es) i x j↔∃ u v,u∈ord∧v∈ord∧idxI ord u=i∧idxI ord v=j∧Sp es u x v:=by
 constructor
 ·rintro (⟨h1,h2⟩ | ⟨h1,h2⟩)
  ·obtain ⟨e,he,ha,hb,h3⟩:=mem_partE.1 h2
   injection h3 with h3 h4 h5
   exact ⟨e.a,e.b,ha,hb,h3.symm,h5.symm,.inl ⟨h1,by rw [h4];exact he⟩⟩
  ·obtain ⟨e,he,ha,hb,h3⟩:=mem_partE.1 h2
   injection h3 with h3 h4 h5
   exact ⟨e.b,e.a,hb,ha,h5.symm,h3.symm,.inr ⟨h1,by rw [h4];exact he⟩⟩
 ·rintro ⟨u,v,hu,hv,rfl,rfl,(⟨h1,h2⟩ | ⟨h1,h2⟩)⟩
  ·exact .inl ⟨h1,mem_partE.2 ⟨_,h2,hu,hv,rfl⟩⟩
  ·exact .inr ⟨h1,mem_partE.2 ⟨_,h2,hv,hu,rfl⟩⟩
theorem part_pa_to {ord:List Int} {es:List Ed}:∀ {w:List Int} {i j:Int},Pa (partE ord es) i w j→∀ u∈ord,idxI ord u=i→∃ v∈ord,idxI ord v=j∧Pa es u w v
 | [],_,_,h,u,hu,hi=>⟨u,hu,hi.trans h,rfl⟩
 | x :: w,i,j,⟨t,h1,h2⟩,u,hu,hi=>by
  obtain ⟨u',t',hu',ht',hi',htt,hs⟩:=part_sp.1 h1;have e:=idxI_inj hu' hu (hi'.trans hi.symm);subst e;obtain ⟨v,hv,hj,hp⟩:=part_pa_to h2 t' ht' htt;exact ⟨v,hv,hj,⟨t',hs,hp⟩⟩
theorem part_pa_of {ord:List Int} {es:List Ed}:∀ {w:List Int} {u v:Int},Pa es u w v→(∀ a b t,w=a++b→Pa es u a t→t∈ord)→Pa (partE ord es) (idxI ord u) w (idxI ord v)
 | [],_,_,h,_=>by cases h;rfl
 | x :: w,u,v,⟨t,h1,h2⟩,hr=>by
  have hu:=hr [] (x :: w) u rfl rfl;have ht:=hr [x] w t rfl (pa_one.2 h1);exact ⟨idxI ord t,part_sp.2 ⟨u,t,hu,ht,rfl,rfl,h1⟩,part_pa_of h2 fun a b t' e hp=>hr (x :: a) b t' (by rw [e];rfl) ⟨t,h1,hp⟩⟩
theorem part_fol {r s:Int} {es:List Ed} {ord:List Int} (h:IsFol r s es) (h0:ord≠[]) (h40:ord.length≤40):IsFol r ord.length (partE ord es):=by
 refine IsFol.mk' (partE_gr h.gr h0 h40) fun e he f hf hc=>?_;obtain ⟨e',he',a1,b1,rfl⟩:=mem_partE.1 he;obtain ⟨f',hf',a2,b2,rfl⟩:=mem_partE.1 hf;have:e'=f':=h.key e' he' f' hf' ⟨hc.1,hc.2.imp (idxI_inj a1 a2) (idxI_inj b1 b2)⟩;rw [this]
theorem bfsRow_closed {es:List Ed} {p:Int × List Int}:∀ (K:List Int) {st:BS},∀ x∈K,0≤nextV es p.1 x→nextV es p.1 x∈(bfsRow es K p st).map Prod.fst
 | [],_,x,hx,_=>by cases hx
 | y :: K,st,x,hx,hn=>by
  rcases List.mem_cons.1 hx with rfl | hx
  ·have h1:nextV es p.1 x∈(bfsStep es p.1 p.2 st x).map Prod.fst:=by
    unfold bfsStep;by_cases hc:nextV es p.1 x < 0 ∨ nextV es p.1 x∈st.map Prod.fst
    ·rw [if_pos hc]
     rcases hc with hc | hc
     ·omega
     ·exact hc
    ·rw [if_neg hc,List.map_append]
     exact List.mem_append_right _ (by simp)
   obtain ⟨q,hq,e⟩:=List.mem_map.1 h1;rw [← e];exact List.mem_map.2 ⟨q,(bfsRow_pre es K p (bfsStep es p.1 p.2 st x)).subset hq,rfl⟩
  ·exact bfsRow_closed K x hx hn
theorem bfsSt_closed {es:List Ed} {L:List Int} {v:Int}:∀ (i j:Nat) {p:Int × List Int},j < i→(bfsSt es L v i)[j]?=some p→∀ x∈L,0≤nextV es p.1 x→nextV es p.1 x∈(bfsSt es L v i).map Prod.fst
 | 0,j,p,h,_=>by omega
 | i+1,j,p,h,hp=>by
  intro x hx hn;cases hq:(bfsSt es L v i)[i]? with
  | none =>
   have hs:bfsSt es L v (i+1)=bfsSt es L v i:=by simp [bfsSt,hq]
   rw [hs] at hp ⊢;have hji:j < i:=by
    have h1:=(List.getElem?_eq_some_iff.1 hp).1;have h2:=List.getElem?_eq_none_iff.1 hq;omega
   exact bfsSt_closed i j hji hp x hx hn
  | some q =>
   have hs:bfsSt es L v (i+1)=bfsRow es L q (bfsSt es L v i):=by simp [bfsSt,hq]
   rw [hs] at hp ⊢;rcases Nat.lt_or_ge j i with hji | hji
   ·have hl:j < (bfsSt es L v i).length:=by
     have:=(List.getElem?_eq_some_iff.1 hq).1;omega
    have hp2:(bfsSt es L v i)[j]?=some p:=by
     have h1:=prefix_get (bfsRow_pre es L q (bfsSt es L v i)) (List.getElem?_eq_getElem hl);rw [hp] at h1;rw [List.getElem?_eq_getElem hl,← h1]
    have h2:=bfsSt_closed i j hji hp2 x hx hn;obtain ⟨z,hz,e⟩:=List.mem_map.1 h2;rw [← e];exact List.mem_map.2 ⟨z,(bfsRow_pre es L q _).subset hz,rfl⟩
   ·have e:j=i:=by omega
    subst e;have h1:=prefix_get (bfsRow_pre es L q (bfsSt es L v j)) hq;rw [hp] at h1;obtain rfl:=Option.some.inj h1;exact bfsRow_closed L x hx hn
theorem bfs_closed {r s v:Int} {es:List Ed} {L:List Int} (hg:∀ e∈es,InG r s e) (h0:0≤v) (h1:v < s) (hs:s≤40) {p:Int × List Int} (hp:p∈bfs es L v) {x:Int} (hx:x∈L) (hn:0≤nextV es p.1 x):nextV es p.1 x∈(bfs es L v).map Prod.fst:=by
 obtain ⟨j,hj⟩:=List.mem_iff_getElem?.1 hp;have hl:=(bfs_ok (L:=L) hg h0 h1).len (by omega);have hjl:=(List.getElem?_eq_some_iff.1 hj).1;exact bfsSt_closed 41 j (by omega) hj x hx hn
theorem bfs_pa (es:List Ed) (L:List Int) (v:Int):∀ p∈bfs es L v,Pa es v p.2 p.1:=by
 have hrow:∀ (K:List Int) (p:Int × List Int) (st:BS),Pa es v p.2 p.1→(∀ q∈st,Pa es v q.2 q.1)→∀ q∈bfsRow es K p st,Pa es v q.2 q.1:=by
  intro K
  induction K with
  | nil=>exact fun p st _ h=>h
  | cons x K ih =>
   intro p st hp h;refine ih p (bfsStep es p.1 p.2 st x) hp fun q hq=>?_;unfold bfsStep at hq;split at hq
   ·exact h q hq
   ·rename_i hc
    rcases List.mem_append.1 hq with hq | hq
    ·exact h q hq
    ·rw [List.mem_singleton] at hq
     subst hq;exact hp.snoc (sp_nextV (by omega))
 have hst:∀ i,∀ q∈bfsSt es L v i,Pa es v q.2 q.1:=by
  intro i
  induction i with
  | zero =>
   intro q hq;simp [bfsSt] at hq;subst hq
   rfl
  | succ i ih =>
   cases hq:(bfsSt es L v i)[i]? with
   | none=>rw [show bfsSt es L v (i+1)=bfsSt es L v i by simp [bfsSt,hq]];exact ih
   | some p =>
    rw [show bfsSt es L v (i+1)=bfsRow es L p (bfsSt es L v i) by simp [bfsSt,hq]];exact hrow L p _ (ih p (List.mem_of_getElem? hq)) ih
 exact hst 41
theorem bfs_reach {r s v:Int} {es:List Ed} (hf:IsFol r s es) (h0:0≤v) (h1:v < s):∀ {w:List Int} {u t:Int},u∈ordE r es v→Pa es u w t→t∈ordE r es v
 | [],u,t,hu,h=>by cases h;exact hu
 | x :: w,u,t,hu,⟨q,h2,h3⟩=>by
  refine bfs_reach hf h0 h1 ?_ h3;obtain ⟨p,hp,rfl⟩:=List.mem_map.1 hu;have hr:=(h2.rng hf.gr.all)
  have hx:x∈lets r.toNat:=mem_lets.2 (by have:=hf.gr.rank;omega);have hn:=nextV_sp hf h2;have:=bfs_closed (L:=lets r.toNat) hf.gr.all h0 h1 hf.gr.size.2 hp hx (by omega)
  rwa [hn] at this
theorem ordE_self (r:Int) (es:List Ed) (v:Int):v∈ordE r es v:=by
 have h:(v,[])∈bfs es (lets r.toNat) v:=by
  have h1:=bfsSt_pre' es (lets r.toNat) v 0 41;rw [Nat.zero_add] at h1;exact h1.subset (by simp [bfsSt])
 exact List.mem_map.2 ⟨_,h,rfl⟩
theorem ordE_head (r:Int) (es:List Ed) (v:Int):(ordE r es v)[0]?=some v:=by
 have h1:=bfsSt_pre' es (lets r.toNat) v 0 41;rw [Nat.zero_add] at h1;have h2:(bfsSt es (lets r.toNat) v 0)[0]?=some (v,[]):=by simp [bfsSt]
 have h3:=prefix_get h1 h2;unfold ordE bfs;rw [List.getElem?_map,h3]
 rfl
theorem bfs_iso {es es':List Ed} {L:List Int} {v:Int} {f:Int→Int} {R:Int→Prop} (hv:R v) (hcl:∀ u,R u→∀ x∈L,0≤nextV es u x→R (nextV es u x))
  (hn:∀ u,R u→∀ x∈L,nextV es u x < 0→nextV es' (f u) x < 0) (hp:∀ u,R u→∀ x∈L,0≤nextV es u x→nextV es' (f u) x=f (nextV es u x)∧0≤f (nextV es u x))
  (hi:∀ u t,R u→R t→f u=f t→u=t):bfs es' L (f v)=(bfs es L v).map fun p=>(f p.1,p.2):=by
 have hstep:∀ (x:Int) (p:Int × List Int) (st:BS),x∈L→R p.1→(∀ q∈st,R q.1)→bfsStep es' (f p.1) p.2 (st.map fun p=>(f p.1,p.2)) x=(bfsStep es p.1 p.2 st x).map (fun p=>(f p.1,p.2))∧∀ q∈bfsStep es p.1 p.2 st x,R q.1:=by
  intro x p st hx hpR hst;unfold bfsStep;by_cases hneg:nextV es p.1 x < 0
  ·rw [if_pos (.inl (hn p.1 hpR x hx hneg)),if_pos (.inl hneg)]
   exact ⟨rfl,hst⟩
  ·have h1:=hp p.1 hpR x hx (by omega)
   have hR:=hcl p.1 hpR x hx (by omega);have hmem:nextV es' (f p.1) x∈(st.map fun p=>(f p.1,p.2)).map Prod.fst↔nextV es p.1 x∈st.map Prod.fst:=by
    rw [h1.1,List.map_map];constructor
    ·intro h
     obtain ⟨q,hq,e⟩:=List.mem_map.1 h;exact List.mem_map.2 ⟨q,hq,hi _ _ (hst q hq) hR e⟩
    ·intro h
     obtain ⟨q,hq,e⟩:=List.mem_map.1 h;exact List.mem_map.2 ⟨q,hq,by rw [Function.comp_apply,e]⟩
   by_cases hin:nextV es p.1 x∈st.map Prod.fst
   ·rw [if_pos (.inr (hmem.2 hin)),if_pos (.inr hin)]
    exact ⟨rfl,hst⟩
   ·rw [if_neg (fun h=>h.elim (fun h=>by omega) (fun h=>hin (hmem.1 h))),if_neg (fun h=>h.elim (fun h=>by omega) hin),List.map_append,h1.1]
    refine ⟨rfl,fun q hq=>?_⟩;rcases List.mem_append.1 hq with hq | hq
    ·exact hst q hq
    ·rw [List.mem_singleton] at hq
     subst hq;exact hR
 have hrow:∀ (K:List Int) (p:Int × List Int) (st:BS),(∀ x∈K,x∈L)→R p.1→(∀ q∈st,R q.1)→bfsRow es' K (f p.1,p.2) (st.map fun p=>(f p.1,p.2))=(bfsRow es K p st).map (fun p=>(f p.1,p.2))∧∀ q∈bfsRow es K p st,R q.1:=by
  intro K
  induction K with
  | nil=>exact fun p st _ _ h=>⟨rfl,h⟩
  | cons x K ih =>
   intro p st hK hpR hst;obtain ⟨h1,h2⟩:=hstep x p st (hK x List.mem_cons_self) hpR hst;have h3:=ih p (bfsStep es p.1 p.2 st x) (fun y hy=>hK y (List.mem_cons_of_mem _ hy)) hpR h2;refine ⟨?_,h3.2⟩
   show bfsRow es' K (f p.1,p.2) (bfsStep es' (f p.1) p.2 (st.map fun p=>(f p.1,p.2)) x)=_
   rw [h1];exact h3.1
 have hst:∀ i,bfsSt es' L (f v) i=(bfsSt es L v i).map (fun p=>(f p.1,p.2))∧∀ q∈bfsSt es L v i,R q.1:=by
  intro i
  induction i with
  | zero =>
   refine ⟨rfl,fun q hq=>?_⟩;simp [bfsSt] at hq;subst hq;exact hv
  | succ i ih =>
   cases hq:(bfsSt es L v i)[i]? with
   | none =>
    have e1:bfsSt es L v (i+1)=bfsSt es L v i:=by simp [bfsSt,hq]
    have e2:bfsSt es' L (f v) (i+1)=bfsSt es' L (f v) i:=by
     have:(bfsSt es' L (f v) i)[i]?=none:=by rw [ih.1,List.getElem?_map,hq];rfl
     simp [bfsSt,this]
    rw [e1,e2];exact ih
   | some p =>
    have e1:bfsSt es L v (i+1)=bfsRow es L p (bfsSt es L v i):=by simp [bfsSt,hq]
    have e2:bfsSt es' L (f v) (i+1)=bfsRow es' L (f p.1,p.2) (bfsSt es' L (f v) i):=by
     have:(bfsSt es' L (f v) i)[i]?=some (f p.1,p.2):=by rw [ih.1,List.getElem?_map,hq];rfl
     simp [bfsSt,this]
    rw [e1,e2,ih.1];exact hrow L p _ (fun x hx=>hx) (ih.2 p (List.mem_of_getElem? hq)) ih.2
 exact (hst 41).1
end Go.Proofs.YthampgpcajmopaaGreat
