/- Lemmas. -/
import Derived.WalkKit
import Derived.WalkSpells
import Derived.WalkLawsBesides
import Derived.Maps.AppendAt
import Derived.Lib.Hide
import Derived.Deep.Draws
import Derived.Deep.QuietTactic
import Derived.BigQuiet
import Derived.Test.YtkimajabegojoaaGreatRows
import Derived.Maps.OwnSet
import Derived.DeepKeys4
import Derived.Shelf.Small.Wraps
import Derived.Shelf.Sort.Plain
import Derived.Ground.Names2Prog
import Derived.Shelf.Slices.CompactI
import Derived.Shelf.Slices.Cells
import Derived.Shelf.Slices.In.SortNone
import Derived.Test.YtkimajabegojoaaGreatProg
import Derived.Lib.OwnBridge
import Derived.Shelf.SlGeneric
import Derived.Shelf.SlSortCmp.WholeK
import Derived.Shelf.SlicesQ.Contains
import Derived.Shelf.SlicesQ.Equal
import Derived.Ground.SlsfProg
import Derived.Ground.SlgqProg
import Derived.Deep.AppendLies
import Derived.RegionTactic
import Derived.Deep.Matrix
import Derived.Lib.SmallJoins
import Derived.ProofKit
import Derived.OpenShut
import Derived.ShutString
import Derived.ChangeOld
namespace Go.Proofs.YtkimajabegojoaaGreat
set_option linter.unusedVariables false
set_option linter.unusedSimpArgs false
set_option maxHeartbeats 40000000
set_option maxRecDepth 100000
open Go.RowKit
theorem oZr{p:Prop}{n:Nat}:p \/ 0<=n:=Or.inr (Nat.zero_le _)
theorem oZl{p:Prop}{n:Nat}:0<=n \/ p:=Or.inl (Nat.zero_le _)
theorem oP:(∀(a:Act)(d:Tmp)(v:Value),a.put (some d) v={a with tmps:=a.tmps.setIfInBounds d v})/\(∀(a:Act)(v:Value),a.put none v=a)/\(∀(α:Type)(l:List α)(i:Nat)(a:α),l.toArray.setIfInBounds i a=(l.set i a).toArray)/\(∀(α:Type)(x:α)(xs:List α)(a:α),(x::xs).set 0 a=a::xs)/\(∀(α:Type)(x:α)(xs:List α)(i:Nat)(a:α),(x::xs).set (i+1) a=x::xs.set i a)/\(∀(α:Type)(xs:List α)(i:Nat)(h:i<xs.toArray.size),xs.toArray[i]=xs[i]'(by simpa using h))/\(∀(α:Type)(a:α)(xs:List α)(h:0<(a::xs).length),(a::xs)[0]=a)/\(∀(α:Type)(a:α)(xs:List α)(i:Nat)(h:i+1<(a::xs).length),(a::xs)[i+1]=xs[i]'(Nat.lt_of_succ_lt_succ h)) :=⟨fun _ _ _=>rfl,fun _ _=>rfl,fun _ l i a=>List.setIfInBounds_toArray l i a,fun _ _ _ _=>List.set_cons_zero,fun _ _ _ _ _=>List.set_cons_succ,fun _ _ _ h=>List.getElem_toArray h,fun _ a xs h=>List.getElem_cons_zero a xs h,fun _ a xs i h=>List.getElem_cons_succ a xs i h⟩
theorem oH{p:Prop}(h:p):RowKit.Hid p:=Lib.hid h
theorem oN{n:Nat}:n<=n:=Nat.le_refl n
theorem oS{n:Nat}:n<n+1:=Nat.lt_succ_self n
theorem oZ{n:Nat}:0<=n:=Nat.zero_le n
section
open Go.RowKit
def aAd(xs:List Int):List Value:=xs.map (Value.int .i64)
theorem aAG(xs:List Int):(aAd xs).length=xs.length:=by simp[aAd]
theorem aAj(xs ys:List Int):aAd (xs++ys)=aAd xs++aAd ys:=by simp[aAd]
theorem aAF(xs:List Int)(k:Nat):(aAd xs)[k]?=(xs[k]?).map (Value.int .i64):=by simp[aAd]
def Rs(w:World)(B:Nat)(A:Option Addr)(cs:List Value):Prop:=
 cs≠[]->∃ b off,A=some ⟨b,off,none⟩/\b<B/\∀ j u,cs[j]?=some u->w.cell? ⟨b,off+j,none⟩=some u
section
variable {w w' w0:World} {B B':Nat} {A:Option Addr} {cs:List Value}
theorem Rs.keep(h:Rs w B A cs)(hk:∀ p:Addr,p.block<B->w'.cell? p=w.cell? p):Rs w' B A cs:=fun hn=>by
 obtain⟨b,off,e,hb,hc⟩:=h hn;exact⟨b,off,e,hb,fun j u hu=>(hk _ hb).trans (hc j u hu)⟩
theorem Rs.more(h:Rs w B A cs)(hB:B<=B'):Rs w B' A cs:=fun hn=>by
 obtain⟨b,off,e,hb,hc⟩:=h hn;exact⟨b,off,e,by omega,hc⟩
theorem Rs.below(h:Rs w B A cs)(hb:Below B w w'):Rs w' B A cs:=h.keep fun _ hp=>hb.cell hp
theorem Rs.drewN(h:Rs w B A cs)(k:Nat):Rs (w.drewN k) B A cs:=h
theorem Rs.alloc(h:Rs w B A cs)(hB:B<=w.heap.size)(o:Obj):Rs (w.alloc o) B A cs:=h.keep fun p hp=>World.cell?_alloc_lt w o p (by omega)
theorem Rs.of_own{base:Nat}{e:TypeId}{size n c:Nat}(h:w.ownsRow base e size (.slice A n c) n cs):Rs w w.heap.size A cs:=fun hn=>by
 rcases h.2 with⟨hv,h0⟩|⟨g,cap,cur,hv,hg,hh,hnc,hcm,hcs,htake⟩
 .subst h0
  exact absurd (List.eq_nil_of_length_eq_zero (by simpa using h.1)) hn
 .injection hv with hA _ hc
  subst hA;subst hc;refine⟨g,0,rfl,(Array.getElem?_eq_some_iff.1 hh).1,fun j u hu=>?_⟩;rw[Nat.zero_add];have hjl:=(List.getElem?_eq_some_iff.1 hu).1;rw[h.cellAt j (by have:=h.1;omega)];exact hu
theorem Rs.at(h:Rs w B A cs){j:Nat}(hj:j<cs.length):∃ b off u,A=some ⟨b,off,none⟩/\b<B/\cs[j]?=some u/\w.cell? ⟨b,off+j,none⟩=some u:=by
 obtain⟨b,off,e,hb,hc⟩:=h (by intro h0;subst h0;simp at hj);exact⟨b,off,cs[j],e,hb,List.getElem?_eq_getElem hj,hc j _ (List.getElem?_eq_getElem hj)⟩
theorem Rs.drop(h:Rs w B A cs){k n cap:Nat}(size:Nat)(hn:cs.length=n * size)(hc:n<=cap) :
  Rs w B (if cap=k then A else A.map (·.add (k * size))) (cs.drop (k * size)):=by
 intro hne;have hlt:k * size<cs.length:=by
  rcases Nat.lt_or_ge (k * size) cs.length with h1|h1
  .exact h1
  exact absurd (List.drop_eq_nil_of_le h1) hne
 obtain⟨b,off,rfl,hb,hcell⟩:=h (by intro h0;subst h0;simp at hlt);have hk:¬ cap=k:=by
  intro e;subst e;rw[hn] at hlt;exact absurd (Nat.lt_of_mul_lt_mul_right hlt) (by omega)
 rw[if_neg hk];refine⟨b,off+k * size,?_,hb,fun j u hu=>?_⟩
 .simp[Addr.add]
 rw[Nat.add_assoc];exact hcell _ u (by rw[<- hu,List.getElem?_drop])
theorem Rs.take(h:Rs w B A cs)(k:Nat):Rs w B A (cs.take k):=fun hne=>by
 obtain⟨b,off,e,hb,hc⟩:=h (by intro h0;subst h0;simp at hne);refine⟨b,off,e,hb,fun j u hu=>hc j u ?_⟩;rw[List.getElem?_take] at hu;split at hu
 .exact hu
 .cases hu
end
theorem aJq{w w':World}{row:Option Nat}(hg:w.grownBy w' row){B:Nat}(hB:B<=w.heap.size)(hr:∀ g,row=some g->B<=g):Below B w w':=
 (Below.refl B w).grown hg hB hr
theorem aOL{w w':World}(hg:w.grownBy w' none):Below w.heap.size w w':=aJq hg oN (by intro g h;cases h)
theorem aDk{B:Nat}{a w:World}(h:Below B a w)(n:Nat):Below B a (w.drewN n):=⟨h.os,h.tape,h.output,h.size,h.block⟩
theorem aEx{a b c:World}{row:Option Nat}(h:a.grownBy b row)(k:b.grownBy c row):a.grownBy c row:=
 ⟨k.os.trans h.os,k.tape.trans h.tape,k.output.trans h.output,Nat.le_trans h.size k.size,
  fun i hi hn=>(k.block i (Nat.lt_of_lt_of_le hi h.size) hn).trans (h.block i hi hn)⟩
theorem aCL{a w:World}(h:Below a.heap.size a w)(row:Option Nat):a.grownBy w row:=⟨h.os,h.tape,h.output,h.size,fun i hi _=>h.block i hi⟩
section
variable {w w':World} {base:Nat} {e:TypeId} {size:Nat} {v:Value} {n:Nat} {xs:List Value}
theorem aAp{base':Nat}(h:w.ownsRow base e size v n xs)(hb:base'<=base):w.ownsRow base' e size v n xs:=by
 refine⟨h.1,?_⟩;rcases h.2 with hn|⟨g,cap,cur,rfl,hbg,rest⟩
 .exact .inl hn
 exact .inr ⟨g,cap,cur,rfl,by omega,rest⟩
theorem aAg(h:w.ownsRow base e size v n xs):∃ A c,v=.slice A n c/\n<=c/\c<=maxLen:=by
 rcases h.2 with⟨rfl,rfl⟩|⟨g,cap,cur,rfl,_,_,hnc,hcm,_⟩
 .exact⟨none,0,rfl,oN,oZ⟩
 exact⟨_,cap,rfl,hnc,hcm⟩
end
theorem aAi(w:World)(e:TypeId)(size:Nat):(w.alloc (.cells #[] e)).ownsRow w.heap.size e size (.slice (some ⟨w.heap.size,0,none⟩) 0 0) 0 []:=
 World.ownsRow_lit (size:=size) w #[] 0 oN oZ (by simp)
theorem aBr{w:World}{base:Nat}{e:TypeId}{size:Nat}{v:Value}{n:Nat}{xs:List Value}(h:w.ownsRow base e size v n xs)(k:Nat):(w.drewN k).ownsRow base e size v n xs:=h
theorem dn(w:World)(a b:Nat):(w.drewN a).drewN b=w.drewN (a+b):=World.drewN_drewN _ _ _
theorem aIk{w w':World}{row:Option Nat}{n:Nat}(h:(w.drewN n).grownBy w' row):w.grownBy w' row:=⟨h.os,h.tape,h.output,h.size,h.block⟩
def RetI(eI:TypeId)(xs:List Int)(w:World)(e:Ending)(w':World):Prop:=
 ∃ A c,e=.returned (.slice A xs.length c)/\w'.ownsRow w.heap.size eI 1 (.slice A xs.length c) xs.length (aAd xs)/\Below w.heap.size w w'
theorem RetI.mk{eI:TypeId}{xs:List Int}{w w':World}{v:Value}{n:Nat}(hn:xs.length=n)(h:w'.ownsRow w.heap.size eI 1 v n (aAd xs))(hb:Below w.heap.size w w'):RetI eI xs w (.returned v) w':=by
 subst hn;obtain⟨A,c,rfl, -, -⟩:=aAg h;exact⟨A,c,rfl,h,hb⟩
section
variable {P:Program} {W:World} {ops:Array Oper} {rest:List Oper} {o:Oper} {a:Act} {Q:Exit->Act->World->Prop}
theorem aAr(hgd:o.guard=none)(s x:Operand)(t:TypeId)(ho:o.op=.call { callee:=.builtin .append,args:=#[s,x],argTypes:=#[t,t] })(base:Nat)(e:TypeId)(z:Value)(size bytes:Nat)(ht:P.underlying t=some (.slice e))(hinfo:(P.info? e).map (fun i=>(i.zero,i.size,i.bytes))=some (some z,size,bytes))(hzs:z.cells.size=size)(hsz:0<size)(v:Value)(n:Nat)(xs:List Value)(hs:a.eval s=v)(hown:W.ownsRow base e size v n xs)(m:Nat)(news:List Value)(hx:a.eval x=.slice (some ⟨W.heap.size,0,none⟩) m m)(hl:news.length=m * size)(h1:∀ u∈news,u.oneCell'=true)(h63:n+m<=maxLen)(hbytes:(n+m) * bytes<=140737488355328)(hbase:base<=W.heap.size)(h:∀ v' w',w'.ownsRow base e size v' (n+m) (xs++news)->W.grownBy w' v.ownBlock->(v'.ownBlock=v.ownBlock \/ v'.ownBlock=some (W.heap.size+1))->wpList P ops Q rest (a.put o.dst v') w') :
  wpList P ops Q (o::rest) a (W.alloc (.cells news.toArray e)):=by
 obtain⟨i,hi,hz,hsize,hby⟩:=info_parts hinfo;refine wpList_append_own_at _ hgd s x t ho base e i z size bytes ht hi hz hsize hby hzs hsz v n xs hs (hown.alloc _) ⟨W.heap.size,0,none⟩ m m news hx hl ?_ h1 h63 hbytes (by simp;omega) ?_
 .intro j u hu
  rw[Addr.add_lit,Nat.zero_add,World.cell?_alloc_new]
  simpa using hu
 intro v' w' h2 h3 _ h4;exact h v' w' h2 (aEx (World.grownBy_alloc W _ _) h3) (by simpa using h4)
theorem aFn(base:Nat)(t ty e:TypeId)(i:TypeInfo)(size:Nat)(ht:P.underlying t=some (.slice e))(hi:P.info? e=some i)(v:Value)(n:Nat)(xs:List Value)(hown:W.ownsRow base e size v n xs)(c:Nat):(Builtin.append_ #[t,t] ty #[v,.slice none 0 c]).run P W=.ok v W:=by
 rcases hown.2 with⟨rfl,rfl⟩|⟨g,cap,cur,rfl,_,_,hnc,_⟩
 .simp[Builtin.append_,run_underlying ht,sizeOf,typeInfo,hi,Builtin.lenOf,Builtin.firstCells]
 simp[Builtin.append_,run_underlying ht,sizeOf,typeInfo,hi,Builtin.lenOf,Builtin.firstCells,hnc,storeCells]
theorem aFH(hgd:o.guard=none)(s x:Operand)(t:TypeId)(ho:o.op=.call { callee:=.builtin .append,args:=#[s,x],argTypes:=#[t,t] })(base:Nat)(e:TypeId)(z:Value)(size bytes:Nat)(ht:P.underlying t=some (.slice e))(hinfo:(P.info? e).map (fun i=>(i.zero,i.size,i.bytes))=some (some z,size,bytes))(hzs:z.cells.size=size)(hsz:0<size)(v:Value)(n:Nat)(xs:List Value)(hs:a.eval s=v)(hown:W.ownsRow base e size v n xs)(A:Option Addr)(m c B:Nat)(news:List Value)(hx:a.eval x=.slice A m c)(hr:Rs W B A news)(hl:news.length=m * size)(h1:∀ u∈news,u.oneCell'=true)(h63:n+m<=maxLen)(hbytes:(n+m) * bytes<=140737488355328)(hbase:base<=W.heap.size)(h:∀ v' w',w'.ownsRow base e size v' (n+m) (xs++news)->W.grownBy w' v.ownBlock->(v'.ownBlock=v.ownBlock \/ v'.ownBlock=some W.heap.size)->wpList P ops Q rest (a.put o.dst v') w') :
  wpList P ops Q (o::rest) a W:=by
 obtain⟨i,hi,hz,hsize,hby⟩:=info_parts hinfo;cases A with
|none=>
  have hn:news=[]:=by
   cases hne:news with
  |nil=>rfl
  |cons u r=>
    obtain⟨b,off,he,_⟩:=hr (by rw[hne];simp);cases he
  subst hn;have hm:m=0:=by
   rcases Nat.eq_zero_or_pos m with h0|h0
   .exact h0
   have:=Nat.mul_pos h0 hsz;simp at hl;omega
  subst hm;refine wpList_plain hgd fun K hK=>?_;have hrun:=aFn (P:=P) (W:=W) base t o.type e i size ht hi v n xs hown c;unfold Oper.wp;simp[execOp,ho,resolve,invoke,builtin,hs,hx,hrun,Result.andThen];exact hK _ _ (h v W (by simpa using hown) (World.grownBy.refl W _) (Or.inl rfl))
|some ad=>
  refine wpList_append_own_at _ hgd s x t ho base e i z size bytes ht hi hz hsize hby hzs hsz v n xs hs hown ad m c news hx hl ?_ h1 h63 hbytes hbase ?_
  .intro j u hu
   obtain⟨b,off,he,_,hc⟩:=hr (by intro h0;subst h0;simp at hu);injection he with he
   subst he;rw[Addr.add_lit];exact hc j u hu
  intro v' w' h2 h3 _ h4;exact h v' w' h2 h3 h4
theorem aCB(hgd:o.guard=none)(l c:Operand)(t:TypeId)(hop:o.op=Op.makeSlice t l c)(e:TypeId)(z:Value)(bytes:Nat)(ht:P.underlying t=some (.slice e))(hinfo:(P.info? e).map (fun i=>(i.zero,i.size,i.bytes))=some (some z,1,bytes))(hz1:z.cells=#[z])(kl kc:IntKind)(L C:Int)(n:Nat)(hl:a.eval l=.int kl L)(hc:a.eval c=.int kc C)(hL:L=(n:Int))(hC:C=(n:Int))(b2:bytes * n<=281474976710656)(b3:n<=maxLen)(hK:∀ w',w'.ownsRow W.heap.size e 1 (.slice (some ⟨W.heap.size,0,none⟩) n n) n (List.replicate n z)->W.grownBy w' none->W.heap.size<w'.heap.size->wpList P ops Q rest (a.put o.dst (.slice (some ⟨W.heap.size,0,none⟩) n n)) w') :
  wpList P ops Q (o::rest) a W:=by
 obtain⟨i,hi,hz,hsize,hby⟩:=info_parts hinfo;refine wpList_make_full W hgd l c t hop W.heap.size e i z 1 ht hi hz hsize kl kc L C n hl hc hL hC (by rw[hby];exact b2) b3 oN ?_;intro w' h1 h2;rw[hz1,Nat.mul_one,toList_madeCells_one] at h1;exact hK w' h1 h2 ((h1.lt W.heap.size rfl).2)
end
section
variable {w w' w0:World} {base B:Nat} {e:TypeId} {g n cap:Nat} {xs ys:List Value}
theorem aBA(h:w.ownsRow base e 1 (.slice (some ⟨g,0,none⟩) n cap) n xs)(j:Nat)(u:Value)(hy:xs.set j u=ys) :
  (w.setCell ⟨g,j,none⟩ u).ownsRow base e 1 (.slice (some ⟨g,0,none⟩) n cap) n ys:=by
 subst hy;exact(h.stored j u).1
theorem aDv(h:w.ownsRow base e 1 (.slice (some ⟨g,0,none⟩) n cap) n xs){j:Nat}(hj:j<n):∃ u,xs[j]?=some u/\w.cell? ⟨g,j,none⟩=some u:=by
 have hl:j<xs.length:=by have:=h.1;omega
 exact⟨xs[j],List.getElem?_eq_getElem hl,(h.cellAt j (by omega)).trans (List.getElem?_eq_getElem hl)⟩
end
theorem aRE{α:Type}(xs ys:List α)(y x:α):(xs++y::ys).set xs.length x=(xs++[x])++ys:=by simp
theorem aOD{α:Type}(ys:List α)(z u:α){k n:Nat}(hy:ys.length=k)(h:k<n):(ys++List.replicate (n - k) z).set k u=(ys++[u])++List.replicate (n - (k+1)) z:=by
 subst hy;obtain⟨m,hm⟩:∃ m,n - ys.length=m+1:=⟨n - ys.length - 1,by omega⟩
 rw[hm,List.replicate_succ,aRE,show n - (ys.length+1)=m from by omega]
theorem aAU{w:World}{base:Nat}{e:TypeId}{size:Nat}{A:Option Addr}{n c:Nat}{xs:List Value}(h:w.ownsRow base e size (.slice A n c) n xs)(hn:0<n) :
  ∃ g,A=some ⟨g,0,none⟩/\base<=g/\g<w.heap.size:=by
 rcases h.2 with⟨_,h0⟩|⟨g,cap,cur,hv,hbg,hh,_⟩
 .omega
 injection hv with hA
 exact⟨g,hA,hbg,(Array.getElem?_eq_some_iff.1 hh).1⟩
theorem aSH{α:Type}(ys xs:List α)(u:α){k:Nat}(hy:ys.length=k)(h:k<xs.length):(ys++xs.drop k).set k u=(ys++[u])++xs.drop (k+1):=by
 subst hy;rw[List.drop_eq_getElem_cons h,aRE]
theorem aAQ{a w:World}{g:Nat}(h:a.grownBy w (some g))(i:Nat)(u:Value):a.grownBy (w.setCell ⟨g,i,none⟩ u) (some g):=
 ⟨h.os,h.tape,h.output,by simpa [World.setCell] using h.size,fun k hk hne=>(Below.heap_setCell w _ u k (by rintro rfl;exact hne rfl)).trans (h.block k hk hne)⟩
theorem aAu(xs:List Int):∀ u∈aAd xs,u.oneCell'=true:=ints_oneCell .i64 xs
def aPB(k:Nat):List Int:=(List.range k).map (fun(i:Nat)=>(i:Int))
theorem aMx(k:Nat):aPB (k+1)=aPB k++[(k:Int)]:=by simp[aPB,List.range_succ]
theorem aIq(k:Nat):(aPB k).length=k:=by simp[aPB]
def aVs(k:Int)(n:Nat):List Int:=(List.range n).map (fun(i:Nat)=>k+(i:Int))
theorem aBv{α:Type}(xs:List α){k:Nat}{x:α}(h:xs[k]?=some x):xs.take (k+1)=xs.take k++[x]:=by
 rw[List.take_add_one,h];rfl
theorem aQe{α:Type}(xs:List α){k:Nat}{x:α}(h:xs[k]?=some x):xs.drop k=x::xs.drop (k+1):=by
 obtain⟨hk,rfl⟩:=List.getElem?_eq_some_iff.1 h;exact List.drop_eq_getElem_cons hk
theorem aAs{α:Type}(xs:List α){k:Nat}(h:k<xs.length):∃ x,xs[k]?=some x:=⟨_,List.getElem?_eq_getElem h⟩
theorem Rs.int{w:World}{B:Nat}{A:Option Addr}{xs:List Int}(h:Rs w B A (aAd xs)){k:Nat}(hk:k<xs.length) :
  ∃ b off x,A=some ⟨b,off,none⟩/\b<B/\xs[k]?=some x/\w.cell? ⟨b,off+k,none⟩=some (.int .i64 x):=by
 obtain⟨b,off,u,e,hb,hu,hc⟩:=h.at (j:=k) (by simpa [aAd] using hk);rw[aAF] at hu;obtain⟨x,hx⟩:=aAs xs hk;rw[hx] at hu;simp at hu;subst hu;exact⟨b,off,x,e,hb,hx,hc⟩
section
variable {P:Program} {f:FuncId} {args:Array Value} {v:Value}
theorem qz0{W:World}{n:Nat}(h:Calls P f args (W.drewN n) fun e w'=>e=.returned v/\∃ m,w'=(W.drewN n).drewN m) :
  Calls P f args (W.drewN n) fun e w''=>e=.returned v/\∃ m,w''=W.drewN m:=Calls.quiet_of h
theorem qz1{w:World}{a n:Nat}(h:Calls P f args (w.drewN (a+n)) fun e w'=>e=.returned v/\∃ m,w'=(w.drewN (a+n)).drewN m) :
  Calls P f args (w.drewN (a+n)) fun e w''=>e=.returned v/\∃ m,w''=w.drewN (a+m):=
 h.mono fun _ _ ⟨he,m,hm⟩=>⟨he,n+m,by rw[hm,World.drewN_drewN,Nat.add_assoc]⟩
theorem pq{W:World}(h:Calls P f args W fun e w'=>e=.returned v/\W=w'):Calls P f args W fun e w'=>e=.returned v/\∃ m,w'=W.drewN m:=
 h.mono fun _ _ ⟨he,hw⟩=>⟨he,0,hw ▸ rfl⟩
end
end
section
open Go.RowKit
def OkI(xs:List Int):Prop:=∀ x∈xs, -9223372036854775808<=x/\x<=9223372036854775807
structure Mid (lo hi:Nat) (w w':World):Prop where
 os:w'.os=w.os
 tape:w'.tape=w.tape
 output:w'.output=w.output
 size:w.heap.size<=w'.heap.size
 block:∀ k,k<w.heap.size->¬ (lo<=k/\k<hi)->w'.heap[k]?=w.heap[k]?
theorem Mid.of_grown{lo hi:Nat}{w w':World}{row:Option Nat}(h:w.grownBy w' row)(hr:∀ g,row=some g->lo<=g/\g<hi):Mid lo hi w w':=
 ⟨h.os,h.tape,h.output,h.size,fun k hk hn=>h.block k hk (fun e=>hn (hr k e.symm))⟩
theorem Mid.trans{lo hi:Nat}{a b c:World}(h:Mid lo hi a b)(k:Mid lo hi b c):Mid lo hi a c:=
 ⟨k.os.trans h.os,k.tape.trans h.tape,k.output.trans h.output,Nat.le_trans h.size k.size,
  fun i hi' hn=>(k.block i (Nat.lt_of_lt_of_le hi' h.size) hn).trans (h.block i hi' hn)⟩
theorem Mid.refl(lo hi:Nat)(w:World):Mid lo hi w w:=⟨rfl,rfl,rfl,oN,fun _ _ _=>rfl⟩
theorem Mid.of_below{lo hi:Nat}{w w':World}(h:Below w.heap.size w w'):Mid lo hi w w':=⟨h.os,h.tape,h.output,h.size,fun k hk _=>h.block k hk⟩
theorem Mid.drewN{lo hi:Nat}{w w':World}(h:Mid lo hi w w')(n:Nat):Mid lo hi w (w'.drewN n):=⟨h.os,h.tape,h.output,h.size,h.block⟩
theorem Mid.alloc(w:World)(o:Obj):Mid 0 0 w (w.alloc o):=Mid.of_grown (World.grownBy_alloc w o none) (by intro g h;cases h)
theorem Mid.setCell(w:World){lo hi:Nat}{p:Addr}(u:Value)(h1:lo<=p.block)(h2:p.block<hi):Mid lo hi w (w.setCell p u):=
 ⟨rfl,rfl,rfl,by simp[World.setCell],fun k _ hn=>Below.heap_setCell w p u k (by rintro rfl;exact hn ⟨h1,h2⟩)⟩
theorem Mid.grownNew{lo hi:Nat}{w wr w':World}{row:Option Nat}(h:Mid lo hi w wr)(hg:wr.grownBy w' row)(hr:∀ g,row=some g->w.heap.size<=g):Mid lo hi w w':=
 ⟨hg.os.trans h.os,hg.tape.trans h.tape,hg.output.trans h.output,Nat.le_trans h.size hg.size,fun k hk hn=>
  (hg.block k (Nat.lt_of_lt_of_le hk h.size) (fun e=>by have:=hr k e.symm;omega)).trans (h.block k hk hn)⟩
theorem Mid.storeNew{lo hi:Nat}{w wr:World}{p:Addr}(h:Mid lo hi w wr)(hp:w.heap.size<=p.block)(u:Value):Mid lo hi w (wr.setCell p u):=
 ⟨h.os,h.tape,h.output,by simpa [World.setCell] using h.size,fun k hk hn=>(Below.heap_setCell wr p u k (by omega)).trans (h.block k hk hn)⟩
theorem Mid.zero{lo hi:Nat}{w w':World}(h:Mid 0 0 w w'):Mid lo hi w w':=⟨h.os,h.tape,h.output,h.size,fun k hk _=>h.block k hk (by omega)⟩
theorem Mid.bel{w w':World}(h:Mid 0 0 w w'):Below w.heap.size w w':=⟨h.os,h.tape,h.output,h.size,fun k hk=>h.block k hk (by omega)⟩
def RV(w:World)(lo hi:Nat)(A:Option Addr)(cs:List Value):Prop:=
 hi<=w.heap.size/\(cs≠[]->∃ b off,A=some ⟨b,off,none⟩/\lo<=b/\b<hi/\∀ j u,cs[j]?=some u->w.cell? ⟨b,off+j,none⟩=some u)
theorem RV.rs{w:World}{lo hi:Nat}{A:Option Addr}{cs:List Value}(h:RV w lo hi A cs):Rs w hi A cs:=fun hn=>by
 obtain⟨b,off,e,_,hb,hc⟩:=h.2 hn;exact⟨b,off,e,hb,hc⟩
theorem RV.rsS{w:World}{lo hi:Nat}{A:Option Addr}{cs:List Value}(h:RV w lo hi A cs):Rs w w.heap.size A cs:=h.rs.more h.1
theorem RV.of_rs{w:World}{hi:Nat}{A:Option Addr}{cs:List Value}(h:Rs w hi A cs)(hs:hi<=w.heap.size):RV w 0 hi A cs:=⟨hs,fun hn=>by
 obtain⟨b,off,e,hb,hc⟩:=h hn;exact⟨b,off,e,oZ,hb,hc⟩⟩
theorem RV.mid{w w':World}{lo hi a b:Nat}{A:Option Addr}{cs:List Value}(h:RV w lo hi A cs)(m:Mid a b w w')(hd:b<=lo \/ hi<=a):RV w' lo hi A cs:=
 ⟨Nat.le_trans h.1 m.size,fun hn=>by
  obtain⟨g,off,e,h1,h2,hc⟩:=h.2 hn;have hs:=h.1;exact⟨g,off,e,h1,h2,fun j u hu=>(World.cell?_of_block (m.block g (by omega) (by omega))).trans (hc j u hu)⟩⟩
theorem RV.wide{w:World}{lo hi lo' hi':Nat}{A:Option Addr}{cs:List Value}(h:RV w lo hi A cs)(h1:lo'<=lo)(h2:hi<=hi')(h3:hi'<=w.heap.size):RV w lo' hi' A cs:=
 ⟨h3,fun hn=>by
  obtain⟨g,off,e,ha,hb,hc⟩:=h.2 hn;exact⟨g,off,e,by omega,by omega,hc⟩⟩
def OV(w:World)(lo hi:Nat)(e:TypeId)(size:Nat)(A:Option Addr)(c n:Nat)(cs:List Value):Prop:=
 hi<=w.heap.size/\w.ownsRow lo e size (.slice A n c) n cs/\∀ g,Value.ownBlock (.slice A n c)=some g->g<hi
section
variable {w w':World} {lo hi a b:Nat} {e:TypeId} {size:Nat} {A:Option Addr} {c n:Nat} {cs:List Value}
theorem OV.new{w0:World}(h:w.ownsRow w0.heap.size e size (.slice A n c) n cs):OV w w0.heap.size w.heap.size e size A c n cs:=
 ⟨oN,h,fun g hg=>(h.lt g hg).2⟩
theorem OV.mid(h:OV w lo hi e size A c n cs)(m:Mid a b w w')(hd:b<=lo \/ hi<=a):OV w' lo hi e size A c n cs:=by
 refine⟨Nat.le_trans h.1 m.size,⟨h.2.1.1,?_⟩,h.2.2⟩;rcases h.2.1.2 with hn|⟨g,cap,cur,hv,hbg,hgg,rest⟩
 .exact .inl hn
 refine .inr ⟨g,cap,cur,hv,hbg,?_,rest⟩;have hlt:=h.2.2 g (by rw[hv];rfl);rw[m.block g (Array.getElem?_eq_some_iff.1 hgg).1 (by omega)];exact hgg
theorem OV.rv(h:OV w lo hi e size A c n cs):RV w lo hi A cs:=⟨h.1,fun hn=>by
 obtain⟨g,off,hA,_,hc⟩:=Rs.of_own h.2.1 hn;have hg:Value.ownBlock (.slice A n c)=some g:=by rw[hA];rfl
 exact⟨g,off,hA,(h.2.1.lt g hg).1,h.2.2 g hg,hc⟩⟩
theorem OV.wide{lo' hi':Nat}(h:OV w lo hi e size A c n cs)(h1:lo'<=lo)(h2:hi<=hi')(h3:hi'<=w.heap.size):OV w lo' hi' e size A c n cs:=
 ⟨h3,aAp h.2.1 h1,fun g hg=>by have:=h.2.2 g hg;omega⟩
end
theorem aBP{w:World}{b b':Nat}{e e':TypeId}{s s':Nat}{v v':Value}{n n':Nat}{xs xs':List Value}(h:w.ownsRow b e s v n xs)(h':w.ownsRow b' e' s' v' n' xs')(hne:e≠e') :
  v.ownBlock=none \/ v.ownBlock≠v'.ownBlock:=by
 rcases h.2 with⟨rfl,_⟩|⟨g,cap,cur,rfl,_,hg,_⟩
 .exact .inl rfl
 rcases h'.2 with⟨rfl,_⟩|⟨g',cap',cur',rfl,_,hg',_⟩
 .exact .inr (by simp[Value.ownBlock])
 refine .inr fun he=>?_;have:g=g':=by simpa [Value.ownBlock] using he
 subst this;rw[hg] at hg';injection hg' with hg'
 injection hg' with _ ht
 exact hne ht
theorem aCZ(w:World)(g j:Nat)(u:Value):w.grownBy (w.setCell ⟨g,j,none⟩ u) (some g):=aAQ (World.grownBy.refl w _) j u
structure Row where
 A:Option Addr
 c:Nat
 xs:List Int
def Row.v(r:Row):Value:=.slice r.A r.xs.length r.c
def aDV(rows:List Row):List Value:=rows.map Row.v
def aBe(rows:List Row):List (List Int):=rows.map Row.xs
theorem aJf(rows:List Row):(aDV rows).length=rows.length:=by simp[aDV]
theorem aBs(rows:List Row):(aBe rows).length=rows.length:=by simp[aBe]
theorem aFm(a b:List Row):aDV (a++b)=aDV a++aDV b:=by simp[aDV]
theorem aCW(a b:List Row):aBe (a++b)=aBe a++aBe b:=by simp[aBe]
def RSS(w:World)(lo hi:Nat)(A:Option Addr)(xss:List (List Int)):Prop:=
 ∃ rows,aBe rows=xss/\RV w lo hi A (aDV rows)/\∀ r∈rows,RV w lo hi r.A (aAd r.xs)
section
variable {w w':World} {lo hi a b:Nat} {A:Option Addr} {xss:List (List Int)}
theorem RSS.size(h:RSS w lo hi A xss):hi<=w.heap.size:=by obtain⟨_,_,h,_⟩:=h;exact h.1
theorem RSS.mid(h:RSS w lo hi A xss)(m:Mid a b w w')(hd:b<=lo \/ hi<=a):RSS w' lo hi A xss:=by
 obtain⟨rows,h1,h2,h3⟩:=h;exact⟨rows,h1,h2.mid m hd,fun r hr=>(h3 r hr).mid m hd⟩
theorem RSS.row(h:RSS w lo hi A xss){k:Nat}(hk:k<xss.length) :
  ∃ b off A' c' xs,A=some ⟨b,off,none⟩/\lo<=b/\b<hi/\xss[k]?=some xs/\w.cell? ⟨b,off+k,none⟩=some (.slice A' xs.length c')/\RV w lo hi A' (aAd xs):=by
 obtain⟨rows,rfl,h2,h3⟩:=h;rw[aBs] at hk;obtain⟨b,off,e,hb,hb2,hc⟩:=h2.2 (by intro h0;have:=congrArg List.length h0;rw[aJf] at this;simp at this;subst this;simp at hk);obtain⟨r,hr⟩:=aAs rows hk;refine⟨b,off,r.A,r.c,r.xs,e,hb,hb2,by simp[aBe,hr],hc k _ (by simp[aDV,hr,Row.v]),h3 r (List.mem_of_getElem? hr)⟩
end
def OwnRows(w:World)(lo hi:Nat)(tI:TypeId)(rows:List Row):Prop:=
 (∀ r∈rows,OV w lo hi tI 1 r.A r.c r.xs.length (aAd r.xs))/\rows.Pairwise (fun r s=>r.v.ownBlock=none \/ r.v.ownBlock≠s.v.ownBlock)
def OSS(w:World)(lo hi:Nat)(tSI tI:TypeId)(A:Option Addr)(c:Nat)(xss:List (List Int)):Prop:=
 hi<=w.heap.size/\∃ rows,aBe rows=xss/\OV w lo hi tSI 1 A c xss.length (aDV rows)/\OwnRows w lo hi tI rows
section
variable {w w':World} {lo hi a b:Nat} {tSI tI:TypeId} {A:Option Addr} {c:Nat} {xss:List (List Int)} {rows:List Row}
theorem OwnRows.mid(h:OwnRows w lo hi tI rows)(m:Mid a b w w')(hd:b<=lo \/ hi<=a):OwnRows w' lo hi tI rows:=⟨fun r hr=>(h.1 r hr).mid m hd,h.2⟩
theorem OwnRows.wide{lo' hi':Nat}(h:OwnRows w lo hi tI rows)(h1:lo'<=lo)(h2:hi<=hi')(h3:hi'<=w.heap.size):OwnRows w lo' hi' tI rows:=⟨fun r hr=>(h.1 r hr).wide h1 h2 h3,h.2⟩
theorem OwnRows.nil:OwnRows w lo hi tI []:=⟨by simp,List.Pairwise.nil⟩
theorem OwnRows.grown{bb:Nat}{e':TypeId}{s':Nat}{v':Value}{n':Nat}{xs':List Value}(h:OwnRows w lo hi tI rows)(ho:w.ownsRow bb e' s' v' n' xs')(hne:tI≠e')(hg:w.grownBy w' v'.ownBlock):OwnRows w' lo hi tI rows:=
 ⟨fun r hr=>by
  obtain⟨h1,h2,h3⟩:=h.1 r hr;exact⟨Nat.le_trans h1 hg.size,h2.kept hg (aBP h2 ho hne),h3⟩,h.2⟩
theorem OwnRows.push{base hi':Nat}{r:Row}(h:OwnRows w lo hi tI rows)(hr:w.ownsRow base tI 1 r.v r.xs.length (aAd r.xs))(hb:hi<=base)(hl:lo<=base)(hh:hi<=hi')(hs:hi'<=w.heap.size)(hlt:∀ g,r.v.ownBlock=some g->g<hi') :
  OwnRows w lo hi' tI (rows++[r]):=by
 refine⟨fun s hs'=>?_,?_⟩
 .rcases List.mem_append.1 hs' with hm|hm
  .exact(h.1 s hm).wide oN hh hs
  simp at hm;subst hm;exact⟨hs,aAp hr hl,hlt⟩
 rw[List.pairwise_append];refine⟨h.2,by simp,fun s hsm t ht=>?_⟩;simp at ht;subst ht;cases hv:s.v.ownBlock with
|none=>exact .inl rfl
|some g=>
  refine .inr fun e=>?_;have h1:=(h.1 s hsm).2.2 g hv;have h2:=(hr.lt g e.symm).1;omega
theorem OSS.mid(h:OSS w lo hi tSI tI A c xss)(m:Mid a b w w')(hd:b<=lo \/ hi<=a):OSS w' lo hi tSI tI A c xss:=by
 obtain⟨h0,rows,h1,h2,h3⟩:=h;exact⟨Nat.le_trans h0 m.size,rows,h1,h2.mid m hd,h3.mid m hd⟩
theorem OSS.wide{lo' hi':Nat}(h:OSS w lo hi tSI tI A c xss)(h1:lo'<=lo)(h2:hi<=hi')(h3:hi'<=w.heap.size):OSS w lo' hi' tSI tI A c xss:=by
 obtain⟨_,rows,ha,hb,hc⟩:=h;exact⟨h3,rows,ha,hb.wide h1 h2 h3,hc.wide h1 h2 h3⟩
theorem OSS.rss(h:OSS w lo hi tSI tI A c xss):RSS w lo hi A xss:=by
 obtain⟨_,rows,h1,h2,h3⟩:=h;exact⟨rows,h1,h2.rv,fun r hr=>(h3.1 r hr).rv⟩
end
end
theorem Mid.s3(w:World)(g:Nat)(a b c:Value):Mid g (g+1) w (((w.setCell ⟨g,0,none⟩ a).setCell ⟨g,1,none⟩ b).setCell ⟨g,2,none⟩ c):=((Mid.setCell w (p:=⟨g,0,none⟩) a oN oS).trans (Mid.setCell _ (p:=⟨g,1,none⟩) b oN oS)).trans (Mid.setCell _ (p:=⟨g,2,none⟩) c oN oS)
theorem Mid.n3{lo hi:Nat}{w wr:World}(m:Mid lo hi w wr)(g:Nat)(h:w.heap.size<=g)(a b c:Value):Mid lo hi w (((wr.setCell ⟨g,0,none⟩ a).setCell ⟨g,1,none⟩ b).setCell ⟨g,2,none⟩ c):=((m.storeNew (p:=⟨g,0,none⟩) h a).storeNew (p:=⟨g,1,none⟩) h b).storeNew (p:=⟨g,2,none⟩) h c
section
open Go.RowKit
def Box(w:World)(b:Nat)(cs:List Value):Prop:=b<w.heap.size/\(∀ i u,cs[i]?=some u->w.cell? ⟨b,i,none⟩=some u)/\∀ i,w.frozen? ⟨b,i,none⟩=false
section
variable {w w':World} {b lo hi:Nat} {cs ys:List Value}
theorem Box.new(w:World)(a:Array Value)(t:TypeId):Box (w.alloc (.cells a t)) w.heap.size a.toList:=
 ⟨by simp,fun i u hu=>(World.cell?_alloc_at _ _ _ _ rfl).trans (by simpa using hu),fun i=>World.frozen?_alloc_at _ _ _ _ rfl⟩
theorem Box.mid(h:Box w b cs)(m:Mid lo hi w w')(hd:b<lo \/ hi<=b):Box w' b cs:=
 ⟨Nat.lt_of_lt_of_le h.1 m.size,fun i u hu=>(World.cell?_of_block (m.block b h.1 (by omega))).trans (h.2.1 i u hu),fun i=>(World.frozen?_of_block (m.block b h.1 (by omega))).trans (h.2.2 i)⟩
theorem Box.cell(h:Box w b cs)(i:Nat){u:Value}(hu:cs[i]?=some u):w.cell? ⟨b,i,none⟩=some u:=h.2.1 i u hu
theorem Box.set(h:Box w b cs)(i:Nat)(u:Value)(hi:i<cs.length)(hy:cs.set i u=ys):Box (w.setCell ⟨b,i,none⟩ u) b ys:=by
 subst hy;have hc:=h.2.1 i cs[i] (List.getElem?_eq_getElem hi);refine⟨by simpa using h.1,fun j v hv=>?_,fun j=>by rw[World.frozen?_setCell];exact h.2.2 j⟩;by_cases hj:j=i
 .subst hj
  rw[List.getElem?_set_self hi] at hv;rw[World.cell?_setCell_same w _ u hc];exact hv
 rw[List.getElem?_set_ne (Ne.symm hj)] at hv;rw[World.cell?_setCell_other w _ _ u (by intro e;injection e;omega)];exact h.2.1 j v hv
theorem Box.drewN(h:Box w b cs)(n:Nat):Box (w.drewN n) b cs:=h
theorem Mid.of_grownRow{base:Nat}{e:TypeId}{size:Nat}{v:Value}{n:Nat}{xs:List Value}(h:w.ownsRow base e size v n xs)(hg:w.grownBy w' v.ownBlock):Mid base w.heap.size w w':=
 Mid.of_grown hg fun g hg'=>h.lt g hg'
theorem aAc{base:Nat}{e:TypeId}{size:Nat}{v:Value}{n:Nat}{xs:List Value}(h:w.ownsRow base e size v n xs)(m:Mid lo hi w w')(hd:hi<=base \/ w.heap.size<=lo):w'.ownsRow base e size v n xs:=by
 refine⟨h.1,?_⟩;rcases h.2 with hn|⟨g,cap,cur,hv,hbg,hgg,rest⟩
 .exact .inl hn
 refine .inr ⟨g,cap,cur,hv,hbg,?_,rest⟩;have hlt:=(Array.getElem?_eq_some_iff.1 hgg).1;rw[m.block g hlt (by omega)];exact hgg
theorem Mid.drew1(w:World):Mid 0 0 w w.drew:=⟨rfl,rfl,rfl,oN,fun _ _ _=>rfl⟩
theorem Mid.transNew{a b:Nat}{wa:World}(h:Mid lo hi w wa)(m:Mid a b wa w')(ha:w.heap.size<=a \/ b=0):Mid lo hi w w':=
 ⟨m.os.trans h.os,m.tape.trans h.tape,m.output.trans h.output,Nat.le_trans h.size m.size,fun k hk hn=>
  (m.block k (Nat.lt_of_lt_of_le hk h.size) (by omega)).trans (h.block k hk hn)⟩
theorem OSS.mk'{tSI tI:TypeId}{A:Option Addr}{c:Nat}{rows:List Row}{n:Nat}{base:Nat}{xss:List (List Int)}(h:w.ownsRow base tSI 1 (.slice A n c) n (aDV rows))(hr:OwnRows w base w.heap.size tI rows)(hd:aBe rows=xss) :
  OSS w base w.heap.size tSI tI A c xss:=by
 have hl:xss.length=n:=by rw[<- hd,aBs,<- aJf];simpa using h.1
 subst hl;exact⟨oN,rows,hd,⟨oN,h,fun g hg=>(h.lt g hg).2⟩,hr⟩
end
end
theorem Box.c3{w:World}{g:Nat}{cs:List Value}{a b c:Value}(B:Box w g cs)(h:(cs[0]?,cs[1]?,cs[2]?)=(some a,some b,some c)):w.cell? ⟨g,0,none⟩=some a/\w.cell? ⟨g,1,none⟩=some b/\w.cell? ⟨g,2,none⟩=some c:=⟨B.cell 0 (congrArg (·.1) h),B.cell 1 (congrArg (·.2.1) h),B.cell 2 (congrArg (·.2.2) h)⟩
theorem Box.s3{w:World}{g:Nat}{x y z:Value}(B:Box w g [x,y,z])(a b c:Value):Box (((w.setCell ⟨g,0,none⟩ a).setCell ⟨g,1,none⟩ b).setCell ⟨g,2,none⟩ c) g [a,b,c]:=((B.set 0 a (by simp) rfl).set 1 b (by simp) rfl).set 2 c (by simp) rfl
theorem aCg:(Tryz.prog.info? 3).map (fun i=>(i.zero,i.size,i.bytes))=some (some (.int .i64 0),1,8):=by kernel_rfl
theorem aSj:(Tryz.prog.info? 4).map (fun i=>(i.zero,i.size,i.bytes))=some (some (.bool false),1,1):=by kernel_rfl
theorem aBZ:Tryz.prog.underlying 44=some (.slice 3):=by kernel_rfl
theorem aSM:Tryz.prog.underlying 121=some (.slice 4):=by kernel_rfl
theorem aUS:Tryz.prog.underlying 3=some (.int .i64):=by kernel_rfl
def aLY:Int:=-9223372036854775808
def aFf(a b:Int):Bool:=decide (a≠0/\a≠aLY/\b = -a)
theorem aIi(a b:Int):aFf a b=true↔(a≠0/\a≠aLY/\b = -a):=by simp[aFf]
def aQC(rank x:Int):Bool:=decide (x≠0/\-rank<=x/\x<=rank)
def aRL(rank:Int)(w:List Int):Prop:=
 (∀ x∈w,x≠0/\-rank<=x/\x<=rank)/\(∀ k x y,w[k]?=some x->w[k+1]?=some y->y≠-x)
def IsW(rank:Int)(w:List Int):Prop:=1<=rank/\rank<=3/\w.length<=24/\aRL rank w
def aFK(a b:Int):Int:=if a<b then -1 else if b<a then 1 else 0
def aUQ(a:Int):Int:=if a<0 then -a else a
def aVn(a b:Int):Int:=
 if a=b then 0 else if a=aLY then 1 else if b=aLY then -1
 else if aUQ a<aUQ b then -1 else if aUQ b<aUQ a then 1 else if b<a then -1 else 1
def aUl:List Int->List Int->Int
|a::x,b::y=>if aVn a b=0 then aUl x y else aVn a b
|_,_=>0
def aVr(a b:List Int):Int:=if a.length<b.length then -1 else if b.length<a.length then 1 else aUl a b
def negI(x:Int):Int:=if x=aLY then aLY else -x
def aAx(w:List Int):List Int:=(w.map negI).reverse
theorem aKH(w:List Int):(aAx w).length=w.length:=by simp[aAx]
def aAX(out:List Int)(x:Int):List Int:=
 match out.getLast? with
|some a=>if aFf a x then out.dropLast else out++[x]
|none=>[x]
def red(out w:List Int):List Int:=w.foldl aAX out
theorem aNs(out:List Int):red out []=out:=rfl
theorem aCf(out:List Int)(x:Int)(w:List Int):red out (x::w)=red (aAX out x) w:=rfl
theorem aBF(out a b:List Int):red out (a++b)=red (red out a) b:=by simp[red]
theorem aBk(x:Int):aAX [] x=[x]:=rfl
theorem aBB{out:List Int}{a x:Int}(h:aFf a x=true):aAX (out++[a]) x=out:=by simp[aAX,h]
theorem aAL{out:List Int}{a x:Int}(h:aFf a x=false):aAX (out++[a]) x=out++[a]++[x]:=by simp[aAX,h]
theorem aNo(out:List Int)(x:Int):(aAX out x).length<=out.length+1:=by
 unfold aAX;split
 .split <;> simp
  omega
 simp
theorem aNq(out w:List Int):(red out w).length<=out.length+w.length:=by
 induction w generalizing out with
|nil=>simp[red]
|cons x t ih=>
  rw[aCf];have h1:=ih (aAX out x);have h2:=aNo out x;simp;omega
structure Ed where
 a:Int
 l:Int
 b:Int
deriving DecidableEq
theorem Ed.ext'{e f:Ed}(h1:e.a=f.a)(h2:e.l=f.l)(h3:e.b=f.b):e=f:=by
 cases e
 cases f
 simp at h1 h2 h3;simp[h1,h2,h3]
def aEv(e f:Ed):Int:=if aFK e.a f.a≠0 then aFK e.a f.a else if aFK e.l f.l≠0 then aFK e.l f.l else aFK e.b f.b
theorem aBj{a b:Int}:aFK a b=0↔a=b:=by
 unfold aFK;split
 .simp;omega
 split
 .simp;omega
 simp;omega
theorem aKv{a b:Int}:aFK a b<0↔a<b:=by
 unfold aFK;split
 .simp;omega
 split
 .simp;omega
 simp;omega
def LtE(e f:Ed):Prop:=e.a<f.a \/ (e.a=f.a/\(e.l<f.l \/ (e.l=f.l/\e.b<f.b)))
theorem aBf{e f:Ed}:aEv e f<0↔LtE e f:=by
 unfold aEv LtE;by_cases h1:aFK e.a f.a=0
 .by_cases h2:aFK e.l f.l=0
  .rw[if_neg (by simpa using h1),if_neg (by simpa using h2),aKv]
   have:=aBj.1 h1;have:=aBj.1 h2;omega
  rw[if_neg (by simpa using h1),if_pos h2,aKv];have:=aBj.1 h1;have:e.l≠f.l:=fun h=>h2 (aBj.2 h);omega
 rw[if_pos h1,aKv];have:e.a≠f.a:=fun h=>h1 (aBj.2 h);omega
theorem aCQ{e f:Ed}:aEv e f=0↔e=f:=by
 unfold aEv;constructor
 .intro h
  split at h
  .contradiction
  split at h
  .contradiction
  exact Ed.ext' (aBj.1 (by simpa using ‹¬ aFK e.a f.a≠0›)) (aBj.1 (by simpa using ‹¬ aFK e.l f.l≠0›)) (aBj.1 h)
 rintro rfl;simp[aFK]
theorem LtE.trans{e f g:Ed}(h:LtE e f)(k:LtE f g):LtE e g:=by unfold LtE at *;omega
theorem LtE.irrefl(e:Ed):¬ LtE e e:=by unfold LtE;omega
theorem LtE.tri(e f:Ed):LtE e f \/ e=f \/ LtE f e:=by
 by_cases h:e=f
 .exact .inr (.inl h)
 have:¬ (e.a=f.a/\e.l=f.l/\e.b=f.b):=fun⟨h1,h2,h3⟩=>h (Ed.ext' h1 h2 h3);unfold LtE;omega
theorem LtE.ne{e f:Ed}(h:LtE e f):e≠f:=fun hf=>LtE.irrefl f (hf ▸ h)
theorem LtE.asymm{e f:Ed}(h:LtE e f):¬ LtE f e:=fun k=>LtE.irrefl e (h.trans k)
def Asc(es:List Ed):Prop:=es.Pairwise LtE
theorem aMG:∀ {xs ys:List Ed},Asc xs->Asc ys->(∀ e,e∈xs↔e∈ys)->xs=ys
|[],[],_,_,_=>rfl
|[],y::ys,_,_,h=>absurd ((h y).2 (by simp)) (by simp)
|x::xs,[],_,_,h=>absurd ((h x).1 (by simp)) (by simp)
|x::xs,y::ys,hx,hy,h=>by
  obtain⟨hx1,hx2⟩:=List.pairwise_cons.1 hx;obtain⟨hy1,hy2⟩:=List.pairwise_cons.1 hy;have hxy:x=y:=by
   have h1:=(h x).1 (by simp);have h2:=(h y).2 (by simp);rcases List.mem_cons.1 h1 with rfl|h1
   .rfl
   .rcases List.mem_cons.1 h2 with rfl|h2
    .rfl
    .exact absurd (hx1 y h2) (hy1 x h1).asymm
  subst hxy;rw[aMG hx2 hy2 (fun e=>?_)];have:=h e;simp only[List.mem_cons] at this;constructor
  .intro he
   rcases this.1 (.inr he) with rfl|h1
   .exact absurd (hx1 e he) (LtE.irrefl e)
   .exact h1
  .intro he
   rcases this.2 (.inr he) with rfl|h1
   .exact absurd (hy1 e he) (LtE.irrefl e)
   .exact h1
def aCy(e:Ed):List Ed->List Ed
|[]=>[e]
|f::t=>if aEv e f<0 then e::f::t else if aEv e f=0 then f::t else f::aCy e t
theorem aIj{e x:Ed}{l:List Ed}:x∈aCy e l↔x=e \/ x∈l:=by
 induction l with
|nil=>simp[aCy]
|cons f t ih=>
  unfold aCy;split
  .simp
  split
  .rename_i h
   rw[aCQ] at h;subst h;simp
  simp only[List.mem_cons,ih];constructor
  .rintro(h|h|h)
   .exact .inr (.inl h)
   .exact .inl h
   exact .inr (.inr h)
  rintro(h|h|h)
  .exact .inr (.inl h)
  .exact .inl h
  exact .inr (.inr h)
theorem aKr{e:Ed}{l:List Ed}(h:Asc l):Asc (aCy e l):=by
 induction l with
|nil=>simp[aCy,Asc]
|cons f t ih=>
  obtain⟨h1,h2⟩:=List.pairwise_cons.1 h;unfold aCy;split
  .rename_i hc
   have hc:=aBf.1 hc;refine List.pairwise_cons.2 ⟨fun x hx=>?_,h⟩;rcases List.mem_cons.1 hx with rfl|hx
   .exact hc
   exact hc.trans (h1 x hx)
  split
  .exact h
  rename_i hc hz;refine List.pairwise_cons.2 ⟨fun x hx=>?_,ih h2⟩;rcases aIj.1 hx with rfl|hx
  .rcases LtE.tri x f with h3|h3|h3
   .exact absurd (aBf.2 h3) hc
   .exact absurd (aCQ.2 h3) hz
   exact h3
  exact h1 x hx
theorem aDf(e:Ed)(l:List Ed):(aCy e l).length<=l.length+1:=by
 induction l with
|nil=>simp[aCy]
|cons f t ih=>
  unfold aCy;split
  .simp
  split
  .simp
  simp only[List.length_cons];omega
def aCx(l es:List Ed):List Ed:=es.foldl (fun l e=>aCy e l) l
def canon(es:List Ed):List Ed:=aCx [] es
theorem aCG(l es:List Ed)(e:Ed):aCx l (es++[e])=aCy e (aCx l es):=by simp[aCx]
theorem aJW{x:Ed}{l es:List Ed}:x∈aCx l es↔x∈l \/ x∈es:=by
 induction es generalizing l with
|nil=>simp[aCx]
|cons e t ih=>
  have:aCx l (e::t)=aCx (aCy e l) t:=rfl;rw[this,ih,aIj];simp only[List.mem_cons];constructor
  .rintro((h|h)|h)
   .exact .inr (.inl h)
   .exact .inl h
   exact .inr (.inr h)
  rintro(h|h|h)
  .exact .inl (.inr h)
  .exact .inl (.inl h)
  exact .inr h
theorem aJC{l es:List Ed}(h:Asc l):Asc (aCx l es):=by
 induction es generalizing l with
|nil=>exact h
|cons e t ih=>exact ih (aKr h)
theorem aEn(l es:List Ed):(aCx l es).length<=l.length+es.length:=by
 induction es generalizing l with
|nil=>simp[aCx]
|cons e t ih=>
  have:=ih (aCy e l);have:=aDf e l;have h:aCx l (e::t)=aCx (aCy e l) t:=rfl;rw[h];simp only[List.length_cons];omega
theorem aBD{x:Ed}{es:List Ed}:x∈canon es↔x∈es:=by simp[canon,aJW]
theorem aCP(es:List Ed):Asc (canon es):=aJC List.Pairwise.nil
theorem aDm(es:List Ed):(canon es).length<=es.length:=by have:=aEn [] es;simpa [canon] using this
theorem aKu{es fs:List Ed}(h:Asc fs)(hm:∀ e,e∈fs↔e∈es):fs=canon es:=aMG h (aCP es) fun e=>(hm e).trans aBD.symm
theorem aMh{l es:List Ed}(h:Asc l):aCx l es=canon (l++es):=aKu (aJC h) fun e=>by rw[aJW,List.mem_append]
def edI(es:List Ed):List Int:=(es.map fun e=>[e.a,e.l,e.b]).flatten
theorem aDo(es:List Ed):(edI es).length=es.length * 3:=by
 induction es with
|nil=>rfl
|cons m t ih=>simp[edI] at ih |-;omega
theorem aBT(a b:List Ed):edI (a++b)=edI a++edI b:=by simp[edI]
theorem aIf(e:Ed)(t:List Ed):edI (e::t)=e.a::e.l::e.b::edI t:=by simp[edI]
theorem aEY(e:Ed):edI [e]=[e.a,e.l,e.b]:=by simp[edI]
theorem aQg{es:List Ed}{k:Nat}{e:Ed}(h:es[k]?=some e):(edI es)[k * 3]?=some e.a/\(edI es)[k * 3+1]?=some e.l/\(edI es)[k * 3+2]?=some e.b:=by
 induction es generalizing k with
|nil=>simp at h
|cons m t ih=>
  rw[aIf];cases k with
 |zero=>simp at h;subst h;simp
 |succ k=>
   have:=ih (by simpa using h);rw[show(k+1) * 3=k * 3+1+1+1 from by omega]
   simpa using this
theorem aNS(es:List Ed)(k:Nat):edI (es.take k)=(edI es).take (k * 3):=by
 induction es generalizing k with
|nil=>simp[edI]
|cons m t ih=>
  cases k with
 |zero=>simp[edI]
 |succ k=>
   rw[List.take_succ_cons,aIf,aIf,ih,show(k+1) * 3=k * 3+1+1+1 from by omega];simp
theorem aKy(es:List Ed)(k:Nat):edI (es.drop k)=(edI es).drop (k * 3):=by
 induction es generalizing k with
|nil=>simp[edI]
|cons m t ih=>
  cases k with
 |zero=>simp
 |succ k=>
   rw[List.drop_succ_cons,aIf,ih,show(k+1) * 3=k * 3+1+1+1 from by omega];simp
def InG(r s:Int)(e:Ed):Prop:=0<=e.a/\e.a<s/\0<=e.b/\e.b<s/\1<=e.l/\e.l<=r
structure IsGr (r s:Int) (es:List Ed):Prop where
 rank:1<=r/\r<=3
 size:1<=s/\s<=40
 len:es.length<=120
 all:∀ e∈es,InG r s e
 asc:Asc es
def aEZ(v x:Int)(e:Ed):Option Int:=if 0<x/\e.l=x/\e.a=v then some e.b else if x<0/\e.l = -x/\e.b=v then some e.a else none
def aEt(es:List Ed)(v x:Int):List Int:=es.filterMap (aEZ v x)
theorem aGM{es:List Ed}{v x u:Int}:u∈aEt es v x↔∃ e∈es,aEZ v x e=some u:=by simp[aEt]
theorem aIg(es:List Ed)(v x:Int):(aEt es v x).length<=es.length:=List.length_filterMap_le _ _
theorem aDi{v x u:Int}{e:Ed}:aEZ v x e=some u↔(0<x/\e.l=x/\e.a=v/\e.b=u) \/ (x<0/\e.l = -x/\e.b=v/\e.a=u):=by
 unfold aEZ;split
 .rename_i h
  simp;omega
 split
 .rename_i h h'
  simp;omega
 simp;omega
def aIL:List Int->Int
|[]=>-1
|x::t=>t.foldl min x
theorem aLH(t:List Int)(x:Int):t.foldl min x<=x/\(∀ y∈t,t.foldl min x<=y)/\(t.foldl min x=x \/ t.foldl min x∈t):=by
 induction t generalizing x with
|nil=>simp
|cons y t ih=>
  obtain⟨h1,h2,h3⟩:=ih (min x y);simp only[List.foldl_cons];refine⟨by omega,?_,?_⟩
  .intro z hz
   rcases List.mem_cons.1 hz with rfl|hz
   .omega
   exact h2 z hz
  rcases h3 with h3|h3
  .rcases Int.le_total x y with h|h
   .left;rw[h3];omega
   right;rw[h3,show min x y=y by omega];simp
  right;exact List.mem_cons_of_mem _ h3
theorem aFu{l:List Int}(h:l≠[]):aIL l∈l/\∀ y∈l,aIL l<=y:=by
 cases l with
|nil=>exact absurd rfl h
|cons x t=>
  obtain⟨h1,h2,h3⟩:=aLH t x;refine⟨?_,?_⟩
  .rcases h3 with h3|h3
   .show t.foldl min x∈_;rw[h3];simp
   exact List.mem_cons_of_mem _ h3
  intro y hy;rcases List.mem_cons.1 hy with rfl|hy
  .exact h1
  exact h2 y hy
theorem aGL{l:List Int}{x:Int}(h:x∈l)(hm:∀ y∈l,x<=y):aIL l=x:=by
 have h0:l≠[]:=by intro h0;subst h0;simp at h
 obtain⟨h1,h2⟩:=aFu h0;have:=h2 x h;have:=hm _ h1;omega
def aAe(es:List Ed)(v x:Int):Int:=aIL (aEt es v x)
theorem aFw{es:List Ed}{v x:Int}(h:aEt es v x=[]):aAe es v x = -1:=by rw[aAe,h];rfl
theorem aJX{es:List Ed}{v x:Int}(h:0<=aAe es v x):∃ e∈es,aEZ v x e=some (aAe es v x):=by
 by_cases h0:aEt es v x=[]
 .rw[aFw h0] at h;omega
 exact aGM.1 (aFu h0).1
theorem aBm{r s:Int}{es:List Ed}(hg:∀ e∈es,InG r s e)(v x:Int):aAe es v x = -1 \/ (0<=aAe es v x/\aAe es v x<s):=by
 by_cases h0:aEt es v x=[]
 .exact .inl (aFw h0)
 right
 obtain⟨e,he,h⟩:=aGM.1 (aFu h0).1;have:=hg e he;unfold InG at this;have h':aEZ v x e=some (aAe es v x):=h;rw[aDi] at h';omega
def Clash(e f:Ed):Prop:=e.l=f.l/\(e.a=f.a \/ e.b=f.b)
instance (e f:Ed):Decidable (Clash e f):=by unfold Clash;infer_instance
theorem Clash.symm{e f:Ed}(h:Clash e f):Clash f e:=by unfold Clash at *;omega
structure IsFol (r s:Int) (es:List Ed):Prop where
 gr:IsGr r s es
 fol:es.Pairwise fun e f=>¬ Clash e f
def aAk(e f:Ed):List (Int × Int):=
 if e.l=f.l then(if e.a=f.a then[(min e.b f.b,max e.b f.b)] else[])++(if e.b=f.b then[(min e.a f.a,max e.a f.a)] else[]) else[]
def aBU:List Ed->List (Int × Int)
|[]=>[]
|e::t=>t.flatMap (aAk e)++aBU t
theorem aMQ{e f:Ed}:aAk e f=[]↔¬ Clash e f:=by
 unfold aAk Clash;by_cases h1:e.l=f.l <;> by_cases h2:e.a=f.a <;> by_cases h3:e.b=f.b <;> simp[h1,h2,h3]
theorem aLI{es:List Ed}:aBU es=[]↔es.Pairwise fun e f=>¬ Clash e f:=by
 induction es with
|nil=>simp[aBU]
|cons e t ih=>
  rw[List.pairwise_cons,aBU,List.append_eq_nil_iff,ih,List.flatMap_eq_nil_iff];simp only[aMQ]
theorem aNd{r s:Int}{e f:Ed}{p:Int × Int}(he:InG r s e)(hf:InG r s f)(hne:e≠f)(h:p∈aAk e f):0<=p.1/\p.1<p.2/\p.2<s:=by
 unfold aAk at h;unfold InG at he hf;have hd:¬ (e.a=f.a/\e.l=f.l/\e.b=f.b):=fun⟨h1,h2,h3⟩=>hne (Ed.ext' h1 h2 h3);split at h
 .rcases List.mem_append.1 h with h|h
  .split at h
   .simp at h;subst h;simp only[];omega
   simp at h
  split at h
  .simp at h;subst h;simp only[];omega
  simp at h
 simp at h
theorem aDu{r s:Int}{es:List Ed}{p:Int × Int}(hg:∀ e∈es,InG r s e)(ha:Asc es)(h:p∈aBU es):0<=p.1/\p.1<p.2/\p.2<s:=by
 induction es with
|nil=>simp[aBU] at h
|cons e t ih=>
  obtain⟨h1,h2⟩:=List.pairwise_cons.1 ha;rcases List.mem_append.1 h with h|h
  .obtain⟨f,hf,h⟩:=List.mem_flatMap.1 h
   exact aNd (hg e (by simp)) (hg f (by simp[hf])) (h1 f hf).ne h
  exact ih (fun f hf=>hg f (by simp[hf])) h2 h
def aBI(p:Int × Int)(v:Int):Int:=if v=p.2 then p.1 else if p.2<v then v - 1 else v
def aEd(p:Int × Int)(e:Ed):Ed:=⟨aBI p e.a,e.l,aBI p e.b⟩
def aBY(p:Int × Int)(es:List Ed):List Ed:=canon (es.map (aEd p))
theorem aFh{r s:Int}{es:List Ed}{p:Int × Int}(hg:IsGr r s es)(h0:0<=p.1)(h1:p.1<p.2)(h2:p.2<s):IsGr r (s - 1) (aBY p es):=by
 refine⟨hg.rank,?_,?_,?_,aCP _⟩
 .have:=hg.size;omega
 .have:=aDm (es.map (aEd p))
  have:=hg.len;simp at *;unfold aBY;omega
 intro e he;obtain⟨f,hf,rfl⟩:=List.mem_map.1 (aBD.1 he);have h3:=hg.all f hf;have hv:∀ v:Int,0<=v->v<s->0<=aBI p v/\aBI p v<s - 1:=by
  intro v hv0 hv1;unfold aBI;split
  .omega
  split <;> omega
 unfold InG at *;have:=hv f.a (by omega) (by omega);have:=hv f.b (by omega) (by omega);simp only[aEd];omega
def aCR:Nat->Int × List Ed->Int × List Ed
|0,g=>g
|n+1,g=>match aBU g.2 with
 |[]=>g
 |p::_=>aCR n (g.1 - 1,aBY p g.2)
theorem aEc{n:Nat}{g:Int × List Ed}(h:aBU g.2=[]):aCR n g=g:=by
 cases n with
|zero=>rfl
|succ n=>simp[aCR,h]
theorem aEb{n:Nat}{g:Int × List Ed}{p:Int × Int}{t:List (Int × Int)}(h:aBU g.2=p::t):aCR (n+1) g=aCR n (g.1 - 1,aBY p g.2):=by simp[aCR,h]
theorem aGD{r:Int}:∀(n:Nat) {g:Int × List Ed},IsGr r g.1 g.2->IsGr r (aCR n g).1 (aCR n g).2
|0,g,h=>h
|n+1,g,h=>by
  cases hf:aBU g.2 with
 |nil=>rw[aEc hf];exact h
 |cons p t=>
   rw[aEb hf];obtain⟨h0,h1,h2⟩:=aDu h.all h.asc (p:=p) (by rw[hf];simp);exact aGD n (aFh h h0 h1 h2)
theorem aLE:∀(n:Nat) {r:Int} {g:Int × List Ed},IsGr r g.1 g.2->g.1<=n->aBU (aCR n g).2=[]
|0,r,g,h,hn=>by have:=h.size;omega
|n+1,r,g,h,hn=>by
  cases hf:aBU g.2 with
 |nil=>rw[aEc hf];exact hf
 |cons p t=>
   rw[aEb hf];obtain⟨h0,h1,h2⟩:=aDu h.all h.asc (p:=p) (by rw[hf];simp);exact aLE n (aFh h h0 h1 h2) (by simp only[];omega)
def aDa(order:List Int)(v:Int):Int:=if v∈order then(order.idxOf v:Int) else -1
theorem aNX{order:List Int}{v:Int}(h:v ∉ order):aDa order v = -1:=by simp[aDa,h]
theorem aKB{order:List Int}{v:Int}(h:0<=aDa order v):aDa order v<order.length:=by
 unfold aDa at *;split
 .rename_i hm
  have:=List.idxOf_lt_length_iff.2 hm;omega
 rename_i hm;rw[if_neg hm] at h;omega
theorem aHp{order:List Int}{k:Nat}{v:Int}(hn:order.Nodup)(h:order[k]?=some v):aDa order v=k:=by
 have hm:v∈order:=List.mem_of_getElem? h;obtain⟨hk,h'⟩:=List.getElem?_eq_some_iff.1 h;rw[aDa,if_pos hm,<- h',hn.idxOf_getElem k hk]
def aAK(order:List Int)(e:Ed):Option Ed:=if 0<=aDa order e.a/\0<=aDa order e.b then some ⟨aDa order e.a,e.l,aDa order e.b⟩ else none
def aBn(order:List Int)(es:List Ed):List Ed:=canon (es.filterMap (aAK order))
theorem aIn{r s:Int}{es:List Ed}{order:List Int}(hg:IsGr r s es)(h0:order≠[])(h40:order.length<=40):IsGr r order.length (aBn order es):=by
 have hpos:0<order.length:=List.length_pos_iff.2 h0;refine⟨hg.rank,by omega,?_,?_,aCP _⟩
 .have h1:=aDm (es.filterMap (aAK order))
  have h2:=List.length_filterMap_le (aAK order) es;have h3:=hg.len;unfold aBn;omega
 intro e he;obtain⟨f,hf,h⟩:=List.mem_filterMap.1 (aBD.1 he);have h3:=hg.all f hf;unfold aAK at h;split at h
 .rename_i hc
  injection h with h
  subst h;have:=aKB hc.1;have:=aKB hc.2;unfold InG at *;simp only[];omega
 cases h
section
inductive Conn (es:List Ed) (v:Int):Int->Prop
|here:Conn es v v
|out {e:Ed}:e∈es->Conn es v e.a->Conn es v e.b
|inn {e:Ed}:e∈es->Conn es v e.b->Conn es v e.a
theorem aNM{es:List Ed}{v:Int}{P:Int->Prop}(h0:P v)(hc:∀ e∈es,P e.a↔P e.b)(hs:∀ u,P u->Conn es v u)(u:Int):P u↔Conn es v u:=by
 refine⟨hs u,fun h=>?_⟩
 induction h with
|here=>exact h0
|out he _ ih=>exact(hc _ he).1 ih
|inn he _ ih=>exact(hc _ he).2 ih
def degE(v:Int)(e:Ed):Nat:=(if e.a=v then 1 else 0)+(if e.b=v then 1 else 0)
def deg(es:List Ed)(v:Int):Nat:=(es.map (degE v)).sum
theorem aGA{es:List Ed}{k:Nat}{e:Ed}(h:es[k]?=some e)(v:Int):deg (es.take (k+1)) v=deg (es.take k) v+degE v e:=by
 obtain⟨hk,h'⟩:=List.getElem?_eq_some_iff.1 h;rw[List.take_succ_eq_append_getElem hk,h'];simp[deg]
theorem aNQ(es:List Ed)(v:Int):deg es v<=2 * es.length:=by
 induction es with
|nil=>simp[deg]
|cons e t ih=>
  have h:deg (e::t) v=degE v e+deg t v:=by simp[deg]
  have:degE v e<=2:=by unfold degE;split <;> split <;> omega
  simp only[List.length_cons];omega
def Bad(es:List Ed)(v:Int):Prop:=deg es v<2 \/ ¬ Conn es 0 v
open Classical in
noncomputable def leaf (s:Int) (es:List Ed):Option Nat:=((List.range s.toNat).drop 1).find? fun v=>decide (Bad es (v:Int))
theorem aID{p:Nat->Bool}(n k:Nat)(hk:k<n)(hp:p k=true):∀ m,m<=k->(∀ u,m<=u->u<k->p u=false)->((List.range n).drop m).find? p=some k:=by
 intro m hm;obtain⟨d,hd⟩:∃ d,k=m+d:=⟨k - m,by omega⟩
 induction d generalizing m with
|zero=>
  intro _;obtain rfl:k=m:=by omega
  rw[List.drop_eq_getElem_cons (by simpa using hk)];simp[hp]
|succ d ih=>
  intro hu;rw[List.drop_eq_getElem_cons (by simp;omega)];have h1:=hu m oN (by omega);simp only[List.getElem_range,List.find?_cons,h1];exact ih (m+1) (by omega) (by omega) (fun u h2 h3=>hu u (by omega) h3)
theorem aFg{s:Int}{es:List Ed}{v:Nat}(h1:1<=v)(h2:(v:Int)<s)(hb:Bad es v)(hu:∀ u:Nat,1<=u->u<v->¬ Bad es u):leaf s es=some v:=
 aID _ v (by omega) (by simpa using hb) 1 h1 fun u h h'=>by simpa using hu u h h'
theorem aGK{s:Int}{es:List Ed}(hu:∀ u:Nat,1<=u->(u:Int)<s->¬ Bad es u):leaf s es=none:=by
 refine List.find?_eq_none.2 fun u hm=>?_;have h1:u<s.toNat:=List.mem_range.1 (List.mem_of_mem_drop hm);have h2:1<=u:=by
  obtain⟨k,hk,h⟩:=List.mem_iff_getElem.1 hm;simp at h;omega
 simpa using hu u h2 (by omega)
theorem aCS{s:Int}{es:List Ed}{v:Nat}(h:leaf s es=some v):1<=v/\(v:Int)<s/\Bad es v:=by
 have hm:=List.mem_of_find?_eq_some h;have h1:v<s.toNat:=List.mem_range.1 (List.mem_of_mem_drop hm);have h3:Bad es v:=by simpa using List.find?_some h
 refine⟨?_,by omega,h3⟩;obtain⟨k,hk,h⟩:=List.mem_iff_getElem.1 hm;simp at h;omega
theorem aPh(s:Int)(es:List Ed):(leaf s es=none/\∀ u:Nat,1<=u->(u:Int)<s->¬ Bad es u) \/ ∃ v:Nat,leaf s es=some v/\1<=v/\(v:Int)<s/\Bad es v/\∀ u:Nat,1<=u->u<v->¬ Bad es u:=by
 by_cases h:∃ v:Nat,1<=v/\(v:Int)<s/\Bad es v
 .right
  obtain⟨v,hv⟩:=h
  induction v using Nat.strongRecOn with
 |_ v ih=>
   by_cases hu:∃ u:Nat,1<=u/\u<v/\Bad es u
   .obtain⟨u,h1,h2,h3⟩:=hu
    exact ih u h2 ⟨h1,by omega,h3⟩
   have hall:∀ u:Nat,1<=u->u<v->¬ Bad es u:=fun u h1 h2 h3=>hu ⟨u,h1,h2,h3⟩;exact⟨v,aFg hv.1 hv.2.1 hv.2.2 hall,hv.1,hv.2.1,hv.2.2,hall⟩
 left
 have hall:∀ u:Nat,1<=u->(u:Int)<s->¬ Bad es u:=fun u h1 h2 h3=>h ⟨u,h1,h2,h3⟩;exact⟨aGK hall,hall⟩
def but(v k:Nat):List Int:=((List.range k).filter (· != v)).map Int.ofNat
theorem aEu(v k:Nat):but v (k+1)=if k=v then but v k else but v k++[(k:Int)]:=by
 unfold but;rw[List.range_succ,List.filter_append];by_cases h:k=v
 .simp[h]
 simp[h]
theorem aSQ(v:Nat):∀ k,k<=v->(but v k).length=k
|0,_=>by simp[but]
|k+1,h=>by rw[aEu,if_neg (by omega)];simp[aSQ v k (by omega)]
theorem aET(v:Nat){k:Nat}(h:v<k):(but v k).length=k - 1:=by
 induction k with
|zero=>omega
|succ k ih=>
  rw[aEu];by_cases hk:k=v
  .rw[if_pos hk,hk,aSQ v v oN];omega
  rw[if_neg hk];simp;rw[ih (by omega)];omega
theorem aDZ(v k:Nat):(but v k).Nodup:=by
 unfold but;refine List.Pairwise.map _ (fun a b h=>?_) (List.Pairwise.filter _ List.nodup_range);intro he;exact h (by injection he)
theorem aNc{v k:Nat}{x:Int}:x∈but v k↔∃ u:Nat,u<k/\u≠v/\x=(u:Int):=by
 unfold but;simp only[List.mem_map,List.mem_filter,List.mem_range,bne_iff_ne];constructor
 .rintro⟨u,⟨h1,h2⟩,rfl⟩;exact⟨u,h1,h2,rfl⟩
 rintro⟨u,h1,h2,rfl⟩;exact⟨u,⟨h1,h2⟩,rfl⟩
theorem aGy{v k:Nat}{x:Int}(h:x∈but v k):0<=x/\x<k:=by
 obtain⟨u,h1,h2,rfl⟩:=aNc.1 h;omega
def aJJ(g:Int × List Ed)(v:Nat):Int × List Ed:=(((but v g.1.toNat).length:Int),aBn (but v g.1.toNat) g.2)
theorem aEX{g:Int × List Ed}{v:Nat}(h:(v:Int)<g.1):(aJJ g v).1=g.1 - 1:=by
 show((but v g.1.toNat).length:Int)=_
 rw[aET v (by omega)];omega
theorem aMN{r:Int}{g:Int × List Ed}{v:Nat}(hg:IsGr r g.1 g.2)(h1:1<=v)(h2:(v:Int)<g.1):IsGr r (aJJ g v).1 (aJJ g v).2:=by
 have hl:=aET v (show v<g.1.toNat by omega);have:=hg.size;refine aIn hg ?_ (by omega);intro h0;rw[h0] at hl;simp at hl;omega
noncomputable def trimA:Nat->Int × List Ed->Int × List Ed
|0,g=>g
|n+1,g=>match leaf g.1 g.2 with
 |none=>g
 |some v=>trimA n (aJJ g v)
theorem aBX{n:Nat}{g:Int × List Ed}(h:leaf g.1 g.2=none):trimA n g=g:=by
 cases n with
|zero=>rfl
|succ n=>simp[trimA,h]
theorem aCp{n:Nat}{g:Int × List Ed}{v:Nat}(h:leaf g.1 g.2=some v):trimA (n+1) g=trimA n (aJJ g v):=by simp[trimA,h]
theorem aHg{r:Int}:∀(n:Nat) {g:Int × List Ed},IsGr r g.1 g.2->IsGr r (trimA n g).1 (trimA n g).2
|0,g,h=>h
|n+1,g,h=>by
  cases hf:leaf g.1 g.2 with
 |none=>rw[aBX hf];exact h
 |some v=>
   rw[aCp hf];obtain⟨h1,h2,_⟩:=aCS hf;exact aHg n (aMN h h1 h2)
theorem aKi:∀(n:Nat) {g:Int × List Ed},(trimA n g).1<=g.1
|0,g=>Int.le_refl _
|n+1,g=>by
  cases hf:leaf g.1 g.2 with
 |none=>rw[aBX hf];exact Int.le_refl _
 |some v=>
   rw[aCp hf];obtain⟨h1,h2,_⟩:=aCS hf;have:=aKi n (g:=aJJ g v);rw[aEX h2] at this;omega
theorem aPy{n:Nat}{g:Int × List Ed}(hn:0<n):(trimA n g).1=g.1↔leaf g.1 g.2=none:=by
 constructor
 .intro h
  cases hf:leaf g.1 g.2 with
 |none=>rfl
 |some v=>
   obtain⟨m,rfl⟩:∃ m,n=m+1:=⟨n - 1,by omega⟩
   rw[aCp hf] at h;obtain⟨h1,h2,_⟩:=aCS hf;have:=aKi m (g:=aJJ g v);rw[aEX h2] at this;omega
 intro h;rw[aBX h]
def lets:Nat->List Int
|0=>[]
|n+1=>lets n++[((n:Int)+1), -((n:Int)+1)]
theorem aBL(n:Nat):(lets n).length=2 * n:=by
 induction n with
|zero=>rfl
|succ n ih=>simp[lets,ih];omega
theorem aBz{n:Nat}{x:Int}:x∈lets n↔x≠0/\-(n:Int)<=x/\x<=n:=by
 induction n with
|zero=>simp[lets];omega
|succ n ih=>
  simp only[lets,List.mem_append,ih,List.mem_cons,List.not_mem_nil,or_false];omega
abbrev BS:=List (Int × List Int)
def aAH(es:List Ed)(u:Int)(w:List Int)(st:BS)(x:Int):BS:=
 if aAe es u x<0 \/ aAe es u x∈st.map Prod.fst then st else st++[(aAe es u x,w++[x])]
def aBb(es:List Ed)(L:List Int)(p:Int × List Int)(st:BS):BS:=L.foldl (aAH es p.1 p.2) st
def aAo(es:List Ed)(L:List Int)(v:Int):Nat->BS
|0=>[(v,[])]
|i+1=>match (aAo es L v i)[i]? with
 |none=>aAo es L v i
 |some p=>aBb es L p (aAo es L v i)
def bfs(es:List Ed)(L:List Int)(v:Int):BS:=aAo es L v 41
theorem aGd(es:List Ed)(u:Int)(w:List Int)(st:BS)(x:Int):st <+: aAH es u w st x:=by
 unfold aAH;split
 .exact List.prefix_refl _
 exact List.prefix_append _ _
theorem aCE(es:List Ed)(L:List Int)(p:Int × List Int)(st:BS):st <+: aBb es L p st:=by
 unfold aBb
 induction L generalizing st with
|nil=>exact List.prefix_refl _
|cons x t ih=>exact(aGd es p.1 p.2 st x).trans (ih _)
theorem aPO(es:List Ed)(L:List Int)(v:Int)(i:Nat):aAo es L v i <+: aAo es L v (i+1):=by
 show _ <+: (match (aAo es L v i)[i]? with|none=>aAo es L v i|some p=>aBb es L p (aAo es L v i))
 split
 .exact List.prefix_refl _
 exact aCE es L _ _
theorem aDY(es:List Ed)(L:List Int)(v:Int)(i d:Nat):aAo es L v i <+: aAo es L v (i+d):=by
 induction d with
|zero=>exact List.prefix_refl _
|succ d ih=>exact ih.trans (aPO es L v (i+d))
theorem aAO{α:Type}{xs ys:List α}(h:xs <+: ys){k:Nat}{a:α}(hk:xs[k]?=some a):ys[k]?=some a:=by
 obtain⟨t,rfl⟩:=h;rw[List.getElem?_append_left (List.getElem?_eq_some_iff.1 hk).1];exact hk
theorem aOM{es:List Ed}{L:List Int}{v:Int}{i:Nat}(h:(aAo es L v i).length<=i)(d:Nat):aAo es L v (i+d)=aAo es L v i:=by
 induction d with
|zero=>rfl
|succ d ih=>
  show(match (aAo es L v (i+d))[i+d]? with|none=>aAo es L v (i+d)|some p=>aBb es L p (aAo es L v (i+d)))=_
  rw[ih,List.getElem?_eq_none (by omega)]
structure BfsOk (s:Int) (L:List Int) (st:BS):Prop where
 nd:(st.map Prod.fst).Nodup
 rng:∀ p∈st,0<=p.1/\p.1<s
 wl:∀(j:Nat) (p:Int × List Int),st[j]?=some p->p.2.length<=j
 wm:∀ p∈st,∀ x∈p.2,x∈L
theorem BfsOk.len{s:Int}{L:List Int}{st:BS}(h:BfsOk s L st)(hs:0<=s):(st.length:Int)<=s:=by
 have h1:∀(L:Nat) (l:List Int),l.Nodup->(∀ v∈l,0<=v/\v<(L:Int))->l.length<=L:=by
  intro L
  induction L with
 |zero=>
   intro l _ h;cases l with
  |nil=>simp
  |cons x t=>have:=h x (by simp);omega
 |succ L ih=>
   intro l hn h;have h2:=ih (l.erase (L:Int)) (hn.erase _) fun v hv=>by
    have h3:=h v (List.mem_of_mem_erase hv);have h4:v≠(L:Int):=((List.Nodup.mem_erase_iff hn).1 hv).1;omega
   have h5:=List.length_erase (a:=(L:Int)) (l:=l);split at h5 <;> omega
 have:=h1 s.toNat (st.map Prod.fst) h.nd (fun v hv=>by
  obtain⟨p,hp,rfl⟩:=List.mem_map.1 hv;have:=h.rng p hp;omega)
 simp at this;omega
theorem BfsOk.start{s v:Int}(L:List Int)(h0:0<=v)(h1:v<s):BfsOk s L [(v,[])]:=by
 refine⟨by simp,?_,?_,?_⟩
 .intro p hp;simp at hp;subst hp;exact⟨h0,h1⟩
 .intro j p hp
  cases j with
 |zero=>simp at hp;subst hp;simp
 |succ j=>simp at hp
 intro p hp x hx;simp at hp;subst hp;simp at hx
theorem BfsOk.step{r s:Int}{es:List Ed}{L:List Int}{st:BS}(hg:∀ e∈es,InG r s e)(h:BfsOk s L st){i:Nat}{p:Int × List Int}(hp:st[i]?=some p){x:Int}(hx:x∈L):BfsOk s L (aAH es p.1 p.2 st x):=by
 unfold aAH;split
 .exact h
 rename_i hc;have hc1:¬ aAe es p.1 x<0:=fun h=>hc (.inl h);have hc2:aAe es p.1 x ∉ st.map Prod.fst:=fun h=>hc (.inr h);have hr:=aBm hg p.1 x;have hi:=(List.getElem?_eq_some_iff.1 hp).1;refine⟨?_,?_,?_,?_⟩
 .rw[List.map_append,List.nodup_append]
  refine⟨h.nd,by simp,?_⟩;intro a ha b hb;simp at hb;subst hb;intro e;subst e;exact hc2 ha
 .intro q hq
  rcases List.mem_append.1 hq with hq|hq
  .exact h.rng q hq
  simp at hq;subst hq;simp only[];omega
 .intro j q hq
  rcases Nat.lt_or_ge j st.length with hj|hj
  .rw[List.getElem?_append_left hj] at hq;exact h.wl j q hq
  rw[List.getElem?_append_right hj] at hq;rcases Nat.eq_zero_or_pos (j - st.length) with h0|h0
  .rw[h0] at hq
   simp at hq;subst hq;have:=h.wl i p hp;simp only[List.length_append,List.length_cons,List.length_nil];omega
  rw[List.getElem?_eq_none (by simp;omega)] at hq;cases hq
 intro q hq y hy;rcases List.mem_append.1 hq with hq|hq
 .exact h.wm q hq y hy
 simp at hq;subst hq;rcases List.mem_append.1 hy with hy|hy
 .exact h.wm p (List.mem_of_getElem? hp) y hy
 simp at hy;subst hy;exact hx
theorem BfsOk.row{r s:Int}{es:List Ed}{L:List Int}(hg:∀ e∈es,InG r s e){i:Nat}{p:Int × List Int}:∀(K:List Int),(∀ x∈K,x∈L)->∀ {st:BS},BfsOk s L st->st[i]?=some p->BfsOk s L (aBb es K p st)
|[],_,st,h,_=>h
|x::K,hK,st,h,hp=>BfsOk.row hg K (fun y hy=>hK y (by simp[hy])) (h.step hg hp (hK x (by simp))) (aAO (aGd es p.1 p.2 st x) hp)
theorem aIe{r s v:Int}{es:List Ed}{L:List Int}(hg:∀ e∈es,InG r s e)(h0:0<=v)(h1:v<s)(i:Nat):BfsOk s L (aAo es L v i):=by
 induction i with
|zero=>exact BfsOk.start L h0 h1
|succ i ih=>
  show BfsOk s L (match (aAo es L v i)[i]? with|none=>aAo es L v i|some p=>aBb es L p (aAo es L v i))
  split
  .exact ih
  rename_i p hp;exact BfsOk.row hg L (fun x hx=>hx) ih hp
theorem aSO{r s v:Int}{es:List Ed}{L:List Int}(hg:∀ e∈es,InG r s e)(h0:0<=v)(h1:v<s)(hs:s<=40){i:Nat}(h:(aAo es L v i).length=i):bfs es L v=aAo es L v i:=by
 have:=(aIe (L:=L) hg h0 h1 i).len (by omega);have h2:=aOM (show(aAo es L v i).length<=i by omega) (41 - i);rw[<- h2,show i+(41 - i)=41 by omega]
 rfl
theorem aHC{r s v:Int}{es:List Ed}{L:List Int}(hg:∀ e∈es,InG r s e)(h0:0<=v)(h1:v<s):BfsOk s L (bfs es L v):=aIe hg h0 h1 41
theorem aUf(es:List Ed)(L:List Int)(v:Int):bfs es L v≠[]:=by
 intro h;obtain⟨t,ht⟩:=aDY es L v 0 41;rw[show(0:Nat)+41=41 from rfl,show aAo es L v 41=bfs es L v from rfl,h] at ht;simp[aAo] at ht
def aBO(r:Int)(es:List Ed)(v:Int):List Int:=(bfs es (lets r.toNat) v).map Prod.fst
open Classical in
noncomputable def canonG (r:Int) (g:Int × List Ed):Int × List Ed:=if IsFol r g.1 g.2 then(((aBO r g.2 0).length:Int),aBn (aBO r g.2 0) g.2) else g
noncomputable def coreA (r:Int) (g:Int × List Ed):Int × List Ed:=canonG r (trimA 40 (aCR 40 g))
structure IsCor (r s:Int) (es:List Ed):Prop where
 fol:IsFol r s es
 leaf:leaf s es=none
 canon:canonG r (s,es)=(s,es)
theorem aDN{r s v:Int}{es:List Ed}(hg:IsGr r s es)(h0:0<=v)(h1:v<s):0<(aBO r es v).length/\((aBO r es v).length:Int)<=s/\(aBO r es v).Nodup/\∀ x∈aBO r es v,0<=x/\x<s:=by
 have h:=aHC (L:=lets r.toNat) hg.all h0 h1;refine⟨?_,?_,h.nd,?_⟩
 .unfold aBO
  rw[List.length_map];exact List.length_pos_iff.2 (aUf _ _ _)
 .unfold aBO
  rw[List.length_map];exact h.len (by omega)
 intro x hx;obtain⟨p,hp,rfl⟩:=List.mem_map.1 hx;exact h.rng p hp
theorem aEU{r:Int}{g:Int × List Ed}(hg:IsGr r g.1 g.2):IsGr r (canonG r g).1 (canonG r g).2:=by
 unfold canonG;split
 .have hs:=hg.size
  have h:=aDN hg (v:=0) (Int.le_refl _) (by omega);refine aIn hg ?_ (by omega);intro h0;rw[h0] at h;simp at h
 exact hg
theorem aDb{r:Int}{g:Int × List Ed}(hg:IsGr r g.1 g.2):IsGr r (coreA r g).1 (coreA r g).2:=aEU (aHg 40 (aGD 40 hg))
theorem IsCor.gr{r s:Int}{es:List Ed}(h:IsCor r s es):IsGr r s es:=h.fol.gr
end
theorem aGO:∀(L:Nat) (l:List Int),l.Nodup->(∀ v∈l,0<=v/\v<(L:Int))->l.length<=L:=by
 intro L
 induction L with
|zero=>
  intro l _ h;cases l with
 |nil=>simp
 |cons a t=>have:=h a List.mem_cons_self;omega
|succ L ih=>
  intro l hn h;by_cases hm:(L:Int)∈l
  .have h1:=ih (l.erase (L:Int)) (hn.erase _) (fun v hv=>by
    have hv2:=List.mem_of_mem_erase hv;have h3:=h v hv2;have h4:v≠(L:Int):=fun e=>by subst e;exact(hn.not_mem_erase) hv
    omega)
   rw[List.length_erase_of_mem hm] at h1;omega
  have h1:=ih l hn (fun v hv=>by
   have h3:=h v hv;have h4:v≠(L:Int):=fun e=>by subst e;exact hm hv
   omega)
  omega
def aDP(n:Nat)(ord:List Int):List Int:=(List.range n).map fun(v:Nat)=>aDa ord (v:Int)
theorem aHy(n:Nat)(ord:List Int):(aDP n ord).length=n:=by simp[aDP]
theorem aKd(n:Nat):aDP n []=List.replicate n (-1):=by
 unfold aDP;rw[List.eq_replicate_iff];refine⟨by simp,fun b hb=>?_⟩;obtain⟨v, -,rfl⟩:=List.mem_map.1 hb;exact aNX (by simp)
theorem aEl{n j:Nat}(ord:List Int)(h:j<n):(aDP n ord)[j]?=some (aDa ord (j:Int)):=by simp[aDP,h]
theorem aQr{xs:List Int}{x:Int}(h:x ∉ xs)(v:Int):aDa (xs++[x]) v=if v=x then(xs.length:Int) else aDa xs v:=by
 unfold aDa;by_cases hv:v=x
 .subst hv
  rw[if_pos (by simp),if_pos rfl,List.idxOf_append,if_neg h];simp
 rw[if_neg hv];by_cases hm:v∈xs
 .rw[if_pos (by simp[hm]),if_pos hm,List.idxOf_append,if_pos hm]
 rw[if_neg (by simp[hm,hv]),if_neg hm]
theorem aKe{n m k:Nat}{ord:List Int}(hn:ord.Nodup)(hk:ord[k]?=some (m:Int))(hm:m<n):(aDP n (ord.take k)).set m (k:Int)=aDP n (ord.take (k+1)):=by
 obtain⟨hkl,hk'⟩:=List.getElem?_eq_some_iff.1 hk;have ht:ord.take (k+1)=ord.take k++[(m:Int)]:=by rw[List.take_succ_eq_append_getElem hkl,hk']
 have hnm:(m:Int) ∉ ord.take k:=by
  rw[<- List.take_append_drop (k+1) ord,ht] at hn;exact fun h=>(List.nodup_append.1 (List.nodup_append.1 hn).1).2.2 _ h _ (by simp) rfl
 have hl:(ord.take k).length=k:=by rw[List.length_take];omega
 apply List.ext_getElem?;intro j;rw[ht];by_cases hj:j<n
 .rw[aEl _ hj,aQr hnm]
  by_cases hjm:m=j
  .subst hjm
   rw[List.getElem?_set_self (by rw[aHy];exact hj),if_pos rfl,hl]
  rw[List.getElem?_set_ne hjm,aEl _ hj,if_neg (by omega)]
 rw[List.getElem?_eq_none (by rw[List.length_set,aHy];omega),List.getElem?_eq_none (by rw[aHy];omega)]
def aEm(n:Nat)(ord:List Int):List Int:=(aDP n ord).map (·+1)
theorem aPr(n:Nat):aEm n []=List.replicate n 0:=by simp[aEm,aKd]
theorem aHz{n j:Nat}(ord:List Int)(h:j<n):(aEm n ord)[j]?=some (aDa ord (j:Int)+1):=by simp[aEm,aEl ord h]
theorem aPs{n m k:Nat}{ord:List Int}(hn:ord.Nodup)(hk:ord[k]?=some (m:Int))(hm:m<n):(aEm n (ord.take k)).set m ((k:Int)+1)=aEm n (ord.take (k+1)):=by
 unfold aEm;rw[<- aKe hn hk hm,List.map_set]
theorem aNi{k:Nat}{x:Int}{ord:List Int}(hn:ord.Nodup)(hk:ord[k]?=some x):x ∉ ord.take k:=by
 obtain⟨hkl,hk'⟩:=List.getElem?_eq_some_iff.1 hk;have ht:ord.take (k+1)=ord.take k++[x]:=by rw[List.take_succ_eq_append_getElem hkl,hk']
 rw[<- List.take_append_drop (k+1) ord,ht] at hn;exact fun h=>(List.nodup_append.1 (List.nodup_append.1 hn).1).2.2 _ h _ (by simp) rfl
abbrev PS:=List (Int × Int)
def aAI(ea eb:List Ed)(p:Int × Int)(x:Int):Int × Int:=(aAe ea p.1 x,aAe eb p.2 x)
def aCo(ea eb:List Ed)(p:Int × Int)(st:PS)(x:Int):PS:=
 if aAe ea p.1 x<0 \/ aAe eb p.2 x<0 \/ aAI ea eb p x∈st then st else st++[aAI ea eb p x]
def aBo(ea eb:List Ed)(L:List Int)(p:Int × Int)(st:PS):PS:=L.foldl (aCo ea eb p) st
def aAN(ea eb:List Ed)(L:List Int)(p0:Int × Int):Nat->PS
|0=>[p0]
|i+1=>match (aAN ea eb L p0 i)[i]? with
 |none=>aAN ea eb L p0 i
 |some p=>aBo ea eb L p (aAN ea eb L p0 i)
def aAf(ea eb:List Ed)(L:List Int)(p0:Int × Int):PS:=aAN ea eb L p0 1601
theorem aPo(ea eb:List Ed)(p:Int × Int)(st:PS)(x:Int):st <+: aCo ea eb p st x:=by
 unfold aCo;split
 .exact List.prefix_refl _
 exact List.prefix_append _ _
theorem aCU(ea eb:List Ed)(L:List Int)(p:Int × Int)(st:PS):st <+: aBo ea eb L p st:=by
 unfold aBo
 induction L generalizing st with
|nil=>exact List.prefix_refl _
|cons x t ih=>exact(aPo ea eb p st x).trans (ih _)
theorem aCw{ea eb:List Ed}{L:List Int}{p0 p:Int × Int}{i:Nat}(h:(aAN ea eb L p0 i)[i]?=some p):aAN ea eb L p0 (i+1)=aBo ea eb L p (aAN ea eb L p0 i):=by
 show(match (aAN ea eb L p0 i)[i]? with|none=>aAN ea eb L p0 i|some p=>aBo ea eb L p (aAN ea eb L p0 i))=_
 rw[h]
theorem aIo(ea eb:List Ed)(L:List Int)(p0:Int × Int)(i:Nat):aAN ea eb L p0 i <+: aAN ea eb L p0 (i+1):=by
 show _ <+: (match (aAN ea eb L p0 i)[i]? with|none=>aAN ea eb L p0 i|some p=>aBo ea eb L p (aAN ea eb L p0 i))
 split
 .exact List.prefix_refl _
 exact aCU ea eb L _ _
theorem aIV(ea eb:List Ed)(L:List Int)(p0:Int × Int)(i d:Nat):aAN ea eb L p0 i <+: aAN ea eb L p0 (i+d):=by
 induction d with
|zero=>exact List.prefix_refl _
|succ d ih=>exact ih.trans (aIo ea eb L p0 (i+d))
theorem aRi{ea eb:List Ed}{L:List Int}{p0:Int × Int}{i:Nat}(h:(aAN ea eb L p0 i).length<=i)(d:Nat):aAN ea eb L p0 (i+d)=aAN ea eb L p0 i:=by
 induction d with
|zero=>rfl
|succ d ih=>
  show(match (aAN ea eb L p0 (i+d))[i+d]? with|none=>aAN ea eb L p0 (i+d)|some p=>aBo ea eb L p (aAN ea eb L p0 (i+d)))=_
  rw[ih,List.getElem?_eq_none (by omega)]
def aAJ(sb:Int)(p:Int × Int):Int:=p.1 * sb+p.2
def PIn(sa sb:Int)(p:Int × Int):Prop:=0<=p.1/\p.1<sa/\0<=p.2/\p.2<sb
theorem aIY{sa sb:Int}{p:Int × Int}(h:PIn sa sb p):0<=aAJ sb p/\aAJ sb p<sa * sb:=by
 obtain⟨h1,h2,h3,h4⟩:=h;have k1:0<=p.1 * sb:=Int.mul_nonneg h1 (by omega);have k2:(p.1+1) * sb<=sa * sb:=Int.mul_le_mul_of_nonneg_right (by omega) (by omega);rw[Int.add_mul,Int.one_mul] at k2;unfold aAJ;omega
theorem aIX{sa sb:Int}{p:Int × Int}(h:PIn sa sb p):aAJ sb p / sb=p.1/\aAJ sb p % sb=p.2:=by
 obtain⟨h1,h2,h3,h4⟩:=h;unfold aAJ;constructor
 .rw[Int.add_comm,Int.add_mul_ediv_right _ _ (by omega),Int.ediv_eq_zero_of_lt h3 h4,Int.zero_add]
 rw[Int.add_comm,Int.add_mul_emod_self_right,Int.emod_eq_of_lt h3 h4]
theorem aPq{sa sb:Int}{p:Int × Int}(h:PIn sa sb p):Int.tdiv (aAJ sb p) sb=p.1/\Int.tmod (aAJ sb p) sb=p.2:=by
 have h0:=aIY h;rw[Int.tdiv_eq_ediv_of_nonneg h0.1,Int.tmod_eq_emod_of_nonneg h0.1];exact aIX h
theorem aGZ{sa sb:Int}{p q:Int × Int}(hp:PIn sa sb p)(hq:PIn sa sb q)(h:aAJ sb p=aAJ sb q):p=q:=by
 have h1:=aIX hp;have h2:=aIX hq;rw[h] at h1;exact Prod.ext (h1.1.symm.trans h2.1) (h1.2.symm.trans h2.2)
structure PbOk (sa sb:Int) (st:PS):Prop where
 nd:st.Nodup
 rng:∀ p∈st,PIn sa sb p
theorem PbOk.codes{sa sb:Int}{st:PS}(h:PbOk sa sb st):(st.map (aAJ sb)).Nodup:=by
 rw[List.Nodup,List.pairwise_map];exact(List.pairwise_iff_forall_sublist.2 fun{a b} hab hc=>by
  have ha:a∈st:=hab.subset (by simp);have hb:b∈st:=hab.subset (by simp);have h1:=aGZ (h.rng a ha) (h.rng b hb) hc;have h2:=(List.pairwise_iff_forall_sublist.1 h.nd) hab;exact h2 h1)
theorem PbOk.mem{sa sb:Int}{st:PS}{p:Int × Int}(h:PbOk sa sb st)(hp:PIn sa sb p):aAJ sb p∈st.map (aAJ sb)↔p∈st:=by
 constructor
 .intro hm
  obtain⟨q,hq,he⟩:=List.mem_map.1 hm;rw[<- aGZ (h.rng q hq) hp he];exact hq
 exact fun hm=>List.mem_map.2 ⟨p,hm,rfl⟩
theorem PbOk.len{sa sb:Int}{st:PS}(h:PbOk sa sb st)(ha:0<=sa)(hb:0<=sb):(st.length:Int)<=sa * sb:=by
 have h1:=aGO (sa * sb).toNat (st.map (aAJ sb)) h.codes fun x hx=>by
  obtain⟨p,hp,rfl⟩:=List.mem_map.1 hx;have h2:=aIY (h.rng p hp);omega
 rw[List.length_map] at h1;have h0:0<=sa * sb:=Int.mul_nonneg ha hb;omega
theorem PbOk.start{sa sb:Int}{p0:Int × Int}(h0:PIn sa sb p0):PbOk sa sb [p0]:=⟨by simp,fun p hp=>by simp at hp;subst hp;exact h0⟩
theorem aEk{r r' sa sb:Int}{ea eb:List Ed}(hga:∀ e∈ea,InG r sa e)(hgb:∀ e∈eb,InG r' sb e)(p:Int × Int){x:Int}(h1:¬ aAe ea p.1 x<0)(h2:¬ aAe eb p.2 x<0):PIn sa sb (aAI ea eb p x):=by
 have k1:=aBm hga p.1 x;have k2:=aBm hgb p.2 x;unfold PIn aAI;omega
theorem PbOk.step{r r' sa sb:Int}{ea eb:List Ed}(hga:∀ e∈ea,InG r sa e)(hgb:∀ e∈eb,InG r' sb e){st:PS}(h:PbOk sa sb st)(p:Int × Int)(x:Int):PbOk sa sb (aCo ea eb p st x):=by
 unfold aCo;split
 .exact h
 rename_i hc;have hc1:¬ aAe ea p.1 x<0:=fun h=>hc (.inl h);have hc2:¬ aAe eb p.2 x<0:=fun h=>hc (.inr (.inl h));have hc3:aAI ea eb p x ∉ st:=fun h=>hc (.inr (.inr h));refine⟨?_,?_⟩
 .rw[List.nodup_append]
  refine⟨h.nd,by simp,?_⟩;intro a ha b hb;simp at hb;subst hb;intro e;subst e;exact hc3 ha
 intro q hq;rcases List.mem_append.1 hq with hq|hq
 .exact h.rng q hq
 simp at hq;subst hq;exact aEk hga hgb p hc1 hc2
theorem PbOk.row{r r' sa sb:Int}{ea eb:List Ed}(hga:∀ e∈ea,InG r sa e)(hgb:∀ e∈eb,InG r' sb e)(p:Int × Int):∀(K:List Int) {st:PS},PbOk sa sb st->PbOk sa sb (aBo ea eb K p st)
|[],st,h=>h
|x::K,st,h=>PbOk.row hga hgb p K (h.step hga hgb p x)
theorem aFk{r r' sa sb:Int}{ea eb:List Ed}(L:List Int)(hga:∀ e∈ea,InG r sa e)(hgb:∀ e∈eb,InG r' sb e){p0:Int × Int}(h0:PIn sa sb p0)(i:Nat):PbOk sa sb (aAN ea eb L p0 i):=by
 induction i with
|zero=>exact PbOk.start h0
|succ i ih=>
  show PbOk sa sb (match (aAN ea eb L p0 i)[i]? with|none=>aAN ea eb L p0 i|some p=>aBo ea eb L p (aAN ea eb L p0 i))
  split
  .exact ih
  exact PbOk.row hga hgb _ L ih
theorem aIW{r r' sa sb:Int}{ea eb:List Ed}(L:List Int)(hga:IsGr r sa ea)(hgb:IsGr r' sb eb){p0:Int × Int}(h0:PIn sa sb p0)(i:Nat):(aAN ea eb L p0 i).length<=1600:=by
 have h1:=(aFk L hga.all hgb.all h0 i).len (by have:=hga.size;omega) (by have:=hgb.size;omega);have h2:sa * sb<=40 * 40:=Int.mul_le_mul hga.size.2 hgb.size.2 (by have:=hgb.size;omega) (by omega);omega
theorem aIm{r r' sa sb:Int}{ea eb:List Ed}{L:List Int}(hga:IsGr r sa ea)(hgb:IsGr r' sb eb){p0:Int × Int}(h0:PIn sa sb p0){i:Nat}(h:(aAN ea eb L p0 i).length=i):aAf ea eb L p0=aAN ea eb L p0 i:=by
 have:=aIW L hga hgb h0 i;have h2:=aRi (show(aAN ea eb L p0 i).length<=i by omega) (1601 - i);rw[<- h2,show i+(1601 - i)=1601 by omega]
 rfl
theorem aDe{r r' sa sb:Int}{ea eb:List Ed}(L:List Int)(hga:∀ e∈ea,InG r sa e)(hgb:∀ e∈eb,InG r' sb e){p0:Int × Int}(h0:PIn sa sb p0):PbOk sa sb (aAf ea eb L p0):=aFk L hga hgb h0 1601
theorem aEi{r r' sa sb:Int}{ea eb:List Ed}(L:List Int)(hga:IsGr r sa ea)(hgb:IsGr r' sb eb){p0:Int × Int}(h0:PIn sa sb p0):(aAf ea eb L p0).length<=1600:=aIW L hga hgb h0 1601
theorem aOs(ea eb:List Ed)(L:List Int)(p0:Int × Int)(i:Nat):0<(aAN ea eb L p0 i).length:=by
 have:=(aIV ea eb L p0 0 i).length_le;rw[Nat.zero_add] at this;simp[aAN] at this;omega
theorem aGp{r r' sa sb:Int}{ea eb:List Ed}{L:List Int}(hga:IsGr r sa ea)(hgb:IsGr r' sb eb){p0:Int × Int}(h0:PIn sa sb p0){i:Nat}(h:i<=(aAN ea eb L p0 i).length):aAN ea eb L p0 i <+: aAf ea eb L p0:=by
 have h1:=aIW L hga hgb h0 i;have h2:=aIV ea eb L p0 i (1601 - i);rw[show i+(1601 - i)=1601 by omega] at h2;exact h2
theorem aHx(ea eb:List Ed)(x:Int)(K:List Int)(p:Int × Int)(st:PS):aBo ea eb (x::K) p st=aBo ea eb K p (aCo ea eb p st x):=rfl
theorem aFy{ea eb:List Ed}{L:List Int}{p:Int × Int}{st:PS}{k:Nat}{x:Int}(h:L[k]?=some x):aBo ea eb (L.take (k+1)) p st=aCo ea eb p (aBo ea eb (L.take k) p st) x:=by
 unfold aBo;rw[List.take_add_one,h];simp[List.foldl_append]
def aRf(ea eb:List Ed)(P:PS)(i:Nat)(p:Int × Int)(x:Int):Option Ed:=
 if aAe ea p.1 x<0 \/ aAe eb p.2 x<0 then none else some ⟨i,x,(P.idxOf (aAI ea eb p x):Nat)⟩
def aCD(ea eb:List Ed)(P:PS)(i:Nat)(p:Int × Int)(k:Nat):List Ed:=(List.range k).filterMap fun(j:Nat)=>aRf ea eb P i p ((j:Int)+1)
def aAZ(ea eb:List Ed)(r:Nat)(P:PS):Nat->List Ed
|0=>[]
|n+1=>aAZ ea eb r P n++(match P[n]? with|none=>[]|some p=>aCD ea eb P n p r)
theorem aCF{ea eb:List Ed}{r:Nat}{P:PS}{n:Nat}{p:Int × Int}(h:P[n]?=some p):aAZ ea eb r P (n+1)=aAZ ea eb r P n++aCD ea eb P n p r:=by rw[aAZ,h]
theorem aIT(ea eb:List Ed)(P:PS)(i:Nat)(p:Int × Int)(k:Nat):aCD ea eb P i p (k+1)=aCD ea eb P i p k++(aRf ea eb P i p ((k:Int)+1)).toList:=by
 unfold aCD;rw[List.range_succ,List.filterMap_append];cases h:aRf ea eb P i p ((k:Int)+1) <;> simp[h]
theorem aGY(ea eb:List Ed)(P:PS)(i:Nat)(p:Int × Int)(k:Nat):(aCD ea eb P i p k).length<=k:=by
 have:=List.length_filterMap_le (fun(j:Nat)=>aRf ea eb P i p ((j:Int)+1)) (List.range k);rw[List.length_range] at this;exact this
theorem aCv(ea eb:List Ed)(r:Nat)(P:PS)(n:Nat):(aAZ ea eb r P n).length<=n * r:=by
 induction n with
|zero=>simp[aAZ]
|succ n ih=>
  rw[aAZ,List.length_append,Nat.succ_mul];split
  .simp;omega
  have:=aGY ea eb P n ‹_› r;omega
theorem aQD{n k:Nat}{x:Int}(h:(lets n)[k]?=some x):(k % 2=0/\x=((k / 2:Nat):Int)+1) \/ (k % 2=1/\x = -(((k / 2:Nat):Int)+1)):=by
 induction n with
|zero=>simp[lets] at h
|succ n ih=>
  rw[lets] at h;rcases Nat.lt_or_ge k (lets n).length with hk|hk
  .rw[List.getElem?_append_left hk] at h
   exact ih h
  rw[List.getElem?_append_right hk] at h;rw[aBL] at h hk;have hc:k=2 * n \/ k=2 * n+1 \/ 2 * n+2<=k:=by omega
  rcases hc with rfl|rfl|hc
  .left
   simp at h;refine⟨by omega,?_⟩;rw[<- h];omega
  .right
   rw[show 2 * n+1 - 2 * n=1 by omega] at h;simp at h;refine⟨by omega,?_⟩;rw[show(2 * n+1) / 2=n by omega,<- h]
  rw[List.getElem?_eq_none (by simp;omega)] at h;cases h
structure PullOk (r s:Int) (es:List Ed) (r' s':Int) (es':List Ed) (u v:Int):Prop where
 f1:IsFol r s es
 f2:IsFol r' s' es'
 rk:r=r'
 u0:0<=u/\u<s
 v0:0<=v/\v<s'
 sz:(aAf es es' (lets r.toNat) (u,v)).length<=40
 ln:(aAZ es es' r.toNat (aAf es es' (lets r.toNat) (u,v)) (aAf es es' (lets r.toNat) (u,v)).length).length<=120
theorem PullOk.pin{r s:Int}{es:List Ed}{r' s':Int}{es':List Ed}{u v:Int}(h:PullOk r s es r' s' es' u v):PIn s s' (u,v):=⟨h.u0.1,h.u0.2,h.v0.1,h.v0.2⟩
def aHl(ea eb:List Ed)(L:List Int)(P:PS):Prop:=∀ p∈P,∀ x∈L,¬ aAe ea p.1 x<0->¬ aAe eb p.2 x<0->aAI ea eb p x∈P
theorem aHM{ea eb:List Ed}{p:Int × Int}:∀(K:List Int) {st:PS},∀ x∈K,¬ aAe ea p.1 x<0->¬ aAe eb p.2 x<0->aAI ea eb p x∈aBo ea eb K p st
|[],st,x,h,_,_=>by cases h
|y::K,st,x,h,h1,h2=>by
  rw[aHx];rcases List.mem_cons.1 h with rfl|h
  .refine(aCU ea eb K p _).subset ?_
   unfold aCo;split
   .rename_i hc
    rcases hc with hc|hc|hc
    .exact absurd hc h1
    .exact absurd hc h2
    .exact hc
   .simp
  .exact aHM K x h h1 h2
theorem aGo{ea eb:List Ed}{L:List Int}{p0:Int × Int}:∀(i j:Nat) {p:Int × Int},j<i->(aAN ea eb L p0 i)[j]?=some p->∀ x∈L,¬ aAe ea p.1 x<0->¬ aAe eb p.2 x<0->aAI ea eb p x∈aAN ea eb L p0 i
|0,j,p,hj,hp,x,hx,h1,h2=>absurd hj (Nat.not_lt_zero j)
|i+1,j,p,hj,hp,x,hx,h1,h2=>by
  cases hq:(aAN ea eb L p0 i)[i]? with
 |none=>
   have he:aAN ea eb L p0 (i+1)=aAN ea eb L p0 i:=by
    show(match (aAN ea eb L p0 i)[i]? with|none=>aAN ea eb L p0 i|some p=>aBo ea eb L p (aAN ea eb L p0 i))=_
    rw[hq]
   rw[he] at hp |-;have hl:=List.getElem?_eq_none_iff.1 hq;have:=(List.getElem?_eq_some_iff.1 hp).1;exact aGo i j (by omega) hp x hx h1 h2
 |some q=>
   have he:=aCw hq;rcases Nat.lt_or_ge j i with hji|hji
   .have hl:=(List.getElem?_eq_some_iff.1 hq).1
    have hp':(aAN ea eb L p0 i)[j]?=some p:=by
     obtain⟨t,ht⟩:=aIo ea eb L p0 i;rw[<- ht,List.getElem?_append_left (by omega)] at hp;exact hp
    exact(aIo ea eb L p0 i).subset (aGo i j hji hp' x hx h1 h2)
   .obtain rfl:j=i:=by omega
    have hp':=aAO (aIo ea eb L p0 j) hq;rw[hp] at hp';injection hp' with hp'
    subst hp';rw[he];exact aHM L x hx h1 h2
theorem aCn{r r' sa sb:Int}{ea eb:List Ed}(L:List Int)(hga:IsGr r sa ea)(hgb:IsGr r' sb eb){p0:Int × Int}(h0:PIn sa sb p0):aHl ea eb L (aAf ea eb L p0):=by
 intro p hp x hx h1 h2;obtain⟨j,hj⟩:=List.mem_iff_getElem?.1 hp;have hl:=aEi L hga hgb h0;have:=(List.getElem?_eq_some_iff.1 hj).1;exact aGo 1601 j (by omega) hj x hx h1 h2
theorem aKS{ea eb:List Ed}{r:Nat}{P:PS}(hc:aHl ea eb (lets r) P):∀(n:Nat) {e:Ed},e∈aAZ ea eb r P n->n<=P.length->InG r P.length e
|0,e,h,hn=>by simp[aAZ] at h
|n+1,e,h,hn=>by
  have hp:=List.getElem?_eq_getElem (l:=P) (i:=n) (by omega);rw[aCF hp] at h;rcases List.mem_append.1 h with h|h
  .exact aKS hc n h (by omega)
  .simp only[aCD,List.mem_filterMap,List.mem_range] at h
   obtain⟨j,hj,he⟩:=h;unfold aRf at he;split at he
   .cases he
   .rename_i hcc
    injection he with he
    subst he;have hm:=hc P[n] (List.getElem_mem _) ((j:Int)+1) (aBz.2 ⟨by omega,by omega,by omega⟩) (fun h=>hcc (.inl h)) (fun h=>hcc (.inr h));have hi:=List.idxOf_lt_length_iff.2 hm;unfold InG;simp only;omega
def aCV(r:Int)(es es':List Ed)(u v:Int):List Ed:=canon (aAZ es es' r.toNat (aAf es es' (lets r.toNat) (u,v)) (aAf es es' (lets r.toNat) (u,v)).length)
theorem aJa{r s:Int}{es:List Ed}{r' s':Int}{es':List Ed}{u v:Int}(h:PullOk r s es r' s' es' u v):IsGr r ((aAf es es' (lets r.toNat) (u,v)).length:Int) (aCV r es es' u v):=by
 have hr:=h.f1.gr.rank;have h0:0<(aAf es es' (lets r.toNat) (u,v)).length:=aOs es es' (lets r.toNat) (u,v) 1601;have hsz:=h.sz;refine⟨hr,⟨by omega,by omega⟩,?_,?_,aCP _⟩
 .have h1:=aDm (aAZ es es' r.toNat (aAf es es' (lets r.toNat) (u,v)) (aAf es es' (lets r.toNat) (u,v)).length)
  have:=h.ln;unfold aCV;omega
 intro e he;have hi:=aKS (aCn (lets r.toNat) h.f1.gr h.f2.gr h.pin) _ (aBD.1 he) oN;rw[show((r.toNat:Nat):Int)=r by omega] at hi;exact hi
def PullIs(r s:Int)(es:List Ed)(r' s':Int)(es':List Ed)(u v:Int)(rr rs:Int)(res:List Ed)(b:Bool):Prop:=
 (b=true/\PullOk r s es r' s' es' u v/\rr=r/\rs=((aAf es es' (lets r.toNat) (u,v)).length:Int)/\res=aCV r es es' u v) \/ (b=false/\¬ PullOk r s es r' s' es' u v/\rr=0/\rs=0/\res=[])
theorem PullIs.no{r s:Int}{es:List Ed}{r' s':Int}{es':List Ed}{u v:Int}{rr rs:Int}{res:List Ed}{b:Bool}(h:PullIs r s es r' s' es' u v rr rs res b)(hn:¬ PullOk r s es r' s' es' u v):b=false/\rr=0/\rs=0/\res=[]:=by
 rcases h with⟨-,h, -⟩|⟨h1, -,h2⟩
 .exact absurd h hn
 exact⟨h1,h2⟩
theorem PullIs.yes{r s:Int}{es:List Ed}{r' s':Int}{es':List Ed}{u v:Int}{rr rs:Int}{res:List Ed}{b:Bool}(h:PullIs r s es r' s' es' u v rr rs res b)(hn:PullOk r s es r' s' es' u v):b=true/\rr=r/\rs=((aAf es es' (lets r.toNat) (u,v)).length:Int)/\res=aCV r es es' u v:=by
 rcases h with⟨h1, -,h2⟩|⟨-,h, -⟩
 .exact⟨h1,h2⟩
 exact absurd hn h
section
open Go.RowKit
open Go.Maps (Keyed)
theorem aFG{x:Int}(h1:-1048577<=x)(h2:x<=1048577):(Lit.int .i64 x).wf=true:=by
 have e1:IntKind.min .i64 = -9223372036854775808:=by decide
 have e2:IntKind.max .i64=9223372036854775807:=by decide
 simp only[Lit.wf,e1,e2,Bool.and_eq_true,decide_eq_true_eq];omega
theorem aSL:Tryz.prog.underlying 133=some (.array 2 3):=by kernel_rfl
theorem aTZ:Tryz.prog.underlying 134=some (.map 133 3):=by kernel_rfl
theorem aVj:Tryz.prog.underlying 135=some (.slice 133):=by kernel_rfl
theorem aUu:(Tryz.prog.info? 133).map (fun i=>(i.zero,i.size,i.bytes))=some (some (.agg #[.int .i64 0,.int .i64 0]),2,16):=by kernel_rfl
theorem aVc:laidOutB Tryz.prog=true:=by kernel_rfl
theorem aVt:(133:TypeId)<Tryz.prog.types.size:=of_decide_eq_true (by kernel_rfl)
theorem aVk:(match Tryz.prog.underlying 133 with|some (.array _ _)|some (.struct _)=>true|_=>false)=true:=by rw[aSL]
theorem aLR:Keyed Tryz.prog 133:=Keyed.of_law (deep_law_laid aVc (m:=2) (by omega) aVt (by kernel_rfl) aVk)
theorem aVl(w:World):(zeroValue 3).run Tryz.prog w=.ok (.int .i64 0) w:=by kernel_rfl
theorem aSR:Tryz.prog.cellsOf 133=2:=by kernel_rfl
theorem aTm:Tryz.prog.cellsOf 3=1:=by kernel_rfl
theorem aVb:Tryz.prog.keyType 133=true:=by kernel_rfl
theorem aSA{n:Nat}(h:0<n):∃ m,n=m+1:=⟨n - 1,by omega⟩
theorem aVd:∃ m,Tryz.prog.types.size=m+1:=aSA (of_decide_eq_true (by kernel_rfl))
def aGV(p:Int × Int):Value:=.agg #[.int .i64 p.1,.int .i64 p.2]
def aBa(p:Int × Int):Prop:=(Lit.int .i64 p.1).wf=true/\(Lit.int .i64 p.2).wf=true
theorem aSz{p:Int × Int}(h:aBa p):∃ l,keyOf Tryz.prog 133 (aGV p)=some l:=by
 obtain⟨a,b⟩:=p;obtain⟨h1,h2⟩:=h;simp only at h1 h2;have hf:(aGV (a,b)).formed Tryz.prog 133=true:=by simp[aGV,Value.formed,aSL,aSR]
 obtain⟨m,hm⟩:=aVd;have e1:∀ x:Int,(Lit.int .i64 x).wf=true->Tryz.prog.keyLits (m+1) 3 [.int .i64 x]=some [.int .i64 x]:=fun x hx=>by simp[Program.keyLits,aUS,hx]
 have hk:Tryz.prog.keyLits (m+1+1) 133 (aGV (a,b)).cells.toList=some [.int .i64 a,.int .i64 b]:=by
  unfold Program.keyLits;rw[aSL];simp only[aGV,Value.cells,aSR,aTm];simp[List.range,List.range.loop,e1 a h1,e1 b h2]
 unfold keyOf;rw[aSL];simp only[aVb,hf,Bool.and_self,if_true,hm,hk];exact⟨_,rfl⟩
theorem aIl:∃ kf:Int × Int->Lit,(∀ p,aBa p->keyOf Tryz.prog 133 (aGV p)=some (kf p))/\(∀ p,aBa p->WideAt.IsKeyLit (kf p))/\∀ p q,aBa p->aBa q->kf p=kf q->p=q:=by
 have h0:∀ p:Int × Int,∃ l,aBa p->keyOf Tryz.prog 133 (aGV p)=some l:=fun p=>by
  by_cases hp:aBa p
  .obtain⟨l,hl⟩:=aSz hp
   exact⟨l,fun _=>hl⟩
  .exact⟨.int .i64 0,fun h=>absurd h hp⟩
 obtain⟨kf,hkf⟩:=Classical.axiomOfChoice h0;refine⟨kf,hkf,fun p hp=>aLR.key (hkf p hp),fun p q hp hq h=>?_⟩;have h1:=hkf p hp;have h2:=hkf q hq;rw[<- h] at h2;have h3:=aLR.inj h1 h2;obtain⟨a,b⟩:=p;obtain⟨c,d⟩:=q;simp only[aGV,Value.agg.injEq] at h3;simp at h3;rw[h3.1,h3.2]
noncomputable def pairK:Int × Int->Lit:=Classical.choose aIl
theorem aKQ{p:Int × Int}(h:aBa p):keyOf Tryz.prog 133 (aGV p)=some (pairK p):=(Classical.choose_spec aIl).1 p h
theorem aRb:∀ p,aBa p->WideAt.IsKeyLit (pairK p):=(Classical.choose_spec aIl).2.1
theorem aRa{p q:Int × Int}(hp:aBa p)(hq:aBa q)(h:pairK p=pairK q):p=q:=(Classical.choose_spec aIl).2.2 p q hp hq h
def PMap(w:World)(b:Nat)(st:PS):Prop:=∃ D:DataW Unit,w.ownsMap Tryz.prog 133 (plainElem Tryz.prog 3) b st.length D /\
 (∀ p,aBa p->Maps.has D (pairK p)=decide (p∈st))/\∀ p,aBa p->p∈st->D.atKey (pairK p) (.lit (.int .i64 0))=.lit (.int .i64 (st.idxOf p:Nat))
theorem PMap.lt{w:World}{b:Nat}{st:PS}(h:PMap w b st):b<w.heap.size:=by
 obtain⟨D,h, -⟩:=h;exact h.lt
theorem PMap.made(w:World):PMap (w.alloc (.map #[] 0)) w.heap.size []:=
 ⟨.map [],World.ownsMap_made w _ _ _,fun p hp=>by simp[Maps.has],fun p hp h=>by simp at h⟩
theorem PMap.mid{w w':World}{b lo hi:Nat}{st:PS}(h:PMap w b st)(m:Mid lo hi w w')(hd:b<lo \/ hi<=b):PMap w' b st:=by
 obtain⟨D,h,h2⟩:=h;have hlt:=h.lt;obtain⟨es,clock,hb,F,hs,hD⟩:=h;exact⟨D,⟨es,clock,(m.block b hlt (by omega)).trans hb,F,hs,hD⟩,h2⟩
theorem aLK{st:PS}{p:Int × Int}(h:p ∉ st):(st++[p]).idxOf p=st.length:=by
 rw[List.idxOf_append,if_neg h];simp
theorem aQs{st:PS}{p q:Int × Int}(h:q∈st):(st++[p]).idxOf q=st.idxOf q:=by
 rw[List.idxOf_append,if_pos h]
theorem aTO{kf:Int × Int->Lit}(hkey:∀ q,aBa q->WideAt.IsKeyLit (kf q))(hinj:∀ p q,aBa p->aBa q->kf p=kf q->p=q){st:PS}{D:DataW Unit}{p:Int × Int}(hD:Maps.IsMap D)(h1:∀ q,aBa q->Maps.has D (kf q)=decide (q∈st))(h2:∀ q,aBa q->q∈st->D.atKey (kf q) (.lit (.int .i64 0))=.lit (.int .i64 (st.idxOf q:Nat)))(hp:aBa p)(hn:p ∉ st):(∀ q,aBa q->Maps.has (D.put (kf p) (.lit (.int .i64 (st.length:Nat)))) (kf q)=decide (q∈st++[p]))/\∀ q,aBa q->q∈st++[p]->(D.put (kf p) (.lit (.int .i64 (st.length:Nat)))).atKey (kf q) (.lit (.int .i64 0))=.lit (.int .i64 ((st++[p]).idxOf q:Nat)):=by
 refine⟨fun q hq=>?_,fun q hq hm=>?_⟩
 .by_cases he:q=p
  .subst he
   rw[Maps.has_put_same hD (hkey q hq)];simp
  rw[Maps.has_put_other (fun h=>he (hinj q p hq hp h)),h1 q hq];simp[he]
 by_cases he:q=p
 .subst he
  rw[Maps.atKey_put_same hD (hkey q hq),aLK hn]
 have hm2:q∈st:=by
  rcases List.mem_append.1 hm with h|h
  .exact h
  simp at h;exact absurd h he
 rw[Maps.atKey_put_other (fun h=>he (hinj q p hq hp h)),h2 q hq hm2,aQs hm2]
theorem PMap.put{w':World}{b:Nat}{st:PS}{D:DataW Unit}{p:Int × Int}(hD:Maps.IsMap D)(h1:∀ q,aBa q->Maps.has D (pairK q)=decide (q∈st))(h2:∀ q,aBa q->q∈st->D.atKey (pairK q) (.lit (.int .i64 0))=.lit (.int .i64 (st.idxOf q:Nat)))(hp:aBa p)(hn:p ∉ st)(h:w'.ownsMap Tryz.prog 133 (plainElem Tryz.prog 3) b (st.length+1) (D.put (pairK p) (.lit (.int .i64 (st.length:Nat))))):PMap w' b (st++[p]):=by
 have hl:=aTO (kf:=pairK) aRb (fun _ _=>aRa) hD h1 h2 hp hn;exact⟨_,by rw[List.length_append];exact h,hl.1,hl.2⟩
section
variable {w:World} {ops:Array Oper} {rest:List Oper} {o:Oper} {a:Act} {Q:Exit->Act->World->Prop} {b:Nat} {st:PS}
theorem aHi(hg:o.guard=none)(m x:Operand)(hop:o.op=Op.lookup 134 m x true)(hm:a.eval m=.map (some b))(h:PMap w b st)(p:Int × Int)(hp:aBa p)(hx:a.eval x=aGV p)(hK:∀ c:Int,(p∈st->c=(st.idxOf p:Nat))->wpList Tryz.prog ops Q rest (a.put o.dst (.tuple #[.int .i64 c,.bool (decide (p∈st))])) w):wpList Tryz.prog ops Q (o::rest) a w:=by
 obtain⟨D,h,h1,h2⟩:=h;refine wpList_lookup_own_ok_int w hg m x _ hop 133 3 .i64 aLR aTZ aUS (aVl w) b st.length D hm h _ (pairK p) hx (aKQ hp) ?_;intro c hat hwc;rw[h1 p hp];refine hK c fun hmem=>?_;have:=h2 p hp hmem;rw[hat] at this
 simpa using this
theorem aFY(hg:o.guard=none)(m x:Operand)(hop:o.op=Op.lookup 134 m x true)(hm:a.eval m=.map (some b))(h:PMap w b st)(p:Int × Int)(hp:aBa p)(hmem:p∈st)(k:Nat)(hk:st.idxOf p=k)(hx:a.eval x=aGV p)(hK:wpList Tryz.prog ops Q rest (a.put o.dst (.tuple #[.int .i64 (k:Nat),.bool true])) w):wpList Tryz.prog ops Q (o::rest) a w:=by
 refine aHi hg m x hop hm h p hp hx fun c hc=>?_;rw[hc hmem,decide_eq_true hmem,hk];exact hK
theorem aFX(hg:o.guard=none)(m x:Operand)(hop:o.op=Op.lookup 134 m x true)(hm:a.eval m=.map (some b))(h:PMap w b st)(p:Int × Int)(hp:aBa p)(hmem:p ∉ st)(hx:a.eval x=aGV p)(hK:∀ c:Int,wpList Tryz.prog ops Q rest (a.put o.dst (.tuple #[.int .i64 c,.bool false])) w):wpList Tryz.prog ops Q (o::rest) a w:=by
 refine aHi hg m x hop hm h p hp hx fun c hc=>?_;rw[decide_eq_false hmem];exact hK c
theorem aHQ(hg:o.guard=none)(m x v:Operand)(hop:o.op=Op.mapUpdate 134 m x v)(hm:a.eval m=.map (some b))(h:PMap w b st)(p:Int × Int)(hp:aBa p)(hn:p ∉ st)(n:Nat)(hsn:st.length=n)(hl:n<=1048576)(hx:a.eval x=aGV p)(hv:a.eval v=.int .i64 (n:Nat))(hK:∀ w',PMap w' b (st++[p])->Mid b (b+1) w w'->wpList Tryz.prog ops Q rest (a.put o.dst undef) w'):wpList Tryz.prog ops Q (o::rest) a w:=by
 subst hsn;obtain⟨D,h,h1,h2⟩:=h;have hwf:(Lit.int .i64 (st.length:Nat)).wf=true:=aFG (by omega) (by omega);refine wpList_mapUpdate_own w hg m x v _ hop 133 3 aLR aTZ (plainElem Tryz.prog 3) b st.length D hm h (by unfold maxLen;omega) _ _ (pairK p) hx hv (aKQ hp) _ [] (plainElem_int aUS hwf) ?_;intro w' h3 h4;exact hK w' (PMap.put h.isMap h1 h2 hp hn h3) (Mid.of_grown h4 (fun g hg=>by injection hg with hg;omega))
theorem aMA(hg:o.guard=none)(m x v:Operand)(hop:o.op=Op.insert 134 m x v)(hm:a.eval m=.map (some b))(h:PMap w b st)(p:Int × Int)(hp:aBa p)(hn:p ∉ st)(n:Nat)(hsn:st.length=n)(hl:n<=1048576)(hx:a.eval x=aGV p)(hv:a.eval v=.int .i64 (n:Nat))(hK:∀ w',PMap w' b (st++[p])->Mid b (b+1) w w'->wpList Tryz.prog ops Q rest (a.put o.dst undef) w'):wpList Tryz.prog ops Q (o::rest) a w:=by
 subst hsn;obtain⟨D,h,h1,h2⟩:=h;have hwf:(Lit.int .i64 (st.length:Nat)).wf=true:=aFG (by omega) (by omega);have hD:=h.isMap;refine wpList_plain hg fun K' hK'=>?_;obtain⟨w',hrun,r1,r2⟩:=h.update aLR aTZ (by unfold maxLen;omega) (aKQ hp) (plainElem_int aUS hwf);unfold Oper.wp;simp[execOp,hop,hm,hx,hv,hrun,Result.andThen];exact hK' _ _ (hK w' (PMap.put hD h1 h2 hp hn r1) (Mid.of_grown r2 (fun g hg=>by injection hg with hg;omega)))
end
end
end Go.Proofs.YtkimajabegojoaaGreat
namespace Go.Proofs
open Go.Shelf
def Tryz.lays215_ren:Go.Shelf.Ren:=⟨fun|215=>296|n=>n,fun|3=>3|4=>4|n=>n,fun|n=>n⟩
theorem Tryz.lays215:Go.Proofs.Lays.n215 Tryz.prog Tryz.lays215_ren:={
 mixed:=by kernel_rfl
 f215:=Tryz.func296.trans (congrArg some (by kernel_rfl))
 t3:=Tryz.underlying3
 a3:=Tryz.isAgg3
 z3:=Tryz.sizeOf3
 v3:=Tryz.zeroValue3
 t4:=Tryz.underlying4
 a4:=Tryz.isAgg4
 z4:=Tryz.sizeOf4
 v4:=Tryz.zeroValue4 }
def Tryz.lays189_ren:Go.Shelf.Ren:=⟨fun|189=>248|125=>251|257=>262|128=>271|129=>272|294=>278|295=>279|296=>280|297=>281|298=>282|299=>283|216=>284|300=>285|301=>286|328=>293|329=>288|330=>289|331=>294|332=>295|215=>296|343=>298|n=>n,fun|28=>44|3=>3|46=>187|0=>0|51=>209|53=>211|4=>4|183=>203|182=>202|131=>127|5=>5|9=>9|218=>221|222=>225|228=>231|229=>165|n=>n,fun|n=>n⟩
theorem Tryz.lays189:Go.Proofs.Lays.n189 Tryz.prog Tryz.lays189_ren:={
 mixed:=by kernel_rfl
 f125:=Tryz.func251.trans (congrArg some (by kernel_rfl))
 f128:=Tryz.func271.trans (congrArg some (by kernel_rfl))
 f129:=Tryz.func272.trans (congrArg some (by kernel_rfl))
 f189:=Tryz.func248.trans (congrArg some (by kernel_rfl))
 f215:=Tryz.func296.trans (congrArg some (by kernel_rfl))
 f216:=Tryz.func284.trans (congrArg some (by kernel_rfl))
 f257:=Tryz.func262.trans (congrArg some (by kernel_rfl))
 f294:=Tryz.func278.trans (congrArg some (by kernel_rfl))
 f295:=Tryz.func279.trans (congrArg some (by kernel_rfl))
 f296:=Tryz.func280.trans (congrArg some (by kernel_rfl))
 f297:=Tryz.func281.trans (congrArg some (by kernel_rfl))
 f298:=Tryz.func282.trans (congrArg some (by kernel_rfl))
 f299:=Tryz.func283.trans (congrArg some (by kernel_rfl))
 f300:=Tryz.func285.trans (congrArg some (by kernel_rfl))
 f301:=Tryz.func286.trans (congrArg some (by kernel_rfl))
 f328:=Tryz.func293.trans (congrArg some (by kernel_rfl))
 f329:=Tryz.func288.trans (congrArg some (by kernel_rfl))
 f330:=Tryz.func289.trans (congrArg some (by kernel_rfl))
 f331:=Tryz.func294.trans (congrArg some (by kernel_rfl))
 f332:=Tryz.func295.trans (congrArg some (by kernel_rfl))
 f343:=Tryz.func298.trans (congrArg some (by kernel_rfl))
 t0:=Tryz.underlying0
 a0:=Tryz.isAgg0
 z0:=Tryz.sizeOf0
 v0:=Tryz.zeroValue0
 t3:=Tryz.underlying3
 a3:=Tryz.isAgg3
 z3:=Tryz.sizeOf3
 v3:=Tryz.zeroValue3
 t4:=Tryz.underlying4
 a4:=Tryz.isAgg4
 z4:=Tryz.sizeOf4
 v4:=Tryz.zeroValue4
 t5:=Tryz.underlying5
 a5:=Tryz.isAgg5
 z5:=Tryz.sizeOf5
 v5:=Tryz.zeroValue5
 t9:=Tryz.underlying9
 a9:=Tryz.isAgg9
 z9:=Tryz.sizeOf9
 v9:=Tryz.zeroValue9
 t28:=Tryz.underlying44
 a28:=Tryz.isAgg44
 z28:=Tryz.sizeOf44
 v28:=Tryz.zeroValue44
 t46:=Tryz.underlying187
 a46:=Tryz.isAgg187
 z46:=Tryz.sizeOf187
 v46:=Tryz.zeroValue187
 t51:=Tryz.underlying209
 a51:=Tryz.isAgg209
 z51:=Tryz.sizeOf209
 v51:=Tryz.zeroValue209
 t53:=Tryz.underlying211
 a53:=Tryz.isAgg211
 z53:=Tryz.sizeOf211
 v53:=Tryz.zeroValue211
 t131:=Tryz.underlying127
 a131:=Tryz.isAgg127
 z131:=Tryz.sizeOf127
 v131:=Tryz.zeroValue127
 t182:=Tryz.underlying202
 a182:=Tryz.isAgg202
 z182:=Tryz.sizeOf202
 v182:=Tryz.zeroValue202
 t183:=Tryz.underlying203
 a183:=Tryz.isAgg203
 z183:=Tryz.sizeOf203
 v183:=Tryz.zeroValue203
 t218:=Tryz.underlying221
 a218:=Tryz.isAgg221
 z218:=Tryz.sizeOf221
 v218:=Tryz.zeroValue221
 t222:=Tryz.underlying225
 a222:=Tryz.isAgg225
 z222:=Tryz.sizeOf225
 v222:=Tryz.zeroValue225
 t228:=Tryz.underlying231
 a228:=Tryz.isAgg231
 z228:=Tryz.sizeOf231
 v228:=Tryz.zeroValue231
 t229:=Tryz.underlying165
 a229:=Tryz.isAgg165
 z229:=Tryz.sizeOf165
 v229:=Tryz.zeroValue165 }
open Go.Sort Go.RowKit in
theorem Tryz.slices_Sort_int(blk off cap:Nat)(zs:List Int)(w:World)(hH:Holds (Value.int .i64) w blk off zs.toArray)(hblk:blk<w.heap.size)(hsz:zs.length<4611686018427387904) :
  Calls Tryz.prog 248 #[.slice (some ⟨blk,off,none⟩) zs.length cap] w fun e w'=>
   e=.returned (.tuple #[])/\∃ n os,w'=grow (putRow (Value.int .i64) (Sort.ahead w n) blk off (zs.mergeSort fun x y=>decide (x<=y)).toArray) os:=Any.slices_Sort_int Tryz.lays189 blk off cap zs w hH hblk hsz
def Tryz.laysNm220_ren:Go.Shelf.Ren:=⟨fun|20=>249|n=>n,fun|22=>44|3=>3|4=>4|0=>0|n=>n,fun|n=>n⟩
theorem Tryz.laysNm220:Go.Proofs.Lays2.n20 Tryz.prog Tryz.laysNm220_ren:={
 mixed:=by kernel_rfl
 f20:=Tryz.func249.trans (congrArg some (by kernel_rfl))
 t0:=Tryz.underlying0
 a0:=Tryz.isAgg0
 z0:=Tryz.sizeOf0
 v0:=Tryz.zeroValue0
 t3:=Tryz.underlying3
 a3:=Tryz.isAgg3
 z3:=Tryz.sizeOf3
 v3:=Tryz.zeroValue3
 t4:=Tryz.underlying4
 a4:=Tryz.isAgg4
 z4:=Tryz.sizeOf4
 v4:=Tryz.zeroValue4
 t22:=Tryz.underlying44
 a22:=Tryz.isAgg44
 z22:=Tryz.sizeOf44
 v22:=Tryz.zeroValue44
 i3:=by kernel_rfl }
open Go.RowKit Go.Lib Go.Sort in
theorem Tryz.slices_Compact_int_arr(blk off cap:Nat)(d:Array Int)(w:World)(hH:Holds encI w blk off d)(hsz:d.size<=9223372036854775807)(hcap:d.size<=cap) :
  Calls Tryz.prog 249 #[.slice (some ⟨blk,off,none⟩) d.size cap] w fun e w'=>e=.returned (.slice (some ⟨blk,off,none⟩) (compactUpTo d d.size).length cap)/\∃ q,w'=putRow encI (Sort.ahead w q) blk off (compactUpTo d d.size++List.replicate (d.size - (compactUpTo d d.size).length) 0).toArray:=Any.slices_Compact_int_arr Tryz.laysNm220 blk off cap d w hH hsz hcap
open Go.RowKit Go.Lib Go.Sort in
theorem Tryz.slices_Compact_int(blk off cap:Nat)(zs:List Int)(w:World)(hH:Holds (Value.int .i64) w blk off zs.toArray)(hsz:zs.length<=9223372036854775807)(hcap:zs.length<=cap) :
  Calls Tryz.prog 249 #[.slice (some ⟨blk,off,none⟩) zs.length cap] w fun e w'=>e=.returned (.slice (some ⟨blk,off,none⟩) (Lib.compact zs).length cap)/\∃ q,w'=putRow (Value.int .i64) (Sort.ahead w q) blk off (Lib.compact zs++List.replicate (zs.length - (Lib.compact zs).length) 0).toArray:=Any.slices_Compact_int Tryz.laysNm220 blk off cap zs w hH hsz hcap
open Go.RowKit Go.Lib Go.Sort in
theorem Tryz.slices_Compact_int_empty(a:Option Addr)(cap:Nat)(w:World) :
  Calls Tryz.prog 249 #[.slice a 0 cap] w fun e w'=>e=.returned (.slice a 0 cap)/\w'=w:=Any.slices_Compact_int_empty Tryz.laysNm220 a cap w
open Go.RowKit Go.Lib Go.Sort in
theorem Tryz.slices_Compact_int_cells(b off n c:Nat)(zs:List Int)(w:World)(hz:n<=zs.length)(hbig:n<=9223372036854775807)(hcap:n<=c)(hc:∀ j,j<zs.length->w.cell? ⟨b,off+j,none⟩=some (.int .i64 (zs.getD j 0)))(hf:∀ j,j<n->w.frozen? ⟨b,off+j,none⟩=false) :
  Calls Tryz.prog 249 #[.slice (some ⟨b,off,none⟩) n c] w fun e w'=>e=.returned (.slice (some ⟨b,off,none⟩) (Lib.compact (zs.take n)).length c)/\∃ q,w'=(w.drewN q).setCells b off ((Lib.compact (zs.take n)++List.replicate (n - (Lib.compact (zs.take n)).length) 0).map (Value.int .i64)):=Any.slices_Compact_int_cells Tryz.laysNm220 b off n c zs w hz hbig hcap hc hf
open Go.RowKit Go.Sort in
theorem Tryz.slices_Sort_int_none(p:Option Addr)(cap:Nat)(w:World) :
  Calls Tryz.prog 248 #[.slice p 0 cap] w fun e w'=>e=.returned (.tuple #[])/\w'=w:=Any.slices_Sort_int_none Tryz.lays189 p cap w
end Go.Proofs
namespace Go.Proofs.YtkimajabegojoaaGreat
set_option linter.unusedVariables false
set_option linter.unusedSimpArgs false
set_option maxHeartbeats 40000000
set_option maxRecDepth 100000
open Go.RowKit
def inB(x lo hi:Int):Bool:=decide (lo<=x) && decide (x<=hi)
theorem aCK(x lo hi:Int)(w:World) :
  Calls Tryz.prog 108 #[.int .i64 x,.int .i64 lo,.int .i64 hi] w fun e w'=>e=.returned (.bool (inB x lo hi))/\w=w':=by
 go_enter Tryz.func108,Tryz.ntmps108
 go_wp2_with fail;all_goals
  go_ret;exact⟨by simp[inB];omega,rfl⟩
theorem aCM(x lo hi:Int)(w:World) :
  Calls Tryz.prog 102 #[.int .i64 x,.int .i64 lo,.int .i64 hi] w fun e w'=>e=.returned (.bool (inB x lo hi))/\w=w':=by
 go_enter Tryz.func102,Tryz.ntmps102
 go_wp2_with fail;all_goals
  go_ret;exact⟨by simp[inB];omega,rfl⟩
section
open Go.RowKit Go.Sort
theorem aTP{w:World}{g n:Nat}{d:Array Int}{os:Array Obj}:w.grownBy (grow (putRow (Value.int .i64) (Sort.ahead w n) g 0 d) os) (some g):=by
 refine⟨rfl,rfl,rfl,by simp,fun k hk hne=>?_⟩;rw[heap_grow_old _ _ (by simpa using hk)];have:g≠k:=fun e=>hne (by rw[e]);simp[putRow,mapBlock,Sort.ahead,Array.getElem?_modify,this]
theorem aQX{w:World}{base:Nat}{e:TypeId}{size:Nat}{v:Value}{n:Nat}{xs:List Value}(h:w.ownsRow base e size v n xs)(os:Array Obj):(grow w os).ownsRow base e size v n xs:=by
 refine⟨h.1,?_⟩;rcases h.2 with hn|⟨g,cap,cur,rfl,hb,hh,rest⟩
 .exact .inl hn
 refine .inr ⟨g,cap,cur,rfl,hb,?_,rest⟩;rw[heap_grow_old _ _ (Array.getElem?_eq_some_iff.1 hh).1];exact hh
abbrev aUd(w:World)(lo hi:Nat)(A:Option Addr)(c:Nat)(ys:List Int)(e:Ending)(w':World):Prop:=
 e=.returned (.tuple #[])/\w'.ownsRow lo 3 1 (.slice A ys.length c) ys.length (aAd ys)/\w.grownBy w' (Value.ownBlock (.slice A ys.length c))
theorem aVf(A:Option Addr)(xs:List Int)(c:Nat)(w:World)(lo:Nat)(ho:w.ownsRow lo 3 1 (.slice A xs.length c) xs.length (aAd xs))(hl:xs.length<=1048576) :
  Calls Tryz.prog 248 #[.slice A xs.length c] w (aUd w lo 0 A c (xs.mergeSort fun x y=>decide (x<=y))):=by
 by_cases hv:Value.slice A xs.length c=.slice none 0 0
 .injection hv with h1 h2 h3
  obtain rfl:=List.eq_nil_of_length_eq_zero h2;subst h1 h3;exact(Tryz.slices_Sort_int_none none 0 w).mono fun e w' ⟨he,hw⟩=>by
   refine⟨he,?_⟩
   first
   |(subst hw;exact⟨by simpa using ho,World.grownBy.refl _ _⟩)
   |(obtain⟨n,rfl⟩:=hw;exact⟨by simpa using ho,World.grownBy.refl _ _⟩)
 obtain⟨g,cap,he,hb,hg,hn,hm,hz,hH⟩:=Lib.holds_of_ownsRow (enc:=Value.int .i64) (zs:=xs) ho hv;injection he with h1 _ h3
 subst h1 h3;refine(Tryz.slices_Sort_int g 0 c xs w hH hg (by omega)).mono ?_;rintro e w' ⟨he,n,os,rfl⟩;have hlen:(xs.mergeSort fun x y=>decide (x<=y)).length=xs.length:=List.length_mergeSort _;have h2:=Lib.ownsRow_putRow (enc:=Value.int .i64) (q:=n) (k:=xs.length) (ys:=xs.mergeSort fun x y=>decide (x<=y)) ho hlen oN;rw[List.take_of_length_le (by omega)] at h2;refine⟨he,?_,?_⟩
 .rw[hlen]
  exact aQX h2 os
 rw[hlen];exact aTP
end
end Go.Proofs.YtkimajabegojoaaGreat
namespace Go.Proofs
open Go.Shelf
def Tryz.sortEd_ren:Go.Shelf.Ren:=⟨fun|6=>203|15=>251|14=>250|28=>271|29=>272|20=>263|21=>264|22=>265|23=>266|24=>267|25=>268|26=>269|27=>270|46=>287|47=>288|48=>289|49=>290|50=>291|57=>297|n=>n,fun|22=>33|24=>110|25=>168|3=>3|39=>187|0=>0|53=>209|55=>211|4=>4|46=>203|45=>202|50=>127|5=>5|9=>9|66=>221|70=>225|76=>231|77=>165|n=>n,fun|n=>n⟩
theorem Tryz.sortEd:Go.Proofs.SlLaysF0.n6 Tryz.prog Tryz.sortEd_ren:={
 mixed:=by kernel_rfl
 f6:=⟨Tryz.f203.name,by decide,Tryz.func203.trans (congrArg some (by kernel_rfl))⟩
 f14:=⟨Tryz.f250.name,by decide,Tryz.func250.trans (congrArg some (by kernel_rfl))⟩
 f15:=Tryz.func251.trans (congrArg some (by kernel_rfl))
 f20:=⟨Tryz.f263.name,by decide,Tryz.func263.trans (congrArg some (by kernel_rfl))⟩
 f21:=⟨Tryz.f264.name,by decide,Tryz.func264.trans (congrArg some (by kernel_rfl))⟩
 f22:=⟨Tryz.f265.name,by decide,Tryz.func265.trans (congrArg some (by kernel_rfl))⟩
 f23:=⟨Tryz.f266.name,by decide,Tryz.func266.trans (congrArg some (by kernel_rfl))⟩
 f24:=⟨Tryz.f267.name,by decide,Tryz.func267.trans (congrArg some (by kernel_rfl))⟩
 f25:=⟨Tryz.f268.name,by decide,Tryz.func268.trans (congrArg some (by kernel_rfl))⟩
 f26:=⟨Tryz.f269.name,by decide,Tryz.func269.trans (congrArg some (by kernel_rfl))⟩
 f27:=⟨Tryz.f270.name,by decide,Tryz.func270.trans (congrArg some (by kernel_rfl))⟩
 f28:=Tryz.func271.trans (congrArg some (by kernel_rfl))
 f29:=Tryz.func272.trans (congrArg some (by kernel_rfl))
 f46:=⟨Tryz.f287.name,by decide,Tryz.func287.trans (congrArg some (by kernel_rfl))⟩
 f47:=Tryz.func288.trans (congrArg some (by kernel_rfl))
 f48:=Tryz.func289.trans (congrArg some (by kernel_rfl))
 f49:=⟨Tryz.f290.name,by decide,Tryz.func290.trans (congrArg some (by kernel_rfl))⟩
 f50:=⟨Tryz.f291.name,by decide,Tryz.func291.trans (congrArg some (by kernel_rfl))⟩
 f57:=⟨Tryz.f297.name,by decide,Tryz.func297.trans (congrArg some (by kernel_rfl))⟩
 t0:=Tryz.underlying0
 a0:=Tryz.isAgg0
 z0:=Tryz.sizeOf0
 v0:=Tryz.zeroValue0
 t3:=Tryz.underlying3
 a3:=Tryz.isAgg3
 z3:=Tryz.sizeOf3
 v3:=Tryz.zeroValue3
 t4:=Tryz.underlying4
 a4:=Tryz.isAgg4
 z4:=Tryz.sizeOf4
 v4:=Tryz.zeroValue4
 t5:=Tryz.underlying5
 a5:=Tryz.isAgg5
 z5:=Tryz.sizeOf5
 v5:=Tryz.zeroValue5
 t9:=Tryz.underlying9
 a9:=Tryz.isAgg9
 z9:=Tryz.sizeOf9
 v9:=Tryz.zeroValue9
 t22:=Tryz.underlying33
 a22:=Tryz.isAgg33
 z22:=Tryz.sizeOf33
 v22:=Tryz.zeroValue33
 t25:=Tryz.underlying168
 a25:=Tryz.isAgg168
 z25:=Tryz.sizeOf168
 v25:=Tryz.zeroValue168
 t39:=Tryz.underlying187
 a39:=Tryz.isAgg187
 z39:=Tryz.sizeOf187
 v39:=Tryz.zeroValue187
 t45:=Tryz.underlying202
 a45:=Tryz.isAgg202
 z45:=Tryz.sizeOf202
 v45:=Tryz.zeroValue202
 t46:=Tryz.underlying203
 a46:=Tryz.isAgg203
 z46:=Tryz.sizeOf203
 v46:=Tryz.zeroValue203
 t50:=Tryz.underlying127
 a50:=Tryz.isAgg127
 z50:=Tryz.sizeOf127
 v50:=Tryz.zeroValue127
 t53:=Tryz.underlying209
 a53:=Tryz.isAgg209
 z53:=Tryz.sizeOf209
 v53:=Tryz.zeroValue209
 t55:=Tryz.underlying211
 a55:=Tryz.isAgg211
 z55:=Tryz.sizeOf211
 v55:=Tryz.zeroValue211
 t66:=Tryz.underlying221
 a66:=Tryz.isAgg221
 z66:=Tryz.sizeOf221
 v66:=Tryz.zeroValue221
 t70:=Tryz.underlying225
 a70:=Tryz.isAgg225
 z70:=Tryz.sizeOf225
 v70:=Tryz.zeroValue225
 t76:=Tryz.underlying231
 a76:=Tryz.isAgg231
 z76:=Tryz.sizeOf231
 v76:=Tryz.zeroValue231
 t77:=Tryz.underlying165
 a77:=Tryz.isAgg165
 z77:=Tryz.sizeOf165
 v77:=Tryz.zeroValue165 }
def Tryz.indexEd_ren:Go.Shelf.Ren:=⟨fun|6=>261|n=>n,fun|22=>33|24=>110|3=>3|0=>0|4=>4|n=>n,fun|n=>n⟩
theorem Tryz.indexEd:Go.Proofs.SlLaysQ.n6 Tryz.prog Tryz.indexEd_ren:={
 mixed:=by kernel_rfl
 f6:=⟨Tryz.f261.name,by decide,Tryz.func261.trans (congrArg some (by kernel_rfl))⟩
 t0:=Tryz.underlying0
 a0:=Tryz.isAgg0
 z0:=Tryz.sizeOf0
 v0:=Tryz.zeroValue0
 t3:=Tryz.underlying3
 a3:=Tryz.isAgg3
 z3:=Tryz.sizeOf3
 v3:=Tryz.zeroValue3
 t4:=Tryz.underlying4
 a4:=Tryz.isAgg4
 z4:=Tryz.sizeOf4
 v4:=Tryz.zeroValue4
 t22:=Tryz.underlying33
 a22:=Tryz.isAgg33
 z22:=Tryz.sizeOf33
 v22:=Tryz.zeroValue33 }
def Tryz.containsEd_ren:Go.Shelf.Ren:=⟨fun|7=>245|6=>261|n=>n,fun|22=>33|24=>110|4=>4|0=>0|3=>3|n=>n,fun|n=>n⟩
theorem Tryz.containsEd:Go.Proofs.SlLaysQ.n7 Tryz.prog Tryz.containsEd_ren:={
 mixed:=by kernel_rfl
 f6:=⟨Tryz.f261.name,by decide,Tryz.func261.trans (congrArg some (by kernel_rfl))⟩
 f7:=⟨Tryz.f245.name,by decide,Tryz.func245.trans (congrArg some (by kernel_rfl))⟩
 t0:=Tryz.underlying0
 a0:=Tryz.isAgg0
 z0:=Tryz.sizeOf0
 v0:=Tryz.zeroValue0
 t3:=Tryz.underlying3
 a3:=Tryz.isAgg3
 z3:=Tryz.sizeOf3
 v3:=Tryz.zeroValue3
 t4:=Tryz.underlying4
 a4:=Tryz.isAgg4
 z4:=Tryz.sizeOf4
 v4:=Tryz.zeroValue4
 t22:=Tryz.underlying33
 a22:=Tryz.isAgg33
 z22:=Tryz.sizeOf33
 v22:=Tryz.zeroValue33 }
def Tryz.equalEd_ren:Go.Shelf.Ren:=⟨fun|8=>236|n=>n,fun|22=>33|24=>110|4=>4|3=>3|0=>0|n=>n,fun|n=>n⟩
theorem Tryz.equalEd:Go.Proofs.SlLaysQ.n8 Tryz.prog Tryz.equalEd_ren:={
 mixed:=by kernel_rfl
 f8:=⟨Tryz.f236.name,by decide,Tryz.func236.trans (congrArg some (by kernel_rfl))⟩
 t0:=Tryz.underlying0
 a0:=Tryz.isAgg0
 z0:=Tryz.sizeOf0
 v0:=Tryz.zeroValue0
 t3:=Tryz.underlying3
 a3:=Tryz.isAgg3
 z3:=Tryz.sizeOf3
 v3:=Tryz.zeroValue3
 t4:=Tryz.underlying4
 a4:=Tryz.isAgg4
 z4:=Tryz.sizeOf4
 v4:=Tryz.zeroValue4
 t22:=Tryz.underlying33
 a22:=Tryz.isAgg33
 z22:=Tryz.sizeOf33
 v22:=Tryz.zeroValue33 }
end Go.Proofs
namespace Go.Proofs.YtkimajabegojoaaGreat
set_option linter.unusedVariables false
set_option linter.unusedSimpArgs false
set_option maxHeartbeats 40000000
set_option maxRecDepth 100000
open Go.RowKit
theorem aJQ:(Tryz.prog.info? 44).map (fun i=>(i.zero,i.size,i.bytes))=some (some (.slice none 0 0),1,24):=by kernel_rfl
theorem aKj:Tryz.prog.underlying 24=some (.slice 44):=by kernel_rfl
def aDR(xss:List (List Int)):Nat:=(xss.map List.length).sum
theorem aJn(a b:List (List Int)):aDR (a++b)=aDR a+aDR b:=by simp[aDR]
theorem aSJ(a:List Int):aDR [a]=a.length:=by simp[aDR]
theorem aBH{xss:List (List Int)}{k:Nat}{xs:List Int}(h:xss[k]?=some xs):aDR (xss.take (k+1))=aDR (xss.take k)+xs.length:=by
 rw[aBv xss h,aJn,aSJ]
theorem aCX(xss:List (List Int))(k:Nat):aDR (xss.take k)<=aDR xss:=by
 have h:=List.take_append_drop k xss;have:=aJn (xss.take k) (xss.drop k);rw[h] at this;omega
theorem aGk{xss:List (List Int)}{xs:List Int}(h:xs∈xss):xs.length<=aDR xss:=by
 obtain⟨k,hk⟩:=List.mem_iff_getElem?.1 h;have h1:=aBH hk;have h2:=aCX xss (k+1);omega
theorem aCs(a b:Int)(w:World)(ha:-9223372036854775808<=a)(ha2:a<=9223372036854775807) :
  Calls Tryz.prog 188 #[.int .i64 a,.int .i64 b] w fun e w'=>e=.returned (.bool (aFf a b))/\w=w':=by
 by_cases h0:a=0
 .subst h0
  go_enter Tryz.func188,Tryz.ntmps188
  go_wp2_with fail;go_ret;exact⟨by simp[aFf],rfl⟩
 by_cases hm:a=aLY
 .have hr:aFf a b=false:=by simp[aFf,hm]
  rw[hr];clear h0 hr;subst hm;unfold aLY;clear ha ha2;go_enter Tryz.func188,Tryz.ntmps188
  go_wp2_with fail;go_ret;exact⟨rfl,rfl⟩
 have hlo:-9223372036854775807<=a:=by unfold aLY at hm;omega
 have hx:(a != 0)=true:=by simpa using h0
 by_cases hb:(b == -a)=true
 .have hr:aFf a b=true:=by simp[aFf,h0,hm];simpa using hb
  rw[hr];clear h0 hm hr;go_enter Tryz.func188,Tryz.ntmps188
  go_wp2_with fail;go_ret;exact⟨by simp;omega,rfl⟩
 have hb':(b == -a)=false:=by simpa using hb
 have hr:aFf a b=false:=by simp[aFf];intro _ _;simpa using hb
 rw[hr];clear h0 hm hr hb;go_enter Tryz.func188,Tryz.ntmps188
 go_wp2_with fail;go_ret;exact⟨rfl,rfl⟩
theorem aDd(rank x:Int)(w:World)(h1:1<=rank)(h3:rank<=3) :
  Calls Tryz.prog 216 #[.int .i64 rank,.int .i64 x] w fun e w'=>e=.returned (.bool (aQC rank x))/\w=w':=by
 by_cases h0:x=0
 .subst h0
  go_enter Tryz.func216,Tryz.ntmps216
  go_wp2_with fail;go_ret;exact⟨by simp[aQC],rfl⟩
 have hx:(x != 0)=true:=by simpa using h0
 have hr:aQC rank x=inB x (-rank) rank:=by simp[aQC,inB,h0]
 rw[hr];clear h0 hr;go_enter Tryz.func216,Tryz.ntmps216
 go_wp2_with fail;with_reducible refine(aCK _ _ _ _).mono ?_
 rintro e w' ⟨rfl,rfl⟩;go_wp2_with fail;go_ret;exact⟨rfl,rfl⟩
theorem aEJ(a b:Int)(w:World) :
  Calls Tryz.prog 113 #[.int .i64 a,.int .i64 b] w fun e w'=>e=.returned (.int .i64 (aFK a b))/\w=w':=by
 by_cases h1:a<b
 .have hr:aFK a b = -1:=by simp[aFK,h1]
  rw[hr];clear hr;go_enter Tryz.func113,Tryz.ntmps113
  go_wp2_with fail;go_ret;exact⟨rfl,rfl⟩
 by_cases h2:b<a
 .have hr:aFK a b=1:=by simp[aFK,h1,h2]
  rw[hr];clear hr;go_enter Tryz.func113,Tryz.ntmps113
  go_wp2_with fail;go_ret;exact⟨rfl,rfl⟩
 have hr:aFK a b=0:=by simp[aFK,h1,h2]
 rw[hr];clear hr;go_enter Tryz.func113,Tryz.ntmps113
 go_wp2_with fail;go_ret;exact⟨rfl,rfl⟩
theorem aIs{x:Int}(h1:-9223372036854775808<=x)(h2:x<=9223372036854775807):wrap64 (-x)=negI x:=by
 unfold negI aLY;by_cases h:x = -9223372036854775808
 .rw[if_pos h,h]
  unfold wrap64;omega
 rw[if_neg h];exact IntWalk.wrap64_in _ ⟨by omega,by omega⟩
theorem aQw(x:Int)(t:List Int):aAx (x::t)=aAx t++[negI x]:=by simp[aAx]
section
open Go.RowKit
theorem aAa{w w':World}{lo hi b i:Nat}{u:Value}(m:Mid lo hi w w')(hb:b<w.heap.size)(hd:b<lo \/ hi<=b)(hc:w.cell? ⟨b,i,none⟩=some u):w'.cell? ⟨b,i,none⟩=some u:=
 (World.cell?_of_block (m.block b hb (by omega))).trans hc
section
variable {P:Program} {w:World}
theorem aTV(base:Nat)(t ty e:TypeId)(z:Value)(size bytes:Nat)(ht:P.underlying t=some (.slice e))(hinfo:(P.info? e).map (fun i=>(i.zero,i.size,i.bytes))=some (some z,size,bytes))(hzs:z.cells.size=size)(hsz:0<size)(v:Value)(n:Nat)(xs:List Value)(hown:w.ownsRow base e size v n xs)(A:Option Addr)(m c B:Nat)(news:List Value)(hr:Rs w B A news)(hl:news.length=m * size)(h1:∀ u∈news,u.oneCell'=true)(h63:n+m<=maxLen)(hbytes:(n+m) * bytes<=140737488355328)(hbase:base<=w.heap.size) :
  ∃ v' w',(Builtin.append_ #[t,t] ty #[v,.slice A m c]).run P w=.ok v' w'/\w'.ownsRow base e size v' (n+m) (xs++news)/\w.grownBy w' v.ownBlock /\
   (v'.ownBlock=v.ownBlock \/ v'.ownBlock=some w.heap.size):=by
 obtain⟨i,hi,hz,hsize,hby⟩:=info_parts hinfo;rcases A with _|ad
 .have hn:news=[]:=by
   cases hne:news with
  |nil=>rfl
  |cons u r=>
    obtain⟨b,off,he,_⟩:=hr (by rw[hne];simp);cases he
  subst hn;have hm:m=0:=by
   rcases Nat.eq_zero_or_pos m with h0|h0
   .exact h0
   have:=Nat.mul_pos h0 hsz;simp at hl;omega
  subst hm;exact⟨v,w,aFn base t ty e i size ht hi v n xs hown c,by simpa using hown,World.grownBy.refl w _,.inl rfl⟩
 have hcells:∀ j u,news[j]?=some u->w.cell? (ad.add j)=some u:=by
  intro j u hu;obtain⟨b,off,he,_,hc⟩:=hr (by intro h0;subst h0;simp at hu);injection he with he
  subst he;rw[Addr.add_lit];exact hc j u hu
 obtain⟨v',w',hrun,h2,h3,_,h5⟩:=run_append_own_at (P:=P) w base t ty e i z size bytes ht hi hz hsize hby hzs hsz v n xs hown ad m c news hl hcells h1 h63 hbytes hbase;exact⟨v',w',hrun,h2,h3,h5⟩
theorem aUP{o:Oper}{a:Act}{K:Act->World->Prop}{Q:Exit->Act->World->Prop}(s x:Operand)(t:TypeId)(ho:o.op=.call { callee:=.builtin .append,args:=#[s,x],argTypes:=#[t,t] })(base:Nat)(e:TypeId)(z:Value)(size bytes:Nat)(ht:P.underlying t=some (.slice e))(hinfo:(P.info? e).map (fun i=>(i.zero,i.size,i.bytes))=some (some z,size,bytes))(hzs:z.cells.size=size)(hsz:0<size)(v:Value)(n:Nat)(xs:List Value)(hs:a.eval s=v)(hown:w.ownsRow base e size v n xs)(A:Option Addr)(m c B:Nat)(news:List Value)(hx:a.eval x=.slice A m c)(hr:Rs w B A news)(hl:news.length=m * size)(h1:∀ u∈news,u.oneCell'=true)(h63:n+m<=maxLen)(hbytes:(n+m) * bytes<=140737488355328)(hbase:base<=w.heap.size)(h:∀ v' w',w'.ownsRow base e size v' (n+m) (xs++news)->w.grownBy w' v.ownBlock->(v'.ownBlock=v.ownBlock \/ v'.ownBlock=some w.heap.size)->K (a.put o.dst v') w'):o.wp P a w K Q:=by
 obtain⟨v',w',hrun,h2,h3,h4⟩:=aTV (P:=P) base t o.type e z size bytes ht hinfo hzs hsz v n xs hown A m c B news hr hl h1 h63 hbytes hbase;unfold Oper.wp execOp;simp only[ho,resolve,invoke,builtin,Sem.run_bind,Sem.run_pure,Result.andThen_ok,List.map_toArray,List.map_cons,List.map_nil,hs,hx,hrun];exact h v' w' h2 h3 h4
theorem aBh{ops:Array Oper}{o:Oper}{a:Act}{K:Act->World->Prop}{Q:Exit->Act->World->Prop}{E:Prop}(hgd:o.guard=none)(s x:Operand)(t:TypeId)(ho:o.op=.call { callee:=.builtin .append,args:=#[s,x],argTypes:=#[t,t] })(base:Nat)(e:TypeId)(z:Value)(size bytes:Nat)(ht:P.underlying t=some (.slice e))(hinfo:(P.info? e).map (fun i=>(i.zero,i.size,i.bytes))=some (some z,size,bytes))(hzs:z.cells.size=size)(hsz:0<size)(v:Value)(n:Nat)(xs:List Value)(hs:a.eval s=v)(hown:w.ownsRow base e size v n xs)(A:Option Addr)(m c B:Nat)(news:List Value)(hx:a.eval x=.slice A m c)(hr:Rs w B A news)(hl:news.length=m * size)(h1:∀ u∈news,u.oneCell'=true)(h63:n+m<=maxLen)(hbytes:(n+m) * bytes<=140737488355328)(hbase:base<=w.heap.size)(h:∀ v' w',w'.ownsRow base e size v' (n+m) (xs++news)->w.grownBy w' v.ownBlock->(v'.ownBlock=v.ownBlock \/ v'.ownBlock=some w.heap.size)->K (a.put o.dst v') w') :
  if Region.wanted o (yielded ops a.tmps)=true then Oper.wp P o a w K Q else E:=by
 have hw:Region.wanted o (yielded ops a.tmps)=true:=by simp[Region.wanted,hgd]
 rw[if_pos hw];exact aUP s x t ho base e z size bytes ht hinfo hzs hsz v n xs hs hown A m c B news hx hr hl h1 h63 hbytes hbase h
end
end
def wg(w:World)(m:Nat)(os:Array Obj):World:={ w with heap:=w.heap++os,drawn:=m }
structure GB where
 n:Nat
 os:Array Obj
 deriving Inhabited
theorem Mid.ofWg(w:World)(m:Nat)(os:Array Obj):Mid 0 0 w (wg w m os):=
 ⟨rfl,rfl,rfl,by simp[wg],fun k hk _=>by simp[wg,Array.getElem?_append,hk]⟩
theorem Mid.toWg{w w':World}(h:Mid 0 0 w w'):∃ p:GB,w'=wg w p.n p.os:=by
 refine⟨⟨w'.drawn,w'.heap.extract w.heap.size w'.heap.size⟩,?_⟩;have hh:w'.heap=w.heap++w'.heap.extract w.heap.size w'.heap.size:=by
  apply Array.ext_getElem?;intro k;by_cases hk:k<w.heap.size
  .rw[Array.getElem?_append_left hk]
   exact h.block k hk (by omega)
  rw[Array.getElem?_append_right (by omega),Array.getElem?_extract];have hs:=h.size;by_cases hk2:k<w'.heap.size
  .rw[if_pos (by omega),show w.heap.size+(k - w.heap.size)=k by omega]
  rw[if_neg (by omega),Array.getElem?_eq_none (by omega)]
 have h1:=h.os;have h2:=h.tape;have h3:=h.output;cases w'
 cases w
 simp only[wg] at *;subst h1 h2 h3
 congr 1
theorem aAb{w:World}{a:Addr}{v:Value}(hb:a.block<w.heap.size)(h:w.cell? a=some v)(n:Nat)(os:Array Obj):(wg w n os).cell? a=some v:=
 (World.cell?_of_block ((Mid.ofWg w n os).block a.block hb (by omega))).trans h
theorem aRI(w:World)(n:Nat)(os:Array Obj):(wg w n os).heap.size=w.heap.size+os.size:=by simp[wg]
theorem aHk{P:Program}{id:Nat}{Q:Exit->Act->World->Prop}{a:Act}{w:World}{l:List Oper}(hm:P.follows .mixedOrders=true)(hB:Region.lexB .any l.toArray=true)(h:wpQuiet P l.toArray (fun w'=>∃ p:GB,w'=wg w p.n p.os) (fun a'=>∀ w',(∃ p:GB,w'=wg w p.n p.os)->Q .normal a' w') l a):(Code.region id l.toArray true).wp P Q a w:=
 wp_region_quiet (C:=fun w'=>∃ p:GB,w'=wg w p.n p.os) hm hB (Mid.drew1 w).toWg (by simpa using h)
theorem Calls.wg_of{P:Program}{f:FuncId}{args:Array Value}{w:World}{n:Nat}{os:Array Obj}{v:Value}(h:Calls P f args (wg w n os) fun e w'=>e=.returned v/\Mid 0 0 (wg w n os) w'):Calls P f args (wg w n os) fun e w''=>e=.returned v/\∃ p:GB,w''=wg w p.n p.os:=
 h.mono fun _ _ ⟨he,hm⟩=>⟨he,((Mid.ofWg w n os).trans hm).toWg⟩
theorem Calls.wg_same{P:Program}{f:FuncId}{args:Array Value}{w:World}{n:Nat}{os:Array Obj}{v:Value}(h:Calls P f args (wg w n os) fun e w'=>e=.returned v/\wg w n os=w'):Calls P f args (wg w n os) fun e w''=>e=.returned v/\∃ p:GB,w''=wg w p.n p.os:=
 h.mono fun _ _ ⟨he,hm⟩=>⟨he,⟨n,os⟩,hm.symm⟩
theorem wqg{P:Program}{id:Nat}{Q:Exit->Act->World->Prop}{a:Act}{w:World}{l:List Oper}(h:wpQuiet P l.toArray (fun w'=>∃ p:GB,w'=wg w p.n p.os) (fun a'=>∀ w',(∃ p:GB,w'=wg w p.n p.os)->Q .normal a' w') l a)(hm:P.follows .mixedOrders=true:=by kernel_rfl)(hB:Region.lexB .any l.toArray=true:=by kernel_rfl):(Code.region id l.toArray true).wp P Q a w:=aHk hm hB h
abbrev Ed.v(e:Ed):Value:=.agg #[.int .i64 e.a,.int .i64 e.l,.int .i64 e.b]
def edB(r s:Int)(e:Ed):Bool:=inB e.a 0 (wrap64 (s - 1)) && inB e.b 0 (wrap64 (s - 1)) && inB e.l 1 r
theorem RV.ed{w:World}{lo hi:Nat}{A:Option Addr}{es:List Ed}{k:Nat}(h:RV w lo hi A (aAd (edI es)))(hk:k<es.length) :
  ∃ b off e,A=some ⟨b,off,none⟩/\lo<=b/\b<hi/\es[k]?=some e/\w.cell? ⟨b,off+k * 3,none⟩=some (.int .i64 e.a)/\w.cell? ⟨b,off+k * 3+1,none⟩=some (.int .i64 e.l)/\w.cell? ⟨b,off+k * 3+2,none⟩=some (.int .i64 e.b):=by
 obtain⟨e,he⟩:=aAs es hk;obtain⟨g0,g1,g2⟩:=aQg he;obtain⟨b,off,hA,h1,h2,hc⟩:=h.2 (by intro h0;have:=congrArg List.length h0;rw[aAG,aDo] at this;simp at this;omega);exact⟨b,off,e,hA,h1,h2,he,hc (k * 3) _ (by rw[aAF,g0];rfl),hc (k * 3+1) _ (by rw[aAF,g1];rfl),hc (k * 3+2) _ (by rw[aAF,g2];rfl)⟩
theorem aCe(r s:Int)(A:Option Addr)(n c:Nat)(x:Int)(w:World)(b:Bool)(hb:inB x 0 (wrap64 (s - 1))=b) :
  Calls Tryz.prog 133 #[.agg #[.int .i64 r,.int .i64 s,.slice A n c],.int .i64 x] w fun e w'=>e=.returned (.bool b)/\Mid 0 0 w w':=by
 subst hb;go_enter Tryz.func133,Tryz.ntmps133
 go_wp2_with fail;with_reducible refine(aCK _ _ _ _).mono ?_
 rintro e w' ⟨rfl,rfl⟩;go_wp2_with fail;go_ret;exact⟨rfl,Mid.alloc _ _⟩
theorem aHI(r s:Int)(A:Option Addr)(n c:Nat)(e:Ed)(w:World) :
  Calls Tryz.prog 215 #[.agg #[.int .i64 r,.int .i64 s,.slice A n c],e.v] w fun en w'=>en=.returned (.bool (edB r s e))/\Mid 0 0 w w':=by
 obtain⟨a,l,b⟩:=e;have hm0:Mid 0 0 w ((w.alloc (.cells #[.int .i64 r,.int .i64 s,.slice A n c] 35)).alloc (.cells #[.int .i64 a,.int .i64 l,.int .i64 b] 110)):=(Mid.alloc _ _).trans (Mid.alloc _ _);have B0:=(Box.new w #[.int .i64 r,.int .i64 s,.slice A n c] 35).mid (Mid.alloc _ (.cells #[.int .i64 a,.int .i64 l,.int .i64 b] 110)) oZr;have B1:=Box.new (w.alloc (.cells #[.int .i64 r,.int .i64 s,.slice A n c] 35)) #[.int .i64 a,.int .i64 l,.int .i64 b] 110;cases h1:inB a 0 (wrap64 (s - 1)) with
|false=>
  have hv:edB r s ⟨a,l,b⟩=false:=by simp[edB,h1]
  rw[hv];clear hv B0 B1;go_enter Tryz.func215,Tryz.ntmps215
  go_wp2_with fail;with_reducible refine(aCe _ _ _ _ _ _ _ _ h1).mono ?_
  rintro en w1 ⟨rfl,hm1⟩;go_wp2_with fail;go_ret;exact⟨rfl,hm0.trans hm1⟩
|true=>
  cases h2:inB b 0 (wrap64 (s - 1)) with
 |false=>
   have hv:edB r s ⟨a,l,b⟩=false:=by simp[edB,h2]
   rw[hv];clear hv;go_enter Tryz.func215,Tryz.ntmps215
   go_wp2_with fail;with_reducible refine(aCe _ _ _ _ _ _ _ _ h1).mono ?_
   rintro en w1 ⟨rfl,hm1⟩;have C0:=B0.mid hm1 oZr;have C1:=B1.mid hm1 oZr;obtain⟨c00,c01,c02⟩:=C0.c3 rfl;obtain⟨c10,c11,c12⟩:=C1.c3 rfl;simp only[World.size_alloc] at c10 c11 c12;go_wp2_with fail;with_reducible refine(aCe _ _ _ _ _ _ _ _ h2).mono ?_
   rintro en w2 ⟨rfl,hm2⟩;go_wp2_with fail;go_ret;exact⟨rfl,(hm0.trans hm1).trans hm2⟩
 |true=>
   have hv:edB r s ⟨a,l,b⟩=inB l 1 r:=by simp[edB,h1,h2]
   rw[hv];clear hv;go_enter Tryz.func215,Tryz.ntmps215
   go_wp2_with fail;with_reducible refine(aCe _ _ _ _ _ _ _ _ h1).mono ?_
   rintro en w1 ⟨rfl,hm1⟩;have C0:=B0.mid hm1 oZr;have C1:=B1.mid hm1 oZr;obtain⟨c00,c01,c02⟩:=C0.c3 rfl;obtain⟨c10,c11,c12⟩:=C1.c3 rfl;simp only[World.size_alloc] at c10 c11 c12;go_wp2_with fail;with_reducible refine(aCe _ _ _ _ _ _ _ _ h2).mono ?_
   rintro en w2 ⟨rfl,hm2⟩;have D0:=C0.mid hm2 oZr;have D1:=C1.mid hm2 oZr;have d00:=D0.cell 0 rfl;have d11:=D1.cell 1 rfl;simp only[World.size_alloc] at d11;go_wp2_with fail;with_reducible refine(aCK _ _ _ _).mono ?_
   rintro en w3 ⟨rfl,rfl⟩;go_wp2_with fail;go_ret;exact⟨rfl,(hm0.trans hm1).trans hm2⟩
theorem aJk(r s:Int)(A:Option Addr)(n c:Nat)(e:Ed)(w:World) :
  Calls Tryz.prog 246 #[.agg #[.int .i64 r,.int .i64 s,.slice A n c],e.v] w fun en w'=>en=.returned (.bool (edB r s e))/\Mid 0 0 w w':=by
 obtain⟨a,l,b⟩:=e;have hm0:Mid 0 0 w ((w.alloc (.cells #[.int .i64 r,.int .i64 s,.slice A n c] 35)).alloc (.cells #[.int .i64 a,.int .i64 l,.int .i64 b] 110)):=(Mid.alloc _ _).trans (Mid.alloc _ _);have hL:∀ x lo hi (W:World) (b:Bool),inB x lo hi=b->Calls Tryz.prog 102 #[.int .i64 x,.int .i64 lo,.int .i64 hi] W fun e w'=>e=.returned (.bool b)/\W=w':=fun x lo hi W b h=>h ▸ aCM x lo hi W;cases h1:inB a 0 (wrap64 (s - 1)) with
|false=>
  have hv:edB r s ⟨a,l,b⟩=false:=by simp[edB,h1]
  rw[hv];clear hv;go_enter Tryz.func246,Tryz.ntmps246
  go_wp2_with fail;with_reducible refine(hL _ _ _ _ _ h1).mono ?_
  rintro en w1 ⟨rfl,rfl⟩;go_wp2_with fail;go_ret;exact⟨rfl,hm0⟩
|true=>
  cases h2:inB b 0 (wrap64 (s - 1)) with
 |false=>
   have hv:edB r s ⟨a,l,b⟩=false:=by simp[edB,h2]
   rw[hv];clear hv;go_enter Tryz.func246,Tryz.ntmps246
   go_wp2_with fail;with_reducible refine(hL _ _ _ _ _ h1).mono ?_
   rintro en w1 ⟨rfl,rfl⟩;go_wp2_with fail;with_reducible refine(hL _ _ _ _ _ h2).mono ?_
   rintro en w1 ⟨rfl,rfl⟩;go_wp2_with fail;go_ret;exact⟨rfl,hm0⟩
 |true=>
   have hv:edB r s ⟨a,l,b⟩=inB l 1 r:=by simp[edB,h1,h2]
   rw[hv];clear hv;go_enter Tryz.func246,Tryz.ntmps246
   go_wp2_with fail;with_reducible refine(hL _ _ _ _ _ h1).mono ?_
   rintro en w1 ⟨rfl,rfl⟩;go_wp2_with fail;with_reducible refine(hL _ _ _ _ _ h2).mono ?_
   rintro en w1 ⟨rfl,rfl⟩;go_wp2_with fail;with_reducible refine(aCM _ _ _ _).mono ?_
   rintro en w1 ⟨rfl,rfl⟩;go_wp2_with fail;go_ret;exact⟨rfl,hm0⟩
theorem aDK(e f:Ed)(w:World) :
  Calls Tryz.prog 204 #[e.v,f.v] w fun en w'=>en=.returned (.int .i64 (aEv e f))/\((w.alloc (.cells #[.int .i64 e.a,.int .i64 e.l,.int .i64 e.b] 110)).alloc (.cells #[.int .i64 f.a,.int .i64 f.l,.int .i64 f.b] 110))=w':=by
 obtain⟨a,l,b⟩:=e;obtain⟨a',l',b'⟩:=f;have hC:∀ x y (W:World) (v:Int),aFK x y=v->Calls Tryz.prog 113 #[.int .i64 x,.int .i64 y] W fun e w'=>e=.returned (.int .i64 v)/\W=w':=fun x y W v h=>h ▸ aEJ x y W;obtain⟨u,hu⟩:∃ u,aFK a a'=u:=⟨_,rfl⟩
 obtain⟨v,hv⟩:∃ v,aFK l l'=v:=⟨_,rfl⟩
 have he:aEv ⟨a,l,b⟩ ⟨a',l',b'⟩=if u≠0 then u else if v≠0 then v else aFK b b':=by simp[aEv,hu,hv]
 rw[he];clear he;by_cases h1:u=0
 .by_cases h2:v=0
  .rw[if_neg (by simpa using h1),if_neg (by simpa using h2)]
   subst h1;subst h2;go_enter Tryz.func204,Tryz.ntmps204
   go_wp2_with fail;with_reducible refine(hC _ _ _ _ hu).mono ?_
   rintro en w1 ⟨rfl,rfl⟩;go_wp2_with fail;with_reducible refine(hC _ _ _ _ hv).mono ?_
   rintro en w1 ⟨rfl,rfl⟩;go_wp2_with fail;with_reducible refine(aEJ _ _ _).mono ?_
   rintro en w1 ⟨rfl,rfl⟩;go_wp2_with fail;go_ret;exact⟨rfl,rfl⟩
  rw[if_neg (by simpa using h1),if_pos (by simpa using h2)];subst h1;have hn:(v != 0)=true:=by simpa using h2
  go_enter Tryz.func204,Tryz.ntmps204
  go_wp2_with fail;with_reducible refine(hC _ _ _ _ hu).mono ?_
  rintro en w1 ⟨rfl,rfl⟩;go_wp2_with fail;with_reducible refine(hC _ _ _ _ hv).mono ?_
  rintro en w1 ⟨rfl,rfl⟩;go_wp2_with fail;go_ret;exact⟨rfl,rfl⟩
 rw[if_pos (by simpa using h1)];have hn:(u != 0)=true:=by simpa using h1
 go_enter Tryz.func204,Tryz.ntmps204
 go_wp2_with fail;with_reducible refine(hC _ _ _ _ hu).mono ?_
 rintro en w1 ⟨rfl,rfl⟩;go_wp2_with fail;go_ret;exact⟨rfl,rfl⟩
theorem aHq(e f:Ed)(w:World) :
  Calls Tryz.prog 204 #[e.v,f.v] w fun en w'=>en=.returned (.int .i64 (aEv e f))/\Mid 0 0 w w':=
 (aDK e f w).mono fun _ _ ⟨h,hw⟩=>⟨h,hw ▸ (Mid.alloc _ _).trans (Mid.alloc _ _)⟩
theorem aTo{a b:Int}(h:a<b):aFK a b = -1:=by simp[aFK,h]
theorem aTn{a b:Int}(h:b<a):aFK a b=1:=by simp[aFK,h,show ¬ a<b from by omega]
theorem aOQ{e f:Ed}{v:Int}(h:aFK e.a f.a=v)(h0:v≠0):aEv e f=v:=by simp[aEv,h,h0]
theorem aMJ{e f:Ed}{v:Int}(h1:e.a=f.a)(h:aFK e.l f.l=v)(h0:v≠0):aEv e f=v:=by simp[aEv,aBj.2 h1,h,h0]
theorem aJH{e f:Ed}{v:Int}(h1:e.a=f.a)(h2:e.l=f.l)(h:aFK e.b f.b=v):aEv e f=v:=by simp[aEv,aBj.2 h1,aBj.2 h2,h]
theorem aEo(e f:Ed)(w:World) :
  Calls Tryz.prog 206 #[e.v,f.v] w fun en w'=>en=.returned (.int .i64 (aEv e f))/\Mid 0 0 w w':=by
 obtain⟨a,l,b⟩:=e;obtain⟨a',l',b'⟩:=f;obtain⟨u,hu⟩:∃ u,aEv ⟨a,l,b⟩ ⟨a',l',b'⟩=u:=⟨_,rfl⟩
 rw[hu];have HU:=oH hu;clear hu;go_enter Tryz.func206,Tryz.ntmps206
 go_wp2_with fail;go_loopw [4,7] (fun _ i wr=>∃ k:Nat,i=.int .i64 k/\k<=3/\Mid 0 0 w wr/\(0<k->a=a')/\(1<k->l=l')/\(2<k->b=b') /\
   wr.cell? ⟨w.heap.size+1+1,0,none⟩=some (.int .i64 a)/\wr.cell? ⟨w.heap.size+1+1,1,none⟩=some (.int .i64 l)/\wr.cell? ⟨w.heap.size+1+1,2,none⟩=some (.int .i64 b) /\
   wr.cell? ⟨w.heap.size+1+1+1,0,none⟩=some (.int .i64 a')/\wr.cell? ⟨w.heap.size+1+1+1,1,none⟩=some (.int .i64 l')/\wr.cell? ⟨w.heap.size+1+1+1,2,none⟩=some (.int .i64 b')) (fun _ i _=>4 - (intOf i).toNat)
 case atStart=>
  refine⟨0,rfl,by omega,?_,by simp,by simp,by simp,?_,?_,?_,?_,?_,?_⟩
  .exact(((Mid.alloc _ _).trans (Mid.alloc _ _)).trans (Mid.alloc _ _)).trans (Mid.alloc _ _)
  all_goals simp[World.cell?_alloc_at,World.cell?_alloc_past]
 obtain⟨k,rfl,hk,hm,e0,e1,e2,c0,c1,c2,d0,d1,d2⟩:=hrel;by_cases h3:3<=k
 .go_wp2_with fail
  go_ret;obtain rfl:u=0:=by rw[<- HU.out];exact aJH (e0 (by omega)) (e1 (by omega)) (aBj.2 (e2 (by omega)))
  exact⟨rfl,hm⟩
 have step:∀(x y:Int),wr.cell? ⟨w.heap.size+1+1,k,none⟩=some (.int .i64 x)->wr.cell? ⟨w.heap.size+1+1+1,k,none⟩=some (.int .i64 y)->True:=fun _ _ _ _=>trivial;obtain⟨x,y,cx,cy,hxy⟩:∃ x y,wr.cell? ⟨w.heap.size+1+1,k,none⟩=some (.int .i64 x)/\wr.cell? ⟨w.heap.size+1+1+1,k,none⟩=some (.int .i64 y)/\(x≠y->u=aFK x y)/\(k=0->x=a/\y=a')/\(k=1->x=l/\y=l')/\(k=2->x=b/\y=b'):=by
  rcases(by omega:k=0 \/ k=1 \/ k=2) with rfl|rfl|rfl
  .exact⟨a,a',c0,d0,fun h=>by rw[<- HU.out];exact aOQ rfl (fun h0=>h (aBj.1 h0)),by simp,by simp,by simp⟩
  .exact⟨l,l',c1,d1,fun h=>by rw[<- HU.out];exact aMJ (e0 (by omega)) rfl (fun h0=>h (aBj.1 h0)),by simp,by simp,by simp⟩
  exact⟨b,b',c2,d2,fun h=>by rw[<- HU.out];exact aJH (e0 (by omega)) (e1 (by omega)) rfl,by simp,by simp,by simp⟩
 have hk2:k<3:=by omega
 have HE:=oH (And.intro e0 (And.intro e1 e2));have HC:=oH (And.intro c0 (And.intro c1 (And.intro c2 (And.intro d0 (And.intro d1 d2)))));have HX:=oH hxy;clear e0 e1 e2 c0 c1 c2 d0 d1 d2 hxy step h3 hk;by_cases hlt:x<y
 .have hv:=HX.out.1 (by omega)
  rw[aTo hlt] at hv;subst hv;go_wp2_with fail;go_quiet (fail)
  go_wp2_with fail;go_ret;exact⟨rfl,hm.drewN _⟩
 by_cases hgt:y<x
 .have hv:=HX.out.1 (by omega)
  rw[aTn hgt] at hv;subst hv;go_wp2_with fail;go_quiet (fail)
  go_wp2_with fail;go_quiet (fail)
  go_wp2_with fail;go_ret;exact⟨rfl,by first|exact(hm.drewN _).drewN _|exact hm.drewN _⟩
 have hq:x=y:=by omega
 clear hlt hgt;subst hq;go_wp2_with fail;go_quiet (fail)
 go_wp2_with fail;go_quiet (fail)
 go_wp2_with fail;go_roundw
 case rel=>
  obtain⟨e0,e1,e2⟩:=HE.out;obtain⟨c0,c1,c2,d0,d1,d2⟩:=HC.out;obtain⟨-,q0,q1,q2⟩:=HX.out;refine⟨k+1,by go_num,by omega,by first|exact(hm.drewN _).drewN _|exact hm.drewN _,fun h=>?_,fun h=>?_,fun h=>?_,c0,c1,c2,d0,d1,d2⟩
  .rcases(by omega:k=0 \/ 0<k) with h5|h5
   .rw[<- (q0 h5).1,<- (q0 h5).2]
   exact e0 h5
  .rcases(by omega:k=1 \/ 1<k) with h5|h5
   .rw[<- (q1 h5).1,<- (q1 h5).2]
   exact e1 h5
  rcases(by omega:k=2 \/ 2<k) with h5|h5
  .rw[<- (q2 h5).1,<- (q2 h5).2]
  exact e2 h5
 simp[intOf];omega
def UpTo(r s:Int)(es:List Ed)(k:Nat):Prop:=∀ j e,j<k->es[j]?=some e->edB r s e=true/\∀ f,0<j->es[j - 1]?=some f->aEv f e<0
theorem UpTo.zero(r s:Int)(es:List Ed):UpTo r s es 0:=fun j e h=>absurd h (Nat.not_lt_zero _)
theorem UpTo.succ{r s:Int}{es:List Ed}{k:Nat}{e:Ed}(h:UpTo r s es k)(he:es[k]?=some e)(h1:edB r s e=true)(h2:∀ f,0<k->es[k - 1]?=some f->aEv f e<0):UpTo r s es (k+1):=by
 intro j e' hj he';rcases Nat.lt_succ_iff_lt_or_eq.1 hj with h3|rfl
 .exact h j e' h3 he'
 rw[he] at he';injection he' with he'
 subst he';exact⟨h1,h2⟩
abbrev aAw(r s:Int)(A:Option Addr)(n c:Nat):Value:=.agg #[.int .i64 r,.int .i64 s,.slice A n c]
theorem aQf{r s:Int}{e:Ed}(h1:1<=s)(h2:s<=40):edB r s e=true↔InG r s e:=by
 unfold edB InG inB;rw[IntWalk.wrap64_in (s - 1) (by omega)];simp;omega
theorem aSN{es:List Ed}:Asc es↔∀(j:Nat) (e f:Ed),0<j->es[j - 1]?=some f->es[j]?=some e->LtE f e:=by
 constructor
 .intro h j e f hj hf he
  obtain⟨h1,h1'⟩:=List.getElem?_eq_some_iff.1 hf;obtain⟨h2,h2'⟩:=List.getElem?_eq_some_iff.1 he;have:=List.pairwise_iff_getElem.1 h (j - 1) j h1 h2 (by omega);rw[h1',h2'] at this;exact this
 intro h;refine List.pairwise_iff_getElem.2 fun i j hi hj hij=>?_;obtain⟨d,rfl⟩:∃ d,j=i+1+d:=⟨j - i - 1,by omega⟩
 clear hij
 induction d with
|zero=>exact h (i+1) _ _ (by omega) (by rw[Nat.add_sub_cancel];exact List.getElem?_eq_getElem hi) (List.getElem?_eq_getElem hj)
|succ d ih=>exact(ih (by omega)).trans (h (i+1+(d+1)) _ _ (by omega) (List.getElem?_eq_getElem (by omega)) (List.getElem?_eq_getElem hj))
theorem aOI{r s:Int}{es:List Ed}(h1:1<=s)(h2:s<=40):UpTo r s es es.length↔(∀ e∈es,InG r s e)/\Asc es:=by
 constructor
 .intro h
  refine⟨fun e he=>?_,aSN.2 fun j e f hj hf he=>?_⟩
  .obtain⟨j,hj⟩:=List.mem_iff_getElem?.1 he
   exact(aQf h1 h2).1 (h j e (List.getElem?_eq_some_iff.1 hj).1 hj).1
  exact aBf.1 ((h j e (List.getElem?_eq_some_iff.1 he).1 he).2 f hj hf)
 rintro⟨h3,h4⟩ j e hj he;exact⟨(aQf h1 h2).2 (h3 e (List.mem_of_getElem? he)),fun f h0 hf=>aBf.2 (aSN.1 h4 j e f h0 hf he)⟩
structure GrT (r s:Int) (es:List Ed):Prop where
 rank:inB r 1 3=true
 size:inB s 1 40=true
 len:es.length<=120
 up:UpTo r s es es.length
theorem aQq{r s:Int}{es:List Ed}:GrT r s es↔IsGr r s es:=by
 constructor
 .rintro⟨h1,h2,h3,h4⟩
  have h1:1<=r/\r<=3:=by simpa [inB] using h1
  have h2:1<=s/\s<=40:=by simpa [inB] using h2
  obtain⟨h5,h6⟩:=(aOI h2.1 h2.2).1 h4;exact⟨h1,h2,h3,h5,h6⟩
 rintro⟨h1,h2,h3,h4,h5⟩;exact⟨by simpa [inB] using h1,by simpa [inB] using h2,h3,(aOI h2.1 h2.2).2 ⟨h4,h5⟩⟩
theorem aHh{x lo hi:Int}{b:Bool}(h:inB x lo hi=b)(W:World):Calls Tryz.prog 108 #[.int .i64 x,.int .i64 lo,.int .i64 hi] W fun e w'=>e=.returned (.bool b)/\W=w':=h ▸ aCK x lo hi W
theorem aBJ{x lo hi:Int}{b:Bool}(h:inB x lo hi=b)(W:World):Calls Tryz.prog 102 #[.int .i64 x,.int .i64 lo,.int .i64 hi] W fun e w'=>e=.returned (.bool b)/\W=w':=h ▸ aCM x lo hi W
theorem aCj(r s:Int)(A:Option Addr)(es:List Ed)(c:Nat)(w:World)(lo hi:Nat)(hr:RV w lo hi A (aAd (edI es)))(hl:es.length<=1048576)(b:Bool)(hb:b=true↔IsGr r s es) :
  Calls Tryz.prog 144 #[aAw r s A es.length c] w fun e w'=>e=.returned (.bool b)/\Mid 0 0 w w':=by
 have HB:=oH (hb.trans aQq.symm);clear hb;have bx0:=Box.new w #[.int .i64 r,.int .i64 s,.slice A es.length c] 35;have hm0:=Mid.alloc w (.cells #[.int .i64 r,.int .i64 s,.slice A es.length c] 35);cases h1:inB r 1 3 with
|false=>
  obtain rfl:b=false:=by cases b with|false=>rfl|true=>have:=(HB.out.1 rfl).rank;rw[h1] at this;cases this
  clear HB;go_enter Tryz.func144,Tryz.ntmps144
  go_wp2_with fail;with_reducible refine(aHh h1 _).mono ?_
  rintro en w1 ⟨rfl,rfl⟩;go_wp2_with fail;go_ret;exact⟨rfl,hm0⟩
|true=>
 have H1:=oH h1;go_enter Tryz.func144,Tryz.ntmps144
 go_wp2_with fail;with_reducible refine(aHh h1 _).mono ?_
 rintro en w1 ⟨rfl,rfl⟩;clear h1;cases h2:inB s 1 40 with
|false=>
  obtain rfl:b=false:=by cases b with|false=>rfl|true=>have:=(HB.out.1 rfl).size;rw[h2] at this;cases this
  clear HB;go_wp2_with fail;with_reducible refine(aHh h2 _).mono ?_
  rintro en w1 ⟨rfl,rfl⟩;go_wp2_with fail;go_ret;exact⟨rfl,hm0⟩
|true=>
 have H2:=oH h2;go_wp2_with fail;with_reducible refine(aHh h2 _).mono ?_
 rintro en w1 ⟨rfl,rfl⟩;clear h2;by_cases h3:120<es.length
 .obtain rfl:b=false:=by cases b with|false=>rfl|true=>have:=(HB.out.1 rfl).len;omega
  clear HB;go_wp2_with fail;go_ret;exact⟨rfl,hm0⟩
 have HL:=oH (show es.length<=120 by omega);go_wp2_with fail;go_loopw [2,24] (fun _ i wr=>∃ k:Nat,k<=es.length/\i=.int .i64 k/\Box wr w.heap.size [.int .i64 r,.int .i64 s,.slice A es.length c]/\UpTo r s es k/\Mid 0 0 w wr) (fun _ i _=>es.length - (intOf i).toNat)
 case atStart=>exact⟨0,oZ,rfl,bx0,UpTo.zero _ _ _,hm0⟩
 obtain⟨k,hk,rfl,bx,hup,hm⟩:=hrel;by_cases hlt:k<es.length
 .obtain⟨B,off,e,rfl, -,hbh,he,c0,c1,c2⟩:=(hr.mid hm oZl).ed hlt
  have hk0:(0:Int)<=(k:Int):=by omega
  have hkn:(k:Int)<(es.length:Int):=by omega
  have HUP:=oH hup;have HEK:=oH he;have hal:=Mid.alloc wr (.cells #[.int .i64 e.a,.int .i64 e.l,.int .i64 e.b] 110);have by1:=bx.mid hal oZr;have by2:=Box.new wr #[.int .i64 e.a,.int .i64 e.l,.int .i64 e.b] 110;have hrm:=(hr.mid hm oZl).mid hal oZl;have zp:=Nat.lt_of_lt_of_le hbh hrm.1;have g0:=aAb by1.1 (by1.cell 0 rfl);have g1:=aAb by1.1 (by1.cell 1 rfl);have g2:=aAb by1.1 (by1.cell 2 rfl);have e0:=aAb by2.1 (by2.cell 0 rfl);have e1:=aAb by2.1 (by2.cell 1 rfl);have e2:=aAb by2.1 (by2.cell 2 rfl);cases hA0:edB r s e with
 |false=>
   obtain rfl:b=false:=by cases b with|false=>rfl|true=>have:=((HB.out.1 rfl).up k e hlt he).1;rw[hA0] at this;cases this
   have hA:=fun W=>aHI r s (some ⟨B,off,none⟩) es.length c e W;rw[hA0] at hA;clear hup he hA0;go_wp2_with fail;refine wqg ?_;repeat
    (with_reducible refine wpQuiet_step (fun K hK=>?_))
    go_simp
    first|(with_reducible refine hK _ ?_)|(rw[if_neg (by decide)];(with_reducible refine hK _ ?_))|(apply Exists.intro;refine⟨fun _=>?_,hK _ ?_⟩;((go_at_call 215;exact Calls.wg_of (hA _))))
    clear hK K
   with_reducible refine wpQuiet_nil ?_
   rintro _ ⟨⟨nq,osq⟩,rfl⟩;go_wp2_with fail;go_ret;exact⟨rfl,(hm.trans hal).trans (Mid.ofWg _ _ _)⟩
 |true=>
   have hA:=fun W=>aHI r s (some ⟨B,off,none⟩) es.length c e W;rw[hA0] at hA;have HA0:=oH hA0;by_cases hkz:k=0
   .have hkz2:decide ((0:Int)<(k:Int))=false:=by simp;omega
    have hkz3:(0<k)=False:=eq_false (by omega);have HKZ:=oH hkz;clear hup he hA0 hkz;go_wp2_with fail;refine wqg ?_;repeat
     (with_reducible refine wpQuiet_step (fun K hK=>?_))
     go_simp
     first|(with_reducible refine hK _ ?_)|(rw[if_neg (by decide)];(with_reducible refine hK _ ?_))|(apply Exists.intro;refine⟨fun _=>?_,hK _ ?_⟩;((go_at_call 215;exact Calls.wg_of (hA _))))
     clear hK K
    with_reducible refine wpQuiet_nil ?_
    rintro _ ⟨⟨nq,osq⟩,rfl⟩;go_wp2_with fail;go_roundw
    case rel=>exact⟨k+1,by omega,by go_num,by1.mid (Mid.ofWg _ _ _) oZr,HUP.out.succ HEK.out HA0.out (fun f h=>absurd h (by have:=HKZ.out;omega)),(hm.trans hal).trans (Mid.ofWg _ _ _)⟩
    simp[intOf];omega
   obtain⟨m,hm1⟩:∃ m,k=m+1:=⟨k - 1,by omega⟩
   obtain⟨B',off',f,hA1, -, -,hf,p0,p1,p2⟩:=hrm.ed (show m<es.length by omega);injection hA1 with hA1
   injection hA1 with hA2 hA3
   subst hA2;subst hA3;have hkm:(k:Int) - 1=(m:Int):=by omega
   have hkp:(0:Int)<(k:Int):=by omega
   have hkp3:0<k:=by omega
   have hwm:IntKind.i64.wrap (m:Int)=(m:Int):=IntWalk.i64_in _ (by omega);have hm0':(0:Int)<=(m:Int):=by omega
   have hmn:(m:Int)<(es.length:Int):=by omega
   have p0:=aAb zp p0;have p1:=aAb zp p1;have p2:=aAb zp p2;obtain⟨v,hv⟩:∃ v,aEv f e=v:=⟨_,rfl⟩
   have hQ:=fun W=>aHq f e W;rw[hv] at hQ;have HF:=oH hf;have HKM:=oH hm1;by_cases hv0:0<=v
   .obtain rfl:b=false:=by
     cases b
     .rfl
     have:=((HB.out.1 rfl).up k e hlt he).2 f (by omega) (by rw[hm1];exact hf);omega
    clear hup he hA0 hf hm1 hv;go_wp2_with fail;refine wqg ?_;repeat
     (with_reducible refine wpQuiet_step (fun K hK=>?_))
     go_simp
     first|(with_reducible refine hK _ ?_)|(rw[if_neg (by decide)];(with_reducible refine hK _ ?_))|(apply Exists.intro;refine⟨fun _=>?_,hK _ ?_⟩;((first|(go_at_call 215;exact Calls.wg_of (hA _))|(go_at_call 204;exact Calls.wg_of (hQ _)))))
     clear hK K
    with_reducible refine wpQuiet_nil ?_
    rintro _ ⟨⟨nq,osq⟩,rfl⟩;go_wp2_with fail;go_ret;exact⟨rfl,(hm.trans hal).trans (Mid.ofWg _ _ _)⟩
   have HV:=oH (show aEv f e<0 by omega);clear hup he hA0 hf hm1 hv;go_wp2_with fail;refine wqg ?_;repeat
    (with_reducible refine wpQuiet_step (fun K hK=>?_))
    go_simp
    first|(with_reducible refine hK _ ?_)|(rw[if_neg (by decide)];(with_reducible refine hK _ ?_))|(apply Exists.intro;refine⟨fun _=>?_,hK _ ?_⟩;((first|(go_at_call 215;exact Calls.wg_of (hA _))|(go_at_call 204;exact Calls.wg_of (hQ _)))))
    clear hK K
   with_reducible refine wpQuiet_nil ?_
   rintro _ ⟨⟨nq,osq⟩,rfl⟩;go_wp2_with fail;go_roundw
   case rel=>
    refine⟨k+1,by omega,by go_num,by1.mid (Mid.ofWg _ _ _) oZr,HUP.out.succ HEK.out HA0.out (fun f' h h'=>?_),(hm.trans hal).trans (Mid.ofWg _ _ _)⟩;rw[HKM.out,Nat.add_sub_cancel,HF.out] at h';injection h' with h'
    subst h';exact HV.out
   simp[intOf];omega
 obtain rfl:k=es.length:=by omega
 obtain rfl:b=true:=HB.out.2 ⟨H1.out,H2.out,HL.out,hup⟩;go_wp2_with fail;go_ret;exact⟨rfl,hm⟩
theorem aAM(r s:Int)(A:Option Addr)(es:List Ed)(c:Nat)(w:World)(lo hi:Nat)(hr:RV w lo hi A (aAd (edI es)))(hl:es.length<=1048576)(b:Bool)(hb:b=true↔IsGr r s es) :
  Calls Tryz.prog 199 #[aAw r s A es.length c] w fun e w'=>e=.returned (.bool b)/\Mid 0 0 w w':=by
 have HB:=oH (hb.trans aQq.symm);clear hb;have bx0:=Box.new w #[.int .i64 r,.int .i64 s,.slice A es.length c] 35;have hm0:=Mid.alloc w (.cells #[.int .i64 r,.int .i64 s,.slice A es.length c] 35);go_enter Tryz.func199,Tryz.ntmps199
 go_wp2_with fail;go_loopw [2,3] (fun _ i wr=>∃ k:Nat,k<=es.length/\i=.int .i64 k/\Box wr w.heap.size [.int .i64 r,.int .i64 s,.slice A es.length c]/\UpTo r s es k/\Mid 0 0 w wr) (fun _ i _=>es.length - (intOf i).toNat)
 case atStart=>exact⟨0,oZ,rfl,bx0,UpTo.zero _ _ _,hm0⟩
 obtain⟨k,hk,rfl,bx,hup,hm⟩:=hrel;obtain⟨G0,G1,G2⟩:=bx.c3 rfl;by_cases hlt:k<es.length
 .have hrm:=hr.mid hm oZl
  obtain⟨B,off,e,rfl, -,hbh,he,e0,e1,e2⟩:=hrm.ed hlt;have hk0:(0:Int)<=(k:Int):=by omega
  have hkn:(k:Int)<(es.length:Int):=by omega
  have HUP:=oH hup;have HEK:=oH he;have zp:=Nat.lt_of_lt_of_le hbh hrm.1;have g0:=aAb bx.1 G0;have g1:=aAb bx.1 G1;have g2:=aAb bx.1 G2;have e0:=aAb zp e0;have e1:=aAb zp e1;have e2:=aAb zp e2;have hA:=fun W=>aJk r s (some ⟨B,off,none⟩) es.length c e W;cases hA0:edB r s e with
 |false=>
   obtain rfl:b=false:=by cases b with|false=>rfl|true=>have:=((HB.out.1 rfl).up k e hlt he).1;rw[hA0] at this;cases this
   rw[hA0] at hA;clear hup he hA0;go_wp2_with fail;refine wqg ?_;repeat
    (with_reducible refine wpQuiet_step (fun K hK=>?_))
    go_simp
    first|(with_reducible refine hK _ ?_)|(rw[if_neg (by decide)];(with_reducible refine hK _ ?_))|(apply Exists.intro;refine⟨fun _=>?_,hK _ ?_⟩;((go_at_call 246;exact Calls.wg_of (hA _))))
    clear hK K
   with_reducible refine wpQuiet_nil ?_
   rintro _ ⟨⟨nq,osq⟩,rfl⟩;go_wp2_with fail;go_ret;exact⟨rfl,hm.trans (Mid.ofWg _ _ _)⟩
 |true=>
   rw[hA0] at hA;have HA0:=oH hA0;by_cases hkz:k=0
   .have hkz2:decide ((0:Int)<(k:Int))=false:=by simp;omega
    have hkz3:(0<k)=False:=eq_false (by omega);have HKZ:=oH hkz;clear hup he hA0 hkz;go_wp2_with fail;refine wqg ?_;repeat
     (with_reducible refine wpQuiet_step (fun K hK=>?_))
     go_simp
     first|(with_reducible refine hK _ ?_)|(rw[if_neg (by decide)];(with_reducible refine hK _ ?_))|(apply Exists.intro;refine⟨fun _=>?_,hK _ ?_⟩;((go_at_call 246;exact Calls.wg_of (hA _))))
     clear hK K
    with_reducible refine wpQuiet_nil ?_
    rintro _ ⟨⟨nq,osq⟩,rfl⟩;go_wp2_with fail;go_roundw
    case rel=>exact⟨k+1,by omega,by go_num,bx.mid (Mid.ofWg _ _ _) oZr,HUP.out.succ HEK.out HA0.out (fun f h=>absurd h (by have:=HKZ.out;omega)),hm.trans (Mid.ofWg _ _ _)⟩
    simp[intOf];omega
   obtain⟨m,hm1⟩:∃ m,k=m+1:=⟨k - 1,by omega⟩
   obtain⟨B',off',f,hA1, -, -,hf,p0,p1,p2⟩:=hrm.ed (show m<es.length by omega);injection hA1 with hA1
   injection hA1 with hA2 hA3
   subst hA2;subst hA3;have hkm:(k:Int) - 1=(m:Int):=by omega
   have hkp:(0:Int)<(k:Int):=by omega
   have hkp3:0<k:=by omega
   have hwm:IntKind.i64.wrap (m:Int)=(m:Int):=IntWalk.i64_in _ (by omega);have hm0':(0:Int)<=(m:Int):=by omega
   have hmn:(m:Int)<(es.length:Int):=by omega
   have p0:=aAb zp p0;have p1:=aAb zp p1;have p2:=aAb zp p2;obtain⟨v,hv⟩:∃ v,aEv f e=v:=⟨_,rfl⟩
   have hQ:=fun W=>aEo f e W;rw[hv] at hQ;have HF:=oH hf;have HKM:=oH hm1;by_cases hv0:0<=v
   .obtain rfl:b=false:=by
     cases b
     .rfl
     have:=((HB.out.1 rfl).up k e hlt he).2 f (by omega) (by rw[hm1];exact hf);omega
    clear hup he hA0 hf hm1 hv;go_wp2_with fail;refine wqg ?_;repeat
     (with_reducible refine wpQuiet_step (fun K hK=>?_))
     go_simp
     first|(with_reducible refine hK _ ?_)|(rw[if_neg (by decide)];(with_reducible refine hK _ ?_))|(apply Exists.intro;refine⟨fun _=>?_,hK _ ?_⟩;((first|(go_at_call 246;exact Calls.wg_of (hA _))|(go_at_call 206;exact Calls.wg_of (hQ _)))))
     clear hK K
    with_reducible refine wpQuiet_nil ?_
    rintro _ ⟨⟨nq,osq⟩,rfl⟩;go_wp2_with fail;go_ret;exact⟨rfl,hm.trans (Mid.ofWg _ _ _)⟩
   have HV:=oH (show aEv f e<0 by omega);clear hup he hA0 hf hm1 hv;go_wp2_with fail;refine wqg ?_;repeat
    (with_reducible refine wpQuiet_step (fun K hK=>?_))
    go_simp
    first|(with_reducible refine hK _ ?_)|(rw[if_neg (by decide)];(with_reducible refine hK _ ?_))|(apply Exists.intro;refine⟨fun _=>?_,hK _ ?_⟩;((first|(go_at_call 246;exact Calls.wg_of (hA _))|(go_at_call 206;exact Calls.wg_of (hQ _)))))
    clear hK K
   with_reducible refine wpQuiet_nil ?_
   rintro _ ⟨⟨nq,osq⟩,rfl⟩;go_wp2_with fail;go_roundw
   case rel=>
    refine⟨k+1,by omega,by go_num,bx.mid (Mid.ofWg _ _ _) oZr,HUP.out.succ HEK.out HA0.out (fun f' h h'=>?_),hm.trans (Mid.ofWg _ _ _)⟩;rw[HKM.out,Nat.add_sub_cancel,HF.out] at h';injection h' with h'
    subst h';exact HV.out
   simp[intOf];omega
 obtain rfl:k=es.length:=by omega
 cases h1:inB r 1 3 with
|false=>
  obtain rfl:b=false:=by cases b with|false=>rfl|true=>have:=(HB.out.1 rfl).rank;rw[h1] at this;cases this
  go_wp2_with fail;with_reducible refine(aBJ h1 _).mono ?_
  rintro en w1 ⟨rfl,rfl⟩;go_wp2_with fail;go_ret;exact⟨rfl,hm⟩
|true=>
 go_wp2_with fail;with_reducible refine(aBJ h1 _).mono ?_
 rintro en w1 ⟨rfl,rfl⟩;cases h2:inB s 1 40 with
|false=>
  obtain rfl:b=false:=by cases b with|false=>rfl|true=>have:=(HB.out.1 rfl).size;rw[h2] at this;cases this
  go_wp2_with fail;with_reducible refine(aBJ h2 _).mono ?_
  rintro en w1 ⟨rfl,rfl⟩;go_wp2_with fail;go_ret;exact⟨rfl,hm⟩
|true=>
 obtain rfl:b=decide (es.length<=120):=by
  rw[Bool.eq_iff_iff,HB.out,decide_eq_true_iff];exact⟨fun h=>h.len,fun h=>⟨h1,h2,h,hup⟩⟩
 go_wp2_with fail;with_reducible refine(aBJ h2 _).mono ?_
 rintro en w1 ⟨rfl,rfl⟩;go_wp2_with fail;go_ret;have hd:decide ((es.length:Int)<=120)=decide (es.length<=120):=decide_eq_decide.2 (by omega);refine⟨?_,hm⟩
 first
 |rfl
 |exact congrArg (fun x=>Ending.returned (Value.bool x)) hd
theorem Mid.stored{lo hi:Nat}{a w:World}{p:Addr}(h:Mid lo hi a w)(u:Value)(h1:lo<=p.block)(h2:p.block<hi):Mid lo hi a (w.setCell p u):=h.trans (Mid.setCell w u h1 h2)
section
open Go.ChangeShapes Go.WideShapes Go.ChangeAt Go.RowKit
open Go.Joins
section
variable {H:Type} {enc:TypeId × Value->H} {P:Program} {W:World} {T E:TypeId}
def aVq(xss:List (List Int)):Prop:=(xss.length<=9223372036854775807/\∀ xs∈xss,xs.length<=9223372036854775807)/\∀ xs∈xss,OkI xs
end
end
def RI(w:World)(lo hi:Nat)(A:Option Addr)(xs:List Int):Prop:=RV w lo hi A (aAd xs)
def OI(w:World)(lo hi:Nat)(A:Option Addr)(c:Nat)(xs:List Int):Prop:=OV w lo hi 3 1 A c xs.length (aAd xs)
theorem RI.mid{w w':World}{lo hi a b:Nat}{A:Option Addr}{xs:List Int}(h:RI w lo hi A xs)(m:Mid a b w w')(hd:b<=lo \/ hi<=a):RI w' lo hi A xs:=RV.mid h m hd
theorem OI.mid{w w':World}{lo hi a b:Nat}{A:Option Addr}{c:Nat}{xs:List Int}(h:OI w lo hi A c xs)(m:Mid a b w w')(hd:b<=lo \/ hi<=a):OI w' lo hi A c xs:=OV.mid h m hd
theorem OI.ri{w:World}{lo hi:Nat}{A:Option Addr}{c:Nat}{xs:List Int}(h:OI w lo hi A c xs):RI w lo hi A xs:=OV.rv h
theorem OI.size{w:World}{lo hi:Nat}{A:Option Addr}{c:Nat}{xs:List Int}(h:OI w lo hi A c xs):hi<=w.heap.size:=h.1
theorem RI.rs{w:World}{lo hi:Nat}{A:Option Addr}{xs:List Int}(h:RI w lo hi A xs):Rs w w.heap.size A (aAd xs):=(RV.rs h).more h.1
abbrev Stp(v:Value)(w:World)(e:Ending)(w':World):Prop:=e=.returned v/\Mid 0 0 w w'
end Go.Proofs.YtkimajabegojoaaGreat
