/- Lemmas. -/
import Derived.WalkKit
import Derived.WalkSpells
import Derived.WalkLawsBesides
import Derived.Maps.AppendAt
import Derived.Lib.Hide
import Derived.Deep.Draws
import Derived.Deep.QuietTactic
import Derived.BigQuiet
import Derived.Test.YtkimajabegojoaaGreatRows
namespace Go.Proofs.YtkimajabegojoaaGreat
set_option linter.unusedVariables false
set_option linter.unusedSimpArgs false
set_option maxHeartbeats 40000000
set_option maxRecDepth 100000
open Go.RowKit
instance coeIV:Coe Int Value:=⟨fun n=>.int .i64 n⟩
instance coeNV:Coe Nat Value:=⟨fun n=>.int .i64 (n:Int)⟩
instance coeWN:Coe World Nat:=⟨fun w=>w.heap.size⟩
abbrev LI:=List Int
abbrev LL:=List (List Int)
abbrev OA:=Option Addr
theorem oO{p:Prop}(h:p:=by omega):p:=h
theorem oL{a b:Prop}(h:a:=by omega):a \/ b:=Or.inl h
theorem oR{a b:Prop}(h:b:=by omega):a \/ b:=Or.inr h
theorem oM{p:Prop}(h:p:=by simp):p:=h
theorem oD{p:Prop}(h:p:=by decide):p:=h
theorem oK{p:Prop}(h:p:=by kernel_rfl):p:=h
theorem oG{a:Type}{l:List a}{i:Nat}{x:a}(h:l[i]?=some x):x∈l:=List.mem_of_getElem? h
theorem oT{a b c:Nat}(h:a<b)(k:b<=c):a<c:=Nat.lt_of_lt_of_le h k
theorem oI(n:Int)(h:-9223372036854775808<=n/\n<=9223372036854775807:=by omega):IntKind.i64.wrap n=n:=IntWalk.i64_in n h
abbrev oV:=@Nat.le_trans
abbrev oW:=@bodyPost_ret
abbrev oX:=@iff_of_true
theorem oZr{p:Prop}{n:Nat}:p \/ 0<=n:=Or.inr (Nat.zero_le _)
theorem oZl{p:Prop}{n:Nat}:0<=n \/ p:=Or.inl (Nat.zero_le _)
theorem oP:(∀(a:Act)(d:Tmp)(v:Value),a.put (some d) v={a with tmps:=a.tmps.setIfInBounds d v})/\(∀(a:Act)(v:Value),a.put none v=a)/\(∀(α:Type)(l:List α)(i:Nat)(a:α),l.toArray.setIfInBounds i a=(l.set i a).toArray)/\(∀(α:Type)(x:α)(xs:List α)(a:α),(x::xs).set 0 a=a::xs)/\(∀(α:Type)(x:α)(xs:List α)(i:Nat)(a:α),(x::xs).set (i+1) a=x::xs.set i a)/\(∀(α:Type)(xs:List α)(i:Nat)(h:i<xs.toArray.size),xs.toArray[i]=xs[i]'(by simpa using h))/\(∀(α:Type)(a:α)(xs:List α)(h:0<(a::xs).length),(a::xs)[0]=a)/\(∀(α:Type)(a:α)(xs:List α)(i:Nat)(h:i+1<(a::xs).length),(a::xs)[i+1]=xs[i]'(Nat.lt_of_succ_lt_succ h)) :=⟨fun _ _ _=>rfl,fun _ _=>rfl,fun _ l i a=>List.setIfInBounds_toArray l i a,fun _ _ _ _=>List.set_cons_zero,fun _ _ _ _ _=>List.set_cons_succ,fun _ _ _ h=>List.getElem_toArray h,fun _ a xs h=>List.getElem_cons_zero a xs h,fun _ a xs i h=>List.getElem_cons_succ a xs i h⟩
theorem oH{p:Prop}(h:p):RowKit.Hid p:=Lib.hid h
theorem oN{n:Nat}:n<=n:=Nat.le_refl n
theorem oS{n:Nat}:n<n+1:=Nat.lt_succ_self n
theorem oZ{n:Nat}:0<=n:=Nat.zero_le n
def aMc:Int:=-9223372036854775808
def aFg(a b:Int):Bool:=decide (a≠0/\a≠aMc/\b = -a)
theorem aJn(a b:Int):aFg a b=true↔(a≠0/\a≠aMc/\b = -a):=by simp[aFg]
def aRP(rank x:Int):Bool:=decide (x≠0/\-rank<=x/\x<=rank)
def aTY(rank:Int)(w:LI):Prop:=
 (∀ x∈w,x≠0/\-rank<=x/\x<=rank)/\(∀ k x y,w[k]?=some x->w[k+1]?=some y->y≠-x)
def IsW(rank:Int)(w:LI):Prop:=1<=rank/\rank<=3/\w.length<=24/\aTY rank w
def aGp(a b:Int):Int:=if a<b then -1 else if b<a then 1 else 0
def aVB(a:Int):Int:=if a<0 then -a else a
def aVP(a b:Int):Int:=
 if a=b then 0 else if a=aMc then 1 else if b=aMc then -1
 else if aVB a<aVB b then -1 else if aVB b<aVB a then 1 else if b<a then -1 else 1
def aVf:LI->LI->Int
|a::x,b::y=>if aVP a b=0 then aVf x y else aVP a b
|_,_=>0
def aVT(a b:LI):Int:=if a.length<b.length then -1 else if b.length<a.length then 1 else aVf a b
def negI(x:Int):Int:=if x=aMc then aMc else -x
def aAE(w:LI):LI:=(w.map negI).reverse
theorem aBE(w:LI):(aAE w).length=w.length:=by simp[aAE]
def aBe(out:LI)(x:Int):LI:=
 match out.getLast? with
|some a=>if aFg a x then out.dropLast else out++[x]
|none=>[x]
def red(out w:LI):LI:=w.foldl aBe out
theorem aOR(out:LI):red out []=out:=rfl
theorem aCb(out:LI)(x:Int)(w:LI):red out (x::w)=red (aBe out x) w:=rfl
theorem aBX(out a b:LI):red out (a++b)=red (red out a) b:=by simp[red]
theorem aBT(x:Int):aBe [] x=[x]:=rfl
theorem aBt{out:LI}{a x:Int}(h:aFg a x=true):aBe (out++[a]) x=out:=by simp[aBe,h]
theorem aAT{out:LI}{a x:Int}(h:aFg a x=false):aBe (out++[a]) x=out++[a]++[x]:=by simp[aBe,h]
theorem aOQ(out:LI)(x:Int):(aBe out x).length<=out.length+1:=by
 unfold aBe;split
 .split <;> simp
  omega
 simp
theorem aMr(out w:LI):(red out w).length<=out.length+w.length:=by
 induction w generalizing out with
|nil=>simp[red]
|cons x t ih=>
  rw[aCb];have h1:=ih (aBe out x);have h2:=aOQ out x;simp;omega
section
open Go.RowKit
def aAe(xs:LI):List Value:=xs.map (Value.int .i64)
theorem aAB(xs:LI):(aAe xs).length=xs.length:=by simp[aAe]
theorem aAi(xs ys:LI):aAe (xs++ys)=aAe xs++aAe ys:=by simp[aAe]
theorem aAP(xs:LI)(k:Nat):(aAe xs)[k]?=(xs[k]?).map (Value.int .i64):=by simp[aAe]
def Rs(w:World)(B:Nat)(A:OA)(cs:List Value):Prop:=
 cs≠[]->∃ b off,A=some ⟨b,off,none⟩/\b<B/\∀ j u,cs[j]?=some u->w.cell? ⟨b,off+j,none⟩=some u
section
variable {w w' w0:World} {B B':Nat} {A:OA} {cs:List Value}
theorem Rs.keep(h:Rs w B A cs)(hk:∀ p:Addr,p.block<B->w'.cell? p=w.cell? p):Rs w' B A cs:=fun hn=>by
 obtain⟨b,a0,e,hb,hc⟩:=h hn;exact⟨b,a0,e,hb,fun j u hu=>(hk _ hb).trans (hc j u hu)⟩
theorem Rs.more(h:Rs w B A cs)(hB:B<=B'):Rs w B' A cs:=fun hn=>by
 obtain⟨b,a0,e,hb,hc⟩:=h hn;exact⟨b,a0,e,oO,hc⟩
theorem Rs.below(h:Rs w B A cs)(hb:Below B w w'):Rs w' B A cs:=h.keep fun _ hp=>hb.cell hp
theorem Rs.drewN(h:Rs w B A cs)(k:Nat):Rs (w.drewN k) B A cs:=h
theorem Rs.alloc(h:Rs w B A cs)(hB:B<=w.heap.size)(o:Obj):Rs (w.alloc o) B A cs:=h.keep fun p hp=>World.cell?_alloc_lt w o p oO
theorem Rs.of_own{base:Nat}{e:TypeId}{size n c:Nat}(h:w.ownsRow base e size (.slice A n c) n cs):Rs w w A cs:=fun hn=>by
 rcases h.2 with⟨hv,h0⟩|⟨g,cap,cur,hv,hg,hh,hnc,hcm,hcs,htake⟩
 .subst h0
  exact absurd (List.eq_nil_of_length_eq_zero (by simpa using h.1)) hn
 .injection hv with hA _ hc
  subst hA;subst hc;refine⟨g,0,rfl,(Array.getElem?_eq_some_iff.1 hh).1,fun j u hu=>?_⟩;rw[Nat.zero_add];have a0:=(List.getElem?_eq_some_iff.1 hu).1;rw[h.cellAt j (by have:=h.1;omega)];exact hu
theorem Rs.at(h:Rs w B A cs){j:Nat}(hj:j<cs.length):∃ b a0 u,A=some ⟨b,a0,none⟩/\b<B/\cs[j]?=some u/\w.cell? ⟨b,a0+j,none⟩=some u:=by
 obtain⟨b,a0,e,hb,hc⟩:=h (by intro h0;subst h0;simp at hj);exact⟨b,a0,cs[j],e,hb,List.getElem?_eq_getElem hj,hc j _ (List.getElem?_eq_getElem hj)⟩
theorem Rs.drop(h:Rs w B A cs){k n cap:Nat}(size:Nat)(hn:cs.length=n * size)(hc:n<=cap) :
  Rs w B (if cap=k then A else A.map (·.add (k * size))) (cs.drop (k * size)):=by
 intro a2;have a1:k * size<cs.length:=by
  rcases Nat.lt_or_ge (k * size) cs.length with h1|h1
  .exact h1
  exact absurd (List.drop_eq_nil_of_le h1) a2
 obtain⟨b,a3,rfl,hb,a0⟩:=h (by intro h0;subst h0;simp at a1);have hk:¬ cap=k:=by
  intro e;subst e;rw[hn] at a1;exact absurd (Nat.lt_of_mul_lt_mul_right a1) oO
 rw[if_neg hk];refine⟨b,a3+k * size,?_,hb,fun j u hu=>?_⟩
 .simp[Addr.add]
 rw[Nat.add_assoc];exact a0 _ u (by rw[<- hu,List.getElem?_drop])
theorem Rs.take(h:Rs w B A cs)(k:Nat):Rs w B A (cs.take k):=fun hne=>by
 obtain⟨b,a0,e,hb,hc⟩:=h (by intro h0;subst h0;simp at hne);refine⟨b,a0,e,hb,fun j u hu=>hc j u ?_⟩;rw[List.getElem?_take] at hu;split at hu
 .exact hu
 .cases hu
end
theorem aKD{w w':World}{row:Option Nat}(hg:w.grownBy w' row){B:Nat}(hB:B<=w.heap.size)(hr:∀ g,row=some g->B<=g):Below B w w':=
 (Below.refl B w).grown hg hB hr
theorem aKW{w w':World}(hg:w.grownBy w' none):Below w w w':=aKD hg oN (by intro g h;cases h)
theorem aDF{B:Nat}{a w:World}(h:Below B a w)(n:Nat):Below B a (w.drewN n):=⟨h.os,h.tape,h.output,h.size,h.block⟩
theorem aCB{a b c:World}{row:Option Nat}(h:a.grownBy b row)(k:b.grownBy c row):a.grownBy c row:=
 ⟨k.os.trans h.os,k.tape.trans h.tape,k.output.trans h.output,oV h.size k.size,
  fun i hi hn=>(k.block i (oT hi h.size) hn).trans (h.block i hi hn)⟩
theorem aDa{a w:World}(h:Below a a w)(row:Option Nat):a.grownBy w row:=⟨h.os,h.tape,h.output,h.size,fun i hi _=>h.block i hi⟩
theorem aQx(w:World)(row:Option Nat):w.grownBy w.drew row:=⟨rfl,rfl,rfl,oN,fun _ _ _=>rfl⟩
section
variable {w w':World} {base:Nat} {e:TypeId} {size:Nat} {v:Value} {n:Nat} {xs:List Value}
theorem aQH{C:Nat}(h:w.ownsRow base e size v n xs)(hb:Below C w w')(hC:∀ g,v.ownBlock=some g->g<C):w'.ownsRow base e size v n xs:=by
 refine⟨h.1,?_⟩;rcases h.2 with hn|⟨g,cap,cur,rfl,hbg,hgg,rest⟩
 .exact .inl hn
 exact .inr ⟨g,cap,cur,rfl,hbg,(hb.block g (hC g rfl)).trans hgg,rest⟩
theorem aGO(h:w.ownsRow base e size v n xs)(hb:Below w w w'):w'.ownsRow base e size v n xs:=
 aQH h hb fun g hg=>(h.lt g hg).2
theorem aAh{base':Nat}(h:w.ownsRow base e size v n xs)(hb:base'<=base):w.ownsRow base' e size v n xs:=by
 refine⟨h.1,?_⟩;rcases h.2 with hn|⟨g,cap,cur,rfl,hbg,rest⟩
 .exact .inl hn
 exact .inr ⟨g,cap,cur,rfl,oO,rest⟩
theorem aAc(h:w.ownsRow base e size v n xs):∃ A c,v=.slice A n c/\n<=c/\c<=maxLen:=by
 rcases h.2 with⟨rfl,rfl⟩|⟨g,cap,cur,rfl,_,_,hnc,hcm,_⟩
 .exact⟨none,0,rfl,oN,oZ⟩
 exact⟨_,cap,rfl,hnc,hcm⟩
end
theorem aAd(w:World)(e:TypeId)(size:Nat):(w.alloc (.cells #[] e)).ownsRow w e size (.slice (some ⟨w,0,none⟩) 0 0) 0 []:=
 World.ownsRow_lit (size:=size) w #[] 0 oN oZ oM
theorem aBJ{w:World}{base:Nat}{e:TypeId}{size:Nat}{v:Value}{n:Nat}{xs:List Value}(h:w.ownsRow base e size v n xs)(k:Nat):(w.drewN k).ownsRow base e size v n xs:=h
theorem dn(w:World)(a b:Nat):(w.drewN a).drewN b=w.drewN (a+b):=World.drewN_drewN _ _ _
theorem aJt{w w':World}{row:Option Nat}{n:Nat}(h:(w.drewN n).grownBy w' row):w.grownBy w' row:=⟨h.os,h.tape,h.output,h.size,h.block⟩
def RetI(eI:TypeId)(xs:LI)(w:World)(e:Ending)(w':World):Prop:=
 ∃ A c,e=.returned (.slice A xs.length c)/\w'.ownsRow w.heap.size eI 1 (.slice A xs.length c) xs.length (aAe xs)/\Below w.heap.size w w'
theorem RetI.mk{eI:TypeId}{xs:LI}{w w':World}{v:Value}{n:Nat}(hn:xs.length=n)(h:w'.ownsRow w eI 1 v n (aAe xs))(hb:Below w w w'):RetI eI xs w (.returned v) w':=by
 subst hn;obtain⟨A,c,rfl, -, -⟩:=aAc h;exact⟨A,c,rfl,h,hb⟩
section
variable {P:Program} {W:World} {ops:Array Oper} {rest:List Oper} {o:Oper} {a:Act} {Q:Exit->Act->World->Prop}
theorem aAk(a2:o.guard=none)(s x:Operand)(t:TypeId)(ho:o.op=.call { callee:=.builtin .append,args:=#[s,x],argTypes:=#[t,t] })(base:Nat)(e:TypeId)(z:Value)(size bytes:Nat)(ht:P.underlying t=some (.slice e))(hinfo:(P.info? e).map (fun i=>(i.zero,i.size,i.bytes))=some (some z,size,bytes))(hzs:z.cells.size=size)(hsz:0<size)(v:Value)(n:Nat)(xs:List Value)(hs:a.eval s=v)(hown:W.ownsRow base e size v n xs)(m:Nat)(news:List Value)(hx:a.eval x=.slice (some ⟨W,0,none⟩) m m)(hl:news.length=m * size)(h1:∀ u∈news,u.oneCell'=true)(h63:n+m<=maxLen)(hbytes:(n+m) * bytes<=140737488355328)(hbase:base<=W.heap.size)(h:∀ v' w',w'.ownsRow base e size v' (n+m) (xs++news)->W.grownBy w' v.ownBlock->(v'.ownBlock=v.ownBlock \/ v'.ownBlock=some (W.heap.size+1))->wpList P ops Q rest (a.put o.dst v') w') :
  wpList P ops Q (o::rest) a (W.alloc (.cells news.toArray e)):=by
 obtain⟨i,hi,hz,a0,a1⟩:=info_parts hinfo;refine wpList_append_own_at _ a2 s x t ho base e i z size bytes ht hi hz a0 a1 hzs hsz v n xs hs (hown.alloc _) ⟨W,0,none⟩ m m news hx hl ?_ h1 h63 hbytes (by simp;omega) ?_
 .intro j u hu
  rw[Addr.add_lit,Nat.zero_add,World.cell?_alloc_new]
  simpa using hu
 intro v' w' h2 h3 _ h4;exact h v' w' h2 (aCB (World.grownBy_alloc W _ _) h3) (by simpa using h4)
theorem aFQ(base:Nat)(t ty e:TypeId)(i:TypeInfo)(size:Nat)(ht:P.underlying t=some (.slice e))(hi:P.info? e=some i)(v:Value)(n:Nat)(xs:List Value)(a0:W.ownsRow base e size v n xs)(c:Nat):(Builtin.append_ #[t,t] ty #[v,.slice none 0 c]).run P W=.ok v W:=by
 rcases a0.2 with⟨rfl,rfl⟩|⟨g,cap,cur,rfl,_,_,hnc,_⟩
 .simp[Builtin.append_,run_underlying ht,sizeOf,typeInfo,hi,Builtin.lenOf,Builtin.firstCells]
 simp[Builtin.append_,run_underlying ht,sizeOf,typeInfo,hi,Builtin.lenOf,Builtin.firstCells,hnc,storeCells]
theorem aBY(a2:o.guard=none)(s x:Operand)(t:TypeId)(ho:o.op=.call { callee:=.builtin .append,args:=#[s,x],argTypes:=#[t,t] })(base:Nat)(e:TypeId)(z:Value)(size bytes:Nat)(ht:P.underlying t=some (.slice e))(hinfo:(P.info? e).map (fun i=>(i.zero,i.size,i.bytes))=some (some z,size,bytes))(hzs:z.cells.size=size)(hsz:0<size)(v:Value)(n:Nat)(xs:List Value)(hs:a.eval s=v)(hown:W.ownsRow base e size v n xs)(A:OA)(m c B:Nat)(news:List Value)(hx:a.eval x=.slice A m c)(hr:Rs W B A news)(hl:news.length=m * size)(h1:∀ u∈news,u.oneCell'=true)(h63:n+m<=maxLen)(hbytes:(n+m) * bytes<=140737488355328)(hbase:base<=W.heap.size)(h:∀ v' w',w'.ownsRow base e size v' (n+m) (xs++news)->W.grownBy w' v.ownBlock->(v'.ownBlock=v.ownBlock \/ v'.ownBlock=some W.heap.size)->wpList P ops Q rest (a.put o.dst v') w') :
  wpList P ops Q (o::rest) a W:=by
 obtain⟨i,hi,hz,a0,a3⟩:=info_parts hinfo;cases A with
|none=>
  have hn:news=[]:=by
   cases hne:news with
  |nil=>rfl
  |cons u r=>
    obtain⟨b,a4,he,_⟩:=hr (by rw[hne];simp);cases he
  subst hn;have hm:m=0:=by
   rcases Nat.eq_zero_or_pos m with h0|h0
   .exact h0
   have:=Nat.mul_pos h0 hsz;simp at hl;omega
  subst hm;refine wpList_plain a2 fun K hK=>?_;have a1:=aFQ (P:=P) (W:=W) base t o.type e i size ht hi v n xs hown c;unfold Oper.wp;simp[execOp,ho,resolve,invoke,builtin,hs,hx,a1,Result.andThen];exact hK _ _ (h v W (by simpa using hown) (World.grownBy.refl W _) (Or.inl rfl))
|some ad=>
  refine wpList_append_own_at _ a2 s x t ho base e i z size bytes ht hi hz a0 a3 hzs hsz v n xs hs hown ad m c news hx hl ?_ h1 h63 hbytes hbase ?_
  .intro j u hu
   obtain⟨b,a4,he,_,hc⟩:=hr (by intro h0;subst h0;simp at hu);injection he with he
   subst he;rw[Addr.add_lit];exact hc j u hu
  intro v' w' h2 h3 _ h4;exact h v' w' h2 h3 h4
theorem aDZ(a3:o.guard=none)(l c:Operand)(t:TypeId)(a4:o.op=Op.makeSlice t l c)(e:TypeId)(z:Value)(bytes:Nat)(ht:P.underlying t=some (.slice e))(a0:(P.info? e).map (fun i=>(i.zero,i.size,i.bytes))=some (some z,1,bytes))(a5:z.cells=#[z])(kl kc:IntKind)(L C:Int)(n:Nat)(hl:a.eval l=.int kl L)(hc:a.eval c=.int kc C)(hL:L=(n:Int))(hC:C=(n:Int))(b2:bytes * n<=281474976710656)(b3:n<=maxLen)(hK:∀ w',w'.ownsRow W e 1 (.slice (some ⟨W,0,none⟩) n n) n (List.replicate n z)->W.grownBy w' none->W.heap.size<w'.heap.size->wpList P ops Q rest (a.put o.dst (.slice (some ⟨W,0,none⟩) n n)) w') :
  wpList P ops Q (o::rest) a W:=by
 obtain⟨i,hi,hz,a1,a2⟩:=info_parts a0;refine wpList_make_full W a3 l c t a4 W e i z 1 ht hi hz a1 kl kc L C n hl hc hL hC (by rw[a2];exact b2) b3 oN ?_;intro w' h1 h2;rw[a5,Nat.mul_one,toList_madeCells_one] at h1;exact hK w' h1 h2 ((h1.lt W rfl).2)
end
section
variable {w w' w0:World} {base B:Nat} {e:TypeId} {g n cap:Nat} {xs ys:List Value}
theorem aBF(h:w.ownsRow base e 1 (.slice (some ⟨g,0,none⟩) n cap) n xs)(j:Nat)(u:Value)(hy:xs.set j u=ys) :
  (w.setCell ⟨g,j,none⟩ u).ownsRow base e 1 (.slice (some ⟨g,0,none⟩) n cap) n ys:=by
 subst hy;exact(h.stored j u).1
theorem aEC(h:w.ownsRow base e 1 (.slice (some ⟨g,0,none⟩) n cap) n xs){j:Nat}(hj:j<n):∃ u,xs[j]?=some u/\w.cell? ⟨g,j,none⟩=some u:=by
 have hl:j<xs.length:=by have:=h.1;omega
 exact⟨xs[j],List.getElem?_eq_getElem hl,(h.cellAt j oO).trans (List.getElem?_eq_getElem hl)⟩
end
theorem aUO{α:Type}(xs ys:List α)(y x:α):(xs++y::ys).set xs.length x=(xs++[x])++ys:=by simp
theorem aAS{w:World}{base:Nat}{e:TypeId}{size:Nat}{A:OA}{n c:Nat}{xs:List Value}(h:w.ownsRow base e size (.slice A n c) n xs)(hn:0<n) :
  ∃ g,A=some ⟨g,0,none⟩/\base<=g/\g<w.heap.size:=by
 rcases h.2 with⟨_,h0⟩|⟨g,cap,cur,hv,hbg,hh,_⟩
 .omega
 injection hv with hA
 exact⟨g,hA,hbg,(Array.getElem?_eq_some_iff.1 hh).1⟩
theorem aTA{α:Type}(ys xs:List α)(u:α){k:Nat}(hy:ys.length=k)(h:k<xs.length):(ys++xs.drop k).set k u=(ys++[u])++xs.drop (k+1):=by
 subst hy;rw[List.drop_eq_getElem_cons h,aUO]
theorem aBD{a w:World}{g:Nat}(h:a.grownBy w (some g))(i:Nat)(u:Value):a.grownBy (w.setCell ⟨g,i,none⟩ u) (some g):=
 ⟨h.os,h.tape,h.output,by simpa [World.setCell] using h.size,fun k hk hne=>(Below.heap_setCell w _ u k (by rintro rfl;exact hne rfl)).trans (h.block k hk hne)⟩
theorem aAm(xs:LI):∀ u∈aAe xs,u.oneCell'=true:=ints_oneCell .i64 xs
def aQV(k:Nat):LI:=(List.range k).map (fun(i:Nat)=>(i:Int))
theorem aNY(k:Nat):aQV (k+1)=aQV k++[(k:Int)]:=by simp[aQV,List.range_succ]
theorem aJx(k:Nat):(aQV k).length=k:=by simp[aQV]
def aVV(k:Int)(n:Nat):LI:=(List.range n).map (fun(i:Nat)=>k+(i:Int))
theorem aAw{α:Type}(xs:List α){k:Nat}{x:α}(h:xs[k]?=some x):xs.take (k+1)=xs.take k++[x]:=by
 rw[List.take_add_one,h];rfl
theorem aOr{α:Type}(xs:List α){k:Nat}{x:α}(h:xs[k]?=some x):xs.drop k=x::xs.drop (k+1):=by
 obtain⟨hk,rfl⟩:=List.getElem?_eq_some_iff.1 h;exact List.drop_eq_getElem_cons hk
theorem aAy{α:Type}(xs:List α){k:Nat}(h:k<xs.length):∃ x,xs[k]?=some x:=⟨_,List.getElem?_eq_getElem h⟩
theorem Rs.int{w:World}{B:Nat}{A:OA}{xs:LI}(h:Rs w B A (aAe xs)){k:Nat}(hk:k<xs.length) :
  ∃ b a0 x,A=some ⟨b,a0,none⟩/\b<B/\xs[k]?=some x/\w.cell? ⟨b,a0+k,none⟩=some (.int .i64 x):=by
 obtain⟨b,a0,u,e,hb,hu,hc⟩:=h.at (j:=k) (by simpa [aAe] using hk);rw[aAP] at hu;obtain⟨x,hx⟩:=aAy xs hk;rw[hx] at hu;simp at hu;subst hu;exact⟨b,a0,x,e,hb,hx,hc⟩
section
variable {P:Program} {f:FuncId} {args:Array Value} {v:Value}
theorem qz0{W:World}{n:Nat}(h:Calls P f args (W.drewN n) fun e w'=>e=.returned v/\∃ m,w'=(W.drewN n).drewN m) :
  Calls P f args (W.drewN n) fun e w''=>e=.returned v/\∃ m,w''=W.drewN m:=Calls.quiet_of h
theorem qz1{w:World}{a n:Nat}(h:Calls P f args (w.drewN (a+n)) fun e w'=>e=.returned v/\∃ m,w'=(w.drewN (a+n)).drewN m) :
  Calls P f args (w.drewN (a+n)) fun e w''=>e=.returned v/\∃ m,w''=w.drewN (a+m):=
 h.mono fun _ _ ⟨he,m,hm⟩=>⟨he,n+m,by rw[hm,World.drewN_drewN,Nat.add_assoc]⟩
theorem pq{W:World}(h:Calls P f args W fun e w'=>e=.returned v/\W=w'):Calls P f args W fun e w'=>e=.returned v/\∃ m,w'=W.drewN m:=
 h.mono fun _ _ ⟨he,hw⟩=>⟨he,0,hw ▸ rfl⟩
end
end
section
open Go.RowKit
def OkI(xs:LI):Prop:=∀ x∈xs, -9223372036854775808<=x/\x<=9223372036854775807
structure Mid (lo hi:Nat) (w w':World):Prop where
 os:w'.os=w.os
 tape:w'.tape=w.tape
 output:w'.output=w.output
 size:w.heap.size<=w'.heap.size
 block:∀ k,k<w.heap.size->¬ (lo<=k/\k<hi)->w'.heap[k]?=w.heap[k]?
theorem Mid.of_grown{lo hi:Nat}{w w':World}{row:Option Nat}(h:w.grownBy w' row)(hr:∀ g,row=some g->lo<=g/\g<hi):Mid lo hi w w':=
 ⟨h.os,h.tape,h.output,h.size,fun k hk hn=>h.block k hk (fun e=>hn (hr k e.symm))⟩
theorem Mid.trans{lo hi:Nat}{a b c:World}(h:Mid lo hi a b)(k:Mid lo hi b c):Mid lo hi a c:=
 ⟨k.os.trans h.os,k.tape.trans h.tape,k.output.trans h.output,oV h.size k.size,
  fun i hi' hn=>(k.block i (oT hi' h.size) hn).trans (h.block i hi' hn)⟩
theorem Mid.refl(lo hi:Nat)(w:World):Mid lo hi w w:=⟨rfl,rfl,rfl,oN,fun _ _ _=>rfl⟩
theorem Mid.of_below{lo hi:Nat}{w w':World}(h:Below w w w'):Mid lo hi w w':=⟨h.os,h.tape,h.output,h.size,fun k hk _=>h.block k hk⟩
theorem Mid.drewN{lo hi:Nat}{w w':World}(h:Mid lo hi w w')(n:Nat):Mid lo hi w (w'.drewN n):=⟨h.os,h.tape,h.output,h.size,h.block⟩
theorem Mid.alloc(w:World)(o:Obj):Mid 0 0 w (w.alloc o):=Mid.of_grown (World.grownBy_alloc w o none) (by intro g h;cases h)
abbrev oE:=@Mid.alloc
theorem Mid.setCell(w:World){lo hi:Nat}{p:Addr}(u:Value)(h1:lo<=p.block)(h2:p.block<hi):Mid lo hi w (w.setCell p u):=
 ⟨rfl,rfl,rfl,by simp[World.setCell],fun k _ hn=>Below.heap_setCell w p u k (by rintro rfl;exact hn ⟨h1,h2⟩)⟩
theorem Mid.grownNew{lo hi:Nat}{w wr w':World}{row:Option Nat}(h:Mid lo hi w wr)(hg:wr.grownBy w' row)(hr:∀ g,row=some g->w.heap.size<=g):Mid lo hi w w':=
 ⟨hg.os.trans h.os,hg.tape.trans h.tape,hg.output.trans h.output,oV h.size hg.size,fun k hk hn=>
  (hg.block k (oT hk h.size) (fun e=>by have:=hr k e.symm;omega)).trans (h.block k hk hn)⟩
theorem Mid.storeNew{lo hi:Nat}{w wr:World}{p:Addr}(h:Mid lo hi w wr)(hp:w.heap.size<=p.block)(u:Value):Mid lo hi w (wr.setCell p u):=
 ⟨h.os,h.tape,h.output,by simpa [World.setCell] using h.size,fun k hk hn=>(Below.heap_setCell wr p u k oO).trans (h.block k hk hn)⟩
abbrev oQ:=@Mid.storeNew
theorem Mid.zero{lo hi:Nat}{w w':World}(h:Mid 0 0 w w'):Mid lo hi w w':=⟨h.os,h.tape,h.output,h.size,fun k hk _=>h.block k hk oO⟩
theorem Mid.bel{w w':World}(h:Mid 0 0 w w'):Below w w w':=⟨h.os,h.tape,h.output,h.size,fun k hk=>h.block k hk oO⟩
def RV(w:World)(lo hi:Nat)(A:OA)(cs:List Value):Prop:=
 hi<=w.heap.size/\(cs≠[]->∃ b off,A=some ⟨b,off,none⟩/\lo<=b/\b<hi/\∀ j u,cs[j]?=some u->w.cell? ⟨b,off+j,none⟩=some u)
theorem RV.rs{w:World}{lo hi:Nat}{A:OA}{cs:List Value}(h:RV w lo hi A cs):Rs w hi A cs:=fun hn=>by
 obtain⟨b,a0,e,_,hb,hc⟩:=h.2 hn;exact⟨b,a0,e,hb,hc⟩
theorem RV.rsS{w:World}{lo hi:Nat}{A:OA}{cs:List Value}(h:RV w lo hi A cs):Rs w w A cs:=h.rs.more h.1
theorem RV.of_rs{w:World}{hi:Nat}{A:OA}{cs:List Value}(h:Rs w hi A cs)(hs:hi<=w.heap.size):RV w 0 hi A cs:=⟨hs,fun hn=>by
 obtain⟨b,a0,e,hb,hc⟩:=h hn;exact⟨b,a0,e,oZ,hb,hc⟩⟩
theorem RV.mid{w w':World}{lo hi a b:Nat}{A:OA}{cs:List Value}(h:RV w lo hi A cs)(m:Mid a b w w')(hd:b<=lo \/ hi<=a:=by omega):RV w' lo hi A cs:=
 ⟨oV h.1 m.size,fun hn=>by
  obtain⟨g,a0,e,h1,h2,hc⟩:=h.2 hn;have hs:=h.1;exact⟨g,a0,e,h1,h2,fun j u hu=>(World.cell?_of_block (m.block g oO oO)).trans (hc j u hu)⟩⟩
theorem RV.wide{w:World}{lo hi lo' hi':Nat}{A:OA}{cs:List Value}(h:RV w lo hi A cs)(h1:lo'<=lo)(h2:hi<=hi')(h3:hi'<=w.heap.size):RV w lo' hi' A cs:=
 ⟨h3,fun hn=>by
  obtain⟨g,a0,e,ha,hb,hc⟩:=h.2 hn;exact⟨g,a0,e,oO,oO,hc⟩⟩
def OV(w:World)(lo hi:Nat)(e:TypeId)(size:Nat)(A:OA)(c n:Nat)(cs:List Value):Prop:=
 hi<=w.heap.size/\w.ownsRow lo e size (.slice A n c) n cs/\∀ g,Value.ownBlock (.slice A n c)=some g->g<hi
section
variable {w w':World} {lo hi a b:Nat} {e:TypeId} {size:Nat} {A:OA} {c n:Nat} {cs:List Value}
theorem OV.new{w0:World}(h:w.ownsRow w0 e size (.slice A n c) n cs):OV w w0 w e size A c n cs:=
 ⟨oN,h,fun g hg=>(h.lt g hg).2⟩
theorem OV.mid(h:OV w lo hi e size A c n cs)(m:Mid a b w w')(hd:b<=lo \/ hi<=a:=by omega):OV w' lo hi e size A c n cs:=by
 refine⟨oV h.1 m.size,⟨h.2.1.1,?_⟩,h.2.2⟩;rcases h.2.1.2 with hn|⟨g,cap,cur,hv,hbg,hgg,rest⟩
 .exact .inl hn
 refine .inr ⟨g,cap,cur,hv,hbg,?_,rest⟩;have a0:=h.2.2 g (by rw[hv];rfl);rw[m.block g (Array.getElem?_eq_some_iff.1 hgg).1 oO];exact hgg
theorem OV.rv(h:OV w lo hi e size A c n cs):RV w lo hi A cs:=⟨h.1,fun hn=>by
 obtain⟨g,a0,hA,_,hc⟩:=Rs.of_own h.2.1 hn;have hg:Value.ownBlock (.slice A n c)=some g:=by rw[hA];rfl
 exact⟨g,a0,hA,(h.2.1.lt g hg).1,h.2.2 g hg,hc⟩⟩
theorem OV.wide{lo' hi':Nat}(h:OV w lo hi e size A c n cs)(h1:lo'<=lo)(h2:hi<=hi')(h3:hi'<=w.heap.size):OV w lo' hi' e size A c n cs:=
 ⟨h3,aAh h.2.1 h1,fun g hg=>by have:=h.2.2 g hg;omega⟩
end
theorem aBd{w:World}{b b':Nat}{e e':TypeId}{s s':Nat}{v v':Value}{n n':Nat}{xs xs':List Value}(h:w.ownsRow b e s v n xs)(h':w.ownsRow b' e' s' v' n' xs')(a0:e≠e') :
  v.ownBlock=none \/ v.ownBlock≠v'.ownBlock:=by
 rcases h.2 with⟨rfl,_⟩|⟨g,cap,cur,rfl,_,hg,_⟩
 .exact .inl rfl
 rcases h'.2 with⟨rfl,_⟩|⟨g',cap',cur',rfl,_,hg',_⟩
 .exact .inr (by simp[Value.ownBlock])
 refine .inr fun he=>?_;have:g=g':=by simpa [Value.ownBlock] using he
 subst this;rw[hg] at hg';injection hg' with hg'
 injection hg' with _ ht
 exact a0 ht
theorem aAZ(w:World)(g j:Nat)(u:Value):w.grownBy (w.setCell ⟨g,j,none⟩ u) (some g):=aBD (World.grownBy.refl w _) j u
structure Row where
 A:OA
 c:Nat
 xs:LI
def Row.v(r:Row):Value:=.slice r.A r.xs.length r.c
def aBi(rows:List Row):List Value:=rows.map Row.v
def aAt(rows:List Row):LL:=rows.map Row.xs
theorem aCx(rows:List Row):(aBi rows).length=rows.length:=by simp[aBi]
theorem aAD(rows:List Row):(aAt rows).length=rows.length:=by simp[aAt]
theorem aBg(a b:List Row):aBi (a++b)=aBi a++aBi b:=by simp[aBi]
theorem aAv(a b:List Row):aAt (a++b)=aAt a++aAt b:=by simp[aAt]
theorem aKh(rows:List Row):∀ u∈aBi rows,u.oneCell'=true:=by
 intro u hu;obtain⟨r,_,rfl⟩:=List.mem_map.1 hu
 rfl
def RSS(w:World)(lo hi:Nat)(A:OA)(xss:LL):Prop:=
 ∃ rows,aAt rows=xss/\RV w lo hi A (aBi rows)/\∀ r∈rows,RV w lo hi r.A (aAe r.xs)
section
variable {w w':World} {lo hi a b:Nat} {A:OA} {xss:LL}
theorem RSS.size(h:RSS w lo hi A xss):hi<=w.heap.size:=by obtain⟨_,_,h,_⟩:=h;exact h.1
theorem RSS.mid(h:RSS w lo hi A xss)(m:Mid a b w w')(hd:b<=lo \/ hi<=a:=by omega):RSS w' lo hi A xss:=by
 obtain⟨rows,h1,h2,h3⟩:=h;exact⟨rows,h1,h2.mid m hd,fun r hr=>(h3 r hr).mid m hd⟩
theorem RSS.nil(hs:hi<=w.heap.size):RSS w lo hi A []:=⟨[],rfl,⟨hs,fun h=>absurd rfl h⟩,by simp⟩
theorem RSS.row(h:RSS w lo hi A xss){k:Nat}(hk:k<xss.length) :
  ∃ b a0 A' c' xs,A=some ⟨b,a0,none⟩/\lo<=b/\b<hi/\xss[k]?=some xs/\w.cell? ⟨b,a0+k,none⟩=some (.slice A' xs.length c')/\RV w lo hi A' (aAe xs):=by
 obtain⟨rows,rfl,h2,h3⟩:=h;rw[aAD] at hk;obtain⟨b,a0,e,hb,a1,hc⟩:=h2.2 (by intro h0;have:=congrArg List.length h0;rw[aCx] at this;simp at this;subst this;simp at hk);obtain⟨r,hr⟩:=aAy rows hk;refine⟨b,a0,r.A,r.c,r.xs,e,hb,a1,by simp[aAt,hr],hc k _ (by simp[aBi,hr,Row.v]),h3 r (oG hr)⟩
end
def OwnRows(w:World)(lo hi:Nat)(tI:TypeId)(rows:List Row):Prop:=
 (∀ r∈rows,OV w lo hi tI 1 r.A r.c r.xs.length (aAe r.xs))/\rows.Pairwise (fun r s=>r.v.ownBlock=none \/ r.v.ownBlock≠s.v.ownBlock)
def OSS(w:World)(lo hi:Nat)(tSI tI:TypeId)(A:OA)(c:Nat)(xss:LL):Prop:=
 hi<=w.heap.size/\∃ rows,aAt rows=xss/\OV w lo hi tSI 1 A c xss.length (aBi rows)/\OwnRows w lo hi tI rows
section
variable {w w':World} {lo hi a b:Nat} {tSI tI:TypeId} {A:OA} {c:Nat} {xss:LL} {rows:List Row}
theorem OwnRows.mid(h:OwnRows w lo hi tI rows)(m:Mid a b w w')(hd:b<=lo \/ hi<=a:=by omega):OwnRows w' lo hi tI rows:=⟨fun r hr=>(h.1 r hr).mid m hd,h.2⟩
theorem OwnRows.wide{lo' hi':Nat}(h:OwnRows w lo hi tI rows)(h1:lo'<=lo)(h2:hi<=hi')(h3:hi'<=w.heap.size):OwnRows w lo' hi' tI rows:=⟨fun r hr=>(h.1 r hr).wide h1 h2 h3,h.2⟩
theorem OwnRows.nil:OwnRows w lo hi tI []:=⟨by simp,List.Pairwise.nil⟩
theorem OwnRows.grown{bb:Nat}{e':TypeId}{s':Nat}{v':Value}{n':Nat}{xs':List Value}(h:OwnRows w lo hi tI rows)(ho:w.ownsRow bb e' s' v' n' xs')(a0:tI≠e')(hg:w.grownBy w' v'.ownBlock):OwnRows w' lo hi tI rows:=
 ⟨fun r hr=>by
  obtain⟨h1,h2,h3⟩:=h.1 r hr;exact⟨oV h1 hg.size,h2.kept hg (aBd h2 ho a0),h3⟩,h.2⟩
theorem OwnRows.push{base hi':Nat}{r:Row}(h:OwnRows w lo hi tI rows)(hr:w.ownsRow base tI 1 r.v r.xs.length (aAe r.xs))(hb:hi<=base)(hl:lo<=base)(hh:hi<=hi')(hs:hi'<=w.heap.size)(a0:∀ g,r.v.ownBlock=some g->g<hi') :
  OwnRows w lo hi' tI (rows++[r]):=by
 refine⟨fun s hs'=>?_,?_⟩
 .rcases List.mem_append.1 hs' with hm|hm
  .exact(h.1 s hm).wide oN hh hs
  simp at hm;subst hm;exact⟨hs,aAh hr hl,a0⟩
 rw[List.pairwise_append];refine⟨h.2,by simp,fun s hsm t ht=>?_⟩;simp at ht;subst ht;cases hv:s.v.ownBlock with
|none=>exact .inl rfl
|some g=>
  refine .inr fun e=>?_;have h1:=(h.1 s hsm).2.2 g hv;have h2:=(hr.lt g e.symm).1;omega
theorem OSS.size(h:OSS w lo hi tSI tI A c xss):hi<=w.heap.size:=h.1
theorem OSS.mid(h:OSS w lo hi tSI tI A c xss)(m:Mid a b w w')(hd:b<=lo \/ hi<=a:=by omega):OSS w' lo hi tSI tI A c xss:=by
 obtain⟨h0,rows,h1,h2,h3⟩:=h;exact⟨oV h0 m.size,rows,h1,h2.mid m hd,h3.mid m hd⟩
theorem OSS.wide{lo' hi':Nat}(h:OSS w lo hi tSI tI A c xss)(h1:lo'<=lo)(h2:hi<=hi')(h3:hi'<=w.heap.size):OSS w lo' hi' tSI tI A c xss:=by
 obtain⟨_,rows,ha,hb,hc⟩:=h;exact⟨h3,rows,ha,hb.wide h1 h2 h3,hc.wide h1 h2 h3⟩
theorem OSS.rss(h:OSS w lo hi tSI tI A c xss):RSS w lo hi A xss:=by
 obtain⟨_,rows,h1,h2,h3⟩:=h;exact⟨rows,h1,h2.rv,fun r hr=>(h3.1 r hr).rv⟩
end
end
theorem Mid.s3(w:World)(g:Nat)(a b c:Value):Mid g (g+1) w (((w.setCell ⟨g,0,none⟩ a).setCell ⟨g,1,none⟩ b).setCell ⟨g,2,none⟩ c):=((Mid.setCell w (p:=⟨g,0,none⟩) a oN oS).trans (Mid.setCell _ (p:=⟨g,1,none⟩) b oN oS)).trans (Mid.setCell _ (p:=⟨g,2,none⟩) c oN oS)
theorem Mid.n3{lo hi:Nat}{w wr:World}(m:Mid lo hi w wr)(g:Nat)(h:w.heap.size<=g)(a b c:Value):Mid lo hi w (((wr.setCell ⟨g,0,none⟩ a).setCell ⟨g,1,none⟩ b).setCell ⟨g,2,none⟩ c):=((m.storeNew (p:=⟨g,0,none⟩) h a).storeNew (p:=⟨g,1,none⟩) h b).storeNew (p:=⟨g,2,none⟩) h c
section
open Go.RowKit
def Box(w:World)(b:Nat)(cs:List Value):Prop:=b<w.heap.size/\(∀ i u,cs[i]?=some u->w.cell? ⟨b,i,none⟩=some u)/\∀ i,w.frozen? ⟨b,i,none⟩=false
section
variable {w w':World} {b lo hi:Nat} {cs ys:List Value}
theorem Box.new(w:World)(a:Array Value)(t:TypeId):Box (w.alloc (.cells a t)) w a.toList:=
 ⟨by simp,fun i u hu=>(World.cell?_alloc_at _ _ _ _ rfl).trans (by simpa using hu),fun i=>World.frozen?_alloc_at _ _ _ _ rfl⟩
abbrev oJ:=@Box.new
theorem Box.mid(h:Box w b cs)(m:Mid lo hi w w')(hd:b<lo \/ hi<=b:=by omega):Box w' b cs:=
 ⟨oT h.1 m.size,fun i u hu=>(World.cell?_of_block (m.block b h.1 oO)).trans (h.2.1 i u hu),fun i=>(World.frozen?_of_block (m.block b h.1 oO)).trans (h.2.2 i)⟩
theorem Box.cell(h:Box w b cs)(i:Nat){u:Value}(hu:cs[i]?=some u):w.cell? ⟨b,i,none⟩=some u:=h.2.1 i u hu
theorem Box.set(h:Box w b cs)(i:Nat)(u:Value)(hi:i<cs.length)(hy:cs.set i u=ys):Box (w.setCell ⟨b,i,none⟩ u) b ys:=by
 subst hy;have hc:=h.2.1 i cs[i] (List.getElem?_eq_getElem hi);refine⟨by simpa using h.1,fun j v hv=>?_,fun j=>by rw[World.frozen?_setCell];exact h.2.2 j⟩;by_cases hj:j=i
 .subst hj
  rw[List.getElem?_set_self hi] at hv;rw[World.cell?_setCell_same w _ u hc];exact hv
 rw[List.getElem?_set_ne (Ne.symm hj)] at hv;rw[World.cell?_setCell_other w _ _ u (by intro e;injection e;omega)];exact h.2.1 j v hv
theorem Box.drewN(h:Box w b cs)(n:Nat):Box (w.drewN n) b cs:=h
theorem Mid.of_grownRow{base:Nat}{e:TypeId}{size:Nat}{v:Value}{n:Nat}{xs:List Value}(h:w.ownsRow base e size v n xs)(hg:w.grownBy w' v.ownBlock):Mid base w w w':=
 Mid.of_grown hg fun g hg'=>h.lt g hg'
abbrev oF:=@Mid.of_grownRow
theorem aAb{base:Nat}{e:TypeId}{size:Nat}{v:Value}{n:Nat}{xs:List Value}(h:w.ownsRow base e size v n xs)(m:Mid lo hi w w')(hd:hi<=base \/ w.heap.size<=lo):w'.ownsRow base e size v n xs:=by
 refine⟨h.1,?_⟩;rcases h.2 with hn|⟨g,cap,cur,hv,hbg,hgg,rest⟩
 .exact .inl hn
 refine .inr ⟨g,cap,cur,hv,hbg,?_,rest⟩;have a0:=(Array.getElem?_eq_some_iff.1 hgg).1;rw[m.block g a0 oO];exact hgg
theorem Mid.drew1(w:World):Mid 0 0 w w.drew:=⟨rfl,rfl,rfl,oN,fun _ _ _=>rfl⟩
theorem Mid.transNew{a b:Nat}{wa:World}(h:Mid lo hi w wa)(m:Mid a b wa w')(ha:w.heap.size<=a \/ b=0):Mid lo hi w w':=
 ⟨m.os.trans h.os,m.tape.trans h.tape,m.output.trans h.output,oV h.size m.size,fun k hk hn=>
  (m.block k (oT hk h.size) oO).trans (h.block k hk hn)⟩
theorem OSS.mk'{tSI tI:TypeId}{A:OA}{c:Nat}{rows:List Row}{n:Nat}{base:Nat}{xss:LL}(h:w.ownsRow base tSI 1 (.slice A n c) n (aBi rows))(hr:OwnRows w base w tI rows)(hd:aAt rows=xss) :
  OSS w base w tSI tI A c xss:=by
 have hl:xss.length=n:=by rw[<- hd,aAD,<- aCx];simpa using h.1
 subst hl;exact⟨oN,rows,hd,⟨oN,h,fun g hg=>(h.lt g hg).2⟩,hr⟩
theorem OSS.nil{tSI tI:TypeId}:OSS w lo w tSI tI none 0 []:=⟨oN,[],rfl,⟨oN,⟨rfl,.inl ⟨rfl,rfl⟩⟩,fun g hg=>by simp[Value.ownBlock] at hg⟩,OwnRows.nil⟩
end
end
theorem Box.c3{w:World}{g:Nat}{cs:List Value}{a b c:Value}(B:Box w g cs)(h:(cs[0]?,cs[1]?,cs[2]?)=(some a,some b,some c)):w.cell? ⟨g,0,none⟩=some a/\w.cell? ⟨g,1,none⟩=some b/\w.cell? ⟨g,2,none⟩=some c:=⟨B.cell 0 (congrArg (·.1) h),B.cell 1 (congrArg (·.2.1) h),B.cell 2 (congrArg (·.2.2) h)⟩
theorem Box.s3{w:World}{g:Nat}{x y z:Value}(B:Box w g [x,y,z])(a b c:Value):Box (((w.setCell ⟨g,0,none⟩ a).setCell ⟨g,1,none⟩ b).setCell ⟨g,2,none⟩ c) g [a,b,c]:=((B.set 0 a oM rfl).set 1 b oM rfl).set 2 c oM rfl
theorem aBs:(Tryz.prog.info? 3).map (fun i=>(i.zero,i.size,i.bytes))=some (some (.int .i64 0),1,8):=by kernel_rfl
theorem aUs:(Tryz.prog.info? 4).map (fun i=>(i.zero,i.size,i.bytes))=some (some (.bool false),1,1):=by kernel_rfl
theorem aBo:Tryz.prog.underlying 44=some (.slice 3):=by kernel_rfl
theorem aUS:Tryz.prog.underlying 121=some (.slice 4):=by kernel_rfl
def inB(x lo hi:Int):Bool:=decide (lo<=x) && decide (x<=hi)
theorem aAu(x lo hi:Int)(w:World) :
  Calls Tryz.prog 108 #[x,lo,hi] w fun e w'=>e=.returned (.bool (inB x lo hi))/\w=w':=by
 go_enter Tryz.func108,Tryz.ntmps108
 go_wp2_with fail;all_goals
  go_ret;exact⟨by simp[inB];omega,rfl⟩
theorem aBw(x lo hi:Int)(w:World) :
  Calls Tryz.prog 102 #[x,lo,hi] w fun e w'=>e=.returned (.bool (inB x lo hi))/\w=w':=by
 go_enter Tryz.func102,Tryz.ntmps102
 go_wp2_with fail;all_goals
  go_ret;exact⟨by simp[inB];omega,rfl⟩
theorem aDi:(Tryz.prog.info? 44).map (fun i=>(i.zero,i.size,i.bytes))=some (some (.slice none 0 0),1,24):=by kernel_rfl
theorem aDl:Tryz.prog.underlying 24=some (.slice 44):=by kernel_rfl
def aAK(xss:LL):Nat:=(xss.map List.length).sum
theorem aGZ(a b:LL):aAK (a++b)=aAK a+aAK b:=by simp[aAK]
theorem aTD(a:LI):aAK [a]=a.length:=by simp[aAK]
theorem aBI{xss:LL}{k:Nat}{xs:LI}(h:xss[k]?=some xs):aAK (xss.take (k+1))=aAK (xss.take k)+xs.length:=by
 rw[aAw xss h,aGZ,aTD]
theorem aCl(xss:LL)(k:Nat):aAK (xss.take k)<=aAK xss:=by
 have h:=List.take_append_drop k xss;have:=aGZ (xss.take k) (xss.drop k);rw[h] at this;omega
theorem aBm{xss:LL}{xs:LI}(h:xs∈xss):xs.length<=aAK xss:=by
 obtain⟨k,hk⟩:=List.mem_iff_getElem?.1 h;have h1:=aBI hk;have h2:=aCl xss (k+1);omega
theorem aHK{w:World}{base:Nat}{e:TypeId}{size g n cap:Nat}{xs:List Value}(h:w.ownsRow base e size (.slice (some ⟨g,0,none⟩) n cap) n xs){m:Nat}(hm:m<=n) :
  w.ownsRow base e size (.slice (some ⟨g,0,none⟩) m cap) m (xs.take (m * size)):=by
 have a0:m * size<=n * size:=Nat.mul_le_mul_right _ hm;refine⟨?_,?_⟩
 .rw[List.length_take,h.1]
  omega
 rcases h.2 with⟨hv,_⟩|⟨g',cap',cur,hv,hbg,hgg,hnc,hcm,hcs,htake⟩
 .cases hv
 refine .inr ⟨g',cap',cur,?_,hbg,hgg,oO,hcm,hcs,?_⟩
 .injection hv with h1 _ h3
  rw[h1,h3]
 rw[<- htake,List.take_take,Nat.min_eq_left a0]
theorem aGT{out:LI}{x y:Int}(h:y∈aBe out x):y∈out \/ y=x:=by
 unfold aBe at h;split at h
 .split at h
  .exact .inl ((List.dropLast_sublist _).subset h)
  simpa using h
 simp at h;exact .inr h
theorem aIu{out w:LI}{y:Int}(h:y∈red out w):y∈out \/ y∈w:=by
 induction w generalizing out with
|nil=>exact .inl h
|cons x t ih=>
  rw[aCb] at h;rcases ih h with h1|h1
  .rcases aGT h1 with h2|rfl
   .exact .inl h2
   exact .inr (List.mem_cons_self)
  exact .inr (List.mem_cons_of_mem _ h1)
theorem aNH{w:LI}(h:OkI w):OkI (red [] w):=fun x hx=>by
 rcases aIu hx with h1|h1
 .simp at h1
 .exact h x h1
theorem aPO(w:LI){k:Nat}{x:Int}(h:w[k]?=some x)(out:LI):red out (w.take (k+1))=aBe (red out (w.take k)) x:=by
 rw[aAw w h,aBX]
 rfl
theorem aBu(w:LI):(red [] w).length<=w.length:=by
 have:=aMr [] w
 simpa using this
theorem aFT(d:LL):d.flatten.length=aAK d:=by
 simp[aAK,List.length_flatten]
theorem aIY(d:LL){k:Nat}{xs:LI}(h:d[k]?=some xs):red [] (d.take (k+1)).flatten=red (red [] (d.take k).flatten) xs:=by
 rw[aAw d h,List.flatten_append,aBX];simp
theorem aKg{d:LL}(h:∀ xs∈d,OkI xs):OkI d.flatten:=fun x hx=>by
 obtain⟨xs,h1,h2⟩:=List.mem_flatten.1 hx;exact h xs h1 x h2
theorem aMV{α:Type}(l:List α)(h:0<l.length):∃ ys a,l=ys++[a]:=by
 rcases List.eq_nil_or_concat l with rfl|⟨ys,a,e⟩
 .simp at h
 exact⟨ys,a,by rw[e];simp⟩
def Lt3(x:Int):Prop:=x≠0/\-3<=x/\x<=3
def LtW(w:LI):Prop:=∀ x∈w,Lt3 x
def Rd(w:LI):Prop:=∀(a b:LI) (x:Int),w≠a++x::-x::b
theorem Lt3.neg{x:Int}(h:Lt3 x):Lt3 (-x):=by unfold Lt3 at *;omega
theorem Lt3.negI{x:Int}(h:Lt3 x):negI x = -x:=by
 unfold Lt3 at h;unfold Go.Proofs.YtkimajabegojoaaGreat.negI aMc;rw[if_neg oO]
theorem LtW.nil:LtW []:=fun x h=>by simp at h
theorem LtW.left{a b:LI}(h:LtW (a++b)):LtW a:=fun x hx=>h x (List.mem_append_left _ hx)
theorem LtW.right{a b:LI}(h:LtW (a++b)):LtW b:=fun x hx=>h x (List.mem_append_right _ hx)
theorem LtW.app{a b:LI}(h:LtW a)(k:LtW b):LtW (a++b):=fun x hx=>(List.mem_append.1 hx).elim (h x) (k x)
theorem LtW.head{x:Int}{t:LI}(h:LtW (x::t)):Lt3 x:=h x List.mem_cons_self
theorem LtW.tail{x:Int}{t:LI}(h:LtW (x::t)):LtW t:=fun y hy=>h y (List.mem_cons_of_mem _ hy)
theorem LtW.cons{x:Int}{t:LI}(h:Lt3 x)(k:LtW t):LtW (x::t):=fun y hy=>by
 rcases List.mem_cons.1 hy with rfl|hy
 .exact h
 .exact k y hy
theorem LtW.one{x:Int}(h:Lt3 x):LtW [x]:=LtW.cons h LtW.nil
theorem LtW.red{out w:LI}(h:LtW out)(k:LtW w):LtW (red out w):=fun x hx=>(aIu hx).elim (h x) (k x)
theorem aDK{x y:Int}(hx:Lt3 x)(hy:Lt3 y):aFg x y=true↔x = -y:=by
 rw[aJn];unfold Lt3 at *;unfold aMc;omega
theorem Rd.nil:Rd []:=fun a b x h=>by simp at h
theorem Rd.one(y:Int):Rd [y]:=fun a b x h=>by
 have:=congrArg List.length h;simp at this;omega
theorem Rd.left{a b:LI}(h:Rd (a++b)):Rd a:=fun c d x e=>h c (d++b) x (by rw[e];simp)
theorem Rd.right{a b:LI}(h:Rd (a++b)):Rd b:=fun c d x e=>h (a++c) d x (by rw[e];simp)
theorem aBy{α:Type}(l:List α):l=[] \/ ∃ t x,l=t++[x]:=by
 rcases List.eq_nil_or_concat l with h|⟨t,x,h⟩
 .exact .inl h
 exact .inr ⟨t,x,by simpa using h⟩
theorem aHP{α:Type}{a b:List α}{x y:α}(h:a++[x]=b++[y]):a=b/\x=y:=by
 have:=List.append_inj' h rfl;exact⟨this.1,by simpa using this.2⟩
theorem Rd.snoc{w:LI}{x:Int}(h:Rd w)(hl:∀ t a,w=t++[a]->a≠-x):Rd (w++[x]):=by
 intro a b y e;rcases aBy b with rfl|⟨b',z,rfl⟩
 .have e2:w++[x]=(a++[y])++[-y]:=by rw[e];simp
  obtain⟨h1,h2⟩:=aHP e2;exact hl a y h1 oO
 have e2:w++[x]=(a++y::-y::b')++[z]:=by rw[e];simp
 exact h a b' y (aHP e2).1
theorem Rd.last{w:LI}{a x:Int}(h:Rd (w++[a]++[x])):a≠-x:=fun e=>h w [] a (by rw[e];simp)
theorem Rd.step{out:LI}{x:Int}(h:Rd out)(hw:LtW out)(hx:Lt3 x):Rd (aBe out x):=by
 rcases aBy out with rfl|⟨o,a,rfl⟩
 .rw[aBT]
  exact Rd.one x
 have ha:=hw.right.head;cases hb:aFg a x with
|true=>rw[aBt hb];exact h.left
|false=>
  rw[aAT hb];refine h.snoc fun t b e=>?_;obtain⟨-,rfl⟩:=aHP e;intro e2;rw[(aDK ha hx).2 e2] at hb;cases hb
theorem Rd.red{w:LI}:∀ {out:LI},Rd out->LtW out->LtW w->Rd (red out w):=by
 induction w with
|nil=>exact fun h _ _=>h
|cons x t ih=>
  intro out h ho hw;rw[aCb];exact ih (h.step ho hw.head) (LtW.red (w:=[x]) ho (LtW.one hw.head)) hw.tail
theorem aVw{w:LI}:∀ {out:LI},Rd (out++w)->LtW (out++w)->red out w=out++w:=by
 induction w with
|nil=>intro out _ _;simp[aOR]
|cons x t ih=>
  intro out h hw;have hx:=hw.right.head;have e:aBe out x=out++[x]:=by
   rcases aBy out with rfl|⟨o,a,rfl⟩
   .rfl
   refine aAT ?_;have ha:=hw.left.right.head;cases hb:aFg a x with
  |false=>rfl
  |true=>
    have e2:=(aDK ha hx).1 hb;exact absurd (by rw[e2];simp) (h o t a)
  rw[aCb,e,ih (by simpa using h) (by simpa using hw)];simp
theorem aJw{w:LI}(h:Rd w)(hw:LtW w):red [] w=w:=by
 have:=aVw (out:=[]) (w:=w) (by simpa using h) (by simpa using hw)
 simpa using this
theorem aHO{w:LI}(hw:LtW w):Rd (red [] w):=Rd.nil.red LtW.nil hw
theorem aHF{w:LI}(hw:LtW w):LtW (red [] w):=LtW.red LtW.nil hw
theorem aJv{w:LI}(hw:LtW w):red [] (red [] w)=red [] w:=aJw (aHO hw) (aHF hw)
theorem aKm{out:LI}{x:Int}(h:Rd out)(hw:LtW out)(hx:Lt3 x):aBe (aBe out x) (-x)=out:=by
 rcases aBy out with rfl|⟨o,a,rfl⟩
 .rw[aBT]
  exact aBt (out:=[]) ((aDK hx hx.neg).2 oO)
 have ha:=hw.right.head;cases hb:aFg a x with
|true=>
  rw[aBt hb];have e:=(aDK ha hx).1 hb;rcases aBy o with rfl|⟨p,b,rfl⟩
  .rw[aBT,e];rfl
  have a0:=hw.left.right.head;have:aFg b (-x)=false:=by
   cases h2:aFg b (-x) with
  |false=>rfl
  |true=>
    have e2:=(aDK a0 hx.neg).1 h2;exact absurd e2 (by rw[<- e];exact h.last)
  rw[aAT this,e]
|false=>
  rw[aAT hb];exact aBt ((aDK hx hx.neg).2 oO)
theorem aPN{out:LI}{x:Int}(b:LI)(h:Rd out)(hw:LtW out)(hx:Lt3 x):red out (x::-x::b)=red out b:=by
 rw[aCb,aCb,aKm h hw hx]
theorem aUM{b:LI}:∀ {s out:LI},Rd out->LtW out->LtW s->LtW b->red out (s++b)=red out (red s b):=by
 induction b with
|nil=>intro s out _ _ _ _;simp[aOR]
|cons x t ih=>
  intro s out h ho hs hb;have hx:=hb.head;have a0:LtW (aBe s x):=LtW.red (w:=[x]) hs (LtW.one hx);rw[aCb,<- ih h ho a0 hb.tail];rcases aBy s with rfl|⟨o,a,rfl⟩
  .rw[aBT];rfl
  cases hc:aFg a x with
 |false=>rw[aAT hc];simp
 |true=>
   rw[aBt hc];have ha:=hs.right.head;have e:=(aDK ha hx).1 hc;have e2:x = -a:=by omega
   subst e2;have h1:(o++[a])++-a::t=o++(a::-a::t):=by simp
   rw[h1,aBX,aBX,aPN t (h.red ho hs.left) (LtW.red ho hs.left) ha]
theorem aKn{a b:LI}(ha:LtW a)(hb:LtW b):red [] (a++red [] b)=red [] (a++b):=by
 rw[aBX,aBX,<- aUM (s:=[]) (aHO ha) (aHF ha) LtW.nil hb]
 rfl
theorem aMq(a b:LI)(ha:LtW a):red [] (red [] a++b)=red [] (a++b):=by
 rw[aBX,aBX,aJv ha]
def Eqv(a b:LI):Prop:=red [] a=red [] b
theorem Eqv.app{a b c d:LI}(ha:LtW a)(hb:LtW b)(hc:LtW c)(hd:LtW d)(h:Eqv a b)(k:Eqv c d):Eqv (a++c) (b++d):=by
 unfold Eqv at *;rw[<- aMq _ _ ha,<- aKn (aHF ha) hc,h,k,aKn (aHF hb) hd,aMq _ _ hb]
theorem Eqv.toRed{a:LI}(ha:LtW a):Eqv (red [] a) a:=aJv ha
theorem aTg:aAE []=[]:=rfl
theorem aCz(a b:LI):aAE (a++b)=aAE b++aAE a:=by simp[aAE]
theorem aLW{w:LI}(h:LtW w):aAE w=(w.map (- ·)).reverse:=by
 unfold aAE
 congr 1
 exact List.map_congr_left fun x hx=>(h x hx).negI
theorem LtW.inv{w:LI}(h:LtW w):LtW (aAE w):=by
 rw[aLW h];intro x hx;rw[List.mem_reverse,List.mem_map] at hx;obtain⟨y,hy,rfl⟩:=hx;exact(h y hy).neg
theorem aFG{w:LI}(h:LtW w):aAE (aAE w)=w:=by
 rw[aLW h.inv,aLW h,List.map_reverse,List.reverse_reverse,List.map_map]
 conv=>rhs;rw[<- List.map_id w]
 exact List.map_congr_left fun x _=>by simp
theorem aKJ{w:LI}(h:LtW w):∀ {out:LI},Rd out->LtW out->red out (w++aAE w)=out:=by
 induction w with
|nil=>intro out _ _;rfl
|cons x t ih=>
  intro out ho hl;have hx:=h.head;have e:aAE (x::t)=aAE t++[-x]:=by rw[show x::t=[x]++t from rfl,aCz];simp[aAE,hx.negI]
  rw[e,List.cons_append,aCb,<- List.append_assoc,aBX,ih h.tail (ho.step hl hx) (LtW.red (w:=[x]) hl (LtW.one hx))]
  show aBe (aBe out x) (-x)=out
  exact aKm ho hl hx
theorem Eqv.inv_right{w:LI}(h:LtW w):Eqv (w++aAE w) []:=aKJ h Rd.nil LtW.nil
theorem Eqv.inv_left{w:LI}(h:LtW w):Eqv (aAE w++w) []:=by
 have:=Eqv.inv_right h.inv
 rwa [aFG h] at this
theorem Eqv.refl(a:LI):Eqv a a:=rfl
theorem Eqv.symm{a b:LI}(h:Eqv a b):Eqv b a:=Eq.symm h
theorem Eqv.trans{a b c:LI}(h:Eqv a b)(k:Eqv b c):Eqv a c:=Eq.trans h k
theorem Eqv.inv{a b:LI}(ha:LtW a)(hb:LtW b)(h:Eqv a b):Eqv (aAE a) (aAE b):=by
 -- aAE a=aAE a (b aAE b)=(aAE a a) aAE b
 have h1:Eqv (aAE a++(b++aAE b)) (aAE a++[]):=Eqv.app ha.inv ha.inv (hb.app hb.inv) LtW.nil rfl (Eqv.inv_right hb);have h2:Eqv (aAE a++b) []:=(Eqv.app ha.inv ha.inv hb ha rfl h.symm).trans (Eqv.inv_left ha);have h3:Eqv ((aAE a++b)++aAE b) ([]++aAE b):=Eqv.app (ha.inv.app hb) LtW.nil hb.inv hb.inv h2 rfl;rw[List.append_nil] at h1;rw[List.append_assoc] at h3;exact h1.symm.trans h3
theorem Rd.inv{w:LI}(h:Rd w)(hw:LtW w):Rd (aAE w):=by
 intro a b x e;have hl:=hw.inv;rw[e] at hl;have ex:Lt3 x:=hl.right.head;have e2:w=aAE (a++x::-x::b):=by rw[<- e,aFG hw]
 have e3:a++x::-x::b=a++([x]++([-x]++b)):=rfl;rw[e3,aCz,aCz,aCz] at e2;have e4:aAE [x]=[-x]:=by simp[aAE,ex.negI]
 have e5:aAE [-x]=[x]:=by simp[aAE,ex.neg.negI]
 rw[e4,e5] at e2;exact h (aAE b) (aAE a) x (by rw[e2];simp)
structure Ed where
 a:Int
 l:Int
 b:Int
deriving DecidableEq
theorem Ed.ext'{e f:Ed}(h1:e.a=f.a)(h2:e.l=f.l)(h3:e.b=f.b):e=f:=by
 cases e
 cases f
 simp at h1 h2 h3;simp[h1,h2,h3]
def aEM(e f:Ed):Int:=if aGp e.a f.a≠0 then aGp e.a f.a else if aGp e.l f.l≠0 then aGp e.l f.l else aGp e.b f.b
theorem aBC{a b:Int}:aGp a b=0↔a=b:=by
 unfold aGp;split
 .simp;omega
 split
 .simp;omega
 simp;omega
theorem aLG{a b:Int}:aGp a b<0↔a<b:=by
 unfold aGp;split
 .simp;omega
 split
 .simp;omega
 simp;omega
def LtE(e f:Ed):Prop:=e.a<f.a \/ (e.a=f.a/\(e.l<f.l \/ (e.l=f.l/\e.b<f.b)))
theorem aBv{e f:Ed}:aEM e f<0↔LtE e f:=by
 unfold aEM LtE;by_cases h1:aGp e.a f.a=0
 .by_cases h2:aGp e.l f.l=0
  .rw[if_neg (by simpa using h1),if_neg (by simpa using h2),aLG]
   have:=aBC.1 h1;have:=aBC.1 h2;omega
  rw[if_neg (by simpa using h1),if_pos h2,aLG];have:=aBC.1 h1;have:e.l≠f.l:=fun h=>h2 (aBC.2 h);omega
 rw[if_pos h1,aLG];have:e.a≠f.a:=fun h=>h1 (aBC.2 h);omega
theorem aDf{e f:Ed}:aEM e f=0↔e=f:=by
 unfold aEM;constructor
 .intro h
  split at h
  .contradiction
  split at h
  .contradiction
  exact Ed.ext' (aBC.1 (by simpa using ‹¬ aGp e.a f.a≠0›)) (aBC.1 (by simpa using ‹¬ aGp e.l f.l≠0›)) (aBC.1 h)
 rintro rfl;simp[aGp]
theorem LtE.trans{e f g:Ed}(h:LtE e f)(k:LtE f g):LtE e g:=by unfold LtE at *;omega
theorem LtE.irrefl(e:Ed):¬ LtE e e:=by unfold LtE;omega
theorem LtE.tri(e f:Ed):LtE e f \/ e=f \/ LtE f e:=by
 by_cases h:e=f
 .exact .inr (.inl h)
 have:¬ (e.a=f.a/\e.l=f.l/\e.b=f.b):=fun⟨h1,h2,h3⟩=>h (Ed.ext' h1 h2 h3);unfold LtE;omega
theorem LtE.ne{e f:Ed}(h:LtE e f):e≠f:=fun hf=>LtE.irrefl f (hf ▸ h)
theorem LtE.asymm{e f:Ed}(h:LtE e f):¬ LtE f e:=fun k=>LtE.irrefl e (h.trans k)
def Asc(es:List Ed):Prop:=es.Pairwise LtE
theorem aOj:∀ {xs ys:List Ed},Asc xs->Asc ys->(∀ e,e∈xs↔e∈ys)->xs=ys
|[],[],_,_,_=>rfl
|[],y::ys,_,_,h=>absurd ((h y).2 oM) oM
|x::xs,[],_,_,h=>absurd ((h x).1 oM) oM
|x::xs,y::ys,hx,hy,h=>by
  obtain⟨a0,a2⟩:=List.pairwise_cons.1 hx;obtain⟨a1,a4⟩:=List.pairwise_cons.1 hy;have a3:x=y:=by
   have h1:=(h x).1 oM;have h2:=(h y).2 oM;rcases List.mem_cons.1 h1 with rfl|h1
   .rfl
   .rcases List.mem_cons.1 h2 with rfl|h2
    .rfl
    .exact absurd (a0 y h2) (a1 x h1).asymm
  subst a3;rw[aOj a2 a4 (fun e=>?_)];have:=h e;simp only[List.mem_cons] at this;constructor
  .intro he
   rcases this.1 (.inr he) with rfl|h1
   .exact absurd (a0 e he) (LtE.irrefl e)
   .exact h1
  .intro he
   rcases this.2 (.inr he) with rfl|h1
   .exact absurd (a1 e he) (LtE.irrefl e)
   .exact h1
def aCw(e:Ed):List Ed->List Ed
|[]=>[e]
|f::t=>if aEM e f<0 then e::f::t else if aEM e f=0 then f::t else f::aCw e t
theorem aJq{e x:Ed}{l:List Ed}:x∈aCw e l↔x=e \/ x∈l:=by
 induction l with
|nil=>simp[aCw]
|cons f t ih=>
  unfold aCw;split
  .simp
  split
  .rename_i h
   rw[aDf] at h;subst h;simp
  simp only[List.mem_cons,ih];constructor
  .rintro(h|h|h)
   .exact .inr (.inl h)
   .exact .inl h
   exact .inr (.inr h)
  rintro(h|h|h)
  .exact .inr (.inl h)
  .exact .inl h
  exact .inr (.inr h)
theorem aPi{e:Ed}{l:List Ed}(h:Asc l):Asc (aCw e l):=by
 induction l with
|nil=>simp[aCw,Asc]
|cons f t ih=>
  obtain⟨h1,h2⟩:=List.pairwise_cons.1 h;unfold aCw;split
  .rename_i hc
   have hc:=aBv.1 hc;refine List.pairwise_cons.2 ⟨fun x hx=>?_,h⟩;rcases List.mem_cons.1 hx with rfl|hx
   .exact hc
   exact hc.trans (h1 x hx)
  split
  .exact h
  rename_i hc hz;refine List.pairwise_cons.2 ⟨fun x hx=>?_,ih h2⟩;rcases aJq.1 hx with rfl|hx
  .rcases LtE.tri x f with h3|h3|h3
   .exact absurd (aBv.2 h3) hc
   .exact absurd (aDf.2 h3) hz
   exact h3
  exact h1 x hx
theorem aDw(e:Ed)(l:List Ed):(aCw e l).length<=l.length+1:=by
 induction l with
|nil=>simp[aCw]
|cons f t ih=>
  unfold aCw;split
  .simp
  split
  .simp
  simp only[List.length_cons];omega
def aCU(l es:List Ed):List Ed:=es.foldl (fun l e=>aCw e l) l
def canon(es:List Ed):List Ed:=aCU [] es
theorem aCC(l es:List Ed)(e:Ed):aCU l (es++[e])=aCw e (aCU l es):=by simp[aCU]
theorem aLk{x:Ed}{l es:List Ed}:x∈aCU l es↔x∈l \/ x∈es:=by
 induction es generalizing l with
|nil=>simp[aCU]
|cons e t ih=>
  have:aCU l (e::t)=aCU (aCw e l) t:=rfl;rw[this,ih,aJq];simp only[List.mem_cons];constructor
  .rintro((h|h)|h)
   .exact .inr (.inl h)
   .exact .inl h
   exact .inr (.inr h)
  rintro(h|h|h)
  .exact .inl (.inr h)
  .exact .inl (.inl h)
  exact .inr h
theorem aKV{l es:List Ed}(h:Asc l):Asc (aCU l es):=by
 induction es generalizing l with
|nil=>exact h
|cons e t ih=>exact ih (aPi h)
theorem aEF(l es:List Ed):(aCU l es).length<=l.length+es.length:=by
 induction es generalizing l with
|nil=>simp[aCU]
|cons e t ih=>
  have:=ih (aCw e l);have:=aDw e l;have h:aCU l (e::t)=aCU (aCw e l) t:=rfl;rw[h];simp only[List.length_cons];omega
theorem aAO{x:Ed}{es:List Ed}:x∈canon es↔x∈es:=by simp[canon,aLk]
theorem aCI(es:List Ed):Asc (canon es):=aKV List.Pairwise.nil
theorem aDe(es:List Ed):(canon es).length<=es.length:=by have:=aEF [] es;simpa [canon] using this
theorem aPm{es fs:List Ed}(h:Asc fs)(hm:∀ e,e∈fs↔e∈es):fs=canon es:=aOj h (aCI es) fun e=>(hm e).trans aAO.symm
theorem aNE{l es:List Ed}(h:Asc l):aCU l es=canon (l++es):=aPm (aKV h) fun e=>by rw[aLk,List.mem_append]
def edI(es:List Ed):LI:=(es.map fun e=>[e.a,e.l,e.b]).flatten
theorem aEm(es:List Ed):(edI es).length=es.length * 3:=by
 induction es with
|nil=>rfl
|cons m t ih=>simp[edI] at ih |-;omega
theorem aCW(a b:List Ed):edI (a++b)=edI a++edI b:=by simp[edI]
theorem aJi(e:Ed)(t:List Ed):edI (e::t)=e.a::e.l::e.b::edI t:=by simp[edI]
theorem aIe(e:Ed):edI [e]=[e.a,e.l,e.b]:=by simp[edI]
theorem aRx{es:List Ed}{k:Nat}{e:Ed}(h:es[k]?=some e):(edI es)[k * 3]?=some e.a/\(edI es)[k * 3+1]?=some e.l/\(edI es)[k * 3+2]?=some e.b:=by
 induction es generalizing k with
|nil=>simp at h
|cons m t ih=>
  rw[aJi];cases k with
 |zero=>simp at h;subst h;simp
 |succ k=>
   have:=ih (by simpa using h);rw[show(k+1) * 3=k * 3+1+1+1 from by omega]
   simpa using this
theorem aPs(es:List Ed)(k:Nat):edI (es.take k)=(edI es).take (k * 3):=by
 induction es generalizing k with
|nil=>simp[edI]
|cons m t ih=>
  cases k with
 |zero=>simp[edI]
 |succ k=>
   rw[List.take_succ_cons,aJi,aJi,ih,show(k+1) * 3=k * 3+1+1+1 from by omega];simp
theorem aLK(es:List Ed)(k:Nat):edI (es.drop k)=(edI es).drop (k * 3):=by
 induction es generalizing k with
|nil=>simp[edI]
|cons m t ih=>
  cases k with
 |zero=>simp
 |succ k=>
   rw[List.drop_succ_cons,aJi,ih,show(k+1) * 3=k * 3+1+1+1 from by omega];simp
def InG(r s:Int)(e:Ed):Prop:=0<=e.a/\e.a<s/\0<=e.b/\e.b<s/\1<=e.l/\e.l<=r
structure IsGr (r s:Int) (es:List Ed):Prop where
 rank:1<=r/\r<=3
 size:1<=s/\s<=40
 len:es.length<=120
 all:∀ e∈es,InG r s e
 asc:Asc es
def aEN(v x:Int)(e:Ed):Option Int:=if 0<x/\e.l=x/\e.a=v then some e.b else if x<0/\e.l = -x/\e.b=v then some e.a else none
def aEp(es:List Ed)(v x:Int):LI:=es.filterMap (aEN v x)
theorem aEU{es:List Ed}{v x u:Int}:u∈aEp es v x↔∃ e∈es,aEN v x e=some u:=by simp[aEp]
theorem aJj(es:List Ed)(v x:Int):(aEp es v x).length<=es.length:=List.length_filterMap_le _ _
theorem aBr{v x u:Int}{e:Ed}:aEN v x e=some u↔(0<x/\e.l=x/\e.a=v/\e.b=u) \/ (x<0/\e.l = -x/\e.b=v/\e.a=u):=by
 unfold aEN;split
 .rename_i h
  simp;omega
 split
 .rename_i h h'
  simp;omega
 simp;omega
def aKe:LI->Int
|[]=>-1
|x::t=>t.foldl min x
theorem aNf(t:LI)(x:Int):t.foldl min x<=x/\(∀ y∈t,t.foldl min x<=y)/\(t.foldl min x=x \/ t.foldl min x∈t):=by
 induction t generalizing x with
|nil=>simp
|cons y t ih=>
  obtain⟨h1,h2,h3⟩:=ih (min x y);simp only[List.foldl_cons];refine⟨oO,?_,?_⟩
  .intro z hz
   rcases List.mem_cons.1 hz with rfl|hz
   .omega
   exact h2 z hz
  rcases h3 with h3|h3
  .rcases Int.le_total x y with h|h
   .left;rw[h3];omega
   right;rw[h3,show min x y=y by omega];simp
  right;exact List.mem_cons_of_mem _ h3
theorem aEA{l:LI}(h:l≠[]):aKe l∈l/\∀ y∈l,aKe l<=y:=by
 cases l with
|nil=>exact absurd rfl h
|cons x t=>
  obtain⟨h1,h2,h3⟩:=aNf t x;refine⟨?_,?_⟩
  .rcases h3 with h3|h3
   .show t.foldl min x∈_;rw[h3];simp
   exact List.mem_cons_of_mem _ h3
  intro y hy;rcases List.mem_cons.1 hy with rfl|hy
  .exact h1
  exact h2 y hy
theorem aHE{l:LI}{x:Int}(h:x∈l)(hm:∀ y∈l,x<=y):aKe l=x:=by
 have h0:l≠[]:=by intro h0;subst h0;simp at h
 obtain⟨h1,h2⟩:=aEA h0;have:=h2 x h;have:=hm _ h1;omega
def aAr(es:List Ed)(v x:Int):Int:=aKe (aEp es v x)
theorem aGh{es:List Ed}{v x:Int}(h:aEp es v x=[]):aAr es v x = -1:=by rw[aAr,h];rfl
theorem aIo{es:List Ed}{v x:Int}(h:0<=aAr es v x):∃ e∈es,aEN v x e=some (aAr es v x):=by
 by_cases h0:aEp es v x=[]
 .rw[aGh h0] at h;omega
 exact aEU.1 (aEA h0).1
theorem aCf{r s:Int}{es:List Ed}(hg:∀ e∈es,InG r s e)(v x:Int):aAr es v x = -1 \/ (0<=aAr es v x/\aAr es v x<s):=by
 by_cases h0:aEp es v x=[]
 .exact .inl (aGh h0)
 right
 obtain⟨e,he,h⟩:=aEU.1 (aEA h0).1;have:=hg e he;unfold InG at this;have h':aEN v x e=some (aAr es v x):=h;rw[aBr] at h';omega
theorem aRU{es:List Ed}{v x:Int}(h:aAr es v x = -1)(hg:∀ e∈es,0<=e.a/\0<=e.b):aEp es v x=[]:=by
 refine Classical.byContradiction fun h0=>?_;obtain⟨e,he,h'⟩:=aEU.1 (aEA h0).1;have:=hg e he;have h':aEN v x e=some (aAr es v x):=h';rw[aBr] at h';omega
def Clash(e f:Ed):Prop:=e.l=f.l/\(e.a=f.a \/ e.b=f.b)
instance (e f:Ed):Decidable (Clash e f):=by unfold Clash;infer_instance
theorem Clash.symm{e f:Ed}(h:Clash e f):Clash f e:=by unfold Clash at *;omega
structure IsFol (r s:Int) (es:List Ed):Prop where
 gr:IsGr r s es
 fol:es.Pairwise fun e f=>¬ Clash e f
def aAp(e f:Ed):List (Int × Int):=
 if e.l=f.l then(if e.a=f.a then[(min e.b f.b,max e.b f.b)] else[])++(if e.b=f.b then[(min e.a f.a,max e.a f.a)] else[]) else[]
def aCo:List Ed->List (Int × Int)
|[]=>[]
|e::t=>t.flatMap (aAp e)++aCo t
theorem aOw{e f:Ed}:aAp e f=[]↔¬ Clash e f:=by
 unfold aAp Clash;by_cases h1:e.l=f.l <;> by_cases h2:e.a=f.a <;> by_cases h3:e.b=f.b <;> simp[h1,h2,h3]
theorem aNg{es:List Ed}:aCo es=[]↔es.Pairwise fun e f=>¬ Clash e f:=by
 induction es with
|nil=>simp[aCo]
|cons e t ih=>
  rw[List.pairwise_cons,aCo,List.append_eq_nil_iff,ih,List.flatMap_eq_nil_iff];simp only[aOw]
theorem aOI{r s:Int}{e f:Ed}{p:Int × Int}(he:InG r s e)(hf:InG r s f)(a0:e≠f)(h:p∈aAp e f):0<=p.1/\p.1<p.2/\p.2<s:=by
 unfold aAp at h;unfold InG at he hf;have hd:¬ (e.a=f.a/\e.l=f.l/\e.b=f.b):=fun⟨h1,h2,h3⟩=>a0 (Ed.ext' h1 h2 h3);split at h
 .rcases List.mem_append.1 h with h|h
  .split at h
   .simp at h;subst h;simp only[];omega
   simp at h
  split at h
  .simp at h;subst h;simp only[];omega
  simp at h
 simp at h
theorem aDL{r s:Int}{es:List Ed}{p:Int × Int}(hg:∀ e∈es,InG r s e)(ha:Asc es)(h:p∈aCo es):0<=p.1/\p.1<p.2/\p.2<s:=by
 induction es with
|nil=>simp[aCo] at h
|cons e t ih=>
  obtain⟨h1,h2⟩:=List.pairwise_cons.1 ha;rcases List.mem_append.1 h with h|h
  .obtain⟨f,hf,h⟩:=List.mem_flatMap.1 h
   exact aOI (hg e oM) (hg f (by simp[hf])) (h1 f hf).ne h
  exact ih (fun f hf=>hg f (by simp[hf])) h2 h
def aBZ(p:Int × Int)(v:Int):Int:=if v=p.2 then p.1 else if p.2<v then v - 1 else v
def aEw(p:Int × Int)(e:Ed):Ed:=⟨aBZ p e.a,e.l,aBZ p e.b⟩
def aCu(p:Int × Int)(es:List Ed):List Ed:=canon (es.map (aEw p))
theorem aFL{r s:Int}{es:List Ed}{p:Int × Int}(hg:IsGr r s es)(h0:0<=p.1)(h1:p.1<p.2)(h2:p.2<s):IsGr r (s - 1) (aCu p es):=by
 refine⟨hg.rank,?_,?_,?_,aCI _⟩
 .have:=hg.size;omega
 .have:=aDe (es.map (aEw p))
  have:=hg.len;simp at *;unfold aCu;omega
 intro e he;obtain⟨f,hf,rfl⟩:=List.mem_map.1 (aAO.1 he);have h3:=hg.all f hf;have hv:∀ v:Int,0<=v->v<s->0<=aBZ p v/\aBZ p v<s - 1:=by
  intro v a0 a1;unfold aBZ;split
  .omega
  split <;> omega
 unfold InG at *;have:=hv f.a oO oO;have:=hv f.b oO oO;simp only[aEw];omega
def aDg:Nat->Int × List Ed->Int × List Ed
|0,g=>g
|n+1,g=>match aCo g.2 with
 |[]=>g
 |p::_=>aDg n (g.1 - 1,aCu p g.2)
theorem aEv{n:Nat}{g:Int × List Ed}(h:aCo g.2=[]):aDg n g=g:=by
 cases n with
|zero=>rfl
|succ n=>simp[aDg,h]
theorem aEu{n:Nat}{g:Int × List Ed}{p:Int × Int}{t:List (Int × Int)}(h:aCo g.2=p::t):aDg (n+1) g=aDg n (g.1 - 1,aCu p g.2):=by simp[aDg,h]
theorem aHr{r:Int}:∀(n:Nat) {g:Int × List Ed},IsGr r g.1 g.2->IsGr r (aDg n g).1 (aDg n g).2
|0,g,h=>h
|n+1,g,h=>by
  cases hf:aCo g.2 with
 |nil=>rw[aEv hf];exact h
 |cons p t=>
   rw[aEu hf];obtain⟨h0,h1,h2⟩:=aDL h.all h.asc (p:=p) (by rw[hf];simp);exact aHr n (aFL h h0 h1 h2)
theorem aNc:∀(n:Nat) {r:Int} {g:Int × List Ed},IsGr r g.1 g.2->g.1<=n->aCo (aDg n g).2=[]
|0,r,g,h,hn=>by have:=h.size;omega
|n+1,r,g,h,hn=>by
  cases hf:aCo g.2 with
 |nil=>rw[aEv hf];exact hf
 |cons p t=>
   rw[aEu hf];obtain⟨h0,h1,h2⟩:=aDL h.all h.asc (p:=p) (by rw[hf];simp);exact aNc n (aFL h h0 h1 h2) (by simp only[];omega)
def aDn(order:LI)(v:Int):Int:=if v∈order then(order.idxOf v:Int) else -1
theorem aPC{order:LI}{v:Int}(h:v ∉ order):aDn order v = -1:=by simp[aDn,h]
theorem aLQ{order:LI}{v:Int}(h:0<=aDn order v):aDn order v<order.length:=by
 unfold aDn at *;split
 .rename_i hm
  have:=List.idxOf_lt_length_iff.2 hm;omega
 rename_i hm;rw[if_neg hm] at h;omega
theorem aIh{order:LI}{k:Nat}{v:Int}(hn:order.Nodup)(h:order[k]?=some v):aDn order v=k:=by
 have hm:v∈order:=oG h;obtain⟨hk,h'⟩:=List.getElem?_eq_some_iff.1 h;rw[aDn,if_pos hm,<- h',hn.idxOf_getElem k hk]
def aAX(order:LI)(e:Ed):Option Ed:=if 0<=aDn order e.a/\0<=aDn order e.b then some ⟨aDn order e.a,e.l,aDn order e.b⟩ else none
def aCN(order:LI)(es:List Ed):List Ed:=canon (es.filterMap (aAX order))
theorem aMk{r s:Int}{es:List Ed}{order:LI}(hg:IsGr r s es)(h0:order≠[])(a1:order.length<=40):IsGr r order.length (aCN order es):=by
 have a0:0<order.length:=List.length_pos_iff.2 h0;refine⟨hg.rank,oO,?_,?_,aCI _⟩
 .have h1:=aDe (es.filterMap (aAX order))
  have h2:=List.length_filterMap_le (aAX order) es;have h3:=hg.len;unfold aCN;omega
 intro e he;obtain⟨f,hf,h⟩:=List.mem_filterMap.1 (aAO.1 he);have h3:=hg.all f hf;unfold aAX at h;split at h
 .rename_i hc
  injection h with h
  subst h;have:=aLQ hc.1;have:=aLQ hc.2;unfold InG at *;simp only[];omega
 cases h
section
inductive Conn (es:List Ed) (v:Int):Int->Prop
|here:Conn es v v
|out {e:Ed}:e∈es->Conn es v e.a->Conn es v e.b
|inn {e:Ed}:e∈es->Conn es v e.b->Conn es v e.a
theorem aPp{es:List Ed}{v:Int}{P:Int->Prop}(h0:P v)(hc:∀ e∈es,P e.a↔P e.b)(hs:∀ u,P u->Conn es v u)(u:Int):P u↔Conn es v u:=by
 refine⟨hs u,fun h=>?_⟩
 induction h with
|here=>exact h0
|out he _ ih=>exact(hc _ he).1 ih
|inn he _ ih=>exact(hc _ he).2 ih
def degE(v:Int)(e:Ed):Nat:=(if e.a=v then 1 else 0)+(if e.b=v then 1 else 0)
def deg(es:List Ed)(v:Int):Nat:=(es.map (degE v)).sum
theorem aHk{es:List Ed}{k:Nat}{e:Ed}(h:es[k]?=some e)(v:Int):deg (es.take (k+1)) v=deg (es.take k) v+degE v e:=by
 obtain⟨hk,h'⟩:=List.getElem?_eq_some_iff.1 h;rw[List.take_succ_eq_append_getElem hk,h'];simp[deg]
theorem aPq(es:List Ed)(v:Int):deg es v<=2 * es.length:=by
 induction es with
|nil=>simp[deg]
|cons e t ih=>
  have h:deg (e::t) v=degE v e+deg t v:=by simp[deg]
  have:degE v e<=2:=by unfold degE;split <;> split <;> omega
  simp only[List.length_cons];omega
def Bad(es:List Ed)(v:Int):Prop:=deg es v<2 \/ ¬ Conn es 0 v
open Classical in
noncomputable def leaf (s:Int) (es:List Ed):Option Nat:=((List.range s.toNat).drop 1).find? fun v=>decide (Bad es (v:Int))
theorem aJO{p:Nat->Bool}(n k:Nat)(hk:k<n)(hp:p k=true):∀ m,m<=k->(∀ u,m<=u->u<k->p u=false)->((List.range n).drop m).find? p=some k:=by
 intro m hm;obtain⟨d,hd⟩:∃ d,k=m+d:=⟨k - m,oO⟩
 induction d generalizing m with
|zero=>
  intro _;obtain rfl:k=m:=by omega
  rw[List.drop_eq_getElem_cons (by simpa using hk)];simp[hp]
|succ d ih=>
  intro hu;rw[List.drop_eq_getElem_cons (by simp;omega)];have h1:=hu m oN oO;simp only[List.getElem_range,List.find?_cons,h1];exact ih (m+1) oO oO (fun u h2 h3=>hu u oO h3)
theorem aFI{s:Int}{es:List Ed}{v:Nat}(h1:1<=v)(h2:(v:Int)<s)(hb:Bad es v)(hu:∀ u:Nat,1<=u->u<v->¬ Bad es u):leaf s es=some v:=
 aJO _ v oO (by simpa using hb) 1 h1 fun u h h'=>by simpa using hu u h h'
theorem aHC{s:Int}{es:List Ed}(hu:∀ u:Nat,1<=u->(u:Int)<s->¬ Bad es u):leaf s es=none:=by
 refine List.find?_eq_none.2 fun u hm=>?_;have h1:u<s.toNat:=List.mem_range.1 (List.mem_of_mem_drop hm);have h2:1<=u:=by
  obtain⟨k,hk,h⟩:=List.mem_iff_getElem.1 hm;simp at h;omega
 simpa using hu u h2 oO
theorem aDj{s:Int}{es:List Ed}{v:Nat}(h:leaf s es=some v):1<=v/\(v:Int)<s/\Bad es v:=by
 have hm:=List.mem_of_find?_eq_some h;have h1:v<s.toNat:=List.mem_range.1 (List.mem_of_mem_drop hm);have h3:Bad es v:=by simpa using List.find?_some h
 refine⟨?_,oO,h3⟩;obtain⟨k,hk,h⟩:=List.mem_iff_getElem.1 hm;simp at h;omega
theorem aQE(s:Int)(es:List Ed):(leaf s es=none/\∀ u:Nat,1<=u->(u:Int)<s->¬ Bad es u) \/ ∃ v:Nat,leaf s es=some v/\1<=v/\(v:Int)<s/\Bad es v/\∀ u:Nat,1<=u->u<v->¬ Bad es u:=by
 by_cases h:∃ v:Nat,1<=v/\(v:Int)<s/\Bad es v
 .right
  obtain⟨v,hv⟩:=h
  induction v using Nat.strongRecOn with
 |_ v ih=>
   by_cases hu:∃ u:Nat,1<=u/\u<v/\Bad es u
   .obtain⟨u,h1,h2,h3⟩:=hu
    exact ih u h2 ⟨h1,oO,h3⟩
   have a0:∀ u:Nat,1<=u->u<v->¬ Bad es u:=fun u h1 h2 h3=>hu ⟨u,h1,h2,h3⟩;exact⟨v,aFI hv.1 hv.2.1 hv.2.2 a0,hv.1,hv.2.1,hv.2.2,a0⟩
 left
 have a0:∀ u:Nat,1<=u->(u:Int)<s->¬ Bad es u:=fun u h1 h2 h3=>h ⟨u,h1,h2,h3⟩;exact⟨aHC a0,a0⟩
def but(v k:Nat):LI:=((List.range k).filter (· != v)).map Int.ofNat
theorem aHj(v k:Nat):but v (k+1)=if k=v then but v k else but v k++[(k:Int)]:=by
 unfold but;rw[List.range_succ,List.filter_append];by_cases h:k=v
 .simp[h]
 simp[h]
theorem aTK(v:Nat):∀ k,k<=v->(but v k).length=k
|0,_=>by simp[but]
|k+1,h=>by rw[aHj,if_neg oO];simp[aTK v k oO]
theorem aIb(v:Nat){k:Nat}(h:v<k):(but v k).length=k - 1:=by
 induction k with
|zero=>omega
|succ k ih=>
  rw[aHj];by_cases hk:k=v
  .rw[if_pos hk,hk,aTK v v oN];omega
  rw[if_neg hk];simp;rw[ih oO];omega
theorem aHi(v k:Nat):(but v k).Nodup:=by
 unfold but;refine List.Pairwise.map _ (fun a b h=>?_) (List.Pairwise.filter _ List.nodup_range);intro he;exact h (by injection he)
theorem aRR{v k:Nat}{x:Int}:x∈but v k↔∃ u:Nat,u<k/\u≠v/\x=(u:Int):=by
 unfold but;simp only[List.mem_map,List.mem_filter,List.mem_range,bne_iff_ne];constructor
 .rintro⟨u,⟨h1,h2⟩,rfl⟩;exact⟨u,h1,h2,rfl⟩
 rintro⟨u,h1,h2,rfl⟩;exact⟨u,⟨h1,h2⟩,rfl⟩
theorem aJJ{v k:Nat}{x:Int}(h:x∈but v k):0<=x/\x<k:=by
 obtain⟨u,h1,h2,rfl⟩:=aRR.1 h;omega
def aOe(g:Int × List Ed)(v:Nat):Int × List Ed:=(((but v g.1.toNat).length:Int),aCN (but v g.1.toNat) g.2)
theorem aJL{g:Int × List Ed}{v:Nat}(h:(v:Int)<g.1):(aOe g v).1=g.1 - 1:=by
 show((but v g.1.toNat).length:Int)=_
 rw[aIb v oO];omega
theorem aOp{r:Int}{g:Int × List Ed}{v:Nat}(hg:IsGr r g.1 g.2)(h1:1<=v)(h2:(v:Int)<g.1):IsGr r (aOe g v).1 (aOe g v).2:=by
 have hl:=aIb v (show v<g.1.toNat by omega);have:=hg.size;refine aMk hg ?_ oO;intro h0;rw[h0] at hl;simp at hl;omega
noncomputable def trimA:Nat->Int × List Ed->Int × List Ed
|0,g=>g
|n+1,g=>match leaf g.1 g.2 with
 |none=>g
 |some v=>trimA n (aOe g v)
theorem aCt{n:Nat}{g:Int × List Ed}(h:leaf g.1 g.2=none):trimA n g=g:=by
 cases n with
|zero=>rfl
|succ n=>simp[trimA,h]
theorem aCH{n:Nat}{g:Int × List Ed}{v:Nat}(h:leaf g.1 g.2=some v):trimA (n+1) g=trimA n (aOe g v):=by simp[trimA,h]
theorem aHW{r:Int}:∀(n:Nat) {g:Int × List Ed},IsGr r g.1 g.2->IsGr r (trimA n g).1 (trimA n g).2
|0,g,h=>h
|n+1,g,h=>by
  cases hf:leaf g.1 g.2 with
 |none=>rw[aCt hf];exact h
 |some v=>
   rw[aCH hf];obtain⟨h1,h2,_⟩:=aDj hf;exact aHW n (aOp h h1 h2)
theorem aLw:∀(n:Nat) {g:Int × List Ed},(trimA n g).1<=g.1
|0,g=>Int.le_refl _
|n+1,g=>by
  cases hf:leaf g.1 g.2 with
 |none=>rw[aCt hf];exact Int.le_refl _
 |some v=>
   rw[aCH hf];obtain⟨h1,h2,_⟩:=aDj hf;have:=aLw n (g:=aOe g v);rw[aJL h2] at this;omega
theorem aQS{n:Nat}{g:Int × List Ed}(hn:0<n):(trimA n g).1=g.1↔leaf g.1 g.2=none:=by
 constructor
 .intro h
  cases hf:leaf g.1 g.2 with
 |none=>rfl
 |some v=>
   obtain⟨m,rfl⟩:∃ m,n=m+1:=⟨n - 1,oO⟩
   rw[aCH hf] at h;obtain⟨h1,h2,_⟩:=aDj hf;have:=aLw m (g:=aOe g v);rw[aJL h2] at this;omega
 intro h;rw[aCt h]
def aAg:Nat->LI
|0=>[]
|n+1=>aAg n++[((n:Int)+1), -((n:Int)+1)]
theorem aBR(n:Nat):(aAg n).length=2 * n:=by
 induction n with
|zero=>rfl
|succ n ih=>simp[aAg,ih];omega
theorem aAU{n:Nat}{x:Int}:x∈aAg n↔x≠0/\-(n:Int)<=x/\x<=n:=by
 induction n with
|zero=>simp[aAg];omega
|succ n ih=>
  simp only[aAg,List.mem_append,ih,List.mem_cons,List.not_mem_nil,or_false];omega
abbrev BS:=List (Int × LI)
def aAx(es:List Ed)(u:Int)(w:LI)(st:BS)(x:Int):BS:=
 if aAr es u x<0 \/ aAr es u x∈st.map Prod.fst then st else st++[(aAr es u x,w++[x])]
def aAN(es:List Ed)(L:LI)(p:Int × LI)(st:BS):BS:=L.foldl (aAx es p.1 p.2) st
def aAn(es:List Ed)(L:LI)(v:Int):Nat->BS
|0=>[(v,[])]
|i+1=>match (aAn es L v i)[i]? with
 |none=>aAn es L v i
 |some p=>aAN es L p (aAn es L v i)
def bfs(es:List Ed)(L:LI)(v:Int):BS:=aAn es L v 41
theorem aGD(es:List Ed)(u:Int)(w:LI)(st:BS)(x:Int):st <+: aAx es u w st x:=by
 unfold aAx;split
 .exact List.prefix_refl _
 exact List.prefix_append _ _
theorem aCn(es:List Ed)(L:LI)(p:Int × LI)(st:BS):st <+: aAN es L p st:=by
 unfold aAN
 induction L generalizing st with
|nil=>exact List.prefix_refl _
|cons x t ih=>exact(aGD es p.1 p.2 st x).trans (ih _)
theorem aRk(es:List Ed)(L:LI)(v:Int)(i:Nat):aAn es L v i <+: aAn es L v (i+1):=by
 show _ <+: (match (aAn es L v i)[i]? with|none=>aAn es L v i|some p=>aAN es L p (aAn es L v i))
 split
 .exact List.prefix_refl _
 exact aCn es L _ _
theorem aEs(es:List Ed)(L:LI)(v:Int)(i d:Nat):aAn es L v i <+: aAn es L v (i+d):=by
 induction d with
|zero=>exact List.prefix_refl _
|succ d ih=>exact ih.trans (aRk es L v (i+d))
theorem aCr{α:Type}{xs ys:List α}(h:xs <+: ys){k:Nat}{a:α}(hk:xs[k]?=some a):ys[k]?=some a:=by
 obtain⟨t,rfl⟩:=h;rw[List.getElem?_append_left (List.getElem?_eq_some_iff.1 hk).1];exact hk
theorem aQj{es:List Ed}{L:LI}{v:Int}{i:Nat}(h:(aAn es L v i).length<=i)(d:Nat):aAn es L v (i+d)=aAn es L v i:=by
 induction d with
|zero=>rfl
|succ d ih=>
  show(match (aAn es L v (i+d))[i+d]? with|none=>aAn es L v (i+d)|some p=>aAN es L p (aAn es L v (i+d)))=_
  rw[ih,List.getElem?_eq_none oO]
structure BfsOk (s:Int) (L:LI) (st:BS):Prop where
 nd:(st.map Prod.fst).Nodup
 rng:∀ p∈st,0<=p.1/\p.1<s
 wl:∀(j:Nat) (p:Int × LI),st[j]?=some p->p.2.length<=j
 wm:∀ p∈st,∀ x∈p.2,x∈L
theorem BfsOk.len{s:Int}{L:LI}{st:BS}(h:BfsOk s L st)(hs:0<=s):(st.length:Int)<=s:=by
 have h1:∀(L:Nat) (l:LI),l.Nodup->(∀ v∈l,0<=v/\v<(L:Int))->l.length<=L:=by
  intro L
  induction L with
 |zero=>
   intro l _ h;cases l with
  |nil=>simp
  |cons x t=>have:=h x oM;omega
 |succ L ih=>
   intro l hn h;have h2:=ih (l.erase (L:Int)) (hn.erase _) fun v hv=>by
    have h3:=h v (List.mem_of_mem_erase hv);have h4:v≠(L:Int):=((List.Nodup.mem_erase_iff hn).1 hv).1;omega
   have h5:=List.length_erase (a:=(L:Int)) (l:=l);split at h5 <;> omega
 have:=h1 s.toNat (st.map Prod.fst) h.nd (fun v hv=>by
  obtain⟨p,hp,rfl⟩:=List.mem_map.1 hv;have:=h.rng p hp;omega)
 simp at this;omega
theorem BfsOk.start{s v:Int}(L:LI)(h0:0<=v)(h1:v<s):BfsOk s L [(v,[])]:=by
 refine⟨by simp,?_,?_,?_⟩
 .intro p hp;simp at hp;subst hp;exact⟨h0,h1⟩
 .intro j p hp
  cases j with
 |zero=>simp at hp;subst hp;simp
 |succ j=>simp at hp
 intro p hp x hx;simp at hp;subst hp;simp at hx
theorem BfsOk.step{r s:Int}{es:List Ed}{L:LI}{st:BS}(hg:∀ e∈es,InG r s e)(h:BfsOk s L st){i:Nat}{p:Int × LI}(hp:st[i]?=some p){x:Int}(hx:x∈L):BfsOk s L (aAx es p.1 p.2 st x):=by
 unfold aAx;split
 .exact h
 rename_i hc;have a1:¬ aAr es p.1 x<0:=fun h=>hc (.inl h);have a0:aAr es p.1 x ∉ st.map Prod.fst:=fun h=>hc (.inr h);have hr:=aCf hg p.1 x;have hi:=(List.getElem?_eq_some_iff.1 hp).1;refine⟨?_,?_,?_,?_⟩
 .rw[List.map_append,List.nodup_append]
  refine⟨h.nd,by simp,?_⟩;intro a ha b hb;simp at hb;subst hb;intro e;subst e;exact a0 ha
 .intro q hq
  rcases List.mem_append.1 hq with hq|hq
  .exact h.rng q hq
  simp at hq;subst hq;simp only[];omega
 .intro j q hq
  rcases Nat.lt_or_ge j st.length with hj|hj
  .rw[List.getElem?_append_left hj] at hq;exact h.wl j q hq
  rw[List.getElem?_append_right hj] at hq;rcases Nat.eq_zero_or_pos (j - st.length) with h0|h0
  .rw[h0] at hq
   simp at hq;subst hq;have:=h.wl i p hp;simp only[List.length_append,List.length_cons,List.length_nil];omega
  rw[List.getElem?_eq_none (by simp;omega)] at hq;cases hq
 intro q hq y hy;rcases List.mem_append.1 hq with hq|hq
 .exact h.wm q hq y hy
 simp at hq;subst hq;rcases List.mem_append.1 hy with hy|hy
 .exact h.wm p (oG hp) y hy
 simp at hy;subst hy;exact hx
theorem BfsOk.row{r s:Int}{es:List Ed}{L:LI}(hg:∀ e∈es,InG r s e){i:Nat}{p:Int × LI}:∀(K:LI),(∀ x∈K,x∈L)->∀ {st:BS},BfsOk s L st->st[i]?=some p->BfsOk s L (aAN es K p st)
|[],_,st,h,_=>h
|x::K,hK,st,h,hp=>BfsOk.row hg K (fun y hy=>hK y (by simp[hy])) (h.step hg hp (hK x oM)) (aCr (aGD es p.1 p.2 st x) hp)
theorem aFZ{r s v:Int}{es:List Ed}{L:LI}(hg:∀ e∈es,InG r s e)(h0:0<=v)(h1:v<s)(i:Nat):BfsOk s L (aAn es L v i):=by
 induction i with
|zero=>exact BfsOk.start L h0 h1
|succ i ih=>
  show BfsOk s L (match (aAn es L v i)[i]? with|none=>aAn es L v i|some p=>aAN es L p (aAn es L v i))
  split
  .exact ih
  rename_i p hp;exact BfsOk.row hg L (fun x hx=>hx) ih hp
theorem aPk{r s v:Int}{es:List Ed}{L:LI}(hg:∀ e∈es,InG r s e)(h0:0<=v)(h1:v<s)(hs:s<=40){i:Nat}(h:(aAn es L v i).length=i):bfs es L v=aAn es L v i:=by
 have:=(aFZ (L:=L) hg h0 h1 i).len oO;have h2:=aQj (show(aAn es L v i).length<=i by omega) (41 - i);rw[<- h2,show i+(41 - i)=41 by omega]
 rfl
theorem aHh{r s v:Int}{es:List Ed}{L:LI}(hg:∀ e∈es,InG r s e)(h0:0<=v)(h1:v<s):BfsOk s L (bfs es L v):=aFZ hg h0 h1 41
theorem aVc(es:List Ed)(L:LI)(v:Int):bfs es L v≠[]:=by
 intro h;obtain⟨t,ht⟩:=aEs es L v 0 41;rw[show(0:Nat)+41=41 from rfl,show aAn es L v 41=bfs es L v from rfl,h] at ht;simp[aAn] at ht
def aBS(r:Int)(es:List Ed)(v:Int):LI:=(bfs es (aAg r.toNat) v).map Prod.fst
open Classical in
noncomputable def canonG (r:Int) (g:Int × List Ed):Int × List Ed:=if IsFol r g.1 g.2 then(((aBS r g.2 0).length:Int),aCN (aBS r g.2 0) g.2) else g
noncomputable def coreA (r:Int) (g:Int × List Ed):Int × List Ed:=canonG r (trimA 40 (aDg 40 g))
structure IsCor (r s:Int) (es:List Ed):Prop where
 fol:IsFol r s es
 leaf:leaf s es=none
 canon:canonG r (s,es)=(s,es)
theorem aEg{r s v:Int}{es:List Ed}(hg:IsGr r s es)(h0:0<=v)(h1:v<s):0<(aBS r es v).length/\((aBS r es v).length:Int)<=s/\(aBS r es v).Nodup/\∀ x∈aBS r es v,0<=x/\x<s:=by
 have h:=aHh (L:=aAg r.toNat) hg.all h0 h1;refine⟨?_,?_,h.nd,?_⟩
 .unfold aBS
  rw[List.length_map];exact List.length_pos_iff.2 (aVc _ _ _)
 .unfold aBS
  rw[List.length_map];exact h.len oO
 intro x hx;obtain⟨p,hp,rfl⟩:=List.mem_map.1 hx;exact h.rng p hp
theorem aFA{r:Int}{g:Int × List Ed}(hg:IsGr r g.1 g.2):IsGr r (canonG r g).1 (canonG r g).2:=by
 unfold canonG;split
 .have hs:=hg.size
  have h:=aEg hg (v:=0) (Int.le_refl _) oO;refine aMk hg ?_ oO;intro h0;rw[h0] at h;simp at h
 exact hg
theorem aCJ{r:Int}{g:Int × List Ed}(hg:IsGr r g.1 g.2):IsGr r (coreA r g).1 (coreA r g).2:=aFA (aHW 40 (aHr 40 hg))
theorem IsCor.gr{r s:Int}{es:List Ed}(h:IsCor r s es):IsGr r s es:=h.fol.gr
end
noncomputable def freeV (es:List Ed) (x:Int) (n:Nat):LI:=((List.range n).filter fun(v:Nat)=>decide (aAr es (v:Int) x<0)).map fun(v:Nat)=>(v:Int)
theorem aFK{es:List Ed}{x:Int}{n:Nat}{v:Int}:v∈freeV es x n↔0<=v/\v<n/\aAr es v x<0:=by
 unfold freeV;rw[List.mem_map];constructor
 .rintro⟨k,hk,rfl⟩
  rw[List.mem_filter,List.mem_range] at hk;exact⟨oO,oO,by simpa using hk.2⟩
 rintro⟨h1,h2,h3⟩;obtain⟨k,rfl⟩:=Int.eq_ofNat_of_zero_le h1;refine⟨k,?_,rfl⟩;rw[List.mem_filter,List.mem_range];exact⟨oO,by simpa using h3⟩
theorem aEV{r s:Int}{es:List Ed}(hg:∀ e∈es,InG r s e)(v x:Int):0<=aAr es v x↔∃ e∈es,∃ u,aEN v x e=some u:=by
 constructor
 .intro h
  obtain⟨e,he,h'⟩:=aIo h;exact⟨e,he,_,h'⟩
 rintro⟨e,he,u,h⟩;rcases aCf hg v x with h1|h1
 .have:=aRU h1 fun e he=>by have:=hg e he;unfold InG at this;omega
  have hu:u∈aEp es v x:=aEU.2 ⟨e,he,h⟩;rw[this] at hu;simp at hu
 exact h1.1
theorem aIF(p:Nat->Bool):∀ l:List Nat,(l.filter p).length+(l.filter fun v=>!p v).length=l.length
|[]=>rfl
|a::t=>by
  have:=aIF p t;cases h:p a <;> simp[h] <;> omega
theorem aId{es:List Ed}{x:Int}{n:Nat}{L:LI}(hn:L.Nodup)(hL:∀ v:Int,v∈L↔0<=v/\v<n/\¬ aAr es v x<0):(freeV es x n).length+L.length=n:=by
 have h1:L.Perm (((List.range n).filter fun(v:Nat)=>!decide (aAr es (v:Int) x<0)).map fun(v:Nat)=>(v:Int)):=by
  refine(List.perm_ext_iff_of_nodup hn ?_).2 fun v=>?_
  .exact List.pairwise_map.2 ((List.nodup_range.filter _).imp fun h he=>h oO)
  rw[hL,List.mem_map];constructor
  .rintro⟨h1,h2,h3⟩
   obtain⟨k,rfl⟩:=Int.eq_ofNat_of_zero_le h1;refine⟨k,?_,rfl⟩;rw[List.mem_filter,List.mem_range];exact⟨oO,by simpa using h3⟩
  rintro⟨k,hk,rfl⟩;rw[List.mem_filter,List.mem_range] at hk;exact⟨oO,oO,by simpa using hk.2⟩
 have h2:=aIF (fun v:Nat=>decide (aAr es (v:Int) x<0)) (List.range n);rw[h1.length_eq];unfold freeV;rw[List.length_map,List.length_map];simp at h2 |-;omega
theorem aNh{r s:Int}{es:List Ed}(h:IsFol r s es){x:Int}(hx:0<x):(freeV es x s.toNat).length=(freeV es (-x) s.toNat).length:=by
 have hg:=h.gr.all;have hs:=h.gr.size;have nd:∀(f:Ed->Int),(∀ e f',e.l=f'.l->f e=f f'->Clash e f')->((es.filter fun e=>e.l == x).map f).Nodup:=by
  intro f hf;rw[List.Nodup,List.pairwise_map];refine(h.fol.filter _).imp_of_mem ?_;intro a b h1 h2 h3 h4;have h5:a.l=x:=by simpa using(List.mem_filter.1 h1).2
  have h6:b.l=x:=by simpa using(List.mem_filter.1 h2).2
  exact h3 (hf a b oO h4)
 have h1:=aId (es:=es) (x:=x) (n:=s.toNat) (nd Ed.a fun e f h1 h2=>⟨h1,.inl h2⟩) fun v=>by
  rw[List.mem_map,Int.not_lt,aEV hg];constructor
  .rintro⟨e,he,rfl⟩
   obtain⟨h1,h2⟩:=List.mem_filter.1 he;have:=hg e h1;unfold InG at this;refine⟨oO,oO,e,h1,e.b,aBr.2 (.inl ⟨hx,by simpa using h2,rfl,rfl⟩)⟩
  .rintro⟨h0,hl,e,he,u,hu⟩
   refine⟨e,List.mem_filter.2 ⟨he,?_⟩,?_⟩ <;> have:=aBr.1 hu
   .simp;omega
   .omega
 have h2:=aId (es:=es) (x:=-x) (n:=s.toNat) (nd Ed.b fun e f h1 h2=>⟨h1,.inr h2⟩) fun v=>by
  rw[List.mem_map,Int.not_lt,aEV hg];constructor
  .rintro⟨e,he,rfl⟩
   obtain⟨h1,h2⟩:=List.mem_filter.1 he;have:=hg e h1;unfold InG at this;refine⟨oO,oO,e,h1,e.a,aBr.2 (.inr ⟨oO,by simp at h2;omega,rfl,rfl⟩)⟩
  .rintro⟨h0,hl,e,he,u,hu⟩
   refine⟨e,List.mem_filter.2 ⟨he,?_⟩,?_⟩ <;> have:=aBr.1 hu
   .simp;omega
   .omega
 rw[List.length_map] at h1 h2;omega
noncomputable def addL (s:Int) (es:List Ed) (x:Int):List Ed:=List.zipWith (fun a b=>(⟨a,x,b⟩:Ed)) (freeV es x s.toNat) (freeV es (-x) s.toNat)
noncomputable def addLs (s:Int) (es:List Ed) (n:Nat):List Ed:=(List.range n).flatMap fun(i:Nat)=>addL s es ((i:Int)+1)
theorem aQh(s:Int)(es:List Ed)(n:Nat):addLs s es (n+1)=addLs s es n++addL s es ((n:Int)+1):=by
 unfold addLs;rw[List.range_succ,List.flatMap_append];simp
theorem aRb{r s:Int}{es:List Ed}(h:IsFol r s es){x:Int}(hx:0<x){i:Nat}(hi:i<(freeV es x s.toNat).length) :
  ∃ a b,(freeV es x s.toNat)[i]?=some a/\(freeV es (-x) s.toNat)[i]?=some b/\(addL s es x)[i]?=some ⟨a,x,b⟩:=by
 have a0:i<(freeV es (-x) s.toNat).length:=by rw[<- aNh h hx];exact hi
 exact⟨_,_,List.getElem?_eq_getElem hi,List.getElem?_eq_getElem a0,by unfold addL;rw[List.getElem?_zipWith,List.getElem?_eq_getElem hi,List.getElem?_eq_getElem a0]⟩
theorem aNw{r s:Int}{es:List Ed}(h:IsFol r s es){x:Int}(hx:0<x):(freeV es x s.toNat).length+(es.filter fun e=>e.l == x).length=s.toNat:=by
 have hg:=h.gr.all;have hs:=h.gr.size;have nd:((es.filter fun e=>e.l == x).map Ed.a).Nodup:=by
  rw[List.Nodup,List.pairwise_map];refine(h.fol.filter _).imp_of_mem ?_;intro a b h1 h2 h3 h4;have h5:a.l=x:=by simpa using(List.mem_filter.1 h1).2
  have h6:b.l=x:=by simpa using(List.mem_filter.1 h2).2
  exact h3 ⟨oO,.inl h4⟩
 have h1:=aId (es:=es) (x:=x) (n:=s.toNat) nd fun v=>by
  rw[List.mem_map,Int.not_lt,aEV hg];constructor
  .rintro⟨e,he,rfl⟩
   obtain⟨h1,h2⟩:=List.mem_filter.1 he;have:=hg e h1;unfold InG at this;refine⟨oO,oO,e,h1,e.b,aBr.2 (.inl ⟨hx,by simpa using h2,rfl,rfl⟩)⟩
  .rintro⟨h0,hl,e,he,u,hu⟩
   refine⟨e,List.mem_filter.2 ⟨he,?_⟩,?_⟩ <;> have:=aBr.1 hu
   .simp;omega
   .omega
 rwa [List.length_map] at h1
theorem aLx(n:Nat):∀ l:List Ed,(l.filter fun e=>decide (e.l<=((n+1:Nat):Int))).length=(l.filter fun e=>decide (e.l<=(n:Int))).length+(l.filter fun e=>e.l == ((n:Int)+1)).length
|[]=>rfl
|e::t=>by
  have ih:=aLx n t;rcases(by omega:e.l<=(n:Int) \/ e.l=(n:Int)+1 \/ (n:Int)+1<e.l) with h|h|h
  .have h1:decide (e.l<=((n+1:Nat):Int))=true:=by simp;omega
   have h2:decide (e.l<=(n:Int))=true:=by simpa using h
   have h3:(e.l == ((n:Int)+1))=false:=by simp only[beq_eq_false_iff_ne];omega
   simp only[List.filter_cons,h1,h2,h3,if_true,List.length_cons];simp only[Bool.false_eq_true,if_false];omega
  .have h1:decide (e.l<=((n+1:Nat):Int))=true:=by simp;omega
   have h2:decide (e.l<=(n:Int))=false:=by simp;omega
   have h3:(e.l == ((n:Int)+1))=true:=by simpa using h
   simp only[List.filter_cons,h1,h2,h3,if_true,List.length_cons];simp only[Bool.false_eq_true,if_false];omega
  .have h1:decide (e.l<=((n+1:Nat):Int))=false:=by simp;omega
   have h2:decide (e.l<=(n:Int))=false:=by simp;omega
   have h3:(e.l == ((n:Int)+1))=false:=by simp only[beq_eq_false_iff_ne];omega
   simp only[List.filter_cons,h1,h2,h3];simp only[Bool.false_eq_true,if_false];exact ih
theorem aJH{r s:Int}{es:List Ed}(h:IsFol r s es):∀ n:Nat,(es.filter fun e=>decide (e.l<=(n:Int))).length+(addLs s es n).length<=n * s.toNat
|0=>by
  have h0:es.filter (fun e=>decide (e.l<=((0:Nat):Int)))=[]:=by
   rw[List.filter_eq_nil_iff];intro e he;have:=h.gr.all e he;unfold InG at this;simp;omega
  rw[h0];simp[addLs]
|n+1=>by
  have ih:=aJH h n;have h1:=aNw h (x:=(n:Int)+1) oO;have h2:(addL s es ((n:Int)+1)).length<=(freeV es ((n:Int)+1) s.toNat).length:=by
   unfold addL;rw[List.length_zipWith];omega
  rw[aLx,aQh,List.length_append,Nat.succ_mul];omega
theorem aOo{r s:Int}{es:List Ed}(h:IsFol r s es):IsGr r s (canon (es++addLs s es r.toNat)):=by
 have hr:=h.gr.rank;have hs:=h.gr.size;refine⟨hr,hs,?_,?_,aCI _⟩
 .have h1:=aDe (es++addLs s es r.toNat)
  have h2:=aJH h r.toNat;have h3:es.filter (fun e=>decide (e.l<=(r.toNat:Int)))=es:=by
   rw[List.filter_eq_self];intro e he;have:=h.gr.all e he;unfold InG at this;simp;omega
  rw[h3] at h2;have h4:r.toNat * s.toNat<=3 * 40:=Nat.mul_le_mul oO oO;rw[List.length_append] at h1;omega
 intro e he;rcases List.mem_append.1 (aAO.1 he) with h1|h1
 .exact h.gr.all e h1
 unfold addLs at h1;obtain⟨i,hi,h2⟩:=List.mem_flatMap.1 h1;have hi':i<r.toNat:=List.mem_range.1 hi;unfold addL at h2;obtain⟨k,hk,a0⟩:=List.getElem_of_mem h2;rw[List.getElem_zipWith] at a0;rw[List.length_zipWith] at hk;have ha:=aFK.1 (List.getElem_mem (l:=freeV es ((i:Int)+1) s.toNat) (n:=k) oO);have hb:=aFK.1 (List.getElem_mem (l:=freeV es (-((i:Int)+1)) s.toNat) (n:=k) oO);subst a0;unfold InG;simp only;omega
theorem aDI(A A':OA)(xs ys:LI)(c c':Nat)(w:World)(B B':Nat)(hr:Rs w B A (aAe xs))(a7:Rs w B' A' (aAe ys))(hl:xs.length<=1048576)(r:Bool)(a0:r=true↔xs=ys) :
  Calls Tryz.prog 168 #[.slice A xs.length c,.slice A' ys.length c'] w fun e w'=>e=.returned (.bool r)/\∃ n,w'=w.drewN n:=by
 have HR:=oH a0;clear a0;by_cases hlen:xs.length=ys.length
 .have a6:((xs.length:Int) != (ys.length:Int))=false:=by simp;omega
  have a4:xs.length<=ys.length:=by omega
  have a5:ys.length<=xs.length:=by omega
  clear hlen;go_enter Tryz.func168,Tryz.ntmps168
  go_wp2_with fail;go_loopw [5,13] (fun _ i wr=>∃ k:Nat,k<=xs.length/\i=.int .i64 k/\(∃ n,wr=w.drewN n)/\xs.take k=ys.take k) (fun _ i _=>xs.length - (intOf i).toNat)
  case atStart=>exact⟨0,oZ,rfl,⟨0,rfl⟩,by simp⟩
  obtain⟨k,hk,rfl,⟨nd,rfl⟩,a2⟩:=hrel;have HE:=oH a2;clear a2;by_cases hlt:k<xs.length
  .obtain⟨b,aA,x,rfl, -,hx,hc⟩:=hr.int hlt
   obtain⟨b',a8,y,rfl, -,hy,a9⟩:=a7.int (show k<ys.length by omega);have HX:=oH hx;have HY:=oH hy;clear hx hy;by_cases hxy:(x != y)=true
   .go_wp2_with fail
    go_quiet (fail)
    go_wp2_with fail;go_ret;have hf:r=false:=by
     cases r
     .rfl
     have e:=HR.out.1 rfl;have hx:=HX.out;rw[e,HY.out] at hx;simp at hx hxy;omega
    subst hf;exact⟨rfl,_,by first|rfl|exact dn _ _ _⟩
   have a1:(x != y)=false:=by simpa using hxy
   clear hxy;go_wp2_with fail;go_quiet (fail)
   go_wp2_with fail;go_roundw
   case rel=>
    have e:x=y:=by simpa using a1
    exact⟨k+1,oO,by go_num,⟨_,by first|rfl|exact dn _ _ _⟩,by rw[aAw xs HX.out,aAw ys HY.out,HE.out,e]⟩
   simp[intOf];omega
  go_wp2_with fail;go_ret;have a3:k=xs.length:=by omega
  have hf:r=true:=by
   refine HR.out.2 ?_;have h1:xs.take k=xs:=by rw[a3];exact List.take_length
   have h2:ys.take k=ys:=by rw[show k=ys.length from by omega];exact List.take_length
   rw[<- h1,HE.out,h2]
  subst hf;exact⟨rfl,_,rfl⟩
 have a6:((xs.length:Int) != (ys.length:Int))=true:=by simp;omega
 have hf:r=false:=by
  cases r
  .rfl
  exact absurd (congrArg List.length (HR.out.1 rfl)) hlen
 subst hf;clear hlen;go_enter Tryz.func168,Tryz.ntmps168
 go_wp2_with fail;go_ret;exact⟨rfl,0,rfl⟩
theorem aDT(A A':OA)(xs ys:LI)(c c':Nat)(w:World)(B B':Nat)(hr:Rs w B A (aAe xs))(a7:Rs w B' A' (aAe ys))(hl:xs.length<=1048576)(r:Bool)(a0:r=true↔xs=ys) :
  Calls Tryz.prog 170 #[.slice A xs.length c,.slice A' ys.length c'] w fun e w'=>e=.returned (.bool r)/\∃ n,w'=w.drewN n:=by
 have HR:=oH a0;clear a0;by_cases hlen:xs.length=ys.length
 .have a6:((xs.length:Int) != (ys.length:Int))=false:=by simp;omega
  have a4:xs.length<=ys.length:=by omega
  have a5:ys.length<=xs.length:=by omega
  clear hlen;go_enter Tryz.func170,Tryz.ntmps170
  go_wp2_with fail;go_loopw [5] (fun i wr=>∃ k:Nat,k<=xs.length/\i=.int .i64 k/\(∃ n,wr=w.drewN n)/\xs.take k=ys.take k) (fun i _=>xs.length - (intOf i).toNat)
  case atStart=>exact⟨0,oZ,rfl,⟨0,rfl⟩,by simp⟩
  obtain⟨k,hk,rfl,⟨nd,rfl⟩,a2⟩:=hrel;have HE:=oH a2;clear a2;by_cases hlt:k<xs.length
  .obtain⟨b,aA,x,rfl, -,hx,hc⟩:=hr.int hlt
   obtain⟨b',a8,y,rfl, -,hy,a9⟩:=a7.int (show k<ys.length by omega);have HX:=oH hx;have HY:=oH hy;clear hx hy;by_cases hxy:(x != y)=true
   .go_wp2_with fail
    go_quiet (fail)
    go_wp2_with fail;go_ret;have hf:r=false:=by
     cases r
     .rfl
     have e:=HR.out.1 rfl;have hx:=HX.out;rw[e,HY.out] at hx;simp at hx hxy;omega
    subst hf;exact⟨rfl,_,by first|rfl|exact dn _ _ _⟩
   have a1:(x != y)=false:=by simpa using hxy
   clear hxy;go_wp2_with fail;go_quiet (fail)
   go_wp2_with fail;go_roundw
   case rel=>
    have e:x=y:=by simpa using a1
    exact⟨k+1,oO,by go_num,⟨_,by first|rfl|exact dn _ _ _⟩,by rw[aAw xs HX.out,aAw ys HY.out,HE.out,e]⟩
   simp[intOf];omega
  go_wp2_with fail;go_ret;have a3:k=xs.length:=by omega
  have hf:r=true:=by
   refine HR.out.2 ?_;have h1:xs.take k=xs:=by rw[a3];exact List.take_length
   have h2:ys.take k=ys:=by rw[show k=ys.length from by omega];exact List.take_length
   rw[<- h1,HE.out,h2]
  subst hf;exact⟨rfl,_,rfl⟩
 have a6:((xs.length:Int) != (ys.length:Int))=true:=by simp;omega
 have hf:r=false:=by
  cases r
  .rfl
  exact absurd (congrArg List.length (HR.out.1 rfl)) hlen
 subst hf;clear hlen;go_enter Tryz.func170,Tryz.ntmps170
 go_wp2_with fail;go_ret;exact⟨rfl,0,rfl⟩
theorem aGJ(A A':OA)(xss a0:LL)(c c':Nat)(w:World)(lo hi lo' hi':Nat)(hr:RSS w lo hi A xss)(aC:RSS w lo' hi' A' a0)(hl:xss.length+aAK xss<=1048576)(r:Bool)(a1:r=true↔xss=a0) :
  Calls Tryz.prog 175 #[.slice A xss.length c,.slice A' a0.length c'] w fun e w'=>e=.returned (.bool r)/\∃ n,w'=w.drewN n:=by
 have HR:=oH a1;clear a1;by_cases hlen:xss.length=a0.length
 .have aB:((xss.length:Int) != (a0.length:Int))=false:=by simp;omega
  have a7:xss.length<=a0.length:=by omega
  have a8:a0.length<=xss.length:=by omega
  clear hlen;go_enter Tryz.func175,Tryz.ntmps175
  go_wp2_with fail;go_loopw [5,13] (fun _ i wr=>∃ k:Nat,k<=xss.length/\i=.int .i64 k/\(∃ n,wr=w.drewN n)/\xss.take k=a0.take k) (fun _ i _=>xss.length - (intOf i).toNat)
  case atStart=>exact⟨0,oZ,rfl,⟨0,rfl⟩,by simp⟩
  obtain⟨k,hk,rfl,⟨nd,rfl⟩,a3⟩:=hrel;have HE:=oH a3;clear a3;by_cases hlt:k<xss.length
  .obtain⟨b,aG,A1,c1,xs,rfl, -, -,hx,hc,a4⟩:=hr.row hlt
   obtain⟨b',aD,A2,c2,ys,rfl, -, -,hy,aE,a5⟩:=aC.row (show k<a0.length by omega);have aF:=aBm (oG hx);have a9:k<a0.length:=by omega
   have aA:(k:Int)<(a0.length:Int):=by omega
   have HX:=oH hx;have HY:=oH hy;clear hx hy;by_cases hxy:xs=ys
   .have hC:=fun n:Nat=>aDI A1 A2 xs ys c1 c2 (w.drewN n) _ _ (a4.rs.drewN n) (a5.rs.drewN n) oO true (by simp[hxy])
    have HC:=oH hC;have a2:=oH hxy;clear hxy hC;go_wp2_with fail;go_quiet ((go_at_call 168;first|exact qz0 (HC.out _)|exact qz1 (HC.out _)))
    go_wp2_with fail;go_roundw
    case rel=>exact⟨k+1,oO,by go_num,⟨_,by first|rfl|exact dn _ _ _⟩,by rw[aAw xss HX.out,aAw a0 HY.out,HE.out,a2.out]⟩
    simp[intOf];omega
   have hC:=fun n:Nat=>aDI A1 A2 xs ys c1 c2 (w.drewN n) _ _ (a4.rs.drewN n) (a5.rs.drewN n) oO false (by simp[hxy]);have HC:=oH hC;have a2:=oH hxy;clear hxy hC;go_wp2_with fail;go_quiet ((go_at_call 168;first|exact qz0 (HC.out _)|exact qz1 (HC.out _)))
   go_wp2_with fail;go_ret;have hf:r=false:=by
    cases r
    .rfl
    have e:=HR.out.1 rfl;have hx:=HX.out;rw[e,HY.out] at hx;exact absurd (Option.some.inj hx).symm a2.out
   subst hf;exact⟨rfl,_,by first|rfl|exact dn _ _ _⟩
  go_wp2_with fail;go_ret;have a6:k=xss.length:=by omega
  have hf:r=true:=by
   refine HR.out.2 ?_;have h1:xss.take k=xss:=by rw[a6];exact List.take_length
   have h2:a0.take k=a0:=by rw[show k=a0.length from by omega];exact List.take_length
   rw[<- h1,HE.out,h2]
  subst hf;exact⟨rfl,_,rfl⟩
 have aB:((xss.length:Int) != (a0.length:Int))=true:=by simp;omega
 have hf:r=false:=by
  cases r
  .rfl
  exact absurd (congrArg List.length (HR.out.1 rfl)) hlen
 subst hf;clear hlen;go_enter Tryz.func175,Tryz.ntmps175
 go_wp2_with fail;go_ret;exact⟨rfl,0,rfl⟩
theorem aGW(A A':OA)(xss a0:LL)(c c':Nat)(w:World)(lo hi lo' hi':Nat)(hr:RSS w lo hi A xss)(aC:RSS w lo' hi' A' a0)(hl:xss.length+aAK xss<=1048576)(r:Bool)(a1:r=true↔xss=a0) :
  Calls Tryz.prog 155 #[.slice A xss.length c,.slice A' a0.length c'] w fun e w'=>e=.returned (.bool r)/\∃ n,w'=w.drewN n:=by
 have HR:=oH a1;clear a1;by_cases hlen:xss.length=a0.length
 .have aB:((xss.length:Int) != (a0.length:Int))=false:=by simp;omega
  have a7:xss.length<=a0.length:=by omega
  have a8:a0.length<=xss.length:=by omega
  clear hlen;go_enter Tryz.func155,Tryz.ntmps155
  go_wp2_with fail;go_loopw [5] (fun i wr=>∃ k:Nat,k<=xss.length/\i=.int .i64 k/\(∃ n,wr=w.drewN n)/\xss.take k=a0.take k) (fun i _=>xss.length - (intOf i).toNat)
  case atStart=>exact⟨0,oZ,rfl,⟨0,rfl⟩,by simp⟩
  obtain⟨k,hk,rfl,⟨nd,rfl⟩,a3⟩:=hrel;have HE:=oH a3;clear a3;by_cases hlt:k<xss.length
  .obtain⟨b,aG,A1,c1,xs,rfl, -, -,hx,hc,a4⟩:=hr.row hlt
   obtain⟨b',aD,A2,c2,ys,rfl, -, -,hy,aE,a5⟩:=aC.row (show k<a0.length by omega);have aF:=aBm (oG hx);have a9:k<a0.length:=by omega
   have aA:(k:Int)<(a0.length:Int):=by omega
   have HX:=oH hx;have HY:=oH hy;clear hx hy;by_cases hxy:xs=ys
   .have hC:=fun n:Nat=>aDT A1 A2 xs ys c1 c2 (w.drewN n) _ _ (a4.rs.drewN n) (a5.rs.drewN n) oO true (by simp[hxy])
    have HC:=oH hC;have a2:=oH hxy;clear hxy hC;go_wp2_with fail;go_quiet ((go_at_call 170;first|exact qz0 (HC.out _)|exact qz1 (HC.out _)))
    go_wp2_with fail;go_roundw
    case rel=>exact⟨k+1,oO,by go_num,⟨_,by first|rfl|exact dn _ _ _⟩,by rw[aAw xss HX.out,aAw a0 HY.out,HE.out,a2.out]⟩
    simp[intOf];omega
   have hC:=fun n:Nat=>aDT A1 A2 xs ys c1 c2 (w.drewN n) _ _ (a4.rs.drewN n) (a5.rs.drewN n) oO false (by simp[hxy]);have HC:=oH hC;have a2:=oH hxy;clear hxy hC;go_wp2_with fail;go_quiet ((go_at_call 170;first|exact qz0 (HC.out _)|exact qz1 (HC.out _)))
   go_wp2_with fail;go_ret;have hf:r=false:=by
    cases r
    .rfl
    have e:=HR.out.1 rfl;have hx:=HX.out;rw[e,HY.out] at hx;exact absurd (Option.some.inj hx).symm a2.out
   subst hf;exact⟨rfl,_,by first|rfl|exact dn _ _ _⟩
  go_wp2_with fail;go_ret;have a6:k=xss.length:=by omega
  have hf:r=true:=by
   refine HR.out.2 ?_;have h1:xss.take k=xss:=by rw[a6];exact List.take_length
   have h2:a0.take k=a0:=by rw[show k=a0.length from by omega];exact List.take_length
   rw[<- h1,HE.out,h2]
  subst hf;exact⟨rfl,_,rfl⟩
 have aB:((xss.length:Int) != (a0.length:Int))=true:=by simp;omega
 have hf:r=false:=by
  cases r
  .rfl
  exact absurd (congrArg List.length (HR.out.1 rfl)) hlen
 subst hf;clear hlen;go_enter Tryz.func155,Tryz.ntmps155
 go_wp2_with fail;go_ret;exact⟨rfl,0,rfl⟩
theorem aCe(a b:Int)(w:World)(ha:-9223372036854775808<=a)(a0:a<=9223372036854775807) :
  Calls Tryz.prog 188 #[a,b] w fun e w'=>e=.returned (.bool (aFg a b))/\w=w':=by
 by_cases h0:a=0
 .subst h0
  go_enter Tryz.func188,Tryz.ntmps188
  go_wp2_with fail;go_ret;exact⟨by simp[aFg],rfl⟩
 by_cases hm:a=aMc
 .have hr:aFg a b=false:=by simp[aFg,hm]
  rw[hr];clear h0 hr;subst hm;unfold aMc;clear ha a0;go_enter Tryz.func188,Tryz.ntmps188
  go_wp2_with fail;go_ret;exact⟨rfl,rfl⟩
 have a2:-9223372036854775807<=a:=by unfold aMc at hm;omega
 have hx:(a != 0)=true:=by simpa using h0
 by_cases hb:(b == -a)=true
 .have hr:aFg a b=true:=by simp[aFg,h0,hm];simpa using hb
  rw[hr];clear h0 hm hr;go_enter Tryz.func188,Tryz.ntmps188
  go_wp2_with fail;go_ret;exact⟨by simp;omega,rfl⟩
 have a1:(b == -a)=false:=by simpa using hb
 have hr:aFg a b=false:=by simp[aFg];intro _ _;simpa using hb
 rw[hr];clear h0 hm hr hb;go_enter Tryz.func188,Tryz.ntmps188
 go_wp2_with fail;go_ret;exact⟨rfl,rfl⟩
theorem aDu(rank x:Int)(w:World)(h1:1<=rank)(h3:rank<=3) :
  Calls Tryz.prog 216 #[rank,x] w fun e w'=>e=.returned (.bool (aRP rank x))/\w=w':=by
 by_cases h0:x=0
 .subst h0
  go_enter Tryz.func216,Tryz.ntmps216
  go_wp2_with fail;go_ret;exact⟨by simp[aRP],rfl⟩
 have hx:(x != 0)=true:=by simpa using h0
 have hr:aRP rank x=inB x (-rank) rank:=by simp[aRP,inB,h0]
 rw[hr];clear h0 hr;go_enter Tryz.func216,Tryz.ntmps216
 go_wp2_with fail;with_reducible refine(aAu _ _ _ _).mono ?_
 rintro e w' ⟨rfl,rfl⟩;go_wp2_with fail;go_ret;exact⟨rfl,rfl⟩
theorem aFf(a b:Int)(w:World) :
  Calls Tryz.prog 113 #[a,b] w fun e w'=>e=.returned (.int .i64 (aGp a b))/\w=w':=by
 by_cases h1:a<b
 .have hr:aGp a b = -1:=by simp[aGp,h1]
  rw[hr];clear hr;go_enter Tryz.func113,Tryz.ntmps113
  go_wp2_with fail;go_ret;exact⟨rfl,rfl⟩
 by_cases h2:b<a
 .have hr:aGp a b=1:=by simp[aGp,h1,h2]
  rw[hr];clear hr;go_enter Tryz.func113,Tryz.ntmps113
  go_wp2_with fail;go_ret;exact⟨rfl,rfl⟩
 have hr:aGp a b=0:=by simp[aGp,h1,h2]
 rw[hr];clear hr;go_enter Tryz.func113,Tryz.ntmps113
 go_wp2_with fail;go_ret;exact⟨rfl,rfl⟩
theorem aHZ{x:Int}(h1:-9223372036854775808<=x)(h2:x<=9223372036854775807):wrap64 (-x)=negI x:=by
 unfold negI aMc;by_cases h:x = -9223372036854775808
 .rw[if_pos h,h]
  unfold wrap64;omega
 rw[if_neg h];exact IntWalk.wrap64_in _ ⟨oO,oO⟩
theorem aNr(x:Int)(t:LI):aAE (x::t)=aAE t++[negI x]:=by simp[aAE]
theorem aCQ(A:OA)(xs:LI)(c B:Nat)(w:World)(hr:Rs w B A (aAe xs))(hB:B<=w.heap.size)(a3:OkI xs)(hl:xs.length<=4194304) :
  Calls Tryz.prog 22 #[.slice A xs.length c] w fun e w'=>RetI 3 (aAE xs) w e w':=by
 have a5:=oH a3;clear a3;have a6:=(Below.refl w w).alloc oN (.cells #[] 3);have a8:=aAd w 3 1;go_enter Tryz.func22,Tryz.ntmps22
 go_wp2_with fail;go_loopw [3,4] (fun v i wr=>∃ j:Nat,j<=xs.length/\i=.int .i64 ((j:Int) - 1)/\wr.ownsRow w.heap.size 3 1 v (xs.length - j) (aAe (aAE (xs.drop j)))/\Below w.heap.size w wr)
  (fun _ i _=>(intOf i+1).toNat)
 case atStart=>exact⟨xs.length,oN,rfl,by simpa [aAE,aAe] using a8,a6⟩
 obtain⟨j,hj,rfl,a0,hb⟩:=hrel;have a4:=hb.size;cases j with
|zero=>
  go_wp2_with fail;go_ret;exact RetI.mk (by rw[aBE]) (by simpa using a0) hb
|succ m=>
  rw[show(((m+1:Nat):Int) - 1)=(m:Int) from by omega];obtain⟨b,a9,x,rfl, -,hx,hc⟩:=((hr.more hB).below hb).int (show m<xs.length by omega);have a2:=a5.out x (oG hx);have HW:=oH (aHZ a2.1 a2.2);have HX:=oH hx;clear hx a2;go_wp2_with (at_builtin;refine aAk rfl _ _ 44 rfl w 3 (.int .i64 0) 1 8 aBo aBs rfl oD _ _ _ rfl a0 1 [.int .i64 (wrap64 (-x))] rfl rfl ?c1 ?c2 ?c3 a4 ?next)
  case c1=>exact aAm [wrap64 (-x)]
  case c2=>unfold maxLen;omega
  case c3=>omega
  case next=>
   intro v' w1 a1 a7 _;go_wp2_with fail;go_roundw
   case rel=>
    refine⟨m,oO,rfl,?_,hb.grown a7 a4 (fun g hg=>(a0.lt g hg).1)⟩;rw[aOr xs HX.out,aNr,aAi,show xs.length - m=xs.length - (m+1)+1 from by omega,<- HW.out];exact a1
   simp[intOf]
def WordTo(rank:Int)(xs:LI)(k:Nat):Prop:=
 ∀ j x,j<k->xs[j]?=some x->aRP rank x=true/\∀ y,0<j->xs[j - 1]?=some y->aFg y x=false
theorem WordTo.zero(rank:Int)(xs:LI):WordTo rank xs 0:=fun j x h=>absurd h (Nat.not_lt_zero j)
theorem WordTo.succ{rank:Int}{xs:LI}{k:Nat}{x:Int}(h:WordTo rank xs k)(hx:xs[k]?=some x)(hl:aRP rank x=true)(hp:∀ y,0<k->xs[k - 1]?=some y->aFg y x=false):WordTo rank xs (k+1):=by
 intro j z hj hz;rcases Nat.lt_or_eq_of_le (Nat.le_of_lt_succ hj) with h1|rfl
 .exact h j z h1 hz
 rw[hx] at hz;obtain rfl:=Option.some.inj hz;exact⟨hl,hp⟩
theorem aLy{rank:Int}{xs:LI}(h1:1<=rank)(h3:rank<=3):WordTo rank xs xs.length↔aTY rank xs:=by
 constructor
 .intro h
  refine⟨fun x hx=>?_,fun k x y hx hy he=>?_⟩
  .obtain⟨j,hj⟩:=List.mem_iff_getElem?.1 hx
   have:=(h j x (List.getElem?_eq_some_iff.1 hj).1 hj).1
   simpa [aRP] using this
  have hl:=(List.getElem?_eq_some_iff.1 hy).1;have h2:=(h (k+1) y hl hy).2 x (Nat.succ_pos k) (by simpa using hx);have h4:=(h k x oO hx).1;simp[aRP] at h4;have:aFg x y=true:=(aJn x y).2 ⟨h4.1,by unfold aMc;omega,he⟩;rw[this] at h2;cases h2
 rintro⟨ha,hb⟩ j x hj hx;refine⟨by simpa [aRP] using ha x (oG hx),fun y h0 hy=>?_⟩;cases hv:aFg y x with
|false=>rfl
|true=>exact absurd ((aJn y x).1 hv).2.2 (hb (j - 1) y x hy (by rw[Nat.sub_add_cancel h0];exact hx))
def aSL(rank:Int)(xs:LI)(j:Nat)(x:Int):Prop:=(x == 0)=false/\inB x (wrap64 (-rank)) rank=true/\∀ y,0<j->xs[j - 1]?=some y->(x == wrap64 (-y))=false
def RawTo(rank:Int)(xs:LI)(k:Nat):Prop:=∀ j x,j<k->xs[j]?=some x->aSL rank xs j x
theorem RawTo.zero(rank:Int)(xs:LI):RawTo rank xs 0:=fun j x h=>absurd h (Nat.not_lt_zero j)
theorem RawTo.succ{rank:Int}{xs:LI}{k:Nat}{x:Int}(h:RawTo rank xs k)(hx:xs[k]?=some x)(hp:aSL rank xs k x):RawTo rank xs (k+1):=by
 intro j z hj hz;rcases Nat.lt_or_eq_of_le (Nat.le_of_lt_succ hj) with h1|rfl
 .exact h j z h1 hz
 rw[hx] at hz;obtain rfl:=Option.some.inj hz;exact hp
theorem aNG{rank:Int}{xs:LI}(h1:1<=rank)(h3:rank<=3):RawTo rank xs xs.length↔aTY rank xs:=by
 have hw:wrap64 (-rank) = -rank:=by rw[aHZ oO oO];unfold negI aMc;rw[if_neg oO]
 have a0:∀ y, -rank<=y->y<=rank->wrap64 (-y) = -y:=fun y ha hb=>by rw[aHZ oO oO];unfold negI aMc;rw[if_neg oO]
 unfold RawTo aSL;rw[hw];constructor
 .intro h
  refine⟨fun x hx=>?_,fun k x y hx hy he=>?_⟩
  .obtain⟨j,hj⟩:=List.mem_iff_getElem?.1 hx
   have:=h j x (List.getElem?_eq_some_iff.1 hj).1 hj;simp[inB] at this;exact⟨this.1,this.2.1⟩
  have hl:=(List.getElem?_eq_some_iff.1 hy).1;have h2:=(h (k+1) y hl hy).2.2 x (Nat.succ_pos k) (by simpa using hx);have h4:=(h k x oO hx).2.1;simp[inB] at h4;rw[a0 x h4.1 h4.2,he] at h2;simp at h2
 rintro⟨ha,hb⟩ j x hj hx;have h0:=ha x (oG hx);refine⟨by simpa using h0.1,by simpa [inB] using h0.2,fun y hp hy=>?_⟩;have h5:=ha y (oG hy);rw[a0 y h5.2.1 h5.2.2];have:=hb (j - 1) y x hy (by rw[Nat.sub_add_cancel hp];exact hx)
 simpa using this
def aBc(u x v:Int):Ed:=if x<0 then⟨v, -x,u⟩ else⟨u,x,v⟩
def aCd(u s:Int)(n:Nat)(v:Int)(i:Nat):Int:=if i=0 then u else if i<n then s+(i:Int) - 1 else v
def aCq(u s:Int)(w:LI)(v:Int)(k:Nat):List Ed:=(List.range k).map fun i=>aBc (aCd u s w.length v i) (w.getD i 0) (aCd u s w.length v (i+1))
theorem aLl{u s v x:Int}{w:LI}{k:Nat}(h:w[k]?=some x):aCq u s w v (k+1)=aCq u s w v k++[aBc (aCd u s w.length v k) x (aCd u s w.length v (k+1))]:=by
 simp[aCq,List.range_succ,List.getD,h]
theorem aHN(u s:Int)(w:LI)(v:Int)(k:Nat):(aCq u s w v k).length=k:=by simp[aCq]
structure PathOk (r s:Int) (es:List Ed) (u:Int) (w:LI) (v:Int):Prop where
 gr:IsGr r s es
 u0:0<=u/\u<s
 v0:0<=v/\v<s
 word:IsW r w
 ne:w≠[]
 sz:s+(w.length:Int) - 1<=40
 ln:es.length+w.length<=120
theorem aPJ{u s v:Int}{n:Nat}(hu:0<=u/\u<s)(hv:0<=v/\v<s)(i:Nat):0<=aCd u s n v i/\(0<n->aCd u s n v i<s+(n:Int) - 1):=by
 unfold aCd;split
 .omega
 split <;> omega
theorem aTB{r s u x v:Int}(hu:0<=u/\u<s)(hv:0<=v/\v<s)(hx:x≠0/\-r<=x/\x<=r):InG r s (aBc u x v):=by
 unfold aBc InG;split <;> simp only <;> omega
theorem aMm{r s:Int}{es:List Ed}{u:Int}{w:LI}{v:Int}(h:PathOk r s es u w v):IsGr r (s+(w.length:Int) - 1) (canon (es++aCq u s w v w.length)):=by
 have hs:=h.gr.size;have hn:0<w.length:=List.length_pos_iff.2 h.ne;refine⟨h.gr.rank,⟨oO,h.sz⟩,?_,?_,aCI _⟩
 .have h1:=aDe (es++aCq u s w v w.length)
  rw[List.length_append,aHN] at h1;have:=h.ln;omega
 intro e he;rcases List.mem_append.1 (aAO.1 he) with h1|h1
 .have:=h.gr.all e h1
  unfold InG at this |-;omega
 simp only[aCq,List.mem_map,List.mem_range] at h1;obtain⟨i,hi,rfl⟩:=h1;have h2:=aPJ (n:=w.length) h.u0 h.v0 i;have h3:=aPJ (n:=w.length) h.u0 h.v0 (i+1);refine aTB ⟨h2.1,h2.2 hn⟩ ⟨h3.1,h3.2 hn⟩ ?_;have hw:=h.word.2.2.2;have hm:w.getD i 0∈w:=by
  rw[List.getD_eq_getElem?_getD,List.getElem?_eq_getElem hi];exact List.getElem_mem hi
 exact hw.1 _ hm
def aID(p:LI):Prop:=p.length<=40/\(∀ x∈p,0<=x/\x<p.length)/\p.Nodup
theorem aQG{α:Type}{l:List α}{x:α}:(l++[x]).Nodup↔l.Nodup/\x ∉ l:=by
 rw[List.nodup_append];simp;intro _;constructor
 .intro h hx
  exact h x hx rfl
 intro h a ha e;subst e;exact h ha
theorem aCM{α:Type}{p:List α}{k:Nat}{x y:α}(hx:p[k]?=some x):y∈p.take (k+1)↔y∈p.take k \/ y=x:=by
 rw[List.take_add_one,hx];simp
theorem aDN{α:Type}{p:List α}{k:Nat}{x:α}(hx:p[k]?=some x):(p.take (k+1)).Nodup↔(p.take k).Nodup/\x ∉ p.take k:=by
 rw[List.take_add_one,hx];exact aQG
theorem aIK{α:Type}{p:List α}{k:Nat}{x:α}(hx:p[k]?=some x)(h:x∈p.take k):¬ p.Nodup:=fun hn=>by
 have h1:(p.take (k+1)).Nodup:=(List.take_sublist _ _).nodup hn;exact((aDN hx).1 h1).2 h
theorem aLj{α:Type}{p:List α}{k:Nat}{x:α}(hx:p[k]?=some x):x∈p:=oG hx
theorem aJs:∀(L:Nat) (l:LI),l.Nodup->(∀ v∈l,0<=v/\v<(L:Int))->l.length<=L:=by
 intro L
 induction L with
|zero=>
  intro l _ h;cases l with
 |nil=>simp
 |cons a t=>have:=h a List.mem_cons_self;omega
|succ L ih=>
  intro l hn h;by_cases hm:(L:Int)∈l
  .have h1:=ih (l.erase (L:Int)) (hn.erase _) (fun v hv=>by
    have a0:=List.mem_of_mem_erase hv;have h3:=h v a0;have h4:v≠(L:Int):=fun e=>by subst e;exact(hn.not_mem_erase) hv
    omega)
   rw[List.length_erase_of_mem hm] at h1;omega
  have h1:=ih l hn (fun v hv=>by
   have h3:=h v hv;have h4:v≠(L:Int):=fun e=>by subst e;exact hm hv
   omega)
  omega
def aEh(n:Nat)(ord:LI):LI:=(List.range n).map fun(v:Nat)=>aDn ord (v:Int)
theorem aIs(n:Nat)(ord:LI):(aEh n ord).length=n:=by simp[aEh]
theorem aLo(n:Nat):aEh n []=List.replicate n (-1):=by
 unfold aEh;rw[List.eq_replicate_iff];refine⟨by simp,fun b hb=>?_⟩;obtain⟨v, -,rfl⟩:=List.mem_map.1 hb;exact aPC oM
theorem aED{n j:Nat}(ord:LI)(h:j<n):(aEh n ord)[j]?=some (aDn ord (j:Int)):=by simp[aEh,h]
theorem aRI{xs:LI}{x:Int}(h:x ∉ xs)(v:Int):aDn (xs++[x]) v=if v=x then(xs.length:Int) else aDn xs v:=by
 unfold aDn;by_cases hv:v=x
 .subst hv
  rw[if_pos oM,if_pos rfl,List.idxOf_append,if_neg h];simp
 rw[if_neg hv];by_cases hm:v∈xs
 .rw[if_pos (by simp[hm]),if_pos hm,List.idxOf_append,if_pos hm]
 rw[if_neg (by simp[hm,hv]),if_neg hm]
theorem aLp{n m k:Nat}{ord:LI}(hn:ord.Nodup)(hk:ord[k]?=some (m:Int))(hm:m<n):(aEh n (ord.take k)).set m (k:Int)=aEh n (ord.take (k+1)):=by
 obtain⟨a1,a0⟩:=List.getElem?_eq_some_iff.1 hk;have ht:ord.take (k+1)=ord.take k++[(m:Int)]:=by rw[List.take_succ_eq_append_getElem a1,a0]
 have a2:(m:Int) ∉ ord.take k:=by
  rw[<- List.take_append_drop (k+1) ord,ht] at hn;exact fun h=>(List.nodup_append.1 (List.nodup_append.1 hn).1).2.2 _ h _ oM rfl
 have hl:(ord.take k).length=k:=by rw[List.length_take];omega
 apply List.ext_getElem?;intro j;rw[ht];by_cases hj:j<n
 .rw[aED _ hj,aRI a2]
  by_cases hjm:m=j
  .subst hjm
   rw[List.getElem?_set_self (by rw[aIs];exact hj),if_pos rfl,hl]
  rw[List.getElem?_set_ne hjm,aED _ hj,if_neg oO]
 rw[List.getElem?_eq_none (by rw[List.length_set,aIs];omega),List.getElem?_eq_none (by rw[aIs];omega)]
def aEE(n:Nat)(ord:LI):LI:=(aEh n ord).map (·+1)
theorem aQL(n:Nat):aEE n []=List.replicate n 0:=by simp[aEE,aLo]
theorem aIt{n j:Nat}(ord:LI)(h:j<n):(aEE n ord)[j]?=some (aDn ord (j:Int)+1):=by simp[aEE,aED ord h]
theorem aQM{n m k:Nat}{ord:LI}(hn:ord.Nodup)(hk:ord[k]?=some (m:Int))(hm:m<n):(aEE n (ord.take k)).set m ((k:Int)+1)=aEE n (ord.take (k+1)):=by
 unfold aEE;rw[<- aLp hn hk hm,List.map_set]
theorem aOL{k:Nat}{x:Int}{ord:LI}(hn:ord.Nodup)(hk:ord[k]?=some x):x ∉ ord.take k:=by
 obtain⟨a1,a0⟩:=List.getElem?_eq_some_iff.1 hk;have ht:ord.take (k+1)=ord.take k++[x]:=by rw[List.take_succ_eq_append_getElem a1,a0]
 rw[<- List.take_append_drop (k+1) ord,ht] at hn;exact fun h=>(List.nodup_append.1 (List.nodup_append.1 hn).1).2.2 _ h _ oM rfl
abbrev PS:=List (Int × Int)
def rdA(es:List Ed):Int->LI->Int × Nat
|v,[]=>(v,0)
|v,x::t=>if aAr es v x<0 then(v,0) else((rdA es (aAr es v x) t).1,(rdA es (aAr es v x) t).2+1)
def aCT(g:Int × List Ed)(w:LI):Int × List Ed:=if w=[] then g else(g.1+(w.length:Int) - 1,canon (g.2++aCq 0 g.1 w 0 w.length))
def aBn(l:LL)(g:Int × List Ed):Int × List Ed:=l.foldl aCT g
theorem aIf{l:LL}{k:Nat}{w:LI}(h:l[k]?=some w)(g:Int × List Ed):aBn (l.take (k+1)) g=aCT (aBn (l.take k) g) w:=by
 unfold aBn;rw[List.take_add_one,h];simp[List.foldl_append]
def Sp(es:List Ed)(u x v:Int):Prop:=(0<x/\(⟨u,x,v⟩:Ed)∈es) \/ (x<0/\(⟨v, -x,u⟩:Ed)∈es)
def Pa(es:List Ed):Int->LI->Int->Prop
|u,[],v=>u=v
|u,x::w,v=>∃ t,Sp es u x t/\Pa es t w v
theorem Sp.neg{es:List Ed}{u x v:Int}(h:Sp es u x v):Sp es v (-x) u:=by
 rcases h with⟨h1,h2⟩|⟨h1,h2⟩
 .exact .inr ⟨oO,by rw[Int.neg_neg];exact h2⟩
 exact .inl ⟨oO,h2⟩
theorem aEX{es:List Ed}{e:Ed}(h:e∈es)(hl:0<e.l):Sp es e.a e.l e.b:=.inl ⟨hl,h⟩
theorem aPY{es:List Ed}{u x v:Int}:Sp es u x v↔∃ e∈es,aEN u x e=some v:=by
 constructor
 .rintro(⟨h1,h2⟩|⟨h1,h2⟩)
  .exact⟨_,h2,aBr.2 (.inl ⟨h1,rfl,rfl,rfl⟩)⟩
  exact⟨_,h2,aBr.2 (.inr ⟨h1,rfl,rfl,rfl⟩)⟩
 rintro⟨e,he,h⟩;rcases aBr.1 h with⟨h1,rfl,rfl,rfl⟩|⟨h1,h2,rfl,rfl⟩
 .exact .inl ⟨h1,he⟩
 refine .inr ⟨h1,?_⟩;rw[<- h2];exact he
theorem aMv{es:List Ed}{u x v:Int}:Sp es u x v↔v∈aEp es u x:=aPY.trans aEU.symm
theorem Sp.rng{r s:Int}{es:List Ed}(hg:∀ e∈es,InG r s e){u x v:Int}(h:Sp es u x v):(0<=u/\u<s)/\(0<=v/\v<s)/\x≠0/\-r<=x/\x<=r:=by
 rcases h with⟨h1,h2⟩|⟨h1,h2⟩
 .have:=hg _ h2
  simp only[InG] at this;omega
 have:=hg _ h2;simp only[InG] at this;omega
theorem Sp.lt3{r s:Int}{es:List Ed}(hg:IsGr r s es){u x v:Int}(h:Sp es u x v):Lt3 x:=by
 have h1:=h.rng hg.all;have h2:=hg.rank;unfold Lt3;omega
theorem Sp.mono{es fs:List Ed}(hs:∀ e∈es,e∈fs){u x v:Int}(h:Sp es u x v):Sp fs u x v:=h.imp (fun h=>⟨h.1,hs _ h.2⟩) (fun h=>⟨h.1,hs _ h.2⟩)
theorem Pa.mono{es fs:List Ed}(hs:∀ e∈es,e∈fs):∀ {w:LI} {u v:Int},Pa es u w v->Pa fs u w v
|[],_,_,h=>h
|_::_,_,_,⟨t,h1,h2⟩=>⟨t,h1.mono hs,h2.mono hs⟩
theorem Pa.nil(es:List Ed)(u:Int):Pa es u [] u:=rfl
theorem aDO{es:List Ed}{u x v:Int}:Pa es u [x] v↔Sp es u x v:=by
 constructor
 .rintro⟨t,h,rfl⟩
  exact h
 exact fun h=>⟨v,h,rfl⟩
theorem aIL{es:List Ed}{b:LI}{v:Int}:∀ {a:LI} {u:Int},Pa es u (a++b) v↔∃ t,Pa es u a t/\Pa es t b v
|[],u=>⟨fun h=>⟨u,rfl,h⟩,fun⟨t,h1,h2⟩=>by cases h1;exact h2⟩
|x::a,u=>by
  constructor
  .rintro⟨t,h1,h2⟩
   obtain⟨s,h3,h4⟩:=aIL.1 h2;exact⟨s,⟨t,h1,h3⟩,h4⟩
  .rintro⟨s,⟨t,h1,h3⟩,h4⟩
   exact⟨t,h1,aIL.2 ⟨s,h3,h4⟩⟩
theorem Pa.app{es:List Ed}{a b:LI}{u t v:Int}(h:Pa es u a t)(k:Pa es t b v):Pa es u (a++b) v:=aIL.2 ⟨t,h,k⟩
theorem Pa.snoc{es:List Ed}{a:LI}{u t x v:Int}(h:Pa es u a t)(k:Sp es t x v):Pa es u (a++[x]) v:=h.app (aDO.2 k)
theorem Pa.lt{r s:Int}{es:List Ed}(hg:IsGr r s es):∀ {w:LI} {u v:Int},Pa es u w v->LtW w
|[],_,_,_=>LtW.nil
|_::_,_,_,⟨t,h1,h2⟩=>LtW.cons (h1.lt3 hg) (h2.lt hg)
theorem Pa.rng{r s:Int}{es:List Ed}(hg:∀ e∈es,InG r s e):∀ {w:LI} {u v:Int},Pa es u w v->0<=u/\u<s->0<=v/\v<s
|[],_,_,h,hu=>by cases h;exact hu
|_::_,_,_,⟨t,h1,h2⟩,_=>h2.rng hg (h1.rng hg).2.1
theorem Pa.inv{r s:Int}{es:List Ed}(hg:IsGr r s es):∀ {w:LI} {u v:Int},Pa es u w v->Pa es v (aAE w) u
|[],_,_,h=>by cases h;rfl
|x::w,u,v,⟨t,h1,h2⟩=>by
  have e:aAE (x::w)=aAE w++[-x]:=by
   rw[show x::w=[x]++w from rfl,aCz];simp[aAE,(h1.lt3 hg).negI]
  rw[e];exact(h2.inv hg).snoc h1.neg
theorem IsFol.det{r s:Int}{es:List Ed}(h:IsFol r s es){u x v v':Int}(h1:Sp es u x v)(h2:Sp es u x v'):v=v':=by
 have key:∀ e∈es,∀ f∈es,Clash e f->e=f:=by
  intro e he f hf hc;obtain⟨i,hi,rfl⟩:=List.getElem_of_mem he;obtain⟨j,hj,rfl⟩:=List.getElem_of_mem hf;have hp:=List.pairwise_iff_getElem.1 h.fol;rcases Nat.lt_trichotomy i j with hl|rfl|hl
  .exact absurd hc (hp i j hi hj hl)
  .rfl
  exact absurd hc.symm (hp j i hj hi hl)
 rcases h1 with⟨a1,b1⟩|⟨a1,b1⟩
 .rcases h2 with⟨a2,b2⟩|⟨a2,b2⟩
  .have:=key _ b1 _ b2 ⟨rfl,.inl rfl⟩
   injection this
  omega
 rcases h2 with⟨a2,b2⟩|⟨a2,b2⟩
 .omega
 have:=key _ b1 _ b2 ⟨rfl,.inr rfl⟩;injection this
theorem Pa.det{r s:Int}{es:List Ed}(h:IsFol r s es):∀ {w:LI} {u v v':Int},Pa es u w v->Pa es u w v'->v=v'
|[],_,_,_,h1,h2=>h1.symm.trans h2
|_::_,_,_,_,⟨t,a1,b1⟩,⟨t',a2,b2⟩=>by
  cases h.det a1 a2
  exact b1.det h b2
theorem Pa.det'{r s:Int}{es:List Ed}(h:IsFol r s es){w:LI}{u u' v:Int}(h1:Pa es u w v)(h2:Pa es u' w v):u=u':=(h1.inv h.gr).det h (h2.inv h.gr)
theorem aDb{r s:Int}{es:List Ed}(h:IsFol r s es){u x v:Int}(hs:Sp es u x v):aAr es u x=v:=by
 have hm:=aMv.1 hs;exact aHE hm fun y hy=>by
  have:=h.det hs (aMv.2 hy);omega
theorem aCs{es:List Ed}{u x:Int}(h:0<=aAr es u x):Sp es u x (aAr es u x):=by
 obtain⟨e,he,h2⟩:=aIo h;exact aPY.2 ⟨e,he,h2⟩
theorem aJr{es:List Ed}{u x:Int}(h:aAr es u x<0)(hg:∀ e∈es,0<=e.a/\0<=e.b)(v:Int):¬ Sp es u x v:=by
 intro hs;have hm:=aMv.1 hs;have a0:aEp es u x≠[]:=fun e=>by rw[e] at hm;cases hm
 obtain⟨h1,h2⟩:=aEA a0;have h3:=aMv.2 h1;have:0<=aKe (aEp es u x):=by
  rcases h3 with⟨_,h3⟩|⟨_,h3⟩
  .exact(hg _ h3).2
  exact(hg _ h3).1
 unfold aAr at h;omega
theorem IsGr.nn{r s:Int}{es:List Ed}(h:IsGr r s es):∀ e∈es,0<=e.a/\0<=e.b:=fun e he=>⟨(h.all e he).1,(h.all e he).2.2.1⟩
theorem aJu{r s:Int}{es:List Ed}(h:IsFol r s es):∀ {w:LI} {u v:Int},Pa es u w v->rdA es u w=(v,w.length)
|[],_,_,hp=>by cases hp;rfl
|x::w,u,v,⟨t,h1,h2⟩=>by
  have e:=aDb h h1;have ht:=(h1.rng h.gr.all).2.1;rw[rdA,e,if_neg oO,aJu h h2]
  rfl
theorem aTT{es:List Ed}:∀ {w:LI} {u:Int},(rdA es u w).2=w.length->Pa es u w (rdA es u w).1
|[],_,_=>rfl
|x::w,u,h=>by
  rw[rdA] at h |-;by_cases hn:aAr es u x<0
  .rw[if_pos hn] at h
   simp at h
  .rw[if_neg hn] at h |-
   exact⟨_,aCs oO,aTT (by simpa using h)⟩
theorem aUL{r s:Int}{es:List Ed}(h:IsFol r s es){w:LI}{u v:Int}:Pa es u w v↔rdA es u w=(v,w.length):=by
 refine⟨aJu h,fun e=>?_⟩;have h2:(rdA es u w).2=w.length:=by rw[e]
 have:=aTT h2
 rwa [e] at this
theorem aSe{r s:Int}{es:List Ed}(h:IsFol r s es):∀ {w:LI} {out:LI} {u t v:Int},Pa es u out t->Pa es t w v->Pa es u (red out w) v
|[],out,u,t,v,h1,h2=>by cases h2;exact h1
|x::w,out,u,t,v,h1,⟨t2,h2,h3⟩=>by
  rw[aCb];refine aSe h ?_ h3;rcases aBy out with rfl|⟨o,a,rfl⟩
  .cases h1
   rw[aBT];exact aDO.2 h2
  .obtain⟨p,h4,h5⟩:=aIL.1 h1
   have h5:=aDO.1 h5;cases hb:aFg a x with
  |false=>rw[aAT hb];exact h1.snoc h2
  |true=>
    rw[aBt hb];have e:=(aDK (h5.lt3 h.gr) (h2.lt3 h.gr)).1 hb;have e2:x = -a:=by omega
    rw[e2] at h2;rw[h.det h2 h5.neg];exact h4
theorem Pa.red{r s:Int}{es:List Ed}(h:IsFol r s es){w:LI}{u v:Int}(hp:Pa es u w v):Pa es u (red [] w) v:=aSe h (Pa.nil es u) hp
def InS(es:List Ed)(w:LI):Prop:=Pa es 0 (red [] w) 0
theorem InS.mk{r s:Int}{es:List Ed}(h:IsFol r s es){w:LI}(hp:Pa es 0 w 0):InS es w:=hp.red h
theorem InS.eqv{es:List Ed}{a b:LI}(h:Eqv a b):InS es a↔InS es b:=by unfold InS;rw[h]
theorem aUr{r s:Int}{es:List Ed}(h:IsFol r s es)(w:LI):InS es w↔rdA es 0 (red [] w)=(0,(red [] w).length):=aUL h
theorem aPn:∀ {es:List Ed},(es.Pairwise fun e f=>¬ Clash e f)->∀ {e f:Ed},e∈es->f∈es->Clash e f->e=f
|[],_,e,f,he,_,_=>by cases he
|g::t,h,e,f,he,hf,hc=>by
  obtain⟨h1,h2⟩:=List.pairwise_cons.1 h;rcases List.mem_cons.1 he with ha|ha
  .rcases List.mem_cons.1 hf with hb|hb
   .rw[ha,hb]
   .rw[ha] at hc
    exact absurd hc (h1 f hb)
  .rcases List.mem_cons.1 hf with hb|hb
   .rw[hb] at hc
    exact absurd hc.symm (h1 e ha)
   .exact aPn h2 ha hb hc
theorem aRT{r s:Int}{es:List Ed}(h:IsFol r s es){v x:Int}(hx:0<=aAr es v x):aAr es (aAr es v x) (-x)=v:=by
 obtain⟨e,he,hv⟩:=aIo hx;generalize aAr es v x=u at hv;have hu:aEN u (-x) e=some v:=by
  rw[aBr] at hv |-;rcases hv with⟨h1,h2,h3,h4⟩|⟨h1,h2,h3,h4⟩
  .exact .inr ⟨oO,oO,h4,h3⟩
  exact .inl ⟨oO,oO,h4,h3⟩
 have hm:v∈aEp es u (-x):=aEU.2 ⟨e,he,hu⟩;refine aHE hm fun y hy=>?_;obtain⟨f,hf,hy⟩:=aEU.1 hy;rw[aBr] at hu hy;have hc:Clash e f:=by unfold Clash;omega
 have:=aPn h.fol he hf hc;subst this;omega
section
def aTi(w:LI):Int:=w.getLast?.getD 0
theorem aLi(w:LI)(x:Int):aTi (w++[x])=x:=by simp[aTi]
def aJM(es:List Ed)(q:Int × LI):Ed:=aBc (aAr es q.1 (-(aTi q.2))) (aTi q.2) q.1
def aBG(es:List Ed)(st:BS):List Ed:=st.tail.map (aJM es)
theorem aQR(es:List Ed){st:BS}(q:Int × LI)(h:st≠[]):aBG es (st++[q])=aBG es st++[aJM es q]:=by
 cases st with
|nil=>exact absurd rfl h
|cons p t=>simp[aBG]
theorem aKZ{r s:Int}{es:List Ed}(hf:IsFol r s es){u x:Int}{w:LI}(h:0<=aAr es u x):aJM es (aAr es u x,w++[x])=aBc u x (aAr es u x):=by
 unfold aJM;simp only[aLi];rw[aRT hf h]
structure Par (es:List Ed) (L:LI) (st:BS):Prop where
 ne:st≠[]
 par:∀ q∈st.tail,∃ p∈st,∃ x∈L,q=(aAr es p.1 x,p.2++[x])/\0<=aAr es p.1 x
theorem Par.step{es:List Ed}{L:LI}{st:BS}(h:Par es L st){p:Int × LI}(hp:p∈st){x:Int}(hx:x∈L):Par es L (aAx es p.1 p.2 st x):=by
 unfold aAx;split
 .exact h
 rename_i hc;refine⟨by simp,fun q hq=>?_⟩;have ht:(st++[(aAr es p.1 x,p.2++[x])]).tail=st.tail++[(aAr es p.1 x,p.2++[x])]:=by
  cases hst:st with
 |nil=>exact absurd hst h.ne
 |cons a t=>rfl
 rw[ht] at hq;rcases List.mem_append.1 hq with hq|hq
 .obtain⟨p',a0,x',a1,h1,h2⟩:=h.par q hq
  exact⟨p',by simp[a0],x',a1,h1,h2⟩
 simp at hq;subst hq;exact⟨p,by simp[hp],x,hx,rfl,oO⟩
theorem Par.row{es:List Ed}{L:LI}{p:Int × LI}:∀(K:LI),(∀ x∈K,x∈L)->∀ {st:BS},Par es L st->p∈st->Par es L (aAN es K p st)
|[],_,st,h,_=>h
|x::K,hK,st,h,hp=>Par.row K (fun y hy=>hK y (by simp[hy])) (h.step hp (hK x oM)) ((aGD es p.1 p.2 st x).subset hp)
theorem aRj(es:List Ed)(L:LI)(v:Int)(i:Nat):Par es L (aAn es L v i):=by
 induction i with
|zero=>exact⟨by simp[aAn],fun q hq=>by simp[aAn] at hq⟩
|succ i ih=>
  show Par es L (match (aAn es L v i)[i]? with|none=>aAn es L v i|some p=>aAN es L p (aAn es L v i))
  split
  .exact ih
  rename_i p hp;exact Par.row L (fun x hx=>hx) ih (oG hp)
theorem aRl(es:List Ed)(L:LI)(v:Int):Par es L (bfs es L v):=aRj es L v 41
theorem IsCor.found{r n:Nat}{es:List Ed}(h:IsCor r n es):(bfs es (aAg r) 0).length=n:=by
 have h1:=h.canon;unfold canonG at h1;rw[if_pos h.fol] at h1;have h2:=congrArg Prod.fst h1;simp only[aBS,List.length_map,Int.toNat_natCast] at h2;omega
theorem IsCor.has{r n:Nat}{es:List Ed}(h:IsCor r n es){v:Nat}(hv:v<n):∃ w,((v:Int),w)∈bfs es (aAg r) 0:=by
 have hn:0<n:=by omega
 have hb:=aHh (L:=aAg r) (v:=0) h.gr.all (Int.le_refl _) (show(0:Int)<(n:Int) by omega);rcases Classical.em ((v:Int)∈(bfs es (aAg r) 0).map Prod.fst) with hm|hm
 .obtain⟨p,hp,a1⟩:=List.mem_map.1 hm
  refine⟨p.2,?_⟩;rw[<- a1];exact hp
 exfalso
 have hk:BfsOk n (aAg r) (bfs es (aAg r) 0++[((v:Int),[])]):=by
  refine⟨?_,?_,?_,?_⟩
  .rw[List.map_append,List.nodup_append]
   refine⟨hb.nd,by simp,?_⟩;intro a ha b a0 e;simp at a0;subst a0 e;exact hm ha
  .intro q hq
   rcases List.mem_append.1 hq with hq|hq
   .exact hb.rng q hq
   simp at hq;subst hq;simp only[];omega
  .intro j q hq
   rcases Nat.lt_or_ge j (bfs es (aAg r) 0).length with hj|hj
   .rw[List.getElem?_append_left hj] at hq;exact hb.wl j q hq
   rw[List.getElem?_append_right hj] at hq;have:=oG hq;simp at this;subst this;simp
  intro q hq y hy;rcases List.mem_append.1 hq with hq|hq
  .exact hb.wm q hq y hy
  simp at hq;subst hq;simp at hy
 have h1:=hk.len oO;rw[List.length_append,h.found] at h1;simp at h1;omega
open Classical in
noncomputable def wordV (r:Nat) (es:List Ed) (v:Int):LI:=if h:∃ w,(v,w)∈bfs es (aAg r) 0 then h.choose else[]
theorem aMI{r n:Nat}{es:List Ed}(hg:IsGr r n es){v:Int}{w:LI}(h:(v,w)∈bfs es (aAg r) 0):wordV r es v=w:=by
 have hn:(0:Int)<(n:Int):=by have:=hg.size;omega
 have hb:=aHh (L:=aAg r) (v:=0) hg.all (Int.le_refl _) hn;have a1:∃ w,(v,w)∈bfs es (aAg r) 0:=⟨w,h⟩
 unfold wordV;rw[dif_pos a1];have h2:=a1.choose_spec;generalize a1.choose=w' at h2;have key:∀(l:BS),(l.map Prod.fst).Nodup->(v,w)∈l->(v,w')∈l->w'=w:=by
  intro l
  induction l with
 |nil=>intro _ h;cases h
 |cons p t ih=>
   intro a0 ha hb;rw[List.map_cons,List.nodup_cons] at a0;rcases List.mem_cons.1 ha with ha|ha
   .rcases List.mem_cons.1 hb with hb|hb
    .rw[<- ha] at hb
     injection hb
    rw[<- ha] at a0;exact absurd (List.mem_map_of_mem (f:=Prod.fst) hb) a0.1
   rcases List.mem_cons.1 hb with hb|hb
   .rw[<- hb] at a0
    exact absurd (List.mem_map_of_mem (f:=Prod.fst) ha) a0.1
   exact ih a0.2 ha hb
 exact key _ hb.nd h h2
theorem aDV{r n:Nat}{es:List Ed}(h:IsCor r n es){v:Nat}(hv:v<n):((v:Int),wordV r es v)∈bfs es (aAg r) 0:=by
 obtain⟨w,hw⟩:=h.has hv;rw[aMI h.gr hw];exact hw
theorem aFc{r n:Nat}{es:List Ed}(h:IsCor r n es){v:Nat}(hv:v<n):(wordV r es v).length<=40/\∀ x∈wordV r es v,x∈aAg r:=by
 have hm:=aDV h hv;have hn:(0:Int)<(n:Int):=by omega
 have a1:n<=40:=by have:=h.gr.size;omega
 have hb:=aHh (L:=aAg r) (v:=0) h.gr.all (Int.le_refl _) hn;refine⟨?_,hb.wm _ hm⟩;obtain⟨j,hj,a0⟩:=List.getElem_of_mem hm;have h1:=hb.wl j _ (by rw[List.getElem?_eq_getElem hj,a0]);have h2:=h.found;simp only at h1;omega
open Classical in
noncomputable def extraE (r:Nat) (es:List Ed):List Ed:=es.filter fun e=>decide (e ∉ aBG es (bfs es (aAg r) 0))
theorem aGc{r:Nat}{es:List Ed}{e:Ed}(h:e∈extraE r es):e∈es:=(List.mem_filter.1 h).1
noncomputable def basisW (r:Nat) (es:List Ed) (e:Ed):LI:=red [] (wordV r es e.a++[e.l]++aAE (wordV r es e.b))
noncomputable def basisG (r:Nat) (es:List Ed):LL:=(extraE r es).map (basisW r es)
end
theorem IsFol.key{r s:Int}{es:List Ed}(h:IsFol r s es):∀ e∈es,∀ f∈es,Clash e f->e=f:=by
 intro e he f hf hc;obtain⟨i,hi,rfl⟩:=List.getElem_of_mem he;obtain⟨j,hj,rfl⟩:=List.getElem_of_mem hf;have hp:=List.pairwise_iff_getElem.1 h.fol;rcases Nat.lt_trichotomy i j with hl|rfl|hl
 .exact absurd hc (hp i j hi hj hl)
 .rfl
 exact absurd hc.symm (hp j i hj hi hl)
theorem IsFol.mk'{r s:Int}{es:List Ed}(h:IsGr r s es)(hk:∀ e∈es,∀ f∈es,Clash e f->e=f):IsFol r s es:=by
 refine⟨h,List.pairwise_iff_getElem.2 fun i j hi hj hij hc=>?_⟩;have e:=hk _ (List.getElem_mem hi) _ (List.getElem_mem hj) hc;have:=List.pairwise_iff_getElem.1 h.asc i j hi hj hij;exact this.ne e
theorem aHs{ord:LI}{v:Int}:0<=aDn ord v↔v∈ord:=by
 unfold aDn;split
 .rename_i h
  exact⟨fun _=>h,fun _=>Int.natCast_nonneg _⟩
 rename_i h;exact⟨fun h=>by omega,fun h2=>absurd h2 h⟩
theorem aPB{ord:LI}{v:Int}(h:v∈ord):ord[(aDn ord v).toNat]?=some v:=by
 unfold aDn;rw[if_pos h,Int.toNat_natCast];have hl:=List.idxOf_lt_length_iff.2 h;rw[List.getElem?_eq_getElem hl,List.getElem_idxOf hl]
theorem aEO{ord:LI}{u v:Int}(hu:u∈ord)(hv:v∈ord)(h:aDn ord u=aDn ord v):u=v:=by
 have h1:=aPB hu;rw[h,aPB hv] at h1;exact(Option.some.inj h1).symm
theorem aDM{ord:LI}{es:List Ed}{f:Ed}:f∈aCN ord es↔∃ e∈es,e.a∈ord/\e.b∈ord/\f=⟨aDn ord e.a,e.l,aDn ord e.b⟩:=by
 unfold aCN;rw[aAO,List.mem_filterMap];constructor
 .rintro⟨e,he,h⟩
  unfold aAX at h;split at h
  .rename_i hc
   exact⟨e,he,aHs.1 hc.1,aHs.1 hc.2,(Option.some.inj h).symm⟩
  cases h
 rintro⟨e,he,h1,h2,rfl⟩;refine⟨e,he,?_⟩;unfold aAX;rw[if_pos ⟨aHs.2 h1,aHs.2 h2⟩]
theorem aFO{ord:LI}{es:List Ed}{i x j:Int}:Sp (aCN ord es) i x j↔∃ u v,u∈ord/\v∈ord/\aDn ord u=i/\aDn ord v=j/\Sp es u x v:=by
 constructor
 .rintro(⟨h1,h2⟩|⟨h1,h2⟩)
  .obtain⟨e,he,ha,hb,h3⟩:=aDM.1 h2
   injection h3 with h3 h4 h5
   exact⟨e.a,e.b,ha,hb,h3.symm,h5.symm,.inl ⟨h1,by rw[h4];exact he⟩⟩
  obtain⟨e,he,ha,hb,h3⟩:=aDM.1 h2;injection h3 with h3 h4 h5
  exact⟨e.b,e.a,hb,ha,h5.symm,h3.symm,.inr ⟨h1,by rw[h4];exact he⟩⟩
 rintro⟨u,v,hu,hv,rfl,rfl,(⟨h1,h2⟩|⟨h1,h2⟩)⟩
 .exact .inl ⟨h1,aDM.2 ⟨_,h2,hu,hv,rfl⟩⟩
 exact .inr ⟨h1,aDM.2 ⟨_,h2,hv,hu,rfl⟩⟩
theorem aGj{ord:LI}{es:List Ed}:∀ {w:LI} {i j:Int},Pa (aCN ord es) i w j->∀ u∈ord,aDn ord u=i->∃ v∈ord,aDn ord v=j/\Pa es u w v
|[],_,_,h,u,hu,hi=>⟨u,hu,hi.trans h,rfl⟩
|x::w,i,j,⟨t,h1,h2⟩,u,hu,hi=>by
  obtain⟨u',t',a2,a0,hi',a1,hs⟩:=aFO.1 h1;have e:=aEO a2 hu (hi'.trans hi.symm);subst e;obtain⟨v,hv,hj,hp⟩:=aGj h2 t' a0 a1;exact⟨v,hv,hj,⟨t',hs,hp⟩⟩
theorem aGi{ord:LI}{es:List Ed}:∀ {w:LI} {u v:Int},Pa es u w v->(∀ a b t,w=a++b->Pa es u a t->t∈ord)->Pa (aCN ord es) (aDn ord u) w (aDn ord v)
|[],_,_,h,_=>by cases h;rfl
|x::w,u,v,⟨t,h1,h2⟩,hr=>by
  have hu:=hr [] (x::w) u rfl rfl;have ht:=hr [x] w t rfl (aDO.2 h1);exact⟨aDn ord t,aFO.2 ⟨u,t,hu,ht,rfl,rfl,h1⟩,aGi h2 fun a b t' e hp=>hr (x::a) b t' (by rw[e];rfl) ⟨t,h1,hp⟩⟩
theorem aMl{r s:Int}{es:List Ed}{ord:LI}(h:IsFol r s es)(h0:ord≠[])(a0:ord.length<=40):IsFol r ord.length (aCN ord es):=by
 refine IsFol.mk' (aMk h.gr h0 a0) fun e he f hf hc=>?_;obtain⟨e',a3,a1,b1,rfl⟩:=aDM.1 he;obtain⟨f',a4,a2,b2,rfl⟩:=aDM.1 hf;have:e'=f':=h.key e' a3 f' a4 ⟨hc.1,hc.2.imp (aEO a1 a2) (aEO b1 b2)⟩;rw[this]
theorem aHg{es:List Ed}{p:Int × LI}:∀(K:LI) {st:BS},∀ x∈K,0<=aAr es p.1 x->aAr es p.1 x∈(aAN es K p st).map Prod.fst
|[],_,x,hx,_=>by cases hx
|y::K,st,x,hx,hn=>by
  rcases List.mem_cons.1 hx with rfl|hx
  .have h1:aAr es p.1 x∈(aAx es p.1 p.2 st x).map Prod.fst:=by
    unfold aAx;by_cases hc:aAr es p.1 x<0 \/ aAr es p.1 x∈st.map Prod.fst
    .rw[if_pos hc]
     rcases hc with hc|hc
     .omega
     .exact hc
    .rw[if_neg hc,List.map_append]
     exact List.mem_append_right _ oM
   obtain⟨q,hq,e⟩:=List.mem_map.1 h1;rw[<- e];exact List.mem_map.2 ⟨q,(aCn es K p (aAx es p.1 p.2 st x)).subset hq,rfl⟩
  .exact aHg K x hx hn
theorem aFz{es:List Ed}{L:LI}{v:Int}:∀(i j:Nat) {p:Int × LI},j<i->(aAn es L v i)[j]?=some p->∀ x∈L,0<=aAr es p.1 x->aAr es p.1 x∈(aAn es L v i).map Prod.fst
|0,j,p,h,_=>by omega
|i+1,j,p,h,hp=>by
  intro x hx hn;cases hq:(aAn es L v i)[i]? with
 |none=>
   have hs:aAn es L v (i+1)=aAn es L v i:=by simp[aAn,hq]
   rw[hs] at hp |-;have a0:j<i:=by
    have h1:=(List.getElem?_eq_some_iff.1 hp).1;have h2:=List.getElem?_eq_none_iff.1 hq;omega
   exact aFz i j a0 hp x hx hn
 |some q=>
   have hs:aAn es L v (i+1)=aAN es L q (aAn es L v i):=by simp[aAn,hq]
   rw[hs] at hp |-;rcases Nat.lt_or_ge j i with a0|a0
   .have hl:j<(aAn es L v i).length:=by
     have:=(List.getElem?_eq_some_iff.1 hq).1;omega
    have a1:(aAn es L v i)[j]?=some p:=by
     have h1:=aCr (aCn es L q (aAn es L v i)) (List.getElem?_eq_getElem hl);rw[hp] at h1;rw[List.getElem?_eq_getElem hl,<- h1]
    have h2:=aFz i j a0 a1 x hx hn;obtain⟨z,hz,e⟩:=List.mem_map.1 h2;rw[<- e];exact List.mem_map.2 ⟨z,(aCn es L q _).subset hz,rfl⟩
   .have e:j=i:=by omega
    subst e;have h1:=aCr (aCn es L q (aAn es L v j)) hq;rw[hp] at h1;obtain rfl:=Option.some.inj h1;exact aHg L x hx hn
theorem aQk{r s v:Int}{es:List Ed}{L:LI}(hg:∀ e∈es,InG r s e)(h0:0<=v)(h1:v<s)(hs:s<=40){p:Int × LI}(hp:p∈bfs es L v){x:Int}(hx:x∈L)(hn:0<=aAr es p.1 x):aAr es p.1 x∈(bfs es L v).map Prod.fst:=by
 obtain⟨j,hj⟩:=List.mem_iff_getElem?.1 hp;have hl:=(aHh (L:=L) hg h0 h1).len oO;have a0:=(List.getElem?_eq_some_iff.1 hj).1;exact aFz 41 j oO hj x hx hn
theorem aTI(es:List Ed)(L:LI)(v:Int):∀ p∈bfs es L v,Pa es v p.2 p.1:=by
 have a0:∀(K:LI) (p:Int × LI) (st:BS),Pa es v p.2 p.1->(∀ q∈st,Pa es v q.2 q.1)->∀ q∈aAN es K p st,Pa es v q.2 q.1:=by
  intro K
  induction K with
 |nil=>exact fun p st _ h=>h
 |cons x K ih=>
   intro p st hp h;refine ih p (aAx es p.1 p.2 st x) hp fun q hq=>?_;unfold aAx at hq;split at hq
   .exact h q hq
   rename_i hc;rcases List.mem_append.1 hq with hq|hq
   .exact h q hq
   rw[List.mem_singleton] at hq;subst hq;exact hp.snoc (aCs oO)
 have a1:∀ i,∀ q∈aAn es L v i,Pa es v q.2 q.1:=by
  intro i
  induction i with
 |zero=>
   intro q hq;simp[aAn] at hq;subst hq
   rfl
 |succ i ih=>
   cases hq:(aAn es L v i)[i]? with
  |none=>rw[show aAn es L v (i+1)=aAn es L v i by simp[aAn,hq]];exact ih
  |some p=>
    rw[show aAn es L v (i+1)=aAN es L p (aAn es L v i) by simp[aAn,hq]];exact a0 L p _ (ih p (oG hq)) ih
 exact a1 41
theorem aDG{r s v:Int}{es:List Ed}(hf:IsFol r s es)(h0:0<=v)(h1:v<s):∀ {w:LI} {u t:Int},u∈aBS r es v->Pa es u w t->t∈aBS r es v
|[],u,t,hu,h=>by cases h;exact hu
|x::w,u,t,hu,⟨q,h2,h3⟩=>by
  refine aDG hf h0 h1 ?_ h3;obtain⟨p,hp,rfl⟩:=List.mem_map.1 hu;have hr:=(h2.rng hf.gr.all)
  have hx:x∈aAg r.toNat:=aAU.2 (by have:=hf.gr.rank;omega);have hn:=aDb hf h2;have:=aQk (L:=aAg r.toNat) hf.gr.all h0 h1 hf.gr.size.2 hp hx oO
  rwa [hn] at this
theorem aFN(r:Int)(es:List Ed)(v:Int):v∈aBS r es v:=by
 have h:(v,[])∈bfs es (aAg r.toNat) v:=by
  have h1:=aEs es (aAg r.toNat) v 0 41;rw[Nat.zero_add] at h1;exact h1.subset (by simp[aAn])
 exact List.mem_map.2 ⟨_,h,rfl⟩
theorem aSa(r:Int)(es:List Ed)(v:Int):(aBS r es v)[0]?=some v:=by
 have h1:=aEs es (aAg r.toNat) v 0 41;rw[Nat.zero_add] at h1;have h2:(aAn es (aAg r.toNat) v 0)[0]?=some (v,[]):=by simp[aAn]
 have h3:=aCr h1 h2;unfold aBS bfs;rw[List.getElem?_map,h3]
 rfl
theorem aUe{es es':List Ed}{L:LI}{v:Int}{f:Int->Int}{R:Int->Prop}(hv:R v)(a5:∀ u,R u->∀ x∈L,0<=aAr es u x->R (aAr es u x))(hn:∀ u,R u->∀ x∈L,aAr es u x<0->aAr es' (f u) x<0)(hp:∀ u,R u->∀ x∈L,0<=aAr es u x->aAr es' (f u) x=f (aAr es u x)/\0<=f (aAr es u x))(hi:∀ u t,R u->R t->f u=f t->u=t):bfs es' L (f v)=(bfs es L v).map fun p=>(f p.1,p.2):=by
 have a3:∀(x:Int) (p:Int × LI) (st:BS),x∈L->R p.1->(∀ q∈st,R q.1)->aAx es' (f p.1) p.2 (st.map fun p=>(f p.1,p.2)) x=(aAx es p.1 p.2 st x).map (fun p=>(f p.1,p.2))/\∀ q∈aAx es p.1 p.2 st x,R q.1:=by
  intro x p st hx a1 a0;unfold aAx;by_cases hneg:aAr es p.1 x<0
  .rw[if_pos (.inl (hn p.1 a1 x hx hneg)),if_pos (.inl hneg)]
   exact⟨rfl,a0⟩
  have h1:=hp p.1 a1 x hx oO;have hR:=a5 p.1 a1 x hx oO;have a2:aAr es' (f p.1) x∈(st.map fun p=>(f p.1,p.2)).map Prod.fst↔aAr es p.1 x∈st.map Prod.fst:=by
   rw[h1.1,List.map_map];constructor
   .intro h
    obtain⟨q,hq,e⟩:=List.mem_map.1 h;exact List.mem_map.2 ⟨q,hq,hi _ _ (a0 q hq) hR e⟩
   intro h;obtain⟨q,hq,e⟩:=List.mem_map.1 h;exact List.mem_map.2 ⟨q,hq,by rw[Function.comp_apply,e]⟩
  by_cases hin:aAr es p.1 x∈st.map Prod.fst
  .rw[if_pos (.inr (a2.2 hin)),if_pos (.inr hin)]
   exact⟨rfl,a0⟩
  rw[if_neg (fun h=>h.elim (fun h=>by omega) (fun h=>hin (a2.1 h))),if_neg (fun h=>h.elim (fun h=>by omega) hin),List.map_append,h1.1];refine⟨rfl,fun q hq=>?_⟩;rcases List.mem_append.1 hq with hq|hq
  .exact a0 q hq
  rw[List.mem_singleton] at hq;subst hq;exact hR
 have a4:∀(K:LI) (p:Int × LI) (st:BS),(∀ x∈K,x∈L)->R p.1->(∀ q∈st,R q.1)->aAN es' K (f p.1,p.2) (st.map fun p=>(f p.1,p.2))=(aAN es K p st).map (fun p=>(f p.1,p.2))/\∀ q∈aAN es K p st,R q.1:=by
  intro K
  induction K with
 |nil=>exact fun p st _ _ h=>⟨rfl,h⟩
 |cons x K ih=>
   intro p st hK a1 a0;obtain⟨h1,h2⟩:=a3 x p st (hK x List.mem_cons_self) a1 a0;have h3:=ih p (aAx es p.1 p.2 st x) (fun y hy=>hK y (List.mem_cons_of_mem _ hy)) a1 h2;refine⟨?_,h3.2⟩
   show aAN es' K (f p.1,p.2) (aAx es' (f p.1) p.2 (st.map fun p=>(f p.1,p.2)) x)=_
   rw[h1];exact h3.1
 have a0:∀ i,aAn es' L (f v) i=(aAn es L v i).map (fun p=>(f p.1,p.2))/\∀ q∈aAn es L v i,R q.1:=by
  intro i
  induction i with
 |zero=>
   refine⟨rfl,fun q hq=>?_⟩;simp[aAn] at hq;subst hq;exact hv
 |succ i ih=>
   cases hq:(aAn es L v i)[i]? with
  |none=>
    have e1:aAn es L v (i+1)=aAn es L v i:=by simp[aAn,hq]
    have e2:aAn es' L (f v) (i+1)=aAn es' L (f v) i:=by
     have:(aAn es' L (f v) i)[i]?=none:=by rw[ih.1,List.getElem?_map,hq];rfl
     simp[aAn,this]
    rw[e1,e2];exact ih
  |some p=>
    have e1:aAn es L v (i+1)=aAN es L p (aAn es L v i):=by simp[aAn,hq]
    have e2:aAn es' L (f v) (i+1)=aAN es' L (f p.1,p.2) (aAn es' L (f v) i):=by
     have:(aAn es' L (f v) i)[i]?=some (f p.1,p.2):=by rw[ih.1,List.getElem?_map,hq];rfl
     simp[aAn,this]
    rw[e1,e2,ih.1];exact a4 L p _ (fun x hx=>hx) (ih.2 p (oG hq)) ih.2
 exact(a0 41).1
end Go.Proofs.YtkimajabegojoaaGreat
