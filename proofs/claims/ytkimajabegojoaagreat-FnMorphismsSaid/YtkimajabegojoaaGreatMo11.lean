/- Lemmas. -/
import Derived.Test.YtkimajabegojoaaGreatMo2
import Derived.Test.YtkimajabegojoaaGreatMo7
import Derived.Test.YtkimajabegojoaaGreatMo8
import Derived.Test.YtkimajabegojoaaGreatMo1
import Derived.Deep.RegionHeld3
import Derived.Test.YtkimajabegojoaaGreatMo9
import Derived.Test.YtkimajabegojoaaGreatMo10
import Derived.Laws.Bits128
import Derived.IntWalk
import Derived.Test.YtkimajabegojoaaGreatMo6
import Derived.Test.YtkimajabegojoaaGreatMo3
namespace Go.Proofs.YtkimajabegojoaaGreat
set_option linter.unusedVariables false
set_option linter.unusedSimpArgs false
set_option maxHeartbeats 40000000
set_option maxRecDepth 100000
open Go.RowKit
section
theorem aRS{α:Type}:∀ l:List α,∃ m:List α,m.Nodup/\∀ x,x∈m↔x∈l
|[]=>⟨[],List.nodup_nil,fun x=>Iff.rfl⟩
|a::l=>by
  classical
  obtain⟨m,h1,h2⟩:=aRS l;by_cases h:a∈m
  .exact⟨m,h1,fun x=>by
    rw[List.mem_cons,h2];exact⟨.inr,fun k=>k.elim (fun e=>by rw[e];exact(h2 a).1 h) id⟩⟩
  .exact⟨a::m,List.nodup_cons.2 ⟨h,h1⟩,fun x=>by rw[List.mem_cons,List.mem_cons,h2]⟩
theorem aTn{α:Type}:∀ {l m:List α},l.Nodup->(∀ x∈l,x∈m)->l.length<=m.length
|[],m,_,_=>oZ
|a::l,m,hl,hs=>by
  classical
  obtain⟨h1,h2⟩:=List.nodup_cons.1 hl;have a0:=hs a List.mem_cons_self;have h3:=aTn (l:=l) (m:=m.erase a) h2 fun x hx=>by
   refine(List.mem_erase_of_ne (fun e=>h1 (by rw[<- e];exact hx))).2 (hs x (List.mem_cons_of_mem _ hx))
  have h4:=List.length_erase_of_mem a0;have h5:=List.length_pos_of_mem a0;rw[List.length_cons];omega
theorem aVs{α β:Type}{f:α->β}(hf:∀ a b,f a=f b->a=b){l:List α}(h:l.Nodup):(l.map f).Nodup:=by
 unfold List.Nodup;rw[List.pairwise_map];exact h.imp fun hne e=>hne (hf _ _ e)
theorem aTc{α:Type}(a1:List α)(a0:∀ x,x∈a1){f:α->α}(hf:∀ a b,f a=f b->a=b)(y:α):∃ x,f x=y:=by
 classical
 obtain⟨m,h1,h2⟩:=aRS a1;refine Classical.byContradiction fun hc=>?_;have h3:y ∉ m.map f:=fun hm=>by
  obtain⟨x, -,e⟩:=List.mem_map.1 hm;exact hc ⟨x,e⟩
 have h4:(y::m.map f).Nodup:=List.nodup_cons.2 ⟨h3,aVs hf h1⟩;have h5:=aTn (m:=m) h4 fun x _=>(h2 x).2 (a0 x);rw[List.length_cons,List.length_map] at h5;omega
def aUb{β:Type}(els:List β):(n:Nat)->List (Fin n->β)
|0=>[fun i=>i.elim0]
|n+1=>(aUb els n).flatMap fun f=>els.map fun b=>fun i=>if h:i.val<n then f ⟨i.val,h⟩ else b
theorem aJo{β:Type}{els:List β}(a0:∀ b,b∈els):∀(n:Nat) (f:Fin n->β),f∈aUb els n
|0,f=>by
  rw[aUb,List.mem_singleton]
  funext i
  exact i.elim0
|n+1,f=>by
  rw[aUb,List.mem_flatMap];refine⟨fun i=>f ⟨i.val,oO⟩,aJo a0 n _,List.mem_map.2 ⟨f ⟨n,oO⟩,a0 _,?_⟩⟩
  funext i
  by_cases h:i.val<n
  .simp only[h,dif_pos]
  .simp only[h,dif_neg,not_false_eq_true]
   congr 1
   exact Fin.ext (by have:=i.isLt;simp only;omega)
structure Fg (α:Type) where
 mul:α->α->α
 one:α
 inv:α->α
 assoc:∀ a b c,mul (mul a b) c=mul a (mul b c)
 one_mul:∀ a,mul one a=a
 mul_one:∀ a,mul a one=a
 inv_mul:∀ a,mul (inv a) a=one
 mul_inv:∀ a,mul a (inv a)=one
 els:List α
 all:∀ a,a∈els
section
variable {α:Type} (G:Fg α)
theorem Fg.inv_inv(a:α):G.inv (G.inv a)=a:=by
 have h:=G.assoc (G.inv (G.inv a)) (G.inv a) a;rw[G.inv_mul,G.one_mul,G.inv_mul,G.mul_one] at h;exact h.symm
theorem Fg.inv_of{a b:α}(h:G.mul a b=G.one):b=G.inv a:=by
 have h1:=G.assoc (G.inv a) a b;rw[G.inv_mul,G.one_mul,h,G.mul_one] at h1;exact h1
def lv(c:Nat->α)(x:Int):α:=if 0<x then c (x.toNat - 1) else G.inv (c ((-x).toNat - 1))
def ev(c:Nat->α):LI->α
|[]=>G.one
|x::w=>G.mul (lv G c x) (ev c w)
variable {c:Nat->α}
theorem aMW:∀(a b:LI),ev G c (a++b)=G.mul (ev G c a) (ev G c b)
|[],b=>(G.one_mul _).symm
|x::a,b=>by
  rw[List.cons_append,ev,aMW a b,ev,G.assoc]
theorem aPv(x:Int):ev G c [x]=lv G c x:=G.mul_one _
theorem aVr{x:Int}(hx:x≠0):lv G c (-x)=G.inv (lv G c x):=by
 unfold lv;by_cases h:0<x
 .rw[if_neg oO,if_pos h,Int.neg_neg]
 rw[if_pos oO,if_neg h,G.inv_inv]
theorem aUk{out:LI}{x:Int}(ho:LtW out)(hx:Lt3 x):ev G c (aBe out x)=G.mul (ev G c out) (lv G c x):=by
 rcases aBy out with rfl|⟨o,a,rfl⟩
 .show ev G c [x]=_
  rw[aPv];exact(G.one_mul _).symm
 have ha:Lt3 a:=ho a oM;cases hb:aFg a x with
|true=>
  rw[aBt hb];have e:a = -x:=(aDK ha hx).1 hb;rw[aMW,aPv,e,aVr G hx.1,G.assoc,G.inv_mul,G.mul_one]
|false=>rw[aAT hb,aMW,aPv]
theorem aRB:∀ {w out:LI},LtW out->LtW w->ev G c (red out w)=G.mul (ev G c out) (ev G c w)
|[],out,_,_=>(G.mul_one _).symm
|x::w,out,ho,hw=>by
  have hs:LtW (aBe out x):=fun y hy=>(aGT hy).elim (ho y) (fun e=>by rw[e];exact hw.head);rw[aCb,aRB hs hw.tail,aUk G ho hw.head,ev,G.assoc]
theorem aTL{w:LI}(hw:LtW w):ev G c (red [] w)=ev G c w:=by
 rw[aRB G LtW.nil hw];exact G.one_mul _
theorem aRz{a b:LI}(ha:LtW a)(hb:LtW b)(h:Eqv a b):ev G c a=ev G c b:=by
 rw[<- aTL G ha,<- aTL G hb];exact congrArg _ h
theorem aVh{w:LI}(hw:LtW w):ev G c (aAE w)=G.inv (ev G c w):=by
 have h:=aRz G (c:=c) (hw.app hw.inv) LtW.nil (Eqv.inv_right hw);rw[aMW] at h;exact G.inv_of h
end
def LtK(k:Nat)(w:LI):Prop:=∀ x∈w,x≠0/\-(k:Int)<=x/\x<=k
theorem LtK.nil{k:Nat}:LtK k []:=fun x hx=>by cases hx
theorem LtK.app{k:Nat}{a b:LI}(h:LtK k a)(g:LtK k b):LtK k (a++b):=fun x hx=>(List.mem_append.1 hx).elim (h x) (g x)
theorem LtK.lt{k:Nat}(hk:k<=3){w:LI}(h:LtK k w):LtW w:=fun x hx=>by
 have:=h x hx;unfold Lt3;omega
theorem LtK.head{k:Nat}{x:Int}{w:LI}(h:LtK k (x::w)):x≠0/\-(k:Int)<=x/\x<=k:=h x List.mem_cons_self
theorem LtK.tail{k:Nat}{x:Int}{w:LI}(h:LtK k (x::w)):LtK k w:=fun y hy=>h y (List.mem_cons_of_mem _ hy)
theorem LtK.cons{k:Nat}{x:Int}{w:LI}(h:x≠0/\-(k:Int)<=x/\x<=k)(g:LtK k w):LtK k (x::w):=fun y hy=>by
 rcases List.mem_cons.1 hy with rfl|hy
 .exact h
 .exact g y hy
theorem LtK.inv{k:Nat}(hk:k<=3){w:LI}(h:LtK k w):LtK k (aAE w):=fun x hx=>by
 rw[aLW (h.lt hk)] at hx;obtain⟨y,hy,rfl⟩:=List.mem_map.1 (List.mem_reverse.1 hx);have:=h y hy;omega
theorem LtK.red{k:Nat}{w:LI}(h:LtK k w):LtK k (red [] w):=fun x hx=>by
 rcases aIu hx with hx|hx
 .cases hx
 .exact h x hx
def sbL(d:Nat->LI)(x:Int):LI:=if 0<x then d (x.toNat - 1) else aAE (d ((-x).toNat - 1))
def sbW(d:Nat->LI)(w:LI):LI:=w.flatMap (sbL d)
theorem aCc(d:Nat->LI)(x:Int)(w:LI):sbW d (x::w)=sbL d x++sbW d w:=rfl
theorem aIx(d:Nat->LI)(a b:LI):sbW d (a++b)=sbW d a++sbW d b:=by simp[sbW]
theorem aKp(d:Nat->LI)(x:Int):sbW d [x]=sbL d x:=by simp[sbW]
theorem aNK{k:Nat}{d:Nat->LI}(hd:∀ i,i<k->LtW (d i)){x:Int}(hx:x≠0/\-(k:Int)<=x/\x<=k):LtW (sbL d x):=by
 unfold sbL;split
 .exact hd _ oO
 exact(hd _ oO).inv
theorem aCP{k:Nat}{d:Nat->LI}(hd:∀ i,i<k->LtW (d i)):∀ {w:LI},LtK k w->LtW (sbW d w)
|[],_=>LtW.nil
|x::w,h=>(aNK hd h.head).app (aCP hd h.tail)
theorem aSz{k:Nat}{d:Nat->LI}(hd:∀ i,i<k->LtW (d i)){x:Int}(hx:x≠0/\-(k:Int)<=x/\x<=k):sbL d (-x)=aAE (sbL d x):=by
 unfold sbL;by_cases h:0<x
 .rw[if_neg oO,if_pos h,Int.neg_neg]
 rw[if_pos oO,if_neg h,aFG (hd _ oO)]
theorem aMs{k:Nat}(hk:k<=3){d:Nat->LI}(hd:∀ i,i<k->LtW (d i)):∀ {w:LI},LtK k w->sbW d (aAE w)=aAE (sbW d w)
|[],_=>rfl
|x::w,h=>by
  have hx:Lt3 x:=(h.lt hk).head;have e:aAE (x::w)=aAE w++[-x]:=by
   rw[show x::w=[x]++w from rfl,aCz];simp[aAE,hx.negI]
  rw[e,aIx,aKp,aSz hd h.head,aMs hk hd h.tail,aCc,aCz]
theorem aTz{k:Nat}(hk:k<=3){d:Nat->LI}(hd:∀ i,i<k->LtW (d i)){out:LI}{x:Int}(ho:LtK k out)(hx:x≠0/\-(k:Int)<=x/\x<=k):Eqv (sbW d (aBe out x)) (sbW d out++sbL d x):=by
 have a2:Lt3 x:=by unfold Lt3;omega
 rcases aBy out with rfl|⟨o,a,rfl⟩
 .show Eqv (sbW d [x]) _
  rw[aKp];exact Eqv.refl _
 have ha:Lt3 a:=(ho.lt hk) a oM;cases hb:aFg a x with
|true=>
  rw[aBt hb];have e:a = -x:=(aDK ha a2).1 hb;have a1:LtW (sbW d o):=aCP hd fun y hy=>ho y (List.mem_append_left _ hy);have a0:=aNK hd hx;rw[aIx,aKp,e,aSz hd hx,List.append_assoc];have:=Eqv.app a1 a1 (a0.inv.app a0) LtW.nil (Eqv.refl _) (Eqv.inv_left a0);rw[List.append_nil] at this;exact this.symm
|false=>
  rw[aAT hb,aIx,aKp];exact Eqv.refl _
theorem aPW{k:Nat}(hk:k<=3){d:Nat->LI}(hd:∀ i,i<k->LtW (d i)):∀ {w out:LI},LtK k out->LtK k w->Eqv (sbW d (red out w)) (sbW d out++sbW d w)
|[],out,_,_=>by
  show Eqv (sbW d out) (sbW d out++[])
  rw[List.append_nil];exact Eqv.refl _
|x::w,out,ho,hw=>by
  have hs:LtK k (aBe out x):=fun y hy=>(aGT hy).elim (ho y) (fun e=>by rw[e];exact hw.head);have h1:=aPW hk hd hs hw.tail;have lo:=aCP hd ho;have lx:=aNK hd hw.head;have lw:=aCP hd hw.tail;have h2:=Eqv.app (aCP hd hs) (lo.app lx) lw lw (aTz hk hd ho hw.head) (Eqv.refl _);rw[aCb,aCc,<- List.append_assoc];exact h1.trans h2
theorem aSA{k:Nat}(hk:k<=3){d:Nat->LI}(hd:∀ i,i<k->LtW (d i)){w:LI}(hw:LtK k w):Eqv (sbW d (red [] w)) (sbW d w):=aPW hk hd LtK.nil hw
theorem aTM{α:Type}(G:Fg α){c:Nat->α}{k:Nat}{d:Nat->LI}(hd:∀ i,i<k->LtW (d i)):∀ {w:LI},LtK k w->ev G c (sbW d w)=ev G (fun i=>ev G c (d i)) w
|[],_=>rfl
|x::w,h=>by
  rw[aCc,aMW,aTM G hd h.tail,ev]
  congr 1
  have hx:=h.head;unfold sbL lv;split
  .rfl
  .exact aVh G (hd _ oO)
theorem aLM{α:Type}(G:Fg α){k:Nat}{c c':Nat->α}(h:∀ i,i<k->c i=c' i):∀ {w:LI},LtK k w->ev G c w=ev G c' w
|[],_=>rfl
|x::w,hw=>by
  have hx:=hw.head;rw[ev,ev,aLM G h hw.tail]
  congr 1
  unfold lv;split
  .rw[h _ oO]
  .rw[h _ oO]
def aUX{α:Type}(G:Fg α){k:Nat}(c:Fin k->α)(i:Nat):α:=if h:i<k then c ⟨i,h⟩ else G.one
theorem aOt{α:Type}(G:Fg α){k:Nat}(c:Fin k->α){i:Nat}(h:i<k):aUX G c i=c ⟨i,h⟩:=dif_pos h
theorem aTe{α:Type}(G:Fg α){k:Nat}(hk:k<=3){z u:Nat->LI}(hz:∀ i,i<k->LtK k (z i))(hu:∀ j,j<k->LtK k (u j))(a1:∀ j:Nat,j<k->Eqv (sbW z (u j)) [(j:Int)+1]){w:LI}(hw:LtK k w)(h:Eqv (sbW z w) [])(t:Nat->α):ev G t w=G.one:=by
 have lz:∀ i,i<k->LtW (z i):=fun i hi=>(hz i hi).lt hk
 let Ψ:(Fin k->α)->(Fin k->α):=fun c i=>ev G (aUX G c) (z i)
 have key:∀(c:Fin k->α) (v:LI),LtK k v->ev G (aUX G (Ψ c)) v=ev G (aUX G c) (sbW z v):=fun c v hv=>by
  rw[aTM G lz hv];refine aLM G (fun i hi=>?_) hv;rw[aOt G _ hi]
 have a0:∀ a b,Ψ a=Ψ b->a=b:=fun a b e=>by
  have h1:∀(c:Fin k->α) (j:Nat) (hj:j<k),ev G (aUX G (Ψ c)) (u j)=c ⟨j,hj⟩:=fun c j hj=>by
   rw[key c _ (hu j hj),aRz G (aCP lz (hu j hj)) (LtW.one (by unfold Lt3;omega)) (a1 j hj),aPv];unfold lv;rw[if_pos oO,show((j:Int)+1).toNat - 1=j by omega,aOt G c hj]
  funext i
  rw[<- h1 a i.val i.isLt,<- h1 b i.val i.isLt,e]
 obtain⟨c,hc⟩:=aTc (aUb G.els k) (aJo G.all k) a0 (fun i=>t i.val);have h2:=key c w hw;rw[hc,aRz G (aCP lz hw) LtW.nil h] at h2;have h3:ev G (aUX G fun i:Fin k=>t i.val) w=ev G t w:=aLM G (fun i hi=>aOt G _ hi) hw;rw[<- h3,h2]
 rfl
end
section
abbrev Sy(n:Nat):Type:={p:(Fin n->Fin n) × (Fin n->Fin n) // (∀ i,p.2 (p.1 i)=i)/\(∀ i,p.1 (p.2 i)=i)}
theorem Sy.ext{n:Nat}{p q:Sy n}(h:∀ i,p.1.1 i=q.1.1 i):p=q:=by
 refine Subtype.ext (Prod.ext (funext h) (funext fun i=>?_));have h1:=p.2.1 (q.1.2 i);rw[h,q.2.2] at h1;exact h1
open Classical in
noncomputable def symG (n:Nat):Fg (Sy n) where
 mul p q:=⟨(fun i=>q.1.1 (p.1.1 i),fun i=>p.1.2 (q.1.2 i)),fun i=>by simp only;rw[q.2.1,p.2.1],fun i=>by simp only;rw[p.2.2,q.2.2]⟩
 one:=⟨(id,id),fun i=>rfl,fun i=>rfl⟩
 inv p:=⟨(p.1.2,p.1.1),p.2.2,p.2.1⟩
 assoc a b c:=Sy.ext fun i=>rfl
 one_mul a:=Sy.ext fun i=>rfl
 mul_one a:=Sy.ext fun i=>rfl
 inv_mul a:=Sy.ext fun i=>a.2.2 i
 mul_inv a:=Sy.ext fun i=>a.2.1 i
 els:=((aUb (List.finRange n) n).flatMap fun f=>(aUb (List.finRange n) n).map fun g=>(f,g)).filterMap fun p=>if h:(∀ i,p.2 (p.1 i)=i)/\(∀ i,p.1 (p.2 i)=i) then some ⟨p,h⟩ else none
 all a:=by
  refine List.mem_filterMap.2 ⟨a.1,List.mem_flatMap.2 ⟨a.1.1,aJo (fun b=>List.mem_finRange b) n _,List.mem_map.2 ⟨a.1.2,aJo (fun b=>List.mem_finRange b) n _,rfl⟩⟩,?_⟩;rw[dif_pos a.2]
theorem aUQ{n:Nat}(p q:Sy n)(i:Fin n):((symG n).mul p q).1.1 i=q.1.1 (p.1.1 i):=rfl
theorem aUR{n:Nat}(i:Fin n):(symG n).one.1.1 i=i:=rfl
section
variable {r n:Nat} {es:List Ed}
noncomputable def stF (es:List Ed) (n:Nat) (x:Int) (i:Fin n):Fin n:=if h:0<=aAr es (i.val:Int) x/\aAr es (i.val:Int) x<n then⟨(aAr es (i.val:Int) x).toNat,by omega⟩ else i
theorem aSB(hf:IsFol r n es){x v:Int}{i:Fin n}(h:Sp es (i.val:Int) x v):((stF es n x i).val:Int)=v:=by
 have hr:=(h.rng hf.gr.all).2.1;have hn:=aDb hf h;unfold stF;rw[dif_pos (by rw[hn];exact hr)];simp only;rw[hn];omega
theorem aSF(hf:IsFol r n es)(ht:Tot r n es){x:Int}(hx:x≠0)(h1:-(r:Int)<=x)(h2:x<=r)(i:Fin n):stF es n (-x) (stF es n x i)=i:=by
 obtain⟨t,hs⟩:=ht (i.val:Int) oO (by have:=i.isLt;omega) x hx h1 h2;have e:=aSB hf hs;have h3:=hs.neg;rw[<- e] at h3;have:=aSB hf h3;exact Fin.ext oO
noncomputable def letP (hf:IsFol r n es) (ht:Tot r n es) (i:Nat):Sy n:=
 if h:i<r then⟨(stF es n ((i:Int)+1),stF es n (-((i:Int)+1))),fun j=>aSF hf ht (by omega) (by omega) (by omega) j,fun j=>by
  have:=aSF hf ht (x:=-((i:Int)+1)) (by omega) (by omega) (by omega) j
  rwa [Int.neg_neg] at this⟩ else(symG n).one
theorem aVq(hf:IsFol r n es)(ht:Tot r n es){x:Int}(hx:x≠0)(h1:-(r:Int)<=x)(h2:x<=r)(j:Fin n):(lv (symG n) (letP hf ht) x).1.1 j=stF es n x j:=by
 unfold lv;by_cases h:0<x
 .rw[if_pos h]
  unfold letP;rw[dif_pos oO];simp only;rw[show((x.toNat - 1:Nat):Int)+1=x by omega]
 rw[if_neg h]
 show(letP hf ht ((-x).toNat - 1)).1.2 j=_
 unfold letP;rw[dif_pos oO];simp only;rw[show -((((-x).toNat - 1:Nat):Int)+1)=x by omega]
theorem aRA(hf:IsFol r n es)(ht:Tot r n es):∀ {w:LI} {i:Fin n} {v:Int},Pa es (i.val:Int) w v->(((ev (symG n) (letP hf ht) w).1.1 i).val:Int)=v
|[],i,v,h=>h
|x::w,i,v,⟨t,h1,h2⟩=>by
  have hx:=(h1.rng hf.gr.all).2.2;rw[ev,aUQ,aVq hf ht hx.1 hx.2.1 hx.2.2];have e:=aSB hf h1;rw[<- e] at h2;exact aRA hf ht h2
end
theorem aPM{w:LI}(h:Rd w){i:Nat}(hi:i+1<w.length):w.getD (i+1) 0≠-(w.getD i 0):=fun e=>by
 refine h (w.take i) (w.drop (i+2)) (w.getD i 0) ?_;rw[<- e];have h1:w.getD i 0=w[i]:=by rw[List.getD_eq_getElem?_getD,List.getElem?_eq_getElem oO];rfl
 have h2:w.getD (i+1) 0=w[i+1]:=by rw[List.getD_eq_getElem?_getD,List.getElem?_eq_getElem hi];rfl
 rw[h1,h2,<- List.drop_eq_getElem_cons hi,<- List.drop_eq_getElem_cons (by omega:i<w.length),List.take_append_drop]
def aNx(w:LI):List Ed:=(List.range w.length).map fun(j:Nat)=>aBc j (w.getD j 0) ((j:Int)+1)
theorem aJp{w:LI}{e:Ed}:e∈canon (aNx w)↔∃ j:Nat,j<w.length/\e=aBc j (w.getD j 0) ((j:Int)+1):=by
 rw[aAO];unfold aNx;rw[List.mem_map];constructor
 .rintro⟨j,hj,rfl⟩;exact⟨j,List.mem_range.1 hj,rfl⟩
 rintro⟨j,hj,rfl⟩;exact⟨j,List.mem_range.2 hj,rfl⟩
theorem aIg{w:LI}(hl:LtW w){j:Nat}(hj:j<w.length):Lt3 (w.getD j 0):=by
 rw[List.getD_eq_getElem?_getD,List.getElem?_eq_getElem hj];exact hl _ (List.getElem_mem hj)
theorem aTj{w:LI}(hl:LtW w)(hr:Rd w)(a2:w.length<=39):IsFol 3 ((w.length+1:Nat):Int) (canon (aNx w)):=by
 have hg:IsGr 3 ((w.length+1:Nat):Int) (canon (aNx w)):=by
  refine⟨oO,oO,?_,fun e he=>?_,aCI _⟩
  .have:=aDe (aNx w)
   unfold aNx at this |-;rw[List.length_map,List.length_range] at this;omega
  obtain⟨j,hj,rfl⟩:=aJp.1 he;have h3:=aIg hl hj;unfold Lt3 at h3;unfold aBc InG;split <;> simp only <;> omega
 refine IsFol.mk' hg fun e he f hf hc=>?_;obtain⟨j,hj,rfl⟩:=aJp.1 he;obtain⟨i,hi,rfl⟩:=aJp.1 hf;have hx:=aIg hl hj;have hy:=aIg hl hi;obtain⟨c1,c2⟩:=hc;unfold aBc at c1 c2;have a1:i=j->aBc j (w.getD j 0) ((j:Int)+1)=aBc i (w.getD i 0) ((i:Int)+1):=fun e=>by rw[e]
 unfold Lt3 at hx hy;by_cases sx:w.getD j 0<0
 .rw[if_pos sx] at c1 c2
  by_cases sy:w.getD i 0<0
  .rw[if_pos sy] at c1 c2
   simp only at c1 c2;exact a1 oO
  rw[if_neg sy] at c1 c2;simp only at c1 c2;exfalso
  rcases c2 with c2|c2
  .have a0:i=j+1:=by omega
   subst a0;exact aPM hr hi oO
  have a0:j=i+1:=by omega
  subst a0;exact aPM hr hj oO
 rw[if_neg sx] at c1 c2;by_cases sy:w.getD i 0<0
 .rw[if_pos sy] at c1 c2
  simp only at c1 c2;exfalso
  rcases c2 with c2|c2
  .have a0:j=i+1:=by omega
   subst a0;exact aPM hr hj oO
  have a0:i=j+1:=by omega
  subst a0;exact aPM hr hi oO
 rw[if_neg sy] at c1 c2;simp only at c1 c2;exact a1 oO
theorem aRQ{w:LI}(hl:LtW w):∀(m j:Nat),j+m=w.length->Pa (canon (aNx w)) (j:Int) (w.drop j) (w.length:Int)
|0,j,h=>by
  rw[List.drop_of_length_le oO]
  show(j:Int)=w.length
  omega
|m+1,j,h=>by
  have hj:j<w.length:=by omega
  rw[List.drop_eq_getElem_cons hj];have e:w.getD j 0=w[j]:=by rw[List.getD_eq_getElem?_getD,List.getElem?_eq_getElem hj];rfl
  refine⟨((j+1:Nat):Int),?_,aRQ hl m (j+1) oO⟩;rw[<- e,aMw];refine⟨(aIg hl hj).1,aJp.2 ⟨j,hj,?_⟩⟩;rw[show((j+1:Nat):Int)=(j:Int)+1 by omega]
theorem aVJ{w:LI}(hl:LtW w)(hr:Rd w)(hn:w≠[])(a0:w.length<=39):∃(n:Nat) (t:Nat->Sy n),ev (symG n) t w≠(symG n).one:=by
 have hf:=aTj hl hr a0;have hc:=aSS hf;have ht:=aST hf;have hp:Pa (compG 3 ((w.length+1:Nat):Int) (canon (aNx w))) ((⟨0,oO⟩:Fin (w.length+1)).val:Int) w (w.length:Int):=by
  have:=aRQ hl w.length 0 oO;rw[List.drop_zero] at this;exact this.mono aMQ
 refine⟨w.length+1,letP (r:=3) hc ht,fun e=>?_⟩;have h1:=aRA (r:=3) hc ht hp;rw[e,aUR] at h1;have:=List.length_pos_iff.2 hn;simp only at h1;omega
theorem aVU{k:Nat}(hk:k<=3){z u:Nat->LI}(hz:∀ i,i<k->LtK k (z i))(hu:∀ j,j<k->LtK k (u j))(a1:∀ j:Nat,j<k->Eqv (sbW z (u j)) [(j:Int)+1]){w:LI}(hw:LtK k w)(hr:Rd w)(a0:w.length<=39)(h:Eqv (sbW z w) []):w=[]:=by
 refine Classical.byContradiction fun hn=>?_;obtain⟨n,t,ht⟩:=aVJ (hw.lt hk) hr hn a0;exact ht (aTe (symG n) hk hz hu a1 hw h t)
end
section
theorem aSD{u x v:Int}(hx:x≠0):aBc v (-x) u=aBc u x v:=by
 unfold aBc;by_cases h:x<0
 .rw[if_neg oO,if_pos h]
 rw[if_pos oO,if_neg h,Int.neg_neg]
open Classical in
noncomputable def rlV (E:List Ed) (u x v:Int):LI:=
 if aBc u x v∈E then(if 0<x then[((E.idxOf (aBc u x v):Nat):Int)+1] else[-(((E.idxOf (aBc u x v):Nat):Int)+1)]) else[]
theorem aVy{E:List Ed}{u x v:Int}(h:aBc u x v ∉ E):rlV E u x v=[]:=if_neg h
theorem aOS{E:List Ed}{u x v:Int}:LtK E.length (rlV E u x v):=by
 classical
 unfold rlV;split
 .rename_i h
  have:=List.idxOf_lt_length_iff.2 h;split
  .exact LtK.cons oO LtK.nil
  exact LtK.cons oO LtK.nil
 exact LtK.nil
theorem aSt{E:List Ed}(hE:E.length<=3){u x v:Int}(hx:x≠0):rlV E v (-x) u=aAE (rlV E u x v):=by
 classical
 unfold rlV;rw[aSD hx];by_cases h:aBc u x v∈E
 .rw[if_pos h,if_pos h]
  have h1:=List.idxOf_lt_length_iff.2 h;by_cases h2:0<x
  .rw[if_neg oO,if_pos h2]
   have:Lt3 (((E.idxOf (aBc u x v):Nat):Int)+1):=by unfold Lt3;omega
   simp[aAE,this.negI]
  rw[if_pos oO,if_neg h2];have:Lt3 (-(((E.idxOf (aBc u x v):Nat):Int)+1)):=by unfold Lt3;omega
  simp only[aAE,List.map_cons,List.map_nil,List.reverse_cons,List.reverse_nil,List.nil_append,this.negI,Int.neg_neg]
 rw[if_neg h,if_neg h]
 rfl
noncomputable def rwW (E es:List Ed):Int->LI->LI
|_,[]=>[]
|u,x::w=>rlV E u x (aAr es u x)++rwW E es (aAr es u x) w
theorem aOU{E es:List Ed}:∀ {w:LI} {u:Int},LtK E.length (rwW E es u w)
|[],_=>LtK.nil
|x::w,u=>aOS.app aOU
section
variable {r s:Int} {es E:List Ed}
theorem aFR(hf:IsFol r s es):∀ {a b:LI} {u t:Int},Pa es u a t->rwW E es u (a++b)=rwW E es u a++rwW E es t b
|[],b,u,t,h=>by cases h;rfl
|x::a,b,u,t,⟨q,h1,h2⟩=>by
  have hn:=aDb hf h1;rw[List.cons_append,rwW,rwW,hn,aFR hf h2,List.append_assoc]
theorem aIw(hf:IsFol r s es){u x v:Int}(h:Sp es u x v):rwW E es u [x]=rlV E u x v:=by
 rw[rwW,rwW,List.append_nil,aDb hf h]
theorem aOT(hE:E.length<=3)(hf:IsFol r s es):∀ {w:LI} {u v:Int},Pa es u w v->rwW E es v (aAE w)=aAE (rwW E es u w)
|[],u,v,h=>rfl
|x::w,u,v,⟨q,h1,h2⟩=>by
  have hx:=h1.lt3 hf.gr;have e:aAE (x::w)=aAE w++[-x]:=by
   rw[show x::w=[x]++w from rfl,aCz];simp[aAE,hx.negI]
  rw[e,aFR hf (h2.inv hf.gr),aIw hf h1.neg,aOT hE hf h2,aSt hE hx.1,rwW,aDb hf h1,aCz]
theorem aPS(hE:E.length<=3){w:LI}{u:Int}:LtW (rwW E es u w):=(aOU (E:=E)).lt hE
theorem aTx(hE:E.length<=3)(hf:IsFol r s es){out:LI}{u t x v:Int}(ho:Pa es u out t)(h:Sp es t x v):Eqv (rwW E es u (aBe out x)) (rwW E es u out++rlV E t x v):=by
 rcases aBy out with rfl|⟨o,a,rfl⟩
 .cases ho
  show Eqv (rwW E es u [x]) _
  rw[aIw hf h];exact Eqv.refl _
 obtain⟨q,h1,h2⟩:=aIL.1 ho;have h2:=aDO.1 h2;have ha:=h2.lt3 hf.gr;have hx:=h.lt3 hf.gr;cases hb:aFg a x with
|true=>
  rw[aBt hb];have e:x = -a:=by have:=(aDK ha hx).1 hb;omega
  subst e;obtain rfl:v=q:=hf.det h h2.neg;rw[aFR hf h1,aIw hf h2,aSt hE ha.1,List.append_assoc];have l1:LtW (rwW E es u o):=aPS hE;have l2:LtW (rlV E v a t):=(aOS (E:=E)).lt hE;have:=Eqv.app l1 l1 (l2.app l2.inv) LtW.nil (Eqv.refl _) (Eqv.inv_right l2);rw[List.append_nil] at this;exact this.symm
|false=>
  rw[aAT hb,aFR hf (h1.app (aDO.2 h2)),aIw hf h];exact Eqv.refl _
theorem aUH(hf:IsFol r s es){out:LI}{u t x v:Int}(ho:Pa es u out t)(h:Sp es t x v):Pa es u (aBe out x) v:=aSe hf ho (aDO.2 h)
theorem aPT(hE:E.length<=3)(hf:IsFol r s es):∀ {w out:LI} {u t v:Int},Pa es u out t->Pa es t w v->Eqv (rwW E es u (red out w)) (rwW E es u out++rwW E es t w)
|[],out,u,t,v,h1,h2=>by
  show Eqv (rwW E es u out) (rwW E es u out++[])
  rw[List.append_nil];exact Eqv.refl _
|x::w,out,u,t,v,h1,⟨q,h2,h3⟩=>by
  have h4:=aPT hE hf (aUH hf h1 h2) h3;have l1:LtW (rwW E es u (aBe out x)):=aPS hE;have l2:LtW (rwW E es u out):=aPS hE;have l3:LtW (rlV E t x q):=(aOS (E:=E)).lt hE;have l4:LtW (rwW E es q w):=aPS hE;have h5:=Eqv.app l1 (l2.app l3) l4 l4 (aTx hE hf h1 h2) (Eqv.refl _);rw[aCb,rwW,aDb hf h2,<- List.append_assoc];exact h4.trans h5
theorem aSx(hE:E.length<=3)(hf:IsFol r s es){w:LI}{u v:Int}(h:Pa es u w v):Eqv (rwW E es u (red [] w)) (rwW E es u w):=aPT hE hf (Pa.nil es u) h
theorem aSy(hE:E.length<=3)(hf:IsFol r s es){k:Nat}{y:Nat->LI}(hy:∀ i,i<k->Pa es 0 (y i) 0):∀ {w:LI},LtK k w->Pa es 0 (sbW y w) 0/\rwW E es 0 (sbW y w)=sbW (fun i=>rwW E es 0 (y i)) w
|[],_=>⟨rfl,rfl⟩
|x::w,h=>by
  obtain⟨h1,h2⟩:=aSy hE hf hy h.tail;have hx:=h.head;have key:Pa es 0 (sbL y x) 0/\rwW E es 0 (sbL y x)=sbL (fun i=>rwW E es 0 (y i)) x:=by
   unfold sbL;split
   .exact⟨hy _ oO,rfl⟩
   .have:=hy ((-x).toNat - 1) oO
    exact⟨this.inv hf.gr,aOT hE hf this⟩
  rw[aCc,aCc];exact⟨key.1.app h1,by rw[aFR hf key.1,key.2,h2]⟩
end
section
variable {r n:Nat} {es:List Ed}
theorem aOV(h:IsCor r n es):∀(m v:Nat),v<n->(wordV r es v).length<=m->rwW (extraE r es) es 0 (wordV r es v)=[]
|m,v,hv,hm=>by
  by_cases h0:v=0
  .subst h0
   rw[show((0:Nat):Int)=0 from rfl,aIC h]
   rfl
  .obtain⟨p,x,hp,e,hs,ht⟩:=aGn h hv h0
   rw[e] at hm |-;rw[List.length_append,List.length_singleton] at hm;cases m with
  |zero=>omega
  |succ m=>
    rw[aFR h.fol (aGo h hp),aOV h m p hp oO,aIw h.fol hs,aVy fun hm=>(aEB.1 hm).2 ht]
    rfl
theorem aMY(h:IsGr r n es):(extraE r es).Nodup:=by
 unfold extraE;exact(h.asc.imp fun k=>k.ne).filter _
theorem aVx(h:IsGr r n es){j:Nat}{u x v:Int}(hx:0<x)(he:(extraE r es)[j]?=some ⟨u,x,v⟩):rlV (extraE r es) u x v=[(j:Int)+1]:=by
 classical
 obtain⟨hj,a0⟩:=List.getElem?_eq_some_iff.1 he;have e:aBc u x v=⟨u,x,v⟩:=by unfold aBc;rw[if_neg oO]
 unfold rlV;rw[e,if_pos (oG he),if_pos hx];have hi:(extraE r es).idxOf (⟨u,x,v⟩:Ed)=j:=by
  rw[<- a0];exact(aMY h).idxOf_getElem j hj
 have a1:@List.idxOf Ed instBEqOfDecidableEq (⟨u,x,v⟩:Ed) (extraE r es)=j:=by
  rw[<- a0];exact(aMY h).idxOf_getElem j hj
 first
 |rw[hi]
 |rw[a1]
theorem aTy(h:IsCor r n es)(hE:(extraE r es).length<=3){j:Nat}{e:Ed}(he:(extraE r es)[j]?=some e) :
  ∃ a b:Nat,a<n/\b<n/\basisW r es e=wordV r es a++e.l::aAE (wordV r es b)/\Pa es 0 (basisW r es e) 0/\rwW (extraE r es) es 0 (basisW r es e)=[(j:Int)+1]:=by
 have hm:=oG he;obtain⟨a,b,e2,ha,hb,hl, -⟩:=aPt h.gr (aEB.1 hm).1;have a0:=hm;rw[e2] at a0;have a1:basisW r es e=wordV r es a++e.l::aAE (wordV r es b):=by
  conv=>lhs;rw[e2]
  exact aMM h a0
 have a2:Pa es 0 (wordV r es a++e.l::aAE (wordV r es b)) 0:=aJh h (aEB.1 a0).1;have hs:Sp es a e.l b:=.inl ⟨oO,(aEB.1 a0).1⟩;refine⟨a,b,ha,hb,a1,by rw[a1];exact a2,?_⟩;rw[a1,show wordV r es a++e.l::aAE (wordV r es b)=wordV r es a++([e.l]++aAE (wordV r es b)) from rfl,aFR h.fol (aGo h ha),aOV h _ a ha oN,aFR h.fol (aDO.2 hs),aIw h.fol hs,aOT hE h.fol (aGo h hb),aOV h _ b hb oN,
  aVx h.gr oO (by rw[<- e2];exact he)]
 rfl
theorem aRt(h:IsCor r n es){k:Nat}(hk:k<=3)(hE:(extraE r es).length=k){y u:Nat->LI}(hy:∀ i,i<k->Pa es 0 (y i) 0)(hu:∀ j,j<k->LtK k (u j))(a1:∀(j:Nat) (e:Ed),(extraE r es)[j]?=some e->Eqv (sbW y (u j)) (basisW r es e)){w:LI}(hw:LtK k w)(hr:Rd w)(a2:w.length<=39)(h0:Eqv (sbW y w) []):w=[]:=by
 have a0:(extraE r es).length<=3:=by omega
 have hz:∀ i,i<k->LtK k (rwW (extraE r es) es 0 (y i)):=fun i _=>by rw[<- hE];exact aOU
 have key:∀ v,LtK k v->∀ t,Eqv (sbW y v) t->Pa es 0 t 0->Eqv (sbW (fun i=>rwW (extraE r es) es 0 (y i)) v) (rwW (extraE r es) es 0 t):=fun v hv t ht hp=>by
  obtain⟨h1,h2⟩:=aSy a0 h.fol hy hv;rw[<- h2];refine(aSx a0 h.fol h1).symm.trans ((?_:Eqv _ _).trans (aSx a0 h.fol hp));rw[show red [] (sbW y v)=red [] t from ht];exact Eqv.refl _
 refine aVU hk hz hu (fun j hj=>?_) hw hr a2 (key w hw [] h0 rfl);have he:(extraE r es)[j]?=some (extraE r es)[j]:=List.getElem?_eq_getElem oO;obtain⟨a,b, -, -, -,hp,a3⟩:=aTy h a0 he;have:=key (u j) (hu j hj) _ (a1 j _ he) hp
 rwa [a3] at this
theorem aOu(h:IsCor r n es):(extraE r es).length+n=es.length+1:=by
 classical
 have hs:=h.gr.size;have a3:es.Nodup:=h.gr.asc.imp fun k=>k.ne;have a2:=aLc (fun e=>decide (e ∉ aBG es (bfs es (aAg r) 0))) es;have hE:(extraE r es).length=(es.filter fun e=>decide (e ∉ aBG es (bfs es (aAg r) 0))).length:=by
  unfold extraE
  congr 1
 have hT:∀ e,e∈(es.filter fun e=>!decide (e ∉ aBG es (bfs es (aAg r) 0)))↔e∈es/\e∈aBG es (bfs es (aAg r) 0):=fun e=>by
  rw[List.mem_filter];simp
 have a8:(aBG es (bfs es (aAg r) 0)).length+1=n:=by
  have h1:=(aSX h).1;have h2:(aBS r es 0).length=(bfs es (aAg r) 0).length:=by
   rw[aMg,List.length_map]
   rfl
  have h3:(aBG es (bfs es (aAg r) 0)).length=(bfs es (aAg r) 0).length - 1:=by unfold aBG;rw[List.length_map,List.length_tail]
  omega
 have a6:(es.filter fun e=>!decide (e ∉ aBG es (bfs es (aAg r) 0))).length<=(aBG es (bfs es (aAg r) 0)).length:=
  aTn (a3.filter _) fun e he=>((hT e).1 he).2
 have a0:∀ v:Nat,∃ e:Ed,(1<=v/\v<n)->∃(p:Nat) (x:Int),p<n/\wordV r es v=wordV r es p++[x]/\Sp es p x v/\e=aBc p x v/\e∈aBG es (bfs es (aAg r) 0):=fun v=>by
  by_cases hv:1<=v/\v<n
  .obtain⟨p,x,hp,e,a4,ht⟩:=aGn h hv.2 oO
   exact⟨_,fun _=>⟨p,x,hp,e,a4,rfl,ht⟩⟩
  .exact⟨⟨0,0,0⟩,fun hh=>absurd hh hv⟩
 have a5:n - 1<=(es.filter fun e=>!decide (e ∉ aBG es (bfs es (aAg r) 0))).length:=by
  have a1:((List.range (n - 1)).map fun v=>(a0 (v+1)).choose).Nodup:=by
   unfold List.Nodup;rw[List.pairwise_map];refine List.Pairwise.imp_of_mem ?_ (List.nodup_range (n:=n - 1));intro a b ha hb a7 e;have ha:=List.mem_range.1 ha;have hb:=List.mem_range.1 hb;obtain⟨p,x,hp,w1,s1,e1, -⟩:=(a0 (a+1)).choose_spec ⟨oO,oO⟩;obtain⟨q,y,hq,w2,s2,e2, -⟩:=(a0 (b+1)).choose_spec ⟨oO,oO⟩;rw[e,e2] at e1;have x0:=(s1.rng h.gr.all).2.2.1;have y0:=(s2.rng h.gr.all).2.2.1;rcases aSC y0 x0 e1 with⟨h1,h2,h3⟩|⟨h1,h2,h3⟩
   .omega
   have w3:=congrArg List.length w1;have w4:=congrArg List.length w2;rw[<- h1,List.length_append] at w3;rw[h3,List.length_append] at w4;simp only[List.length_singleton] at w3 w4;omega
  have:=aTn a1 (m:=es.filter fun e=>!decide (e ∉ aBG es (bfs es (aAg r) 0))) fun e he=>by
   obtain⟨v,hv,rfl⟩:=List.mem_map.1 he;have hv:=List.mem_range.1 hv;obtain⟨p,x,hp,w1,s1,e1,ht⟩:=(a0 (v+1)).choose_spec ⟨oO,oO⟩;refine(hT _).2 ⟨?_,ht⟩;rw[e1];exact(aMw.1 s1).2
  rwa [List.length_map,List.length_range] at this
 omega
end
end
def atW(l:LL)(i:Nat):LI:=l.getD i []
theorem aFy{l:LL}{i:Nat}(h:i<l.length):atW l i∈l:=by
 unfold atW;rw[List.getD_eq_getElem?_getD,List.getElem?_eq_getElem h];exact List.getElem_mem h
theorem aRf{l:LL}{w:LI}{i:Nat}(h:i<l.length):atW (l++[w]) i=atW l i:=by
 unfold atW;rw[List.getD_eq_getElem?_getD,List.getD_eq_getElem?_getD,List.getElem?_append_left h]
theorem aSN{l:LL}{w:LI}:atW (l++[w]) l.length=w:=by
 unfold atW;rw[List.getD_eq_getElem?_getD,List.getElem?_append_right oN,Nat.sub_self]
 rfl
theorem aKo{k:Nat}{d d':Nat->LI}(h:∀ i,i<k->d i=d' i):∀ {z:LI},LtK k z->sbW d z=sbW d' z
|[],_=>rfl
|x::z,hz=>by
  have hx:=hz.head;rw[aCc,aCc,aKo h hz.tail]
  congr 1
  unfold sbL;split
  .exact h _ oO
  .rw[h _ oO]
theorem LtK.mono{k m:Nat}(hk:k<=m){w:LI}(h:LtK k w):LtK m w:=fun x hx=>by
 have:=h x hx;omega
def GenP(es:List Ed)(l:LL)(p:Int->LI):Prop:=
 p 0=[]/\(∀ v,LtW (p v))/\∀ e∈es,∃ z,LtK l.length z/\Eqv (p e.a++[e.l]++aAE (p e.b)) (sbW (atW l) z)
theorem aNs{a b:LI}{x:Int}(ha:LtW a)(hb:LtW b)(hx:Lt3 x):aAE (a++[x]++aAE b)=b++[-x]++aAE a:=by
 rw[aCz,aCz,aFG hb,List.append_assoc];simp[aAE,hx.negI]
theorem GenP.sp{s:Int}{es:List Ed}{l:LL}{p:Int->LI}(h:GenP es l p)(hg:∀ e∈es,InG 3 s e)(hk:l.length<=3)(hl:∀ w∈l,LtW w){u x v:Int}(hs:Sp es u x v) :
  ∃ z,LtK l.length z/\Eqv (p u++[x]++aAE (p v)) (sbW (atW l) z):=by
 have hd:∀ i,i<l.length->LtW (atW l i):=fun i hi=>hl _ (aFy hi);rcases hs with⟨h1,h2⟩|⟨h1,h2⟩
 .exact h.2.2 _ h2
 obtain⟨z,h3,h4⟩:=h.2.2 _ h2;have hi:=hg _ h2;unfold InG at hi;simp only at hi;have hx:Lt3 (-x):=by unfold Lt3;omega
 refine⟨aAE z,h3.inv hk,?_⟩;simp only at h4;have h5:=Eqv.inv (((h.2.1 v).app (LtW.one hx)).app (h.2.1 u).inv) (aCP hd h3) h4;rw[aNs (h.2.1 v) (h.2.1 u) hx,Int.neg_neg,<- aMs hk hd h3] at h5;exact h5
theorem GenP.pa{s:Int}{es:List Ed}{l:LL}{p:Int->LI}(h:GenP es l p)(hg:∀ e∈es,InG 3 s e)(hk:l.length<=3)(hl:∀ w∈l,LtW w):∀ {w:LI} {u v:Int},Pa es u w v ->
  LtW w/\∃ z,LtK l.length z/\Eqv (p u++w++aAE (p v)) (sbW (atW l) z)
|[],u,v,e=>by
  cases e
  refine⟨LtW.nil,[],LtK.nil,?_⟩;rw[List.append_nil];exact Eqv.inv_right (h.2.1 u)
|x::w,u,v,⟨t,h1,h2⟩=>by
  have hd:∀ i,i<l.length->LtW (atW l i):=fun i hi=>hl _ (aFy hi);have hx:Lt3 x:=by
   have:=h1.rng hg;unfold Lt3;omega
  obtain⟨lw,z2,k2,e2⟩:=h.pa hg hk hl h2;obtain⟨z1,k1,e1⟩:=h.sp hg hk hl h1;have lu:=h.2.1 u;have lt:=h.2.1 t;have a0:=h.2.1 v;refine⟨LtW.cons hx lw,z1++z2,k1.app k2,?_⟩;rw[aIx];have l1:LtW (p u++[x]++aAE (p t)):=(lu.app (LtW.one hx)).app lt.inv;have l2:LtW (p t++w++aAE (p v)):=(lt.app lw).app a0.inv;have h3:=Eqv.app l1 (aCP hd k1) l2 (aCP hd k2) e1 e2;refine Eqv.trans ?_ h3;have c1:Eqv (aAE (p t)++p t) []:=Eqv.inv_left lt;have lb:LtW (w++aAE (p v)):=lw.app a0.inv;have h4:=Eqv.app (lt.inv.app lt) LtW.nil lb lb c1 (Eqv.refl _);have h5:=Eqv.app (lu.app (LtW.one hx)) (lu.app (LtW.one hx)) ((lt.inv.app lt).app lb) (LtW.nil.app lb) (Eqv.refl _) h4;have e3:p u++[x]++aAE (p t)++(p t++w++aAE (p v))=(p u++[x])++((aAE (p t)++p t)++(w++aAE (p v))):=by simp only[List.append_assoc]
  have e4:p u++x::w++aAE (p v)=(p u++[x])++([]++(w++aAE (p v))):=by simp
  rw[e3,e4];exact h5.symm
theorem GenP.nil:GenP [] [] fun _=>[]:=⟨rfl,fun _=>LtW.nil,fun e he=>by cases he⟩
theorem aUI{s:Int}(hs:1<=s){w:LI}(hw:LtW w){e:Ed}(he:e∈aCq 0 s w 0 w.length):InG 3 (s+(w.length:Int) - 1) e:=by
 unfold aCq at he;obtain⟨i,hi,rfl⟩:=List.mem_map.1 he;have hi:=List.mem_range.1 hi;have hx:=aIg hw hi;have hv:∀ j,j<=w.length->0<=aCd 0 s w.length 0 j/\aCd 0 s w.length 0 j<s+(w.length:Int) - 1:=fun j hj=>by
  unfold aCd;split
  .omega
  .split <;> omega
 have h1:=hv i oO;have h2:=hv (i+1) oO;unfold Lt3 at hx;unfold aBc InG;split <;> simp only <;> omega
theorem GenP.add{s:Int}(hs:1<=s){es:List Ed}{l:LL}{p:Int->LI}(h:GenP es l p)(hg:∀ e∈es,InG 3 s e){w:LI}(hw:LtW w)(hk:(l++[w]).length<=3)(hl:∀ x∈l++[w],LtW x) :
  ∃ p',GenP (canon (es++aCq 0 s w 0 w.length)) (l++[w]) p':=by
 have hd:∀ i,i<(l++[w]).length->LtW (atW (l++[w]) i):=fun i hi=>hl _ (aFy hi)
 let q:Int->LI:=fun v=>if s<=v then w.take (v - s+1).toNat else p v
 have ql:∀ v,LtW (q v):=fun v=>by
  show LtW (if s<=v then w.take (v - s+1).toNat else p v)
  split
  .exact fun x hx=>hw x (List.mem_of_mem_take hx)
  .exact h.2.1 v
 have q0:q 0=[]:=by
  show(if s<=0 then w.take (0 - s+1).toNat else p 0)=[]
  rw[if_neg oO,h.1]
 refine⟨q,q0,ql,fun e he=>?_⟩;rcases List.mem_append.1 (aAO.1 he) with he|he
 .have hi:=hg e he
  unfold InG at hi;obtain⟨z,k1,k2⟩:=h.2.2 e he;refine⟨z,k1.mono oM,?_⟩;have ea:q e.a=p e.a:=if_neg oO;have eb:q e.b=p e.b:=if_neg oO;rw[ea,eb,aKo (d:=atW (l++[w])) (d':=atW l) (fun i hi=>aRf hi) k1];exact k2
 unfold aCq at he;obtain⟨i,hi,rfl⟩:=List.mem_map.1 he;have hi:=List.mem_range.1 hi;have hx:=aIg hw hi;have hq:∀ j,j<w.length->q (aCd 0 s w.length 0 j)=w.take j:=fun j hj=>by
  unfold aCd;split
  .rename_i h0
   rw[q0,h0,List.take_zero]
  .show(if s<=_ then w.take (_ - s+1).toNat else p _)=_
   rw[if_pos oO]
   congr 1
   omega
 have a1:q (aCd 0 s w.length 0 w.length)=[]:=by
  unfold aCd;split
  .exact q0
  rw[if_neg oO];exact q0
 have ht:w.take (i+1)=w.take i++[w.getD i 0]:=by
  rw[List.take_succ_eq_append_getElem hi,List.getD_eq_getElem?_getD,List.getElem?_eq_getElem hi]
  rfl
 have lt:LtW (w.take i):=fun x hx=>hw x (List.mem_of_mem_take hx)
 -- the step forward
 have a0:∃ z,LtK (l++[w]).length z/\Eqv (q (aCd 0 s w.length 0 i)++[w.getD i 0]++aAE (q (aCd 0 s w.length 0 (i+1)))) (sbW (atW (l++[w])) z):=by
  rw[hq i hi];by_cases hlast:i+1=w.length
  .refine⟨[(l.length:Int)+1],LtK.cons (by simp;omega) LtK.nil,?_⟩
   rw[hlast,a1,<- ht,hlast,List.take_length,aKp];unfold sbL;rw[if_pos oO,show((l.length:Int)+1).toNat - 1=l.length by omega,aSN]
   show Eqv (w++[]) w
   rw[List.append_nil];exact Eqv.refl _
  refine⟨[],LtK.nil,?_⟩;rw[hq (i+1) oO,ht];exact Eqv.inv_right (lt.app (LtW.one hx))
 obtain⟨z,k1,k2⟩:=a0;by_cases hneg:w.getD i 0<0
 .refine⟨aAE z,k1.inv hk,?_⟩
  unfold aBc;rw[if_pos hneg];simp only;have h5:=Eqv.inv (((ql _).app (LtW.one hx)).app (ql _).inv) (aCP hd k1) k2;rw[aNs (ql _) (ql _) hx,<- aMs hk hd k1] at h5;exact h5
 refine⟨z,k1,?_⟩;unfold aBc;rw[if_neg hneg];exact k2
theorem aLN:∀(n:Nat) (l:LL),l.length=n->n<=3->(∀ w∈l,LtW w)->(∃ p,GenP (aBn l (1,[])).2 l p)/\(∀ e∈(aBn l (1,[])).2,InG 3 (aBn l (1,[])).1 e)/\1<=(aBn l (1,[])).1/\∀ w∈l,Pa (aBn l (1,[])).2 0 w 0
|0,l,hn,_,_=>by
  obtain rfl:=List.length_eq_zero_iff.1 hn;refine⟨⟨_,GenP.nil⟩,?_,Int.le_refl _,?_⟩
  .intro e he
   cases he
  .intro w hw
   cases hw
|n+1,l,hn,h3,hl=>by
  rcases aBy l with rfl|⟨m,w,rfl⟩
  .simp at hn
  .have hm:m.length=n:=by simp at hn;omega
   obtain⟨⟨p,hp⟩,hg,hs,a0⟩:=aLN n m hm oO fun x hx=>hl x (List.mem_append_left _ hx);have hw:LtW w:=hl w oM;have e:aBn (m++[w]) (1,[])=aCT (aBn m (1,[])) w:=by
    unfold aBn;rw[List.foldl_append]
    rfl
   rw[e];generalize aBn m (1,[])=g at hp hg hs a0;unfold aCT;by_cases h0:w=[]
   .rw[if_pos h0]
    refine⟨⟨p,hp.1,hp.2.1,fun e he=>?_⟩,hg,hs,fun x hx=>?_⟩
    .obtain⟨z,k1,k2⟩:=hp.2.2 e he
     refine⟨z,k1.mono oM,?_⟩;rw[aKo (d:=atW (m++[w])) (d':=atW m) (fun i hi=>aRf hi) k1];exact k2
    .rcases List.mem_append.1 hx with hx|hx
     .exact a0 x hx
     .rw[List.mem_singleton.1 hx,h0]
      rfl
   .rw[if_neg h0]
    have a1:=List.length_pos_iff.2 h0;refine⟨hp.add hs hg hw oO hl,fun e he=>?_,by simp only;omega,fun x hx=>?_⟩
    .rcases List.mem_append.1 (aAO.1 he) with he|he
     .have:=hg e he
      unfold InG at this |-;simp only;omega
     .exact aUI hs hw he
    .rcases List.mem_append.1 hx with hx|hx
     .exact(a0 x hx).mono fun e he=>aAO.2 (List.mem_append_left _ he)
     .rw[List.mem_singleton.1 hx]
      exact aQK (fun y hy=>(hw y hy).1) h0
theorem aQu{l:LL}(h3:l.length<=3)(hl:∀ w∈l,LtW w){w:LI}(hw:LtW w)(h:aTF (aBn l (1,[])).2 w):∃ z,LtK l.length z/\Eqv (sbW (atW l) z) w:=by
 obtain⟨⟨p,hp⟩,hg, -, -⟩:=aLN l.length l rfl h3 hl;obtain⟨w2,l2,e,a0⟩:=h;obtain⟨-,z,k1,k2⟩:=hp.pa hg h3 hl a0;rw[hp.1] at k2;have e2:[]++w2++aAE []=w2:=by show w2++[]=w2;exact List.append_nil _
 rw[e2] at k2;exact⟨z,k1,(e.trans k2).symm⟩
theorem aRE{r:Nat}{l:LL}(hg:IsGr r (aBn l (1,[])).1 (aBn l (1,[])).2)(h3:l.length<=3)(hl:∀ w∈l,LtW w/\Rd w)(hc:((coreA r (aBn l (1,[]))).2.length:Int) - (coreA r (aBn l (1,[]))).1+1=l.length){w:LI}(hw:LtK l.length w)(hr:Rd w)(a6:w.length<=39)(h0:Eqv (sbW (atW l) w) []):w=[]:=by
 have a2:∀ x∈l,LtW x:=fun x hx=>(hl x hx).1;have a1:=aLJ hg;have a0:=fun{v:LI} (hv:LtW v)=>aMT hg hv;have a4:=fun{v:LI} (hv:LtW v) (h:aTF (aBn l (1,[])).2 v)=>aQu h3 a2 hv h;have a5:=(aLN l.length l rfl h3 a2).2.2.2;have e1:(aBn l (1,[]))=((aBn l (1,[])).1,(aBn l (1,[])).2):=rfl;rw[e1] at hc;generalize (aBn l (1,[])).2=fe at hg hc a1 a0 a4 a5;generalize (aBn l (1,[])).1=fs at hg hc a1 a0;generalize coreA (r:Int) (fs,fe)=C at hc a1 a0;obtain⟨s,es⟩:=C;simp only at hc a1 a0;obtain⟨n,rfl⟩:=Int.eq_ofNat_of_zero_le (show 0<=s by have:=a1.gr.size;omega);have hE:(extraE r es).length=l.length:=by
  have:=aOu a1;omega
 have hy:∀ i,i<l.length->Pa es 0 (atW l i) 0:=fun i hi=>by
  have hm:=aFy hi;have h1:InS es (atW l i):=(a0 (a2 _ hm)).2 ⟨_,a2 _ hm,Eqv.refl _,a5 _ hm⟩;unfold InS at h1
  rwa [aJw (hl _ hm).2 (a2 _ hm)] at h1
 have a3:∀ j,∃ z,∀ e,(extraE r es)[j]?=some e->LtK l.length z/\Eqv (sbW (atW l) z) (basisW r es e):=fun j=>by
  by_cases hj:j<(extraE r es).length
  .have he:(extraE r es)[j]?=some (extraE r es)[j]:=List.getElem?_eq_getElem hj
   generalize (extraE r es)[j]=e at he;have hb:=aQi a1 (w:=basisW r es e) (List.mem_map.2 ⟨e,oG he,rfl⟩);obtain⟨z,k1,k2⟩:=a4 hb.1 ((a0 hb.1).1 hb.2);refine⟨z,fun e' he'=>?_⟩;rw[he] at he';rw[<- Option.some.inj he'];exact⟨k1,k2⟩
  .exact⟨[],fun e he=>by rw[List.getElem?_eq_none oO] at he;cases he⟩
 refine aRt a1 h3 hE (y:=atW l) (u:=fun j=>(a3 j).choose) hy (fun j hj=>?_) (fun j e he=>((a3 j).choose_spec e he).2) hw hr a6 h0;have he:(extraE r es)[j]?=some (extraE r es)[j]:=List.getElem?_eq_getElem oO;exact((a3 j).choose_spec _ he).1
def aAC(r:Int)(d:LL)(l:LI)(res:LI)(b:Bool):Prop:=
 ((IsMor r d/\IsW r l)->res=aAl d l/\b=true)/\(¬ (IsMor r d/\IsW r l)->res=[]/\b=false)
theorem aHc(r:Int)(d:LL)(l:LI)(_:(Lit.int .i64 r).wf=true)(_:OkSS d)(_:d.length+aAK d<=1048576)(_:OkI l)(_:l.length<=1048576):∃ res b,aAC r d l res b:=by
 by_cases h:IsMor r d/\IsW r l
 .exact⟨aAl d l,true,fun _=>⟨rfl,rfl⟩,fun h'=>absurd h h'⟩
 exact⟨[],false,fun h'=>absurd h' h,fun _=>⟨rfl,rfl⟩⟩
theorem aDA{d:LL}(hb:∀ xs∈d,xs.length<=24)(ho:∀ xs∈d,OkI xs)(l:LI):(aAl d l).length<=4800:=by
 have h1:=aBu (aCO d (l.take 200)).flatten;have h2:=aCh hb ho l (Nat.le_refl 200);unfold aAl;omega
theorem aGA{r:Int}{d:LL}{l:LI}{res:LI}{b:Bool}(h:aAC r d l res b)(_:(Lit.int .i64 r).wf=true)(ho:OkSS d)(_:d.length+aAK d<=1048576)(_:OkI l)(_:l.length<=1048576):res.length<=1048576:=by
 by_cases hg:IsMor r d/\IsW r l
 .rw[(h.1 hg).1]
  have:=aDA (fun xs hx=>(hg.1.2.2.2 xs hx).2.2.1) ho.2 l;omega
 rw[(h.2 hg).1];simp
theorem aBV(r:Int)(A:OA)(d:LL)(c:Nat)(A':OA)(l:LI)(c':Nat)(w:World)(lo hi:Nat)(h:OSS w lo hi 44 3 A c d)(_b:(Lit.int .i64 r).wf=true)(aI:OkSS d)(hl:d.length+aAK d<=1048576)(lo' hi':Nat)(h':OI w lo' hi' A' c' l)(a6:OkI l)(aO:l.length<=1048576)(aD:LI)(b:Bool)(a8:aAC r d l aD b) :
  Calls Tryz.prog 62 #[.agg #[.int .i64 r,.slice A d.length c],.slice A' l.length c'] w fun e w'=>∃ A2 c2,e=.returned (.tuple #[.slice A2 aD.length c2,.bool b])/\OI w' w.heap.size w'.heap.size A2 c2 aD/\Mid 0 0 w w':=by
 have hr:=h.rss;have aJ:=h'.ri.rs;have aN:=h'.cap;have a9:=oH aI;have aB:=oH a6;have a2:=oH a8;clear h h' aI a6 a8;have a4:Mid 0 0 w (w.alloc (.cells #[r,.slice A d.length c] 76)):=oE _ _;have aF:=oJ w #[r,.slice A d.length c] 76;have aA:=hr.mid a4 oZl;have a7:=(aJ.below a4.bel).more a4.size;clear hr aJ;obtain⟨v,hv⟩:=aDs (IsMor r d);obtain⟨u,hu⟩:=aDs (IsW r l);have HV:=oH hv;have HU:=oH hu;clear hv hu;cases hvc:v with
|false=>
  obtain⟨e1,e2⟩:=a2.out.2 (fun hh=>by have:=HV.out.2 hh.1;rw[hvc] at this;cases this);subst e1 e2;subst hvc;go_enter Tryz.func62,Tryz.ntmps62
  go_wp2_with fail;with_reducible refine(aAq r A d c _ _ _ aA a9.out hl _ HV.out).mono ?_
  rintro e w1 ⟨rfl,a0⟩;have hm:=a4.trans a0;have ho:=aAd w1 3 1;go_wp2_with fail;go_ret2;exact⟨_,_,rfl,(OV.new ho).wide hm.size oN oN,hm.trans (oE _ _)⟩
|true=>
  subst hvc;have a5:IsMor r d:=HV.out.1 rfl;have HM:=oH a5;clear a5 HV;cases huc:u with
 |false=>
   obtain⟨e1,e2⟩:=a2.out.2 (fun hh=>by have:=HU.out.2 hh.2;rw[huc] at this;cases this);subst e1 e2;have aG:¬ IsW r l:=fun h=>by
    have h2:=HU.out.2 h;rw[huc] at h2;cases h2
   have aL:=oH aG;subst huc;clear HU aG;go_enter Tryz.func62,Tryz.ntmps62
   go_wp2_with fail;with_reducible refine(aAq r A d c _ _ _ aA a9.out hl true (oX rfl HM.out)).mono ?_
   rintro e w1 ⟨rfl,a0⟩;have a1:=aF.mid a0 oZr;have a3:=(a7.below a0.bel).more a0.size;have hm:=a4.trans a0;have k0:=a1.cell 0 rfl;have k1:=a1.cell 1 rfl;go_wp2_with fail;with_reducible refine(aCi r A' l c' _ _ a3 aB.out oO false (iff_of_false Bool.false_ne_true aL.out)).mono ?_
   rintro e w2 ⟨rfl,n,rfl⟩;have ho:=aAd (w1.drewN n) 3 1;go_wp2_with fail;go_ret2;exact⟨_,_,rfl,(OV.new ho).wide hm.size oN oN,(hm.drewN n).trans (oE _ _)⟩
 |true=>
   subst huc;have hw:IsW r l:=HU.out.1 rfl;obtain⟨e1,e2⟩:=a2.out.1 ⟨HM.out,hw⟩;subst e2;have HE:=oH e1;have HW:=oH hw;have aE:∀ xs∈d,xs.length<=24:=fun xs hx=>(HM.out.2.2.2 xs hx).2.2.1;have aK:=oH aE;clear e1 hw HU a2 aE;go_enter Tryz.func62,Tryz.ntmps62
   go_wp2_with fail;with_reducible refine(aAq r A d c _ _ _ aA a9.out hl true (oX rfl HM.out)).mono ?_
   rintro e w1 ⟨rfl,a0⟩;have a1:=aF.mid a0 oZr;have a3:=(a7.below a0.bel).more a0.size;have aC:=aA.mid a0 oZl;have hm:=a4.trans a0;have k0:=a1.cell 0 rfl;have k1:=a1.cell 1 rfl;go_wp2_with fail;with_reducible refine(aCi r A' l c' _ _ a3 aB.out oO true (oX rfl HW.out)).mono ?_
   rintro e w2 ⟨rfl,n,rfl⟩;go_wp2_with fail;have hC:=aDy A d c A' l c' (w1.drewN n) _ _ (aC.mid ((Mid.refl 0 0 w1).drewN n) oZl) (a3.drewN n) aK.out a9.out.2 aB.out oO aO;refine hC.mono ?_;rintro e w3 ⟨A2,c2,rfl,aH,aM⟩;rw[<- HE.out] at aH |-;go_wp2_with fail;go_ret2;exact⟨_,_,rfl,(OV.new aH).wide hm.size oN oN,(hm.drewN n).trans (Mid.of_below aM)⟩
theorem aBU(r:Int)(A:OA)(d:LL)(c:Nat)(A':OA)(l:LI)(c':Nat)(w:World)(lo hi:Nat)(h:OSS w lo hi 44 3 A c d)(_b:(Lit.int .i64 r).wf=true)(aJ:OkSS d)(hl:d.length+aAK d<=1048576)(lo' hi':Nat)(h':OI w lo' hi' A' c' l)(a6:OkI l)(aO:l.length<=1048576)(aE:LI)(b:Bool)(a8:aAC r d l aE b) :
  Calls Tryz.prog 61 #[.agg #[.int .i64 r,.slice A d.length c],.slice A' l.length c'] w fun e w'=>∃ A2 c2,e=.returned (.tuple #[.slice A2 aE.length c2,.bool b])/\OI w' w.heap.size w'.heap.size A2 c2 aE/\Mid 0 0 w w':=by
 have hr:=h.rss;have aK:=h'.ri.rs;have aC:=h'.cap;have a9:=oH aJ;have aB:=oH a6;have a2:=oH a8;clear h h' aJ a6 a8;have a4:Mid 0 0 w (w.alloc (.cells #[r,.slice A d.length c] 76)):=oE _ _;have aG:=oJ w #[r,.slice A d.length c] 76;have aA:=hr.mid a4 oZl;have a7:=(aK.below a4.bel).more a4.size;clear hr aK;obtain⟨v,hv⟩:=aDs (IsMor r d);obtain⟨u,hu⟩:=aDs (IsW r l);have HV:=oH hv;have HU:=oH hu;clear hv hu;cases hvc:v with
|false=>
  obtain⟨e1,e2⟩:=a2.out.2 (fun hh=>by have:=HV.out.2 hh.1;rw[hvc] at this;cases this);subst e1 e2;subst hvc;go_enter Tryz.func61,Tryz.ntmps61
  go_wp2_with fail;with_reducible refine(aAs r A d c _ _ _ aA a9.out hl _ HV.out).mono ?_
  rintro e w1 ⟨rfl,a0⟩;have hm:=a4.trans a0;have ho:=aAd w1 3 1;go_wp2_with fail;go_ret2;exact⟨_,_,rfl,(OV.new ho).wide hm.size oN oN,hm.trans (oE _ _)⟩
|true=>
  subst hvc;have a5:IsMor r d:=HV.out.1 rfl;have HM:=oH a5;clear a5 HV;cases huc:u with
 |false=>
   obtain⟨e1,e2⟩:=a2.out.2 (fun hh=>by have:=HU.out.2 hh.2;rw[huc] at this;cases this);subst e1 e2;have aH:¬ IsW r l:=fun h=>by
    have h2:=HU.out.2 h;rw[huc] at h2;cases h2
   have aM:=oH aH;subst huc;clear HU aH;go_enter Tryz.func61,Tryz.ntmps61
   go_wp2_with fail;with_reducible refine(aAs r A d c _ _ _ aA a9.out hl true (oX rfl HM.out)).mono ?_
   rintro e w1 ⟨rfl,a0⟩;have a1:=aG.mid a0 oZr;have a3:=(a7.below a0.bel).more a0.size;have hm:=a4.trans a0;have k0:=a1.cell 0 rfl;have k1:=a1.cell 1 rfl;go_wp2_with fail;with_reducible refine(aBP r A' l c' _ _ a3 aB.out oO false (iff_of_false Bool.false_ne_true aM.out)).mono ?_
   rintro e w' ⟨rfl,rfl⟩;have ho:=aAd w1 3 1;go_wp2_with fail;go_ret2;exact⟨_,_,rfl,(OV.new ho).wide hm.size oN oN,(hm).trans (oE _ _)⟩
 |true=>
   subst huc;have hw:IsW r l:=HU.out.1 rfl;obtain⟨e1,e2⟩:=a2.out.1 ⟨HM.out,hw⟩;subst e2;have HE:=oH e1;have HW:=oH hw;have aF:∀ xs∈d,xs.length<=24:=fun xs hx=>(HM.out.2.2.2 xs hx).2.2.1;have aL:=oH aF;clear e1 hw HU a2 aF;go_enter Tryz.func61,Tryz.ntmps61
   go_wp2_with fail;with_reducible refine(aAs r A d c _ _ _ aA a9.out hl true (oX rfl HM.out)).mono ?_
   rintro e w1 ⟨rfl,a0⟩;have a1:=aG.mid a0 oZr;have a3:=(a7.below a0.bel).more a0.size;have aD:=aA.mid a0 oZl;have hm:=a4.trans a0;have k0:=a1.cell 0 rfl;have k1:=a1.cell 1 rfl;go_wp2_with fail;with_reducible refine(aBP r A' l c' _ _ a3 aB.out oO true (oX rfl HW.out)).mono ?_
   rintro e w' ⟨rfl,rfl⟩;go_wp2_with fail;have hC:=aDt A d c A' l c' w1 _ _ (aD.mid ((Mid.refl 0 0 w1)) oZl) a3 aC aL.out a9.out.2 aB.out oO aO;refine hC.mono ?_;rintro e w3 ⟨A2,c2,rfl,aI,aN⟩;rw[<- HE.out] at aI |-;go_wp2_with fail;go_ret2;exact⟨_,_,rfl,(OV.new aI).wide hm.size oN oN,(hm).trans (Mid.of_below aN)⟩
def idW(n:Nat):LL:=(List.range n).map fun(i:Nat)=>[(i:Int)+1]
theorem aLP(n:Nat):idW (n+1)=idW n++[[(n:Int)+1]]:=by simp[idW,List.range_succ]
theorem aFD(n:Nat):(idW n).length=n:=by simp[idW]
def idM(r:Int):Mor:=if 1<=r/\r<=3 then⟨r,idW r.toNat⟩ else⟨0,[]⟩
def idB(r:Int):Bool:=inB r 1 3
theorem aDk(r:Int)(w:World) :
  Calls Tryz.prog 83 #[.int .i64 r] w fun e w'=>∃ A c,e=.returned (.tuple #[.agg #[.int .i64 (idM r).rank,.slice A (idM r).imgs.length c],.bool (idB r)]) /\
   OSS w' w w' 44 3 A c (idM r).imgs/\Mid 0 0 w w':=by
 by_cases hb:inB r 1 3=false
 .have hd:idM r=⟨0,[]⟩:=by
   unfold idM;rw[if_neg];intro h;simp[inB] at hb;omega
  have HD:=oH hd;clear hd;have HB:=oH hb;go_enter Tryz.func83,Tryz.ntmps83
  go_wp2_with fail;with_reducible refine(aBw _ _ _ _).mono ?_
  rintro e w1 ⟨rfl,rfl⟩;rw[HB.out];go_wp2_with fail;refine oW (v:=.tuple #[.agg #[(0:Int),.slice none 0 0],.bool false]) (by simp[results,Tryz.results83,go_sem]) rfl ⟨none,0,?_,?_,?_⟩
  .rw[HD.out,show idB r=false from HB.out]
   rfl
  .rw[HD.out]
   exact OSS.nil
  repeat (first|exact oE _ _|refine oQ ?_ oM _)
 .have aB:inB r 1 3=true:=by simpa using hb
  have hr:1<=r/\r<=3:=by simpa [inB] using aB
  obtain⟨n,rfl⟩:∃ n:Nat,r=(n:Int):=⟨r.toNat,oO⟩
  have hn:n<=3:=by omega
  have hd:idM n=⟨n,idW n⟩:=by
   unfold idM;rw[if_pos hr];simp
  have HD:=oH hd;have HB:=oH aB;clear hd hb aB hr;go_enter Tryz.func83,Tryz.ntmps83
  go_wp2_with fail;with_reducible refine(aBw _ _ _ _).mono ?_
  rintro e w1 ⟨rfl,rfl⟩;rw[HB.out];go_wp2_with fail;have a5:=(oJ (w.alloc (.cells #[(0:Int),.slice none 0 0] 76)) #[n,.slice none 0 0] 76)
  have aC:=(oJ w #[(0:Int),.slice none 0 0] 76).mid (oE _ (.cells #[n,.slice none 0 0] 76)) oZr;have aN:Mid 0 0 w ((w.alloc (.cells #[(0:Int),.slice none 0 0] 76)).alloc (.cells #[n,.slice none 0 0] 76)):=(oE _ _).trans (oE _ _);rw[World.size_alloc] at a5;go_loopw [5] (fun i wr=>∃ k:Nat,∃ rows:List Row,∃ A c,k<=n/\i=.int .i64 ((k:Int)+1)/\aAt rows=idW k /\
   Box wr (w.heap.size+1) [n,.slice A k c]/\Box wr w [(0:Int),.slice none 0 0] /\
   wr.ownsRow (w.heap.size+2) 44 1 (.slice A k c) k (aBi rows)/\OwnRows wr (w.heap.size+2) wr.heap.size 3 rows/\Mid 0 0 w wr/\w.heap.size+2<=wr.heap.size)
   (fun i _=>n+1 - (intOf i).toNat)
  case atStart=>exact⟨0,[],none,0,oZ,by simp,by simp[aAt,idW],a5,aC,⟨rfl,.inl ⟨rfl,rfl⟩⟩,OwnRows.nil,aN,by simp⟩
  obtain⟨k,rows,A,c,hk,rfl,aI,a8,a9,a7,a2,hm,aP⟩:=hrel;have aF:=oH aI;clear aI;have aR:=a8.cell 1 rfl;have aQ:=a8.cell 0 rfl;have aL:=a9.cell 0 rfl;have aM:=a9.cell 1 rfl;have fx:=a8.2.2;have fy:=a9.2.2;by_cases hlt:k<n
  .have aA:Mid 0 0 wr (wr.alloc (.cells #[.int .i64 ((k:Int)+1)] 3)):=oE _ _
   have a0:=a7.alloc (.cells #[.int .i64 ((k:Int)+1)] 3);have a4:=a2.mid aA oZl;have aE:=World.ownsRow_lit (e:=3) (size:=1) wr #[.int .i64 ((k:Int)+1)] 1 oN oD rfl;go_wp2_with (at_builtin;refine aAk rfl _ _ 24 rfl (w.heap.size+2) 44 (.slice none 0 0) 1 24 aDl aDi rfl oD _ _ _ rfl a0 1 [.slice (some ⟨wr,0,none⟩) 1 1] (by simp[go_sem]) rfl ?c1 ?c2 ?c3 (by simp;omega) ?next)
   case c1=>simp[Value.oneCell']
   case c2=>unfold maxLen;omega
   case c3=>omega
   case next=>
    intro v' w1 a1 aG _;have a6:=oF a0 aG;have aJ:=a6.size;simp only[World.size_alloc] at aJ a6;have a3:=(a8.mid aA oZr).mid a6;have aD:=(a9.mid aA oZr).mid a6;have aK:=a3.cell 1 rfl;have aS:=a3.2.2;obtain⟨A',c',rfl, -, -⟩:=aAc a1;go_wp2_with fail;go_roundw
    case rel=>
     have hp:=a4.push (r:=⟨some ⟨wr,0,none⟩,1,[(k:Int)+1]⟩) (base:=wr.heap.size) (hi':=wr.heap.size+1) aE oN aP oO oM
      (by intro g hg;simp[Row.v,Value.ownBlock] at hg;omega)
     have aO:=(hp.grown a0 oD aG).mid (Mid.setCell w1 (lo:=w.heap.size+1) (hi:=w.heap.size+2) (p:=⟨w.heap.size+1,1,none⟩) (.slice A' (k+1) c') oM oM) (Or.inl oN);have aH:=Mid.setCell w1 (lo:=w.heap.size+1) (hi:=w.heap.size+2) (p:=⟨w.heap.size+1,1,none⟩) (.slice A' (k+1) c') oM oM;refine⟨k+1,rows++[⟨some ⟨wr,0,none⟩,1,[(k:Int)+1]⟩],A',c',oO,by go_num,?_,a3.set 1 _ oM rfl,aD.mid aH,?_,aO.wide oN (by simpa using aJ) oM,?_,by simp;omega⟩
     .rw[aAv,aF.out,aLP]
      rfl
     .rw[aBg]
      exact aAb a1 aH (Or.inl oN)
     exact((hm.trans aA).transNew a6 oL).storeNew oM _
    simp[intOf];omega
  obtain rfl:k=n:=by omega
  go_wp2_with fail;have hD:aAt rows=idW k:=aF.out;refine oW (v:=.tuple #[.agg #[k,.slice A k c],.bool true]) (by simp[results,Tryz.results83,go_sem,aL,aM,fy]) rfl ⟨A,c,?_,?_,?_⟩
  .rw[HD.out,show idB k=true from HB.out]
   simp[aFD]
  .refine OSS.wide ((OSS.mk' a7 a2 (by rw[hD,HD.out])).mid (a:=w.heap.size) (b:=w.heap.size+1) ?_ oL) oO oM oN
   repeat (first|exact Mid.refl _ _ _|refine Mid.stored ?_ _ oM oM)
  repeat (first|exact hm|refine oQ ?_ oM _)
theorem aFE(r:Int)(w:World) :
  Calls Tryz.prog 82 #[.int .i64 r] w fun e w'=>∃ A c,e=.returned (.tuple #[.agg #[.int .i64 (idM r).rank,.slice A (idM r).imgs.length c],.bool (idB r)]) /\
   OSS w' w w' 44 3 A c (idM r).imgs/\Mid 0 0 w w':=by
 by_cases hb:inB r 1 3=false
 .have hd:idM r=⟨0,[]⟩:=by
   unfold idM;rw[if_neg];intro h;simp[inB] at hb;omega
  have HD:=oH hd;clear hd;have HB:=oH hb;go_enter Tryz.func82,Tryz.ntmps82
  go_wp2_with fail;with_reducible refine(aAu _ _ _ _).mono ?_
  rintro e w1 ⟨rfl,rfl⟩;rw[HB.out];go_wp2_with fail;refine oW (v:=.tuple #[.agg #[(0:Int),.slice none 0 0],.bool false]) (by simp[results,Tryz.results82,go_sem]) rfl ⟨none,0,?_,?_,?_⟩
  .rw[HD.out,show idB r=false from HB.out]
   rfl
  .rw[HD.out]
   exact OSS.nil
  repeat (first|exact oE _ _|refine oQ ?_ oM _)
 .have aB:inB r 1 3=true:=by simpa using hb
  have hr:1<=r/\r<=3:=by simpa [inB] using aB
  obtain⟨n,rfl⟩:∃ n:Nat,r=(n:Int):=⟨r.toNat,oO⟩
  have hn:n<=3:=by omega
  have hd:idM n=⟨n,idW n⟩:=by
   unfold idM;rw[if_pos hr];simp
  have HD:=oH hd;have HB:=oH aB;clear hd hb aB hr;go_enter Tryz.func82,Tryz.ntmps82
  go_wp2_with fail;with_reducible refine(aAu _ _ _ _).mono ?_
  rintro e w1 ⟨rfl,rfl⟩;rw[HB.out];go_wp2_with fail;have a5:=(oJ (w.alloc (.cells #[(0:Int),.slice none 0 0] 76)) #[n,.slice none 0 0] 76)
  have aC:=(oJ w #[(0:Int),.slice none 0 0] 76).mid (oE _ (.cells #[n,.slice none 0 0] 76)) oZr;have aN:Mid 0 0 w ((w.alloc (.cells #[(0:Int),.slice none 0 0] 76)).alloc (.cells #[n,.slice none 0 0] 76)):=(oE _ _).trans (oE _ _);rw[World.size_alloc] at a5;go_loopw [5] (fun i wr=>∃ k:Nat,∃ rows:List Row,∃ A c,k<=n/\i=.int .i64 ((k:Int)+1)/\aAt rows=idW k /\
   Box wr (w.heap.size+1) [n,.slice A k c]/\Box wr w [(0:Int),.slice none 0 0] /\
   wr.ownsRow (w.heap.size+2) 44 1 (.slice A k c) k (aBi rows)/\OwnRows wr (w.heap.size+2) wr.heap.size 3 rows/\Mid 0 0 w wr/\w.heap.size+2<=wr.heap.size)
   (fun i _=>n+1 - (intOf i).toNat)
  case atStart=>exact⟨0,[],none,0,oZ,by simp,by simp[aAt,idW],a5,aC,⟨rfl,.inl ⟨rfl,rfl⟩⟩,OwnRows.nil,aN,by simp⟩
  obtain⟨k,rows,A,c,hk,rfl,aI,a8,a9,a7,a2,hm,aP⟩:=hrel;have aF:=oH aI;clear aI;have aR:=a8.cell 1 rfl;have aQ:=a8.cell 0 rfl;have aL:=a9.cell 0 rfl;have aM:=a9.cell 1 rfl;have fx:=a8.2.2;have fy:=a9.2.2;by_cases hlt:k<n
  .have aA:Mid 0 0 wr (wr.alloc (.cells #[.int .i64 ((k:Int)+1)] 3)):=oE _ _
   have a0:=a7.alloc (.cells #[.int .i64 ((k:Int)+1)] 3);have a4:=a2.mid aA oZl;have aE:=World.ownsRow_lit (e:=3) (size:=1) wr #[.int .i64 ((k:Int)+1)] 1 oN oD rfl;go_wp2_with (at_builtin;refine aAk rfl _ _ 24 rfl (w.heap.size+2) 44 (.slice none 0 0) 1 24 aDl aDi rfl oD _ _ _ rfl a0 1 [.slice (some ⟨wr,0,none⟩) 1 1] (by simp[go_sem]) rfl ?c1 ?c2 ?c3 (by simp;omega) ?next)
   case c1=>simp[Value.oneCell']
   case c2=>unfold maxLen;omega
   case c3=>omega
   case next=>
    intro v' w1 a1 aG _;have a6:=oF a0 aG;have aJ:=a6.size;simp only[World.size_alloc] at aJ a6;have a3:=(a8.mid aA oZr).mid a6;have aD:=(a9.mid aA oZr).mid a6;have aK:=a3.cell 1 rfl;have aS:=a3.2.2;obtain⟨A',c',rfl, -, -⟩:=aAc a1;go_wp2_with fail;go_roundw
    case rel=>
     have hp:=a4.push (r:=⟨some ⟨wr,0,none⟩,1,[(k:Int)+1]⟩) (base:=wr.heap.size) (hi':=wr.heap.size+1) aE oN aP oO oM
      (by intro g hg;simp[Row.v,Value.ownBlock] at hg;omega)
     have aO:=(hp.grown a0 oD aG).mid (Mid.setCell w1 (lo:=w.heap.size+1) (hi:=w.heap.size+2) (p:=⟨w.heap.size+1,1,none⟩) (.slice A' (k+1) c') oM oM) (Or.inl oN);have aH:=Mid.setCell w1 (lo:=w.heap.size+1) (hi:=w.heap.size+2) (p:=⟨w.heap.size+1,1,none⟩) (.slice A' (k+1) c') oM oM;refine⟨k+1,rows++[⟨some ⟨wr,0,none⟩,1,[(k:Int)+1]⟩],A',c',oO,by go_num,?_,a3.set 1 _ oM rfl,aD.mid aH,?_,aO.wide oN (by simpa using aJ) oM,?_,by simp;omega⟩
     .rw[aAv,aF.out,aLP]
      rfl
     .rw[aBg]
      exact aAb a1 aH (Or.inl oN)
     exact((hm.trans aA).transNew a6 oL).storeNew oM _
    simp[intOf];omega
  obtain rfl:k=n:=by omega
  go_wp2_with fail;have hD:aAt rows=idW k:=aF.out;refine oW (v:=.tuple #[.agg #[k,.slice A k c],.bool true]) (by simp[results,Tryz.results82,go_sem,aL,aM,fy]) rfl ⟨A,c,?_,?_,?_⟩
  .rw[HD.out,show idB k=true from HB.out]
   simp[aFD]
  .refine OSS.wide ((OSS.mk' a7 a2 (by rw[hD,HD.out])).mid (a:=w.heap.size) (b:=w.heap.size+1) ?_ oL) oO oM oN
   repeat (first|exact Mid.refl _ _ _|refine Mid.stored ?_ _ oM oM)
  repeat (first|exact hm|refine oQ ?_ oM _)
theorem OSS.row{w:World}{lo hi c:Nat}{A:OA}{xss:LL}(h:OSS w lo hi 44 3 A c xss){k:Nat}(hk:k<xss.length) :
  ∃ b a0 A' c' xs,A=some ⟨b,a0,none⟩/\lo<=b/\b<hi/\xss[k]?=some xs/\w.cell? ⟨b,a0+k,none⟩=some (.slice A' xs.length c')/\RV w lo hi A' (aAe xs)/\xs.length<=c':=by
 obtain⟨_,rows,rfl,h2,h3⟩:=h;have a1:k<rows.length:=by rw[aAD] at hk;exact hk
 obtain⟨b,a0,e,hb,a3,hc⟩:=h2.rv.2 (by intro h0;have:=congrArg List.length h0;rw[aCx] at this;simp at this;subst this;simp at a1);obtain⟨r,hr⟩:=aAy rows a1;have a2:=h3.1 r (oG hr);obtain⟨A1,c1,he,hn, -⟩:=aAc a2.2.1;injection he with _ _ hcc
 exact⟨b,a0,r.A,r.c,r.xs,e,hb,a3,by simp[aAt,hr],hc k _ (by simp[aBi,hr,Row.v]),a2.rv,oO⟩
def aBj(r:Int)(d:LL)(r':Int)(d':LL)(rr:Int)(res:LL)(b:Bool):Prop:=
 ((IsMor r d/\IsMor r' d'/\r=r'/\∀ l∈d',(aAl d l).length<=24)->rr=r/\res=d'.map (aAl d)/\b=true) /\
 (¬ (IsMor r d/\IsMor r' d'/\r=r'/\∀ l∈d',(aAl d l).length<=24)->rr=0/\res=[]/\b=false)
theorem aFu(r:Int)(d:LL)(r':Int)(d':LL)(_:(Lit.int .i64 r).wf=true)(_:OkSS d)(_:d.length+aAK d<=1048576)(_:(Lit.int .i64 r').wf=true)(_:OkSS d')(_:d'.length+aAK d'<=1048576):∃ rr res b,aBj r d r' d' rr res b:=by
 by_cases h:IsMor r d/\IsMor r' d'/\r=r'/\∀ l∈d',(aAl d l).length<=24
 .exact⟨r,d'.map (aAl d),true,fun _=>⟨rfl,rfl,rfl⟩,fun h'=>absurd h h'⟩
 exact⟨0,[],false,fun h'=>absurd h' h,fun _=>⟨rfl,rfl,rfl⟩⟩
theorem aKz{d:LL}{b:Nat}(h:∀ xs∈d,xs.length<=b):aAK d<=d.length * b:=by
 induction d with
|nil=>simp[aAK]
|cons x t ih=>
  have h1:=h x oM;have h2:=ih fun xs hx=>h xs (by simp[hx]);have h3:aAK (x::t)=x.length+aAK t:=by simp[aAK]
  rw[h3,List.length_cons,Nat.succ_mul];omega
theorem aFm{r:Int}{d:LL}{r':Int}{d':LL}{rr:Int}{res:LL}{b:Bool}(h:aBj r d r' d' rr res b)(_:(Lit.int .i64 r).wf=true)(_:OkSS d)(_:d.length+aAK d<=1048576)(_:(Lit.int .i64 r').wf=true)(_:OkSS d')(_:d'.length+aAK d'<=1048576):res.length+aAK res<=1048576:=by
 by_cases hg:IsMor r d/\IsMor r' d'/\r=r'/\∀ l∈d',(aAl d l).length<=24
 .rw[(h.1 hg).2.1]
  have h1:=aKz (d:=d'.map (aAl d)) (b:=24) (fun xs hx=>by obtain⟨l,hl,rfl⟩:=List.mem_map.1 hx;exact hg.2.2.2 l hl);have h2:=hg.2.1.2.2.1;have h3:=hg.2.1.2.1;rw[List.length_map] at h1 |-;omega
 rw[(h.2 hg).2.1];simp[aAK]
theorem aKM(A:OA)(d:LL)(c:Nat)(A':OA)(l:LI)(c':Nat)(w:World)(lo hi:Nat)(hr:RSS w lo hi A d)(a5:Rs w w A' (aAe l))(a0:∀ xs∈d,xs.length<=24)(a4:∀ xs∈d,OkI xs)(a1:OkI l)(a2:d.length<=1048576)(a3:l.length<=1048576) :
  Calls Tryz.prog 148 #[.slice A d.length c,.slice A' l.length c'] w fun e w'=>∃ A c,e=.returned (.slice A (aAl d l).length c)/\w'.ownsRow w.heap.size 3 1 (.slice A (aAl d l).length c) (aAl d l).length (aAe (aAl d l))/\Below w.heap.size w w':=
 aDy A d c A' l c' w lo hi hr a5 a0 a4 a1 a2 a3
theorem aFs(r:Int)(A:OA)(d:LL)(c:Nat)(r':Int)(A':OA)(d':LL)(c':Nat)(w:World)(lo hi:Nat)(h:OSS w lo hi 44 3 A c d)(_b:(Lit.int .i64 r).wf=true)(bf:OkSS d)(hl:d.length+aAK d<=1048576)(lo' hi':Nat)(h':OSS w lo' hi' 44 3 A' c' d')(cJ:(Lit.int .i64 r').wf=true)(b0:OkSS d')(bK:d'.length+aAK d'<=1048576)(rr:Int)(b9:LL)(b:Bool)(b1:aBj r d r' d' rr b9 b) :
  Calls Tryz.prog 72 #[.agg #[.int .i64 r,.slice A d.length c],.agg #[.int .i64 r',.slice A' d'.length c']] w fun e w'=>∃ A2 c2,e=.returned (.tuple #[.agg #[.int .i64 rr,.slice A2 b9.length c2],.bool b])/\OSS w' w.heap.size w'.heap.size 44 3 A2 c2 b9/\Mid 0 0 w w':=by
 have cL:=h.size;have bx:=h'.size;have ao:=oH bf;have aJ:=oH b0;have a4:=oH b1;clear bf b0 b1;have aT:Mid 0 0 w ((((w.alloc (.cells #[r,.slice A d.length c] 76)).alloc (.cells #[r',.slice A' d'.length c'] 76)).alloc (.cells #[(0:Int),.slice none 0 0] 76)).alloc (.cells #[r,.slice none 0 0] 76)):=(((oE _ _).trans (oE _ _)).trans (oE _ _)).trans (oE _ _);have a9:Box ((((w.alloc (.cells #[r,.slice A d.length c] 76)).alloc (.cells #[r',.slice A' d'.length c'] 76)).alloc (.cells #[(0:Int),.slice none 0 0] 76)).alloc (.cells #[r,.slice none 0 0] 76)) w [r,.slice A d.length c]:=(oJ w #[r,.slice A d.length c] 76).mid (((oE _ _).trans (oE _ _)).trans (oE _ _)) oZr;have a6:Box ((((w.alloc (.cells #[r,.slice A d.length c] 76)).alloc (.cells #[r',.slice A' d'.length c'] 76)).alloc (.cells #[(0:Int),.slice none 0 0] 76)).alloc (.cells #[r,.slice none 0 0] 76)) (w.heap.size+1) [r',.slice A' d'.length c']:=by
  have h1:=Box.mid (w':=((((w.alloc (.cells #[r,.slice A d.length c] 76)).alloc (.cells #[r',.slice A' d'.length c'] 76)).alloc (.cells #[(0:Int),.slice none 0 0] 76)).alloc (.cells #[r,.slice none 0 0] 76))) (oJ (w.alloc (.cells #[r,.slice A d.length c] 76)) #[r',.slice A' d'.length c'] 76) ((oE _ _).trans (oE _ _)) oZr
  simpa only[World.size_alloc] using h1
 have aC:Box ((((w.alloc (.cells #[r,.slice A d.length c] 76)).alloc (.cells #[r',.slice A' d'.length c'] 76)).alloc (.cells #[(0:Int),.slice none 0 0] 76)).alloc (.cells #[r,.slice none 0 0] 76)) (w.heap.size+1+1) [(0:Int),.slice none 0 0]:=by
  have h1:=(oJ ((w.alloc (.cells #[r,.slice A d.length c] 76)).alloc (.cells #[r',.slice A' d'.length c'] 76)) #[(0:Int),.slice none 0 0] 76).mid (oE _ (.cells #[r,.slice none 0 0] 76)) oZr
  simpa only[World.size_alloc] using h1
 have aZ:Box ((((w.alloc (.cells #[r,.slice A d.length c] 76)).alloc (.cells #[r',.slice A' d'.length c'] 76)).alloc (.cells #[(0:Int),.slice none 0 0] 76)).alloc (.cells #[r,.slice none 0 0] 76)) (w.heap.size+1+1+1) [r,.slice none 0 0]:=by
  have h1:=oJ (((w.alloc (.cells #[r,.slice A d.length c] 76)).alloc (.cells #[r',.slice A' d'.length c'] 76)).alloc (.cells #[(0:Int),.slice none 0 0] 76)) #[r,.slice none 0 0] 76
  simpa only[World.size_alloc] using h1
 have b4:w.heap.size+4<=((((w.alloc (.cells #[r,.slice A d.length c] 76)).alloc (.cells #[r',.slice A' d'.length c'] 76)).alloc (.cells #[(0:Int),.slice none 0 0] 76)).alloc (.cells #[r,.slice none 0 0] 76)).heap.size:=by simp
 obtain⟨wb,bS⟩:∃ wb,wb=((((w.alloc (.cells #[.int .i64 r,.slice A d.length c] 76)).alloc (.cells #[.int .i64 r',.slice A' d'.length c'] 76)).alloc (.cells #[.int .i64 0,.slice none 0 0] 76)).alloc (.cells #[.int .i64 r,.slice none 0 0] 76)):=⟨_,rfl⟩
 rw[<- bS] at aT a9 a6 aC aZ b4;have am:=h.mid aT oZl;have aS:=h'.mid aT oZl;have bB:=oH bS;clear h h' bS;have bU:=a9.cell 0 rfl;have b5:=a9.cell 1 rfl;have bV:=a6.cell 0 rfl;have b7:=a6.cell 1 rfl;by_cases v1:¬ IsMor r d
 .obtain⟨e1,e2,e3⟩:=a4.out.2 (fun hh=>v1 hh.1)
  subst e1 e2 e3;have aW:=oH v1;clear v1 a4;go_enter Tryz.func72,Tryz.ntmps72
  go_wp2_with fail;rw[<- bB.out];with_reducible refine(aAq r A d c _ _ _ am.rss ao.out hl false (iff_of_false Bool.false_ne_true aW.out)).mono ?_
  rintro e w1 ⟨rfl,a1⟩;have a2:=aC.mid a1 oZr;have hm:=aT.trans a1;have aH:=a2.cell 0 rfl;have aI:=a2.cell 1 rfl;have fz:=a2.2.2;go_wp2_with fail;refine oW (v:=.tuple #[.agg #[(0:Int),.slice none 0 0],.bool false]) (by simp[results,Tryz.results72,go_sem,aH,aI,fz]) rfl ⟨none,0,rfl,OSS.nil,?_⟩;repeat (first|exact hm|refine oQ ?_ (by simp <;> omega) _)
 .have bp:IsMor r d:=Classical.not_not.1 v1
  have aW:=oH bp;clear v1 bp;by_cases v2:¬ IsMor r' d'
  .obtain⟨e1,e2,e3⟩:=a4.out.2 (fun hh=>v2 hh.2.1)
   subst e1 e2 e3;have aK:=oH v2;clear v2 a4;go_enter Tryz.func72,Tryz.ntmps72
   go_wp2_with fail;rw[<- bB.out];with_reducible refine(aAq r A d c _ _ _ am.rss ao.out hl true (oX rfl aW.out)).mono ?_
   rintro e w1 ⟨rfl,a1⟩;have a0:=a6.mid a1 oZr;have a2:=aC.mid a1 oZr;have a7:=aS.mid a1 oZl;have aj:=a0.cell 0 rfl;have ak:=a0.cell 1 rfl;go_wp2_with fail;with_reducible refine(aAq r' A' d' c' _ _ _ a7.rss aJ.out bK false (iff_of_false Bool.false_ne_true aK.out)).mono ?_
   rintro e w2 ⟨rfl,a5⟩;have a3:=a2.mid a5 oZr;have hm:=(aT.trans a1).trans a5;have aH:=a3.cell 0 rfl;have aI:=a3.cell 1 rfl;have fz:=a3.2.2;go_wp2_with fail;refine oW (v:=.tuple #[.agg #[(0:Int),.slice none 0 0],.bool false]) (by simp[results,Tryz.results72,go_sem,aH,aI,fz]) rfl ⟨none,0,rfl,OSS.nil,?_⟩;repeat (first|exact hm|refine oQ ?_ (by simp <;> omega) _)
  .have bq:IsMor r' d':=Classical.not_not.1 v2
   have aK:=oH bq;clear v2 bq;by_cases hrr:(r != r')=true
   .have bc:¬ r=r':=by simpa using hrr
    obtain⟨e1,e2,e3⟩:=a4.out.2 (fun hh=>bc hh.2.2.1);subst e1 e2 e3;clear bc a4;go_enter Tryz.func72,Tryz.ntmps72
    go_wp2_with fail;rw[<- bB.out];with_reducible refine(aAq r A d c _ _ _ am.rss ao.out hl true (oX rfl aW.out)).mono ?_
    rintro e w1 ⟨rfl,a1⟩;have aL:=a9.mid a1 oZr;have a0:=a6.mid a1 oZr;have a2:=aC.mid a1 oZr;have a7:=aS.mid a1 oZl;have aj:=a0.cell 0 rfl;have ak:=a0.cell 1 rfl;go_wp2_with fail;with_reducible refine(aAq r' A' d' c' _ _ _ a7.rss aJ.out bK true (oX rfl aK.out)).mono ?_
    rintro e w2 ⟨rfl,a5⟩;have aA:=aL.mid a5 oZr;have aB:=a0.mid a5 oZr;have a3:=a2.mid a5 oZr;have hm:=(aT.trans a1).trans a5;have bl:=aA.cell 0 rfl;have bm:=aB.cell 0 rfl;have aH:=a3.cell 0 rfl;have aI:=a3.cell 1 rfl;have fz:=a3.2.2;go_wp2_with fail;refine oW (v:=.tuple #[.agg #[(0:Int),.slice none 0 0],.bool false]) (by simp[results,Tryz.results72,go_sem,aH,aI,fz]) rfl ⟨none,0,rfl,OSS.nil,?_⟩;repeat (first|exact hm|refine oQ ?_ (by simp <;> omega) _)
   .have bO:(r != r')=false:=by simpa using hrr
    have bZ:r=r':=by simpa using bO
    have bX:∀ xs∈d,xs.length<=24:=fun xs hx=>(aW.out.2.2.2 xs hx).2.2.1;have br:=oH bX;have bs:=oH bZ;have cN:r'<=(d'.length:Int):=by have:=aK.out.2.2.1;omega
    have cO:(d'.length:Int)<=r':=by have:=aK.out.2.2.1;omega
    have cP:d'.length<=3:=by have:=aK.out.2.1;omega
    clear hrr bZ bX;go_enter Tryz.func72,Tryz.ntmps72
    go_wp2_with fail;rw[<- bB.out];with_reducible refine(aAq r A d c _ _ _ am.rss ao.out hl true (oX rfl aW.out)).mono ?_
    rintro e w1 ⟨rfl,a1⟩;have aL:=a9.mid a1 oZr;have a0:=a6.mid a1 oZr;have a2:=aC.mid a1 oZr;have aq:=aZ.mid a1 oZr;have bd:=am.mid a1 oZl;have a7:=aS.mid a1 oZl;have aj:=a0.cell 0 rfl;have ak:=a0.cell 1 rfl;go_wp2_with fail;with_reducible refine(aAq r' A' d' c' _ _ _ a7.rss aJ.out bK true (oX rfl aK.out)).mono ?_
    rintro e w2 ⟨rfl,a5⟩;have aA:=aL.mid a5 oZr;have aB:=a0.mid a5 oZr;have a3:=a2.mid a5 oZr;have ar:=aq.mid a5 oZr;have be:=bd.mid a5 oZl;have az:=a7.mid a5 oZl;have ax:=(aT.trans a1).trans a5;have bQ:w.heap.size+4<=w2.heap.size:=by have h1:=a1.size;have h2:=a5.size;omega
    have bl:=aA.cell 0 rfl;have cG:=aA.cell 1 rfl;have bm:=aB.cell 0 rfl;have cH:=aB.cell 1 rfl;clear bU b5 bV b7 aj ak a9 a6 aC am aS aL a0 a2 bd a7 aT a1 a5 b4 aZ aq;obtain⟨W0,bY⟩:∃ W0,W0=w2:=⟨_,rfl⟩
    go_wp2_with fail;have aX:=aA;have aY:=aB;have aP:=a3;have aN:=ar;have bM:=be;have af:=az;have ad:=ax;rw[<- bY] at aX aY aP aN bM af ad bQ |-;clear aA aB a3 ar be az ax bl cG bm cH bY;have bz:w.heap.size+1+1<W0.heap.size/\w.heap.size+1+1+1<W0.heap.size/\w.heap.size+1+1<w.heap.size+1+1+1:=⟨aP.1,aN.1,oO⟩
    obtain⟨c0,c1,c6⟩:=bz;go_loopw [7,8] (fun i _ wr=>∃ k:Nat,∃ rows:List Row,∃ A2 c2,k<=d'.length/\i=.int .i64 k/\aAt rows=(d'.take k).map (aAl d) /\
     (Box wr w [r,.slice A d.length c]/\Box wr (w.heap.size+1) [r',.slice A' d'.length c']/\Box wr (w.heap.size+1+1) [(0:Int),.slice none 0 0]/\Box wr (w.heap.size+1+1+1) [r,.slice A2 k c2]) /\
     (wr.ownsRow W0 44 1 (.slice A2 k c2) k (aBi rows)/\OwnRows wr W0 wr 3 rows) /\
     (OSS wr lo hi 44 3 A c d/\OSS wr lo' hi' 44 3 A' c' d')/\Mid 0 0 w wr/\W0.heap.size<=wr.heap.size/\∀ xs∈d'.take k,(aAl d xs).length<=24)
     (fun i _ _=>d'.length - (intOf i).toNat)
    case atStart=>exact⟨0,[],none,0,oZ,rfl,by simp[aAt],⟨aX,aY,aP,aN⟩,⟨⟨rfl,.inl ⟨rfl,rfl⟩⟩,OwnRows.nil⟩,⟨bM,af⟩,ad,oN,by simp⟩
    clear aX aY aP aN bM af ad;obtain⟨k,rows,A2,c2,hk,rfl,bh,⟨bC,bD,au,ap⟩,⟨ag,aF⟩,⟨ho,bL⟩,hm,cE,a8⟩:=hrel;have bW:=oH bh;have an:=oH a8;clear bh a8;have bU:=bC.cell 0 rfl;have b5:=bC.cell 1 rfl;have bV:=bD.cell 0 rfl;have b7:=bD.cell 1 rfl;have aH:=au.cell 0 rfl;have aI:=au.cell 1 rfl;have bn:=ap.cell 0 rfl;have bo:=ap.cell 1 rfl;have fz:=au.2.2;have fx:=ap.2.2;by_cases hlt:k<d'.length
    .obtain⟨b3,aD,A3,c3,xs,rfl, -,bu,bT,bJ,bj,bv⟩:=bL.row hlt
     have aR:=oG bT;have cM:xs.length<=24:=(aK.out.2.2.2 xs aR).2.2.1;have bg:=aJ.out.2 xs aR;obtain⟨ex,ba⟩:∃ ex,ex=aAl d xs:=⟨_,rfl⟩
     have cF:=hm.size;have bi:=bj.rsS;have HX:=oH bT;have HM:=oH aR;have bt:=oH bg;have bA:=oH ba;have c7:(k:Int)<(d'.length:Int):=by omega
     clear bT aR bg ba;go_wp2_with fail;have cA:=ho.mid (Mid.drew1 wr) oZl;have bP:Rs wr.drew wr.drew.heap.size A3 (aAe xs):=bi;have HC:=oH (aKM A d c A3 xs c3 wr.drew lo hi cA.rss bP br.out ao.out.2 bt.out oO oO);rw[<- bA.out] at HC;have ai:wr.drew.cell? ⟨w,1,none⟩=some (.slice A d.length c):=((Mid.drew1 wr).bel.cell (by simp;omega)).trans b5;have al:wr.drew.cell? ⟨w.heap.size+1,1,none⟩=some (.slice (some ⟨b3,aD,none⟩) d'.length c'):=((Mid.drew1 wr).bel.cell (by simp;omega)).trans b7;have ab:wr.drew.cell? ⟨b3,aD+k,none⟩=some (.slice A3 xs.length c3):=((Mid.drew1 wr).bel.cell (by simp;omega)).trans bJ;have bw:wr.drew.heap.size=wr.heap.size:=rfl;go_region_held3 (fun w'=>w'.cell? ⟨w,1,none⟩=some (.slice A d.length c)/\w'.cell? ⟨w.heap.size+1,1,none⟩=some (.slice (some ⟨b3,aD,none⟩) d'.length c')/\w'.cell? ⟨b3,aD+k,none⟩=some (.slice A3 xs.length c3)) (first|exact⟨b5,b7,bJ⟩|exact⟨ai,al,ab⟩|exact⟨b6,b8,av⟩) (first|(go_at_call 148;with_reducible refine HC.out.mono ?_;rintro e w4 ⟨A4,c4,rfl,b2,aM⟩;have b6:w4.cell? ⟨w,1,none⟩=some (.slice A d.length c):=(aM.cell (by simp;omega)).trans ai;have b8:w4.cell? ⟨w.heap.size+1,1,none⟩=some (.slice (some ⟨b3,aD,none⟩) d'.length c'):=(aM.cell (by simp;omega)).trans al;have av:w4.cell? ⟨b3,aD+k,none⟩=some (.slice A3 xs.length c3):=(aM.cell (by simp;omega)).trans ab))
     have aG:Mid 0 0 wr w4:=(Mid.drew1 wr).trans (Mid.of_below aM);clear b6 b8 av ai al ab;have cC:=aG.size;have bE:=bC.mid aG oZr;have bG:=bD.mid aG oZr;have aQ:=au.mid aG oZr;have aO:=ap.mid aG oZr;have aE:=aAb ag aG oZl;have ah:=aF.mid aG oZl;have c9:=ho.mid aG oZl;have bN:=bL.mid aG oZl;have ay:=hm.trans aG;clear bU b5 bV b7 aH aI bn bo fz fx bC bD au ap ag aF ho bL bJ bj bi;have aH:=aQ.cell 0 rfl;have aI:=aQ.cell 1 rfl;have bn:=aO.cell 0 rfl;have bo:=aO.cell 1 rfl;have fz:=aQ.2.2;have fx:=aO.2.2;by_cases hbig:24<ex.length
     .obtain⟨e1,e2,e3⟩:=a4.out.2 (fun hh=>by have:=hh.2.2.2 xs HM.out;rw[<- bA.out] at this;omega)
      subst e1 e2 e3;go_wp2_with fail;refine oW (v:=.tuple #[.agg #[(0:Int),.slice none 0 0],.bool false]) (by simp[results,Tryz.results72,go_sem,aH,aI,fz]) rfl ⟨none,0,rfl,OSS.nil,?_⟩;repeat (first|exact ay|refine oQ ?_ (by simp <;> omega) _)
     .have bR:W0.heap.size<=w4.heap.size:=by omega
      go_wp2_with (at_builtin;refine aAk rfl _ _ 24 rfl W0 44 (.slice none 0 0) 1 24 aDl aDi rfl oD _ _ _ rfl aE 1 [.slice A4 ex.length c4] rfl rfl (by simp[Value.oneCell']) (by unfold maxLen;omega) oO bR ?next)
      case next=>
       intro v' w5 aV bb _;have aU:=oF aE bb;have cD:=aU.size;have bF:=bE.mid aU;have bH:=bG.mid aU;have bI:=aQ.mid aU;have aa:=aO.mid aU;have cI:=aa.cell 1 rfl;have cK:=aa.2.2;obtain⟨A5,c5,rfl, -, -⟩:=aAc aV;go_wp2_with fail;go_roundw
       case rel=>
        have hp:=ah.push (r:=⟨A4,c4,ex⟩) (base:=wr.heap.size) (hi':=w4.heap.size) b2 oN cE cC oN (fun g hg=>(b2.lt g hg).2);have cB:=(hp.grown aE oD bb).mid (Mid.setCell w5 (lo:=w.heap.size+1+1+1) (hi:=w.heap.size+1+1+1+1) (p:=⟨w.heap.size+1+1+1,1,none⟩) (.slice A5 (k+1) c5) oM oM) oL;have ae:=Mid.setCell w5 (lo:=w.heap.size+1+1+1) (hi:=w.heap.size+1+1+1+1) (p:=⟨w.heap.size+1+1+1,1,none⟩) (.slice A5 (k+1) c5) oM oM;have c8:=(ay.transNew aU oL).transNew ae oL;refine⟨k+1,rows++[⟨A4,c4,ex⟩],A5,c5,oO,by go_num,?_,⟨bF.mid ae,bH.mid ae,bI.mid ae,aa.set 1 _ oM rfl⟩,⟨?_,cB.wide oN (by simpa using cD) oM⟩,
         ⟨(c9.mid aU).mid ae,(bN.mid aU).mid ae⟩,c8,by simp;omega,?_⟩
        .rw[aAv,bW.out,aAw d' HX.out,List.map_append,bA.out]
         rfl
        .rw[aBg]
         exact aAb aV ae oL
        intro ys bk;rw[aAw d' HX.out] at bk;rcases List.mem_append.1 bk with h1|h1
        .exact an.out ys h1
        simp at h1;subst h1;rw[<- bA.out];omega
       simp[intOf];omega
    obtain rfl:k=d'.length:=by omega
    have a8:=an.out;rw[List.take_length] at a8;obtain⟨e1,e2,e3⟩:=a4.out.1 ⟨aW.out,aK.out,bs.out,a8⟩;have hD:aAt rows=b9:=by rw[bW.out,List.take_length,e2]
    have aw:b9.length=d'.length:=by rw[e2,List.length_map]
    have HD:=oH hD;have HL:=oH aw;subst e1 e3;clear e2 a8 hD aw;go_wp2_with fail;refine oW (v:=.tuple #[.agg #[rr,.slice A2 d'.length c2],.bool true]) (by simp[results,Tryz.results72,go_sem,aH,aI,fz]) rfl ⟨A2,c2,by rw[HL.out],?_,?_⟩
    .refine OSS.wide ((OSS.mk' ag aF HD.out).mid (a:=w.heap.size+1+1) (b:=w.heap.size+1+1+1) ?_ oL) oO oM oN
     repeat (first|exact Mid.refl _ _ _|refine Mid.stored ?_ _ oM oM)
    repeat (first|exact hm|refine oQ ?_ (by simp <;> omega) _)
theorem aFp(r:Int)(A:OA)(d:LL)(c:Nat)(r':Int)(A':OA)(d':LL)(c':Nat)(w:World)(lo hi:Nat)(h:OSS w lo hi 44 3 A c d)(_b:(Lit.int .i64 r).wf=true)(bU:OkSS d)(hl:d.length+aAK d<=1048576)(lo' hi':Nat)(h':OSS w lo' hi' 44 3 A' c' d')(cC:(Lit.int .i64 r').wf=true)(aq:OkSS d')(b9:d'.length+aAK d'<=1048576)(rr:Int)(aw:LL)(b:Bool)(ar:aBj r d r' d' rr aw b) :
  Calls Tryz.prog 71 #[.agg #[.int .i64 r,.slice A d.length c],.agg #[.int .i64 r',.slice A' d'.length c']] w fun e w'=>∃ A2 c2,e=.returned (.tuple #[.agg #[.int .i64 rr,.slice A2 aw.length c2],.bool b])/\OSS w' w.heap.size w'.heap.size 44 3 A2 c2 aw/\Mid 0 0 w w':=by
 have cE:=h.size;have bl:=h'.size;have aj:=oH bU;have aK:=oH aq;have a4:=oH ar;clear bU aq ar;have aT:Mid 0 0 w (((w.alloc (.cells #[r,.slice A d.length c] 76)).alloc (.cells #[r',.slice A' d'.length c'] 76)).alloc (.cells #[(0:Int),.slice none 0 0] 76)):=((oE _ _).trans (oE _ _)).trans (oE _ _);have a9:Box (((w.alloc (.cells #[r,.slice A d.length c] 76)).alloc (.cells #[r',.slice A' d'.length c'] 76)).alloc (.cells #[(0:Int),.slice none 0 0] 76)) w [r,.slice A d.length c]:=(oJ w #[r,.slice A d.length c] 76).mid ((oE _ _).trans (oE _ _)) oZr;have a6:Box (((w.alloc (.cells #[r,.slice A d.length c] 76)).alloc (.cells #[r',.slice A' d'.length c'] 76)).alloc (.cells #[(0:Int),.slice none 0 0] 76)) (w.heap.size+1) [r',.slice A' d'.length c']:=by
  have h1:=Box.mid (w':=(((w.alloc (.cells #[r,.slice A d.length c] 76)).alloc (.cells #[r',.slice A' d'.length c'] 76)).alloc (.cells #[(0:Int),.slice none 0 0] 76))) (oJ (w.alloc (.cells #[r,.slice A d.length c] 76)) #[r',.slice A' d'.length c'] 76) (oE _ _) oZr
  simpa only[World.size_alloc] using h1
 have aC:Box (((w.alloc (.cells #[r,.slice A d.length c] 76)).alloc (.cells #[r',.slice A' d'.length c'] 76)).alloc (.cells #[(0:Int),.slice none 0 0] 76)) (w.heap.size+1+1) [(0:Int),.slice none 0 0]:=by
  have h1:=oJ ((w.alloc (.cells #[r,.slice A d.length c] 76)).alloc (.cells #[r',.slice A' d'.length c'] 76)) #[(0:Int),.slice none 0 0] 76
  simpa only[World.size_alloc] using h1
 have av:w.heap.size+3<=(((w.alloc (.cells #[r,.slice A d.length c] 76)).alloc (.cells #[r',.slice A' d'.length c'] 76)).alloc (.cells #[(0:Int),.slice none 0 0] 76)).heap.size:=by simp
 obtain⟨wb,bF⟩:∃ wb,wb=(((w.alloc (.cells #[.int .i64 r,.slice A d.length c] 76)).alloc (.cells #[.int .i64 r',.slice A' d'.length c'] 76)).alloc (.cells #[.int .i64 0,.slice none 0 0] 76)):=⟨_,rfl⟩
 rw[<- bF] at aT a9 a6 aC av;have ah:=h.mid aT oZl;have aS:=h'.mid aT oZl;have ay:=oH bF;clear h h' bF;have bH:=a9.cell 0 rfl;have bI:=a9.cell 1 rfl;have bJ:=a6.cell 0 rfl;have bK:=a6.cell 1 rfl;by_cases v1:¬ IsMor r d
 .obtain⟨e1,e2,e3⟩:=a4.out.2 (fun hh=>v1 hh.1)
  subst e1 e2 e3;have aW:=oH v1;clear v1 a4;go_enter Tryz.func71,Tryz.ntmps71
  go_wp2_with fail;rw[<- ay.out];with_reducible refine(aAs r A d c _ _ _ ah.rss aj.out hl false (iff_of_false Bool.false_ne_true aW.out)).mono ?_
  rintro e w1 ⟨rfl,a1⟩;have a2:=aC.mid a1 oZr;have hm:=aT.trans a1;have aI:=a2.cell 0 rfl;have aJ:=a2.cell 1 rfl;have fz:=a2.2.2;go_wp2_with fail;refine oW (v:=.tuple #[.agg #[(0:Int),.slice none 0 0],.bool false]) (by simp[results,Tryz.results71,go_sem,aI,aJ,fz]) rfl ⟨none,0,rfl,OSS.nil,?_⟩;repeat (first|exact hm|refine oQ ?_ (by simp <;> omega) _)
 .have be:IsMor r d:=Classical.not_not.1 v1
  have aW:=oH be;clear v1 be;by_cases v2:¬ IsMor r' d'
  .obtain⟨e1,e2,e3⟩:=a4.out.2 (fun hh=>v2 hh.2.1)
   subst e1 e2 e3;have aL:=oH v2;clear v2 a4;go_enter Tryz.func71,Tryz.ntmps71
   go_wp2_with fail;rw[<- ay.out];with_reducible refine(aAs r A d c _ _ _ ah.rss aj.out hl true (oX rfl aW.out)).mono ?_
   rintro e w1 ⟨rfl,a1⟩;have a0:=a6.mid a1 oZr;have a2:=aC.mid a1 oZr;have a7:=aS.mid a1 oZl;have af:=a0.cell 0 rfl;have ag:=a0.cell 1 rfl;go_wp2_with fail;with_reducible refine(aAs r' A' d' c' _ _ _ a7.rss aK.out b9 false (iff_of_false Bool.false_ne_true aL.out)).mono ?_
   rintro e w2 ⟨rfl,a5⟩;have a3:=a2.mid a5 oZr;have hm:=(aT.trans a1).trans a5;have aI:=a3.cell 0 rfl;have aJ:=a3.cell 1 rfl;have fz:=a3.2.2;go_wp2_with fail;refine oW (v:=.tuple #[.agg #[(0:Int),.slice none 0 0],.bool false]) (by simp[results,Tryz.results71,go_sem,aI,aJ,fz]) rfl ⟨none,0,rfl,OSS.nil,?_⟩;repeat (first|exact hm|refine oQ ?_ (by simp <;> omega) _)
  .have bf:IsMor r' d':=Classical.not_not.1 v2
   have aL:=oH bf;clear v2 bf;by_cases hrr:(r != r')=true
   .have bR:¬ r=r':=by simpa using hrr
    obtain⟨e1,e2,e3⟩:=a4.out.2 (fun hh=>bR hh.2.2.1);subst e1 e2 e3;clear bR a4;go_enter Tryz.func71,Tryz.ntmps71
    go_wp2_with fail;rw[<- ay.out];with_reducible refine(aAs r A d c _ _ _ ah.rss aj.out hl true (oX rfl aW.out)).mono ?_
    rintro e w1 ⟨rfl,a1⟩;have aM:=a9.mid a1 oZr;have a0:=a6.mid a1 oZr;have a2:=aC.mid a1 oZr;have a7:=aS.mid a1 oZl;have af:=a0.cell 0 rfl;have ag:=a0.cell 1 rfl;go_wp2_with fail;with_reducible refine(aAs r' A' d' c' _ _ _ a7.rss aK.out b9 true (oX rfl aL.out)).mono ?_
    rintro e w2 ⟨rfl,a5⟩;have aA:=aM.mid a5 oZr;have aB:=a0.mid a5 oZr;have a3:=a2.mid a5 oZr;have hm:=(aT.trans a1).trans a5;have ba:=aA.cell 0 rfl;have bb:=aB.cell 0 rfl;have aI:=a3.cell 0 rfl;have aJ:=a3.cell 1 rfl;have fz:=a3.2.2;go_wp2_with fail;refine oW (v:=.tuple #[.agg #[(0:Int),.slice none 0 0],.bool false]) (by simp[results,Tryz.results71,go_sem,aI,aJ,fz]) rfl ⟨none,0,rfl,OSS.nil,?_⟩;repeat (first|exact hm|refine oQ ?_ (by simp <;> omega) _)
   .have bD:(r != r')=false:=by simpa using hrr
    have bO:r=r':=by simpa using bD
    have bM:∀ xs∈d,xs.length<=24:=fun xs hx=>(aW.out.2.2.2 xs hx).2.2.1;have bg:=oH bM;have bh:=oH bO;have cG:r'<=(d'.length:Int):=by have:=aL.out.2.2.1;omega
    have cH:(d'.length:Int)<=r':=by have:=aL.out.2.2.1;omega
    have cI:d'.length<=3:=by have:=aL.out.2.1;omega
    clear hrr bO bM;go_enter Tryz.func71,Tryz.ntmps71
    go_wp2_with fail;rw[<- ay.out];with_reducible refine(aAs r A d c _ _ _ ah.rss aj.out hl true (oX rfl aW.out)).mono ?_
    rintro e w1 ⟨rfl,a1⟩;have aM:=a9.mid a1 oZr;have a0:=a6.mid a1 oZr;have a2:=aC.mid a1 oZr;have bS:=ah.mid a1 oZl;have a7:=aS.mid a1 oZl;have af:=a0.cell 0 rfl;have ag:=a0.cell 1 rfl;go_wp2_with fail;with_reducible refine(aAs r' A' d' c' _ _ _ a7.rss aK.out b9 true (oX rfl aL.out)).mono ?_
    rintro e w2 ⟨rfl,a5⟩;have aA:=aM.mid a5 oZr;have aB:=a0.mid a5 oZr;have a3:=a2.mid a5 oZr;have bT:=bS.mid a5 oZl;have ap:=a7.mid a5 oZl;have an:=(aT.trans a1).trans a5;have bx:w.heap.size+3<=w2.heap.size:=by have h1:=a1.size;have h2:=a5.size;omega
    have ba:=aA.cell 0 rfl;have c0:=aA.cell 1 rfl;have bb:=aB.cell 0 rfl;have c7:=aB.cell 1 rfl;clear bH bI bJ bK af ag a9 a6 aC ah aS aM a0 a2 bS a7 aT a1 a5 av;have aa:Mid 0 0 w2 (w2.alloc (.cells #[r,.slice none 0 0] 76)):=oE _ _;have aD:=aA.mid aa oZr;have aE:=aB.mid aa oZr;have aP:=a3.mid aa oZr;have aN:=oJ w2 #[r,.slice none 0 0] 76;have bB:=bT.mid aa oZl;have ab:=ap.mid aa oZl;have aY:=an.trans aa;have c1:=aD.cell 0 rfl;have c6:=aD.cell 1 rfl;have c8:=aE.cell 0 rfl;have c9:=aE.cell 1 rfl;go_wp2_with fail;obtain⟨W0,bN⟩:∃ W0,W0=w2.alloc (.cells #[.int .i64 r,.slice none 0 0] 76):=⟨_,rfl⟩
    rw[<- bN] at aD aE aP aN bB ab aY |-;clear aA aB a3 bT ap an ba c0 bb c7 c1 c6 c8 c9 bN aa;have bm:w.heap.size+1+1<W0.heap.size/\w2.heap.size<W0.heap.size/\w.heap.size+1+1<w2.heap.size:=⟨aP.1,aN.1,oO⟩
    obtain⟨bn,bo,bp⟩:=bm;go_loopw [8,9,32] (fun _ _ i wr=>∃ k:Nat,∃ rows:List Row,∃ A2 c2,k<=d'.length/\i=.int .i64 k/\aAt rows=(d'.take k).map (aAl d) /\
     (Box wr w [r,.slice A d.length c]/\Box wr (w.heap.size+1) [r',.slice A' d'.length c']/\Box wr (w.heap.size+1+1) [(0:Int),.slice none 0 0]/\Box wr (w2.heap.size) [r,.slice A2 k c2]) /\
     (wr.ownsRow W0 44 1 (.slice A2 k c2) k (aBi rows)/\OwnRows wr W0 wr 3 rows) /\
     (OSS wr lo hi 44 3 A c d/\OSS wr lo' hi' 44 3 A' c' d')/\Mid 0 0 w wr/\W0.heap.size<=wr.heap.size/\∀ xs∈d'.take k,(aAl d xs).length<=24)
     (fun _ _ i _=>d'.length - (intOf i).toNat)
    case atStart=>exact⟨0,[],none,0,oZ,rfl,by simp[aAt],⟨aD,aE,aP,aN⟩,⟨⟨rfl,.inl ⟨rfl,rfl⟩⟩,OwnRows.nil⟩,⟨bB,ab⟩,aY,oN,by simp⟩
    clear aD aE aP aN bB ab aY;obtain⟨k,rows,A2,c2,hk,rfl,bW,⟨az,b0,al,ak⟩,⟨ad,aG⟩,⟨ho,bA⟩,hm,bw,a8⟩:=hrel;have bL:=oH bW;have ai:=oH a8;clear bW a8;have bH:=az.cell 0 rfl;have bI:=az.cell 1 rfl;have bJ:=b0.cell 0 rfl;have bK:=b0.cell 1 rfl;have aI:=al.cell 0 rfl;have aJ:=al.cell 1 rfl;have bc:=ak.cell 0 rfl;have bd:=ak.cell 1 rfl;have fz:=al.2.2;have fx:=ak.2.2;by_cases hlt:k<d'.length
    .obtain⟨b3,cB,A3,c3,xs,rfl, -,bj,bG,bk,bY,b8⟩:=bA.row hlt
     have aR:=oG bG;have cF:xs.length<=24:=(aL.out.2.2.2 xs aR).2.2.1;have bV:=aK.out.2 xs aR;obtain⟨ex,bP⟩:∃ ex,ex=aAl d xs:=⟨_,rfl⟩
     have bz:=hm.size;have bX:=bY.rsS;have HX:=oH bG;have HM:=oH aR;have bi:=oH bV;have ax:=oH bP;have bq:(k:Int)<(d'.length:Int):=by omega
     clear bG aR bV bP;go_wp2_with fail;have HC:=oH (aDt A d c A3 xs c3 wr lo hi ho.rss bX b8 bg.out aj.out.2 bi.out oO oO);rw[<- ax.out] at HC;with_reducible refine HC.out.mono ?_
     rintro e w4 ⟨A4,c4,rfl,au,b6⟩;have aH:Mid 0 0 wr w4:=Mid.of_below b6;have bu:=aH.size;have b1:=az.mid aH oZr;have b4:=b0.mid aH oZr;have aQ:=al.mid aH oZr;have aO:=ak.mid aH oZr;have aF:=aAb ad aH oZl;have ae:=aG.mid aH oZl;have bs:=ho.mid aH oZl;have bC:=bA.mid aH oZl;have ao:=hm.trans aH;clear bH bI bJ bK aI aJ bc bd fz fx az b0 al ak ad aG ho bA bk bY bX;have aI:=aQ.cell 0 rfl;have aJ:=aQ.cell 1 rfl;have bc:=aO.cell 0 rfl;have bd:=aO.cell 1 rfl;have fz:=aQ.2.2;have fx:=aO.2.2;by_cases hbig:24<ex.length
     .obtain⟨e1,e2,e3⟩:=a4.out.2 (fun hh=>by have:=hh.2.2.2 xs HM.out;rw[<- ax.out] at this;omega)
      subst e1 e2 e3;go_wp2_with fail;refine oW (v:=.tuple #[.agg #[(0:Int),.slice none 0 0],.bool false]) (by simp[results,Tryz.results71,go_sem,aI,aJ,fz]) rfl ⟨none,0,rfl,OSS.nil,?_⟩;repeat (first|exact ao|refine oQ ?_ (by simp <;> omega) _)
     .have bE:W0.heap.size<=w4.heap.size:=by omega
      go_wp2_with (at_builtin;refine aAk rfl _ _ 24 rfl W0 44 (.slice none 0 0) 1 24 aDl aDi rfl oD _ _ _ rfl aF 1 [.slice A4 ex.length c4] rfl rfl (by simp[Value.oneCell']) (by unfold maxLen;omega) oO bE ?next)
      case next=>
       intro v' w5 aV bQ _;have aU:=oF aF bQ;have bv:=aU.size;have b2:=b1.mid aU;have b5:=b4.mid aU;have b7:=aQ.mid aU;have aX:=aO.mid aU;have cA:=aX.cell 1 rfl;have cD:=aX.2.2;obtain⟨A5,c5,rfl, -, -⟩:=aAc aV;go_wp2_with fail;go_roundw
       case rel=>
        have hp:=ae.push (r:=⟨A4,c4,ex⟩) (base:=wr.heap.size) (hi':=w4.heap.size) au oN bw bu oN (fun g hg=>(au.lt g hg).2);have bt:=(hp.grown aF oD bQ).mid (Mid.setCell w5 (lo:=w2.heap.size) (hi:=w2.heap.size+1) (p:=⟨w2,1,none⟩) (.slice A5 (k+1) c5) oM oM) oL;have aZ:=Mid.setCell w5 (lo:=w2.heap.size) (hi:=w2.heap.size+1) (p:=⟨w2,1,none⟩) (.slice A5 (k+1) c5) oM oM;have br:=(ao.transNew aU oL).transNew aZ oL;refine⟨k+1,rows++[⟨A4,c4,ex⟩],A5,c5,oO,by go_num,?_,⟨b2.mid aZ,b5.mid aZ,b7.mid aZ,aX.set 1 _ oM rfl⟩,⟨?_,bt.wide oN (by simpa using bv) oM⟩,
         ⟨(bs.mid aU).mid aZ,(bC.mid aU).mid aZ⟩,br,by simp;omega,?_⟩
        .rw[aAv,bL.out,aAw d' HX.out,List.map_append,ax.out]
         rfl
        .rw[aBg]
         exact aAb aV aZ oL
        intro ys bZ;rw[aAw d' HX.out] at bZ;rcases List.mem_append.1 bZ with h1|h1
        .exact ai.out ys h1
        simp at h1;subst h1;rw[<- ax.out];omega
       simp[intOf];omega
    obtain rfl:k=d'.length:=by omega
    have a8:=ai.out;rw[List.take_length] at a8;obtain⟨e1,e2,e3⟩:=a4.out.1 ⟨aW.out,aL.out,bh.out,a8⟩;have hD:aAt rows=aw:=by rw[bL.out,List.take_length,e2]
    have am:aw.length=d'.length:=by rw[e2,List.length_map]
    have HD:=oH hD;have HL:=oH am;subst e1 e3;clear e2 a8 hD am;go_wp2_with fail;refine oW (v:=.tuple #[.agg #[rr,.slice A2 d'.length c2],.bool true]) (by simp[results,Tryz.results71,go_sem,aI,aJ,fz]) rfl ⟨A2,c2,by rw[HL.out],?_,?_⟩
    .refine OSS.wide ((OSS.mk' ad aG HD.out).mid (a:=w.heap.size+1+1) (b:=w.heap.size+1+1+1) ?_ oL) oO oM oN
     repeat (first|exact Mid.refl _ _ _|refine Mid.stored ?_ _ oM oM)
    repeat (first|exact hm|refine oQ ?_ (by simp <;> omega) _)
theorem OkSS.rows{d:LL}(h:OkSS d):∀ xs∈d,OkI xs:=h.2
noncomputable def subA (r:Int) (l:LL):Int × List Ed:=coreA r (aBn l (1,[]))
def aQg(r:Int)(d:LL):Prop:=IsMor r d/\aIQ r d/\aIE r (subA r d).1 (subA r d).2
def aJB(r:Int)(d:LL):Prop:=aIQ r d/\rankI r (subA r d).1 (subA r d).2=(d.length:Int)
theorem aMG{r:Int}{d:LL}(h:aIQ r d):SubIs r d r (subA r d).1 (subA r d).2 true:=.inl ⟨rfl,h,rfl,rfl,rfl⟩
theorem aQa{r:Int}{d:LL}(h:¬ aIQ r d):SubIs r d 0 0 [] false:=.inr ⟨rfl,h,rfl,rfl,rfl⟩
def aCZ(r:Int)(d:LL)(res:Bool):Prop:=res=true↔aQg r d
theorem aIa(r:Int)(d:LL)(_:(Lit.int .i64 r).wf=true)(_:OkSS d)(_:d.length+aAK d<=1048576):∃ res,aCZ r d res:=aAF _
def aDr(r:Int)(d:LL)(res:Bool):Prop:=res=true↔(IsMor r d/\aJB r d)
theorem aIS(r:Int)(d:LL)(_:(Lit.int .i64 r).wf=true)(_:OkSS d)(_:d.length+aAK d<=1048576):∃ res,aDr r d res:=aAF _
theorem aJb(r:Int)(A:OA)(d:LL)(c:Nat)(w:World)(lo hi:Nat)(hr:RSS w lo hi A d)(a8:∀ xs∈d,OkI xs)(hl:d.length+aAK d<=1048576)(b:Bool)(hb:b=true↔aJB r d) :
  Calls Tryz.prog 150 #[r,.slice A d.length c] w fun e w'=>e=.returned (.bool b)/\Mid 0 0 w w':=by
 have a5:=oH a8;clear a8;by_cases ha:aIQ r d
 .have hS:=aMG ha
  have a1:=hS.lens;have HB:Hid (b=true↔rankI r (subA r d).1 (subA r d).2=(d.length:Int)):=oH (by rw[hb,aJB];exact⟨fun h=>h.2,fun h=>⟨ha,h⟩⟩);obtain⟨⟨s2,a0⟩,hE⟩:∃ E,subA r d=E:=⟨_,rfl⟩
  rw[hE] at hS a1 HB;dsimp only at hS a1 HB;have HS:=oH hS;have a7:a0.length<=1048576:=by omega
  obtain⟨k5,k6⟩:=aNF (r:=r) (s:=s2) a7;have h3:=fun A c W lo hi hh=>aPa r s2 A a0 c W lo hi hh a7;generalize rankI r s2 a0=x3 at k5 k6 h3 HB;have H3:=oH h3;clear hb ha hS hE h3;go_enter Tryz.func150,Tryz.ntmps150
  go_wp2_with fail;with_reducible refine(aCj r A d c w _ _ hr a5.out hl r s2 a0 true HS.out).mono ?_
  rintro en w2 ⟨A2,c2,rfl,a3,a4⟩;have aB:=a3.cnt.1;have a6:=oE w2 (.cells #[r,s2,.slice A2 a0.length c2] 35);have Y2:=oJ w2 #[r,s2,.slice A2 a0.length c2] 35;replace a3:=a3.mid a6 oZl;have a9:=a4.trans a6;obtain⟨y0,y1,y2⟩:=Y2.c3 rfl;go_wp2_with fail;with_reducible refine(H3.out A2 c2 _ _ _ a3.rg).mono ?_
  rintro en w4 ⟨rfl,aA⟩;have a2:=a9.trans aA;by_cases hx:x3=(d.length:Int)
  .obtain rfl:b=true:=HB.out.2 hx
   have dx:(x3 == (d.length:Int))=true:=by simpa using hx
   clear hx HB;go_wp2_with fail;go_ret;exact⟨rfl,a2⟩
  obtain rfl:b=false:=aAG HB.out hx;have dx:(x3 == (d.length:Int))=false:=by simpa using hx
  clear hx HB;go_wp2_with fail;go_ret;exact⟨rfl,a2⟩
 obtain rfl:b=false:=aAG hb fun h=>ha h.1;have HS:=oH (aQa ha);clear hb ha;go_enter Tryz.func150,Tryz.ntmps150
 go_wp2_with fail;with_reducible refine(aCj r A d c w _ _ hr a5.out hl 0 0 [] false HS.out).mono ?_
 rintro en w2 ⟨A2,c2,rfl, -,a4⟩;have a2:=a4.trans (oE w2 (.cells #[(0:Int),(0:Int),.slice A2 0 c2] 35));go_wp2_with fail;go_ret;exact⟨rfl,a2⟩
theorem aJc(r:Int)(A:OA)(d:LL)(c:Nat)(w:World)(lo hi:Nat)(hr:RSS w lo hi A d)(a3:OkSS d)(hl:d.length+aAK d<=1048576)(b:Bool)(hb:b=true↔(IsMor r d/\aJB r d)) :
  Calls Tryz.prog 66 #[.agg #[r,.slice A d.length c]] w (Stp (.bool b) w):=by
 have a2:=oH a3;clear a3;have a0:Mid 0 0 w (w.alloc (.cells #[r,.slice A d.length c] 76)):=oE _ _;have b0:=oJ w #[r,.slice A d.length c] 76;by_cases hm:IsMor r d
 .have HM:=oH hm
  have HB:Hid (b=true↔aJB r d):=oH (by rw[hb];exact⟨fun h=>h.2,fun h=>⟨hm,h⟩⟩);clear hb hm;go_enter Tryz.func66,Tryz.ntmps66
  go_wp2_with fail;with_reducible refine(aAq r A d c _ _ _ (hr.mid a0 oZl) a2.out hl true (oX rfl HM.out)).mono ?_
  rintro en w2 ⟨rfl,a1⟩;replace b0:=b0.mid a1 oZr;replace a0:=a0.trans a1;have p0:=b0.cell 0 rfl;have p1:=b0.cell 1 rfl;go_wp2_with fail;with_reducible refine(aJb r A d c _ _ _ (hr.mid a0 oZl) a2.out.rows hl b HB.out).mono ?_
  rintro en w4 ⟨rfl,a4⟩;go_wp2_with fail;go_ret;exact⟨rfl,a0.trans a4⟩
 obtain rfl:b=false:=aAG hb fun h=>hm h.1;have HM:=oH hm;clear hb hm;go_enter Tryz.func66,Tryz.ntmps66
 go_wp2_with fail;with_reducible refine(aAq r A d c _ _ _ (hr.mid a0 oZl) a2.out hl false (iff_of_false Bool.false_ne_true HM.out)).mono ?_
 rintro en w2 ⟨rfl,a1⟩;go_wp2_with fail;go_ret;exact⟨rfl,a0.trans a1⟩
theorem aIy(r:Int)(A:OA)(d:LL)(c:Nat)(w:World)(lo hi:Nat)(hr:RSS w lo hi A d)(a9:OkSS d)(hl:d.length+aAK d<=1048576)(b:Bool)(hb:b=true↔aQg r d) :
  Calls Tryz.prog 68 #[.agg #[r,.slice A d.length c]] w (Stp (.bool b) w):=by
 have a7:=oH a9;clear a9;have a0:Mid 0 0 w (w.alloc (.cells #[r,.slice A d.length c] 76)):=oE _ _;have b0:=oJ w #[r,.slice A d.length c] 76;obtain⟨bm,a8⟩:=aAF (IsMor r d);have HM:=oH a8;clear a8;by_cases ha:aIQ r d
 .have hS:=aMG ha
  have a5:=hS.lens;have HB:Hid (b=true↔IsMor r d/\aIE r (subA r d).1 (subA r d).2):=oH (by rw[hb,aQg];exact⟨fun h=>⟨h.1,h.2.2⟩,fun h=>⟨h.1,ha,h.2⟩⟩);obtain⟨⟨s2,a1⟩,hE⟩:∃ E,subA r d=E:=⟨_,rfl⟩
  rw[hE] at hS a5 HB;dsimp only at hS a5 HB;have HS:=oH hS;clear hb ha hS hE;go_enter Tryz.func68,Tryz.ntmps68
  go_wp2_with fail;generalize w.alloc (.cells #[r,.slice A d.length c] 76)=w1 at a0 b0 |-;with_reducible refine(aCj r A d c _ _ _ (hr.mid a0 oZl) a7.out.rows hl r s2 a1 true HS.out).mono ?_
  rintro en w4 ⟨A2,c2,rfl,a4,a6⟩;have a2:=oE w4 (.cells #[r,s2,.slice A2 a1.length c2] 35);have Y2:=oJ w4 #[r,s2,.slice A2 a1.length c2] 35;replace b0:=b0.mid a6 oZr;replace a0:=a0.trans a6;replace b0:=b0.mid a2 oZr;replace a4:=a4.mid a2 oZl;replace a0:=a0.trans a2;have p0:=b0.cell 0 rfl;have p1:=b0.cell 1 rfl;go_wp2_with fail;generalize w4.alloc (.cells #[r,s2,.slice A2 a1.length c2] 35)=w5 at a0 b0 Y2 a4 p0 p1 |-;with_reducible refine(aAq r A d c _ _ _ (hr.mid a0 oZl) a7.out hl bm HM.out).mono ?_
  rintro en w6 ⟨rfl,a3⟩;replace Y2:=Y2.mid a3 oZr;replace a4:=a4.mid a3 oZl;replace a0:=a0.trans a3;clear p0 p1;obtain⟨y0,y1,y2⟩:=Y2.c3 rfl;cases bm with
 |false=>
   obtain rfl:b=false:=aAG HB.out fun h=>by have:=HM.out.2 h.1;cases this
   clear HB;go_wp2_with fail;go_ret;exact⟨rfl,a0⟩
 |true=>
  have aA:Hid (b=true↔aIE r s2 a1):=oH (by rw[HB.out];exact⟨fun h=>h.2,fun h=>⟨HM.out.1 rfl,h⟩⟩);clear HB HM;go_wp2_with fail;with_reducible refine(aNR r s2 A2 a1 c2 _ _ _ a4.rg oO b aA.out).mono ?_
  rintro en w8 ⟨rfl,aB⟩;go_wp2_with fail;go_ret;exact⟨rfl,a0.trans aB⟩
 obtain rfl:b=false:=aAG hb fun h=>ha h.2.1;have HS:=oH (aQa ha);clear hb ha;go_enter Tryz.func68,Tryz.ntmps68
 go_wp2_with fail;generalize w.alloc (.cells #[r,.slice A d.length c] 76)=w1 at a0 b0 |-;with_reducible refine(aCj r A d c _ _ _ (hr.mid a0 oZl) a7.out.rows hl 0 0 [] false HS.out).mono ?_
 rintro en w4 ⟨A2,c2,rfl, -,a6⟩;have a2:=oE w4 (.cells #[(0:Int),(0:Int),.slice A2 0 c2] 35);replace b0:=b0.mid a6 oZr;replace a0:=a0.trans a6;replace b0:=b0.mid a2 oZr;replace a0:=a0.trans a2;have p0:=b0.cell 0 rfl;have p1:=b0.cell 1 rfl;go_wp2_with fail;generalize w4.alloc (.cells #[(0:Int),(0:Int),.slice A2 0 c2] 35)=w5 at a0 b0 p0 p1 |-;with_reducible refine(aAq r A d c _ _ _ (hr.mid a0 oZl) a7.out hl bm HM.out).mono ?_
 rintro en w6 ⟨rfl,a3⟩;clear p0 p1;cases bm
 .go_wp2_with fail
  go_ret;exact⟨rfl,a0.trans a3⟩
 go_wp2_with fail;go_ret;exact⟨rfl,a0.trans a3⟩
theorem aEl(r:Int)(A:OA)(d:LL)(c:Nat)(w:World)(lo hi:Nat)(h:RSS w lo hi A d)(_b:(Lit.int .i64 r).wf=true)(_o:OkSS d)(hl:d.length+aAK d<=1048576)(a1:Bool)(a0:aCZ r d a1) :
  Calls Tryz.prog 68 #[.agg #[r,.slice A d.length c]] w (Stp (.bool a1) w):=aIy r A d c w lo hi h _o hl a1 a0
theorem aEK(r:Int)(A:OA)(d:LL)(c:Nat)(w:World)(lo hi:Nat)(h:RSS w lo hi A d)(_b:(Lit.int .i64 r).wf=true)(_o:OkSS d)(hl:d.length+aAK d<=1048576)(a1:Bool)(a0:aDr r d a1) :
  Calls Tryz.prog 66 #[.agg #[r,.slice A d.length c]] w (Stp (.bool a1) w):=aJc r A d c w lo hi h _o hl a1 a0
theorem aIV(r:Int)(A:OA)(d:LL)(c:Nat)(w:World)(lo hi:Nat)(hr:RSS w lo hi A d)(a8:∀ xs∈d,OkI xs)(hl:d.length+aAK d<=1048576)(b:Bool)(hb:b=true↔aJB r d) :
  Calls Tryz.prog 149 #[r,.slice A d.length c] w fun e w'=>e=.returned (.bool b)/\Mid 0 0 w w':=by
 have a5:=oH a8;clear a8;by_cases ha:aIQ r d
 .have hS:=aMG ha
  have a1:=hS.lens;have HB:Hid (b=true↔rankI r (subA r d).1 (subA r d).2=(d.length:Int)):=oH (by rw[hb,aJB];exact⟨fun h=>h.2,fun h=>⟨ha,h⟩⟩);obtain⟨⟨s2,a0⟩,hE⟩:∃ E,subA r d=E:=⟨_,rfl⟩
  rw[hE] at hS a1 HB;dsimp only at hS a1 HB;have HS:=oH hS;have a7:a0.length<=1048576:=by omega
  obtain⟨k5,k6⟩:=aNF (r:=r) (s:=s2) a7;have h3:=fun A c W lo hi hh hc=>aOA r s2 A a0 c W lo hi hh a7 hc;generalize rankI r s2 a0=x3 at k5 k6 h3 HB;have H3:=oH h3;clear hb ha hS hE h3;go_enter Tryz.func149,Tryz.ntmps149
  go_wp2_with fail;with_reducible refine(aCL r A d c w _ _ hr a5.out hl r s2 a0 true HS.out).mono ?_
  rintro en w2 ⟨A2,c2,rfl,a3,a4⟩;have a9:=a3.cnt.1;have a6:=oE w2 (.cells #[r,s2,.slice A2 a0.length c2] 35);have Y2:=oJ w2 #[r,s2,.slice A2 a0.length c2] 35;replace a3:=a3.mid a6 oZl;have aA:=a4.trans a6;obtain⟨y0,y1,y2⟩:=Y2.c3 rfl;go_wp2_with fail;with_reducible refine(H3.out A2 c2 _ _ _ a3.rg a9).mono ?_
  rintro en w4 ⟨rfl,aB⟩;have a2:=aA.trans aB;by_cases hx:x3=(d.length:Int)
  .obtain rfl:b=true:=HB.out.2 hx
   have dx:(x3 == (d.length:Int))=true:=by simpa using hx
   clear hx HB;go_wp2_with fail;go_ret;exact⟨rfl,a2⟩
  obtain rfl:b=false:=aAG HB.out hx;have dx:(x3 == (d.length:Int))=false:=by simpa using hx
  clear hx HB;go_wp2_with fail;go_ret;exact⟨rfl,a2⟩
 obtain rfl:b=false:=aAG hb fun h=>ha h.1;have HS:=oH (aQa ha);clear hb ha;go_enter Tryz.func149,Tryz.ntmps149
 go_wp2_with fail;with_reducible refine(aCL r A d c w _ _ hr a5.out hl 0 0 [] false HS.out).mono ?_
 rintro en w2 ⟨A2,c2,rfl, -,a4⟩;have a2:=a4.trans (oE w2 (.cells #[(0:Int),(0:Int),.slice A2 0 c2] 35));go_wp2_with fail;go_ret;exact⟨rfl,a2⟩
theorem aIW(r:Int)(A:OA)(d:LL)(c:Nat)(w:World)(lo hi:Nat)(hr:RSS w lo hi A d)(a3:OkSS d)(hl:d.length+aAK d<=1048576)(b:Bool)(hb:b=true↔(IsMor r d/\aJB r d)) :
  Calls Tryz.prog 65 #[.agg #[r,.slice A d.length c]] w (Stp (.bool b) w):=by
 have a2:=oH a3;clear a3;have a0:Mid 0 0 w (w.alloc (.cells #[r,.slice A d.length c] 76)):=oE _ _;have b0:=oJ w #[r,.slice A d.length c] 76;by_cases hm:IsMor r d
 .have HM:=oH hm
  have HB:Hid (b=true↔aJB r d):=oH (by rw[hb];exact⟨fun h=>h.2,fun h=>⟨hm,h⟩⟩);clear hb hm;go_enter Tryz.func65,Tryz.ntmps65
  go_wp2_with fail;with_reducible refine(aAs r A d c _ _ _ (hr.mid a0 oZl) a2.out hl true (oX rfl HM.out)).mono ?_
  rintro en w2 ⟨rfl,a1⟩;replace b0:=b0.mid a1 oZr;replace a0:=a0.trans a1;have p0:=b0.cell 0 rfl;have p1:=b0.cell 1 rfl;go_wp2_with fail;with_reducible refine(aIV r A d c _ _ _ (hr.mid a0 oZl) a2.out.rows hl b HB.out).mono ?_
  rintro en w4 ⟨rfl,a4⟩;go_wp2_with fail;go_ret;exact⟨rfl,a0.trans a4⟩
 obtain rfl:b=false:=aAG hb fun h=>hm h.1;have HM:=oH hm;clear hb hm;go_enter Tryz.func65,Tryz.ntmps65
 go_wp2_with fail;with_reducible refine(aAs r A d c _ _ _ (hr.mid a0 oZl) a2.out hl false (iff_of_false Bool.false_ne_true HM.out)).mono ?_
 rintro en w2 ⟨rfl,a1⟩;go_wp2_with fail;go_ret;exact⟨rfl,a0.trans a1⟩
theorem aIj(r:Int)(A:OA)(d:LL)(c:Nat)(w:World)(lo hi:Nat)(hr:RSS w lo hi A d)(aA:OkSS d)(hl:d.length+aAK d<=1048576)(b:Bool)(hb:b=true↔aQg r d) :
  Calls Tryz.prog 67 #[.agg #[r,.slice A d.length c]] w (Stp (.bool b) w):=by
 have a5:=oH aA;clear aA;have a0:Mid 0 0 w (w.alloc (.cells #[r,.slice A d.length c] 76)):=oE _ _;have b0:=oJ w #[r,.slice A d.length c] 76;obtain⟨bm,a8⟩:=aAF (IsMor r d);have HM:=oH a8;clear a8;go_enter Tryz.func67,Tryz.ntmps67
 go_wp2_with fail;with_reducible refine(aAs r A d c _ _ _ (hr.mid a0 oZl) a5.out hl bm HM.out).mono ?_
 rintro en w2 ⟨rfl,a9⟩;replace b0:=b0.mid a9 oZr;replace a0:=a0.trans a9;have p0:=b0.cell 0 rfl;have p1:=b0.cell 1 rfl;cases bm with
|false=>
  obtain rfl:b=false:=aAG hb fun h=>by have:=HM.out.2 h.1;cases this
  go_wp2_with fail;go_ret;exact⟨rfl,a0⟩
|true=>
 have a1:=HM.out.1 rfl;by_cases ha:aIQ r d
 .have hS:=aMG ha
  have a2:=hS.lens;have HB:Hid (b=true↔aIE r (subA r d).1 (subA r d).2):=oH (by rw[hb,aQg];exact⟨fun h=>h.2.2,fun h=>⟨a1,ha,h⟩⟩);obtain⟨⟨s2,a3⟩,hE⟩:∃ E,subA r d=E:=⟨_,rfl⟩
  rw[hE] at hS a2 HB;dsimp only at hS a2 HB;have HS:=oH hS;clear hb ha hS hE a1 HM;go_wp2_with fail;with_reducible refine(aCL r A d c _ _ _ (hr.mid a0 oZl) a5.out.rows hl r s2 a3 true HS.out).mono ?_
  rintro en w4 ⟨A2,c2,rfl,a4,a6⟩;have aB:=a4.cnt.1;have a7:=oE w4 (.cells #[r,s2,.slice A2 a3.length c2] 35);have Y2:=oJ w4 #[r,s2,.slice A2 a3.length c2] 35;replace a0:=a0.trans a6;replace a4:=a4.mid a7 oZl;replace a0:=a0.trans a7;obtain⟨y0,y1,y2⟩:=Y2.c3 rfl;clear p0 p1;go_wp2_with fail;with_reducible refine(aNn r s2 A2 a3 c2 _ _ _ a4.rg oO aB b HB.out).mono ?_
  rintro en w6 ⟨rfl,aC⟩;go_wp2_with fail;go_ret;exact⟨rfl,a0.trans aC⟩
 obtain rfl:b=false:=aAG hb fun h=>ha h.2.1;have HS:=oH (aQa ha);clear hb ha a1 HM;go_wp2_with fail;with_reducible refine(aCL r A d c _ _ _ (hr.mid a0 oZl) a5.out.rows hl 0 0 [] false HS.out).mono ?_
 rintro en w4 ⟨A2,c2,rfl, -,a6⟩;have aD:=(a0.trans a6).trans (oE w4 (.cells #[(0:Int),(0:Int),.slice A2 0 c2] 35));clear p0 p1;go_wp2_with fail;go_ret;exact⟨rfl,aD⟩
theorem aEi(r:Int)(A:OA)(d:LL)(c:Nat)(w:World)(lo hi:Nat)(h:RSS w lo hi A d)(_b:(Lit.int .i64 r).wf=true)(_o:OkSS d)(hl:d.length+aAK d<=1048576)(a1:Bool)(a0:aCZ r d a1) :
  Calls Tryz.prog 67 #[.agg #[r,.slice A d.length c]] w (Stp (.bool a1) w):=aIj r A d c w lo hi h _o hl a1 a0
theorem aBK(r:Int)(A:OA)(d:LL)(c:Nat)(w:World)(lo hi:Nat)(h:RSS w lo hi A d)(_b:(Lit.int .i64 r).wf=true)(_o:OkSS d)(hl:d.length+aAK d<=1048576)(a1:Bool)(a0:aDr r d a1) :
  Calls Tryz.prog 65 #[.agg #[r,.slice A d.length c]] w (Stp (.bool a1) w):=aIW r A d c w lo hi h _o hl a1 a0
theorem aIl{r:Int}{w:LI}(h:IsW r w):LtW w/\Rd w:=by
 have h1:=h.2.2.2;have hl:LtW w:=fun x hx=>by
  have h2:=h1.1 x hx;have h3:=h.1;have h4:=h.2.1;unfold Lt3;omega
 refine⟨hl,fun a b x e=>?_⟩;have e1:w[a.length]?=some x:=by rw[e];simp
 have e2:w[a.length+1]?=some (-x):=by
  rw[e,List.getElem?_append_right oO];simp
 have:=h1.2 a.length x (-x) e1 e2;omega
theorem aOD{r:Int}{w:LI}(h1:1<=r)(h2:r<=3)(h3:w.length<=24)(hl:∀ y∈w,y≠0/\-r<=y/\y<=r)(hr:Rd w):IsW r w:=
 ⟨h1,h2,h3,hl,fun k x y hx hy e=>by
  obtain⟨hk,ex⟩:=List.getElem?_eq_some_iff.1 hx;obtain⟨a0,ey⟩:=List.getElem?_eq_some_iff.1 hy;refine hr (w.take k) (w.drop (k+2)) x ?_;rw[<- e,<- ex,<- ey,<- List.drop_eq_getElem_cons a0,<- List.drop_eq_getElem_cons hk,List.take_append_drop]⟩
theorem aDo{r:Int}{k:Nat}(hk:(k:Int)=r){w:LI}(h:IsW r w):LtK k w:=fun x hx=>by
 have:=h.2.2.2.1 x hx;omega
theorem aSg{d:LL}{x:Int}(hx:x≠0/\-(d.length:Int)<=x/\x<=d.length):aDP d x=sbL (atW d) x:=by
 unfold aDP sbL atW;by_cases h:0<x
 .rw[if_pos oO,if_pos h,show(x - 1).toNat=x.toNat - 1 from by omega]
 rw[if_neg oO,if_pos oO,if_neg h,show(-x - 1).toNat=(-x).toNat - 1 from by omega]
theorem aNB{d:LL}:∀ {l:LI},LtK d.length l->(aCO d l).flatten=sbW (atW d) l
|[],_=>rfl
|x::l,h=>by
  rw[aCc,<- aSg h.head,<- aNB h.tail]
  rfl
theorem aBW{d:LL}{l:LI}(h:LtK d.length l)(hl:l.length<=200):aAl d l=red [] (sbW (atW d) l):=by
 unfold aAl;rw[List.take_of_length_le hl,aNB h]
theorem IsMor.k3{r:Int}{d:LL}(h:IsMor r d):d.length<=3:=by have:=h.2.1;have:=h.2.2.1;omega
theorem IsMor.atK{r:Int}{d:LL}(h:IsMor r d):∀ i,i<d.length->LtK d.length (atW d i):=fun i hi=>aDo h.2.2.1 (h.2.2.2 _ (aFy hi))
theorem IsMor.atL{r:Int}{d:LL}(h:IsMor r d):∀ i,i<d.length->LtW (atW d i):=fun i hi=>(h.atK i hi).lt h.k3
theorem aMt{k:Nat}(a0:k<=3){d:Nat->LI}(hd:∀ i,i<k->LtK k (d i)):∀ {w:LI},LtK k w->LtK k (sbW d w)
|[],_=>LtK.nil
|x::w,h=>by
  rw[aCc];refine LtK.app ?_ (aMt a0 hd h.tail);have hx:=h.head;unfold sbL;split
  .exact hd _ oO
  .exact(hd _ oO).inv a0
theorem aLb{r:Int}{d:LL}(h:IsMor r d){w:LI}(hw:IsW r w):LtK d.length (aAl d w):=by
 have hk:=aDo h.2.2.1 hw;rw[aBW hk (by have:=hw.2.2.1;omega)];exact(aMt h.k3 h.atK hk).red
theorem aQs{r:Int}{d:LL}(h:IsMor r d){a b:LI}(ha:IsW r a)(hb:IsW r b):aAl d (red [] (a++b))=red [] (aAl d a++aAl d b):=by
 have ka:=aDo h.2.2.1 ha;have kb:=aDo h.2.2.1 hb;have la:=ha.2.2.1;have lb:=hb.2.2.1;have hr:=aBu (a++b);rw[List.length_append] at hr;have wa:=aCP h.atL ka;have wb:=aCP h.atL kb;rw[aBW ((ka.app kb).red) oO,aBW ka oO,aBW kb oO,aMq _ _ wa,aKn wa wb,<- aIx];exact aSA h.k3 h.atL (ka.app kb)
theorem aUB{r:Int}{a b:LI}(ha:IsW r a)(hb:IsW r b)(hl:a.length+b.length<=24):IsW r (red [] (a++b)):=by
 have hr:=aBu (a++b);rw[List.length_append] at hr;have h1:=ha.1;have h2:=ha.2.1;obtain⟨k,rfl⟩:=Int.eq_ofNat_of_zero_le (show 0<=r by omega);have ka:=aDo rfl ha;have kb:=aDo rfl hb;exact aOD h1 h2 oO (ka.app kb).red (aHO ((ka.app kb).lt oO))
theorem aLa{r:Int}{d:LL}(h:IsMor r d){w:LI}(hw:IsW r w)(hl:(aAl d w).length<=24):IsW r (aAl d w):=by
 have hk:=aLb h hw;have e:=h.2.2.1;have kw:=aDo e hw;refine aOD h.1 h.2.1 hl (fun y hy=>by have:=hk y hy;omega) ?_;rw[aBW kw (by have:=hw.2.2.1;omega)];exact aHO (aCP h.atL kw)
theorem aQr{r:Int}{d:LL}(h:IsMor r d)(hf:aJB r d){w:LI}(hw:IsW r w)(h0:aAl d w=[]):w=[]:=by
 have hk:=aDo h.2.2.1 hw;have hl:=hw.2.2.1;rw[aBW hk oO] at h0;have hg:=aJP hf.1;have a0:IsCor r (subA r d).1 (subA r d).2:=aLJ hg;have hr:=hf.2;unfold rankI at hr;rw[if_pos a0] at hr;have h1:=h.1;obtain⟨n,rfl⟩:=Int.eq_ofNat_of_zero_le (show 0<=r by omega);exact aRE hg h.k3 (fun x hx=>aIl (h.2.2.2 x hx)) hr hk (aIl hw).2 oO h0
theorem aSE{r:Int}{d:LL}(h:aQg r d):aJB r d:=by
 obtain⟨hm,ha,hc,h1,h2⟩:=h;refine⟨ha,?_⟩;unfold rankI;rw[if_pos hc,h1,h2,hm.2.2.1];omega
theorem aPV{k:Nat}{d d':Nat->LI}(hd:∀ i,i<k->LtW (d i)/\LtW (d' i)/\Eqv (d i) (d' i)):∀ {w:LI},LtK k w->Eqv (sbW d w) (sbW d' w)
|[],_=>Eqv.refl _
|x::w,h=>by
  have hx:=h.head;rw[aCc,aCc];refine Eqv.app (aNK (fun i hi=>(hd i hi).1) hx) (aNK (fun i hi=>(hd i hi).2.1) hx) (aCP (fun i hi=>(hd i hi).1) h.tail) (aCP (fun i hi=>(hd i hi).2.1) h.tail) ?_ (aPV hd h.tail);unfold sbL;split
  .exact(hd _ oO).2.2
  .have:=hd ((-x).toNat - 1) oO
   exact this.2.2.inv this.1 this.2.1
theorem aPU{k:Nat}(hk:k<=3){f g:Nat->LI}(hf:∀ i,i<k->LtW (f i))(hg:∀ i,i<k->LtK k (g i)):∀ {w:LI},LtK k w->sbW (fun i=>sbW f (g i)) w=sbW f (sbW g w)
|[],_=>rfl
|x::w,h=>by
  have hx:=h.head;rw[aCc,aCc,aIx,aPU hk hf hg h.tail]
  congr 1
  unfold sbL;split
  .rfl
  .exact(aMs hk hf (hg _ oO)).symm
theorem aUd{g:LL}(F:LI->LI){i:Nat}(h:i<g.length):atW (g.map F) i=F (atW g i):=by
 unfold atW;rw[List.getD_eq_getElem?_getD,List.getD_eq_getElem?_getD,List.getElem?_map,List.getElem?_eq_getElem h]
 rfl
theorem aOs{r:Int}{f g:LL}(hf:IsMor r f)(hg:IsMor r g){v:LI}(hv:IsW r v)(hl:(aAl g v).length<=200):aAl (g.map (aAl f)) v=aAl f (aAl g v):=by
 have ef:=hf.2.2.1;have eg:=hg.2.2.1;have a1:f.length=g.length:=by omega
 have kv:=aDo eg hv;have a3:=aDo ef hv;have lv:=hv.2.2.1;have a2:∀ i,i<g.length->LtW (atW f i):=fun i hi=>hf.atL i oO;have kE:LtK g.length (sbW (atW g) v):=aMt hg.k3 hg.atK kv;have hE:aAl g v=red [] (sbW (atW g) v):=aBW kv oO;rw[hE] at hl |-;rw[aBW (d:=f) (by rw[a1];exact kE.red) hl,aBW (d:=g.map (aAl f)) (by rw[List.length_map];exact kv) oO];refine Eqv.trans ?_ (aSA hg.k3 a2 kE).symm;rw[<- aPU hg.k3 a2 hg.atK kv];refine aPV (fun i hi=>?_) kv;have hw:=hg.2.2.2 _ (aFy hi);have hk:LtK f.length (atW g i):=by rw[a1];exact hg.atK i hi
 have a0:=aCP hf.atL hk;rw[aUd _ hi,aBW hk (by have:=hw.2.2.1;omega)];exact⟨aHF a0,a0,Eqv.toRed a0⟩
theorem aPo{r:Int}{f g:LL}(hf:IsMor r f)(hg:IsMor r g)(hl:∀ l∈g,(aAl f l).length<=24):IsMor r (g.map (aAl f)):=by
 refine⟨hf.1,hf.2.1,by rw[List.length_map];exact hg.2.2.1,fun xs hx=>?_⟩;obtain⟨l,h1,rfl⟩:=List.mem_map.1 hx;exact aLa hf (hg.2.2.2 l h1) (hl l h1)
section
open Go.RowKit
section
variable {r n:Nat} {es:List Ed} {d l:LL}
theorem aOP(hl:l=d.map fun x=>aCa es x n){i:Nat}(hi:i<d.length):l[i]?=some (aCa es (atW d i) n):=by
 rw[hl,List.getElem?_map];unfold atW;rw[List.getD_eq_getElem?_getD,List.getElem?_eq_getElem hi]
 rfl
theorem aSi(h:IsFin r n es)(hl:l=d.map fun x=>aCa es x n)(hd:∀ x∈d,InL r x){i:Nat}(hi:i<d.length){u t:Int}(hu:0<=u/\u<n) :
  Sp (canon (aBM l l.length)) u ((i:Int)+1) t↔Pa es u (atW d i) t:=by
 have hw:=hd _ (aFy hi);constructor
 .rintro(⟨-,h2⟩|⟨h1, -⟩)
  .obtain⟨j,v,p,hp,hv,e⟩:=aFW.1 h2
   injection e with e1 e2 e3
   obtain rfl:i=j:=by omega
   rw[aOP hl hi] at hp;injection hp with hp
   subst hp;subst e1;have a0:v<n:=by rw[aCG] at hv;exact hv
   refine(aGx h hw a0).1 ?_;rw[e3,List.getD_eq_getElem?_getD,List.getElem?_eq_getElem hv]
   rfl
  omega
 intro hp;obtain⟨v,rfl⟩:=Int.eq_ofNat_of_zero_le hu.1;have hv:v<n:=by omega
 have hg:=(aGx h hw hv).2 hp;refine .inl ⟨oO,aFW.2 ⟨i,v,_,aOP hl hi,by rw[aCG];exact hv,?_⟩⟩;rw[List.getD_eq_getElem?_getD,hg]
 rfl
theorem aSj(h:IsFin r n es)(hg:∀ e∈canon (aBM l l.length),InG r n e)(hl:l=d.map fun x=>aCa es x n)(hd:∀ x∈d,InL r x){x:Int}(hx:x≠0/\-(d.length:Int)<=x/\x<=d.length){u t:Int}(hu:0<=u/\u<n) :
  Sp (canon (aBM l l.length)) u x t↔Pa es u (sbL (atW d) x) t:=by
 unfold sbL;by_cases h0:0<x
 .rw[if_pos h0]
  have:=aSi h hl hd (i:=x.toNat - 1) oO (t:=t) hu;rw[show((x.toNat - 1:Nat):Int)+1=x from by omega] at this;exact this
 rw[if_neg h0];have hi:(-x).toNat - 1<d.length:=by omega
 have e:(((-x).toNat - 1:Nat):Int)+1 = -x:=by omega
 constructor
 .intro hs
  have a0:=hs.neg;have ht:=(a0.rng hg).1;rw[<- e] at a0;exact((aSi h hl hd hi ht).1 a0).inv h.cor.gr
 intro hp;have ht:=hp.rng h.cor.gr.all hu;have a1:=hp.inv h.cor.gr;rw[aFG ((hd _ (aFy hi)).lt (aVi h))] at a1;have hs:=((aSi h hl hd hi ht).2 a1).neg;rw[e,Int.neg_neg] at hs;exact hs
theorem aSh(h:IsFin r n es)(hg:∀ e∈canon (aBM l l.length),InG r n e)(hl:l=d.map fun x=>aCa es x n)(hd:∀ x∈d,InL r x):∀ {v:LI},LtK d.length v->∀ {u t:Int},0<=u/\u<n ->
  (Pa (canon (aBM l l.length)) u v t↔Pa es u (sbW (atW d) v) t)
|[],_,u,t,_=>Iff.rfl
|x::v,hv,u,t,hu=>by
  rw[aCc,aIL];constructor
  .rintro⟨m,h1,h2⟩
   exact⟨m,(aSj h hg hl hd hv.head hu).1 h1,(aSh h hg hl hd hv.tail (h1.rng hg).2.1).1 h2⟩
  .rintro⟨m,h1,h2⟩
   exact⟨m,(aSj h hg hl hd hv.head hu).2 h1,(aSh h hg hl hd hv.tail (h1.rng h.cor.gr.all hu)).2 h2⟩
end
theorem aTt{r0 r s:Int}{d:LL}{es:List Ed}{rr rs:Int}{res:List Ed}(h:PreIs r0 d r s es rr rs res true){v:LI}(hv:IsW r0 v) :
  IsCor rr rs res/\IsCor r s es/\(InS res v↔InS es (aAl d v)):=by
 rcases h with⟨-,h, -⟩|⟨⟨hm,hf,rfl⟩,hg⟩
 .cases h
 have a1:=aTd hg;refine⟨a1.cor,hf.cor,?_⟩;have h1:=hm.1;obtain⟨a,rfl⟩:=Int.eq_ofNat_of_zero_le (show 0<=r by omega);obtain⟨n,rfl⟩:=Int.eq_ofNat_of_zero_le (show 0<=s by have:=hf.cor.gr.size;omega);have a0:0<n:=by have:=hf.cor.gr.size;omega
 have hd:∀ x∈d,InL a x:=fun x hx=>fun y hy=>by have:=(hm.2.2.2 x hx).2.2.2.1 y hy;exact aAU.2 oO
 have hl:d.map (wordP (a:Int) n es)=d.map fun x=>aCa es x n:=List.map_congr_left fun x hx=>aTr hf (hd x hx);rcases hg with⟨-,hok, -, -,hres⟩|⟨h, -⟩
 .generalize hL:d.map (wordP (a:Int) n es)=l at *
  have hn:n0L l=n:=by
   have h0:0<d.length:=by have:=hm.2.2.1;omega
   have:=aOP hl h0;unfold n0L;cases l with
  |nil=>simp at this
  |cons p t=>
    simp only[List.getElem?_cons_zero,Option.some.injEq] at this;rw[List.headD_cons,this,aCG]
  rw[hn] at hok hres;have kv:=aDo hm.2.2.1 hv;have a3:=aKU hok;have a4:=aQZ hok;have a2:=kv.lt hm.k3;rw[hres,aMT a3 a2,aPy a4 a2];have a5:=aJw (aIl hv).2 a2;have wl:=aCP hm.atL kv;have wi:InL a (sbW (atW d) v):=fun x hx=>by
   have:=aMt hm.k3 hm.atK kv x hx;have:=hm.2.2.1;exact aAU.2 oO
  unfold InS;rw[a5,aBW kv (by have:=hv.2.2.1;omega),aJv wl,aSh hf a3.all hl hd kv oO];have e:=aVv hf wi;constructor
  .intro hp
   have:=(aGx hf wi a0).2 hp;rw[<- e] at this;exact(aGx hf wi.red a0).1 this
  intro hp;have:=(aGx hf wi.red a0).2 hp;rw[e] at this;exact(aGx hf wi a0).1 this
 cases h
end
theorem aPg(n:Int):bits .and .i64 n 255=n % 256:=by
 have a0:(BitVec.ofInt 64 255).toNat=2 ^ 8 - 1:=by decide
 have key:(BitVec.ofInt 64 n &&& BitVec.ofInt 64 255).toNat=(n % ((2 ^ 64:Nat):Int)).toNat % 2 ^ 8:=by
  rw[BitVec.toNat_and,BitVec.toNat_ofInt,a0,Nat.and_two_pow_sub_one_eq_mod]
 show IntKind.i64.wrap ((BitVec.ofInt 64 n &&& BitVec.ofInt 64 255).toNat:Nat)=n % 256
 rw[key,IntKind.wrap_i64];omega
theorem aVF(n:Int):bits .and .i64 n 1073741823=n % 1073741824:=by
 have a0:(BitVec.ofInt 64 1073741823).toNat=2 ^ 30 - 1:=by decide
 have key:(BitVec.ofInt 64 n &&& BitVec.ofInt 64 1073741823).toNat=(n % ((2 ^ 64:Nat):Int)).toNat % 2 ^ 30:=by
  rw[BitVec.toNat_and,BitVec.toNat_ofInt,a0,Nat.and_two_pow_sub_one_eq_mod]
 show IntKind.i64.wrap ((BitVec.ofInt 64 n &&& BitVec.ofInt 64 1073741823).toNat:Nat)=n % 1073741824
 rw[key,IntKind.wrap_i64];omega
def aHb(xs:LI):List Value:=xs.map (Value.int .u8)
theorem aSQ(xs:LI):(aHb xs).length=xs.length:=by simp[aHb]
def OkB(xs:LI):Prop:=∀ x∈xs,0<=x/\x<=255
theorem Rs.byte{w:World}{B:Nat}{A:OA}{xs:LI}(h:Rs w B A (aHb xs)){k:Nat}(hk:k<xs.length) :
  ∃ b a0 x,A=some ⟨b,a0,none⟩/\b<B/\xs[k]?=some x/\w.cell? ⟨b,a0+k,none⟩=some (.int .u8 x):=by
 obtain⟨b,a0,u,e,hb,hu,hc⟩:=h.at (j:=k) (by rw[aSQ];exact hk);obtain⟨x,hx⟩:=aAy xs hk;unfold aHb at hu;rw[List.getElem?_map,hx] at hu;simp at hu;subst hu;exact⟨b,a0,x,e,hb,hx,hc⟩
def Cur(w:World)(p:Nat)(A:OA)(bs:LI)(c:Nat):Prop:=
 ∃(i:Nat) (h:Int),i<=bs.length/\(-9223372036854775808<=h/\h<=9223372036854775807)/\Box w p [.slice A bs.length c,.int .i64 i,.int .i64 h]/\RV w 0 p A (aHb bs)
theorem Cur.mid{w w':World}{p:Nat}{A:OA}{bs:LI}{c a b:Nat}(h:Cur w p A bs c)(m:Mid a b w w')(hd:p<a \/ b=0:=by omega):Cur w' p A bs c:=by
 obtain⟨i,x,h1,h2,h3,h4⟩:=h;exact⟨i,x,h1,h2,h3.mid m oO,h4.mid m oO⟩
theorem Cur.lt{w:World}{p:Nat}{A:OA}{bs:LI}{c:Nat}(h:Cur w p A bs c):p<w.heap.size:=by
 obtain⟨i,x,h1,h2,h3,h4⟩:=h;exact h3.1
theorem aEy(p:Nat)(A:OA)(bs:LI)(c:Nat)(w:World)(hb:OkB bs)(hl:bs.length<=1048576)(h:Cur w p A bs c) :
  Calls Tryz.prog 189 #[.pointer (some ⟨p,0,none⟩)] w fun e w'=>∃ x:Nat,e=.returned (.int .i64 x)/\x<256/\Cur w' p A bs c/\Mid p (p+1) w w':=by
 obtain⟨i,s,hi,hs,a3,aK⟩:=h;obtain⟨a7,a8,a9⟩:=a3.c3 rfl;have aA:=a3.2.2;have aB:=a3.1;go_enter Tryz.func189,Tryz.ntmps189
 go_wp2_with fail;obtain⟨s2,aF⟩:∃ x,wrap64 (wrap64 (s * 6364136223846793005)+1442695040888963407)=x:=⟨_,rfl⟩
 have aC:-9223372036854775808<=s2/\s2<=9223372036854775807:=by rw[<- aF];unfold wrap64;omega
 rw[aF];clear aF;have a1:=a3.set 2 s2 oM rfl;have aD:Mid p (p+1) w (w.setCell ⟨p,2,none⟩ s2):=Mid.setCell w _ oN oS;have a5:=aK.mid aD (Or.inr oN);generalize w.setCell ⟨p,2,none⟩ s2=w1 at a1 aD a5 |-;clear a7 a8 a9 a3 aK aB aA;obtain⟨a7,a8,a9⟩:=a1.c3 rfl;have aA:=a1.2.2;have aB:=a1.1;go_quiet (fail)
 go_wp2_with fail;obtain⟨x1,aG⟩:∃ x:Nat,bits BinOp.and IntKind.i64 (bits BinOp.xor IntKind.i64 (s2 / 8589934592) (s2 / 35184372088832)) 255=x:=⟨_,(Int.toNat_of_nonneg (by rw[aPg];omega)).symm⟩
 have aH:x1<256:=by rw[aPg] at aG;omega
 rw[aG];clear aG;have aE:=aD.drewN nq;have a0:=a1.drewN nq;have a4:RV (w1.drewN nq) 0 p A (aHb bs):=a5;generalize w1.drewN nq=w2 at a0 aE a4 |-;clear a7 a8 a9 a1 a5 aB aA aD;obtain⟨a7,a8,a9⟩:=a0.c3 rfl;have aA:=a0.2.2;have aB:=a0.1;by_cases hlt:i<bs.length
 .go_quiet (fail)
  have aJ:=aE.drewN nq;have a2:=a0.drewN nq;have a6:RV (w2.drewN nq) 0 p A (aHb bs):=a4;generalize w2.drewN nq=w3 at a2 aJ a6 |-;clear a7 a8 a9 a0 a4 aB aA aE;obtain⟨a7,a8,a9⟩:=a2.c3 rfl;have aA:=a2.2.2;have aB:=a2.1;go_wp2_with fail;obtain⟨B,aP,y,rfl,hB,hy,aN⟩:=a6.rs.byte hlt;have aO:=hb y (oG hy);clear hy;go_quiet (fail)
  go_wp2_with fail;obtain⟨x2,aL⟩:∃ x:Nat,bits BinOp.and IntKind.i64 ((x1:Int)+y) 255=x:=⟨_,(Int.toNat_of_nonneg (by rw[aPg];omega)).symm⟩
  have aI:x2<256:=by rw[aPg] at aL;omega
  rw[aL];go_ret;have aM:=(aJ.drewN nq).trans (Mid.setCell (w3.drewN nq) (p:=⟨p,1,none⟩) (.int .i64 ((i:Int)+1)) oN oS);refine⟨x2,rfl,aI,⟨i+1,s2,oO,aC,?_,?_⟩,aM⟩
  .simpa using(a2.drewN nq).set 1 (.int .i64 ((i:Int)+1)) oM rfl
  exact RV.mid (w:=w3.drewN nq) a6 (Mid.setCell (w3.drewN nq) (p:=⟨p,1,none⟩) (.int .i64 ((i:Int)+1)) oN oS) (Or.inr oN)
 go_quiet (fail)
 go_wp2_with fail;go_ret;exact⟨x1,rfl,aH,⟨i,s2,hi,aC,a0.drewN _,a4⟩,aE.drewN _⟩
theorem aER(n:Nat)(hn:0<n)(a1:n<=1048576)(p:Nat)(A:OA)(bs:LI)(c:Nat)(w:World)(hb:OkB bs)(hl:bs.length<=1048576)(h:Cur w p A bs c) :
  Calls Tryz.prog 111 #[.pointer (some ⟨p,0,none⟩),.int .i64 n] w fun e w'=>∃ x:Nat,e=.returned (.int .i64 x)/\x<n/\Cur w' p A bs c/\Mid p (p+1) w w':=by
 have a0:¬ n=0:=by omega
 by_cases hs:n<=256
 .go_enter Tryz.func111,Tryz.ntmps111
  go_wp2_with fail;with_reducible refine(aEy p A bs c _ hb hl h).mono ?_
  rintro e w1 ⟨x,rfl,hx,h1,m1⟩;go_wp2_with fail;go_ret;exact⟨x % n,rfl,Nat.mod_lt _ hn,h1,m1⟩
 go_enter Tryz.func111,Tryz.ntmps111
 go_wp2_with fail;with_reducible refine(aEy p A bs c _ hb hl h).mono ?_
 rintro e w1 ⟨x,rfl,hx,h1,m1⟩;go_wp2_with fail;with_reducible refine(aEy p A bs c _ hb hl h1).mono ?_
 rintro e w2 ⟨y,rfl,hy,h2,m2⟩;go_wp2_with fail;with_reducible refine(aEy p A bs c _ hb hl h2).mono ?_
 rintro e w3 ⟨z,rfl,hz,h3,m3⟩;go_wp2_with fail;with_reducible refine(aEy p A bs c _ hb hl h3).mono ?_
 rintro e w4 ⟨t,rfl,ht,h4,m4⟩;go_wp2_with fail;go_ret;exact⟨(x * 16777216+y * 65536+z * 256+t) % n,by simp,Nat.mod_lt _ hn,h4,((m1.trans m2).trans m3).trans m4⟩
theorem aQC(n:Nat)(hn:0<n)(a0:n<=1048576)(p:Nat)(A:OA)(bs:LI)(c:Nat)(w:World)(hb:OkB bs)(hl:bs.length<=1048576)(h:Cur w p A bs c) :
  Calls Tryz.prog 91 #[.pointer (some ⟨p,0,none⟩),.int .i64 n] w fun e w'=>∃ x:Bool,e=.returned (.bool x)/\Cur w' p A bs c/\Mid p (p+1) w w':=by
 go_enter Tryz.func91,Tryz.ntmps91
 go_wp2_with fail;with_reducible refine(aER n hn a0 p A bs c _ hb hl h).mono ?_
 rintro e w1 ⟨x,rfl,hx,h1,m1⟩;go_wp2_with fail;all_goals
  go_ret;exact⟨_,rfl,h1,m1⟩
theorem aLZ(B:OA)(xs:LI)(d:Nat)(a3:0<xs.length)(a2:xs.length<=1048576)(p:Nat)(A:OA)(bs:LI)(c:Nat)(w:World)(lo hi:Nat)(hx:RI w lo hi B xs)(hp:p<lo \/ hi<=p)(hb:OkB bs)(hl:bs.length<=1048576)(h:Cur w p A bs c) :
  Calls Tryz.prog 176 #[.pointer (some ⟨p,0,none⟩),.slice B xs.length d] w fun e w'=>∃ x:Int,e=.returned (.int .i64 x)/\x∈xs/\Cur w' p A bs c/\Mid p (p+1) w w':=by
 go_enter Tryz.func176,Tryz.ntmps176
 go_wp2_with fail;with_reducible refine(aER xs.length a3 a2 p A bs c _ hb hl h).mono ?_
 rintro e w1 ⟨k,rfl,hk,h1,m1⟩;have a4:=hx.mid m1 oO;obtain⟨b,a6,x,rfl, -,a1,a5⟩:=a4.rs.int hk;have a0:=oG a1;clear a1;go_wp2_with fail;go_ret;exact⟨x,rfl,a0,h1,m1⟩
theorem aAQ(n:Int)(hn:0<n)(a0:n<=1048576)(p:Nat)(A:OA)(bs:LI)(c:Nat)(w:World)(hb:OkB bs)(hl:bs.length<=1048576)(h:Cur w p A bs c) :
  Calls Tryz.prog 111 #[.pointer (some ⟨p,0,none⟩),.int .i64 n] w fun e w'=>∃ x:Nat,e=.returned (.int .i64 x)/\(x:Int)<n/\Cur w' p A bs c/\Mid p (p+1) w w':=by
 obtain⟨m,rfl⟩:=Int.eq_ofNat_of_zero_le (by omega:0<=n);exact(aER m oO oO p A bs c w hb hl h).mono fun _ _ ⟨x,he,hx,h⟩=>⟨x,he,oO,h⟩
theorem aGL(n:Int)(hn:0<n)(a0:n<=1048576)(p:Nat)(A:OA)(bs:LI)(c:Nat)(w:World)(hb:OkB bs)(hl:bs.length<=1048576)(h:Cur w p A bs c) :
  Calls Tryz.prog 91 #[.pointer (some ⟨p,0,none⟩),.int .i64 n] w fun e w'=>∃ x:Bool,e=.returned (.bool x)/\Cur w' p A bs c/\Mid p (p+1) w w':=by
 obtain⟨m,rfl⟩:=Int.eq_ofNat_of_zero_le (by omega:0<=n);exact aQC m oO oO p A bs c w hb hl h
theorem aDC(B:OA)(xs:LI)(n d:Nat)(a2:xs.length=n)(a1:0<n)(a0:n<=1048576)(p:Nat)(A:OA)(bs:LI)(c:Nat)(w:World)(lo hi:Nat)(hx:RI w lo hi B xs)(hp:p<lo \/ hi<=p)(hb:OkB bs)(hl:bs.length<=1048576)(h:Cur w p A bs c) :
  Calls Tryz.prog 176 #[.pointer (some ⟨p,0,none⟩),.slice B n d] w fun e w'=>∃ x:Int,e=.returned (.int .i64 x)/\x∈xs/\Cur w' p A bs c/\Mid p (p+1) w w':=by
 subst a2;exact aLZ B xs d a1 a0 p A bs c w lo hi hx hp hb hl h
theorem aEz(A:OA)(bs:LI)(c:Nat)(w:World)(hi:Nat)(hb:OkB bs)(hl:bs.length<=1048576)(hr:RV w 0 hi A (aHb bs)) :
  Calls Tryz.prog 90 #[.slice A bs.length c] w fun e w'=>∃ p,e=.returned (.pointer (some ⟨p,0,none⟩))/\w.heap.size<=p/\Cur w' p A bs c/\Mid 0 0 w w':=by
 have a0:∀ x:Int,(0<=x/\x<=1073741824)->Cur (w.alloc (.cells #[.slice A bs.length c,(0:Int),.int .i64 x] 149)) w A bs c:=fun x hx=>
  ⟨0,x,oZ,oO,by simpa using oJ w #[.slice A bs.length c,(0:Int),x] 149,(hr.mid (oE w _) oZl).wide oZ hr.1 oM⟩
 have a0:=oH a0;go_enter Tryz.func90,Tryz.ntmps90
 go_wp2_with fail;go_loop [3,4] (fun hv i=>∃(k:Nat) (x:Int),k<=bs.length/\i=.int .i64 k/\hv=.int .i64 x/\(0<=x/\x<=1073741824)) (fun _ i=>bs.length - (intOf i).toNat)
 case atStart=>exact⟨0,_,oZ,rfl,rfl,oO,oO⟩
 obtain⟨k,x,hk,rfl,rfl,hx⟩:=hrel;by_cases hlt:k<bs.length
 .obtain⟨K,hK⟩:∃ x:Bool,decide ((k:Int)<4000)=x:=⟨_,rfl⟩
  cases K
  .go_wp2_with fail
   go_ret;exact⟨w.heap.size,rfl,oN,a0.out x hx,oE _ _⟩
  obtain⟨b,a5,y,rfl, -,hy,a3⟩:=hr.rs.byte hlt;have a4:=hb y (oG hy);clear hy;go_wp2_with fail;obtain⟨x2,a2⟩:∃ z,bits BinOp.and IntKind.i64 (x * 131+y+7) 1073741823=z:=⟨_,rfl⟩
  have a1:0<=x2/\x2<=1073741824:=by rw[aVF] at a2;omega
  rw[a2];go_round
  case rel=>exact⟨k+1,x2,oO,by go_num,rfl,a1⟩
  simp[intOf];omega
 go_wp2_with fail;go_ret;exact⟨w.heap.size,rfl,oN,a0.out x hx,oE _ _⟩
theorem LtW.ok{w:LI}(h:LtW w):OkI w:=fun x hx=>by
 have:=h x hx;unfold Lt3 at this;omega
def aQW:Value->Nat
|.int _ n=>n.toNat
|_=>0
theorem aMa(r:Int)(aQ:1<=r)(aR:r<=3)(m:Int)(aO:0<=m)(a6:m<=24)(p:Nat)(A:OA)(bs:LI)(c:Nat)(w:World)(hb:OkB bs)(hl:bs.length<=1048576)(h:Cur w p A bs c) :
  Calls Tryz.prog 139 #[.pointer (some ⟨p,0,none⟩),.int .i64 r,.int .i64 m] w fun e w'=>∃ A' c' xs,e=.returned (.slice A' (List.length xs) c')/\(((xs.length:Nat):Int)<=m/\LtW xs/\Rd xs)/\OI w' w.heap.size w'.heap.size A' c' xs/\Cur w' p A bs c/\Mid p (p+1) w w':=by
 have a3:=h.lt;have a4:=oE w (.cells #[] 3);have ho:=aAd w 3 1;have h0:=h.mid a4 (Or.inr rfl);go_enter Tryz.func139,Tryz.ntmps139
 go_wp2_with fail;with_reducible refine(aAQ (m+1) oO oO p A bs c _ hb hl h0).mono ?_
 rintro e w1 ⟨n0,rfl,aP,h1,m1⟩;have aK:=aAb ho m1 oL;have aB:=a4.zero.trans m1;have aS:=aB.size;clear h0 a4 m1 ho;go_wp2_with fail;go_loopw [7,8] (fun wv nv wr=>∃(xs:LI) (n:Nat) (Ax:OA) (cx L:Nat),nv=.int .i64 n/\wv=.slice Ax L cx/\Hid (xs.length=L)/\(L:Int)+(n:Int)<=m/\Hid (LtW xs)/\wr.ownsRow w.heap.size 3 1 (.slice Ax L cx) L (aAe xs)/\Cur wr p A bs c/\Mid p (p+1) w wr)
  (fun _ nv _=>aQW nv)
 case atStart=>exact⟨[],n0,_,_,0,rfl,rfl,oH rfl,oO,oH LtW.nil,by simpa [aAe] using aK,h1,aB⟩
 obtain⟨xs,n,Ax,cx,L,rfl,rfl,HL,aN,HW,ho,hc,hm⟩:=hrel;have hs:=hm.size;by_cases hlt:0<n
 .go_wp2_with fail
  with_reducible refine(aAQ r oO oO p A bs c _ hb hl hc).mono ?_
  rintro e w2 ⟨x,rfl,hx,a9,m2⟩;have aC:=aAb ho m2 (Or.inl a3);have a6:=hm.trans m2;have aM:IntKind.i64.wrap (1+(x:Int))=1+(x:Int):=oI _;clear ho hc m2;go_wp2_with fail;with_reducible refine(aGL 2 oD oD p A bs c _ hb hl a9).mono ?_
  rintro e w3 ⟨b,rfl,aA,m3⟩;have a2:=aAb aC m3 (Or.inl a3);have a7:=a6.trans m3;have aF:=a7.size;clear aC a9 m3 a6 hm;have key:∀ y:Int,(y=1+(x:Int) \/ y = -(1+(x:Int)))->Lt3 y:=fun y hy=>by
   unfold Lt3;omega
  have a8:=oH key;clear key;cases b
  .go_wp2_with (at_builtin;refine aAk rfl _ _ 44 rfl w 3 (.int .i64 0) 1 8 aBo aBs rfl oD _ _ _ rfl a2 1 [.int .i64 (1+(x:Int))] rfl rfl ?c1 ?c2 ?c3 aF ?next)
   case c1=>exact aAm [1+(x:Int)]
   case c2=>unfold maxLen;omega
   case c3=>omega
   case next=>
    intro v4 w4 a1 a0 a5;obtain⟨A4,c4,rfl, -, -⟩:=aAc a1;have m4:Mid w w3 w3 w4:=oF a2 a0;go_wp2_with fail;go_roundw
    case rel=>
     refine⟨xs++[1+(x:Int)],n - 1,A4,c4,L+1,by go_num,rfl,oH (by simp[HL.out]),oO,oH (HW.out.app (LtW.one (a8.out _ (.inl rfl)))),by rw[aAi];exact a1,aA.mid m4 (Or.inl a3),a7.transNew m4 (Or.inl oN)⟩
    simp[aQW];omega
  .go_wp2_with (at_builtin;refine aAk rfl _ _ 44 rfl w 3 (.int .i64 0) 1 8 aBo aBs rfl oD _ _ _ rfl a2 1 [.int .i64 (-(1+(x:Int)))] rfl rfl ?c1 ?c2 ?c3 aF ?next)
   case c1=>exact aAm [-(1+(x:Int))]
   case c2=>unfold maxLen;omega
   case c3=>omega
   case next=>
    intro v4 w4 a1 a0 a5;obtain⟨A4,c4,rfl, -, -⟩:=aAc a1;have m4:Mid w w3 w3 w4:=oF a2 a0;go_wp2_with fail;go_roundw
    case rel=>
     refine⟨xs++[-(1+(x:Int))],n - 1,A4,c4,L+1,by go_num,rfl,oH (by simp[HL.out]),oO,oH (HW.out.app (LtW.one (a8.out _ (.inr rfl)))),by rw[aAi];exact a1,aA.mid m4 (Or.inl a3),a7.transNew m4 (Or.inl oN)⟩
    simp[aQW];omega
 have aD:=HW.out.ok;have aG:=HL.out;have aE:=Rs.of_own ho;have aI:Calls Tryz.prog 106 #[.slice Ax L cx] wr fun e w'=>RetI 3 (red [] xs) wr e w':=by
  have:=aBk Ax xs cx wr wr aE oN aD oO
  rwa [aG] at this
 clear aD aG aE;go_wp2_with fail;with_reducible refine aI.mono ?_
 rintro e w5 ⟨A5,c5,rfl,aL,aH⟩;go_wp2_with fail;go_ret;have aJ:=aBu xs;have hL:=HL.out;have m5:Mid 0 0 wr w5:=Mid.of_below aH;exact⟨A5,c5,red [] xs,rfl,⟨oO,aHF HW.out,aHO HW.out⟩,(OV.new aL).wide hs oN oN,hc.mid m5 (Or.inr rfl),hm.trans m5.zero⟩
theorem aNM(r s:Int)(A:OA)(es:List Ed)(c:Nat)(e:Ed)(w:World)(lo hi:Nat)(hr:RG w lo hi A es)(hg:IsGr r s es)(he:edB r s e=true)(hl:es.length<120)(aJ:es.length<(aCw e es).length) :
  Calls Tryz.prog 228 #[aAJ r s A es.length c,e.v] w fun en w'=>∃ A1 c1,en=.returned (.tuple #[aAJ r s A1 (aCw e es).length c1,.bool true])/\RG w' w.heap.size w'.heap.size A1 (aCw e es)/\Mid 0 0 w w':=by
 have a3:Mid 0 0 w (((w.alloc (.cells #[r,s,.slice A es.length c] 35)).alloc (.cells #[.int .i64 e.a,.int .i64 e.l,.int .i64 e.b] 110)).alloc (.cells #[(0:Int),(0:Int),.slice none 0 0] 35)):=((oE _ _).trans (oE _ _)).trans (oE _ _);have B0:=((oJ w #[r,s,.slice A es.length c] 35).mid (oE _ (.cells #[.int .i64 e.a,.int .i64 e.l,.int .i64 e.b] 110)) oZr).mid (oE _ (.cells #[(0:Int),(0:Int),.slice none 0 0] 35)) oZr;have B1:=(oJ (w.alloc (.cells #[r,s,.slice A es.length c] 35)) #[.int .i64 e.a,.int .i64 e.l,.int .i64 e.b] 110).mid (oE _ (.cells #[(0:Int),(0:Int),.slice none 0 0] 35)) oZr;have B2:=oJ ((w.alloc (.cells #[r,s,.slice A es.length c] 35)).alloc (.cells #[.int .i64 e.a,.int .i64 e.l,.int .i64 e.b] 110)) #[(0:Int),(0:Int),.slice none 0 0] 35;simp only[World.size_alloc] at B1 B2;have HG:=oH hg;clear hg;go_enter Tryz.func228,Tryz.ntmps228
 go_wp2_with fail;generalize ((w.alloc (.cells #[r,s,.slice A es.length c] 35)).alloc (.cells #[.int .i64 e.a,.int .i64 e.l,.int .i64 e.b] 110)).alloc (.cells #[(0:Int),(0:Int),.slice none 0 0] 35)=w1 at a3 B0 B1 B2 |-;have aS:w.heap.size+1+1<w1.heap.size:=B2.1;with_reducible refine(aCk r s A es c _ _ _ (hr.mid a3 oZl) oO).mono ?_
 rintro en w2 ⟨A1,c1,rfl,aK,aE⟩;have aC:=oE w2 (.cells #[r,s,.slice A1 es.length c1] 35);have Y3:=oJ w2 #[r,s,.slice A1 es.length c1] 35;have aT:=aE.size;replace B0:=B0.mid aE oZr;replace B1:=B1.mid aE oZr;replace B2:=B2.mid aE oZr;replace a3:=a3.trans aE;replace B0:=B0.mid aC oZr;replace B1:=B1.mid aC oZr;replace B2:=B2.mid aC oZr;replace a3:=a3.trans aC;obtain⟨p0,p1,p2⟩:=B0.c3 rfl;go_wp2_with fail;generalize w2.alloc (.cells #[r,s,.slice A1 es.length c1] 35)=w3 at a3 B0 B1 B2 Y3 p0 p1 p2 |-;have aO:w2.heap.size<w3.heap.size:=Y3.1;with_reducible refine(aBa r s A es c _ _ _ (hr.mid a3 oZl).rv oO true (oX rfl HG.out)).mono ?_
 rintro en w4 ⟨rfl,a7⟩;replace B0:=B0.mid a7 oZr;replace B1:=B1.mid a7 oZr;replace B2:=B2.mid a7 oZr;replace Y3:=Y3.mid a7 oZr;replace a3:=a3.trans a7;have aU:=a7.size;clear p0 p1 p2 a7 aK aC;obtain⟨p0,p1,p2⟩:=B0.c3 rfl;obtain⟨k0,k1,k2⟩:=B1.c3 rfl;go_wp2_with fail;have aH:=aGY r s A es.length c e w4;rw[he] at aH;with_reducible refine aH.mono ?_
 rintro en w5 ⟨rfl,a8⟩;replace B0:=B0.mid a8 oZr;replace B1:=B1.mid a8 oZr;replace B2:=B2.mid a8 oZr;replace Y3:=Y3.mid a8 oZr;replace a3:=a3.trans a8;have aV:=a8.size;clear p0 p1 p2 k0 k1 k2 a8 aH;obtain⟨p0,p1,p2⟩:=B0.c3 rfl;obtain⟨k0,k1,k2⟩:=B1.c3 rfl;have d1:decide ((120:Int)<=(es.length:Int))=false:=by simp;omega
 go_wp2_with fail;with_reducible refine(aBz A es c e w5 _ _ (hr.mid a3 oZl) oO).mono ?_
 rintro en w6 ⟨A6,c6,rfl,aI,a9⟩;replace B0:=B0.mid a9 oZr;replace B1:=B1.mid a9 oZr;replace B2:=B2.mid a9 oZr;replace Y3:=Y3.mid a9 oZr;replace a3:=a3.trans a9;have aW:=a9.size;clear p0 p1 p2 k0 k1 k2 a9;obtain⟨P,hP⟩:∃ P,aCw e es=P:=⟨_,rfl⟩
 rw[hP] at aJ aI |-;have a4:=Mid.setCell w6 (lo:=w2.heap.size) (hi:=w2.heap.size+1) (p:=⟨w2,2,none⟩) (.slice A6 P.length c6) oN oS;have qf:=Y3.2.2;have q2:=Y3.cell 2 rfl;have aP:w2.heap.size<w6.heap.size:=Y3.1;have Y4:=Y3.set 2 (.slice A6 P.length c6) oM rfl;simp only[List.set_cons_succ,List.set_cons_zero] at Y4;have a6:=B0.mid a4;have a5:=B2.mid a4;have aA:=a3.storeNew (p:=⟨w2,2,none⟩) (by show w.heap.size<=w2.heap.size;omega) (.slice A6 P.length c6);have aB:=(OG.rg aI).mid a4;have aL:=a4.size;go_wp2_with fail;generalize w6.setCell ⟨w2,2,none⟩ (.slice A6 P.length c6)=w9 at Y4 a6 a5 aA aB aL |-;have aF:=Mid.drew1 w9;clear B0 B2 Y3 a3 aI a4 B1;have aM:w9.heap.size<=w9.drew.heap.size:=oN;replace a6:=a6.mid aF oZr;replace a5:=a5.mid aF oZr;replace Y4:=Y4.mid aF oZr;replace aB:=aB.mid aF oZl;replace aA:=aA.trans aF;obtain⟨p0,p1,p2⟩:=a6.c3 rfl;obtain⟨q0,q1,q2⟩:=Y4.c3 rfl;have d2:decide ((es.length:Int)<(P.length:Int))=true:=by simp;omega
 clear qf q2;have aQ:w.heap.size+1+1<w2.heap.size:=by omega
 clear q0 q1 q2 p0 p1 p2;obtain⟨q0,q1,q2⟩:=Y4.c3 rfl;obtain⟨p0,p1,p2⟩:=a6.c3 rfl;refine aAo (S:=(fun w'=>(w'.cell? ⟨w2,0,none⟩=some (.int .i64 r)/\w'.cell? ⟨w2,1,none⟩=some (.int .i64 s)/\w'.cell? ⟨w2,2,none⟩=some (.slice A6 P.length c6))/\w'.cell? ⟨w,2,none⟩=some (.slice A es.length c))) [] oK ⟨⟨q0,q1,q2⟩,p2⟩ ?_;generalize World.drew w9=wz at Y4 a6 a5 aA aB aM q0 q1 q2 p2 |-;have hS:(wz.cell? ⟨w2,0,none⟩=some (.int .i64 r)/\wz.cell? ⟨w2,1,none⟩=some (.int .i64 s)/\wz.cell? ⟨w2,2,none⟩=some (.slice A6 P.length c6))/\wz.cell? ⟨w,2,none⟩=some (.slice A es.length c):=⟨⟨q0,q1,q2⟩,p2⟩
 refine tkZ [] 0 rfl hS ?_;try simp only[oP]
 refine tkZ [] 1 rfl hS ?_;try simp only[oP]
 refine tkZ [] 2 rfl hS ?_;try simp only[oP]
 refine tkZ [] 3 rfl hS ?_;try simp only[oP]
 refine tkZ [] 4 rfl hS ?_;try simp only[oP]
 refine tkZ [] 5 rfl hS ?_;try simp only[oP]
 refine tkZ [] 6 rfl hS ?_;try simp only[oP]
 refine tkZ [] 7 rfl hS ?_;try simp only[oP]
 have a4:=Mid.s3 wz (w.heap.size+1+1) r s (.slice A6 P.length c6);have Y5:=Y4.mid a4;have B5:=a6.mid a4;have V2:=a5.s3 r s (.slice A6 P.length c6);have aG:=aB.mid a4;have aD:=aA.n3 (w.heap.size+1+1) oO r s (.slice A6 P.length c6);have aN:=a4.size;obtain⟨a0,a1,a2⟩:=a5.c3 rfl;have af:=a5.2.2;have aR:w.heap.size+1+1<wz.heap.size:=a5.1;refine rdZ 8 rfl (fun K hK=>?_);go_simp;refine hK.out _ _ (Or.inr ⟨Y5.c3 rfl,B5.cell 2 rfl⟩) (fun _=>?_);clear hK K;try simp only[oP]
 refine rdZ 9 rfl (fun K hK=>?_);go_simp;refine hK.out _ _ (Or.inr ⟨Y5.c3 rfl,B5.cell 2 rfl⟩) (fun _=>?_);clear hK K;try simp only[oP]
 refine aAj oK ?_ _;clear hS q0 q1 q2 p0 p1 p2 a0 a1 a2 af a4 Y4 a6 a5 aB aA;generalize ((wz.setCell ⟨w.heap.size+1+1,0,none⟩ r).setCell ⟨w.heap.size+1+1,1,none⟩ s).setCell ⟨w.heap.size+1+1,2,none⟩ (.slice A6 P.length c6)=w11 at V2 Y5 B5 aG aD aN |-;obtain⟨a0,a1,a2⟩:=V2.c3 rfl;have af:=V2.2.2;subst hP;go_wp2_with fail;refine oW (v:=.tuple #[.agg #[r,s,.slice A6 (aCw e es).length c6],.bool true]) (by simp[results,Tryz.results228,go_sem,a0,a1,a2,af]) rfl ⟨A6,c6,rfl,?_,?_⟩
 .exact RV.wide aG oO oO oN
 exact aD
theorem aTP{x:Int}{b:Bool}(hb:b=true↔1<=x/\x<=3):inB x 1 3=b:=by
 unfold inB;cases b
 .have h:¬ (1<=x/\x<=3):=fun h=>by have:=hb.2 h;cases this
  simp;omega
 have:=hb.1 rfl;simp;omega
theorem aKP(rank:Int)(w:World)(h:1<=rank/\rank<=3) :
  Calls Tryz.prog 180 #[rank] w fun e w'=>e=.returned (.tuple #[aAJ rank 1 none 0 0,.bool true])/\Mid 0 0 w w':=by
 have a0:Mid 0 0 w (w.alloc (.cells #[(0:Int),(0:Int),.slice none 0 0] 35)):=oE _ _;have b2:=oJ w #[(0:Int),(0:Int),.slice none 0 0] 35;have a1:inB rank 1 3=true:=aTP (oX rfl h);go_enter Tryz.func180,Tryz.ntmps180
 go_wp2_with fail;generalize w.alloc (.cells #[(0:Int),(0:Int),.slice none 0 0] 35)=w1 at a0 b2 |-;have a2:w.heap.size<w1.heap.size:=b2.1;with_reducible refine(aBQ a1 _).mono ?_
 rintro en w2 ⟨rfl,rfl⟩;obtain⟨z0,z1,z2⟩:=b2.c3 rfl;have zf:=b2.2.2;go_wp2_with fail;refine oW (v:=.tuple #[.agg #[rank,(1:Int),.slice none 0 0],.bool true]) (by simp[results,Tryz.results180,go_sem,z0,z1,z2,zf]) rfl ⟨rfl,?_⟩;repeat (first|exact a0|refine oQ ?_ (by simp;try omega) _)
theorem aKQ(rank:Int)(w:World)(h:¬ (1<=rank/\rank<=3)) :
  Calls Tryz.prog 180 #[rank] w fun e w'=>e=.returned (.tuple #[aAJ 0 0 none 0 0,.bool false])/\Mid 0 0 w w':=by
 have a0:Mid 0 0 w (w.alloc (.cells #[(0:Int),(0:Int),.slice none 0 0] 35)):=oE _ _;have b2:=oJ w #[(0:Int),(0:Int),.slice none 0 0] 35;have a1:inB rank 1 3=false:=aTP (iff_of_false Bool.false_ne_true h);go_enter Tryz.func180,Tryz.ntmps180
 go_wp2_with fail;generalize w.alloc (.cells #[(0:Int),(0:Int),.slice none 0 0] 35)=w1 at a0 b2 |-;have a2:w.heap.size<w1.heap.size:=b2.1;with_reducible refine(aBQ a1 _).mono ?_
 rintro en w2 ⟨rfl,rfl⟩;obtain⟨z0,z1,z2⟩:=b2.c3 rfl;have zf:=b2.2.2;go_wp2_with fail;refine oW (v:=.tuple #[.agg #[(0:Int),(0:Int),.slice none 0 0],.bool false]) (by simp[results,Tryz.results180,go_sem,z0,z1,z2,zf]) rfl ⟨rfl,?_⟩;repeat (first|exact a0|refine oQ ?_ (by simp;try omega) _)
def whG(k:Nat):List Ed:=(List.range k).map fun(i:Nat)=>(⟨0,(i:Int)+1,0⟩:Ed)
theorem aHa(k:Nat):(whG k).length=k:=by simp[whG]
theorem aSH{k:Nat}(h:k<=2):aCw ⟨0,(k:Int)+1,0⟩ (whG k)=whG (k+1):=by
 rcases k with _|_|_|k
 .decide
 .decide
 .decide
 omega
theorem aTW{r k:Nat}(h:k<=r)(h1:1<=r)(h3:r<=3):IsGr r 1 (whG k):=by
 refine⟨oO,oO,by rw[aHa];omega,?_,?_⟩
 .intro e he
  simp only[whG,List.mem_map,List.mem_range] at he;obtain⟨i,hi,rfl⟩:=he;unfold InG;simp only;omega
 have a0:k<=3:=by omega
 unfold Asc;rcases k with _|_|_|_|k
 .exact List.Pairwise.nil
 .simp[whG,List.range_succ]
 .simp[whG,List.range_succ,LtE]
 .simp[whG,List.range_succ,LtE]
 omega
theorem aKv(rn:Nat)(w:World)(aJ:1<=rn)(aK:rn<=3) :
  Calls Tryz.prog 169 #[.int .i64 rn] w fun e w'=>∃ A1 c1,e=.returned (.tuple #[aAJ rn 1 A1 rn c1,.bool true])/\RG w' w.heap.size w'.heap.size A1 (whG rn)/\Mid 0 0 w w':=by
 have a4:Mid 0 0 w (w.alloc (.cells #[(0:Int),(0:Int),.slice none 0 0] 35)):=oE _ _;have B2:=oJ w #[(0:Int),(0:Int),.slice none 0 0] 35;go_enter Tryz.func169,Tryz.ntmps169
 go_wp2_with fail;generalize w.alloc (.cells #[(0:Int),(0:Int),.slice none 0 0] 35)=w1 at a4 B2 |-;have aN:w.heap.size<w1.heap.size:=B2.1;with_reducible refine(aKP rn _ oO).mono ?_
 rintro en w2 ⟨rfl,a8⟩;have aO:=a8.size;have a3:=oE w2 (.cells #[rn,(1:Int),.slice none 0 0] 35);have Y4:=oJ w2 #[rn,(1:Int),.slice none 0 0] 35;replace B2:=B2.mid a8 oZr;replace a4:=a4.trans a8;replace B2:=B2.mid a3 oZr;replace a4:=a4.trans a3;go_wp2_with fail;generalize w2.alloc (.cells #[rn,(1:Int),.slice none 0 0] 35)=w3 at a4 B2 Y4 |-;clear a8 a3;generalize aE:w2.heap.size=Gb at Y4 |-;have aD:Hid (RG w3 (Gb+1) w3.heap.size none (whG 0)):=oH ⟨oN,fun hn=>absurd rfl hn⟩;have aG:w.heap.size<Gb:=by omega
 clear aE;go_loopw [6] (fun iv wr=>∃(k:Nat) (A1:OA) (c1:Nat),iv=.int .i64 ((k:Int)+1)/\Hid (k<=rn)/\Hid (RG wr (Gb+1) wr.heap.size A1 (whG k))/\Box wr Gb [.int .i64 rn,.int .i64 1,.slice A1 k c1]/\Box wr w.heap.size [.int .i64 0,.int .i64 0,.slice none 0 0]/\Mid 0 0 w wr) (fun iv _=>rn - ((intOf iv).toNat - 1))
 case atStart=>exact⟨0,none,0,rfl,oH oZ,aD,Y4,B2,a4⟩
 clear aD Y4 B2 a4;obtain⟨k,A1,c1,rfl,HK,HG,Y4,B2,hm⟩:=hrel;have aI:=HK.out;by_cases hlt:k<rn
 .have aH:((k:Int)+1<=(rn:Int)):=by omega
  have d1:decide ((k:Int)+1<=(rn:Int))=true:=by simp;omega
  have aP:IntKind.i64.wrap ((k:Int)+1+1)=(k:Int)+1+1:=oI _;have hE:=aNM rn 1 A1 (whG k) c1 ⟨0,(k:Int)+1,0⟩ wr _ _ HG.out (aTW aI aJ aK) (by unfold edB inB;simp[wrap64];omega) (by rw[aHa];omega) (by rw[aSH oO,aHa,aHa];omega);rw[aSH oO,aHa,aHa] at hE;obtain⟨p0,p1,p2⟩:=Y4.c3 rfl;go_wp2_with fail;with_reducible refine hE.mono ?_
  rintro en w5 ⟨A5,c5,rfl,h5,a6⟩;have aL:=a6.size;have aC:Gb<wr.heap.size:=Y4.1;replace Y4:=Y4.mid a6 oZr;replace B2:=B2.mid a6 oZr;replace hm:=hm.trans a6;have aM:Gb<w5.heap.size:=Y4.1;obtain⟨s0,s1,s2⟩:=Y4.c3 rfl;have sf:=Y4.2.2;have a5:=Mid.s3 w5 Gb rn (.int .i64 1) (.slice A5 (k+1) c5);have V4:=Y4.s3 rn (.int .i64 1) (.slice A5 (k+1) c5);have V2:=B2.mid a5;have a9:=hm.n3 Gb (Nat.le_of_lt aG) rn (.int .i64 1) (.slice A5 (k+1) c5);have aB:=oH (RV.mid h5 a5 (Or.inl aC));clear p0 p1 p2 hE a6 h5 HG Y4 B2 hm;go_wp2_with fail;generalize ((w5.setCell ⟨Gb,0,none⟩ rn).setCell ⟨Gb,1,none⟩ (.int .i64 1)).setCell ⟨Gb,2,none⟩ (.slice A5 (k+1) c5)=w9 at V4 V2 aB a9 a5 |-;have a3:=oE w9 (.cells #[rn,(1:Int),.slice A5 (k+1) c5] 35);generalize w9.alloc (.cells #[rn,(1:Int),.slice A5 (k+1) c5] 35)=w10 at a3 |-;have aF:=a5.size;have a7:=a3.size;replace V4:=V4.mid a3 oZr;replace V2:=V2.mid a3 oZr;replace a9:=a9.trans a3;have aA:Hid (RG w10 (Gb+1) w10.heap.size A5 (whG (k+1))):=oH (RV.wide (RV.mid aB.out a3 oZl) aC (oV aF a7) oN);clear aB a5 a3 sf s0 s1 s2 aL aF a7;go_roundw
  case rel=>exact⟨k+1,A5,c5,by go_num,oH hlt,aA,V4,V2,a9⟩
  simp[intOf];omega
 obtain rfl:rn=k:=by omega
 have aH:¬ ((rn:Int)+1<=(rn:Int)):=by omega
 have d1:decide ((rn:Int)+1<=(rn:Int))=false:=by simp;omega
 obtain⟨p0,p1,p2⟩:=Y4.c3 rfl;obtain⟨a0,a1,a2⟩:=B2.c3 rfl;have af:=B2.2.2;have aC:Gb<wr.heap.size:=Y4.1;have aE:w.heap.size<wr.heap.size:=B2.1;go_wp2_with fail;refine oW (v:=.tuple #[.agg #[rn,(1:Int),.slice A1 rn c1],.bool true]) (by simp[results,Tryz.results169,go_sem,a0,a1,a2,af]) rfl ⟨A1,⟨c1,rfl⟩,?_,?_⟩
 .have a5:=Mid.s3 wr w rn (.int .i64 1) (.slice A1 rn c1)
  exact RV.wide (RV.mid HG.out a5 oL) oO a5.size oN
 repeat (first|exact hm|refine oQ ?_ (by simp;try omega) _)
theorem aJe(rank:Int)(w:World)(h:¬ (1<=rank/\rank<=3)) :
  Calls Tryz.prog 169 #[rank] w fun e w'=>e=.returned (.tuple #[aAJ 0 0 none 0 0,.bool false])/\Mid 0 0 w w':=by
 have a3:Mid 0 0 w (w.alloc (.cells #[(0:Int),(0:Int),.slice none 0 0] 35)):=oE _ _;have B2:=oJ w #[(0:Int),(0:Int),.slice none 0 0] 35;go_enter Tryz.func169,Tryz.ntmps169
 go_wp2_with fail;generalize w.alloc (.cells #[(0:Int),(0:Int),.slice none 0 0] 35)=w1 at a3 B2 |-;have a9:w.heap.size<w1.heap.size:=B2.1;with_reducible refine(aKQ rank _ h).mono ?_
 rintro en w2 ⟨rfl,a4⟩;have aA:=a4.size;have a5:=oE w2 (.cells #[(0:Int),(0:Int),.slice none 0 0] 35);have Y4:=oJ w2 #[(0:Int),(0:Int),.slice none 0 0] 35;replace B2:=B2.mid a4 oZr;replace a3:=a3.trans a4;replace B2:=B2.mid a5 oZr;replace a3:=a3.trans a5;go_wp2_with fail;generalize w2.alloc (.cells #[(0:Int),(0:Int),.slice none 0 0] 35)=w3 at a3 B2 Y4 |-;clear a4 a5;generalize a6:w2.heap.size=Gb at Y4 |-;have a8:w.heap.size<Gb:=by omega
 clear a6;go_loopw [6] (fun iv wr=>iv=.int .i64 1/\Box wr Gb [(0:Int),(0:Int),.slice none 0 0]/\Box wr w [(0:Int),(0:Int),.slice none 0 0]/\Mid 0 0 w wr) (fun iv _=>0)
 case atStart=>exact⟨rfl,Y4,B2,a3⟩
 clear Y4 B2 a3;obtain⟨rfl,Y4,B2,hm⟩:=hrel;obtain⟨p0,p1,p2⟩:=Y4.c3 rfl;obtain⟨a0,a1,a2⟩:=B2.c3 rfl;have af:=B2.2.2;have a7:Gb<wr.heap.size:=Y4.1;have a6:w.heap.size<wr.heap.size:=B2.1;by_cases h1:1<=rank
 focus
  have d1:decide ((1:Int)<=rank)=true:=by simpa using h1
 rotate_left
 focus
  have d1:decide ((1:Int)<=rank)=false:=by simpa using h1
 rotate_left
 all_goals
  go_wp2_with fail;refine oW (v:=.tuple #[.agg #[(0:Int),(0:Int),.slice none 0 0],.bool false]) (by simp[results,Tryz.results169,go_sem,a0,a1,a2,af]) rfl ⟨rfl,?_⟩;repeat (first|exact hm|refine oQ ?_ (by simp;try omega) _)
end Go.Proofs.YtkimajabegojoaaGreat
