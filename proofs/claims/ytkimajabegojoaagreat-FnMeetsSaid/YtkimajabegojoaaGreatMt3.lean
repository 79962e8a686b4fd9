/- Lemmas. -/
import Derived.Test.YtkimajabegojoaaGreatMt1
import Derived.Test.YtkimajabegojoaaGreatMt2
import Derived.Deep.CutRange
namespace Go.Proofs.YtkimajabegojoaaGreat
set_option linter.unusedVariables false
set_option linter.unusedSimpArgs false
set_option maxHeartbeats 40000000
set_option maxRecDepth 100000
open Go.RowKit
section
open Go.RowKit
structure Sec (p:Prop):Prop where
 out:p
theorem aPR(l:List Ed)(e:Ed):canon (l++[e])=aCy e (canon l):=(aKu (aKr (aCP l)) fun x=>by rw[aIj,aBD,List.mem_append,List.mem_singleton];exact or_comm).symm
theorem RV.atI{w:World}{lo hi b off:Nat}{l:List Int}{k:Nat}{f:Int}(h:RV w lo hi (some ⟨b,off,none⟩) (aAd l))(hk:l[k]?=some f):b<w.heap.size/\w.cell? ⟨b,off+k,none⟩=some (.int .i64 f):=by
 obtain⟨b2,off2,f2,he,h1,h2,h3⟩:=h.at (List.getElem?_eq_some_iff.1 hk).1;injection he with he
 injection he with he1 he2
 subst he1 he2;rw[hk] at h2;injection h2 with h2
 subst h2;exact⟨Nat.lt_of_lt_of_le h1 h.1,h3⟩
theorem aRj{nb:Int}{P:PS}{k:Nat}{p:Int × Int}{q:Int}(hp:P[k]?=some p)(hq:aAJ nb p=q):(P.map (aAJ nb))[k]?=some q:=by
 rw[List.getElem?_map,hp,<- hq]
 rfl
theorem aUF{na nb:Int}{P:PS}(h:PbOk na nb P){t:Int × Int}(ht:t∈P){k:Nat}{p:Int × Int}(hp:P[k]?=some p):aAJ nb p=aAJ nb t↔k=P.idxOf t:=by
 have hpm:=List.mem_of_getElem? hp;have hlt:=(List.getElem?_eq_some_iff.1 hp).1;have h2:P[P.idxOf t]?=some t:=by
  rw[List.getElem?_eq_getElem (List.idxOf_lt_length_of_mem ht)];exact congrArg some (List.getElem_idxOf _)
 constructor
 .intro he
  have:p=t:=aGZ (h.rng p hpm) (h.rng t ht) he;subst this;exact(List.getElem?_inj hlt h.nd).1 (hp.trans h2.symm)
 intro he;subst he;rw[h2] at hp;injection hp with hp
 rw[hp]
def prI(st:PS):List Int:=st.flatMap fun p=>[p.1,p.2]
theorem aPt(a b:PS):prI (a++b)=prI a++prI b:=by simp[prI]
theorem aTL(p:Int × Int):prI [p]=[p.1,p.2]:=rfl
theorem aKU:∀ st:PS,(prI st).length=st.length * 2
|[]=>rfl
|p::t=>by
  have h:=aKU t;have e:prI (p::t)=p.1::p.2::prI t:=rfl;rw[e];simp only[List.length_cons];omega
theorem aIZ:∀ {st:PS} {k:Nat} {p:Int × Int},st[k]?=some p->(prI st)[k * 2]?=some p.1/\(prI st)[k * 2+1]?=some p.2
|[],k,p,h=>by simp at h
|q::t,0,p,h=>by
  simp at h;subst h;exact⟨rfl,rfl⟩
|q::t,k+1,p,h=>by
  simp at h;have h1:=aIZ h;have e:prI (q::t)=q.1::q.2::prI t:=rfl;rw[e,show(k+1) * 2=k * 2+1+1 by omega];exact h1
section
variable {W:World} {ops:Array Oper} {rest:List Oper} {o:Oper} {a:Act} {Q:Exit->Act->World->Prop}
theorem aDS(hgd:o.guard=none)(s x:Operand)(ho:o.op=.call { callee:=.builtin .append,args:=#[s,x],argTypes:=#[135,135] })(lo:Nat)(A:Option Addr)(n c:Nat)(st:PS)(hs:a.eval s=.slice A n c)(hown:W.ownsRow lo 133 2 (.slice A n c) n (aAd (prI st)))(p:Int × Int)(hx:a.eval x=.slice (some ⟨W.heap.size,0,none⟩) 1 1)(hn:n<=1048576)(hb:lo<=W.heap.size)(h:∀ A' c' w',w'.ownsRow lo 133 2 (.slice A' (n+1) c') (n+1) (aAd (prI (st++[p])))->W.grownBy w' (Value.ownBlock (.slice A n c))->(Value.ownBlock (.slice A' (n+1) c')=Value.ownBlock (.slice A n c) \/ Value.ownBlock (.slice A' (n+1) c')=some (W.heap.size+1))->wpList Tryz.prog ops Q rest (a.put o.dst (.slice A' (n+1) c')) w') :
  wpList Tryz.prog ops Q (o::rest) a (W.alloc (.cells #[.int .i64 p.1,.int .i64 p.2] 133)):=by
 refine aAr (news:=[.int .i64 p.1,.int .i64 p.2]) hgd s x 135 ho lo 133 (.agg #[.int .i64 0,.int .i64 0]) 2 16 aVj aUu rfl (by decide) (.slice A n c) n (aAd (prI st)) hs hown 1 hx rfl ?_ (by unfold maxLen;omega) (by omega) hb ?_
 .intro u hu
  simp at hu;rcases hu with rfl|rfl <;> rfl
 intro v' w' h1 h2 h3;obtain⟨A',c',rfl, -, -⟩:=aAg h1;refine h A' c' w' ?_ h2 h3;rw[aPt,aAj,aTL];exact h1
end
theorem aMe(w:World)(p:Int × Int):(w.alloc (.cells #[.int .i64 p.1,.int .i64 p.2] 133)).ownsRow w.heap.size 133 2 (.slice (some ⟨w.heap.size,0,none⟩) 1 1) 1 (aAd (prI [p])):=
 ⟨rfl,.inr ⟨w.heap.size,1,#[.int .i64 p.1,.int .i64 p.2],rfl,oN,heap_alloc_new w _,oN,by unfold maxLen;omega,rfl,rfl⟩⟩
structure PB (w:World) (r:Int) (Bo M G:Nat) (A1:Option Addr) (n1 c1:Nat) (sto stm:PS) (A2:Option Addr) (n2 c2:Nat) (xs:List Ed):Prop where
 ord:w.ownsRow Bo 133 2 (.slice A1 n1 c1) n1 (aAd (prI sto))
 map:PMap w M stm
 edg:w.ownsRow (G+1) 110 3 (.slice A2 n2 c2) n2 (aAd (edI xs))
 box:Box w G [.int .i64 r,.int .i64 0,.slice A2 n2 c2]
 ne:Value.ownBlock (.slice A1 n1 c1)≠some G
 lt:M<Bo
 le:Bo<=G
section
variable {w w':World} {r:Int} {Bo M G:Nat} {A1:Option Addr} {n1 c1:Nat} {sto stm:PS} {A2:Option Addr} {n2 c2:Nat} {xs:List Ed}
theorem PB.ln1(h:PB w r Bo M G A1 n1 c1 sto stm A2 n2 c2 xs):sto.length=n1:=by
 have h1:=h.ord.1;rw[aAG,aKU] at h1;omega
theorem PB.ln2(h:PB w r Bo M G A1 n1 c1 sto stm A2 n2 c2 xs):xs.length=n2:=by
 have h1:=h.edg.1;rw[aAG,aDo] at h1;omega
theorem PB.mid(h:PB w r Bo M G A1 n1 c1 sto stm A2 n2 c2 xs)(m:Mid 0 0 w w'):PB w' r Bo M G A1 n1 c1 sto stm A2 n2 c2 xs:=
 ⟨aAc h.ord m oZl,h.map.mid m oZr,aAc h.edg m oZl,h.box.mid m oZr,h.ne,h.lt,h.le⟩
theorem PB.put{stm':PS}(h:PB w r Bo M G A1 n1 c1 sto stm A2 n2 c2 xs)(hm:PMap w' M stm')(m:Mid M (M+1) w w'):PB w' r Bo M G A1 n1 c1 sto stm' A2 n2 c2 xs:=by
 have h1:=h.lt;have h2:=h.le;exact⟨aAc h.ord m (Or.inl (by omega)),hm,aAc h.edg m (Or.inl (by omega)),h.box.mid m (Or.inr (by omega)),h.ne,h1,h2⟩
theorem PB.push{A':Option Addr}{c':Nat}{sto':PS}(h:PB w r Bo M G A1 n1 c1 sto stm A2 n2 c2 xs)(h1:w'.ownsRow Bo 133 2 (.slice A' (n1+1) c') (n1+1) (aAd (prI sto')))(hg:w.grownBy w' (Value.ownBlock (.slice A1 n1 c1)))(hat:Value.ownBlock (.slice A' (n1+1) c')=Value.ownBlock (.slice A1 n1 c1) \/ Value.ownBlock (.slice A' (n1+1) c')=some (w.heap.size+1)):PB w' r Bo M G A' (n1+1) c' sto' stm A2 n2 c2 xs:=by
 have hm:=Mid.of_grownRow h.ord hg;have hb:=h.box.1;refine⟨h1,h.map.mid hm (Or.inl h.lt),?_,h.box.grown hg h.ne,?_,h.lt,h.le⟩
 .exact h.edg.kept hg (aBP h.edg h.ord (by decide))
 rcases hat with e|e
 .rw[e]
  exact h.ne
 rw[e];intro e2;injection e2 with e2
 omega
theorem PB.edge{A':Option Addr}{c':Nat}{xs':List Ed}(h:PB w r Bo M G A1 n1 c1 sto stm A2 n2 c2 xs)(h1:w'.ownsRow (G+1) 110 3 (.slice A' (n2+1) c') (n2+1) (aAd (edI xs')))(hg:w.grownBy w' (Value.ownBlock (.slice A2 n2 c2))) :
  PB (w'.setCell ⟨G,2,none⟩ (.slice A' (n2+1) c')) r Bo M G A1 n1 c1 sto stm A' (n2+1) c' xs':=by
 have hm:=Mid.of_grownRow h.edg hg;have hst:=Mid.setCell w' (lo:=G) (hi:=G+1) (p:=⟨G,2,none⟩) (.slice A' (n2+1) c') oN oS;have hlt:=h.lt;have hle:=h.le;have hne:Value.ownBlock (.slice A2 n2 c2)≠some G:=fun e=>by have:=(h.edg.lt G e).1;omega
 have hne1:Value.ownBlock (.slice A' (n2+1) c')≠some G:=fun e=>by have:=(h1.lt G e).1;omega
 refine⟨?_,(h.map.mid hm (Or.inl (by omega))).mid hst (Or.inl (by omega)),?_,?_,h.ne,hlt,hle⟩
 .exact aCm (h.ord.kept hg (aBP h.ord h.edg (by decide))) (k:=G) (aAQ (World.grownBy.refl _ (some G)) 2 (.slice A' (n2+1) c')) h.ne
 .exact aCm h1 (k:=G) (aAQ (World.grownBy.refl _ (some G)) 2 (.slice A' (n2+1) c')) hne1
 exact(h.box.grown hg hne).set 2 _ (by simp) rfl
end
end
theorem aNI:∀ {es:List Ed},(es.Pairwise fun e f=>¬ Clash e f)->∀ {e f:Ed},e∈es->f∈es->Clash e f->e=f
|[],_,e,f,he,_,_=>by cases he
|g::t,h,e,f,he,hf,hc=>by
  obtain⟨h1,h2⟩:=List.pairwise_cons.1 h;rcases List.mem_cons.1 he with ha|ha
  .rcases List.mem_cons.1 hf with hb|hb
   .rw[ha,hb]
   .rw[ha] at hc
    exact absurd hc (h1 f hb)
  .rcases List.mem_cons.1 hf with hb|hb
   .rw[hb] at hc
    exact absurd hc.symm (h1 e ha)
   .exact aNI h2 ha hb hc
theorem aIQ{r s:Int}{es:List Ed}(h:IsFol r s es){v x:Int}(hx:0<=aAe es v x):aAe es (aAe es v x) (-x)=v:=by
 obtain⟨e,he,hv⟩:=aJX hx;generalize aAe es v x=u at hv;have hu:aEZ u (-x) e=some v:=by
  rw[aDi] at hv |-;rcases hv with⟨h1,h2,h3,h4⟩|⟨h1,h2,h3,h4⟩
  .exact .inr ⟨by omega,by omega,h4,h3⟩
  exact .inl ⟨by omega,by omega,h4,h3⟩
 have hm:v∈aEt es u (-x):=aGM.2 ⟨e,he,hu⟩;refine aGL hm fun y hy=>?_;obtain⟨f,hf,hy⟩:=aGM.1 hy;rw[aDi] at hu hy;have hc:Clash e f:=by unfold Clash;omega
 have:=aNI h.fol he hf hc;subst this;omega
def aDy(ea eb:List Ed)(r:Nat)(P:PS):Int:=((aAZ ea eb r P P.length).length:Int) - (P.length:Int)+1
def aBd(sb:Nat)(i:Nat):Int × Int:=(((i / sb:Nat):Int),((i % sb:Nat):Int))
def aAm(ea eb:List Ed)(r sb:Nat):Nat->PS × List Int
|0=>([],[])
|i+1=>if aBd sb i∈(aAm ea eb r sb i).1 then aAm ea eb r sb i
  else((aAm ea eb r sb i).1++aAf ea eb (lets r) (aBd sb i),(aAm ea eb r sb i).2++[aDy ea eb r (aAf ea eb (lets r) (aBd sb i))])
theorem aDn{ea eb:List Ed}{r sb i:Nat}(h:aBd sb i∈(aAm ea eb r sb i).1):aAm ea eb r sb (i+1)=aAm ea eb r sb i:=by rw[aAm,if_pos h]
theorem aCi{ea eb:List Ed}{r sb i:Nat}(h:aBd sb i ∉ (aAm ea eb r sb i).1):aAm ea eb r sb (i+1)=((aAm ea eb r sb i).1++aAf ea eb (lets r) (aBd sb i),(aAm ea eb r sb i).2++[aDy ea eb r (aAf ea eb (lets r) (aBd sb i))]):=by rw[aAm,if_neg h]
theorem aGU{sa sb i:Nat}(h:i<sa * sb):PIn sa sb (aBd sb i):=by
 have h0:0<sb:=by
  rcases Nat.eq_zero_or_pos sb with rfl|h0
  .rw[Nat.mul_zero] at h;omega
  exact h0
 have h1:=(Nat.div_lt_iff_lt_mul h0).2 h;have h2:=Nat.mod_lt i h0;unfold PIn aBd;simp only;generalize i / sb=d at h1;generalize i % sb=m at h2;omega
theorem aNl(sb i:Nat):aAJ sb (aBd sb i)=i:=by
 have:=Nat.div_add_mod i sb;unfold aAJ aBd;simp only;rw[Int.mul_comm]
 exact_mod_cast this
structure SeenOk (ea eb:List Ed) (r:Nat) (sa sb:Int) (st:PS):Prop where
 cl:aHl ea eb (lets r) st
 rng:∀ p∈st,PIn sa sb p
theorem aSv{r:Nat}{x:Int}(h:x∈lets r):-x∈lets r:=by
 rw[aBz] at h |-;omega
theorem aOm{ra rb sa sb:Int}{ea eb:List Ed}{r:Nat}{seen:PS}(ha:IsFol ra sa ea)(hb:IsFol rb sb eb)(hc:aHl ea eb (lets r) seen){p:Int × Int}{x:Int}(hx:x∈lets r)(hp:p ∉ seen)(h1:¬ aAe ea p.1 x<0)(h2:¬ aAe eb p.2 x<0)(hin:0<=p.1/\0<=p.2):aAI ea eb p x ∉ seen:=by
 intro hm;have k1:aAe ea (aAe ea p.1 x) (-x)=p.1:=aIQ ha (by omega);have k2:aAe eb (aAe eb p.2 x) (-x)=p.2:=aIQ hb (by omega);have:=hc _ hm (-x) (aSv hx) (by simp only[aAI,k1];omega) (by simp only[aAI,k2];omega);simp only[aAI,k1,k2] at this;exact hp this
theorem aQW{ra rb sa sb:Int}{ea eb:List Ed}{r:Nat}{seen:PS}(ha:IsFol ra sa ea)(hb:IsFol rb sb eb)(hc:aHl ea eb (lets r) seen){p:Int × Int}(hp:p ∉ seen)(hin:0<=p.1/\0<=p.2) :
  ∀(K:List Int),(∀ x∈K,x∈lets r)->∀ {st:PS},(∀ q∈st,q ∉ seen)->∀ q∈aBo ea eb K p st,q ∉ seen
|[],_,st,h=>h
|x::K,hK,st,h=>by
  rw[aHx];refine aQW ha hb hc hp hin K (fun y hy=>hK y (by simp[hy])) fun q hq=>?_;unfold aCo at hq;split at hq
  .exact h q hq
  .rename_i hcc
   rcases List.mem_append.1 hq with hq|hq
   .exact h q hq
   .simp at hq
    subst hq;exact aOm ha hb hc (hK x (by simp)) hp (fun h=>hcc (.inl h)) (fun h=>hcc (.inr (.inl h))) hin
theorem aSX{ra rb sa sb:Int}{ea eb:List Ed}{r:Nat}{seen:PS}(ha:IsFol ra sa ea)(hb:IsFol rb sb eb)(hc:aHl ea eb (lets r) seen){p0:Int × Int}(hp:p0 ∉ seen)(hin:PIn sa sb p0)(i:Nat):∀ q∈aAN ea eb (lets r) p0 i,q ∉ seen:=by
 induction i with
|zero=>intro q hq;simp[aAN] at hq;subst hq;exact hp
|succ i ih=>
  cases h:(aAN ea eb (lets r) p0 i)[i]? with
 |none=>
   have he:aAN ea eb (lets r) p0 (i+1)=aAN ea eb (lets r) p0 i:=by
    show(match (aAN ea eb (lets r) p0 i)[i]? with|none=>aAN ea eb (lets r) p0 i|some p=>aBo ea eb (lets r) p (aAN ea eb (lets r) p0 i))=_
    rw[h]
   rw[he];exact ih
 |some p=>
   rw[aCw h];have hm:=List.mem_of_getElem? h;have hr:=(aFk (lets r) ha.gr.all hb.gr.all hin i).rng p hm;exact aQW ha hb hc (ih p hm) ⟨hr.1,hr.2.2.1⟩ (lets r) (fun x hx=>hx) ih
theorem SeenOk.add{ra rb sa sb:Int}{ea eb:List Ed}{r:Nat}{seen:PS}(ha:IsGr ra sa ea)(hb:IsGr rb sb eb)(h:SeenOk ea eb r sa sb seen){p0:Int × Int}(hin:PIn sa sb p0):SeenOk ea eb r sa sb (seen++aAf ea eb (lets r) p0):=by
 refine⟨fun p hp x hx h1 h2=>?_,fun p hp=>?_⟩
 .rcases List.mem_append.1 hp with hp|hp
  .exact List.mem_append_left _ (h.cl p hp x hx h1 h2)
  exact List.mem_append_right _ (aCn (lets r) ha hb hin p hp x hx h1 h2)
 rcases List.mem_append.1 hp with hp|hp
 .exact h.rng p hp
 exact(aDe (lets r) ha.all hb.all hin).rng p hp
theorem aEW{ra rb:Int}{sa sb:Nat}{ea eb:List Ed}{r:Nat}(ha:IsGr ra sa ea)(hb:IsGr rb sb eb):∀ i,i<=sa * sb->SeenOk ea eb r sa sb (aAm ea eb r sb i).1
|0,_=>⟨fun p hp=>by simp[aAm] at hp,fun p hp=>by simp[aAm] at hp⟩
|i+1,hi=>by
  by_cases h:aBd sb i∈(aAm ea eb r sb i).1
  .rw[aDn h]
   exact aEW ha hb i (by omega)
  .rw[aCi h]
   exact(aEW ha hb i (by omega)).add ha hb (aGU (by omega))
theorem aFp(ea eb:List Ed)(r sb:Nat):∀ i,(aAm ea eb r sb i).2.length<=i
|0=>oN
|i+1=>by
  have:=aFp ea eb r sb i;by_cases h:aBd sb i∈(aAm ea eb r sb i).1
  .rw[aDn h];omega
  .rw[aCi h];simp;omega
theorem aTX{xs ys:List Int}(hx:xs.Pairwise (·<·))(hy:ys.Pairwise (·<·))(h:∀ u,u∈xs↔u∈ys):xs=ys:=by
 have n1:xs.Nodup:=hx.imp fun h=>by omega
 have n2:ys.Nodup:=hy.imp fun h=>by omega
 exact List.Perm.eq_of_pairwise (le:=fun x y:Int=>x<y) (fun a b _ _ h1 h2=>by omega) hx hy ((List.perm_ext_iff_of_nodup n1 n2).2 h)
theorem aOu{x:Int}{l:List Int}(h:l.Pairwise (·<·))(hx:x∈l):aCN x l=l:=
 aTX (aDz h) h fun u=>by
  rw[aBV];constructor
  .rintro(rfl|h)
   .exact hx
   .exact h
  .exact .inr
theorem aKY{x:Int}{l:List Int}(h:l.Pairwise (·<·))(hx:x ∉ l):(aCN x l).length=l.length+1:=by
 have n1:(aCN x l).Nodup:=(aDz h).imp fun h=>by omega
 have n2:(x::l).Nodup:=List.nodup_cons.2 ⟨hx,h.imp fun h=>by omega⟩;have:=((List.perm_ext_iff_of_nodup n1 n2).2 fun u=>by rw[aBV,List.mem_cons]).length_eq
 simpa using this
structure RAt (s:Int) (es:List Ed) (v:Int) (zs:List Int):Prop where
 here:v∈zs
 rng:∀ u∈zs,0<=u/\u<s
 srt:zs.Pairwise (·<·)
 conn:∀ u∈zs,Conn es v u
 cnt:zs.length<=1+(es.filter fun e=>decide (e.a∈zs/\e.b∈zs)).length
theorem RAt.start{s:Int}(es:List Ed){v:Int}(h0:0<=v)(h1:v<s):RAt s es v [v]:=by
 refine⟨by simp,?_,by simp,?_,by simp⟩
 .intro u hu;simp at hu;subst hu;exact⟨h0,h1⟩
 intro u hu;simp at hu;subst hu;exact .here
theorem aFb{p q:Ed->Bool}(h:∀ e,p e=true->q e=true):∀ l:List Ed,(l.filter p).length<=(l.filter q).length
|[]=>oN
|e::t=>by
  have:=aFb h t;cases hp:p e with
 |true=>rw[List.filter_cons_of_pos hp,List.filter_cons_of_pos (h e hp)];simpa using this
 |false=>
   rw[List.filter_cons_of_neg (by simp[hp])];cases hq:q e with
  |true=>rw[List.filter_cons_of_pos hq];simp;omega
  |false=>rw[List.filter_cons_of_neg (by simp[hq])];exact this
theorem aGB{p q:Ed->Bool}(h:∀ e,p e=true->q e=true){f:Ed}(hp:p f=false)(hq:q f=true):∀ {l:List Ed},f∈l->(l.filter p).length<(l.filter q).length
|e::t,hm=>by
  rcases List.mem_cons.1 hm with rfl|hm
  .rw[List.filter_cons_of_neg (by simp[hp]),List.filter_cons_of_pos hq]
   have:=aFb h t;simp;omega
  .have:=aGB h hp hq hm
   cases hp':p e with
  |true=>rw[List.filter_cons_of_pos hp',List.filter_cons_of_pos (h e hp')];simpa using this
  |false=>
    rw[List.filter_cons_of_neg (by simp[hp'])];cases hq':q e with
   |true=>rw[List.filter_cons_of_pos hq'];simp;omega
   |false=>rw[List.filter_cons_of_neg (by simp[hq'])];exact this
theorem RAt.push{s:Int}{es:List Ed}{v u:Int}{zs:List Int}(h:RAt s es v zs){e:Ed}(he:e∈es)(hr:0<=u/\u<s)(hc:Conn es v u)(hu:u ∉ zs)(hue:u=e.a \/ u=e.b)(h2:e.a=u \/ e.a∈zs)(h3:e.b=u \/ e.b∈zs):RAt s es v (aCN u zs):=by
 refine⟨aBV.2 (.inr h.here),?_,aDz h.srt,?_,?_⟩
 .intro x hx
  rcases aBV.1 hx with rfl|hx
  .exact hr
  exact h.rng x hx
 .intro x hx
  rcases aBV.1 hx with rfl|hx
  .exact hc
  exact h.conn x hx
 have h4:=h.cnt;have h5:=aKY h.srt hu;have h6:=aGB (p:=fun e=>decide (e.a∈zs/\e.b∈zs)) (q:=fun e=>decide (e.a∈aCN u zs/\e.b∈aCN u zs)) (f:=e) (l:=es) (by
  intro f hf;simp only[decide_eq_true_eq,aBV] at hf |-;exact⟨.inr hf.1,.inr hf.2⟩) (by
  simp only[decide_eq_false_iff_not];rintro⟨h6,h7⟩;rcases hue with rfl|rfl
  .exact hu h6
  .exact hu h7) (by
  simp only[decide_eq_true_eq,aBV];exact⟨h2,h3⟩) he
 omega
def aFl(e:Ed)(zs:List Int):List Int:=if e.b∈(if e.a∈zs then aCN e.b zs else zs) then aCN e.a (if e.a∈zs then aCN e.b zs else zs) else(if e.a∈zs then aCN e.b zs else zs)
theorem RAt.edge{r s:Int}{es:List Ed}{v:Int}{zs:List Int}(h:RAt s es v zs){e:Ed}(he:e∈es)(hi:InG r s e) :
  RAt s es v (aFl e zs)/\((aFl e zs=zs/\(e.a∈zs↔e.b∈zs)) \/ (zs.length<(aFl e zs).length/\¬ (e.a∈zs↔e.b∈zs))):=by
 unfold InG at hi;unfold aFl;by_cases ha:e.a∈zs
 .rw[if_pos ha,if_pos (aBV.2 (.inl rfl))]
  rw[aOu (aDz h.srt) (aBV.2 (.inr ha))];by_cases hb:e.b∈zs
  .rw[aOu h.srt hb]
   exact⟨h,.inl ⟨rfl,⟨fun _=>hb,fun _=>ha⟩⟩⟩
  refine⟨h.push he (by omega) (.out he (h.conn _ ha)) hb (.inr rfl) (.inr ha) (.inl rfl),.inr ⟨?_,fun hh=>hb (hh.1 ha)⟩⟩;rw[aKY h.srt hb];omega
 rw[if_neg ha];by_cases hb:e.b∈zs
 .rw[if_pos hb]
  refine⟨h.push he (by omega) (.inn he (h.conn _ hb)) ha (.inl rfl) (.inl rfl) (.inr hb),.inr ⟨?_,fun hh=>ha (hh.2 hb)⟩⟩;rw[aKY h.srt ha];omega
 rw[if_neg hb];exact⟨h,.inl ⟨rfl,⟨fun h=>absurd h ha,fun h=>absurd h hb⟩⟩⟩
structure RIn (s:Int) (es:List Ed) (v:Int) (k i:Nat) (zs:List Int):Prop where
 at':RAt s es v zs
 or':Shut' es es.length zs \/ (k+1<zs.length) \/ (k+1<=zs.length/\Shut' es i zs)
structure ROut (s:Int) (es:List Ed) (v:Int) (k:Nat) (zs:List Int):Prop where
 at':RAt s es v zs
 or':Shut' es es.length zs \/ k+1<=zs.length
theorem ROut.start{s:Int}(es:List Ed){v:Int}(h0:0<=v)(h1:v<s):ROut s es v 0 [v]:=⟨RAt.start es h0 h1,.inr (by simp)⟩
theorem ROut.into{s:Int}{es:List Ed}{v:Int}{k:Nat}{zs:List Int}(h:ROut s es v k zs):RIn s es v k 0 zs:=⟨h.at',h.or'.imp id fun h=>.inr ⟨h,Shut'.zero es zs⟩⟩
theorem RIn.out{s:Int}{es:List Ed}{v:Int}{k:Nat}{zs:List Int}(h:RIn s es v k es.length zs):ROut s es v (k+1) zs:=⟨h.at',by
 rcases h.or' with h1|h1|⟨h1,h2⟩
 .exact .inl h1
 .exact .inr (by omega)
 .exact .inl h2⟩
theorem RIn.step{r s:Int}{es:List Ed}{v:Int}{k i:Nat}{zs:List Int}(h:RIn s es v k i zs){e:Ed}(he:es[i]?=some e)(hi:InG r s e):RIn s es v k (i+1) (aFl e zs):=by
 obtain⟨h1,h2⟩:=h.at'.edge (List.mem_of_getElem? he) hi;have hil:=(List.getElem?_eq_some_iff.1 he).1;refine⟨h1,?_⟩;rcases h2 with⟨h2,h3⟩|⟨h2,h3⟩
 .rw[h2]
  rcases h.or' with h4|h4|⟨h4,h5⟩
  .exact .inl h4
  .exact .inr (.inl h4)
  exact .inr (.inr ⟨h4,h5.succ he h3⟩)
 right
 left
 rcases h.or' with h4|h4|⟨h4,h5⟩
 .exact absurd (h4 i e hil he) h3
 .omega
 omega
theorem ROut.done{s:Int}{es:List Ed}{v:Int}{zs:List Int}(h:ROut s es v (es.length+1) zs)(u:Int):u∈zs↔Conn es v u:=by
 have hc:Shut' es es.length zs:=by
  rcases h.or' with h1|h1
  .exact h1
  have h2:=h.at'.cnt;have h3:=List.length_filter_le (fun e=>decide (e.a∈zs/\e.b∈zs)) es;omega
 refine aNM (P:=fun u=>u∈zs) h.at'.here (fun e he=>?_) h.at'.conn u;obtain⟨j,hj,rfl⟩:=List.mem_iff_getElem.1 he;exact hc j _ hj (List.getElem?_eq_getElem hj)
theorem RAt.le{s:Int}{es:List Ed}{v:Int}{zs:List Int}(h:RAt s es v zs):zs.length<=s.toNat:=by
 refine aGO s.toNat zs (h.srt.imp fun h=>by omega) fun u hu=>?_;have:=h.rng u hu;omega
theorem aEq(A:Option Addr)(l:List Int)(c:Nat)(x:Int)(w:World)(lo hi:Nat)(hr:RV w lo hi A (aAd l))(hl:l.length<=1000000)(b:Bool)(hb:b=true↔x∈l) :
  Calls Tryz.prog 243 #[.slice A l.length c,.int .i64 x] w fun en w'=>en=.returned (.bool b)/\w=w':=by
 have HB:=oH hb;clear hb;go_enter Tryz.func243,Tryz.ntmps243
 go_wp2_with fail;go_loop [5] (fun i=>∃ k:Nat,k<=l.length/\i=.int .i64 k/\x ∉ l.take k) (fun i=>l.length - (intOf i).toNat)
 case atStart=>exact⟨0,oZ,rfl,by simp⟩
 obtain⟨k,hk,rfl,hn⟩:=hrel;have HN:=oH hn;clear hn;by_cases hlt:k<l.length
 .obtain⟨B,off,f,rfl,hbh,he,c0⟩:=hr.at hlt
  have hkn:(k:Int)<(l.length:Int):=by omega
  have HE:=oH he;clear he;by_cases hx:f=x
  .have b1:(f == x)=true:=by simpa using hx
   have hbt:b=true:=HB.out.2 (by rw[<- hx];exact List.mem_of_getElem? HE.out);subst hbt;clear hx;go_wp2_with fail;go_ret;exact⟨rfl,rfl⟩
  have b1:(f == x)=false:=by simpa only[beq_eq_false_iff_ne] using hx
  have HX:=oH hx;clear hx;go_wp2_with fail;go_round
  case rel=>
   refine⟨k+1,by omega,by go_num,?_⟩;rw[aBu HE.out,List.mem_append,List.mem_singleton];rintro(h|h)
   .exact HN.out h
   exact HX.out h.symm
  simp[intOf];omega
 obtain rfl:k=l.length:=by omega
 have hbt:b=false:=aBq HB.out (by have:=HN.out;rwa [List.take_length] at this);subst hbt;go_wp2_with fail;go_ret;exact⟨rfl,rfl⟩
noncomputable def leafI (s:Int) (es:List Ed):Int:=match leaf s es with|some v=>(v:Int)|none=>-1
theorem aFt{s:Int}{es:List Ed}{v:Nat}(h:leaf s es=some v):leafI s es=v:=by rw[leafI,h]
theorem aHs{s:Int}{es:List Ed}(h:leaf s es=none):leafI s es = -1:=by rw[leafI,h]
theorem aSF{e:Ed}{zs:List Int}(h:e.a∈zs):aFl e zs=aCN e.a (aCN e.b zs):=by
 unfold aFl;rw[if_pos h,if_pos (aBV.2 (.inl rfl))]
theorem aRA{e:Ed}{zs:List Int}(h:e.a ∉ zs)(h2:e.b∈zs):aFl e zs=aCN e.a zs:=by
 unfold aFl;rw[if_neg h,if_pos h2]
theorem aRz{e:Ed}{zs:List Int}(h:e.a ∉ zs)(h2:e.b ∉ zs):aFl e zs=zs:=by
 unfold aFl;rw[if_neg h,if_neg h2]
theorem aIa(r:Int)(n m:Nat)(A:Option Addr)(es:List Ed)(c:Nat)(w:World)(lo hi:Nat)(hr:RG w lo hi A es)(hg:IsGr r n es)(hv:m<n) :
  Calls Tryz.prog 241 #[aAw r n A es.length c,.int .i64 m] w fun e w'=>∃ A1 c1 zs,e=.returned (.slice A1 zs.length c1)/\RV w' 0 w'.heap.size A1 (aAd zs)/\zs.length<=40/\(∀ u,u∈zs↔Conn es m u)/\Mid 0 0 w w':=by
 have hn40:n<=40:=by have:=hg.size;omega
 have hl:=hg.len;have hm0:Mid 0 0 w (w.alloc (.cells #[.int .i64 r,.int .i64 n,.slice A es.length c] 35)):=Mid.alloc _ _;have B0:=Box.new w #[.int .i64 r,.int .i64 n,.slice A es.length c] 35;have HG:=oH hg;have hv3:(m:Int)<(n:Int):=by omega
 have hv0:(0:Int)<=(m:Int):=by omega
 have HJ0:=oH (ROut.start (s:=n) es hv0 hv3);clear hg;go_enter Tryz.func241,Tryz.ntmps241
 go_wp2_with fail;with_reducible refine(aAM r n A es c _ _ _ (hr.mid hm0 oZl).rv (by omega) true (iff_of_true rfl HG.out)).mono ?_
 rintro en w1 ⟨rfl,hm1⟩;replace B0:=B0.mid hm1 oZr;replace hm0:=hm0.trans hm1;obtain⟨p0,p1,p2⟩:=B0.c3 rfl;have hib:inB (m:Int) 0 ((n:Int) - 1)=true:=by unfold inB;simp;omega
 go_wp2_with fail;with_reducible refine(aBJ hib _).mono ?_
 rintro en w2 ⟨rfl,rfl⟩;go_wp2_with fail;have hal:=Mid.alloc w1 (.cells #[.int .i64 m] 3);have hrv0:RV (w1.alloc (.cells #[.int .i64 m] 3)) 0 (w1.alloc (.cells #[.int .i64 m] 3)).heap.size (some ⟨w1.heap.size,0,none⟩) (aAd [(m:Int)]):=⟨oN,fun _=>⟨_,0,rfl,oZ,by simp,fun j u hu=>(World.cell?_alloc_at _ _ _ _ rfl).trans (by simpa [aAd] using hu)⟩⟩
 replace B0:=B0.mid hal oZr;replace hm0:=hm0.trans hal;clear p0 p1 p2;go_loopw [5,6] (fun out i wr=>∃(k:Nat) (A1:Option Addr) (c1:Nat) (zs:List Int),k<=es.length+1/\i=.int .i64 k/\out=.slice A1 zs.length c1/\ROut n es m k zs/\RV wr 0 wr.heap.size A1 (aAd zs) /\
   Box wr w.heap.size [.int .i64 r,.int .i64 n,.slice A es.length c]/\Mid 0 0 w wr) (fun _ i _=>es.length+1 - (intOf i).toNat)
 case atStart=>exact⟨0,_,1,[(m:Int)],oZ,rfl,rfl,HJ0.out,hrv0,B0,hm0⟩
 clear hrv0 B0 hm0 hal hm1;obtain⟨wo,hwo⟩:∃ wo,wo=wr:=⟨_,rfl⟩
 subst hwo;obtain⟨k,A0,c0,zs0,hk,rfl,rfl,hj,hrv,bx,hm⟩:=hrel;obtain⟨p0,p1,p2⟩:=bx.c3 rfl;have hzl:=hj.at'.le;have HJ:=oH hj;clear hj;by_cases hlt:k<es.length+1
 .have hkn:(k:Int)<(es.length:Int)+1:=by omega
  go_wp2_with fail;go_loopw [5,7] (fun out i wr=>∃(j:Nat) (A1:Option Addr) (c1:Nat) (zs:List Int),j<=es.length/\i=.int .i64 j/\out=.slice A1 zs.length c1/\RIn n es m k j zs/\RV wr 0 wr.heap.size A1 (aAd zs) /\
   Box wr w.heap.size [.int .i64 r,.int .i64 n,.slice A es.length c]/\Mid 0 0 w wr) (fun _ i _=>es.length - (intOf i).toNat)
  case atStart=>exact⟨0,_,_,zs0,oZ,rfl,rfl,HJ.out.into,hrv,bx,hm⟩
  clear hrv bx hm p0 p1 p2;obtain⟨j,A1,c1,zs,hj,rfl,rfl,hin,hrv,bx,hm⟩:=hrel;obtain⟨p0,p1,p2⟩:=bx.c3 rfl;have hzl:=hin.at'.le;have HI:=oH hin;clear hin;by_cases hlt2:j<es.length
  .obtain⟨B,off,e,rfl, -,hbh,he,e0,e1,e2⟩:=(hr.mid hm oZl).ed hlt2
   have HE:=oH he;have HS:=oH (HI.out.step he (HG.out.all e (List.mem_of_getElem? he)));have hkn2:(j:Int)<(es.length:Int):=by omega
   have hal:=Mid.alloc wr (.cells #[.int .i64 e.a,.int .i64 e.l,.int .i64 e.b] 110);have E1:=Box.new wr #[.int .i64 e.a,.int .i64 e.l,.int .i64 e.b] 110;replace bx:=bx.mid hal oZr;replace hrv:=hrv.mid hal oZl;replace hm:=hm.trans hal;replace hrv:=hrv.wide oN hal.size oN;obtain⟨g0,g1,g2⟩:=E1.c3 rfl;obtain⟨b1,hb1⟩:=aAC (e.a∈zs);have HB1:=oH hb1;clear hb1 he;obtain⟨q0,q1,q2⟩:=bx.c3 rfl;go_wp2_with fail;with_reducible refine(aEq A1 zs c1 e.a _ _ _ hrv (by omega) b1 HB1.out).mono ?_
   rintro en w2 ⟨rfl,rfl⟩;cases b1
   .have hna:e.a ∉ zs:=fun h=>by have:=HB1.out.2 h;cases this
    have HNA:=oH hna;obtain⟨b2,hb2⟩:=aAC (e.b∈zs);have HB2:=oH hb2;clear hb2 hna;go_wp2_with fail;with_reducible refine(aEq A1 zs c1 e.b _ _ _ hrv (by omega) b2 HB2.out).mono ?_
    rintro en w2 ⟨rfl,rfl⟩;cases b2
    .have hnb:e.b ∉ zs:=fun h=>by have:=HB2.out.2 h;cases this
     have HNB:=oH hnb;clear hnb;go_wp2_with fail;go_roundw
     case rel=>exact⟨j+1,A1,c1,zs,by omega,by go_num,rfl,by have h:=HS.out;rw[aRz HNA.out HNB.out] at h;exact h,hrv,bx,hm⟩
     simp[intOf];omega
    go_wp2_with fail;with_reducible refine(aEp A1 zs c1 e.a _ _ _ hrv (by omega)).mono ?_
    rintro en w4 ⟨A4,c4,rfl,hrv4,hm4⟩;replace bx:=bx.mid hm4 oZr;replace hm:=hm.trans hm4;go_wp2_with fail;go_roundw
    case rel=>exact⟨j+1,A4,c4,_,by omega,by go_num,rfl,by rw[<- aRA HNA.out (HB2.out.1 (by trivial))];exact HS.out,hrv4,bx,hm⟩
    simp[intOf];omega
   go_wp2_with fail;with_reducible refine(aEp A1 zs c1 e.b _ _ _ hrv (by omega)).mono ?_
   rintro en w3 ⟨A3,c3,rfl,hrv3,hm3⟩;replace bx:=bx.mid hm3 oZr;replace E1:=E1.mid hm3 oZr;replace hm:=hm.trans hm3;clear p0 p1 p2 q0 q1 q2 g0 g1 g2;obtain⟨p0,p1,p2⟩:=bx.c3 rfl;obtain⟨g0,g1,g2⟩:=E1.c3 rfl;have hz3:(aCN e.b zs).length<=41:=by have:=aKX e.b zs;omega
   go_wp2_with fail;with_reducible refine(aEq A3 (aCN e.b zs) c3 e.b _ _ _ hrv3 (by omega) true (iff_of_true rfl (aBV.2 (.inl rfl)))).mono ?_
   rintro en w2 ⟨rfl,rfl⟩;go_wp2_with fail;with_reducible refine(aEp A3 (aCN e.b zs) c3 e.a _ _ _ hrv3 (by omega)).mono ?_
   rintro en w4 ⟨A4,c4,rfl,hrv4,hm4⟩;replace bx:=bx.mid hm4 oZr;replace hm:=hm.trans hm4;go_wp2_with fail;go_roundw
   case rel=>exact⟨j+1,A4,c4,_,by omega,by go_num,rfl,by rw[<- aSF (HB1.out.1 (by trivial))];exact HS.out,hrv4,bx,hm⟩
   simp[intOf];omega
  obtain rfl:j=es.length:=by omega
  go_wp2_with fail;go_roundw
  case rel=>exact⟨k+1,A1,c1,zs,by omega,by go_num,rfl,HI.out.out,hrv,bx,hm⟩
  simp[intOf];omega
 obtain rfl:k=es.length+1:=by omega
 go_wp2_with fail;go_ret;exact⟨_,_,zs0,rfl,hrv,by omega,fun u=>HJ.out.done u,hm⟩
theorem aHA(r:Int)(n:Nat)(A:Option Addr)(es:List Ed)(c:Nat)(w:World)(lo hi:Nat)(hr:RG w lo hi A es)(hg:IsGr r n es)(hv:0<n) :
  Calls Tryz.prog 241 #[aAw r n A es.length c,.int .i64 0] w fun e w'=>∃ A1 c1 zs,e=.returned (.slice A1 zs.length c1)/\RV w' 0 w'.heap.size A1 (aAd zs)/\zs.length<=40/\(∀ u,u∈zs↔Conn es 0 u)/\Mid 0 0 w w':=
 aIa r n 0 A es c w lo hi hr hg hv
theorem aJm(r:Int)(n:Nat)(A:Option Addr)(es:List Ed)(c:Nat)(w:World)(lo hi:Nat)(hr:RG w lo hi A es)(hg:IsGr r n es) :
  Calls Tryz.prog 196 #[aAw r n A es.length c] w fun e w'=>e=.returned (.int .i64 (leafI n es))/\Mid 0 0 w w':=by
 have hn40:n<=40:=by have:=hg.size;omega
 have hn1:1<=n:=by have:=hg.size;omega
 have hl:=hg.len;have hm0:Mid 0 0 w (w.alloc (.cells #[.int .i64 r,.int .i64 n,.slice A es.length c] 35)):=Mid.alloc _ _;have B0:=Box.new w #[.int .i64 r,.int .i64 n,.slice A es.length c] 35;have HG:=oH hg;clear hg;go_enter Tryz.func196,Tryz.ntmps196
 go_wp2_with fail;with_reducible refine(aHA r n A es c _ _ _ (hr.mid hm0 oZl) HG.out (by omega)).mono ?_
 rintro en w1 ⟨A1,c1,zs,rfl,hrv,hz,hmem,hm1⟩;have HM:=oH hmem;replace B0:=B0.mid hm1 oZr;replace hm0:=hm0.trans hm1;clear hmem;obtain⟨p0,p1,p2⟩:=B0.c3 rfl;go_wp2_with fail;clear p0 p1 p2;go_loopw [4] (fun i wr=>∃(k:Nat),1<=k/\k<=n/\i=.int .i64 k/\Hid (∀ u:Nat,1<=u->u<k->¬ Bad es u)/\RV wr 0 wr.heap.size A1 (aAd zs) /\
   Box wr w.heap.size [.int .i64 r,.int .i64 n,.slice A es.length c]/\Mid 0 0 w wr) (fun i _=>n - (intOf i).toNat)
 case atStart=>exact⟨1,oN,hn1,rfl,oH (fun u h1 h2=>absurd h2 (by omega)),hrv,B0,hm0⟩
 clear hrv B0 hm0 hm1;obtain⟨k,hk1,hk,rfl,HU,hrv,bx,hm⟩:=hrel;obtain⟨p0,p1,p2⟩:=bx.c3 rfl;by_cases hlt:k<n
 .have hkn:(k:Int)<(n:Int):=by omega
  go_wp2_with fail;with_reducible refine(aLe r n A es c k _ _ _ (hr.mid hm oZl) (by omega)).mono ?_
  rintro en w2 ⟨rfl,hm2⟩;replace bx:=bx.mid hm2 oZr;replace hrv:=hrv.mid hm2 oZl;replace hm:=hm.trans hm2;replace hrv:=hrv.wide oN hm2.size oN;have hdl:=aNQ es k;by_cases hd:deg es k<2
  .have b1:decide ((deg es k:Int)<2)=true:=by simp;omega
   have hlf:=aFg (s:=n) hk1 hkn (.inl hd) HU.out;have HL:=oH hlf;clear hlf hd;go_wp2_with fail;go_ret;exact⟨by rw[aFt HL.out];rfl,hm⟩
  have b1:decide ((deg es k:Int)<2)=false:=by simp;omega
  obtain⟨b2,hb2⟩:=aAC ((k:Int)∈zs);have HB2:=oH hb2;have HD:=oH hd;clear hb2 hd;go_wp2_with fail;with_reducible refine(aEq A1 zs c1 k _ _ _ hrv (by omega) b2 HB2.out).mono ?_
  rintro en w3 ⟨rfl,rfl⟩;cases b2
  .have hb:Bad es k:=.inr fun h=>by have:=HB2.out.2 ((HM.out _).2 h);cases this
   have HL:=oH (aFg (s:=n) hk1 hkn hb HU.out);clear hb;go_wp2_with fail;go_ret;exact⟨by rw[aFt HL.out];rfl,hm⟩
  have hnb:¬ Bad es k:=by
   rintro(h|h)
   .exact HD.out h
   exact h ((HM.out _).1 (HB2.out.1 (by trivial)))
  have HNB:=oH hnb;clear hnb p0 p1 p2;obtain⟨p0,p1,p2⟩:=bx.c3 rfl;go_wp2_with fail;go_roundw
  case rel=>
   refine⟨k+1,by omega,by omega,by go_num,oH fun u h1 h2=>?_,hrv,bx,hm⟩;by_cases h:u=k
   .subst h;exact HNB.out
   exact HU.out u h1 (by omega)
  simp[intOf];omega
 obtain rfl:k=n:=by omega
 have HL:=oH (aGK (s:=(k:Int)) (es:=es) fun u h1 h2=>HU.out u h1 (by omega));go_wp2_with fail;go_ret;exact⟨by rw[aHs HL.out];rfl,hm⟩
theorem aEN(r s:Int)(A:Option Addr)(es:List Ed)(c:Nat)(w:World)(lo hi:Nat)(hr:RG w lo hi A es)(hl:es.length<=1048576)(hf:¬ IsFol r s es) :
  Calls Tryz.prog 232 #[aAw r s A es.length c] w fun e w'=>∃ A1 c1,e=.returned (.slice A1 0 c1)/\Mid 0 0 w w':=by
 have hm0:Mid 0 0 w (w.alloc (.cells #[.int .i64 r,.int .i64 s,.slice A es.length c] 35)):=Mid.alloc _ _;have HF:=oH hf;clear hf;go_enter Tryz.func232,Tryz.ntmps232
 go_wp2_with fail;with_reducible refine(aAT r s A es c _ _ _ (hr.mid hm0 oZl) hl false (iff_of_false Bool.false_ne_true HF.out)).mono ?_
 rintro en w1 ⟨rfl,hm1⟩;have hal:=Mid.alloc w1 (.cells #[] 3);replace hm0:=hm0.trans hm1;go_wp2_with fail;go_ret;exact⟨_,_,rfl,hm0.trans hal⟩
theorem aGr(r n:Nat)(A:Option Addr)(es:List Ed)(c:Nat)(w:World)(lo hi:Nat)(hr:RG w lo hi A es)(hf:IsFol r n es) :
  Calls Tryz.prog 232 #[aAw r n A es.length c] w fun e w'=>∃ A1 c1,e=.returned (.slice A1 (aBO r es 0).length c1)/\RV w' 0 w'.heap.size A1 (aAd (aBO r es 0))/\Mid 0 0 w w':=by
 have hg:=hf.gr;have hn40:n<=40:=by have:=hg.size;omega
 have hn1':1<=n:=by have:=hg.size;omega
 have hr3:r<=3:=by have:=hg.rank;omega
 have hl:=hg.len;have hgl:∀ e∈es,1<=e.l/\e.l<=3:=fun e he=>by have:=hg.all e he;unfold InG at this;omega
 have hm0:Mid 0 0 w (w.alloc (.cells #[.int .i64 r,.int .i64 n,.slice A es.length c] 35)):=Mid.alloc _ _;have B0:=Box.new w #[.int .i64 r,.int .i64 n,.slice A es.length c] 35;have HG:=oH hg;have HF:=oH hf;have HGL:=oH hgl;have hv0:(0:Int)<=0:=Int.le_refl _;have hv3:(0:Int)<(n:Int):=by omega
 clear hg hgl hf;go_enter Tryz.func232,Tryz.ntmps232
 go_wp2_with fail;with_reducible refine(aAT r n A es c _ _ _ (hr.mid hm0 oZl) (by omega) true (iff_of_true rfl HF.out)).mono ?_
 rintro en w1 ⟨rfl,hm1⟩;replace B0:=B0.mid hm1 oZr;replace hm0:=hm0.trans hm1;obtain⟨p0,p1,p2⟩:=B0.c3 rfl;have hal:=Mid.alloc w1 (.cells #[.int .i64 0] 3);have O0:(w1.alloc (.cells #[.int .i64 0] 3)).ownsRow w1.heap.size 3 1 (.slice (some ⟨w1.heap.size,0,none⟩) 1 1) 1 (aAd [(0:Int)]):=World.ownsRow_lit (size:=1) w1 #[.int .i64 0] 1 oN (by simp[maxLen]) (by simp);have hsz1:w.heap.size<w1.heap.size:=by have:=hm1.size;simp at this;omega
 replace B0:=B0.mid hal oZr;replace hm0:=hm0.trans hal;go_wp2_with fail;with_reducible refine(aDW r _ (by omega)).mono ?_
 rintro en w4 ⟨A4,c4,rfl,hL4,hm4⟩;have hs14:w1.heap.size+1<=w4.heap.size:=by have:=hm4.size;simpa using this
 rw[World.size_alloc] at hL4;replace B0:=B0.mid hm4 oZr;replace O0:=aAc O0 hm4 oZl;replace hm0:=hm0.trans hm4;clear p0 p1 p2 hal hm4 hm1;have HLL:=oH (aBL r);obtain⟨LL,hLL⟩:∃ LL,(lets r).length=LL:=⟨_,rfl⟩
 have hLL6:LL<=6:=by have:=HLL.out;omega
 rw[hLL];have HLn:=oH hLL;clear hLL;go_wp2_with fail;go_loopw [3,5] (fun ord iv wr=>∃(i n1:Nat) (A1:Option Addr) (c1:Nat),i<=n1/\iv=.int .i64 i/\ord=.slice A1 n1 c1/\Hid ((aAo es (lets r) 0 i).length=n1) /\
   wr.ownsRow w1.heap.size 3 1 (.slice A1 n1 c1) n1 (aAd ((aAo es (lets r) 0 i).map Prod.fst))/\Hid (RV wr (w1.heap.size+1) w4.heap.size A4 (aAd (lets r)))/\Hid (∀ g,Value.ownBlock (.slice A1 n1 c1)=some g->g<w1.heap.size+1 \/ w4.heap.size<=g) /\
   Box wr w.heap.size [.int .i64 r,.int .i64 n,.slice A es.length c]/\Mid 0 0 w wr) (fun _ i _=>(41 - intOf i).toNat)
 case atStart=>exact⟨0,1,_,1,oZ,rfl,rfl,oH rfl,O0,oH hL4,oH (fun g hg=>by injection hg with hg;simp at hg;omega),B0,hm0⟩
 clear O0 hL4 B0 hm0;obtain⟨wo,hwo⟩:∃ wo,wo=wr:=⟨_,rfl⟩
 subst hwo;obtain⟨i,n1,A1,c1,hin,rfl,rfl,HN,hord,HL4,HD,bx,hm⟩:=hrel;have hok:=aIe (L:=lets r) HG.out.all hv0 hv3 i;have hn1:n1<=40:=by have h1:=hok.len (by omega);have h2:=HN.out;omega
 have HOK:=oH hok;clear hok;by_cases hlt:i<n1
 .obtain⟨p,hp⟩:=aAs (aAo es (lets r) 0 i) (show i<(aAo es (lets r) 0 i).length by rw[HN.out];exact hlt)
  obtain⟨u,wd⟩:=p;have HP:=oH hp;have hNX:=oH (aJE hp);have hi0:(0:Int)<=(i:Int):=by omega
  clear hp;go_wp2_with fail;go_loopw [3,6] (fun ord jv wr=>∃(j n1:Nat) (A1:Option Addr) (c1:Nat),j<=LL/\jv=.int .i64 j/\ord=.slice A1 n1 c1/\Hid ((aBb es ((lets r).take j) (u,wd) (aAo es (lets r) 0 i)).length=n1) /\
    wr.ownsRow w1.heap.size 3 1 (.slice A1 n1 c1) n1 (aAd ((aBb es ((lets r).take j) (u,wd) (aAo es (lets r) 0 i)).map Prod.fst)) /\
    Hid (RV wr (w1.heap.size+1) w4.heap.size A4 (aAd (lets r)))/\Hid (∀ g,Value.ownBlock (.slice A1 n1 c1)=some g->g<w1.heap.size+1 \/ w4.heap.size<=g)/\Box wr w.heap.size [.int .i64 r,.int .i64 n,.slice A es.length c]/\Mid 0 0 w wr) (fun _ j _=>LL - (intOf j).toNat)
  case atStart=>exact⟨0,n1,_,c1,oZ,rfl,rfl,by rw[List.take_zero];exact HN,hord,HL4,HD,bx,hm⟩
  clear hord HL4 HD bx hm;obtain⟨j,n1,A1,c1,hj,rfl,rfl,HN,hord,HL4,HD,bx,hm⟩:=hrel;obtain⟨stj,hstj⟩:∃ st,aBb es ((lets r).take j) (u,wd) (aAo es (lets r) 0 i)=st:=⟨_,rfl⟩
  have hokj:BfsOk n (lets r) stj:=by rw[<- hstj];exact BfsOk.row HG.out.all _ (fun x hx=>List.mem_of_mem_take hx) HOK.out HP.out
  have hpj:stj[i]?=some (u,wd):=by rw[<- hstj];exact aAO (aCE _ _ _ _) HP.out
  rw[hstj] at HN hord;have hn1b:n1<=40:=by have h1:=hokj.len (by omega);have h2:=HN.out;omega
  by_cases hlt2:j<LL
  .obtain⟨B4,o4,x,rfl,hB4,hx,hcx⟩:=HL4.out.at (k:=j) (by rw[HLn.out];exact hlt2)
   have hxm:=aHt (List.mem_of_getElem? hx);have hnx:=aIx (es:=es) (p:=(u,wd)) (st:=aAo es (lets r) 0 i) hx;rw[hstj] at hnx;simp only at hnx;have hj0:(0:Int)<=(j:Int):=by omega
   have hj1:(j:Int)<(LL:Int):=by omega
   have hil:i<n1:=by have h1:=(List.getElem?_eq_some_iff.1 hpj).1;have h2:=HN.out;omega
   have hi1:(i:Int)<(n1:Int):=by omega
   obtain⟨g1,rfl,hg1,hg1s⟩:=aAU hord (show 0<n1 by omega);have hcu:wr.cell? ⟨g1,i,none⟩=some (.int .i64 u):=(hord.cellAt i (by omega)).trans (by rw[aAF,List.getElem?_map,hpj];rfl);have hB4s:B4<wr.heap.size:=Nat.lt_of_lt_of_le hB4 HL4.out.1;have hcs:=aBm HG.out.all u x;have HOJ:=oH hokj;have k0:=aAb bx.1 (bx.cell 0 rfl);have k1:=aAb bx.1 (bx.cell 1 rfl);have k2:=aAb bx.1 (bx.cell 2 rfl);have k3:=aAb hg1s hcu;have k4:=aAb hB4s hcx;have hA:=fun m os=>aAz r n A es c u x (wg wr m os) lo hi (hr.mid (hm.trans (Mid.ofWg wr m os)) oZl) (by omega) HGL.out (by omega) (by omega);clear hx hokj hpj hstj hcu hcx;go_wp2_with fail;refine wqg ?_;repeat
    (with_reducible refine wpQuiet_step (fun K hK=>?_))
    go_simp
    first|(with_reducible refine hK _ ?_)|(rw[if_neg (by decide)];(with_reducible refine hK _ ?_))|(apply Exists.intro;refine⟨fun _=>?_,hK _ ?_⟩;((go_at_call 129;exact Calls.wg_of (hA _ _))))
    clear hK K
   with_reducible refine wpQuiet_nil ?_
   rintro _ ⟨⟨nq,osq⟩,rfl⟩;have hwg:=Mid.ofWg wr nq osq;generalize wg wr nq osq=w6 at hwg |-;replace bx:=bx.mid hwg oZr;replace hord:=aAc hord hwg oZl;replace hm:=hm.trans hwg;replace HL4:=oH (HL4.out.mid hwg oZl);generalize htx:aAe es u x=t at hnx hcs |-;clear k0 k1 k2 k3 k4 hA;by_cases ht0:t<0
   .have b1:decide (0<=t)=false:=by simp;omega
    have HNX:=oH (hnx.trans (by rw[aAH,htx,if_pos (.inl ht0)]:aAH es u wd stj x=stj));clear hnx hcs ht0 htx;go_wp2_with fail;go_roundw
    case rel=>exact⟨j+1,n1,_,c1,by omega,by go_num,rfl,by rw[HNX.out];exact HN,by rw[HNX.out];exact hord,HL4,HD,bx,hm⟩
    simp[intOf];omega
   have b1:decide (0<=t)=true:=by simp;omega
   obtain⟨b2,hb2⟩:=aAC (t∈stj.map Prod.fst);have HB2:=oH hb2;have hlm:(stj.map Prod.fst).length=n1:=by rw[List.length_map];exact HN.out
   have hP:=aEq (some ⟨g1,0,none⟩) (stj.map Prod.fst) c1 t w6 _ _ (aAy hord) (by omega) b2 HB2.out;rw[hlm] at hP;have HLM:=oH hlm;clear hb2 hcs hlm;go_wp2_with fail;with_reducible refine hP.mono ?_
   rintro en w7 ⟨rfl,rfl⟩;cases b2
   rotate_left
   .have HNX:=oH (hnx.trans (by rw[aAH,htx,if_pos (.inr (HB2.out.1 (by trivial)))]:aAH es u wd stj x=stj))
    clear hnx htx ht0 hP;go_wp2_with fail;go_roundw
    case rel=>exact⟨j+1,n1,_,c1,by omega,by go_num,rfl,by rw[HNX.out];exact HN,by rw[HNX.out];exact hord,HL4,HD,bx,hm⟩
    simp[intOf];omega
   have hnm:t ∉ stj.map Prod.fst:=fun h=>by have:=HB2.out.2 h;cases this
   have HNX:=oH (hnx.trans (by rw[aAH,htx,if_neg (fun h=>h.elim (fun h=>by omega) hnm)]:aAH es u wd stj x=stj++[(t,wd++[x])]));have HO9:=oH hord;have hsz9:w1.heap.size<=w6.heap.size:=by have:=HL4.out.1;omega
   clear hnx htx ht0 hP hnm;go_wp2_with (at_builtin;refine aBl rfl _ _ rfl w1.heap.size _ n1 c1 (stj.map Prod.fst) rfl HO9.out t rfl (by omega) hsz9 ?_;intro A10 c10 w10 hord10 hgr10 hat10)
   have hm10:=Mid.of_grownRow HO9.out hgr10;have bx10:=bx.mid hm10 (Or.inl (by omega));have hL10:=HL4.out.grown hgr10 HD.out;have hmm10:=hm.transNew hm10 (Or.inl (by omega));have hmap:(stj++[(t,wd++[x])]).map Prod.fst=stj.map Prod.fst++[t]:=by simp
   have HMAP:=oH hmap;have hw46:w4.heap.size<=w6.heap.size:=HL4.out.1;have HD10:Hid (∀ g,Value.ownBlock (.slice A10 (n1+1) c10)=some g->g<w1.heap.size+1 \/ w4.heap.size<=g):=oH (by
    intro g hg;rcases hat10 with h|h
    .exact HD.out g (h.symm.trans hg)
    .rw[h] at hg
     injection hg with hg
     omega)
   have HL10:=oH hL10;clear hL10 hmap hat10 hgr10;go_roundw
   case rel=>exact⟨j+1,n1+1,A10,c10,by omega,by go_num,rfl,oH (by rw[HNX.out,List.length_append,HN.out];rfl),by rw[HNX.out,HMAP.out];exact hord10,HL10,HD10,bx10,hmm10⟩
   simp[intOf];omega
  obtain rfl:j=LL:=by omega
  have htk:(lets r).take j=lets r:=List.take_of_length_le (by rw[HLn.out];exact oN);rw[htk] at hstj;have hnx:=hNX.out;rw[hstj] at hnx;have HNX:=oH hnx;have hin1:i+1<=n1:=by have h1:=(List.getElem?_eq_some_iff.1 hpj).1;have h2:=HN.out;omega
  clear hnx hstj hpj;go_wp2_with fail;go_roundw
  case rel=>exact⟨i+1,n1,A1,c1,hin1,by go_num,rfl,by rw[HNX.out];exact HN,by rw[HNX.out];exact hord,HL4,HD,bx,hm⟩
  simp[intOf];omega
 obtain rfl:i=n1:=by omega
 have hbf:=aSO (L:=lets r) HG.out.all hv0 hv3 (by omega) HN.out;have hord':aBO r es 0=(aAo es (lets r) 0 i).map Prod.fst:=by rw[aBO,Int.toNat_natCast,hbf]
 have hlen:(aBO r es 0).length=i:=by rw[hord',List.length_map];exact HN.out
 have HORD:=oH hord';have HLEN:=oH hlen;clear hbf hord' hlen;go_wp2_with fail;go_ret;exact⟨A1,c1,by rw[HLEN.out];rfl,by rw[HORD.out];exact(aAy hord).wide oZ oN oN,hm⟩
theorem aGR(w:World)(e:TypeId)(u:Value):(w.alloc (.cells #[u] e)).ownsRow w.heap.size e 1 (.slice (some ⟨w.heap.size,0,none⟩) 1 1) 1 [u]:=
 ⟨rfl,.inr ⟨w.heap.size,1,#[u],rfl,oN,heap_alloc_new w _,oN,by unfold maxLen;omega,rfl,rfl⟩⟩
def MarkerX(P:Prop):Prop:=P
theorem MarkerX.to{P:Prop}(h:MarkerX P):P:=h
theorem aBE{na nb N:Nat}(hN:(na:Int) * (nb:Int)=(N:Int)){p:Int × Int}(h:PIn na nb p):∃ q a b m:Nat,p=((a:Int),(b:Int))/\a<na/\b<nb/\(a:Int) * (nb:Int)=(m:Int)/\(m:Int)+(b:Int)=(q:Int)/\q<N/\aAJ nb p=(q:Int)/\m<=q /\
  Int.tdiv (q:Int) (nb:Int)=(a:Int)/\Int.tmod (q:Int) (nb:Int)=(b:Int):=by
 have h1:=aIY h;have h2:=aPq h;obtain⟨x,y⟩:=p;obtain⟨i1,i2,i3,i4⟩:=h;simp only at i1 i2 i3 i4;obtain⟨a,rfl⟩:∃ a:Nat,x=a:=⟨x.toNat,by omega⟩
 obtain⟨b,rfl⟩:∃ b:Nat,y=b:=⟨y.toNat,by omega⟩
 obtain⟨m,hm⟩:∃ m:Nat,(a:Int) * (nb:Int)=(m:Int):=⟨a * nb,by simp⟩
 have h3:aAJ nb ((a:Int),(b:Int))=((m+b:Nat):Int):=by
  unfold aAJ;simp only;rw[hm];omega
 rw[h3,hN] at h1;rw[h3] at h2;exact⟨m+b,a,b,m,rfl,by omega,by omega,hm,by omega,by omega,h3,by omega,h2.1,h2.2⟩
theorem aFA{ea eb:List Ed}{p:Int × Int}{st:PS}{x:Int}(h:aAe ea p.1 x<0):aCo ea eb p st x=st:=by
 unfold aCo;rw[if_pos (Or.inl h)]
theorem aFB{ea eb:List Ed}{p:Int × Int}{st:PS}{x:Int}(h:aAe eb p.2 x<0):aCo ea eb p st x=st:=by
 unfold aCo;rw[if_pos (Or.inr (Or.inl h))]
theorem aFC{ea eb:List Ed}{p:Int × Int}{st:PS}{x:Int}(h:aAI ea eb p x∈st):aCo ea eb p st x=st:=by
 unfold aCo;rw[if_pos (Or.inr (Or.inr h))]
theorem aFD{ea eb:List Ed}{p:Int × Int}{st:PS}{x:Int}(h1:¬ aAe ea p.1 x<0)(h2:¬ aAe eb p.2 x<0)(h3:aAI ea eb p x ∉ st):aCo ea eb p st x=st++[aAI ea eb p x]:=by
 unfold aCo;rw[if_neg (fun h=>h.elim h1 fun h=>h.elim h2 h3)]
theorem aLh(r na nb u v:Nat)(A B:Option Addr)(ea eb:List Ed)(c d:Nat)(w:World)(lo hi lo2 hi2:Nat)(hr:RG w lo hi A ea)(hr2:RG w lo2 hi2 B eb)(hg:IsGr r na ea)(hg2:IsGr r nb eb)(hu:u<na)(hv:v<nb) :
  Calls Tryz.prog 121 #[aAw r na A ea.length c,aAw r nb B eb.length d,.int .i64 u,.int .i64 v] w fun e w'=>∃ A1 c1,e=.returned (.slice A1 (aAf ea eb (lets r) (u,v)).length c1)/\RV w' 0 w'.heap.size A1 (aAd ((aAf ea eb (lets r) (u,v)).map (aAJ nb)))/\Mid 0 0 w w':=by
 have hna:na<=40:=by have:=hg.size;omega
 have hnb:nb<=40:=by have:=hg2.size;omega
 have hnb1:(0:Int)<(nb:Int):=by have:=hg2.size;omega
 have hnb0:¬ nb=0:=by omega
 have hr3:r<=3:=by have:=hg.rank;omega
 have hl:=hg.len;have hl2:=hg2.len;have hgl:∀ e∈ea,1<=e.l/\e.l<=3:=fun e he=>by have:=hg.all e he;unfold InG at this;omega
 have hgl2:∀ e∈eb,1<=e.l/\e.l<=3:=fun e he=>by have:=hg2.all e he;unfold InG at this;omega
 have hp0:PIn na nb ((u:Int),(v:Int)):=⟨Int.natCast_nonneg _,Int.ofNat_lt.2 hu,Int.natCast_nonneg _,Int.ofNat_lt.2 hv⟩
 have hmulb:(na:Int) * (nb:Int)<=40 * 40:=Int.mul_le_mul (by omega) (by omega) (by omega) (by omega);obtain⟨N,hN⟩:∃ N:Nat,(na:Int) * (nb:Int)=(N:Int):=⟨na * nb,by simp⟩
 have hN16:N<=1600:=by rw[hN] at hmulb;omega
 obtain⟨q0,u',v',m0,hpq, -, -,hm0e,hq0e,hq0,hpc0,hmq0, -, -⟩:=aBE hN hp0;simp only[Prod.mk.injEq,Int.ofNat_inj] at hpq;obtain⟨rfl,rfl⟩:=hpq;have hmx:N<=maxLen:=by unfold maxLen;omega
 have HP0:=oH hp0;have HPC:=oH hpc0;have HG:=oH hg;have HG2:=oH hg2;have HGL:=oH hgl;have HGL2:=oH hgl2;have HNN:=oH hN;have hm0:Mid 0 0 w ((w.alloc (.cells #[.int .i64 r,.int .i64 na,.slice A ea.length c] 35)).alloc (.cells #[.int .i64 r,.int .i64 nb,.slice B eb.length d] 35)):=(Mid.alloc _ _).trans (Mid.alloc _ _);have B0:=(Box.new w #[.int .i64 r,.int .i64 na,.slice A ea.length c] 35).mid (Mid.alloc _ (.cells #[.int .i64 r,.int .i64 nb,.slice B eb.length d] 35)) oZr;have B1:=Box.new (w.alloc (.cells #[.int .i64 r,.int .i64 na,.slice A ea.length c] 35)) #[.int .i64 r,.int .i64 nb,.slice B eb.length d] 35;rw[World.size_alloc] at B1;clear hg hg2 hgl hgl2 hp0 hpc0 hmulb;go_enter Tryz.func121,Tryz.ntmps121
 obtain⟨p0,p1,p2⟩:=B0.c3 rfl;obtain⟨p'0,p'1,p'2⟩:=B1.c3 rfl;go_wp2_with (at_make;refine MarkerX.to ?_)
 unfold MarkerX;refine aCB rfl _ _ 121 rfl 4 (.bool false) 1 aSM aSj rfl .i64 .i64 _ _ N rfl rfl rfl rfl (by omega) hmx ?_;intro w2 hown2 hgr2 hsz2;simp only[World.size_alloc] at hown2 hsz2;have hm2:=hm0.trans (Mid.of_grown hgr2 (by intro g h;cases h));have hmg:=Mid.of_grown (lo:=0) (hi:=0) hgr2 (by intro g h;cases h);have hst2:=Mid.setAt w2 (w.heap.size+1+1) q0 (.bool true);replace B0:=B0.mid hmg oZr;replace B1:=B1.mid hmg oZr;clear hmg hm0 hgr2 p0 p1 p2 p'0 p'1 p'2;have B0s:=B0.mid hst2 (Or.inl (by omega));have B1s:=B1.mid hst2 (Or.inl (by omega));have hwa:w.heap.size<w2.heap.size:=by omega
 have hwb:w.heap.size+1<w2.heap.size:=by omega
 have p0:=B0s.cell 0 rfl;have p'0:=B1s.cell 0 rfl;have p'1:=B1.cell 1 rfl;have hal:=hown2.alloc (.cells #[.int .i64 q0] 3);have hfz:=hal.frozenAt q0;obtain⟨u0, -,hcs⟩:=aDv hal hq0;clear hal;have O0:=aGR (w2.setCell ⟨w.heap.size+1+1,q0,none⟩ (.bool true)) 3 (.int .i64 q0);have hset:=aBA (ys:=aBM N [(q0:Int)]) hown2 q0 (.bool true) (by rw[<- aFE,aBG hq0];rfl);have hms:=Mid.storeNew hm2 (p:=⟨w.heap.size+1+1,q0,none⟩) (Nat.le_succ_of_le (Nat.le_succ_of_le oN)) (.bool true);have hal:=Mid.alloc (w2.setCell ⟨w.heap.size+1+1,q0,none⟩ (.bool true)) (.cells #[.int .i64 q0] 3);simp only[World.size_setCell] at O0;go_wp2_with fail;with_reducible refine(aDW r _ (by omega)).mono ?_
 rintro en w4 ⟨A4,c4,rfl,hL4,hm4⟩;have hs4:w2.heap.size+1<=w4.heap.size:=by have:=hm4.size;simpa using this
 rw[World.size_alloc,World.size_setCell] at hL4;replace B0s:=B0s.mid hal oZr;replace B1s:=B1s.mid hal oZr;replace hset:=aAc hset hal oZl;replace hms:=hms.trans hal;replace B0s:=B0s.mid hm4 oZr;replace B1s:=B1s.mid hm4 oZr;replace hset:=aAc hset hm4 oZl;replace O0:=aAc O0 hm4 oZl;replace hms:=hms.trans hm4;have hst0:(aAN ea eb (lets r) ((u:Int),(v:Int)) 0).map (aAJ nb)=[(q0:Int)]:=by
  show[aAJ nb ((u:Int),(v:Int))]=_
  rw[HPC.out]
 have HST0:=oH hst0;clear p0 p'0 p'1 hal hm4 hm2 hst2 hcs hfz hown2 B0 B1 hst0 hm0e hq0e;have HLL:=oH (aBL r);obtain⟨LL,hLL⟩:∃ LL,(lets r).length=LL:=⟨_,rfl⟩
 have hLL6:LL<=6:=by have:=HLL.out;omega
 rw[hLL];have HLn:=oH hLL;clear hLL;go_wp2_with fail;go_loopw [10,12] (fun ord iv wr=>∃(i n1:Nat) (A1:Option Addr) (c1:Nat),i<=n1/\iv=.int .i64 i/\ord=.slice A1 n1 c1/\Hid ((aAN ea eb (lets r) (u,v) i).length=n1) /\
   wr.ownsRow w2.heap.size 3 1 (.slice A1 n1 c1) n1 (aAd ((aAN ea eb (lets r) (u,v) i).map (aAJ nb)))/\wr.ownsRow (w.heap.size+1+1) 4 1 (.slice (some ⟨w.heap.size+1+1,0,none⟩) N N) N (aBM N ((aAN ea eb (lets r) (u,v) i).map (aAJ nb))) /\
     Hid (RV wr (w2.heap.size+1) w4.heap.size A4 (aAd (lets r)))/\Hid (∀ g,Value.ownBlock (.slice A1 n1 c1)=some g->g<w2.heap.size+1 \/ w4.heap.size<=g)/\Box wr w.heap.size [.int .i64 r,.int .i64 na,.slice A ea.length c]/\Box wr (w.heap.size+1) [.int .i64 r,.int .i64 nb,.slice B eb.length d]/\Mid 0 0 w wr) (fun _ i _=>(1601 - intOf i).toNat)
 case atStart=>exact⟨0,1,_,1,oZ,rfl,rfl,oH rfl,by rw[HST0.out];exact O0,by rw[HST0.out];exact hset,oH hL4,oH (fun g hg=>by injection hg with hg;simp at hg;omega),B0s,B1s,hms⟩
 clear O0 hset hL4 B0s B1s hms;obtain⟨wo,hwo⟩:∃ wo,wo=wr:=⟨_,rfl⟩
 subst hwo;obtain⟨i,n1,A1,c1,hin,rfl,rfl,HN,hord,hsee,HL4,HD,bx,bz,hm⟩:=hrel;have hn1:n1<=1600:=by have h1:=aIW (lets r) HG.out HG2.out HP0.out i;have h2:=HN.out;omega
 have HOK:=oH (aFk (lets r) HG.out.all HG2.out.all HP0.out i);by_cases hlt:i<n1
 .obtain⟨p,hp⟩:=aAs (aAN ea eb (lets r) (u,v) i) (show i<(aAN ea eb (lets r) (u,v) i).length by rw[HN.out];exact hlt)
  have hpin:=HOK.out.rng p (List.mem_of_getElem? hp);obtain⟨q,a,b,m,rfl,ha,hb, -, -,hq,hpc, -,hqd,hqm⟩:=aBE HNN.out hpin;have HP:=oH hp;have HQ:=oH hpc;have hNX:=oH (aCw hp);have hi0:(0:Int)<=(i:Int):=by omega
  clear hp hpin hpc;go_wp2_with fail;go_loopw [10,13] (fun ord jv wr=>∃(j n1:Nat) (A1:Option Addr) (c1:Nat),j<=LL/\jv=.int .i64 j/\ord=.slice A1 n1 c1/\Hid ((aBo ea eb ((lets r).take j) (a,b) (aAN ea eb (lets r) (u,v) i)).length=n1) /\
    wr.ownsRow w2.heap.size 3 1 (.slice A1 n1 c1) n1 (aAd ((aBo ea eb ((lets r).take j) (a,b) (aAN ea eb (lets r) (u,v) i)).map (aAJ nb)))/\wr.ownsRow (w.heap.size+1+1) 4 1 (.slice (some ⟨w.heap.size+1+1,0,none⟩) N N) N (aBM N ((aBo ea eb ((lets r).take j) (a,b) (aAN ea eb (lets r) (u,v) i)).map (aAJ nb))) /\
    Hid (RV wr (w2.heap.size+1) w4.heap.size A4 (aAd (lets r)))/\Hid (∀ g,Value.ownBlock (.slice A1 n1 c1)=some g->g<w2.heap.size+1 \/ w4.heap.size<=g)/\Box wr w.heap.size [.int .i64 r,.int .i64 na,.slice A ea.length c]/\Box wr (w.heap.size+1) [.int .i64 r,.int .i64 nb,.slice B eb.length d]/\Mid 0 0 w wr) (fun _ j _=>LL - (intOf j).toNat)
  case atStart=>exact⟨0,n1,_,c1,oZ,rfl,rfl,by rw[List.take_zero];exact HN,hord,hsee,HL4,HD,bx,bz,hm⟩
  clear hord hsee HL4 HD bx bz hm;obtain⟨j,n1,A1,c1,hj,rfl,rfl,HN,hord,hsee,HL4,HD,bx,bz,hm⟩:=hrel;obtain⟨stj,hstj⟩:∃ st,aBo ea eb ((lets r).take j) (a,b) (aAN ea eb (lets r) (u,v) i)=st:=⟨_,rfl⟩
  have hokj:PbOk na nb stj:=by rw[<- hstj];exact PbOk.row HG.out.all HG2.out.all _ _ HOK.out
  have hpj:stj[i]?=some ((a:Int),(b:Int)):=by rw[<- hstj];exact aAO (aCU _ _ _ _ _) HP.out
  rw[hstj] at HN hord hsee;have hn1b:n1<=1600:=by
   have h1:=hokj.len (Int.natCast_nonneg _) (Int.natCast_nonneg _);have h2:=HN.out;rw[HNN.out] at h1;omega
  by_cases hlt2:j<LL
  .obtain⟨B4,o4,x,rfl,hB4,hx,hcx⟩:=HL4.out.at (k:=j) (by rw[HLn.out];exact hlt2)
   have hxm:=aHt (List.mem_of_getElem? hx);have hnx:=aFy (ea:=ea) (eb:=eb) (p:=((a:Int),(b:Int))) (st:=aAN ea eb (lets r) (u,v) i) hx;rw[hstj] at hnx;have hj0:(0:Int)<=(j:Int):=by omega
   have hj1:(j:Int)<(LL:Int):=by omega
   have hil:i<n1:=by have h1:=(List.getElem?_eq_some_iff.1 hpj).1;have h2:=HN.out;omega
   have hi1:(i:Int)<(n1:Int):=by omega
   obtain⟨g1,rfl,hg1,hg1s⟩:=aAU hord (show 0<n1 by omega);have hcu:wr.cell? ⟨g1,i,none⟩=some (.int .i64 q):=(hord.cellAt i (by omega)).trans (by rw[aAF,List.getElem?_map,hpj];show some (Value.int .i64 (aAJ nb ((a:Int),(b:Int))))=_;rw[HQ.out]);have hB4s:B4<wr.heap.size:=Nat.lt_of_lt_of_le hB4 HL4.out.1;have hcs1:=aBm HG.out.all (a:Int) x;have hcs2:=aBm HG2.out.all (b:Int) x;have HOJ:=oH hokj;have HNX0:=oH hnx;have HX:=oH hx;have HPJ:=oH hpj;have HCS1:=oH hcs1;have HCS2:=oH hcs2;have hwa:IntKind.i64.wrap (a:Int)=(a:Int):=IntWalk.i64_in _ (by omega);have hwb:IntKind.i64.wrap (b:Int)=(b:Int):=IntWalk.i64_in _ (by omega);have k0:=aAb bx.1 (bx.cell 0 rfl);have k1:=aAb bx.1 (bx.cell 1 rfl);have k2:=aAb bx.1 (bx.cell 2 rfl);have k3:=aAb hg1s hcu;have k4:=aAb hB4s hcx;have k5:=aAb bz.1 (bz.cell 1 rfl);have hA:=fun m os=>aAz r na A ea c a x (wg wr m os) lo hi (hr.mid (hm.trans (Mid.ofWg wr m os)) oZl) (by omega) HGL.out (by omega) (by omega);clear hx hokj hpj hstj hcu hcx hnx hcs1 hcs2;go_wp2_with fail;refine wqg ?_;repeat
    (with_reducible refine wpQuiet_step (fun K hK=>?_))
    go_simp
    first|(with_reducible refine hK _ ?_)|(rw[if_neg (by decide)];(with_reducible refine hK _ ?_))|(apply Exists.intro;refine⟨fun _=>?_,hK _ ?_⟩;((go_at_call 129;exact Calls.wg_of (hA _ _))))
    clear hK K
   with_reducible refine wpQuiet_nil ?_
   rintro _ ⟨⟨nq,osq⟩,rfl⟩;have hwg:=Mid.ofWg wr nq osq;generalize wg wr nq osq=w6 at hwg |-;replace bx:=bx.mid hwg oZr;replace bz:=bz.mid hwg oZr;replace hord:=aAc hord hwg oZl;replace hsee:=aAc hsee hwg oZl;replace hm:=hm.trans hwg;replace HL4:=oH (HL4.out.mid hwg oZl);have hg1s6:=Nat.lt_of_lt_of_le hg1s hwg.size;have hB4s6:B4<w6.heap.size:=Nat.lt_of_lt_of_le hB4 HL4.out.1;obtain⟨B5,o5,x5,hBe,hB5,hx5,hcx5⟩:=HL4.out.at (k:=j) (by rw[HLn.out];exact hlt2);injection hBe with hBe
   injection hBe with hBe1 hBe2
   subst hBe1;subst hBe2;have hxx:x5=x:=by have h:=HX.out;rw[hx5] at h;injection h
   subst hxx;have hcu6:w6.cell? ⟨g1,i,none⟩=some (.int .i64 q):=(hord.cellAt i (by omega)).trans (by rw[aAF,List.getElem?_map,HPJ.out];show some (Value.int .i64 (aAJ nb ((a:Int),(b:Int))))=_;rw[HQ.out]);clear k0 k1 k2 k3 k4 k5 hA;have k0:=aAb bz.1 (bz.cell 0 rfl);have k1:=aAb bz.1 (bz.cell 1 rfl);have k2:=aAb bz.1 (bz.cell 2 rfl);have k3:=aAb hg1s6 hcu6;have k4:=aAb hB4s6 hcx5;have hA:=fun m os=>aAz r nb B eb d b x5 (wg w6 m os) lo2 hi2 (hr2.mid (hm.trans (Mid.ofWg w6 m os)) oZl) (by omega) HGL2.out (by omega) (by omega);clear hx5 hcx5 hcu6;go_wp2_with fail;refine wqg ?_;repeat
    (with_reducible refine wpQuiet_step (fun K hK=>?_))
    go_simp
    first|(with_reducible refine hK _ ?_)|(rw[if_neg (by decide)];(with_reducible refine hK _ ?_))|(apply Exists.intro;refine⟨fun _=>?_,hK _ ?_⟩;((go_at_call 129;exact Calls.wg_of (hA _ _))))
    clear hK K
   with_reducible refine wpQuiet_nil ?_
   rintro _ ⟨⟨nq,osq⟩,rfl⟩;have hwg2:=Mid.ofWg w6 nq osq;generalize wg w6 nq osq=w7 at hwg2 |-;replace bx:=bx.mid hwg2 oZr;replace bz:=bz.mid hwg2 oZr;replace hord:=aAc hord hwg2 oZl;replace hsee:=aAc hsee hwg2 oZl;replace hm:=hm.trans hwg2;replace HL4:=oH (HL4.out.mid hwg2 oZl);clear k0 k1 k2 k3 k4 hA hwg hwg2 hg1s6 hB4s6 hB4s hg1s;have k1:=bz.cell 1 rfl;by_cases ht1:aAe ea a x5<0
   .have b1:decide (0<=aAe ea a x5)=false:=by simp;omega
    have HNX:=oH (HNX0.out.trans (aFA ht1));clear ht1;go_wp2_with fail;go_roundw
    case rel=>exact⟨j+1,n1,_,c1,by omega,by go_num,rfl,by rw[HNX.out];exact HN,by rw[HNX.out];exact hord,by rw[HNX.out];exact hsee,HL4,HD,bx,bz,hm⟩
    simp[intOf];omega
   have b1:decide (0<=aAe ea a x5)=true:=by simp;omega
   by_cases ht2:aAe eb b x5<0
   .have b2:decide (0<=aAe eb b x5)=false:=by simp;omega
    have HNX:=oH (HNX0.out.trans (aFB ht2));clear ht1 ht2;go_wp2_with fail;go_roundw
    case rel=>exact⟨j+1,n1,_,c1,by omega,by go_num,rfl,by rw[HNX.out];exact HN,by rw[HNX.out];exact hord,by rw[HNX.out];exact hsee,HL4,HD,bx,bz,hm⟩
    simp[intOf];omega
   have hpin2:=aEk HG.out.all HG2.out.all ((a:Int),(b:Int)) ht1 ht2;obtain⟨q',x',y',m',hpe,hx',hy',hme',hqe',hq',hpc',hmq', -, -⟩:=aBE HNN.out hpin2;have htx:aAe ea a x5=(x':Int):=congrArg Prod.fst hpe;have hty:aAe eb b x5=(y':Int):=congrArg Prod.snd hpe;have HMEM:=oH (HOJ.out.mem hpin2);have HQ':=oH hpc';have HT1:=oH ht1;have HT2:=oH ht2;simp only[htx,hty];clear b1 ht1 ht2 hpe htx hty hpin2 hpc';have c1':decide ((0:Int)<=(x':Int))=true:=by simp
   have c2':decide ((0:Int)<=(y':Int))=true:=by simp
   obtain⟨bb,hbb⟩:∃ bb:Bool,decide ((q':Int)∈stj.map (aAJ nb))=bb:=⟨_,rfl⟩
   have hcs:=(hsee.cellAt q' (by omega)).trans (aCI hq');rw[hbb] at hcs;cases bb
   rotate_left
   .have hin':=HMEM.out.1 (by rw[HQ'.out];exact of_decide_eq_true hbb)
    have HNX:=oH (HNX0.out.trans (aFC hin'));clear hbb hin';go_wp2_with fail;go_roundw
    case rel=>exact⟨j+1,n1,_,c1,by omega,by go_num,rfl,by rw[HNX.out];exact HN,by rw[HNX.out];exact hord,by rw[HNX.out];exact hsee,HL4,HD,bx,bz,hm⟩
    simp[intOf];omega
   have hnin:aAI ea eb ((a:Int),(b:Int)) x5 ∉ stj:=fun h=>by
    have:=HMEM.out.2 h;rw[HQ'.out] at this;exact absurd this (of_decide_eq_false hbb)
   have HNX:=oH (HNX0.out.trans (aFD HT1.out HT2.out hnin));have HMAP:Hid ((stj++[aAI ea eb ((a:Int),(b:Int)) x5]).map (aAJ nb)=stj.map (aAJ nb)++[(q':Int)]):=oH (by rw[List.map_append,<- HQ'.out];rfl);have hst7:=Mid.setAt w7 (w.heap.size+1+1) q' (.bool true);have hfz:=hsee.frozenAt q';have hse8:=aBA hsee q' (.bool true) (aBG hq');have hord8:=aAc hord hst7 (Or.inl (by omega));have bx8:=bx.mid hst7 (Or.inl (by omega));have bz8:=bz.mid hst7 (Or.inl (by omega));have hm8:=hm.transNew hst7 (Or.inl (by omega));have HL8:=oH (HL4.out.mid hst7 (Or.inl (by omega)));have HO9:=oH hord8;have HS9:=oH hse8;have hsz7:w2.heap.size<=w7.heap.size:=by have:=HL4.out.1;omega
   have k1':=bz8.cell 1 rfl;clear hbb hnin hord hord8 hsee hse8 hst7;go_wp2_with (at_builtin;refine aBl rfl _ _ rfl w2.heap.size _ n1 c1 (stj.map (aAJ nb)) rfl HO9.out q' (by rw[World.size_setCell];rfl) (by omega) (by rw[World.size_setCell];exact hsz7) ?_;intro A10 c10 w10 hord10 hgr10 hat10)
   rw[World.size_setCell] at hat10;have hm10:=Mid.of_grownRow HO9.out hgr10;have bx10:=bx8.mid hm10 (Or.inl (by omega));have bz10:=bz8.mid hm10 (Or.inl (by omega));have hsee10:=aCm HS9.out hgr10 (fun h=>by simp[Value.ownBlock] at h;omega);have hL10:=HL8.out.grown hgr10 HD.out;have hmm10:=hm8.transNew hm10 (Or.inl (by omega));have hw47:w4.heap.size<=w7.heap.size:=HL4.out.1;have HD10:Hid (∀ g,Value.ownBlock (.slice A10 (n1+1) c10)=some g->g<w2.heap.size+1 \/ w4.heap.size<=g):=oH (by
    intro g hg;rcases hat10 with h|h
    .exact HD.out g (h.symm.trans hg)
    .rw[h] at hg
     injection hg with hg
     omega)
   have HL10:=oH hL10;clear hL10 hat10 hgr10;go_roundw
   case rel=>exact⟨j+1,n1+1,A10,c10,by omega,by go_num,rfl,oH (by rw[HNX.out,List.length_append,HN.out];rfl),by rw[HNX.out,HMAP.out];exact hord10,by rw[HNX.out,HMAP.out];exact hsee10,HL10,HD10,bx10,bz10,hmm10⟩
   simp[intOf];omega
  obtain rfl:j=LL:=by omega
  have htk:(lets r).take j=lets r:=List.take_of_length_le (by rw[HLn.out];exact oN);rw[htk] at hstj;have hnx:=hNX.out;rw[hstj] at hnx;have HNX:=oH hnx;have hin1:i+1<=n1:=by have h1:=(List.getElem?_eq_some_iff.1 hpj).1;have h2:=HN.out;omega
  clear hnx hstj hpj;go_wp2_with fail;go_roundw
  case rel=>exact⟨i+1,n1,A1,c1,hin1,by go_num,rfl,by rw[HNX.out];exact HN,by rw[HNX.out];exact hord,by rw[HNX.out];exact hsee,HL4,HD,bx,bz,hm⟩
  simp[intOf];omega
 obtain rfl:i=n1:=by omega
 have HPE:=oH (aIm HG.out HG2.out HP0.out HN.out);go_wp2_with fail;go_ret;exact⟨A1,c1,by rw[HPE.out,HN.out];rfl,by rw[HPE.out];exact(aAy hord).wide oZ oN oN,hm⟩
section
open Go.RowKit
theorem aOn{w:World}{base n c b:Nat}{e:TypeId}{xs:List Value}(h:w.ownsRow base e 1 (.slice (some ⟨b,0,none⟩) n c) n xs):Box w b xs:=
 ⟨(h.lt b rfl).2,fun i u hu=>(h.cellAt i (by have h1:=h.1;have h2:=(List.getElem?_eq_some_iff.1 hu).1;omega)).trans hu,h.frozenAt⟩
def aPi(bs:List Nat)(nb n:Nat):List Value:=(bs.map fun b=>Value.slice (some ⟨b,0,none⟩) nb nb)++List.replicate (n - bs.length) (.slice none 0 0)
theorem aQG(nb n:Nat):aPi [] nb n=List.replicate n (.slice none 0 0):=by simp[aPi]
theorem aSq{bs:List Nat}{nb n b:Nat}(h:bs.length<n):(aPi bs nb n).set bs.length (.slice (some ⟨b,0,none⟩) nb nb)=aPi (bs++[b]) nb n:=by
 unfold aPi;rw[aOD _ _ _ (by simp) h,List.map_append,List.length_append]
 rfl
theorem aOc{bs:List Nat}{nb n j b:Nat}(h:bs[j]?=some b):(aPi bs nb n)[j]?=some (.slice (some ⟨b,0,none⟩) nb nb):=by
 unfold aPi;rw[List.getElem?_append_left (by simpa using(List.getElem?_eq_some_iff.1 h).1)];simp[h]
theorem aQF{bs:List Nat}{nb n:Nat}(h:bs.length<n):(aPi bs nb n)[bs.length]?=some (.slice none 0 0):=by
 unfold aPi;rw[List.getElem?_append_right (by simp),List.length_map,Nat.sub_self,List.getElem?_replicate,if_pos (by omega)]
def aFa(k n:Nat):List Int:=List.replicate k (-1)++List.replicate (n - k) 0
theorem aOZ(n:Nat):aAd (aFa 0 n)=List.replicate n (.int .i64 0):=by simp[aFa,aAd]
theorem aQi{k n:Nat}(h:k<n):(aAd (aFa k n)).set k (.int .i64 (-1))=aAd (aFa (k+1) n):=by
 have h1:=aOD (List.replicate k (-1:Int)) 0 (-1) (by simp) h;unfold aFa aAd;rw[<- List.map_set,h1,List.replicate_succ']
theorem aLC{k n:Nat}(h:k<=n):(aFa k n).length=n:=by simp[aFa];omega
theorem aOX(n:Nat):aFa n n=List.replicate n (-1):=by simp[aFa]
theorem aOY{k n:Nat}(h:k<n):(aAd (aFa k n))[k]?=some (.int .i64 0):=by
 rw[aAF];unfold aFa;rw[List.getElem?_append_right (by simp),List.length_replicate,Nat.sub_self,List.getElem?_replicate,if_pos (by omega)]
 rfl
structure Mat1 (w:World) (M:Nat) (bs:List Nat) (nb n:Nat):Prop where
 outer:Box w M (aPi bs nb n)
 asc:bs.Pairwise (·<·)
 rng:∀ b∈bs,M<b
 rows:∀ b∈bs,Box w b (aAd (aFa nb nb))
theorem Mat1.mid{w w':World}{M nb n lo hi:Nat}{bs:List Nat}(h:Mat1 w M bs nb n)(m:Mid lo hi w w')(hd:hi<=M \/ w.heap.size<=lo):Mat1 w' M bs nb n:=
 ⟨h.outer.mid m (by have:=h.outer.1;omega),h.asc,h.rng,fun b hb=>(h.rows b hb).mid m (by have h1:=(h.rows b hb).1;have h2:=h.rng b hb;omega)⟩
structure PMat (w:World) (M Ob:Nat) (bs:List Nat) (nb:Nat) (S:PS):Prop where
 outer:Box w M (aPi bs nb bs.length)
 nd:bs.Nodup
 rng:∀ b∈bs,M<b/\b<Ob
 rows:∀(i b:Nat),bs[i]?=some b->∃ row:List Int,Box w b (aAd row)/\row.length=nb/\∀(j:Nat) (x:Int),row[j]?=some x->(x<0↔((i:Int),(j:Int)) ∉ S)/\-1<=x/\x<=1600
theorem Mat1.full{w:World}{M nb:Nat}{bs:List Nat}(h:Mat1 w M bs nb bs.length):PMat w M w.heap.size bs nb []:=by
 refine⟨h.outer,h.asc.imp Nat.ne_of_lt,fun b hb=>⟨h.rng b hb,(h.rows b hb).1⟩,fun i b hi=>⟨aFa nb nb,h.rows b (List.mem_of_getElem? hi),aLC oN,fun j x hx=>?_⟩⟩;rw[aOX] at hx;have:=List.eq_of_mem_replicate (List.mem_of_getElem? hx);subst this;exact⟨⟨fun _ h=>by simp at h,fun _=>by omega⟩,by omega,by omega⟩
section
variable {w w':World} {M Ob nb a b s t:Nat} {bs:List Nat} {S:PS}
theorem PMat.mid(h:PMat w M Ob bs nb S)(m:Mid a b w w')(hd:Ob<=a/\M<Ob \/ b<=M):PMat w' M Ob bs nb S:=by
 refine⟨h.outer.mid m (by omega),h.nd,h.rng,fun i g hi=>?_⟩;obtain⟨row,h1,h2,h3⟩:=h.rows i g hi;exact⟨row,h1.mid m (by have:=h.rng g (List.mem_of_getElem? hi);omega),h2,h3⟩
theorem PMat.get(h:PMat w M Ob bs nb S){g:Nat}(hs:bs[s]?=some g)(ht:t<nb) :
  ∃ x:Int,w.cell? ⟨M,s,none⟩=some (.slice (some ⟨g,0,none⟩) nb nb)/\w.cell? ⟨g,t,none⟩=some (.int .i64 x)/\(x<0↔((s:Int),(t:Int)) ∉ S)/\-1<=x/\x<=1600:=by
 obtain⟨row,h1,h2,h3⟩:=h.rows s g hs;obtain⟨x,hx⟩:=aAs row (show t<row.length by omega);obtain⟨h4,h5,h6⟩:=h3 t x hx;exact⟨x,h.outer.cell s (aOc hs),h1.cell t (by rw[aAF,hx];rfl),h4,h5,h6⟩
theorem PMat.frz(h:PMat w M Ob bs nb S){g:Nat}(hs:bs[s]?=some g):∀ i,w.frozen? ⟨g,i,none⟩=false:=by
 obtain⟨row,h1, -⟩:=h.rows s g hs;exact h1.2.2
theorem PMat.put(h:PMat w M Ob bs nb S){g:Nat}(hs:bs[s]?=some g)(ht:t<nb){k:Int}(h0:0<=k)(h1:k<=1600):PMat (w.setCell ⟨g,t,none⟩ (.int .i64 k)) M Ob bs nb (S++[((s:Int),(t:Int))]):=by
 have hm:=Mid.setCell w (lo:=g) (hi:=g+1) (p:=⟨g,t,none⟩) (.int .i64 k) oN oS;have hg:=h.rng g (List.mem_of_getElem? hs);refine⟨h.outer.mid hm (by omega),h.nd,h.rng,fun i g' hi=>?_⟩;obtain⟨row,g1,g2,g3⟩:=h.rows i g' hi;by_cases his:i=s
 .subst his
  rw[hs] at hi;injection hi with hi
  subst hi;refine⟨row.set t k,?_,by rw[List.length_set];exact g2,fun j x hx=>?_⟩
  .exact g1.set t _ (by rw[aAG];omega) (by unfold aAd;rw[List.map_set])
  by_cases hj:j=t
  .subst hj
   rw[List.getElem?_set_self (by omega)] at hx;injection hx with hx
   subst hx;refine⟨⟨fun h=>absurd h (by omega),fun h=>absurd (List.mem_append_right _ (by simp)) h⟩,by omega,h1⟩
  rw[List.getElem?_set_ne (Ne.symm hj)] at hx;obtain⟨g4,g5,g6⟩:=g3 j x hx;refine⟨g4.trans ⟨fun h hm=>?_,fun h hm=>h (List.mem_append_left _ hm)⟩,g5,g6⟩;rcases List.mem_append.1 hm with hm|hm
  .exact h hm
  simp at hm;omega
 have hne:g'≠g:=fun e=>by
  subst e;have l1:=(List.getElem?_eq_some_iff.1 hi).1;exact his ((List.getElem?_inj l1 h.nd).1 (hi.trans hs.symm))
 refine⟨row,g1.mid hm (by omega),g2,fun j x hx=>?_⟩;obtain⟨g4,g5,g6⟩:=g3 j x hx;refine⟨g4.trans ⟨fun h hm=>?_,fun h hm=>h (List.mem_append_left _ hm)⟩,g5,g6⟩;rcases List.mem_append.1 hm with hm|hm
 .exact h hm
 simp at hm;omega
end
structure Pc where
 u:Int
 v:Int
 n:Int
 m:Int
 e:Bool
def Pc.cells(p:Pc):List Value:=[.int .i64 p.u,.int .i64 p.v,.int .i64 p.n,.int .i64 p.m,.bool p.e]
def pcV(ps:List Pc):List Value:=ps.flatMap Pc.cells
theorem aPp(a b:List Pc):pcV (a++b)=pcV a++pcV b:=by simp[pcV]
theorem aTK(p:Pc):pcV [p]=p.cells:=by simp[pcV]
theorem aRl:∀ ps:List Pc,(pcV ps).length=ps.length * 5
|[]=>rfl
|p::t=>by
  have h:=aRl t;have e:pcV (p::t)=p.cells++pcV t:=by simp[pcV]
  rw[e,List.length_append,h];simp[Pc.cells];omega
theorem aKc:∀ {ps:List Pc} {k i:Nat} {p:Pc} {u:Value},ps[k]?=some p->p.cells[i]?=some u->(pcV ps)[k * 5+i]?=some u
|[],k,i,p,u,h,_=>by simp at h
|q::t,0,i,p,u,h,hi=>by
  simp at h;subst h;have e:pcV (q::t)=q.cells++pcV t:=by simp[pcV]
  have hl:=(List.getElem?_eq_some_iff.1 hi).1;rw[e,Nat.zero_mul,Nat.zero_add,List.getElem?_append_left hl];exact hi
|q::t,k+1,i,p,u,h,hi=>by
  simp at h;have h1:=aKc h hi;have e:pcV (q::t)=q.cells++pcV t:=by simp[pcV]
  rw[e,List.getElem?_append_right (by simp[Pc.cells];omega),show(k+1) * 5+i - q.cells.length=k * 5+i by simp[Pc.cells];omega];exact h1
theorem aRk{p:Pc}:∀ u∈p.cells,u.oneCell'=true:=by
 intro u hu;simp[Pc.cells] at hu;rcases hu with rfl|rfl|rfl|rfl|rfl <;> rfl
theorem aUO:Tryz.prog.underlying 116=some (.slice 120):=by kernel_rfl
theorem aUv:(Tryz.prog.info? 120).map (fun i=>(i.zero,i.size,i.bytes))=some (some (.agg #[.int .i64 0,.int .i64 0,.int .i64 0,.int .i64 0,.bool false]),5,40):=by kernel_rfl
section
variable {W:World} {ops:Array Oper} {rest:List Oper} {o:Oper} {a:Act} {Q:Exit->Act->World->Prop}
theorem aLl(hgd:o.guard=none)(s x:Operand)(ho:o.op=.call { callee:=.builtin .append,args:=#[s,x],argTypes:=#[116,116] })(lo:Nat)(A:Option Addr)(n c:Nat)(ps:List Pc)(hs:a.eval s=.slice A n c)(hown:W.ownsRow lo 120 5 (.slice A n c) n (pcV ps))(p:Pc)(hx:a.eval x=.slice (some ⟨W.heap.size,0,none⟩) 1 1)(hn:n<=1048576)(hb:lo<=W.heap.size)(h:∀ A' c' w',w'.ownsRow lo 120 5 (.slice A' (n+1) c') (n+1) (pcV (ps++[p]))->W.grownBy w' (Value.ownBlock (.slice A n c))->(Value.ownBlock (.slice A' (n+1) c')=Value.ownBlock (.slice A n c) \/ Value.ownBlock (.slice A' (n+1) c')=some (W.heap.size+1))->wpList Tryz.prog ops Q rest (a.put o.dst (.slice A' (n+1) c')) w') :
  wpList Tryz.prog ops Q (o::rest) a (W.alloc (.cells #[.int .i64 p.u,.int .i64 p.v,.int .i64 p.n,.int .i64 p.m,.bool p.e] 120)):=by
 refine aAr (news:=p.cells) hgd s x 116 ho lo 120 (.agg #[.int .i64 0,.int .i64 0,.int .i64 0,.int .i64 0,.bool false]) 5 40 aUO aUv rfl (by decide) (.slice A n c) n (pcV ps) hs hown 1 hx rfl aRk (by unfold maxLen;omega) (by omega) hb ?_;intro v' w' h1 h2 h3;obtain⟨A',c',rfl, -, -⟩:=aAg h1;refine h A' c' w' ?_ h2 h3;rw[aPp,aTK];exact h1
end
theorem aQZ{nb u v:Nat}(hv:v<nb):aBd nb (u * nb+v)=((u:Int),(v:Int)):=by
 unfold aBd;rw[Nat.mul_comm u nb,Nat.mul_add_div (by omega),Nat.div_eq_of_lt hv,Nat.mul_add_mod,Nat.mod_eq_of_lt hv,Nat.add_zero]
structure PcsOk (es es':List Ed) (r nb k:Nat) (ps:List Pc):Prop where
 rk:ps.map (fun p=>p.m - p.n+1)=(aAm es es' r nb k).2
 bd:∀ p∈ps,0<=p.n/\p.n<=1600/\0<=p.m/\p.m<=4800
theorem PcsOk.len{es es':List Ed}{r nb k:Nat}{ps:List Pc}(h:PcsOk es es' r nb k ps):ps.length<=k:=by
 have h1:=congrArg List.length h.rk;have h2:=aFp es es' r nb k;rw[List.length_map] at h1;omega
end
theorem aIS{ea eb:List Ed}{P:PS}{i:Nat}{p:Int × Int}{k:Nat}(h:aAe ea p.1 ((k:Int)+1)<0 \/ aAe eb p.2 ((k:Int)+1)<0):aCD ea eb P i p (k+1)=aCD ea eb P i p k:=by
 rw[aIT,aRf,if_pos h];simp
theorem aKT{ea eb:List Ed}{P:PS}{i:Nat}{p:Int × Int}{k:Nat}(h1:¬ aAe ea p.1 ((k:Int)+1)<0)(h2:¬ aAe eb p.2 ((k:Int)+1)<0):aCD ea eb P i p (k+1)=aCD ea eb P i p k++[⟨i,(k:Int)+1,(P.idxOf (aAI ea eb p ((k:Int)+1)):Nat)⟩]:=by
 rw[aIT,aRf,if_neg (fun h=>h.elim h1 h2)];simp
theorem aHf(r na nb:Nat)(A B AP:Option Addr)(ea eb:List Ed)(P:PS)(c d cp PL:Nat)(w:World)(lo hi lo2 hi2 lo3 hi3:Nat)(hr:RG w lo hi A ea)(hr2:RG w lo2 hi2 B eb)(hr3:RV w lo3 hi3 AP (aAd (P.map (aAJ nb))))(hg:IsGr r na ea)(hg2:IsGr r nb eb)(hin:∀ p∈P,PIn na nb p)(hPL:P.length=PL)(hPl:PL<=1600) :
  Calls Tryz.prog 122 #[aAw r na A ea.length c,aAw r nb B eb.length d,.slice AP PL cp] w fun e w'=>e=.returned (.int .i64 ((aAZ ea eb r P PL).length:Nat))/\Mid 0 0 w w':=by
 have hna:na<=40:=by have:=hg.size;omega
 have hnb:nb<=40:=by have:=hg2.size;omega
 have hnb0:¬ nb=0:=by have:=hg2.size;omega
 have hrr:r<=3:=by have:=hg.rank;omega
 have hl:=hg.len;have hl2:=hg2.len;have hgl:∀ e∈ea,1<=e.l/\e.l<=3:=fun e he=>by have:=hg.all e he;unfold InG at this;omega
 have hgl2:∀ e∈eb,1<=e.l/\e.l<=3:=fun e he=>by have:=hg2.all e he;unfold InG at this;omega
 obtain⟨N,hN⟩:∃ N:Nat,(na:Int) * (nb:Int)=(N:Int):=⟨na * nb,by simp⟩
 have hall:∀ i,i<=PL->(aAZ ea eb r P i).length<=4800:=fun i hi=>by
  have h1:=aCv ea eb r P i;have h2:i * r<=1600 * 3:=Nat.mul_le_mul (by omega) hrr;omega
 have HALL:=oH hall;have HG:=oH hg;have HG2:=oH hg2;have HGL:=oH hgl;have HGL2:=oH hgl2;have HNN:=oH hN;have HIN:=oH hin;have HPL:=oH hPL;have hm0:Mid 0 0 w ((w.alloc (.cells #[.int .i64 r,.int .i64 na,.slice A ea.length c] 35)).alloc (.cells #[.int .i64 r,.int .i64 nb,.slice B eb.length d] 35)):=(Mid.alloc _ _).trans (Mid.alloc _ _);have B0:=(Box.new w #[.int .i64 r,.int .i64 na,.slice A ea.length c] 35).mid (Mid.alloc _ (.cells #[.int .i64 r,.int .i64 nb,.slice B eb.length d] 35)) oZr;have B1:=Box.new (w.alloc (.cells #[.int .i64 r,.int .i64 na,.slice A ea.length c] 35)) #[.int .i64 r,.int .i64 nb,.slice B eb.length d] 35;rw[World.size_alloc] at B1;clear hg hg2 hgl hgl2 hin hN hPL hall;go_enter Tryz.func122,Tryz.ntmps122
 go_wp2_with fail;go_loopw [7,8] (fun nv iv wr=>∃(i m:Nat),i<=PL/\iv=.int .i64 i/\nv=.int .i64 m/\Hid ((aAZ ea eb r P i).length=m) /\
   Box wr w.heap.size [.int .i64 r,.int .i64 na,.slice A ea.length c]/\Box wr (w.heap.size+1) [.int .i64 r,.int .i64 nb,.slice B eb.length d]/\Mid 0 0 w wr) (fun _ i _=>PL - (intOf i).toNat)
 case atStart=>exact⟨0,0,oZ,rfl,rfl,oH rfl,B0,B1,hm0⟩
 clear B0 B1 hm0;obtain⟨wo,hwo⟩:∃ wo,wo=wr:=⟨_,rfl⟩
 subst hwo;obtain⟨i,m0,hil,rfl,rfl,HN,bx,bz,hm⟩:=hrel;by_cases hlt:i<PL
 .obtain⟨p,hp⟩:=aAs P (show i<P.length by rw[HPL.out];exact hlt)
  obtain⟨q,a,b,m,rfl,ha,hb, -, -,hq,hpc, -,hqd,hqm⟩:=aBE HNN.out (HIN.out p (List.mem_of_getElem? hp));have HP:=oH hp;have HQ:=oH hpc;have HS:=oH (aCF (ea:=ea) (eb:=eb) (r:=r) hp);have hi0:(0:Int)<=(i:Int):=by omega
  have hi1:(i:Int)<(PL:Int):=by omega
  have hm00:m0<=4800:=by have h1:=HALL.out i hil;have h2:=HN.out;omega
  clear hp hpc;go_wp2_with fail;go_loopw [7,9] (fun nv xv wr=>∃(k m:Nat),k<=r/\xv=.int .i64 ((k:Int)+1)/\nv=.int .i64 m/\Hid (m0+(aCD ea eb P i ((a:Int),(b:Int)) k).length=m) /\
   Box wr w.heap.size [.int .i64 r,.int .i64 na,.slice A ea.length c]/\Box wr (w.heap.size+1) [.int .i64 r,.int .i64 nb,.slice B eb.length d]/\Mid 0 0 w wr) (fun _ x _=>(r+1 - intOf x).toNat)
  case atStart=>exact⟨0,m0,oZ,by go_num,rfl,oH (by simp[aCD]),bx,bz,hm⟩
  clear bx bz hm;obtain⟨k,m1,hk,rfl,rfl,HM,bx,bz,hm⟩:=hrel;have hm1b:m1<=4803:=by have h1:=aGY ea eb P i ((a:Int),(b:Int)) k;have h2:=HM.out;omega
  have p0:=bx.cell 0 rfl;have p'0:=bz.cell 0 rfl;by_cases hlt2:k<r
  .have hkr:(k:Int)+1<=(r:Int):=by omega
   obtain⟨B4,o4,x,rfl,hB4,hx,hcx⟩:=(hr3.mid hm oZl).at (k:=i) (by rw[List.length_map,HPL.out];exact hlt);have hxq:x=(q:Int):=by
    rw[List.getElem?_map,HP.out] at hx;injection hx with hx
    exact hx.symm.trans HQ.out
   subst hxq;have hB4s:B4<wr.heap.size:=Nat.lt_of_lt_of_le hB4 (hr3.mid hm oZl).1;have hwa:IntKind.i64.wrap (a:Int)=(a:Int):=IntWalk.i64_in _ (by omega);have hwb:IntKind.i64.wrap (b:Int)=(b:Int):=IntWalk.i64_in _ (by omega);have k0:=aAb bx.1 (bx.cell 0 rfl);have k1:=aAb bx.1 (bx.cell 1 rfl);have k2:=aAb bx.1 (bx.cell 2 rfl);have k3:=aAb hB4s hcx;have k5:=aAb bz.1 (bz.cell 0 rfl);have k6:=aAb bz.1 (bz.cell 1 rfl);have k7:=aAb bz.1 (bz.cell 2 rfl);have hA:=fun m os=>aAz r na A ea c a ((k:Int)+1) (wg wr m os) lo hi (hr.mid (hm.trans (Mid.ofWg wr m os)) oZl) (by omega) HGL.out (by omega) (by omega);have hB:=fun m os=>aAz r nb B eb d b ((k:Int)+1) (wg wr m os) lo2 hi2 (hr2.mid (hm.trans (Mid.ofWg wr m os)) oZl) (by omega) HGL2.out (by omega) (by omega);clear hx hcx;by_cases ht1:aAe ea a ((k:Int)+1)<0
   .have b1:decide (0<=aAe ea a ((k:Int)+1))=false:=by simp;omega
    have HE:=oH (aIS (ea:=ea) (eb:=eb) (P:=P) (i:=i) (p:=((a:Int),(b:Int))) (Or.inl ht1));clear ht1;go_wp2_with fail;refine wqg ?_;repeat
     (with_reducible refine wpQuiet_step (fun K hK=>?_))
     go_simp
     first|(with_reducible refine hK _ ?_)|(rw[if_neg (by decide)];(with_reducible refine hK _ ?_))|(apply Exists.intro;refine⟨fun _=>?_,hK _ ?_⟩;((first|(go_at_call 129;with_reducible exact Calls.wg_of (hA _ _))|(go_at_call 129;with_reducible exact Calls.wg_of (hB _ _)))))
     clear hK K
    with_reducible refine wpQuiet_nil ?_
    rintro _ ⟨⟨nq,osq⟩,rfl⟩;have hwg:=Mid.ofWg wr nq osq;generalize wg wr nq osq=w6 at hwg |-;replace bx:=bx.mid hwg oZr;replace bz:=bz.mid hwg oZr;replace hm:=hm.trans hwg;clear k0 k1 k2 k3 k5 k6 k7 hA hB p0 p'0;go_wp2_with fail;go_roundw
    case rel=>exact⟨k+1,m1,by omega,by go_num,rfl,by rw[HE.out];exact HM,bx,bz,hm⟩
    simp[intOf];omega
   have b1:decide (0<=aAe ea a ((k:Int)+1))=true:=by simp;omega
   by_cases ht2:aAe eb b ((k:Int)+1)<0
   .have b2:decide (0<=aAe eb b ((k:Int)+1))=false:=by simp;omega
    have HE:=oH (aIS (ea:=ea) (eb:=eb) (P:=P) (i:=i) (p:=((a:Int),(b:Int))) (Or.inr ht2));clear ht1 ht2;go_wp2_with fail;refine wqg ?_;repeat
     (with_reducible refine wpQuiet_step (fun K hK=>?_))
     go_simp
     first|(with_reducible refine hK _ ?_)|(rw[if_neg (by decide)];(with_reducible refine hK _ ?_))|(apply Exists.intro;refine⟨fun _=>?_,hK _ ?_⟩;((first|(go_at_call 129;with_reducible exact Calls.wg_of (hA _ _))|(go_at_call 129;with_reducible exact Calls.wg_of (hB _ _)))))
     clear hK K
    with_reducible refine wpQuiet_nil ?_
    rintro _ ⟨⟨nq,osq⟩,rfl⟩;have hwg:=Mid.ofWg wr nq osq;generalize wg wr nq osq=w6 at hwg |-;replace bx:=bx.mid hwg oZr;replace bz:=bz.mid hwg oZr;replace hm:=hm.trans hwg;clear k0 k1 k2 k3 k5 k6 k7 hA hB p0 p'0;go_wp2_with fail;go_roundw
    case rel=>exact⟨k+1,m1,by omega,by go_num,rfl,by rw[HE.out];exact HM,bx,bz,hm⟩
    simp[intOf];omega
   have b2:decide (0<=aAe eb b ((k:Int)+1))=true:=by simp;omega
   have HE:=oH (aKT (ea:=ea) (eb:=eb) (P:=P) (i:=i) (p:=((a:Int),(b:Int))) ht1 ht2);clear ht1 ht2;go_wp2_with fail;refine wqg ?_;repeat
    (with_reducible refine wpQuiet_step (fun K hK=>?_))
    go_simp
    first|(with_reducible refine hK _ ?_)|(rw[if_neg (by decide)];(with_reducible refine hK _ ?_))|(apply Exists.intro;refine⟨fun _=>?_,hK _ ?_⟩;((first|(go_at_call 129;with_reducible exact Calls.wg_of (hA _ _))|(go_at_call 129;with_reducible exact Calls.wg_of (hB _ _)))))
    clear hK K
   with_reducible refine wpQuiet_nil ?_
   rintro _ ⟨⟨nq,osq⟩,rfl⟩;have hwg:=Mid.ofWg wr nq osq;generalize wg wr nq osq=w6 at hwg |-;replace bx:=bx.mid hwg oZr;replace bz:=bz.mid hwg oZr;replace hm:=hm.trans hwg;clear k0 k1 k2 k3 k5 k6 k7 hA hB p0 p'0;go_wp2_with fail;go_roundw
   case rel=>exact⟨k+1,m1+1,by omega,by go_num,by go_num,oH (by rw[HE.out,List.length_append];have:=HM.out;simp;omega),bx,bz,hm⟩
   simp[intOf];omega
  obtain rfl:k=r:=by omega
  go_wp2_with fail;go_roundw
  case rel=>exact⟨i+1,m1,by omega,by go_num,rfl,oH (by rw[HS.out,List.length_append,HN.out];exact HM.out),bx,bz,hm⟩
  simp[intOf];omega
 obtain rfl:i=PL:=by omega
 go_wp2_with fail;go_ret;exact⟨by rw[HN.out];rfl,hm⟩
def WordTo(rank:Int)(xs:List Int)(k:Nat):Prop:=
 ∀ j x,j<k->xs[j]?=some x->aQC rank x=true/\∀ y,0<j->xs[j - 1]?=some y->aFf y x=false
theorem WordTo.zero(rank:Int)(xs:List Int):WordTo rank xs 0:=fun j x h=>absurd h (Nat.not_lt_zero j)
theorem WordTo.succ{rank:Int}{xs:List Int}{k:Nat}{x:Int}(h:WordTo rank xs k)(hx:xs[k]?=some x)(hl:aQC rank x=true)(hp:∀ y,0<k->xs[k - 1]?=some y->aFf y x=false):WordTo rank xs (k+1):=by
 intro j z hj hz;rcases Nat.lt_or_eq_of_le (Nat.le_of_lt_succ hj) with h1|rfl
 .exact h j z h1 hz
 rw[hx] at hz;obtain rfl:=Option.some.inj hz;exact⟨hl,hp⟩
theorem aKk{rank:Int}{xs:List Int}(h1:1<=rank)(h3:rank<=3):WordTo rank xs xs.length↔aRL rank xs:=by
 constructor
 .intro h
  refine⟨fun x hx=>?_,fun k x y hx hy he=>?_⟩
  .obtain⟨j,hj⟩:=List.mem_iff_getElem?.1 hx
   have:=(h j x (List.getElem?_eq_some_iff.1 hj).1 hj).1
   simpa [aQC] using this
  have hl:=(List.getElem?_eq_some_iff.1 hy).1;have h2:=(h (k+1) y hl hy).2 x (Nat.succ_pos k) (by simpa using hx);have h4:=(h k x (by omega) hx).1;simp[aQC] at h4;have:aFf x y=true:=(aIi x y).2 ⟨h4.1,by unfold aLY;omega,he⟩;rw[this] at h2;cases h2
 rintro⟨ha,hb⟩ j x hj hx;refine⟨by simpa [aQC] using ha x (List.mem_of_getElem? hx),fun y h0 hy=>?_⟩;cases hv:aFf y x with
|false=>rfl
|true=>exact absurd ((aIi y x).1 hv).2.2 (hb (j - 1) y x hy (by rw[Nat.sub_add_cancel h0];exact hx))
def aRJ(rank:Int)(xs:List Int)(j:Nat)(x:Int):Prop:=(x == 0)=false/\inB x (wrap64 (-rank)) rank=true/\∀ y,0<j->xs[j - 1]?=some y->(x == wrap64 (-y))=false
def RawTo(rank:Int)(xs:List Int)(k:Nat):Prop:=∀ j x,j<k->xs[j]?=some x->aRJ rank xs j x
theorem RawTo.zero(rank:Int)(xs:List Int):RawTo rank xs 0:=fun j x h=>absurd h (Nat.not_lt_zero j)
theorem RawTo.succ{rank:Int}{xs:List Int}{k:Nat}{x:Int}(h:RawTo rank xs k)(hx:xs[k]?=some x)(hp:aRJ rank xs k x):RawTo rank xs (k+1):=by
 intro j z hj hz;rcases Nat.lt_or_eq_of_le (Nat.le_of_lt_succ hj) with h1|rfl
 .exact h j z h1 hz
 rw[hx] at hz;obtain rfl:=Option.some.inj hz;exact hp
theorem aMj{rank:Int}{xs:List Int}(h1:1<=rank)(h3:rank<=3):RawTo rank xs xs.length↔aRL rank xs:=by
 have hw:wrap64 (-rank) = -rank:=by rw[aIs (by omega) (by omega)];unfold negI aLY;rw[if_neg (by omega)]
 have hwy:∀ y, -rank<=y->y<=rank->wrap64 (-y) = -y:=fun y ha hb=>by rw[aIs (by omega) (by omega)];unfold negI aLY;rw[if_neg (by omega)]
 unfold RawTo aRJ;rw[hw];constructor
 .intro h
  refine⟨fun x hx=>?_,fun k x y hx hy he=>?_⟩
  .obtain⟨j,hj⟩:=List.mem_iff_getElem?.1 hx
   have:=h j x (List.getElem?_eq_some_iff.1 hj).1 hj;simp[inB] at this;exact⟨this.1,this.2.1⟩
  have hl:=(List.getElem?_eq_some_iff.1 hy).1;have h2:=(h (k+1) y hl hy).2.2 x (Nat.succ_pos k) (by simpa using hx);have h4:=(h k x (by omega) hx).2.1;simp[inB] at h4;rw[hwy x h4.1 h4.2,he] at h2;simp at h2
 rintro⟨ha,hb⟩ j x hj hx;have h0:=ha x (List.mem_of_getElem? hx);refine⟨by simpa using h0.1,by simpa [inB] using h0.2,fun y hp hy=>?_⟩;have h5:=ha y (List.mem_of_getElem? hy);rw[hwy y h5.2.1 h5.2.2];have:=hb (j - 1) y x hy (by rw[Nat.sub_add_cancel hp];exact hx)
 simpa using this
def aCA(u x v:Int):Ed:=if x<0 then⟨v, -x,u⟩ else⟨u,x,v⟩
def aDx(u s:Int)(n:Nat)(v:Int)(i:Nat):Int:=if i=0 then u else if i<n then s+(i:Int) - 1 else v
def aDw(u s:Int)(w:List Int)(v:Int)(k:Nat):List Ed:=(List.range k).map fun i=>aCA (aDx u s w.length v i) (w.getD i 0) (aDx u s w.length v (i+1))
theorem aKb{u s v x:Int}{w:List Int}{k:Nat}(h:w[k]?=some x):aDw u s w v (k+1)=aDw u s w v k++[aCA (aDx u s w.length v k) x (aDx u s w.length v (k+1))]:=by
 simp[aDw,List.range_succ,List.getD,h]
theorem aGW(u s:Int)(w:List Int)(v:Int)(k:Nat):(aDw u s w v k).length=k:=by simp[aDw]
structure PathOk (r s:Int) (es:List Ed) (u:Int) (w:List Int) (v:Int):Prop where
 gr:IsGr r s es
 u0:0<=u/\u<s
 v0:0<=v/\v<s
 word:IsW r w
 ne:w≠[]
 sz:s+(w.length:Int) - 1<=40
 ln:es.length+w.length<=120
theorem aOq{u s v:Int}{n:Nat}(hu:0<=u/\u<s)(hv:0<=v/\v<s)(i:Nat):0<=aDx u s n v i/\(0<n->aDx u s n v i<s+(n:Int) - 1):=by
 unfold aDx;split
 .omega
 split <;> omega
theorem aSI{r s u x v:Int}(hu:0<=u/\u<s)(hv:0<=v/\v<s)(hx:x≠0/\-r<=x/\x<=r):InG r s (aCA u x v):=by
 unfold aCA InG;split <;> simp only <;> omega
theorem aRe{r s:Int}{es:List Ed}{u:Int}{w:List Int}{v:Int}(h:PathOk r s es u w v):IsGr r (s+(w.length:Int) - 1) (canon (es++aDw u s w v w.length)):=by
 have hs:=h.gr.size;have hn:0<w.length:=List.length_pos_iff.2 h.ne;refine⟨h.gr.rank,⟨by omega,h.sz⟩,?_,?_,aCP _⟩
 .have h1:=aDm (es++aDw u s w v w.length)
  rw[List.length_append,aGW] at h1;have:=h.ln;omega
 intro e he;rcases List.mem_append.1 (aBD.1 he) with h1|h1
 .have:=h.gr.all e h1
  unfold InG at this |-;omega
 simp only[aDw,List.mem_map,List.mem_range] at h1;obtain⟨i,hi,rfl⟩:=h1;have h2:=aOq (n:=w.length) h.u0 h.v0 i;have h3:=aOq (n:=w.length) h.u0 h.v0 (i+1);refine aSI ⟨h2.1,h2.2 hn⟩ ⟨h3.1,h3.2 hn⟩ ?_;have hw:=h.word.2.2.2;have hm:w.getD i 0∈w:=by
  rw[List.getD_eq_getElem?_getD,List.getElem?_eq_getElem hi];exact List.getElem_mem hi
 exact hw.1 _ hm
theorem aGi(rank:Int)(A:Option Addr)(xs:List Int)(c:Nat)(w:World)(B:Nat)(hr:Rs w B A (aAd xs))(hok:OkI xs)(hl:xs.length<=4194304)(r:Bool)(hres:r=true↔IsW rank xs) :
  Calls Tryz.prog 146 #[.int .i64 rank,.slice A xs.length c] w fun e w'=>e=.returned (.bool r)/\w=w':=by
 have HOK:=oH hok;have HR:=oH hres;clear hok hres;by_cases hb:inB rank 1 3=false
 .have hf:r=false:=by
   cases r
   .rfl
   have h:=HR.out.1 rfl;simp[inB] at hb;have:=h.1;have:=h.2.1;omega
  subst hf;have HB:=oH hb;clear hb;go_enter Tryz.func146,Tryz.ntmps146
  go_wp2_with fail;refine(aCK _ _ _ _).mono ?_;rintro e w' ⟨rfl,rfl⟩;rw[HB.out];go_wp2_with fail;go_ret;exact⟨rfl,rfl⟩
 have hb':inB rank 1 3=true:=by simpa using hb
 have h13:1<=rank/\rank<=3:=by simpa [inB] using hb'
 have HB:=oH hb';clear hb hb';obtain⟨h1,h3⟩:=h13;by_cases h24:24<xs.length
 .have hf:r=false:=by
   cases r
   .rfl
   have:=(HR.out.1 rfl).2.2.1;omega
  subst hf;go_enter Tryz.func146,Tryz.ntmps146
  go_wp2_with fail;refine(aCK _ _ _ _).mono ?_;rintro e w' ⟨rfl,rfl⟩;rw[HB.out];go_wp2_with fail;go_ret;exact⟨rfl,rfl⟩
 have hR2:r=true↔WordTo rank xs xs.length:=HR.out.trans ⟨fun h=>(aKk h1 h3).2 h.2.2.2,fun h=>⟨h1,h3,by omega,(aKk h1 h3).1 h⟩⟩;have HR2:=oH hR2;clear hR2 HR;go_enter Tryz.func146,Tryz.ntmps146
 go_wp2_with fail;refine(aCK _ _ _ _).mono ?_;rintro e w' ⟨rfl,rfl⟩;rw[HB.out];go_wp2_with fail;go_loop [5,6,17] (fun _ _ i=>∃ k:Nat,k<=xs.length/\i=.int .i64 k/\WordTo rank xs k) (fun _ _ i=>xs.length - (intOf i).toNat)
 case atStart=>exact⟨0,oZ,rfl,WordTo.zero _ _⟩
 obtain⟨k,hk,rfl,hto⟩:=hrel;have HT:=oH hto;clear hto;by_cases hlt:k<xs.length
 .obtain⟨b,off,x,rfl, -,hx,hc⟩:=hr.int hlt
  have HX:=oH hx;clear hx;by_cases hL:aQC rank x=false
  .have hf:r=false:=by
    cases r
    .rfl
    have:=(HR2.out.1 rfl k x hlt HX.out).1;rw[hL] at this;cases this
   subst hf;have HL:=oH hL;clear hL;go_wp2_with fail;refine(aDd _ _ _ h1 h3).mono ?_;rintro e w' ⟨rfl,rfl⟩;rw[HL.out];go_wp2_with fail;go_ret;exact⟨rfl,rfl⟩
  have hL':aQC rank x=true:=by simpa using hL
  have HL:=oH hL';clear hL hL';cases k with
 |zero=>
   have hc0:w.cell? ⟨b,off,none⟩=some (.int .i64 x):=hc;go_wp2_with fail;refine(aDd _ _ _ h1 h3).mono ?_;rintro e w' ⟨rfl,rfl⟩;rw[HL.out];go_wp2_with fail;go_round
   case rel=>exact⟨1,by omega,by go_num,HT.out.succ HX.out HL.out (fun y h=>absurd h (Nat.lt_irrefl 0))⟩
   simp[intOf];omega
 |succ m=>
   obtain⟨b',off',y,he, -,hy,hcy⟩:=hr.int (show m<xs.length by omega);injection he with he
   injection he with he1 he2 _
   subst he1 he2;have hby:=HOK.out y (List.mem_of_getElem? hy);have HY:=oH hy;have hyl:-9223372036854775808<=y/\y<=9223372036854775807:=hby;obtain⟨hy1,hy2⟩:=hyl;clear hy hby;by_cases hI:aFf y x=true
   .have hf:r=false:=by
     cases r
     .rfl
     have:=(HR2.out.1 rfl (m+1) x hlt HX.out).2 y (Nat.succ_pos m) HY.out;rw[hI] at this;cases this
    subst hf;have HI:=oH hI;clear hI;go_wp2_with fail;refine(aDd _ _ _ h1 h3).mono ?_;rintro e w' ⟨rfl,rfl⟩;rw[HL.out];go_wp2_with fail;refine(aCs _ _ _ hy1 hy2).mono ?_;rintro e w' ⟨rfl,rfl⟩;rw[HI.out];go_wp2_with fail;go_ret;exact⟨rfl,rfl⟩
   have hI':aFf y x=false:=by simpa using hI
   have HI:=oH hI';clear hI hI';go_wp2_with fail;refine(aDd _ _ _ h1 h3).mono ?_;rintro e w' ⟨rfl,rfl⟩;rw[HL.out];go_wp2_with fail;refine(aCs _ _ _ hy1 hy2).mono ?_;rintro e w' ⟨rfl,rfl⟩;rw[HI.out];go_wp2_with fail;go_round
   case rel=>
    refine⟨m+1+1,by omega,by go_num,HT.out.succ HX.out HL.out (fun z _ hz=>?_)⟩;rw[Nat.add_sub_cancel,HY.out] at hz;obtain rfl:=Option.some.inj hz;exact HI.out
   simp[intOf];omega
 obtain rfl:k=xs.length:=by omega
 obtain rfl:r=true:=HR2.out.2 HT.out;go_wp2_with fail;go_ret;exact⟨rfl,rfl⟩
def PathIs(r s:Int)(es:List Ed)(u:Int)(wd:List Int)(v:Int)(rs:Int)(res:List Ed)(b:Bool):Prop:=
 (b=true/\PathOk r s es u wd v/\rs=s+(wd.length:Int) - 1/\res=canon (es++aDw u s wd v wd.length)) \/ (b=false/\¬ PathOk r s es u wd v/\rs=s/\res=es)
theorem PathIs.no{r s:Int}{es:List Ed}{u:Int}{wd:List Int}{v rs:Int}{res:List Ed}{b:Bool}(h:PathIs r s es u wd v rs res b)(hn:¬ PathOk r s es u wd v):b=false/\rs=s/\res=es:=by
 rcases h with⟨-,h, -⟩|⟨h1, -,h2⟩
 .exact absurd h hn
 exact⟨h1,h2⟩
theorem PathIs.yes{r s:Int}{es:List Ed}{u:Int}{wd:List Int}{v rs:Int}{res:List Ed}{b:Bool}(h:PathIs r s es u wd v rs res b)(hn:PathOk r s es u wd v):b=true/\rs=s+(wd.length:Int) - 1/\res=canon (es++aDw u s wd v wd.length):=by
 rcases h with⟨h1, -,h2⟩|⟨-,h, -⟩
 .exact⟨h1,h2⟩
 exact absurd hn h
theorem aLo(r s:Int)(es:List Ed)(u:Int)(wd:List Int)(v:Int):∃ rs res b,PathIs r s es u wd v rs res b:=by
 by_cases h:PathOk r s es u wd v
 .exact⟨_,_,_,.inl ⟨rfl,h,rfl,rfl⟩⟩
 exact⟨_,_,_,.inr ⟨rfl,h,rfl,rfl⟩⟩
theorem aFs{x s:Int}(h1:1<=s)(h2:s<=40){b:Bool}(hb:b=true↔0<=x/\x<s):inB x 0 (wrap64 (s - 1))=b/\inB x 0 (s - 1)=b:=by
 have hw:wrap64 (s - 1)=s - 1:=by unfold wrap64;omega
 rw[hw];have h3:inB x 0 (s - 1)=b:=by
  cases b
  .have h:¬ (0<=x/\x<s):=fun h=>by have:=hb.2 h;cases this
   unfold inB;simp;omega
  have:=hb.1 rfl;unfold inB;simp;omega
 exact⟨h3,h3⟩
theorem aFe(u x v:Int)(w:World)(h1:-9223372036854775808<x)(h2:x<=9223372036854775807) :
  Calls Tryz.prog 136 #[.int .i64 u,.int .i64 x,.int .i64 v] w fun e w'=>e=.returned (aCA u x v).v/\Mid 0 0 w w':=by
 by_cases h:x<0
 .have d1:decide (x<0)=true:=by simpa using h
  have he:aCA u x v=⟨v, -x,u⟩:=by rw[aCA,if_pos h]
  rw[he];clear he;go_enter Tryz.func136,Tryz.ntmps136
  go_wp2_with fail;refine bodyPost_ret (v:=.agg #[.int .i64 v,.int .i64 (-x),.int .i64 u]) (by simp[results,Tryz.results136,go_sem]) rfl ⟨rfl,?_⟩;repeat (first|exact Mid.alloc _ _|refine Mid.storeNew ?_ (by simp) _)
 have d1:decide (x<0)=false:=by simpa using h
 have he:aCA u x v=⟨u,x,v⟩:=by rw[aCA,if_neg h]
 rw[he];clear he;go_enter Tryz.func136,Tryz.ntmps136
 go_wp2_with fail;refine bodyPost_ret (v:=.agg #[.int .i64 u,.int .i64 x,.int .i64 v]) (by simp[results,Tryz.results136,go_sem]) rfl ⟨rfl,?_⟩;repeat (first|exact Mid.alloc _ _|refine Mid.storeNew ?_ (by simp) _)
theorem aLL(r s:Int)(A:Option Addr)(es:List Ed)(c:Nat)(u:Int)(Aw:Option Addr)(wd:List Int)(cw:Nat)(v:Int)(w:World)(lo hi lo' hi':Nat)(hr:RG w lo hi A es)(hw:RV w lo' hi' Aw (aAd wd))(hl:es.length<=1048576)(hwl:wd.length<=1048576)(hok:OkI wd)(rs:Int)(res:List Ed)(b:Bool)(hres:PathIs r s es u wd v rs res b) :
  Calls Tryz.prog 253 #[aAw r s A es.length c,.int .i64 u,.slice Aw wd.length cw,.int .i64 v] w fun e w'=>∃ A1 c1,e=.returned (.tuple #[aAw r rs A1 res.length c1,.bool b])/\OG w' w.heap.size w'.heap.size A1 c1 res/\Mid 0 0 w w':=by
 have HR:=oH hres;have HOK:=oH hok;clear hres hok;obtain⟨b1,hb1⟩:=aAC (IsGr r s es);obtain⟨b2,hb2⟩:=aAC (0<=u/\u<s);obtain⟨b3,hb3⟩:=aAC (0<=v/\v<s);obtain⟨b4,hb4⟩:=aAC (IsW r wd);have H1:=oH hb1;have H2:=oH hb2;have H3:=oH hb3;have H4:=oH hb4;clear hb1 hb2 hb3 hb4;have hm0:Mid 0 0 w ((w.alloc (.cells #[.int .i64 r,.int .i64 s,.slice A es.length c] 35)).alloc (.cells #[.int .i64 0,.int .i64 0,.slice none 0 0] 35)):=(Mid.alloc _ _).trans (Mid.alloc _ _);have B0:=(Box.new w #[.int .i64 r,.int .i64 s,.slice A es.length c] 35).mid (Mid.alloc _ (.cells #[.int .i64 0,.int .i64 0,.slice none 0 0] 35)) oZr;have B2:=Box.new (w.alloc (.cells #[.int .i64 r,.int .i64 s,.slice A es.length c] 35)) #[.int .i64 0,.int .i64 0,.slice none 0 0] 35;simp only[World.size_alloc] at B2;go_enter Tryz.func253,Tryz.ntmps253
 go_wp2_with fail;generalize hw1:((w.alloc (.cells #[.int .i64 r,.int .i64 s,.slice A es.length c] 35)).alloc (.cells #[.int .i64 0,.int .i64 0,.slice none 0 0] 35))=w1 at hm0 B0 B2 |-;have hs1:w1.heap.size=w.heap.size+1+1:=by rw[<- hw1];simp
 have HS:=oH hs1;clear hw1 hs1;with_reducible refine(aAS r s A es c _ _ _ (hr.mid hm0 oZl) hl).mono ?_
 rintro en w2 ⟨A1,c1,rfl,ho2,hm2⟩;have hal:=Mid.alloc w2 (.cells #[.int .i64 r,.int .i64 s,.slice A1 es.length c1] 35);have Y3:=Box.new w2 #[.int .i64 r,.int .i64 s,.slice A1 es.length c1] 35;replace B0:=B0.mid hm2 oZr;replace B2:=B2.mid hm2 oZr;replace hm0:=hm0.trans hm2;replace B0:=B0.mid hal oZr;replace B2:=B2.mid hal oZr;replace hm0:=hm0.trans hal;have hG2:w.heap.size+1<w2.heap.size:=by have:=HS.out;have:=hm2.size;omega
 have ho5:=(ho2.mid hal oZl)
 have hlt2:=ho2.ov.2.2;have hb2k:Value.ownBlock (.slice A1 es.length c1)≠some w2.heap.size:=fun h=>by have:=hlt2 _ h;omega
 obtain⟨p0,p1,p2⟩:=B0.c3 rfl;go_wp2_with fail;generalize w2.alloc (.cells #[.int .i64 r,.int .i64 s,.slice A1 es.length c1] 35)=w3 at hm0 B0 B2 Y3 ho5 p0 p1 p2 |-;have hG3:w2.heap.size<w3.heap.size:=Y3.1;have HOW:=oH ho5.ov.2.1;have HBK:=oH hb2k;have ho6:=ho5.wide oN oN (Nat.le_of_lt hG3);generalize hG:w2.heap.size=G at Y3 hG2 hG3 ho5 HBK |-;have HGW:=oH (show w1.heap.size<=G by rw[<- hG];exact hm2.size);clear hG hal hm2 hlt2 hb2k ho2 ho6;with_reducible refine(aCj r s A es c _ _ _ (hr.mid hm0 oZl).rv hl b1 H1.out).mono ?_
 rintro en w4 ⟨rfl,hm4⟩;replace B0:=B0.mid hm4 oZr;replace B2:=B2.mid hm4 oZr;replace Y3:=Y3.mid hm4 oZr;replace ho5:=ho5.mid hm4 oZl;replace hm0:=hm0.trans hm4;replace HOW:=oH (aAc HOW.out hm4 oZl);clear hm4;cases b1 with
|false=>
  have hno:¬ PathOk r s es u wd v:=fun h=>by have:=H1.out.2 h.gr;cases this
  clear p0 p1 p2;obtain⟨rfl,rfl,rfl⟩:=HR.out.no hno;obtain⟨a0,a1,a2⟩:=B2.c3 rfl;obtain⟨q0,q1,q2⟩:=Y3.c3 rfl;have af:=B2.2.2;go_wp2_with fail;refine bodyPost_ret (v:=.tuple #[.agg #[.int .i64 r,.int .i64 rs,.slice A1 res.length c1],.bool false]) (by simp[results,Tryz.results253,go_sem,a0,a1,a2,af,q0,q1,q2]) rfl ⟨A1,c1,rfl,?_,?_⟩
  .refine OG.wide (OG.mid ho5 (a:=w.heap.size) (b:=w.heap.size+2) ?_ (Or.inl (by have:=HS.out;omega))) (by have:=HS.out;omega) (by have:=ho5.size;simp;omega) oN
   repeat (first|exact Mid.refl _ _ _|refine Mid.stored ?_ _ (by simp;try omega) (by simp;try omega))
  repeat (first|exact hm0|refine Mid.storeNew ?_ (by simp;try omega) _)
|true=>
 have hgr:=H1.out.1 rfl;have hsz:=hgr.size;have hln:=hgr.len;have hrk:=hgr.rank;have GR:=oH hgr;clear hgr H1;clear p0 p1 p2;obtain⟨p0,p1,p2⟩:=B0.c3 rfl;go_wp2_with fail;with_reducible refine(aCe r s A es.length c u _ b2 (aFs hsz.1 hsz.2 H2.out).1).mono ?_
 rintro en w5 ⟨rfl,hm5⟩;replace B0:=B0.mid hm5 oZr;replace B2:=B2.mid hm5 oZr;replace Y3:=Y3.mid hm5 oZr;replace ho5:=ho5.mid hm5 oZl;replace hm0:=hm0.trans hm5;replace HOW:=oH (aAc HOW.out hm5 oZl);clear hm5;cases b2 with
|false=>
  have hno:¬ PathOk r s es u wd v:=fun h=>by have:=H2.out.2 h.u0;cases this
  clear p0 p1 p2;obtain⟨rfl,rfl,rfl⟩:=HR.out.no hno;obtain⟨a0,a1,a2⟩:=B2.c3 rfl;obtain⟨q0,q1,q2⟩:=Y3.c3 rfl;have af:=B2.2.2;go_wp2_with fail;refine bodyPost_ret (v:=.tuple #[.agg #[.int .i64 r,.int .i64 rs,.slice A1 res.length c1],.bool false]) (by simp[results,Tryz.results253,go_sem,a0,a1,a2,af,q0,q1,q2]) rfl ⟨A1,c1,rfl,?_,?_⟩
  .refine OG.wide (OG.mid ho5 (a:=w.heap.size) (b:=w.heap.size+2) ?_ (Or.inl (by have:=HS.out;omega))) (by have:=HS.out;omega) (by have:=ho5.size;simp;omega) oN
   repeat (first|exact Mid.refl _ _ _|refine Mid.stored ?_ _ (by simp;try omega) (by simp;try omega))
  repeat (first|exact hm0|refine Mid.storeNew ?_ (by simp;try omega) _)
|true=>
 have hxu:=H2.out.1 rfl;clear H2;clear p0 p1 p2;obtain⟨p0,p1,p2⟩:=B0.c3 rfl;go_wp2_with fail;with_reducible refine(aCe r s A es.length c v _ b3 (aFs hsz.1 hsz.2 H3.out).1).mono ?_
 rintro en w6 ⟨rfl,hm6⟩;replace B0:=B0.mid hm6 oZr;replace B2:=B2.mid hm6 oZr;replace Y3:=Y3.mid hm6 oZr;replace ho5:=ho5.mid hm6 oZl;replace hm0:=hm0.trans hm6;replace HOW:=oH (aAc HOW.out hm6 oZl);clear hm6;cases b3 with
|false=>
  have hno:¬ PathOk r s es u wd v:=fun h=>by have:=H3.out.2 h.v0;cases this
  clear p0 p1 p2;obtain⟨rfl,rfl,rfl⟩:=HR.out.no hno;obtain⟨a0,a1,a2⟩:=B2.c3 rfl;obtain⟨q0,q1,q2⟩:=Y3.c3 rfl;have af:=B2.2.2;go_wp2_with fail;refine bodyPost_ret (v:=.tuple #[.agg #[.int .i64 r,.int .i64 rs,.slice A1 res.length c1],.bool false]) (by simp[results,Tryz.results253,go_sem,a0,a1,a2,af,q0,q1,q2]) rfl ⟨A1,c1,rfl,?_,?_⟩
  .refine OG.wide (OG.mid ho5 (a:=w.heap.size) (b:=w.heap.size+2) ?_ (Or.inl (by have:=HS.out;omega))) (by have:=HS.out;omega) (by have:=ho5.size;simp;omega) oN
   repeat (first|exact Mid.refl _ _ _|refine Mid.stored ?_ _ (by simp;try omega) (by simp;try omega))
  repeat (first|exact hm0|refine Mid.storeNew ?_ (by simp;try omega) _)
|true=>
 have hxv:=H3.out.1 rfl;clear H3;clear p0 p1 p2;obtain⟨p0,p1,p2⟩:=B0.c3 rfl;by_cases hne:wd=[]
 .subst hne
  have hno:¬ PathOk r s es u [] v:=fun h=>h.ne rfl;clear p0 p1 p2;obtain⟨rfl,rfl,rfl⟩:=HR.out.no hno;obtain⟨a0,a1,a2⟩:=B2.c3 rfl;obtain⟨q0,q1,q2⟩:=Y3.c3 rfl;have af:=B2.2.2;go_wp2_with fail;refine bodyPost_ret (v:=.tuple #[.agg #[.int .i64 r,.int .i64 rs,.slice A1 res.length c1],.bool false]) (by simp[results,Tryz.results253,go_sem,a0,a1,a2,af,q0,q1,q2]) rfl ⟨A1,c1,rfl,?_,?_⟩
  .refine OG.wide (OG.mid ho5 (a:=w.heap.size) (b:=w.heap.size+2) ?_ (Or.inl (by have:=HS.out;omega))) (by have:=HS.out;omega) (by have:=ho5.size;simp;omega) oN
   repeat (first|exact Mid.refl _ _ _|refine Mid.stored ?_ _ (by simp;try omega) (by simp;try omega))
  repeat (first|exact hm0|refine Mid.storeNew ?_ (by simp;try omega) _)
 have hpos:0<wd.length:=List.length_pos_iff.2 hne;have d4:((wd.length:Int) == 0)=false:=by simp only[beq_eq_false_iff_ne];omega
 have HNE:=oH hne;clear hne;clear p0 p1 p2;obtain⟨p0,p1,p2⟩:=B0.c3 rfl;go_wp2_with fail;with_reducible refine(aGi r Aw wd cw _ _ ((hw.mid hm0 oZl).rs) HOK.out (by omega) b4 H4.out).mono ?_
 rintro en w7 ⟨rfl,rfl⟩;cases b4 with
|false=>
  have hno:¬ PathOk r s es u wd v:=fun h=>by have:=H4.out.2 h.word;cases this
  clear p0 p1 p2;obtain⟨rfl,rfl,rfl⟩:=HR.out.no hno;obtain⟨a0,a1,a2⟩:=B2.c3 rfl;obtain⟨q0,q1,q2⟩:=Y3.c3 rfl;have af:=B2.2.2;go_wp2_with fail;refine bodyPost_ret (v:=.tuple #[.agg #[.int .i64 r,.int .i64 rs,.slice A1 res.length c1],.bool false]) (by simp[results,Tryz.results253,go_sem,a0,a1,a2,af,q0,q1,q2]) rfl ⟨A1,c1,rfl,?_,?_⟩
  .refine OG.wide (OG.mid ho5 (a:=w.heap.size) (b:=w.heap.size+2) ?_ (Or.inl (by have:=HS.out;omega))) (by have:=HS.out;omega) (by have:=ho5.size;simp;omega) oN
   repeat (first|exact Mid.refl _ _ _|refine Mid.stored ?_ _ (by simp;try omega) (by simp;try omega))
  repeat (first|exact hm0|refine Mid.storeNew ?_ (by simp;try omega) _)
|true=>
 have hwd:=H4.out.1 rfl;have hwd24:=hwd.2.2.1;have HWD:=oH hwd;clear hwd H4;clear p0 p1 p2;obtain⟨p0,p1,p2⟩:=B0.c3 rfl;have d5':IntKind.i64.wrap (s+(wd.length:Int))=s+(wd.length:Int):=IntWalk.i64_in _ (by omega);have d5'':IntKind.i64.wrap (s+(wd.length:Int) - 1)=s+(wd.length:Int) - 1:=IntWalk.i64_in _ (by omega);by_cases hsl:40<s+(wd.length:Int) - 1
 .have hno:¬ PathOk r s es u wd v:=fun h=>by have:=h.sz;omega
  have d5:decide (40<s+(wd.length:Int) - 1)=true:=by simpa using hsl
  clear p1;clear p0 p2;obtain⟨p0,p1,p2⟩:=B0.c3 rfl;obtain⟨rfl,rfl,rfl⟩:=HR.out.no hno;obtain⟨a0,a1,a2⟩:=B2.c3 rfl;obtain⟨q0,q1,q2⟩:=Y3.c3 rfl;have af:=B2.2.2;go_wp2_with fail;refine bodyPost_ret (v:=.tuple #[.agg #[.int .i64 r,.int .i64 rs,.slice A1 res.length c1],.bool false]) (by simp[results,Tryz.results253,go_sem,a0,a1,a2,af,q0,q1,q2]) rfl ⟨A1,c1,rfl,?_,?_⟩
  .refine OG.wide (OG.mid ho5 (a:=w.heap.size) (b:=w.heap.size+2) ?_ (Or.inl (by have:=HS.out;omega))) (by have:=HS.out;omega) (by have:=ho5.size;simp;omega) oN
   repeat (first|exact Mid.refl _ _ _|refine Mid.stored ?_ _ (by simp;try omega) (by simp;try omega))
  repeat (first|exact hm0|refine Mid.storeNew ?_ (by simp;try omega) _)
 have d5:decide (40<s+(wd.length:Int) - 1)=false:=by simpa using hsl
 by_cases hll:120<es.length+wd.length
 .have hno:¬ PathOk r s es u wd v:=fun h=>by have:=h.ln;omega
  have d6:decide (120<(es.length:Int)+(wd.length:Int))=true:=by simp;omega
  obtain⟨rfl,rfl,rfl⟩:=HR.out.no hno;obtain⟨a0,a1,a2⟩:=B2.c3 rfl;obtain⟨q0,q1,q2⟩:=Y3.c3 rfl;have af:=B2.2.2;go_wp2_with fail;refine bodyPost_ret (v:=.tuple #[.agg #[.int .i64 r,.int .i64 rs,.slice A1 res.length c1],.bool false]) (by simp[results,Tryz.results253,go_sem,a0,a1,a2,af,q0,q1,q2]) rfl ⟨A1,c1,rfl,?_,?_⟩
  .refine OG.wide (OG.mid ho5 (a:=w.heap.size) (b:=w.heap.size+2) ?_ (Or.inl (by have:=HS.out;omega))) (by have:=HS.out;omega) (by have:=ho5.size;simp;omega) oN
   repeat (first|exact Mid.refl _ _ _|refine Mid.stored ?_ _ (by simp;try omega) (by simp;try omega))
  repeat (first|exact hm0|refine Mid.storeNew ?_ (by simp;try omega) _)
 have d6:decide (120<(es.length:Int)+(wd.length:Int))=false:=by simp;omega
 obtain⟨rfl,hrs,hre⟩:=HR.out.yes ⟨GR.out,hxu,hxv,HWD.out,HNE.out,by omega,by omega⟩;have HRS:=oH hrs;have HRE:=oH hre;have hasc:=oH GR.out.asc;clear hrs hre HR;have hwn:IntKind.i64.wrap ((wd.length:Int) - 1)=(wd.length:Int) - 1:=IntWalk.i64_in _ (by omega);have hletb:=oH HWD.out.2.2.2.1;obtain⟨q0,q1,q2⟩:=Y3.c3 rfl;go_wp2_with fail;clear p0 p1 p2 q0 q1 q2;go_loopw [11,66] (fun at_ i wr=>∃(k:Nat) (A2:Option Addr) (n2 c2:Nat) (sz:Int),k<=wd.length/\i=.int .i64 k/\at_=.int .i64 (aDx u s wd.length v k)/\Hid (sz=s+((min k (wd.length - 1):Nat):Int))/\Hid (n2=es.length+k) /\
  wr.ownsRow w1.heap.size 110 3 (.slice A2 n2 c2) n2 (aAd (edI (es++aDw u s wd v k)))/\Value.ownBlock (.slice A2 n2 c2)≠some G /\
  Box wr w.heap.size [.int .i64 r,.int .i64 s,.slice A es.length c]/\Box wr (w.heap.size+1) [.int .i64 0,.int .i64 0,.slice none 0 0] /\
  Box wr G [.int .i64 r,.int .i64 sz,.slice A2 n2 c2]/\Mid 0 0 w wr) (fun _ i _=>wd.length - (intOf i).toNat)
 case atStart=>exact⟨0,A1,es.length,c1,s,oZ,rfl,rfl,oH (by simp),oH rfl,by simpa [aDw] using HOW.out,HBK.out,B0,B2,Y3,hm0⟩
 clear B0 B2 Y3 hm0 ho5 HOW HBK hG3;obtain⟨k,A2,n2,c2,sz,hk,rfl,rfl,HSZ,HN,hown,hbk,Z0,Z2,Z3,hmr⟩:=hrel;have hszv:=HSZ.out;have hn2:n2<=240:=by have:=HN.out;omega
 by_cases hlt:k<wd.length
 .obtain⟨B,off,x,rfl,hbh,hx,hcx⟩:=(hw.mid hmr oZl).at hlt
  have hxl:=hletb.out x (List.mem_of_getElem? hx);have hkn:(k:Int)<(wd.length:Int):=by omega
  have hk0:(0:Int)<=(k:Int):=by omega
  have hpe:=aKb (u:=u) (s:=s) (v:=v) hx;have HPE:=oH hpe;have hGr:G<wr.heap.size:=Z3.1;have hw1r:w1.heap.size<=wr.heap.size:=by have:=HGW.out;omega
  clear hx hpe;generalize hat:aDx u s wd.length v k=at0 at HPE |-;clear hat;by_cases hlast:k+1<wd.length
  focus
   have hmin:((min k (wd.length - 1):Nat):Int)=(k:Int):=by rw[Nat.min_eq_left (by omega)]
   have hmin2:((min (k+1) (wd.length - 1):Nat):Int)=(k:Int)+1:=by rw[Nat.min_eq_left (by omega)];rfl
   rw[hmin] at hszv;subst hszv;have hto:aDx u s wd.length v (k+1)=s+(k:Int):=by
    rw[aDx,if_neg (by omega),if_pos hlast];omega
   rw[hto] at HPE;have dk:decide ((k:Int)<(wd.length:Int) - 1)=true:=by simp;omega
   have hws:IntKind.i64.wrap (s+(k:Int)+1)=s+(k:Int)+1:=IntWalk.i64_in _ (by omega);have q1:=Z3.cell 1 rfl;have qf:=Z3.2.2;have hst:=Mid.setCell wr (lo:=G) (hi:=G+1) (p:=⟨G,1,none⟩) (.int .i64 (s+(k:Int)+1)) oN oS;have V0:=Z0.mid hst (Or.inl (by omega));have V2:=Z2.mid hst (Or.inl (by omega));have V3:=Z3.set 1 (.int .i64 (s+(k:Int)+1)) (by simp) rfl;have hownV:=aCm hown (k:=G) (aAQ (World.grownBy.refl _ (some G)) 1 (.int .i64 (s+(k:Int)+1))) hbk;have hmv:=hmr.storeNew (p:=⟨G,1,none⟩) (by show w.heap.size<=G;omega) (.int .i64 (s+(k:Int)+1));have hsV:(wr.setCell ⟨G,1,none⟩ (.int .i64 (s+(k:Int)+1))).heap.size=wr.heap.size:=by simp
   go_wp2_with fail;generalize wr.setCell ⟨G,1,none⟩ (.int .i64 (s+(k:Int)+1))=wx at V0 V2 V3 hownV hmv hsV |-;have hnsz:Hid (s+(k:Int)+1=s+((min (k+1) (wd.length - 1):Nat):Int)):=oH (by rw[hmin2];omega);clear Z0 Z2 Z3 hown hmr q1 qf hst hcx hmin hmin2 HSZ;simp only[List.set_cons_succ,List.set_cons_zero] at V3;generalize s+(k:Int)+1=sz' at V3 hnsz;generalize s+(k:Int)=tz at HPE hto |-;have hGx:G<wx.heap.size:=V3.1;have hmd:=Mid.drew1 wx;have U0:=V0.mid hmd oZr;have U2:=V2.mid hmd oZr;have U3:=V3.mid hmd oZr;have hownU:=aAc hownV hmd oZl;have hmu:=hmv.trans hmd;have g2:=U3.cell 2 rfl;have hsd:=hmd.size;have hP1:=fun W=>aFe at0 x tz W (by omega) (by omega);clear V0 V2 V3 hownV hmv hmd;refine aAB (S:=(fun w'=>w'.cell? ⟨G,2,none⟩=some (.slice A2 n2 c2))) 9 (by kernel_rfl) g2 ?_;generalize World.drew wx=wz at U0 U2 U3 hownU hmu g2 hsd |-;refine tkT 0 rfl g2 ?_;try simp only[oP]
   refine tkT 1 rfl g2 ?_;try simp only[oP]
   refine tkT 2 rfl g2 ?_;try simp only[oP]
   refine tkT 3 rfl g2 ?_;try simp only[oP]
   refine tkT 4 rfl g2 ?_;try simp only[oP]
   refine rdT 5 rfl (fun K hK=>?_)
   (go_simp;refine(hP1 _).mono ?_;rintro en w7 ⟨rfl,hm7⟩;have U3':=U3.mid hm7 oZr;go_wp2_with fail)
   refine hK.out _ _ (Or.inr (U3'.cell 2 rfl)) (fun _=>?_);clear hK K;try simp only[oP]
   have U0':=U0.mid hm7 oZr;have U2':=U2.mid hm7 oZr;have hownU':=aAc hownU hm7 oZl;have hmu':=hmu.trans hm7;have hs7:=hm7.size;clear U0 U2 U3 hownU hmu g2 hP1 hm7;generalize aCA at0 x tz=ed at HPE |-
  rotate_left
  focus
   have hkl:k+1=wd.length:=by omega
   have hmin:min k (wd.length - 1)=min (k+1) (wd.length - 1):=by omega
   have hnsz:Hid (sz=s+((min (k+1) (wd.length - 1):Nat):Int)):=oH (by rw[hszv,hmin]);have hto:aDx u s wd.length v (k+1)=v:=by
    rw[aDx,if_neg (by omega),if_neg (by omega)]
   rw[hto] at HPE;have dk:decide ((k:Int)<(wd.length:Int) - 1)=false:=by simp;omega
   clear hszv hmin HSZ;generalize sz=sz' at Z3 hnsz;go_wp2_with fail;have V0:=Z0;have V2:=Z2;have V3:=Z3;have hownV:=hown;have hmv:=hmr;obtain⟨wx,hwx⟩:∃ wx,wr=wx:=⟨_,rfl⟩
   have hsV:wx.heap.size=wr.heap.size:=by rw[hwx]
   rw[hwx] at V0 V2 V3 hownV hmv |-;clear Z0 Z2 Z3 hown hmr hcx;have hGx:G<wx.heap.size:=V3.1;have hmd:=Mid.drew1 wx;have U0:=V0.mid hmd oZr;have U2:=V2.mid hmd oZr;have U3:=V3.mid hmd oZr;have hownU:=aAc hownV hmd oZl;have hmu:=hmv.trans hmd;have g2:=U3.cell 2 rfl;have hsd:=hmd.size;have hP1:=fun W=>aFe at0 x v W (by omega) (by omega);clear V0 V2 V3 hownV hmv hmd;refine aAB (S:=(fun w'=>w'.cell? ⟨G,2,none⟩=some (.slice A2 n2 c2))) 9 (by kernel_rfl) g2 ?_;generalize World.drew wx=wz at U0 U2 U3 hownU hmu g2 hsd |-;refine tkT 0 rfl g2 ?_;try simp only[oP]
   refine tkT 1 rfl g2 ?_;try simp only[oP]
   refine tkT 2 rfl g2 ?_;try simp only[oP]
   refine tkT 3 rfl g2 ?_;try simp only[oP]
   refine tkT 4 rfl g2 ?_;try simp only[oP]
   refine rdT 5 rfl (fun K hK=>?_)
   (go_simp;refine(hP1 _).mono ?_;rintro en w7 ⟨rfl,hm7⟩;have U3':=U3.mid hm7 oZr;go_wp2_with fail)
   refine hK.out _ _ (Or.inr (U3'.cell 2 rfl)) (fun _=>?_);clear hK K;try simp only[oP]
   have U0':=U0.mid hm7 oZr;have U2':=U2.mid hm7 oZr;have hownU':=aAc hownU hm7 oZl;have hmu':=hmu.trans hm7;have hs7:=hm7.size;clear U0 U2 U3 hownU hmu g2 hP1 hm7;generalize aCA at0 x v=ed at HPE |-
  rotate_left
  all_goals
   have haz:=Mid.alloc w7 (.cells #[.int .i64 ed.a,.int .i64 ed.l,.int .i64 ed.b] 110);have T0:=U0'.mid haz oZr;have T2:=U2'.mid haz oZr;have T3:=U3'.mid haz oZr;have hownT:=hownU'.alloc (.cells #[.int .i64 ed.a,.int .i64 ed.l,.int .i64 ed.b] 110);have hmt:=hmu'.trans haz;have hS2:=T3.cell 2 rfl;have hrs:Rs (w7.alloc (.cells #[.int .i64 ed.a,.int .i64 ed.l,.int .i64 ed.b] 110)) (w7.heap.size+1) (some ⟨w7.heap.size,0,none⟩) [.int .i64 ed.a,.int .i64 ed.l,.int .i64 ed.b]:=fun _=>⟨w7.heap.size,0,rfl,oS,fun j u hu=>(World.cell?_alloc_at _ _ _ _ rfl).trans (by simpa using hu)⟩
   have hone:∀ u∈[Value.int .i64 ed.a,.int .i64 ed.l,.int .i64 ed.b],u.oneCell'=true:=by
    intro u hu;simp at hu;rcases hu with rfl|rfl|rfl <;> rfl
   have hmxl:n2+1<=maxLen:=by unfold maxLen;omega
   have hbyt:(n2+1) * 24<=140737488355328:=by omega
   have hbas:w1.heap.size<=(w7.alloc (.cells #[.int .i64 ed.a,.int .i64 ed.l,.int .i64 ed.b] 110)).heap.size:=by simp;omega
   have hGz:G<w7.heap.size:=U3'.1;have HO:=oH hone;have HB0:=oH (fun(g:Nat) (h:Value.ownBlock (.slice A2 n2 c2)=some g)=>(hownT.lt g h).1);have HBk:=oH hbk;clear hone hbk U0' U2' U3' hownU' hmu' haz;refine rdT 6 rfl (fun K hK=>?_);go_simp;refine hK.out _ _ (Or.inr hS2) (fun _=>?_);clear hK K;try simp only[oP]
   generalize hwt:w7.alloc (.cells #[.int .i64 ed.a,.int .i64 ed.l,.int .i64 ed.b] 110)=wt at T0 T2 T3 hownT hmt hS2 hrs hbas |-;have hszt:wt.heap.size=w7.heap.size+1:=by rw[<- hwt];simp
   have HZT:=oH hszt;clear hwt hszt;refine rdT 7 rfl (fun K hK=>?_)
   (refine aBh (by rfl) (.tmp 84) (.tmp 89) 33 (by rfl) w1.heap.size 110 (.agg #[.int .i64 0,.int .i64 0,.int .i64 0]) 3 24 aJo aJu rfl (by decide) (.slice A2 n2 c2) n2 _ (by rfl) hownT (some ⟨w7.heap.size,0,none⟩) 1 1 _ [.int .i64 ed.a,.int .i64 ed.l,.int .i64 ed.b] (by rfl) hrs rfl HO.out hmxl hbyt hbas ?_;intro v2 w8 ho8 hgr8 hat8;obtain⟨A3,c3,rfl, -, -⟩:=aAg ho8)
   refine hK.out _ _ (Or.inr ((T3.grown hgr8 HBk.out).cell 2 rfl)) (fun _=>?_);clear hK K;try simp only[oP]
   have R3:=T3.grown hgr8 HBk.out;have R0:=T0.grown hgr8 (fun h=>by have:=HB0.out _ h;have:=HS.out;omega);have R2:=T2.grown hgr8 (fun h=>by have:=HB0.out _ h;have:=HS.out;omega);have hmr8:Mid 0 0 w w8:=hmt.transNew (Mid.of_grownRow hownT hgr8) (Or.inl (by have:=HS.out;omega));have hS3:=R3.cell 2 rfl;have hne:Value.ownBlock (.slice A3 (n2+1) c3)≠some G:=by
    rcases hat8 with h|h
    .rw[h];exact HBk.out
    rw[h];intro he;injection he with he
    have:=HZT.out;omega
   have HNE2:=oH hne;have hrf:=R3.2.2;clear hne hat8 hS2 hrs T0 T2 T3 hmt;refine tkT 8 rfl hS3 ?_;try simp only[oP]
   refine rdT 9 rfl (fun K hK=>?_)
   (go_simp)
   refine hK.out _ _ (Or.inl rfl) (fun _=>?_);clear hK K;try simp only[oP]
   refine aAE (by kernel_rfl) ?_ _;go_wp2_with fail;go_roundw
   case rel=>
    have hst:=Mid.setCell w8 (lo:=G) (hi:=G+1) (p:=⟨G,2,none⟩) (.slice A3 (n2+1) c3) oN oS;refine⟨k+1,A3,n2+1,c3,sz',by omega,by go_num,by rw[hto],hnsz,oH (by rw[HN.out];omega),?_,HNE2.out,R0.mid hst (Or.inl (by omega)),R2.mid hst (Or.inl (by omega)),R3.set 2 _ (by simp) rfl,hmr8.storeNew (by show w.heap.size<=G;omega) _⟩;have h1:=aCm ho8 (k:=G) (aAQ (World.grownBy.refl _ (some G)) 2 (.slice A3 (n2+1) c3)) HNE2.out;rw[HPE.out,<- List.append_assoc,aBT,aAj,aEY];exact h1
   simp[intOf];omega
 obtain rfl:k=wd.length:=by omega
 have hszf:sz=s+(wd.length:Int) - 1:=by rw[hszv,Nat.min_eq_right (by omega)];omega
 subst hszf;have hrg:RG wr w1.heap.size wr.heap.size A2 (es++aDw u s wd v wd.length):=OV.rv (e:=110) (size:=3) (c:=c2) (n:=n2) ⟨oN,hown,fun g hg=>(hown.lt g hg).2⟩;have hnl:(es++aDw u s wd v wd.length).length=n2:=by rw[HN.out,List.length_append,aGW]
 have HNL:=oH hnl;have z2:=Z3.cell 2 rfl;clear hnl hszv;go_wp2_with fail;with_reducible refine(aCk A2 (es++aDw u s wd v wd.length) n2 c2 _ _ _ HNL.out hrg (by omega)).mono ?_
 rintro en w6 ⟨A4,c4,rfl,ho6,hm6⟩;have Q2:=Z2.mid hm6 oZr;have Q3:=Z3.mid hm6 oZr;have hG6:G<wr.heap.size:=Z3.1;have hsz6:=hm6.size;clear z2;obtain⟨a0,a1,a2⟩:=Q2.c3 rfl;obtain⟨b0,b1,b2⟩:=Q3.c3 rfl;have af:=Q2.2.2;have bf:=Q3.2.2;go_wp2_with fail;have hcl:(w.heap.size+1 == G)=false:=by simp;omega
 refine bodyPost_ret (v:=.tuple #[.agg #[.int .i64 r,.int .i64 (s+(wd.length:Int) - 1),.slice A4 (canon (es++aDw u s wd v wd.length)).length c4],.bool true]) (by simp[results,Tryz.results253,go_sem,a0,a1,a2,b0,b1,b2,af,bf]) rfl ⟨A4,c4,?_,?_,?_⟩
 .rw[HRS.out,HRE.out]
 .rw[HRE.out]
  refine OG.wide (OG.mid ho6 (a:=w.heap.size) (b:=G+1) ?_ (Or.inl hG6)) (by have:=hmr.size;omega) (by simp) oN;repeat (first|exact Mid.refl _ _ _|refine Mid.stored ?_ _ (by simp;try omega) (by simp;try omega))
 have h:=hmr.trans hm6;repeat (first|exact h|refine Mid.storeNew ?_ (by simp;try omega) _)
theorem aJO{l P:PS}{a:Int × Int}(h:a∈l)(hp:l <+: P):P.idxOf a=l.idxOf a:=by
 obtain⟨t,rfl⟩:=hp;rw[List.idxOf_append,if_pos h]
theorem aDU{r r' sa sb:Int}{ea eb:List Ed}{L:List Int}(hga:IsGr r sa ea)(hgb:IsGr r' sb eb){p0 p:Int × Int}(h0:PIn sa sb p0){i j:Nat}(h:(aAN ea eb L p0 i)[i]?=some p) :
  aBo ea eb (L.take j) p (aAN ea eb L p0 i) <+: aAf ea eb L p0:=by
 have h1:aBo ea eb (L.take j) p (aAN ea eb L p0 i) <+: aAN ea eb L p0 (i+1):=by
  have e:aBo ea eb L p (aAN ea eb L p0 i)=aBo ea eb (L.drop j) p (aBo ea eb (L.take j) p (aAN ea eb L p0 i)):=by
   unfold aBo;rw[<- List.foldl_append,List.take_append_drop]
  rw[aCw h,e];exact aCU ea eb (L.drop j) p _
 refine h1.trans (aGp hga hgb h0 ?_);rw[aCw h];exact Nat.le_trans (List.getElem?_eq_some_iff.1 h).1 (aCU ea eb L p _).length_le
theorem aDO{ea eb:List Ed}{P:PS}{i j:Nat}{p:Int × Int}{x:Int}(hx:(j % 2=0/\x=((j / 2:Nat):Int)+1) \/ (j % 2=1/\x = -(((j / 2:Nat):Int)+1)))(h:aAe ea p.1 x<0 \/ aAe eb p.2 x<0):aCD ea eb P i p ((j+1+1) / 2)=aCD ea eb P i p ((j+1) / 2):=by
 rcases hx with⟨h1,h2⟩|⟨h1,h2⟩
 .rw[show(j+1+1) / 2=j / 2+1 by omega,show(j+1) / 2=j / 2 by omega]
  rw[h2] at h;exact aIS h
 rw[show(j+1+1) / 2=(j+1) / 2 by omega]
theorem aEF{ea eb:List Ed}{P:PS}{i j:Nat}{p:Int × Int}{x:Int}{k:Nat}(h1:j % 2=0)(h2:x=((j / 2:Nat):Int)+1)(t1:¬ aAe ea p.1 x<0)(t2:¬ aAe eb p.2 x<0)(hk:P.idxOf (aAI ea eb p x)=k) :
  aCD ea eb P i p ((j+1+1) / 2)=aCD ea eb P i p ((j+1) / 2)++[⟨i,x,(k:Nat)⟩]:=by
 rw[show(j+1+1) / 2=j / 2+1 by omega,show(j+1) / 2=j / 2 by omega];rw[h2] at t1 t2 hk;rw[aKT t1 t2,hk,h2]
theorem aRc{sa sb:Nat}(ha:sa<=40)(hb:sb<=40){p:Int × Int}(h:PIn sa sb p):aBa p:=by
 obtain⟨h1,h2,h3,h4⟩:=h;exact⟨aFG (by omega) (by omega),aFG (by omega) (by omega)⟩
theorem aGX{ea eb:List Ed}{P:PS}{i j:Nat}{p:Int × Int}{x:Int}(h1:j % 2=0)(h2:x=((j / 2:Nat):Int)+1)(t1:¬ aAe ea p.1 x<0)(t2:¬ aAe eb p.2 x<0) :
  (aCD ea eb P i p ((j+1+1) / 2)).length=(aCD ea eb P i p ((j+1) / 2)).length+1:=by
 rw[aEF h1 h2 t1 t2 rfl,List.length_append]
 rfl
theorem aMX(rn sn tn:Nat)(A:Option Addr)(es:List Ed)(c:Nat)(B:Option Addr)(es':List Ed)(d:Nat)(w:World)(lo hi lo2 hi2:Nat)(hr:RG w lo hi A es)(hr2:RG w lo2 hi2 B es')(hf1:IsFol rn sn es)(hf2:IsFol rn tn es') :
  Calls Tryz.prog 120 #[aAw rn sn A es.length c,aAw rn tn B es'.length d] w fun e w'=>∃ A1 c1 ps V,e=.returned (.tuple #[.slice A1 ps.length c1,V])/\PcsOk es es' rn tn (sn * tn) ps/\RV w' w.heap.size w'.heap.size A1 (pcV ps)/\Mid 0 0 w w':=by
 have hsn:1<=sn/\sn<=40:=by have:=hf1.gr.size;omega
 have htn:1<=tn/\tn<=40:=by have:=hf2.gr.size;omega
 have hrn:1<=rn/\rn<=3:=by have:=hf1.gr.rank;omega
 have hl:=hf1.gr.len;have hl2:=hf2.gr.len;have F1:=oH hf1;have F2:=oH hf2;have HGL:Hid (∀ e∈es,1<=e.l/\e.l<=3):=oH (fun e he=>by have:=hf1.gr.all e he;unfold InG at this;omega);have HGL2:Hid (∀ e∈es',1<=e.l/\e.l<=3):=oH (fun e he=>by have:=hf2.gr.all e he;unfold InG at this;omega);have HST:Hid (sn * tn<=1600):=oH (Nat.mul_le_mul hsn.2 htn.2);clear hf1 hf2;have hm0:Mid 0 0 w ((w.alloc (.cells #[.int .i64 rn,.int .i64 sn,.slice A es.length c] 35)).alloc (.cells #[.int .i64 rn,.int .i64 tn,.slice B es'.length d] 35)):=(Mid.alloc _ _).trans (Mid.alloc _ _);have B0:=(Box.new w #[.int .i64 rn,.int .i64 sn,.slice A es.length c] 35).mid (Mid.alloc _ (.cells #[.int .i64 rn,.int .i64 tn,.slice B es'.length d] 35)) oZr;have B1:=Box.new (w.alloc (.cells #[.int .i64 rn,.int .i64 sn,.slice A es.length c] 35)) #[.int .i64 rn,.int .i64 tn,.slice B es'.length d] 35;rw[World.size_alloc] at B1;go_enter Tryz.func120,Tryz.ntmps120
 have p1:=B0.cell 1 rfl;have hmx:sn<=maxLen:=by unfold maxLen;omega
 have hmx2:tn<=maxLen:=by unfold maxLen;omega
 go_wp2_with (at_make;refine aCB rfl _ _ 24 rfl 44 (.slice none 0 0) 24 aKj aJQ rfl .i64 .i64 _ _ sn rfl rfl rfl rfl (by omega) hmx ?_;intro w2 hown2 hgr2 hsz2)
 have hmg:=Mid.of_grown (lo:=0) (hi:=0) hgr2 (by intro g h;cases h);have hm2:=hm0.trans hmg;replace B0:=B0.mid hmg oZr;replace B1:=B1.mid hmg oZr;simp only[World.size_alloc] at hown2 hsz2;have hM2:Mat1 w2 (w.heap.size+1+1) [] tn sn:=⟨by rw[aQG];exact aOn hown2,List.Pairwise.nil,(by simp),(by simp)⟩
 obtain⟨M,hM⟩:∃ M,w.heap.size+1+1=M:=⟨_,rfl⟩
 rw[hM] at hM2 |-;have hMw:w.heap.size+1<M:=by omega
 clear hown2 hgr2 hsz2 hmg hm0 p1 hM;go_wp2_with fail;go_loopw [24] (fun iv wr=>∃ bs:List Nat,Hid (bs.length<=sn)/\iv=.int .i64 (bs.length:Nat)/\Hid (Mat1 wr M bs tn sn)/\Box wr w.heap.size [.int .i64 rn,.int .i64 sn,.slice A es.length c]/\Box wr (w.heap.size+1) [.int .i64 rn,.int .i64 tn,.slice B es'.length d]/\Mid 0 0 w wr) (fun iv _=>sn - (intOf iv).toNat)
 case atStart=>exact⟨[],oH oZ,rfl,oH hM2,B0,B1,hm2⟩
 clear hM2 B0 B1 hm2;obtain⟨wo,hwo⟩:∃ wo,wo=wr:=⟨_,rfl⟩
 subst hwo;obtain⟨bs,HB,rfl,HM,B0,B1,hm⟩:=hrel;obtain⟨k,hk⟩:∃ k,bs.length=k:=⟨_,rfl⟩
 have HK:=oH hk;have hks:k<=sn:=by rw[<- hk];exact HB.out
 rw[hk];clear hk;by_cases hlt:k<sn
 .have hk0:(0:Int)<=(k:Int):=by omega
  have hk1:(k:Int)<(sn:Int):=by omega
  have p1:=B1.cell 1 rfl;have mo:=HM.out.outer.cell k (by have h:=aQF (bs:=bs) (nb:=tn) (n:=sn) (by rw[HK.out];exact hlt);rw[HK.out] at h;exact h);have mf:=HM.out.outer.2.2;have mb:=HM.out.outer.1;go_wp2_with (at_make;refine aCB rfl _ _ 44 rfl 3 (.int .i64 0) 8 aBZ aCg rfl .i64 .i64 _ _ tn rfl rfl rfl rfl (by omega) hmx2 ?_;intro w3 hown3 hgr3 hsz3;have hmg3:=Mid.of_grown (lo:=0) (hi:=0) hgr3 (by intro g h;cases h);have mo3:=aAa hmg3 mb oZr mo;have mf3:=((HM.out.outer.mid hmg3 oZr).2.2))
  have hmm:=hm.trans hmg3;have HM3:=HM.out.mid hmg3 oZl;replace B0:=B0.mid hmg3 oZr;replace B1:=B1.mid hmg3 oZr;have bx3:=aOn hown3;have hst:=Mid.setCell w3 (lo:=M) (hi:=M+1) (p:=⟨M,k,none⟩) (.slice (some ⟨wo.heap.size,0,none⟩) tn tn) oN oS;have hbo:=HM3.outer.set k (.slice (some ⟨wo.heap.size,0,none⟩) tn tn) (by rw[<- HK.out];simp[aPi];have:=HK.out;omega) rfl;have hset:=aSq (bs:=bs) (nb:=tn) (n:=sn) (b:=wo.heap.size) (by rw[HK.out];exact hlt);rw[HK.out] at hset;rw[hset] at hbo;obtain⟨g,hg⟩:∃ g,wo.heap.size=g:=⟨_,rfl⟩
  have hMg:M<g:=by rw[<- hg];exact mb
  have hall:∀ b∈bs,M<b/\b<g/\Box (w3.setCell ⟨M,k,none⟩ (.slice (some ⟨g,0,none⟩) tn tn)) b (aAd (aFa tn tn)):=fun b hb=>by
   have h1:=HM.out.rng b hb;rw[hg] at hst;exact⟨h1,by rw[<- hg];exact(HM.out.rows b hb).1,(HM3.rows b hb).mid hst (Or.inr (by omega))⟩
  rw[hg] at bx3 hst hbo;rw[hg];have bx4:=bx3.mid hst (Or.inr (by omega));rw[<- aOZ] at bx4;replace B0:=B0.mid hst (Or.inl (by omega));replace B1:=B1.mid hst (Or.inl (by omega));have hm4:=hmm.transNew hst (Or.inl (by omega));have HALL:=oH hall;have HASC:=oH HM.out.asc;generalize w3.setCell ⟨M,k,none⟩ (.slice (some ⟨g,0,none⟩) tn tn)=w4 at B0 B1 hm4 HALL hbo bx4 |-;clear hown3 hgr3 hsz3 hmg3 mo3 mf3 mo mf mb hmm HM3 bx3 hst hset hall HM hm hg p1;go_loopw [38] (fun jv wr=>∃ j:Nat,Hid (j<=tn)/\jv=.int .i64 j/\Box wr g (aAd (aFa j tn))/\Box wr M (aPi (bs++[g]) tn sn)/\Hid (∀ b∈bs,M<b/\b<g/\Box wr b (aAd (aFa tn tn)))/\Box wr w.heap.size [.int .i64 rn,.int .i64 sn,.slice A es.length c]/\Box wr (w.heap.size+1) [.int .i64 rn,.int .i64 tn,.slice B es'.length d]/\Mid 0 0 w wr) (fun jv _=>tn - (intOf jv).toNat)
  case atStart=>exact⟨0,oH oZ,rfl,bx4,hbo,HALL,B0,B1,hm4⟩
  clear bx4 hbo HALL B0 B1 hm4;obtain⟨j,HJ,rfl,bx,bo,HALL,B0,B1,hm⟩:=hrel;have hjt:=HJ.out;by_cases hlt2:j<tn
  .have hj0:(0:Int)<=(j:Int):=by omega
   have hj1:(j:Int)<(tn:Int):=by omega
   have c0:=bo.cell k (by have h:=aOc (nb:=tn) (n:=sn) (show(bs++[g])[k]?=some g by rw[<- HK.out];simp);exact h);have c1:=bx.cell j (aOY hlt2);have c2:=bx.2.2;have hgs:=bx.1;have bx':=bx.set j (.int .i64 (-1)) (by rw[aAG,aLC (by omega)];exact hlt2) rfl;rw[aQi hlt2] at bx';have hst:=Mid.setCell wr (lo:=g) (hi:=g+1) (p:=⟨g,j,none⟩) (.int .i64 (-1)) oN oS;replace B0:=B0.mid hst (Or.inl (by omega));replace B1:=B1.mid hst (Or.inl (by omega));have bo':=bo.mid hst (Or.inl (by omega));have hm':=hm.transNew hst (Or.inl (by omega));have HALL':Hid (∀ b∈bs,M<b/\b<g/\Box (wr.setCell ⟨g,j,none⟩ (.int .i64 (-1))) b (aAd (aFa tn tn))):=oH fun b hb=>by
    obtain⟨h1,h2,h3⟩:=HALL.out b hb;exact⟨h1,h2,h3.mid hst (Or.inl (by omega))⟩
   clear bx bo HALL hst hm;go_wp2_with fail;go_roundw
   case rel=>exact⟨j+1,oH (by omega),by go_num,bx',bo',HALL',B0,B1,hm'⟩
   simp[intOf];omega
  obtain rfl:j=tn:=by omega
  have HM5:Hid (Mat1 wr M (bs++[g]) j sn):=oH ⟨bo,List.pairwise_append.2 ⟨HASC.out,by simp,fun a ha b hb=>by simp at hb;subst hb;exact(HALL.out a ha).2.1⟩,fun b hb=>by
   rcases List.mem_append.1 hb with hb|hb
   .exact(HALL.out b hb).1
   .simp at hb
    omega,fun b hb=>by
   rcases List.mem_append.1 hb with hb|hb
   .exact(HALL.out b hb).2.2
   .simp at hb
    subst hb;exact bx⟩
  clear bx bo HALL;go_wp2_with fail;go_roundw
  case rel=>exact⟨bs++[g],oH (by rw[List.length_append,HK.out];simp;omega),by rw[List.length_append,HK.out];go_num,HM5,B0,B1,hm⟩
  simp[intOf];omega
 obtain rfl:sn=k:=by omega
 have hPM:=Mat1.full (w:=wo) (M:=M) (nb:=tn) (bs:=bs) (by rw[HK.out];exact HM.out);have hal:=Mid.alloc wo (.cells #[] 120);have hown:=aAi wo 120 5;replace hPM:=hPM.mid hal oZr;replace B0:=B0.mid hal oZr;replace B1:=B1.mid hal oZr;replace hm:=hm.trans hal;have hM1:M<wo.heap.size:=HM.out.outer.1;obtain⟨Ob,hOb⟩:∃ Ob,wo.heap.size=Ob:=⟨_,rfl⟩
 rw[hOb] at hown hPM hM1;have HOS:Hid (Ob<(wo.alloc (.cells #[] 120)).heap.size):=oH (by simp[hOb]);clear HM hlt hks HB;go_wp2_with fail;generalize wo.alloc (.cells #[] 120)=w6 at hown hPM HOS B0 B1 hm |-;have HP0:=oH hPM;have hps0:PcsOk es es' rn tn (0 * tn) []:=⟨by rw[Nat.zero_mul];rfl,by simp⟩
 have HPS0:=oH hps0;have HOW0:=oH hown;have hs00:(aAm es es' rn tn (0 * tn)).1=[]:=by rw[Nat.zero_mul];rfl
 clear hPM hown hal hps0;go_loopw [9,10] (fun ov uv wr=>∃(u:Nat) (A0:Option Addr) (c0:Nat) (n0:Nat) (ps:List Pc),Hid (u<=sn)/\uv=.int .i64 u/\ov=.slice A0 n0 c0/\Hid (ps.length=n0)/\Hid (PcsOk es es' rn tn (u * tn) ps)/\Hid (PMat wr M Ob bs tn (aAm es es' rn tn (u * tn)).1)/\Hid (wr.ownsRow Ob 120 5 (.slice A0 n0 c0) n0 (pcV ps))/\Hid (Ob<wr.heap.size)/\Box wr w.heap.size [.int .i64 rn,.int .i64 sn,.slice A es.length c]/\Box wr (w.heap.size+1) [.int .i64 rn,.int .i64 tn,.slice B es'.length d]/\Mid 0 0 w wr) (fun _ uv _=>sn - (intOf uv).toNat)
 case atStart=>exact⟨0,_,0,0,[],oH oZ,rfl,rfl,oH rfl,HPS0,by rw[hs00];exact HP0,HOW0,HOS,B0,B1,hm⟩
 clear HP0 HPS0 HOW0 HOS B0 B1 hm hs00;obtain⟨w3',hw3'⟩:∃ w3',w3'=wr:=⟨_,rfl⟩
 subst hw3';obtain⟨u,A0,c0,n0,ps,HU,rfl,rfl,HN0,HPS,HPM,HOW,HOS,B0,B1,hm⟩:=hrel;have hus:=HU.out;have p1:=B0.cell 1 rfl;by_cases hlt:u<sn
 .have hu0:(0:Int)<=(u:Int):=by omega
  have hu1:(u:Int)<(sn:Int):=by omega
  obtain⟨gu,hgu⟩:=aAs bs (show u<bs.length by rw[HK.out];exact hlt);have HGU:=oH hgu;clear hgu;go_wp2_with fail;go_loopw [9,11] (fun ov vv wr=>∃(v:Nat) (A0:Option Addr) (c0:Nat) (n0:Nat) (ps:List Pc),Hid (v<=tn)/\vv=.int .i64 v/\ov=.slice A0 n0 c0/\Hid (ps.length=n0)/\Hid (PcsOk es es' rn tn (u * tn+v) ps)/\Hid (PMat wr M Ob bs tn (aAm es es' rn tn (u * tn+v)).1)/\Hid (wr.ownsRow Ob 120 5 (.slice A0 n0 c0) n0 (pcV ps))/\Hid (Ob<wr.heap.size)/\Box wr w.heap.size [.int .i64 rn,.int .i64 sn,.slice A es.length c]/\Box wr (w.heap.size+1) [.int .i64 rn,.int .i64 tn,.slice B es'.length d]/\Mid 0 0 w wr) (fun _ vv _=>tn - (intOf vv).toNat)
  case atStart=>exact⟨0,A0,c0,n0,ps,oH oZ,rfl,rfl,HN0,HPS,HPM,HOW,HOS,B0,B1,hm⟩
  clear HPS HPM HOW HOS B0 B1 hm p1 HN0;obtain⟨w4',hw4'⟩:∃ w4',w4'=wr:=⟨_,rfl⟩
  subst hw4';obtain⟨v,A0,c0,n0,ps,HV,rfl,rfl,HN0,HPS,HPM,HOW,HOS,B0,B1,hm⟩:=hrel;have hvs:=HV.out;have q1:=B1.cell 1 rfl;by_cases hlt2:v<tn
  .have hv0:(0:Int)<=(v:Int):=by omega
   have hv1:(v:Int)<(tn:Int):=by omega
   have hpa:=aQZ (nb:=tn) (u:=u) hlt2;have hidx:u * tn+v<sn * tn:=by
    have h1:(u+1) * tn<=sn * tn:=Nat.mul_le_mul_right _ hlt;rw[Nat.succ_mul] at h1;omega
   have hn0b:n0<=1600:=by
    have h1:=HPS.out.len;have h2:=HN0.out;have h3:=HST.out;omega
   have HPA:=oH hpa;have HIX:=oH hidx;obtain⟨x,m0,m1,hx,hx1,hx2⟩:=HPM.out.get HGU.out hlt2;have HX:=oH hx;have mf:=HPM.out.frz HGU.out;have hOs:=HOS.out;have hgO:=HPM.out.rng gu (List.mem_of_getElem? HGU.out);have hMs:M<w4'.heap.size:=by omega
   have hgs:gu<w4'.heap.size:=by omega
   clear hpa hidx hx;by_cases hxn:x<0
   .have d1:decide (0<=x)=false:=by simp;omega
    have HNI:=oH (HX.out.1 hxn);have hp0:PIn sn tn ((u:Int),(v:Int)):=⟨Int.natCast_nonneg _,Int.ofNat_lt.2 hlt,Int.natCast_nonneg _,Int.ofNat_lt.2 hlt2⟩
    have HP0:=oH hp0;have hcx:=aCi (ea:=es) (eb:=es') (r:=rn) (sb:=tn) (i:=u * tn+v) (by rw[HPA.out];exact HNI.out);rw[HPA.out] at hcx;have HCX:Sec (aAm es es' rn tn (u * tn+v+1)=((aAm es es' rn tn (u * tn+v)).1++aAf es es' (lets rn) ((u:Int),(v:Int)),(aAm es es' rn tn (u * tn+v)).2++[aDy es es' rn (aAf es es' (lets rn) ((u:Int),(v:Int)))])):=⟨hcx⟩
    obtain⟨S0,hS0⟩:∃ S0,(aAm es es' rn tn (u * tn+v)).1=S0:=⟨_,rfl⟩
    have hSok:=aEW (r:=rn) F1.out.gr F2.out.gr (u * tn+v) (Nat.le_of_lt HIX.out);rw[hS0] at hSok HPM HNI;have HOUT:Hid (∀ i,∀ q∈aAN es es' (lets rn) ((u:Int),(v:Int)) i,q ∉ S0):=oH fun i=>aSX F1.out F2.out hSok.cl HNI.out hp0 i;have HSOK:=oH hSok;have HS0:Sec ((aAm es es' rn tn (u * tn+v)).1=S0):=⟨hS0⟩
    clear hcx hSok hS0 hp0 HX;go_wp2_with fail;have hPM1:=HPM.out.put HGU.out hlt2 (k:=(n0:Int)) (by omega) (by omega);have hst0:=Mid.setCell w4' (lo:=gu) (hi:=gu+1) (p:=⟨gu,v,none⟩) (.int .i64 (n0:Int)) oN oS;have hal1:=Mid.alloc (w4'.setCell ⟨gu,v,none⟩ (.int .i64 (n0:Int))) (.cells #[.int .i64 u,.int .i64 v,.int .i64 0,.int .i64 0,.bool false] 120);have hal2:=Mid.alloc ((w4'.setCell ⟨gu,v,none⟩ (.int .i64 (n0:Int))).alloc (.cells #[.int .i64 u,.int .i64 v,.int .i64 0,.int .i64 0,.bool false] 120)) (.cells #[.int .i64 u,.int .i64 v] 133);have Y0:=(Box.new (w4'.setCell ⟨gu,v,none⟩ (.int .i64 (n0:Int))) #[.int .i64 u,.int .i64 v,.int .i64 0,.int .i64 0,.bool false] 120).mid hal2 oZr;have ho0:=aMe ((w4'.setCell ⟨gu,v,none⟩ (.int .i64 (n0:Int))).alloc (.cells #[.int .i64 u,.int .i64 v,.int .i64 0,.int .i64 0,.bool false] 120)) ((u:Int),(v:Int));have hPM3:=(hPM1.mid hal1 oZr).mid hal2 oZr;have hOV:OV w4' Ob w4'.heap.size 120 5 A0 c0 n0 (pcV ps):=⟨oN,HOW.out,fun g hg=>(HOW.out.lt g hg).2⟩
    have hOV3:=((hOV.mid hst0 (Or.inl (by omega))).mid hal1 oZl).mid hal2 oZl;replace B0:=((B0.mid hst0 (Or.inl (by omega))).mid hal1 oZr).mid hal2 oZr;replace B1:=((B1.mid hst0 (Or.inl (by omega))).mid hal1 oZr).mid hal2 oZr;have hm3:=((hm.transNew hst0 (Or.inl (by omega))).trans hal1).trans hal2;simp only[World.size_alloc,World.size_setCell] at Y0 ho0;have hGO:Ob<w4'.heap.size:=hOs;generalize ((w4'.setCell ⟨gu,v,none⟩ (.int .i64 (n0:Int))).alloc (.cells #[.int .i64 u,.int .i64 v,.int .i64 0,.int .i64 0,.bool false] 120)).alloc (.cells #[.int .i64 u,.int .i64 v] 133)=w5 at Y0 ho0 hPM3 hOV3 B0 B1 hm3 |-;generalize w4'.heap.size=G at Y0 ho0 hOV3 hGO |-;have HY:=oH hPM3;have HOV:=oH hOV3;have HO0:=oH ho0;obtain⟨P,hPP⟩:∃ P,aAf es es' (lets rn) ((u:Int),(v:Int))=P:=⟨_,rfl⟩
    have HPP:Sec (aAf es es' (lets rn) ((u:Int),(v:Int))=P):=⟨hPP⟩
    generalize (some (⟨G+1,0,none⟩:Addr))=A1 at HO0 |-;clear hPM1 hst0 hal1 hal2 hOV hOV3 hPM3 ho0 hPP hm HPM HOW HOS hOs hMs hgs m0 m1 mf q1;go_loopw [13,14] (fun tv iv wr=>∃(i n1:Nat) (A1:Option Addr) (c1:Nat) (m:Nat) (eb:Bool),iv=.int .i64 i/\tv=.slice A1 n1 c1/\Hid (i<=n1)/\Hid (m=(aAZ es es' rn P i).length)/\Hid (wr.ownsRow (G+1) 133 2 (.slice A1 n1 c1) n1 (aAd (prI (aAN es es' (lets rn) ((u:Int),(v:Int)) i))))/\Box wr G [.int .i64 u,.int .i64 v,.int .i64 i,.int .i64 m,.bool eb]/\Hid (PMat wr M Ob bs tn (S0++aAN es es' (lets rn) ((u:Int),(v:Int)) i))/\Hid (OV wr Ob G 120 5 A0 c0 n0 (pcV ps))/\Box wr w.heap.size [.int .i64 rn,.int .i64 sn,.slice A es.length c]/\Box wr (w.heap.size+1) [.int .i64 rn,.int .i64 tn,.slice B es'.length d]/\Mid 0 0 w wr) (fun _ iv _=>1601 - (intOf iv).toNat)
    case atStart=>exact⟨0,1,A1,1,0,false,rfl,rfl,oH oZ,oH rfl,HO0,Y0,HY,HOV,B0,B1,hm3⟩
    clear HO0 Y0 HY HOV B0 B1 hm3;obtain⟨w6',hw6'⟩:∃ w6',w6'=wr:=⟨_,rfl⟩
    subst hw6';obtain⟨i,n1,A1,c1,m,eb,rfl,rfl,HI,HMM,HTD,Y,HPM,HOV,B0,B1,hm⟩:=hrel;have hn1:(aAN es es' (lets rn) ((u:Int),(v:Int)) i).length=n1:=by have h1:=HTD.out.1;rw[aAG,aKU] at h1;omega
    have hn16:n1<=1600:=by rw[<- hn1];exact aIW (lets rn) F1.out.gr F2.out.gr HP0.out i
    have hin1:=HI.out;have hm48:m<=4800:=by
     have h1:=HMM.out;have h2:=aCv es es' rn P i;have h4:i * rn<=1600 * 3:=Nat.mul_le_mul (by omega) (by omega);omega
    by_cases hlt3:i<n1
    .obtain⟨p,hp⟩:=aAs (aAN es es' (lets rn) ((u:Int),(v:Int)) i) (show i<_ by rw[hn1];exact hlt3)
     obtain⟨a,b',rfl,ha,hb⟩:∃ a b':Nat,p=((a:Int),(b':Int))/\a<sn/\b'<tn:=by
      obtain⟨x,y⟩:=p;obtain⟨i1,i2,i3,i4⟩:=(aFk (lets rn) F1.out.gr.all F2.out.gr.all HP0.out i).rng _ (List.mem_of_getElem? hp);simp only at i1 i2 i3 i4;exact⟨x.toNat,y.toNat,Prod.ext (by simp only;omega) (by simp only;omega),by omega,by omega⟩
     have HPT:=oH hp;have hPi:P[i]?=some ((a:Int),(b':Int)):=by rw[<- HPP.out];exact aAO (aGp F1.out.gr F2.out.gr HP0.out (by rw[hn1];exact hin1)) hp
     have HSU:=oH (aCF (ea:=es) (eb:=es') (r:=rn) hPi);have HSS:=oH (aCw hp);have HNO:=oH (HOUT.out i _ (List.mem_of_getElem? hp));have hi0:(0:Int)<=(i:Int):=by omega
     have hi1:(i:Int)<(n1:Int):=by omega
     clear hp hPi hn1;have y2:=Y.cell 2 rfl;have yf:=Y.2.2;have hYs:=Y.1;have hst1:=Mid.setCell w6' (lo:=G) (hi:=G+1) (p:=⟨G,2,none⟩) (.int .i64 ((i:Int)+1)) oN oS;have Y1:=Y.set 2 (.int .i64 ((i:Int)+1)) (by simp) rfl;go_upto_region 27 with fail
     go_cut [] from 85 to 169 (fun wx=>∃ e':Bool,Hid (wx.ownsRow (G+1) 133 2 (.slice A1 n1 c1) n1 (aAd (prI (aAN es es' (lets rn) ((u:Int),(v:Int)) i))))/\Box wx G [.int .i64 u,.int .i64 v,.int .i64 ((i:Int)+1),.int .i64 m,.bool e']/\Hid (PMat wx M Ob bs tn (S0++aAN es es' (lets rn) ((u:Int),(v:Int)) i))/\Hid (OV wx Ob G 120 5 A0 c0 n0 (pcV ps))/\Box wx w.heap.size [.int .i64 rn,.int .i64 sn,.slice A es.length c]/\Box wx (w.heap.size+1) [.int .i64 rn,.int .i64 tn,.slice B es'.length d]/\Mid 0 0 w wx)
     case first=>
      simp only[List.set_cons_succ,List.set_cons_zero] at Y1;have HTD1:=oH (aAc HTD.out hst1 (Or.inl oN));have HPM1:=oH (HPM.out.mid hst1 (Or.inl (by omega)));have HOV1:=oH (HOV.out.mid hst1 (Or.inr oN));replace B0:=B0.mid hst1 (Or.inl (by omega));replace B1:=B1.mid hst1 (Or.inl (by omega));have hm1:=hm.transNew hst1 (Or.inl (by omega));generalize w6'.setCell ⟨G,2,none⟩ (.int .i64 ((i:Int)+1))=w7 at Y1 HTD1 HPM1 HOV1 B0 B1 hm1 |-;clear Y y2 yf hYs hst1 HTD HPM HOV hm;have hmd:=Mid.drew1 w7;replace HTD1:=oH (aAc HTD1.out hmd oZl);replace HPM1:=oH (HPM1.out.mid hmd oZr);replace HOV1:=oH (HOV1.out.mid hmd oZl);replace B0:=B0.mid hmd oZr;replace B1:=B1.mid hmd oZr;replace Y1:=Y1.mid hmd oZr;replace hm1:=hm1.trans hmd;obtain⟨g1,hA1,hg1,hg1s⟩:=aAU HTD1.out (show 0<n1 by omega);subst hA1;have hrvo:=aAy HTD1.out;have hc0:=(hrvo.atI (aIZ HPT.out).1).2;have hc1:=(hrvo.atI (aIZ HPT.out).2).2;rw[Nat.zero_add] at hc0 hc1;have y4:=Y1.cell 4 rfl;have yf:=Y1.2.2;clear hrvo hmd;cases eb
      .refine wp_region_still_tail 16 (by kernel_rfl) (by kernel_rfl) ?_
       simp only[List.take_succ_cons,List.take_zero,List.drop_succ_cons,List.drop_zero];change wpStill _ _ (World.drew w7) (fun a'=>wpList _ _ _ _ a' (World.drew w7)) _ _;generalize World.drew w7=wz at HTD1 HPM1 HOV1 B0 B1 Y1 hm1 hc0 hc1 y4 yf hg1s |-;repeat
        (with_reducible refine wpStill_step (fun K hK=>?_))
        go_simp
        first|(with_reducible refine hK _ ?_)
        clear hK K
       with_reducible refine wpStill_nil ?_
       go_wp2_with fail;have hst2:=Mid.setCell wz (lo:=G) (hi:=G+1) (p:=⟨G,4,none⟩) (.bool ((a:Int) == (b':Int))) oN oS;have Y2:=Y1.set 4 (.bool ((a:Int) == (b':Int))) (by simp) rfl;simp only[List.set_cons_succ,List.set_cons_zero] at Y2;go_meet
       exact⟨((a:Int) == (b':Int)),oH (aAc HTD1.out hst2 (Or.inl oN)),Y2,oH (HPM1.out.mid hst2 (Or.inl (by omega))),oH (HOV1.out.mid hst2 (Or.inr oN)),B0.mid hst2 (Or.inl (by omega)),B1.mid hst2 (Or.inl (by omega)),hm1.transNew hst2 (Or.inl (by omega))⟩
      refine wp_region_still_tail 16 (by kernel_rfl) (by kernel_rfl) ?_;simp only[List.take_succ_cons,List.take_zero,List.drop_succ_cons,List.drop_zero];change wpStill _ _ (World.drew w7) (fun a'=>wpList _ _ _ _ a' (World.drew w7)) _ _;generalize World.drew w7=wz at HTD1 HPM1 HOV1 B0 B1 Y1 hm1 hc0 hc1 y4 yf hg1s |-;repeat
       (with_reducible refine wpStill_step (fun K hK=>?_))
       go_simp
       first|(with_reducible refine hK _ ?_)
       clear hK K
      with_reducible refine wpStill_nil ?_
      go_wp2_with fail;have hst2:=Mid.setCell wz (lo:=G) (hi:=G+1) (p:=⟨G,4,none⟩) (.bool true) oN oS;have Y2:=Y1.set 4 (.bool true) (by simp) rfl;simp only[List.set_cons_succ,List.set_cons_zero] at Y2;go_meet
      exact⟨true,oH (aAc HTD1.out hst2 (Or.inl oN)),Y2,oH (HPM1.out.mid hst2 (Or.inl (by omega))),oH (HOV1.out.mid hst2 (Or.inr oN)),B0.mid hst2 (Or.inl (by omega)),B1.mid hst2 (Or.inl (by omega)),hm1.transNew hst2 (Or.inl (by omega))⟩
     case rest=>
     clear Y y2 yf hYs hst1 Y1 HTD HPM HOV B0 B1 hm;obtain⟨e',HTD,Y,HPM,HOV,B0,B1,hm⟩:=hcut;obtain⟨w8,hw8⟩:∃ x,x=wc:=⟨_,rfl⟩
     subst hw8;have p0:=B0.cell 0 rfl;go_wp2_with fail;with_reducible refine(aFd rn _ (by omega)).mono ?_
     rintro en w9 ⟨A8,c8,rfl,hL8,hm8⟩;have hs8:=hm8.size;have hd1:∀ g,Value.ownBlock (.slice A1 n1 c1)=some g->g<w8.heap.size \/ w9.heap.size<=g:=fun g hg=>Or.inl (HTD.out.lt g hg).2;have hGw:G<w8.heap.size:=Y.1;replace HTD:=oH (aAc HTD.out hm8 oZl);replace HPM:=oH (HPM.out.mid hm8 oZr);replace HOV:=oH (HOV.out.mid hm8 oZl);replace B0:=B0.mid hm8 oZr;replace B1:=B1.mid hm8 oZr;replace Y:=Y.mid hm8 oZr;replace hm:=hm.trans hm8;have HL8:=oH hL8;have HD1:=oH hd1;obtain⟨LL,hLL⟩:∃ n,(lets rn).length=n:=⟨_,rfl⟩
     have hL6:LL<=6:=by rw[<- hLL,aBL];omega
     have HLL:=oH hLL;have hst0:aBo es es' ((lets rn).take 0) ((a:Int),(b':Int)) (aAN es es' (lets rn) ((u:Int),(v:Int)) i)=aAN es es' (lets rn) ((u:Int),(v:Int)) i:=rfl;rw[<- hst0] at HTD HPM;rw[hLL];have HM0:Hid (m=(aAZ es es' rn P i).length+(aCD es es' P i ((a:Int),(b':Int)) ((0+1) / 2)).length):=oH (by rw[HMM.out];simp[aCD]);clear p0 hm8 hL8 hd1 hLL hst0;generalize w8.heap.size=L8 at HL8 HD1 hGw hs8;generalize w9.heap.size=H8 at HL8 HD1 hs8;go_wp2_with fail;go_loopw [13,115] (fun tv jv wr=>∃(j n1:Nat) (A1:Option Addr) (c1 m:Nat),jv=.int .i64 j/\tv=.slice A1 n1 c1/\Hid (j<=LL)/\Hid (m=(aAZ es es' rn P i).length+(aCD es es' P i ((a:Int),(b':Int)) ((j+1) / 2)).length)/\Hid (wr.ownsRow (G+1) 133 2 (.slice A1 n1 c1) n1 (aAd (prI (aBo es es' ((lets rn).take j) ((a:Int),(b':Int)) (aAN es es' (lets rn) ((u:Int),(v:Int)) i)))))/\Hid (RV wr L8 H8 A8 (aAd (lets rn)))/\Hid (∀ g,Value.ownBlock (.slice A1 n1 c1)=some g->g<L8 \/ H8<=g)/\Box wr G [.int .i64 u,.int .i64 v,.int .i64 ((i:Int)+1),.int .i64 m,.bool e']/\Hid (PMat wr M Ob bs tn (S0++aBo es es' ((lets rn).take j) ((a:Int),(b':Int)) (aAN es es' (lets rn) ((u:Int),(v:Int)) i)))/\Hid (OV wr Ob G 120 5 A0 c0 n0 (pcV ps))/\Box wr w.heap.size [.int .i64 rn,.int .i64 sn,.slice A es.length c]/\Box wr (w.heap.size+1) [.int .i64 rn,.int .i64 tn,.slice B es'.length d]/\Mid 0 0 w wr) (fun _ jv _=>LL - (intOf jv).toNat)
     case atStart=>exact⟨0,n1,A1,c1,m,rfl,rfl,oH oZ,HM0,HTD,HL8,HD1,Y,HPM,HOV,B0,B1,hm⟩
     clear HTD HL8 HD1 Y HPM HOV B0 B1 hm HM0 HMM;obtain⟨wp,hwp⟩:∃ wp,wp=wr:=⟨_,rfl⟩
     subst hwp;obtain⟨j,n1,A1,c1,m,rfl,rfl,HJ,HM,HTD,HL8,HD1,Y,HPM,HOV,B0,B1,hm⟩:=hrel;have hj:=HJ.out;obtain⟨stj,hstj⟩:∃ st,aBo es es' ((lets rn).take j) ((a:Int),(b':Int)) (aAN es es' (lets rn) ((u:Int),(v:Int)) i)=st:=⟨_,rfl⟩
     have hpj:stj[i]?=some ((a:Int),(b':Int)):=by rw[<- hstj];exact aAO (aCU _ _ _ _ _) HPT.out
     rw[hstj] at HTD HPM;have hn1:stj.length=n1:=by have h1:=HTD.out.1;rw[aAG,aKU] at h1;omega
     have hn1b:n1<=1600:=by
      rw[<- hn1,<- hstj];have h1:=(aDU F1.out.gr F2.out.gr HP0.out (j:=j) HPT.out).length_le;have h2:=aEi (lets rn) F1.out.gr F2.out.gr HP0.out;omega
     have hm48b:m<=4900:=by
      have h1:=HM.out;have h2:=aCv es es' rn P i;have h3:=aGY es es' P i ((a:Int),(b':Int)) ((j+1) / 2);have h4:i * rn<=1600 * 3:=Nat.mul_le_mul (by omega) (by omega);omega
     by_cases hlt4:j<LL
     .obtain⟨B4,o4,x,hA8,hB4,hx,hcx⟩:=HL8.out.at (k:=j) (by rw[HLL.out];exact hlt4)
      subst hA8;have hxm:=aHt (List.mem_of_getElem? hx);have HXL:=oH (List.mem_of_getElem? hx);have hnx:=aFy (ea:=es) (eb:=es') (p:=((a:Int),(b':Int))) (st:=aAN es es' (lets rn) ((u:Int),(v:Int)) i) hx;rw[hstj] at hnx;have hpar:=aQD hx;have HNX:=oH hnx;have HPAR:=oH hpar;have hj0:(0:Int)<=(j:Int):=by omega
      have hj1:(j:Int)<(LL:Int):=by omega
      have hi1':(i:Int)<(n1:Int):=by have h1:=(List.getElem?_eq_some_iff.1 hpj).1;omega
      obtain⟨g1,hA1,hg1,hg1s⟩:=aAU HTD.out (show 0<n1 by omega);subst hA1;have hrvo:=aAy HTD.out;have hc0:=hrvo.atI (aIZ hpj).1;have hc1:=hrvo.atI (aIZ hpj).2;rw[Nat.zero_add] at hc0 hc1;have hB4s:B4<wp.heap.size:=Nat.lt_of_lt_of_le hB4 HL8.out.1;clear hx hnx hpar hpj hrvo;have k0:=aAb B0.1 (B0.cell 0 rfl);have k1:=aAb B0.1 (B0.cell 1 rfl);have k2:=aAb B0.1 (B0.cell 2 rfl);have k3:=aAb hc0.1 hc0.2;have k4:=aAb hc1.1 hc1.2;have l0:=aAb B1.1 (B1.cell 0 rfl);have l1:=aAb B1.1 (B1.cell 1 rfl);have l2:=aAb B1.1 (B1.cell 2 rfl);have hA:=fun m os=>aBc rn sn A es c a x (wg wp m os) lo hi (hr.mid (hm.trans (Mid.ofWg wp m os)) oZl) (by omega) HGL.out (by omega) (by omega);have hB:=fun m os=>aBc rn tn B es' d b' x (wg wp m os) lo2 hi2 (hr2.mid (hm.trans (Mid.ofWg wp m os)) oZl) (by omega) HGL2.out (by omega) (by omega);go_wp2_with fail;refine wqg ?_;repeat
       (with_reducible refine wpQuiet_step (fun K hK=>?_))
       go_simp
       first|(with_reducible refine hK _ ?_)|(rw[if_neg (by decide)];(with_reducible refine hK _ ?_))|(apply Exists.intro;refine⟨fun _=>?_,hK _ ?_⟩;((first|(go_at_call 135;with_reducible exact Calls.wg_of (hA _ _))|(go_at_call 135;with_reducible exact Calls.wg_of (hB _ _)))))
       clear hK K
      with_reducible refine wpQuiet_nil ?_
      rintro _ ⟨⟨nq,osq⟩,rfl⟩;have hwg:=Mid.ofWg wp nq osq;generalize wg wp nq osq=w10 at hwg |-;replace HTD:=oH (aAc HTD.out hwg oZl);replace HPM:=oH (HPM.out.mid hwg oZr);replace HOV:=oH (HOV.out.mid hwg oZl);replace HL8:=oH (HL8.out.mid hwg oZl);replace B0:=B0.mid hwg oZr;replace B1:=B1.mid hwg oZr;replace Y:=Y.mid hwg oZr;replace hm:=hm.trans hwg;clear k0 k1 k2 k3 k4 l0 l1 l2 hA hB hc0 hc1 hcx hwg hB4 hB4s hg1 hg1s;by_cases ht1:aAe es a x<0
      .have d1:decide (aAe es a x<0)=true:=by simpa using ht1
       have HNS:=oH (aFA (ea:=es) (eb:=es') (p:=((a:Int),(b':Int))) (st:=stj) ht1);have HPE:Hid (aCD es es' P i ((a:Int),(b':Int)) ((j+1) / 2)=aCD es es' P i ((a:Int),(b':Int)) ((j+1+1) / 2)):=oH (aDO HPAR.out (Or.inl ht1)).symm;clear ht1;go_wp2_with fail;go_roundw
       case rel=>exact⟨j+1,n1,_,c1,m,by go_num,rfl,oH (by omega),oH (by rw[<- HPE.out];exact HM.out),by rw[HNX.out,HNS.out];exact HTD,HL8,HD1,Y,by rw[HNX.out,HNS.out];exact HPM,HOV,B0,B1,hm⟩
       simp[intOf];omega
      have d1:decide (aAe es a x<0)=false:=by simpa using ht1
      by_cases ht2:aAe es' b' x<0
      .have d2:decide (aAe es' b' x<0)=true:=by simpa using ht2
       have HNS:=oH (aFB (ea:=es) (eb:=es') (p:=((a:Int),(b':Int))) (st:=stj) ht2);have HPE:Hid (aCD es es' P i ((a:Int),(b':Int)) ((j+1) / 2)=aCD es es' P i ((a:Int),(b':Int)) ((j+1+1) / 2)):=oH (aDO HPAR.out (Or.inr ht2)).symm;clear ht1 ht2;go_wp2_with fail;go_roundw
       case rel=>exact⟨j+1,n1,_,c1,m,by go_num,rfl,oH (by omega),oH (by rw[<- HPE.out];exact HM.out),by rw[HNX.out,HNS.out];exact HTD,HL8,HD1,Y,by rw[HNX.out,HNS.out];exact HPM,HOV,B0,B1,hm⟩
       simp[intOf];omega
      have d2:decide (aAe es' b' x<0)=false:=by simpa using ht2
      have hpin2:=aEk F1.out.gr.all F2.out.gr.all ((a:Int),(b':Int)) ht1 ht2;have hno2:=aOm F1.out F2.out HSOK.out.cl HXL.out HNO.out ht1 ht2 ⟨Int.natCast_nonneg _,Int.natCast_nonneg _⟩;obtain⟨x',y',hpe,hx's,hy's⟩:∃ x' y':Nat,aAI es es' ((a:Int),(b':Int)) x=((x':Int),(y':Int))/\x'<sn/\y'<tn:=by
       obtain⟨i1,i2,i3,i4⟩:=hpin2;exact⟨(aAe es a x).toNat,(aAe es' b' x).toNat,Prod.ext (by simp only[aAI] at i1 |-;omega) (by simp only[aAI] at i3 |-;omega),by simp only[aAI] at i2;omega,by simp only[aAI] at i4;omega⟩
      rw[hpe] at hno2;have htx:aAe es a x=(x':Int):=congrArg Prod.fst hpe;have hty:aAe es' b' x=(y':Int):=congrArg Prod.snd hpe;have HT1:=oH ht1;have HT2:=oH ht2;have HPN:=oH hpe;have HNO2:=oH hno2;simp only[htx,hty] at d1 d2 |-;obtain⟨gs,hgs⟩:=aAs bs (show x'<bs.length by rw[HK.out];exact hx's);obtain⟨z,q0,q1,hz,hz1,hz2⟩:=HPM.out.get hgs hy's;have qf:=HPM.out.frz hgs;have hgsO:=HPM.out.rng gs (List.mem_of_getElem? hgs);have HGS:=oH hgs;have HZ:=oH hz;have hG10:G<w10.heap.size:=Y.1;have hM10:M<w10.heap.size:=by omega
      have hgs10:gs<w10.heap.size:=by omega
      have e1:(G == M)=false:=by simp;omega
      have e2:(M == G)=false:=by simp;omega
      have e3:(G == gs)=false:=by simp;omega
      have e4:(gs == G)=false:=by simp;omega
      have f1:¬ G=M:=by omega
      have f2:¬ M=G:=by omega
      have f3:¬ G=gs:=by omega
      have f4:¬ gs=G:=by omega
      have xx0:(0:Int)<=(x':Int):=by omega
      have xx1:(x':Int)<(sn:Int):=by omega
      have yy0:(0:Int)<=(y':Int):=by omega
      have yy1:(y':Int)<(tn:Int):=by omega
      have y3:=Y.cell 3 rfl;have yf:=Y.2.2;clear ht1 ht2 htx hty hpe hpin2 hno2 hz hgs;have hst3:=Mid.setCell w10 (lo:=G) (hi:=G+1) (p:=⟨G,3,none⟩) (.int .i64 ((m:Int)+1)) oN oS;have Y3:=Y.set 3 (.int .i64 ((m:Int)+1)) (by simp) rfl;simp only[List.set_cons_succ,List.set_cons_zero] at Y3;by_cases hmem:((x':Int),(y':Int))∈stj
      .have HNS:=oH (aFC (ea:=es) (eb:=es') (p:=((a:Int),(b':Int))) (st:=stj) (x:=x) (by rw[HPN.out];exact hmem))
       have hzn:¬ z<0:=fun h=>HZ.out.1 h (List.mem_append_right _ hmem);have dz:decide (z<0)=false:=by simpa using hzn
       clear hmem hzn;rcases HPAR.out with⟨hev,hxv⟩|⟨hod,hxv⟩
       .have d3:decide (0<x)=true:=by simp;omega
        have HPE:Sec ((aCD es es' P i ((a:Int),(b':Int)) ((j+1+1) / 2)).length=(aCD es es' P i ((a:Int),(b':Int)) ((j+1) / 2)).length+1):=⟨aGX hev hxv HT1.out HT2.out⟩
        clear hev hxv;have HTD1:=oH (aAc HTD.out hst3 (Or.inl oN));have HPM1:=oH (HPM.out.mid hst3 (Or.inl (by omega)));have HOV1:=oH (HOV.out.mid hst3 (Or.inr oN));have HL9:=oH (HL8.out.mid hst3 (Or.inl (by omega)));have C0:=B0.mid hst3 (Or.inl (by omega));have C1:=B1.mid hst3 (Or.inl (by omega));have hm1:=hm.transNew hst3 (Or.inl (by omega));clear HTD HPM HOV HL8 B0 B1 hm hst3 Y;go_wp2_with fail;go_roundw
        case rel=>exact⟨j+1,n1,_,c1,m+1,by go_num,rfl,oH (by omega),oH (by rw[HPE.out,HM.out];omega),by rw[HNX.out,HNS.out];exact HTD1,HL9,HD1,by rw[Int.natCast_add];exact Y3,by rw[HNX.out,HNS.out];exact HPM1,HOV1,C0,C1,hm1⟩
        simp[intOf];omega
       have d3:decide (0<x)=false:=by simp;omega
       have HPE:Hid (aCD es es' P i ((a:Int),(b':Int)) ((j+1) / 2)=aCD es es' P i ((a:Int),(b':Int)) ((j+1+1) / 2)):=oH (by rw[show(j+1+1) / 2=(j+1) / 2 by omega]);clear hod hxv hst3 Y3;go_wp2_with fail;go_roundw
       case rel=>exact⟨j+1,n1,_,c1,m,by go_num,rfl,oH (by omega),oH (by rw[<- HPE.out];exact HM.out),by rw[HNX.out,HNS.out];exact HTD,HL8,HD1,Y,by rw[HNX.out,HNS.out];exact HPM,HOV,B0,B1,hm⟩
       simp[intOf];omega
      have HNS:Hid (aCo es es' ((a:Int),(b':Int)) stj x=stj++[((x':Int),(y':Int))]):=oH (by rw[aFD HT1.out HT2.out (by rw[HPN.out];exact hmem),HPN.out]);have hzn:z<0:=HZ.out.2 fun h=>by
       rcases List.mem_append.1 h with h|h
       .exact HNO2.out h
       .exact hmem h
      have dz:decide (z<0)=true:=by simpa using hzn
      have hn1m:n1<=1048576:=by omega
      clear hmem hzn;rcases HPAR.out with⟨hev,hxv⟩|⟨hod,hxv⟩
      .have d3:decide (0<x)=true:=by simp;omega
       have HPE:Sec ((aCD es es' P i ((a:Int),(b':Int)) ((j+1+1) / 2)).length=(aCD es es' P i ((a:Int),(b':Int)) ((j+1) / 2)).length+1):=⟨aGX hev hxv HT1.out HT2.out⟩
       clear hev hxv;have HTD1:=oH (aAc HTD.out hst3 (Or.inl oN));have HPM1:=oH (HPM.out.mid hst3 (Or.inl (by omega)));have HOV1:=oH (HOV.out.mid hst3 (Or.inr oN));have HL9:=oH (HL8.out.mid hst3 (Or.inl (by omega)));have C0:=B0.mid hst3 (Or.inl (by omega));have C1:=B1.mid hst3 (Or.inl (by omega));have hm1:=hm.transNew hst3 (Or.inl (by omega));have hs10:=hst3.size;clear HTD HPM HOV HL8 B0 B1 hm hst3 Y;have hst4:=Mid.setCell (w10.setCell ⟨G,3,none⟩ (.int .i64 ((m:Int)+1))) (lo:=gs) (hi:=gs+1) (p:=⟨gs,y',none⟩) (.int .i64 (n0:Int)) oN oS;have hPM2:=HPM1.out.put HGS.out hy's (k:=(n0:Int)) (by omega) (by omega);have hTD2:=aAc HTD1.out hst4 (Or.inl (by omega));have HTD2:=oH hTD2;have HPM2:=oH hPM2;have HOV2:=oH (HOV1.out.mid hst4 (Or.inl (by omega)));have HL10:=oH (HL9.out.mid hst4 (Or.inl (by omega)));replace C0:=C0.mid hst4 (Or.inl (by omega));replace C1:=C1.mid hst4 (Or.inl (by omega));replace hm1:=hm1.transNew hst4 (Or.inl (by omega));have Y5:=Y3.mid hst4 (Or.inr (by omega));have hs4:w10.heap.size<=((w10.setCell ⟨G,3,none⟩ (.int .i64 ((m:Int)+1))).setCell ⟨gs,y',none⟩ (.int .i64 (n0:Int))).heap.size:=by simp
       clear hTD2 hPM2 HTD1 HPM1 HOV1 HL9 hst4 Y3;go_wp2_with (at_builtin;refine MarkerX.to ?_)
       unfold MarkerX;generalize hWe:(w10.setCell ⟨G,3,none⟩ (.int .i64 ((m:Int)+1))).setCell ⟨gs,y',none⟩ (.int .i64 (n0:Int))=w11 at HTD2 HPM2 HOV2 HL10 C0 C1 hm1 Y5 hs4 |-;have hsz:w10.heap.size=w11.heap.size:=by rw[<- hWe];simp
       rw[hsz] at hG10 |-;clear hWe;refine aDS rfl _ _ rfl _ _ n1 _ stj rfl HTD2.out ((x':Int),(y':Int)) rfl hn1m hG10 ?_;intro A12 c12 w12 ho12 hgr12 hat12;have hm12:=Mid.of_grownRow HTD2.out hgr12;have hs12:=hm12.size;have hH8:H8<=w11.heap.size:=HL10.out.1;have HTD3:=oH ho12;have HPM3:=oH (HPM2.out.mid hm12 (Or.inl (by omega)));have HOV3:=oH (HOV2.out.mid hm12 (Or.inr (by omega)));have HL11:=oH (HL10.out.grown hgr12 HD1.out);have HD12:Hid (∀ g,Value.ownBlock (.slice A12 (n1+1) c12)=some g->g<L8 \/ H8<=g):=oH (by
        intro g hg;rcases hat12 with h|h
        .exact HD1.out g (h.symm.trans hg)
        .rw[h] at hg
         injection hg with hg
         omega)
       replace C0:=C0.mid hm12 (Or.inl (by omega));replace C1:=C1.mid hm12 (Or.inl (by omega));replace hm1:=hm1.transNew hm12 (Or.inl (by omega));have Y6:=Y5.mid hm12 (Or.inl (by omega));clear ho12 hgr12 hat12 hm12 HTD2 HPM2 HOV2 HL10 Y5;go_wp2_with fail;go_roundw
       case rel=>exact⟨j+1,n1+1,A12,c12,m+1,by go_num,rfl,oH (by omega),oH (by rw[HPE.out,HM.out];omega),by rw[HNX.out,HNS.out];exact HTD3,HL11,HD12,by rw[Int.natCast_add];exact Y6,by rw[HNX.out,HNS.out,<- List.append_assoc];exact HPM3,HOV3,C0,C1,hm1⟩
       simp[intOf];omega
      have d3:decide (0<x)=false:=by simp;omega
      have HPE:Hid (aCD es es' P i ((a:Int),(b':Int)) ((j+1) / 2)=aCD es es' P i ((a:Int),(b':Int)) ((j+1+1) / 2)):=oH (by rw[show(j+1+1) / 2=(j+1) / 2 by omega]);clear hod hxv hst3 Y3;have HTD1:=HTD;have HPM1:=HPM;have HOV1:=HOV;have HL9:=HL8;have C0:=B0;have C1:=B1;have hm1:=hm;have Y3:=Y;have hs10:=Nat.le_refl w10.heap.size;clear HTD HPM HOV HL8 B0 B1 hm Y;have hst4:=Mid.setCell (w10) (lo:=gs) (hi:=gs+1) (p:=⟨gs,y',none⟩) (.int .i64 (n0:Int)) oN oS;have hPM2:=HPM1.out.put HGS.out hy's (k:=(n0:Int)) (by omega) (by omega);have hTD2:=aAc HTD1.out hst4 (Or.inl (by omega));have HTD2:=oH hTD2;have HPM2:=oH hPM2;have HOV2:=oH (HOV1.out.mid hst4 (Or.inl (by omega)));have HL10:=oH (HL9.out.mid hst4 (Or.inl (by omega)));replace C0:=C0.mid hst4 (Or.inl (by omega));replace C1:=C1.mid hst4 (Or.inl (by omega));replace hm1:=hm1.transNew hst4 (Or.inl (by omega));have Y5:=Y3.mid hst4 (Or.inr (by omega));have hs4:w10.heap.size<=((w10).setCell ⟨gs,y',none⟩ (.int .i64 (n0:Int))).heap.size:=by simp
      clear hTD2 hPM2 HTD1 HPM1 HOV1 HL9 hst4 Y3;go_wp2_with (at_builtin;refine MarkerX.to ?_)
      unfold MarkerX;generalize hWe:(w10).setCell ⟨gs,y',none⟩ (.int .i64 (n0:Int))=w11 at HTD2 HPM2 HOV2 HL10 C0 C1 hm1 Y5 hs4 |-;have hsz:w10.heap.size=w11.heap.size:=by rw[<- hWe];simp
      rw[hsz] at hG10 |-;clear hWe;refine aDS rfl _ _ rfl _ _ n1 _ stj rfl HTD2.out ((x':Int),(y':Int)) rfl hn1m hG10 ?_;intro A12 c12 w12 ho12 hgr12 hat12;have hm12:=Mid.of_grownRow HTD2.out hgr12;have hs12:=hm12.size;have hH8:H8<=w11.heap.size:=HL10.out.1;have HTD3:=oH ho12;have HPM3:=oH (HPM2.out.mid hm12 (Or.inl (by omega)));have HOV3:=oH (HOV2.out.mid hm12 (Or.inr (by omega)));have HL11:=oH (HL10.out.grown hgr12 HD1.out);have HD12:Hid (∀ g,Value.ownBlock (.slice A12 (n1+1) c12)=some g->g<L8 \/ H8<=g):=oH (by
       intro g hg;rcases hat12 with h|h
       .exact HD1.out g (h.symm.trans hg)
       .rw[h] at hg
        injection hg with hg
        omega)
      replace C0:=C0.mid hm12 (Or.inl (by omega));replace C1:=C1.mid hm12 (Or.inl (by omega));replace hm1:=hm1.transNew hm12 (Or.inl (by omega));have Y6:=Y5.mid hm12 (Or.inl (by omega));clear ho12 hgr12 hat12 hm12 HTD2 HPM2 HOV2 HL10 Y5;go_wp2_with fail;go_roundw
      case rel=>exact⟨j+1,n1+1,A12,c12,m,by go_num,rfl,oH (by omega),oH (by rw[<- HPE.out];exact HM.out),by rw[HNX.out,HNS.out];exact HTD3,HL11,HD12,Y6,by rw[HNX.out,HNS.out,<- List.append_assoc];exact HPM3,HOV3,C0,C1,hm1⟩
      simp[intOf];omega
     obtain rfl:LL=j:=by omega
     have htk:(lets rn).take LL=lets rn:=List.take_of_length_le (by rw[HLL.out];exact oN);rw[htk] at hstj;have hj2:(LL+1) / 2=rn:=by have h1:=HLL.out;rw[aBL] at h1;omega
     rw[hj2] at HM;have HM2:Hid (m=(aAZ es es' rn P (i+1)).length):=oH (by rw[HSU.out,List.length_append];exact HM.out);have hst2:aAN es es' (lets rn) ((u:Int),(v:Int)) (i+1)=stj:=HSS.out.trans hstj;have HST2:=oH hst2;have hi1':i<n1:=by have h1:=(List.getElem?_eq_some_iff.1 hpj).1;omega
     have Y4:=Y;clear hst2 hstj htk hpj hn1 HM Y;go_wp2_with fail;go_roundw
     case rel=>exact⟨i+1,n1,A1,c1,m,e',by go_num,rfl,oH hi1',HM2,by rw[HST2.out];exact HTD,by rw[Int.natCast_add];exact Y4,by rw[HST2.out];exact HPM,HOV,B0,B1,hm⟩
     simp[intOf];omega
    obtain rfl:n1=i:=by omega
    have hPeq:=aIm F1.out.gr F2.out.gr HP0.out hn1;rw[HPP.out] at hPeq;have hPL:P.length=n1:=by rw[hPeq];exact hn1
    obtain⟨y0,y1,y2⟩:=Y.c3 rfl;have y3:=Y.cell 3 rfl;have y4:=Y.cell 4 rfl;have yf:=Y.2.2;have hGs:G<w6'.heap.size:=Y.1;have HOW2:=oH HOV.out.2.1;have HPS2:Hid (PcsOk es es' rn tn (u * tn+(v+1)) (ps++[⟨u,v,n1,m,eb⟩])):=oH (by
     refine⟨?_,fun p hp=>?_⟩
     .rw[<- Nat.add_assoc,HCX.out,List.map_append,HPS.out.rk]
      show _++[(m:Int) - (n1:Int)+1]=_++[aDy es es' rn (aAf es es' (lets rn) ((u:Int),(v:Int)))]
      rw[HPP.out];unfold aDy;rw[hPL,<- HMM.out]
     .rcases List.mem_append.1 hp with hp|hp
      .exact HPS.out.bd p hp
      .simp at hp
       subst hp;simp only;omega)
    have hS1:(aAm es es' rn tn (u * tn+(v+1))).1=S0++P:=by
     rw[<- Nat.add_assoc,HCX.out,HPP.out,HS0.out]
    rw[<- hPeq,<- hS1] at HPM;clear hPeq hPL hS1 HMM Y HTD hn1 HCX HPP HS0 HPS HOV;go_wp2_with (at_builtin;refine MarkerX.to ?_)
    unfold MarkerX;refine aLl rfl _ _ rfl Ob _ n0 _ ps rfl HOW2.out ⟨u,v,n1,m,eb⟩ rfl (by omega) (by omega) ?_;intro A2 c2 w12 ho12 hgr12 hat12;have hm12:=Mid.of_grownRow HOW2.out hgr12;have hs12:=hm12.size;have HPM2:=oH (HPM.out.mid hm12 (Or.inl (by omega)));have HOW3:=oH ho12;have HOS2:Hid (Ob<w12.heap.size):=oH (by omega);replace B0:=B0.mid hm12 (Or.inl (by omega));replace B1:=B1.mid hm12 (Or.inl (by omega));replace hm:=hm.transNew hm12 (Or.inl (by omega));have HN2:Hid ((ps++[(⟨u,v,n1,m,eb⟩:Pc)]).length=n0+1):=oH (by rw[List.length_append,HN0.out];rfl);clear ho12 hgr12 hat12 hm12 HPM HOW2 HN0 y0 y1 y2 y3 y4 yf;go_wp2_with fail;go_roundw
    case rel=>exact⟨v+1,A2,c2,n0+1,_,oH (by omega),by go_num,rfl,HN2,HPS2,HPM2,HOW3,HOS2,B0,B1,hm⟩
    simp[intOf];omega
   have d1:decide (0<=x)=true:=by simp;omega
   have hin:aBd tn (u * tn+v)∈(aAm es es' rn tn (u * tn+v)).1:=by
    rw[HPA.out];exact Decidable.byContradiction fun h=>hxn (HX.out.2 h)
   have hc:=aDn hin;have HPS2:Hid (PcsOk es es' rn tn (u * tn+(v+1)) ps):=oH ⟨by rw[<- Nat.add_assoc,hc];exact HPS.out.rk,HPS.out.bd⟩;have HPM2:Hid (PMat w4' M Ob bs tn (aAm es es' rn tn (u * tn+(v+1))).1):=oH (by rw[<- Nat.add_assoc,hc];exact HPM.out);clear hin hc HPS HPM;go_wp2_with fail;go_roundw
   case rel=>exact⟨v+1,A0,c0,n0,ps,oH (by omega),by go_num,rfl,HN0,HPS2,HPM2,HOW,HOS,B0,B1,hm⟩
   simp[intOf];omega
  obtain rfl:tn=v:=by omega
  have HPS2:Hid (PcsOk es es' rn tn ((u+1) * tn) ps):=oH (by rw[Nat.succ_mul];exact HPS.out);have HPM2:Hid (PMat w4' M Ob bs tn (aAm es es' rn tn ((u+1) * tn)).1):=oH (by rw[Nat.succ_mul];exact HPM.out);clear HPS HPM;go_wp2_with fail;go_roundw
  case rel=>exact⟨u+1,A0,c0,n0,ps,oH (by omega),by go_num,rfl,HN0,HPS2,HPM2,HOW,HOS,B0,B1,hm⟩
  simp[intOf];omega
 obtain rfl:sn=u:=by omega
 have hlen:=HN0.out;go_wp2_with fail;go_ret2;exact⟨A0,c0,ps,.slice (some ⟨M,0,none⟩) sn sn,by rw[hlen];rfl,HPS.out,(aAy HOW.out).wide (by omega) oN oN,hm⟩
end Go.Proofs.YtkimajabegojoaaGreat
