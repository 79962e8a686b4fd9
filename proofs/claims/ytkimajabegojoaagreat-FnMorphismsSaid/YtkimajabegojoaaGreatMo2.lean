/- Lemmas. -/
import Derived.Test.YtkimajabegojoaaGreatMo1
import Derived.Shelf.Small.Wraps
import Derived.Shelf.Sort.Plain
import Derived.Ground.Names2Prog
import Derived.Shelf.Slices.CompactI
import Derived.Shelf.Slices.Cells
import Derived.Shelf.Slices.In.SortNone
import Derived.Test.YtkimajabegojoaaGreatProg
import Derived.Lib.OwnBridge
import Derived.Shelf.SlGeneric
import Derived.Shelf.SlSortCmp.WholeK
import Derived.Shelf.SlicesQ.Contains
import Derived.Shelf.SlicesQ.Equal
import Derived.Ground.SlsfProg
import Derived.Ground.SlgqProg
import Derived.Deep.AppendLies
import Derived.RegionTactic
import Derived.Deep.QuietTactic
import Derived.Deep.Matrix
import Derived.Lib.SmallJoins
import Derived.ProofKit
import Derived.OpenShut
import Derived.ShutString
import Derived.ChangeOld
import Derived.Deep.RegionHeld3
namespace Go.Proofs.YtkimajabegojoaaGreat
set_option linter.unusedVariables false
set_option linter.unusedSimpArgs false
set_option maxHeartbeats 40000000
set_option maxRecDepth 100000
open Go.RowKit
def aTF(es:List Ed)(w:LI):Prop:=∃ w2,LtW w2/\Eqv w w2/\Pa es 0 w2 0
theorem aPy{r s:Int}{es:List Ed}(h:IsFol r s es){w:LI}(hw:LtW w):aTF es w↔InS es w:=by
 constructor
 .rintro⟨w2,l2,e,p⟩
  exact(InS.eqv e).2 (InS.mk h p)
 exact fun h2=>⟨Go.Proofs.YtkimajabegojoaaGreat.red [] w,aHF hw,(Eqv.toRed hw).symm,h2⟩
theorem aGg{p:Int × Int}{es:List Ed}{f:Ed}:f∈aCu p es↔∃ e∈es,aEw p e=f:=by
 unfold aCu;rw[aAO,List.mem_map]
theorem aPG{p:Int × Int}{es:List Ed}{i x j:Int}:Sp (aCu p es) i x j↔∃ u v,aBZ p u=i/\aBZ p v=j/\Sp es u x v:=by
 constructor
 .rintro(⟨h1,h2⟩|⟨h1,h2⟩)
  .obtain⟨e,he,h3⟩:=aGg.1 h2
   injection h3 with h3 h4 h5
   exact⟨e.a,e.b,h3,h5,.inl ⟨h1,by rw[<- h4];exact he⟩⟩
  obtain⟨e,he,h3⟩:=aGg.1 h2;injection h3 with h3 h4 h5
  exact⟨e.b,e.a,h5,h3,.inr ⟨h1,by rw[<- h4];exact he⟩⟩
 rintro⟨u,v,rfl,rfl,(⟨h1,h2⟩|⟨h1,h2⟩)⟩
 .exact .inl ⟨h1,aGg.2 ⟨_,h2,rfl⟩⟩
 exact .inr ⟨h1,aGg.2 ⟨_,h2,rfl⟩⟩
theorem aPF{p:Int × Int}{es:List Ed}:∀ {w:LI} {u v:Int},Pa es u w v->Pa (aCu p es) (aBZ p u) w (aBZ p v)
|[],_,_,h=>by cases h;rfl
|_::_,_,_,⟨t,h1,h2⟩=>⟨aBZ p t,aPG.2 ⟨_,_,rfl,rfl,h1⟩,aPF h2⟩
def Apex(es:List Ed)(p:Int × Int):Prop:=∃ c x,Sp es c x p.1/\Sp es c x p.2
theorem aUc{r s:Int}{es:List Ed}(hg:∀ e∈es,InG r s e){e f:Ed}(he:e∈es)(hf:f∈es){p:Int × Int}(h:p∈aAp e f):Apex es p:=by
 have h1:=hg e he;have h2:=hg f hf;simp only[InG] at h1 h2;have se:=aEX he oO;have sf:=aEX hf oO;unfold aAp at h;split at h
 .rename_i hl
  rcases List.mem_append.1 h with h|h
  .split at h
   .rename_i ha
    rw[List.mem_singleton] at h;subst h;rw[<- hl,<- ha] at sf;rcases Int.le_total e.b f.b with hm|hm
    .refine⟨e.a,e.l,?_,?_⟩
     .rw[Int.min_eq_left hm];exact se
     rw[Int.max_eq_right hm];exact sf
    refine⟨e.a,e.l,?_,?_⟩
    .rw[Int.min_eq_right hm];exact sf
    rw[Int.max_eq_left hm];exact se
   cases h
  split at h
  .rename_i hb
   rw[List.mem_singleton] at h;subst h;rw[<- hl,<- hb] at sf;rcases Int.le_total e.a f.a with hm|hm
   .refine⟨e.b, -e.l,?_,?_⟩
    .rw[Int.min_eq_left hm];exact se.neg
    rw[Int.max_eq_right hm];exact sf.neg
   refine⟨e.b, -e.l,?_,?_⟩
   .rw[Int.min_eq_right hm];exact sf.neg
   rw[Int.max_eq_left hm];exact se.neg
  cases h
 cases h
theorem aPh{r s:Int}{es:List Ed}(hg:∀ e∈es,InG r s e){p:Int × Int}:∀ {fs:List Ed},(∀ e∈fs,e∈es)->p∈aCo fs->Apex es p
|[],_,h=>by cases h
|e::t,hs,h=>by
  rcases List.mem_append.1 h with h|h
  .obtain⟨f,hf,h⟩:=List.mem_flatMap.1 h
   exact aUc hg (hs e List.mem_cons_self) (hs f (List.mem_cons_of_mem _ hf)) h
  .exact aPh hg (fun x hx=>hs x (List.mem_cons_of_mem _ hx)) h
theorem aRF{p:Int × Int}(hp:p.1<p.2){u v:Int}(h:aBZ p u=aBZ p v):u=v \/ (u=p.1/\v=p.2) \/ (u=p.2/\v=p.1):=by
 unfold aBZ at h;split at h <;> split at h <;> (try split at h) <;> (try split at h) <;> omega
theorem aQw{p:Int × Int}(h0:0<=p.1)(hp:p.1<p.2):aBZ p 0=0:=by
 unfold aBZ;rw[if_neg oO,if_neg oO]
theorem Apex.jump{r s:Int}{es:List Ed}(hg:IsGr r s es){p:Int × Int}(ha:Apex es p)(hp:p.1<p.2){u v:Int}(h:aBZ p u=aBZ p v) :
  ∃ j,Pa es u j v/\∀(out b:LI),Rd out->LtW out->red out (j++b)=red out b:=by
 obtain⟨c,x,h1,h2⟩:=ha;have hx:=(h1.lt3 hg).neg;have hr:∀(out b:LI),Rd out->LtW out->red out ([-x,x]++b)=red out b:=fun out b ho hl=>by
  have:=aPN b ho hl hx
  rwa [Int.neg_neg] at this
 rcases aRF hp h with rfl|⟨rfl,rfl⟩|⟨rfl,rfl⟩
 .exact⟨[],rfl,fun _ _ _ _=>rfl⟩
 .exact⟨[-x,x],⟨c,h1.neg,_,h2,rfl⟩,hr⟩
 exact⟨[-x,x],⟨c,h2.neg,_,h1,rfl⟩,hr⟩
theorem aNe{r s:Int}{es:List Ed}(hg:IsGr r s es){p:Int × Int}(ha:Apex es p)(hp:p.1<p.2):∀ {w:LI} {u t:Int},Pa (aCu p es) (aBZ p u) w t ->
  ∃ w2 v,aBZ p v=t/\Pa es u w2 v/\∀ out,Rd out->LtW out->red out w2=red out w
|[],u,t,h=>⟨[],u,h,rfl,fun _ _ _=>rfl⟩
|x::w,u,t,⟨q,h1,h2⟩=>by
  obtain⟨u',q',a1,rfl,hs⟩:=aPG.1 h1;obtain⟨j,hj,a0⟩:=ha.jump hg hp a1.symm;obtain⟨w2,v,hv,a2,hr⟩:=aNe hg ha hp h2;refine⟨j++x::w2,v,hv,hj.app ⟨q',hs,a2⟩,fun out ho hl=>?_⟩;have hx:=hs.lt3 hg;rw[a0 out _ ho hl,aCb,aCb,hr _ (ho.step hl hx) (LtW.red (w:=[x]) hl (LtW.one hx))]
theorem aQF{r s:Int}{es:List Ed}(hg:IsGr r s es){p:Int × Int}(ha:Apex es p)(h0:0<=p.1)(hp:p.1<p.2)(w:LI):aTF (aCu p es) w↔aTF es w:=by
 have hz:=aQw h0 hp;constructor
 .rintro⟨w2,l2,e,h⟩
  rw[<- hz] at h;obtain⟨w3,v,hv,h3,hr⟩:=aNe hg ha hp h;obtain⟨j,hj,a0⟩:=ha.jump hg hp (u:=v) (v:=0) (by rw[hv]);have h4:=h3.app hj;refine⟨w3++j,h4.lt hg,e.trans ?_,h4⟩;unfold Eqv;have h5:=a0 (red [] w3) [] (aHO (h3.lt hg)) (aHF (h3.lt hg));rw[List.append_nil] at h5;rw[aBX,h5,aOR,hr [] Rd.nil LtW.nil]
 rintro⟨w2,l2,e,h⟩;have:=aPF (p:=p) h;rw[hz] at this;exact⟨w2,l2,e,this⟩
theorem aLe{r:Int}(w:LI):∀(n:Nat) {g:Int × List Ed},IsGr r g.1 g.2->(aTF (aDg n g).2 w↔aTF g.2 w)
|0,g,_=>Iff.rfl
|n+1,g,h=>by
  cases hf:aCo g.2 with
 |nil=>rw[aEv hf]
 |cons p t=>
   rw[aEu hf];have hm:p∈aCo g.2:=by rw[hf];exact List.mem_cons_self
   obtain⟨h1,h2,h3⟩:=aDL h.all h.asc hm;exact(aLe w n (aFL h h1 h2 h3)).trans (aQF h (aPh h.all (fun e he=>he) hm) h1 h2 w)
theorem aOq{es:List Ed}{e:Ed}(he:e∈es)(v:Int):degE v e<=deg es v:=by
 induction es with
|nil=>cases he
|cons a t ih=>
  have h:deg (a::t) v=degE v a+deg t v:=by simp[deg]
  rcases List.mem_cons.1 he with rfl|he
  .omega
  have:=ih he;omega
theorem aUh{es:List Ed}{e f:Ed}(he:e∈es)(hf:f∈es)(a0:e≠f)(v:Int):degE v e+degE v f<=deg es v:=by
 induction es with
|nil=>cases he
|cons a t ih=>
  have h:deg (a::t) v=degE v a+deg t v:=by simp[deg]
  rcases List.mem_cons.1 he with h1|h1 <;> rcases List.mem_cons.1 hf with h2|h2
  .exact absurd (h1.trans h2.symm) a0
  .have:=aOq h2 v
   rw[h1];omega
  .have:=aOq h1 v
   rw[h2];omega
  have:=ih h1 h2;omega
theorem Sp.degE{es:List Ed}{v y t:Int}(h:Sp es v y t):∃ e∈es,1<=degE v e/\((0<y/\e.a=v/\e.l=y/\e.b=t) \/ (y<0/\e.b=v/\e.l = -y/\e.a=t)):=by
 rcases h with⟨h1,h2⟩|⟨h1,h2⟩
 .exact⟨_,h2,by simp[Go.Proofs.YtkimajabegojoaaGreat.degE],.inl ⟨h1,rfl,rfl,rfl⟩⟩
 exact⟨_,h2,by simp[Go.Proofs.YtkimajabegojoaaGreat.degE],.inr ⟨h1,rfl,rfl,rfl⟩⟩
def Two(es:List Ed)(v:Int):Prop:=∃ y z t t',y≠z/\Sp es v y t/\Sp es v z t'
theorem Two.deg{es:List Ed}{v:Int}(h:Two es v):2<=deg es v:=by
 obtain⟨y,z,t,t',a0,h1,h2⟩:=h;obtain⟨e,he,d1,c1⟩:=h1.degE;obtain⟨f,hf,d2,c2⟩:=h2.degE;by_cases hef:e=f
 .subst hef
  have:degE v e=2:=by
   unfold Go.Proofs.YtkimajabegojoaaGreat.degE;rcases c1 with⟨a1,a2,a3,a4⟩|⟨a1,a2,a3,a4⟩ <;> rcases c2 with⟨b1,b2,b3,b4⟩|⟨b1,b2,b3,b4⟩
   .omega
   .rw[if_pos a2,if_pos b2]
   .rw[if_pos b2,if_pos a2]
   omega
  have:=aOq he v;omega
 have:=aUh he hf hef v;omega
theorem aQT{r s:Int}{es:List Ed}(h:IsFol r s es){v:Int}(hd:2<=deg es v):Two es v:=by
 have key:∀ fs:List Ed,(∀ e∈fs,e∈es)->Asc fs->1<=deg fs v->∃ e∈fs,1<=degE v e:=by
  intro fs
  induction fs with
 |nil=>intro _ _ h;simp[Go.Proofs.YtkimajabegojoaaGreat.deg] at h
 |cons a t ih=>
   intro hs ha hd;have h1:deg (a::t) v=degE v a+deg t v:=by simp[Go.Proofs.YtkimajabegojoaaGreat.deg]
   by_cases h2:1<=degE v a
   .exact⟨a,List.mem_cons_self,h2⟩
   obtain⟨e,he,h3⟩:=ih (fun e he=>hs e (List.mem_cons_of_mem _ he)) (List.pairwise_cons.1 ha).2 oO;exact⟨e,List.mem_cons_of_mem _ he,h3⟩
 have a3:∀ fs:List Ed,(∀ e∈fs,e∈es)->Asc fs->2<=deg fs v->(∃ e∈fs,degE v e=2) \/ ∃ e∈fs,∃ f∈fs,e≠f/\1<=degE v e/\1<=degE v f:=by
  intro fs
  induction fs with
 |nil=>intro _ _ h;simp[Go.Proofs.YtkimajabegojoaaGreat.deg] at h
 |cons a t ih=>
   intro hs ha hd;have h1:deg (a::t) v=degE v a+deg t v:=by simp[Go.Proofs.YtkimajabegojoaaGreat.deg]
   have a6:degE v a<=2:=by unfold Go.Proofs.YtkimajabegojoaaGreat.degE;split <;> split <;> omega
   obtain⟨a5,a0⟩:=List.pairwise_cons.1 ha;by_cases h2:degE v a=2
   .exact .inl ⟨a,List.mem_cons_self,h2⟩
   by_cases h3:1<=degE v a
   .obtain⟨e,he,h4⟩:=key t (fun e he=>hs e (List.mem_cons_of_mem _ he)) a0 oO
    exact .inr ⟨a,List.mem_cons_self,e,List.mem_cons_of_mem _ he,(a5 e he).ne,h3,h4⟩
   rcases ih (fun e he=>hs e (List.mem_cons_of_mem _ he)) a0 oO with⟨e,he,h4⟩|⟨e,he,f,hf,h4⟩
   .exact .inl ⟨e,List.mem_cons_of_mem _ he,h4⟩
   exact .inr ⟨e,List.mem_cons_of_mem _ he,f,List.mem_cons_of_mem _ hf,h4⟩
 have a4:∀ e∈es,1<=degE v e->(e.a=v/\Sp es v e.l e.b) \/ (e.b=v/\Sp es v (-e.l) e.a):=by
  intro e he h1;have hl:=h.gr.all e he;simp only[InG] at hl;have hs:=aEX he oO;unfold Go.Proofs.YtkimajabegojoaaGreat.degE at h1;by_cases ha:e.a=v
  .exact .inl ⟨ha,by rw[<- ha];exact hs⟩
  by_cases hb:e.b=v
  .exact .inr ⟨hb,by rw[<- hb];exact hs.neg⟩
  rw[if_neg ha,if_neg hb] at h1;omega
 rcases a3 es (fun e he=>he) h.gr.asc hd with⟨e,he,h2⟩|⟨e,he,f,hf,hne,h1,h2⟩
 .have hl:=h.gr.all e he
  simp only[InG] at hl;have hs:=aEX he oO;unfold Go.Proofs.YtkimajabegojoaaGreat.degE at h2;have ha:e.a=v:=by
   apply Classical.byContradiction;intro hc;rw[if_neg hc] at h2;split at h2 <;> omega
  have hb:e.b=v:=by
   apply Classical.byContradiction;intro hc;rw[if_neg hc] at h2;split at h2 <;> omega
  refine⟨e.l, -e.l,e.b,e.a,oO,by rw[<- ha];exact hs,?_⟩;rw[<- hb];exact hs.neg
 have le:=h.gr.all e he;have lf:=h.gr.all f hf;simp only[InG] at le lf;rcases a4 e he h1 with⟨a1,s1⟩|⟨a1,s1⟩ <;> rcases a4 f hf h2 with⟨a2,s2⟩|⟨a2,s2⟩
 .exact⟨_,_,_,_,fun e1=>hne (h.key e he f hf ⟨e1,.inl (a1.trans a2.symm)⟩),s1,s2⟩
 .exact⟨_,_,_,_,oO,s1,s2⟩
 .exact⟨_,_,_,_,oO,s1,s2⟩
 exact⟨_,_,_,_,fun e1=>hne (h.key e he f hf ⟨oO,.inr (a1.trans a2.symm)⟩),s1,s2⟩
theorem aLI{r s:Int}{es:List Ed}(hg:∀ e∈es,InG r s e){v u:Int}:Conn es v u↔∃ w,Pa es v w u:=by
 constructor
 .intro h
  induction h with
 |here=>exact⟨[],rfl⟩
 |@out e he _ ih=>
   obtain⟨w,hw⟩:=ih;have hl:=hg e he;simp only[InG] at hl;exact⟨_,hw.snoc (aEX he oO)⟩
 |@inn e he _ ih=>
   obtain⟨w,hw⟩:=ih;have hl:=hg e he;simp only[InG] at hl;exact⟨_,hw.snoc (aEX he oO).neg⟩
 rintro⟨w,hw⟩;have key:∀(w:LI) (t:Int),Conn es v t->Pa es t w u->Conn es v u:=by
  intro w
  induction w with
 |nil=>intro t ht h;cases h;exact ht
 |cons x w ih=>
   rintro t ht ⟨q,h1,h2⟩;refine ih q ?_ h2;rcases h1 with⟨_,h1⟩|⟨_,h1⟩
   .exact Conn.out h1 ht
   exact Conn.inn h1 ht
 exact key w v Conn.here hw
theorem aHD{r s:Int}{es:List Ed}(h:IsFol r s es):leaf s es=none↔∀ v,1<=v->v<s->Two es v/\∃ w,Pa es 0 w v:=by
 constructor
 .intro hl v h1 h2
  rcases aQE s es with⟨_,a0⟩|⟨u,hu,_⟩
  .have:=a0 v.toNat oO oO
   rw[Int.toNat_of_nonneg oO] at this;unfold Bad at this;refine⟨aQT h oO,(aLI h.gr.all).1 (Classical.byContradiction fun hc=>this (.inr hc))⟩
  rw[hl] at hu;cases hu
 intro a0;refine aHC fun u h1 h2 hb=>?_;obtain⟨h3,h4⟩:=a0 u oO h2;rcases hb with hb|hb
 .have:=h3.deg
  omega
 exact hb ((aLI h.gr.all).2 h4)
theorem aQD{r s:Int}{es:List Ed}(h:IsFol r s es){v:Int}(hv:v≠0)(hb:Bad es v){w a b:LI}(hr:Rd w)(e:w=a++b)(h1:Pa es 0 a v)(h2:Pa es v b 0):False:=by
 rcases hb with hb|hb
 .rcases aBy a with rfl|⟨a',x,rfl⟩
  .cases h1
   exact hv rfl
  cases b with
 |nil=>cases h2;exact hv rfl
 |cons y b'=>
   obtain⟨t,h3,h4⟩:=aIL.1 h1;have h4:=(aDO.1 h4).neg;obtain⟨t',h5,h6⟩:=h2;by_cases hxy:y = -x
   .subst hxy
    exact hr a' b' x (by rw[e];simp)
   have:=Two.deg (es:=es) (v:=v) ⟨y, -x,t',t,hxy,h5,h4⟩;omega
 exact hb ((aLI h.gr.all).2 ⟨a,h1⟩)
theorem aHG{v:Nat}{n:Nat}{x:Int}:x∈but v n↔0<=x/\x<n/\x≠v:=by
 rw[aRR];constructor
 .rintro⟨u,h1,h2,rfl⟩
  omega
 rintro⟨h1,h2,h3⟩;exact⟨x.toNat,oO,oO,oO⟩
theorem aPl{v n:Nat}(hv:1<=v)(hn:v<n):aDn (but v n) 0=0:=by
 refine aIh (aHi v n) (k:=0) ?_;obtain⟨m,rfl⟩:∃ m,n=m+1:=⟨n - 1,oO⟩
 unfold but;have:List.range (m+1)=0::(List.range m).map Nat.succ:=List.range_succ_eq_map;rw[this,List.filter_cons,if_pos (by simp;omega)]
 rfl
theorem aRv{r:Int}{g:Int × List Ed}{v:Nat}(h:IsFol r g.1 g.2)(h1:1<=v)(h2:(v:Int)<g.1):IsFol r (aOe g v).1 (aOe g v).2:=by
 have hs:=h.gr.size;have hl:=aIb v (show v<g.1.toNat by omega);refine aMl h (fun e=>?_) oO;rw[e] at hl;simp at hl;omega
theorem aSY{r:Int}{g:Int × List Ed}{v:Nat}(h:IsFol r g.1 g.2)(h1:1<=v)(h2:(v:Int)<g.1)(hb:Bad g.2 v){w:LI}(hw:LtW w):InS (aOe g v).2 w↔InS g.2 w:=by
 have hz:=aPl h1 (show v<g.1.toNat by omega);have hs:=h.gr.size;unfold InS;constructor
 .intro hp
  obtain⟨u,hu,hi,a0⟩:=aGj (ord:=but v g.1.toNat) (es:=g.2) hp 0 (aHG.2 oO) hz;have:=aEO (aHG.2 oO) hu (hz.trans hi.symm);subst this;exact a0
 intro hp;have:=aGi (ord:=but v g.1.toNat) hp fun a b t e h3=>by
  have ht:=h3.rng h.gr.all oO;refine aHG.2 ⟨ht.1,oO,fun e2=>?_⟩;have h4:Pa g.2 t b 0:=by
   rw[e] at hp;obtain⟨t',h5,h6⟩:=aIL.1 hp
   rwa [h3.det h h5]
  rw[e2] at h3 h4;exact aQD h oO hb (aHO hw) e h3 h4
 rwa [hz] at this
theorem aIB{r:Int}{w:LI}(hw:LtW w):∀(n:Nat) {g:Int × List Ed},IsFol r g.1 g.2->IsFol r (trimA n g).1 (trimA n g).2/\(InS (trimA n g).2 w↔InS g.2 w)
|0,g,h=>⟨h,Iff.rfl⟩
|n+1,g,h=>by
  cases hf:leaf g.1 g.2 with
 |none=>rw[aCt hf];exact⟨h,Iff.rfl⟩
 |some v=>
   rw[aCH hf];obtain⟨h1,h2,h3⟩:=aDj hf;have h4:=aIB hw n (aRv h h1 h2);exact⟨h4.1,h4.2.trans (aSY h h1 h2 h3 hw)⟩
theorem aNW{r:Int}(n:Nat){g:Int × List Ed}(h:IsFol r g.1 g.2):IsFol r (trimA n g).1 (trimA n g).2:=(aIB LtW.nil n h).1
theorem aLv:∀(n:Nat) {g:Int × List Ed},g.1<=n->leaf (trimA n g).1 (trimA n g).2=none
|0,g,h=>by
  cases hf:leaf g.1 g.2 with
 |none=>rw[aCt hf];exact hf
 |some v=>
   obtain⟨h1,h2,h3⟩:=aDj hf;omega
|n+1,g,h=>by
  cases hf:leaf g.1 g.2 with
 |none=>rw[aCt hf];exact hf
 |some v=>
   rw[aCH hf];obtain⟨h1,h2,h3⟩:=aDj hf;exact aLv n (by rw[aJL h2];omega)
theorem aHI{r s:Int}{es:List Ed}(h:IsFol r s es):aDn (aBS r es 0) 0=0:=aIh (aEg h.gr (Int.le_refl _) (by have:=h.gr.size;omega)).2.2.1 (k:=0) (aSa r es 0)
theorem aCV{r:Int}{g:Int × List Ed}(h:IsFol r g.1 g.2):canonG r g=(((aBS r g.2 0).length:Int),aCN (aBS r g.2 0) g.2):=by
 unfold canonG;rw[if_pos h]
theorem aFB{r:Int}{g:Int × List Ed}(h:IsFol r g.1 g.2):IsFol r (canonG r g).1 (canonG r g).2:=by
 rw[aCV h];have hs:=h.gr.size;have hl:=aEg h.gr (v:=0) (Int.le_refl _) oO;exact aMl h (fun e=>by rw[e] at hl;simp at hl) oO
theorem aOl{r:Int}{g:Int × List Ed}(h:IsFol r g.1 g.2){w:LI}:InS (canonG r g).2 w↔InS g.2 w:=by
 have hz:=aHI h;have hs:=h.gr.size;rw[aCV h];unfold InS;constructor
 .intro hp
  obtain⟨u,hu,hi,a0⟩:=aGj (ord:=aBS r g.2 0) (es:=g.2) hp 0 (aFN r g.2 0) hz;have:=aEO (aFN r g.2 0) hu (hz.trans hi.symm);subst this;exact a0
 intro hp;have:=aGi (ord:=aBS r g.2 0) hp fun a b t e h3=>aDG h (Int.le_refl _) oO (aFN r g.2 0) h3
 rwa [hz] at this
theorem aQl{r:Int}{g:Int × List Ed}(h:IsFol r g.1 g.2)(hl:leaf g.1 g.2=none):leaf (canonG r g).1 (canonG r g).2=none:=by
 have hf:=aFB h;refine(aHD hf).2 fun i h1 h2=>?_;rw[aCV h] at h2 |-;have hs:=h.gr.size;have a0:=(aEg h.gr (v:=0) (Int.le_refl _) oO).2.2;obtain⟨k,rfl⟩:=Int.eq_ofNat_of_zero_le (by omega:0<=i);have hk:k<(aBS r g.2 0).length:=by simp only at h2;omega
 have hm:(aBS r g.2 0)[k]∈aBS r g.2 0:=List.getElem_mem hk;have hi:aDn (aBS r g.2 0) ((aBS r g.2 0)[k])=k:=aIh a0.1 (List.getElem?_eq_getElem hk);generalize (aBS r g.2 0)[k]=u at hm hi;have a2:=a0.2 u hm;have a4:u≠0:=fun e=>by
  rw[e,aHI h] at hi;omega
 obtain⟨⟨y,z,t,t',a3,s1,s2⟩,w,hw⟩:=(aHD h).1 hl u oO a2.2;have ht:=aDG h (Int.le_refl _) oO hm (aDO.2 s1);have a1:=aDG h (Int.le_refl _) oO hm (aDO.2 s2);refine⟨⟨y,z,_,_,a3,aFO.2 ⟨u,t,hm,ht,hi,rfl,s1⟩,aFO.2 ⟨u,t',hm,a1,hi,rfl,s2⟩⟩,w,?_⟩;have:=aGi (ord:=aBS r g.2 0) hw fun a b q e h3=>aDG h (Int.le_refl _) oO (aFN r g.2 0) h3;rw[aHI h,hi] at this;exact this
theorem aUA{ord:LI}(hn:ord.Nodup):ord.map (aDn ord)=(List.range ord.length).map fun(k:Nat)=>(k:Int):=by
 refine List.ext_getElem oM fun k h1 h2=>?_;simp only[List.getElem_map,List.getElem_range];exact aIh hn (List.getElem?_eq_getElem (by simpa using h1))
theorem aSf{r:Int}{n:Nat}{es:List Ed}(hg:∀ e∈es,InG r n e)(ha:Asc es):aCN ((List.range n).map fun(k:Nat)=>(k:Int)) es=es:=by
 have hm:∀ v:Int,0<=v->v<n->v∈((List.range n).map fun(k:Nat)=>(k:Int))/\aDn ((List.range n).map fun(k:Nat)=>(k:Int)) v=v:=fun v h1 h2=>by
  have a0:((List.range n).map fun(k:Nat)=>(k:Int)).Nodup:=by
   unfold List.Nodup;rw[List.pairwise_map];exact(List.pairwise_lt_range (n:=n)).imp fun h=>by omega
  obtain⟨k,rfl⟩:=Int.eq_ofNat_of_zero_le h1;have hk:((List.range n).map fun(k:Nat)=>(k:Int))[k]?=some (k:Int):=by
   rw[List.getElem?_map,List.getElem?_range oO]
   rfl
  exact⟨oG hk,aIh a0 hk⟩
 refine aOj (aCI _) ha fun f=>?_;rw[aDM];constructor
 .rintro⟨e,he,h1,h2,rfl⟩
  have hi:=hg e he;simp only[InG] at hi;rw[(hm e.a oO oO).2,(hm e.b oO oO).2];exact he
 intro he;have hi:=hg f he;simp only[InG] at hi;refine⟨f,he,(hm f.a oO oO).1,(hm f.b oO oO).1,?_⟩;rw[(hm f.a oO oO).2,(hm f.b oO oO).2]
theorem aMg(r:Int)(es:List Ed)(v:Int):aBS r es v=(bfs es (aAg r.toNat) v).map Prod.fst:=rfl
theorem aSO{r s:Int}{es:List Ed}(h:IsFol r s es):bfs (aCN (aBS r es 0) es) (aAg r.toNat) 0=(bfs es (aAg r.toNat) 0).map fun p=>(aDn (aBS r es 0) p.1,p.2):=by
 have hs:=h.gr.size;have hz:=aHI h;have a0:=aEg h.gr (v:=0) (Int.le_refl _) oO;have a2:IsFol r (aBS r es 0).length (aCN (aBS r es 0) es):=aMl h (fun e=>by rw[e] at a0;simp at a0) oO;have a1:∀ {u t x:Int},u∈aBS r es 0->Sp es u x t->t∈aBS r es 0:=fun hu hs2=>aDG h (Int.le_refl _) oO hu (aDO.2 hs2);have h0:=aFN r es 0;generalize aBS r es 0=ord at hz a2 a1 h0 |-;have:=aUe (es:=es) (es':=aCN ord es) (L:=aAg r.toNat) (v:=0) (f:=aDn ord) (R:=fun u=>u∈ord) h0
  (fun u hu x hx hn=>a1 hu (aCs hn))
  (fun u hu x hx hn=>by
   apply Classical.byContradiction;intro hc;obtain⟨u',t',a4,a5,e1,e2,a3⟩:=aFO.1 (aCs (by omega:0<=aAr (aCN ord es) (aDn ord u) x));have:=aEO a4 hu e1;subst this;exact aJr hn h.gr.nn _ a3)
  (fun u hu x hx hn=>by
   have ht:=a1 hu (aCs hn);exact⟨aDb a2 (aFO.2 ⟨u,_,hu,ht,rfl,rfl,aCs hn⟩),aHs.2 ht⟩)
  (fun u t hu ht e=>aEO hu ht e)
 rwa [hz] at this
theorem aOH(st:BS)(ord:LI):(st.map fun p=>(aDn ord p.1,p.2)).map Prod.fst=(st.map Prod.fst).map (aDn ord):=by
 rw[List.map_map,List.map_map];exact List.map_congr_left fun p _=>rfl
theorem aNz{r s:Int}{es:List Ed}(h:IsFol r s es):aBS r (aCN (aBS r es 0) es) 0=(List.range (aBS r es 0).length).map fun(k:Nat)=>(k:Int):=by
 have hs:=h.gr.size;have a0:=aEg h.gr (v:=0) (Int.le_refl _) oO;have hb:=aSO h;rw[aMg r (aCN (aBS r es 0) es) 0,hb,aOH,<- aMg r es 0,aUA a0.2.2.1]
theorem aOk{r:Int}{g:Int × List Ed}(h:IsFol r g.1 g.2):canonG r (canonG r g)=canonG r g:=by
 have hf:=aFB h;rw[aCV hf];rw[aCV h] at hf |-;simp only at hf |-;rw[aNz h,aSf hf.gr.all hf.gr.asc];simp
theorem aJQ{r s:Int}{es:List Ed}(h:IsGr r s es):IsFol r (aDg 40 (s,es)).1 (aDg 40 (s,es)).2:=⟨aHr 40 (g:=(s,es)) h,aNg.1 (aNc 40 (g:=(s,es)) h h.size.2)⟩
theorem aLJ{r s:Int}{es:List Ed}(h:IsGr r s es):IsCor r (coreA r (s,es)).1 (coreA r (s,es)).2:=by
 have hf:=aJQ h;have ht:=aNW 40 hf;have hs:=hf.gr.size;have hl:=aLv 40 (g:=aDg 40 (s,es)) oO;unfold coreA;generalize trimA 40 (aDg 40 (s,es))=g at ht hl |-;exact⟨aFB ht,aQl ht hl,aOk ht⟩
theorem aMT{r s:Int}{es:List Ed}(h:IsGr r s es){w:LI}(hw:LtW w):InS (coreA r (s,es)).2 w↔aTF es w:=by
 have hf:=aJQ h;have ht:=aIB hw 40 hf;have h3:=(aPy hf hw).symm.trans (aLe w 40 (g:=(s,es)) h);unfold coreA;generalize aDg 40 (s,es)=g2 at hf ht h3 |-;generalize trimA 40 g2=g at ht |-;exact(aOl ht.1).trans (ht.2.trans h3)
theorem Rd.cons{y:Int}{t:LI}(h:Rd t)(hh:∀ z s,t=z::s->z≠-y):Rd (y::t):=by
 intro c d z e;cases c with
|nil=>
  injection e with e1 e2
  subst e1;exact hh _ _ e2 rfl
|cons q c=>
  injection e with e1 e2
  exact h c d z e2
theorem Rd.join:∀ {a:LI} {x:Int} {b:LI},Rd (a++[x])->Rd (x::b)->Rd (a++x::b)
|[],_,_,_,h=>h
|y::a,x,b,h1,h2=>by
  refine Rd.cons (Rd.join (a:=a) (Rd.right (a:=[y]) h1) h2) fun z s e=>?_;cases a with
 |nil=>
   injection e with e1 e2
   subst e1;intro e3;exact h1 [] [] y (by rw[e3];rfl)
 |cons q a=>
   injection e with e1 e2
   subst e1;intro e3;exact h1 [] (a++[x]) y (by rw[e3];rfl)
theorem aSC{u x v u' x' v':Int}(hx:x≠0)(a0:x'≠0)(h:aBc u x v=aBc u' x' v'):(u=u'/\x=x'/\v=v') \/ (u=v'/\x = -x'/\v=u'):=by
 unfold aBc at h;split at h <;> split at h <;> (injection h with h1 h2 h3;omega)
theorem aMw{es:List Ed}{u x v:Int}:Sp es u x v↔x≠0/\aBc u x v∈es:=by
 unfold Sp aBc;constructor
 .rintro(⟨h1,h2⟩|⟨h1,h2⟩)
  .exact⟨oO,by rw[if_neg oO];exact h2⟩
  exact⟨oO,by rw[if_pos h1];exact h2⟩
 rintro⟨h1,h2⟩;by_cases h:x<0
 .rw[if_pos h] at h2
  exact .inr ⟨h,h2⟩
 rw[if_neg h] at h2;exact .inl ⟨oO,h2⟩
theorem aUC{st:BS}(hn:(st.map Prod.fst).Nodup){p q:Int × LI}(hp:p∈st)(hq:q∈st)(h:p.1=q.1):p=q:=by
 obtain⟨i,hi,rfl⟩:=List.getElem_of_mem hp;obtain⟨j,hj,rfl⟩:=List.getElem_of_mem hq;have a0:=List.pairwise_iff_getElem.1 hn;rcases Nat.lt_trichotomy i j with hl|rfl|hl
 .exact absurd (by rw[List.getElem_map,List.getElem_map];exact h) (a0 i j (by simpa using hi) (by simpa using hj) hl)
 .rfl
 exact absurd (by rw[List.getElem_map,List.getElem_map];exact h.symm) (a0 j i (by simpa using hj) (by simpa using hi) hl)
theorem aSP{r s v:Int}{es:List Ed}{L:LI}(hg:∀ e∈es,InG r s e)(h0:0<=v)(h1:v<s){p q:Int × LI}(hp:p∈bfs es L v)(hq:q∈bfs es L v)(h:p.1=q.1):p=q:=
 aUC (aHh (L:=L) hg h0 h1).nd hp hq h
theorem aJI{es:List Ed}{L:LI}{v:Int}{q:Int × LI}(h:q∈bfs es L v):q=(v,[]) \/ ∃ p∈bfs es L v,∃ x∈L,q=(aAr es p.1 x,p.2++[x])/\0<=aAr es p.1 x/\q∈(bfs es L v).tail:=by
 have hp:=aRl es L v;have h1:=aEs es L v 0 41;rw[Nat.zero_add] at h1;have h2:(bfs es L v)[0]?=some (v,[]):=aCr h1 (by simp[aAn]);generalize bfs es L v=st at h hp h2;cases st with
|nil=>cases h
|cons a t=>
  simp at h2;rcases List.mem_cons.1 h with rfl|h
  .exact .inl h2
  obtain⟨p,a0,x,hx,e,hn⟩:=hp.par q h;exact .inr ⟨p,a0,x,hx,e,hn,h⟩
theorem aVd{r s v:Int}{es:List Ed}{L:LI}(hf:IsFol r s es)(h0:0<=v)(h1:v<s):∀(n:Nat) (q:Int × LI),q∈bfs es L v->q.2.length<=n->Rd q.2:=by
 intro n
 induction n with
|zero=>
  intro q _ hl;have e:q.2=[]:=List.eq_nil_of_length_eq_zero oO;rw[e];exact Rd.nil
|succ n ih=>
  intro q hq hl;rcases aJI hq with rfl|⟨p,hp,x,hx,e,hn, -⟩
  .exact Rd.nil
  have a0:=ih p hp (by rw[e] at hl;simp at hl;omega);have e2:q.2=p.2++[x]:=by rw[e]
  rw[e2];refine a0.snoc fun t a ha hax=>?_;rcases aJI hp with rfl|⟨p',hp',y,hy,e',hn', -⟩
  .simp at ha
  have e3:p.2=p'.2++[y]:=by rw[e']
  obtain⟨rfl,rfl⟩:=aHP (ha.symm.trans e3);have s1:=aCs hn';have s2:=aCs hn;have e4:p.1=aAr es p'.1 a:=by rw[e']
  rw[<- e4] at s1;have s3:=s1.neg;rw[hax,Int.neg_neg] at s3;have e5:q.1=p'.1:=by
   have:q.1=aAr es p.1 x:=by rw[e]
   rw[this];exact hf.det s2 s3
  have e6:=aSP hf.gr.all h0 h1 hq hp' e5;have:q.2=p'.2:=by rw[e6]
  rw[e2,e3] at this;have:=congrArg List.length this;simp at this
theorem aGo{r n:Nat}{es:List Ed}(h:IsCor r n es){v:Nat}(hv:v<n):Pa es 0 (wordV r es v) v:=aTI es (aAg r) 0 _ (aDV h hv)
theorem aQf{r n:Nat}{es:List Ed}(h:IsCor r n es){v:Nat}(hv:v<n):Rd (wordV r es v):=aVd h.fol (Int.le_refl _) oO _ _ (aDV h hv) oN
theorem aIC{r n:Nat}{es:List Ed}(h:IsCor r n es):wordV r es 0=[]:=by
 have h1:=aEs es (aAg r) 0 0 41;rw[Nat.zero_add] at h1;exact aMI h.gr (h1.subset (by simp[aAn]))
theorem aGn{r n:Nat}{es:List Ed}(h:IsCor r n es){v:Nat}(hv:v<n)(h0:v≠0):∃(p:Nat) (x:Int),p<n/\wordV r es v=wordV r es p++[x]/\Sp es p x v/\aBc p x v∈aBG es (bfs es (aAg r) 0):=by
 have hm:=aDV h hv;rcases aJI hm with e|⟨p,hp,x,hx,e,hn,ht⟩
 .injection e with e1 e2
  omega
 have hr:=(aHh (L:=aAg r) h.gr.all (Int.le_refl 0) (by omega:(0:Int)<n)).rng p hp;obtain⟨k,hk⟩:=Int.eq_ofNat_of_zero_le hr.1;injection e with e1 e2
 have a0:=aCs hn;rw[<- e1,hk] at a0;have e3:wordV r es (k:Int)=p.2:=aMI h.gr (by rw[<- hk];exact hp);refine⟨k,x,oO,by rw[e2,e3],a0,?_⟩;unfold aBG;refine List.mem_map.2 ⟨_,ht,?_⟩;rw[e2];have:(v:Int)=aAr es p.1 x:=e1;rw[this,aKZ h.fol hn,hk]
theorem aEB{r:Nat}{es:List Ed}{e:Ed}:e∈extraE r es↔e∈es/\e ∉ aBG es (bfs es (aAg r) 0):=by
 unfold extraE;rw[List.mem_filter];simp
theorem aUz{r n:Nat}{es:List Ed}(h:IsCor r n es){a b:Nat}{l:Int}(he:(⟨a,l,b⟩:Ed)∈extraE r es):Rd (wordV r es a++l::aAE (wordV r es b)):=by
 obtain⟨hm,hx⟩:=aEB.1 he;have hi:=h.gr.all _ hm;simp only[InG] at hi;have hs:Sp es a l b:=aEX hm (by simp only;omega);have hn:a<n/\b<n:=by omega
 have a1:=(aGo h hn.2).lt h.gr;refine Rd.join ?_ ?_
 .refine(aQf h hn.1).snoc fun t y e hy=>hx ?_
  by_cases ha:a=0
  .subst ha
   rw[show((0:Nat):Int)=0 from rfl,aIC h] at e;simp at e
  obtain⟨p,x,hp,ew,a0,ht⟩:=aGn h hn.1 ha;obtain⟨-,rfl⟩:=aHP (ew.symm.trans e);have h3:=a0.neg;rw[hy,Int.neg_neg] at h3;have h4:=h.fol.det hs h3;rw[hy,<- h4] at ht;unfold aBc at ht;rw[if_pos oO,Int.neg_neg] at ht;exact ht
 refine Rd.cons ((aQf h hn.2).inv a1) fun z s e hz=>hx ?_;by_cases hb:b=0
 .subst hb
  rw[show((0:Nat):Int)=0 from rfl,aIC h,aTg] at e;cases e
 obtain⟨p,x,hp,ew,a0,ht⟩:=aGn h hn.2 hb;rw[ew] at e a1;rw[aCz] at e;have e2:aAE [x]=[-x]:=by simp[aAE,(a0.lt3 h.gr).negI]
 rw[e2,List.singleton_append] at e;have e3:-x=z:=(List.cons.inj e).1;have e5:x=l:=by omega
 subst e5;have h4:=Pa.det' h.fol (aDO.2 hs) (aDO.2 a0);rw[<- h4] at ht;unfold aBc at ht;rw[if_neg oO] at ht;exact ht
theorem aJh{r n:Nat}{es:List Ed}(h:IsCor r n es){a b:Nat}{l:Int}(he:(⟨a,l,b⟩:Ed)∈es):Pa es 0 (wordV r es a++l::aAE (wordV r es b)) 0:=by
 have hi:=h.gr.all _ he;simp only[InG] at hi;exact(aGo h oO).app ⟨_,aEX he (by simp only;omega),(aGo h oO).inv h.gr⟩
theorem aPt{r n:Nat}{es:List Ed}(h:IsGr r n es){e:Ed}(he:e∈es):∃(a b:Nat),e=⟨(a:Int),e.l,(b:Int)⟩/\a<n/\b<n/\1<=e.l/\e.l<=r:=by
 have hi:=h.all e he;simp only[InG] at hi;exact⟨e.a.toNat,e.b.toNat,Ed.ext' (by simp only;omega) rfl (by simp only;omega),oO,oO,oO,oO⟩
theorem aMM{r n:Nat}{es:List Ed}(h:IsCor r n es){a b:Nat}{l:Int}(he:(⟨a,l,b⟩:Ed)∈extraE r es):basisW r es ⟨a,l,b⟩=wordV r es a++l::aAE (wordV r es b):=by
 unfold basisW;have:=aJw (aUz h he) ((aJh h (aGc he)).lt h.gr)
 simpa using this
theorem aQi{r n:Nat}{es:List Ed}(h:IsCor r n es){w:LI}(hw:w∈basisG r es):LtW w/\InS es w:=by
 unfold basisG at hw;obtain⟨e,he,rfl⟩:=List.mem_map.1 hw;obtain⟨a,b,e2, -⟩:=aPt h.gr (aGc he);rw[e2] at he |-;rw[aMM h he];exact⟨(aJh h (aGc he)).lt h.gr,InS.mk h.fol (aJh h (aGc he))⟩
theorem aSX{r s:Int}{es:List Ed}(h:IsCor r s es):((aBS r es 0).length:Int)=s/\aBS r es 0=(List.range (aBS r es 0).length).map fun(k:Nat)=>(k:Int):=by
 have hc:=h.canon;rw[aCV (g:=(s,es)) h.fol] at hc;injection hc with h1 h2
 refine⟨h1,?_⟩;have:=aNz h.fol
 rwa [h2] at this
theorem aGm{α:Type}{l:List α}{k:Nat}{x:α}(h:l[k]?=some x):l.take (k+1)=l.take k++[x]:=by
 obtain⟨h1,h2⟩:=List.getElem?_eq_some_iff.1 h;rw[List.take_succ_eq_append_getElem h1,h2]
def aLC(es:List Ed)(w:LI):Prop:=(rdA es 0 w).2=w.length/\(rdA es 0 w).1=0
def Tot(r s:Int)(es:List Ed):Prop:=∀ v,0<=v->v<s->∀ x,x≠0->-r<=x->x<=r->∃ t,Sp es v x t
noncomputable def compG (r s:Int) (es:List Ed):List Ed:=canon (es++addLs s es r.toNat)
theorem aMQ{r s:Int}{es:List Ed}:∀ e∈es,e∈compG r s es:=fun e he=>aAO.2 (List.mem_append_left _ he)
theorem aMb{s:Int}{es:List Ed}{x:Int}{e:Ed}(h:e∈addL s es x):∃(i:Nat) (a b:Int),(freeV es x s.toNat)[i]?=some a/\(freeV es (-x) s.toNat)[i]?=some b/\e=⟨a,x,b⟩:=by
 obtain⟨i,hi⟩:=List.mem_iff_getElem?.1 h;unfold addL at hi;rw[List.getElem?_zipWith] at hi;cases h1:(freeV es x s.toNat)[i]? with
|none=>simp[h1] at hi
|some a=>
  cases h2:(freeV es (-x) s.toNat)[i]? with
 |none=>simp[h1,h2] at hi
 |some b=>
   simp[h1,h2] at hi;exact⟨i,a,b,h1,h2,hi.symm⟩
theorem aFJ{s:Int}{es:List Ed}{n:Nat}{e:Ed}:e∈addLs s es n↔∃ i:Nat,i<n/\e∈addL s es ((i:Int)+1):=by
 unfold addLs;rw[List.mem_flatMap];constructor
 .rintro⟨i,hi,h⟩
  exact⟨i,List.mem_range.1 hi,h⟩
 rintro⟨i,hi,h⟩;exact⟨i,List.mem_range.2 hi,h⟩
theorem aJS(es:List Ed)(x:Int)(n:Nat):(freeV es x n).Nodup:=by
 unfold freeV List.Nodup;rw[List.pairwise_map];exact(List.Pairwise.filter _ (List.nodup_range (n:=n))).imp fun h e=>h oO
theorem aPH{α:Type}{l:List α}(h:l.Nodup){i j:Nat}{a:α}(hi:l[i]?=some a)(hj:l[j]?=some a):i=j:=by
 obtain⟨hi,e1⟩:=List.getElem?_eq_some_iff.1 hi;obtain⟨hj,e2⟩:=List.getElem?_eq_some_iff.1 hj;have hp:=List.pairwise_iff_getElem.1 h;rcases Nat.lt_trichotomy i j with hl|e|hl
 .exact absurd (e1.trans e2.symm) (hp i j hi hj hl)
 .exact e
 exact absurd (e2.trans e1.symm) (hp j i hj hi hl)
theorem aSS{r s:Int}{es:List Ed}(h:IsFol r s es):IsFol r s (compG r s es):=by
 have a0:∀ e∈es,∀ f∈addLs s es r.toNat,¬ Clash e f:=by
  intro e he f hf hc;obtain⟨i,hi,hf⟩:=aFJ.1 hf;obtain⟨j,a,b,h1,h2,rfl⟩:=aMb hf;have ha:=(aFK.1 (oG h1)).2.2;have hb:=(aFK.1 (oG h2)).2.2;have a3:=h.gr.all e he;simp only[InG] at a3;have hs:=aEX he oO;obtain⟨hl,hc⟩:=hc;simp only at hl hc;rcases hc with hc|hc
  .rw[hl,hc] at hs
   exact aJr ha h.gr.nn _ hs
  have h3:=hs.neg;rw[hl,hc] at h3;exact aJr hb h.gr.nn _ h3
 refine IsFol.mk' (aOo h) fun e he f hf hc=>?_;rcases List.mem_append.1 (aAO.1 he) with h1|h1 <;> rcases List.mem_append.1 (aAO.1 hf) with h2|h2
 .exact h.key e h1 f h2 hc
 .exact absurd hc (a0 e h1 f h2)
 .exact absurd hc.symm (a0 f h2 e h1)
 obtain⟨i,hi,h1⟩:=aFJ.1 h1;obtain⟨k,a,b,a1,a2,rfl⟩:=aMb h1;obtain⟨i',hi',h2⟩:=aFJ.1 h2;obtain⟨k',a',b',b1,b2,rfl⟩:=aMb h2;obtain⟨hl,hc⟩:=hc;simp only at hl hc;rw[<- hl] at b1 b2 |-;rcases hc with hc|hc
 .subst hc
  have:=aPH (aJS _ _ _) a1 b1;subst this;rw[a2] at b2;rw[Option.some.inj b2]
 subst hc;have:=aPH (aJS _ _ _) a2 b2;subst this;rw[a1] at b1;rw[Option.some.inj b1]
theorem aST{r s:Int}{es:List Ed}(h:IsFol r s es):Tot r s (compG r s es):=by
 intro v h0 h1 x hx a2 a3;by_cases hn:0<=aAr es v x
 .exact⟨_,(aCs hn).mono aMQ⟩
 have hm:v∈freeV es x s.toNat:=aFK.2 ⟨h0,oO,oO⟩;obtain⟨i,hi⟩:=List.mem_iff_getElem?.1 hm;have a1:=(List.getElem?_eq_some_iff.1 hi).1;rcases Int.lt_or_gt_of_ne hx with hneg|hpos
 .have a0:i<(freeV es (-x) s.toNat).length:=by
   have:=aNh h (x:=-x) oO;rw[Int.neg_neg] at this;omega
  obtain⟨a,b,e1,e2,e3⟩:=aRb h (x:=-x) oO a0;rw[Int.neg_neg,hi] at e2;obtain rfl:=Option.some.inj e2;refine⟨a,.inr ⟨hneg,aAO.2 (List.mem_append_right _ (aFJ.2 ⟨(-x).toNat - 1,oO,?_⟩))⟩⟩;have e4:(((-x).toNat - 1:Nat):Int)+1 = -x:=by omega
  rw[e4];exact oG e3
 obtain⟨a,b,e1,e2,e3⟩:=aRb h hpos a1;rw[hi] at e1;obtain rfl:=Option.some.inj e1;refine⟨b,.inl ⟨hpos,aAO.2 (List.mem_append_right _ (aFJ.2 ⟨x.toNat - 1,oO,?_⟩))⟩⟩;have e4:((x.toNat - 1:Nat):Int)+1=x:=by omega
 rw[e4];exact oG e3
theorem Tot.full{r s:Int}{es:List Ed}(h:Tot r s es)(hf:IsFol r s es):∀ v:Int,0<=v->v<s->∀ x,x≠0->-r<=x->x<=r->0<=aAr es v x:=fun v h0 h1 x hx hx1 hx2=>by
 obtain⟨t,ht⟩:=h v h0 h1 x hx hx1 hx2;rw[aDb hf ht];exact(ht.rng hf.gr.all).2.1.1
section
theorem aTp{es:List Ed}{w:LI}{a b:Int}:Pa (canon es) a w b↔Pa es a w b:=⟨Pa.mono fun e he=>aAO.1 he,Pa.mono fun e he=>aAO.2 he⟩
section
variable {r s:Int} {es:List Ed} {u:Int} {w:LI}
end
end
theorem aRe{es:List Ed}(h:Asc es):es.Nodup:=h.imp fun h=>h.ne
theorem aLc(p:Ed->Bool):∀ l:List Ed,(l.filter p).length+(l.filter fun e=>!p e).length=l.length
|[]=>rfl
|e::t=>by
  have:=aLc p t;cases h:p e <;> simp[List.filter_cons,h] <;> omega
section
theorem aQJ{u S v:Int}{w:LI}(hw:∀ x∈w,x≠0):∀ k,k<=w.length->Pa (aCq u S w v w.length) u (w.take k) (aCd u S w.length v k):=by
 intro k
 induction k with
|zero=>
  intro _
  show u=_
  simp[aCd]
|succ k ih=>
  intro hk;obtain⟨x,hx⟩:∃ x,w[k]?=some x:=⟨_,List.getElem?_eq_getElem oO⟩
  rw[aGm hx];refine(ih oO).snoc (aMw.2 ⟨hw x (oG hx),?_⟩);unfold aCq;refine List.mem_map.2 ⟨k,List.mem_range.2 hk,?_⟩;rw[List.getD_eq_getElem?_getD,hx]
  rfl
theorem aQK{s:Int}{es:List Ed}{w:LI}(hw:∀ x∈w,x≠0)(a0:w≠[]):Pa (canon (es++aCq 0 s w 0 w.length)) 0 w 0:=by
 have h:=aQJ (u:=0) (S:=s) (v:=0) hw w.length oN;have hl:=List.length_pos_iff.2 a0;have e:aCd 0 s w.length 0 w.length=0:=by
  unfold aCd;rw[if_neg oO,if_neg oO]
 rw[List.take_length,e] at h;exact aTp.2 (h.mono fun e he=>List.mem_append_right _ he)
section
variable {r s s':Int} {ea eb:List Ed}
end
end
end Go.Proofs.YtkimajabegojoaaGreat
namespace Go.Proofs
open Go.Shelf
def Tryz.lays215_ren:Go.Shelf.Ren:=⟨fun|215=>296|n=>n,fun|3=>3|4=>4|n=>n,fun|n=>n⟩
theorem Tryz.lays215:Go.Proofs.Lays.n215 Tryz.prog Tryz.lays215_ren:={
 mixed:=by kernel_rfl
 f215:=Tryz.func296.trans (congrArg some (by kernel_rfl))
 t3:=Tryz.underlying3
 a3:=Tryz.isAgg3
 z3:=Tryz.sizeOf3
 v3:=Tryz.zeroValue3
 t4:=Tryz.underlying4
 a4:=Tryz.isAgg4
 z4:=Tryz.sizeOf4
 v4:=Tryz.zeroValue4 }
def Tryz.lays189_ren:Go.Shelf.Ren:=⟨fun|189=>248|125=>251|257=>262|128=>271|129=>272|294=>278|295=>279|296=>280|297=>281|298=>282|299=>283|216=>284|300=>285|301=>286|328=>293|329=>288|330=>289|331=>294|332=>295|215=>296|343=>298|n=>n,fun|28=>44|3=>3|46=>187|0=>0|51=>209|53=>211|4=>4|183=>203|182=>202|131=>127|5=>5|9=>9|218=>221|222=>225|228=>231|229=>165|n=>n,fun|n=>n⟩
theorem Tryz.lays189:Go.Proofs.Lays.n189 Tryz.prog Tryz.lays189_ren:={
 mixed:=by kernel_rfl
 f125:=Tryz.func251.trans (congrArg some (by kernel_rfl))
 f128:=Tryz.func271.trans (congrArg some (by kernel_rfl))
 f129:=Tryz.func272.trans (congrArg some (by kernel_rfl))
 f189:=Tryz.func248.trans (congrArg some (by kernel_rfl))
 f215:=Tryz.func296.trans (congrArg some (by kernel_rfl))
 f216:=Tryz.func284.trans (congrArg some (by kernel_rfl))
 f257:=Tryz.func262.trans (congrArg some (by kernel_rfl))
 f294:=Tryz.func278.trans (congrArg some (by kernel_rfl))
 f295:=Tryz.func279.trans (congrArg some (by kernel_rfl))
 f296:=Tryz.func280.trans (congrArg some (by kernel_rfl))
 f297:=Tryz.func281.trans (congrArg some (by kernel_rfl))
 f298:=Tryz.func282.trans (congrArg some (by kernel_rfl))
 f299:=Tryz.func283.trans (congrArg some (by kernel_rfl))
 f300:=Tryz.func285.trans (congrArg some (by kernel_rfl))
 f301:=Tryz.func286.trans (congrArg some (by kernel_rfl))
 f328:=Tryz.func293.trans (congrArg some (by kernel_rfl))
 f329:=Tryz.func288.trans (congrArg some (by kernel_rfl))
 f330:=Tryz.func289.trans (congrArg some (by kernel_rfl))
 f331:=Tryz.func294.trans (congrArg some (by kernel_rfl))
 f332:=Tryz.func295.trans (congrArg some (by kernel_rfl))
 f343:=Tryz.func298.trans (congrArg some (by kernel_rfl))
 t0:=Tryz.underlying0
 a0:=Tryz.isAgg0
 z0:=Tryz.sizeOf0
 v0:=Tryz.zeroValue0
 t3:=Tryz.underlying3
 a3:=Tryz.isAgg3
 z3:=Tryz.sizeOf3
 v3:=Tryz.zeroValue3
 t4:=Tryz.underlying4
 a4:=Tryz.isAgg4
 z4:=Tryz.sizeOf4
 v4:=Tryz.zeroValue4
 t5:=Tryz.underlying5
 a5:=Tryz.isAgg5
 z5:=Tryz.sizeOf5
 v5:=Tryz.zeroValue5
 t9:=Tryz.underlying9
 a9:=Tryz.isAgg9
 z9:=Tryz.sizeOf9
 v9:=Tryz.zeroValue9
 t28:=Tryz.underlying44
 a28:=Tryz.isAgg44
 z28:=Tryz.sizeOf44
 v28:=Tryz.zeroValue44
 t46:=Tryz.underlying187
 a46:=Tryz.isAgg187
 z46:=Tryz.sizeOf187
 v46:=Tryz.zeroValue187
 t51:=Tryz.underlying209
 a51:=Tryz.isAgg209
 z51:=Tryz.sizeOf209
 v51:=Tryz.zeroValue209
 t53:=Tryz.underlying211
 a53:=Tryz.isAgg211
 z53:=Tryz.sizeOf211
 v53:=Tryz.zeroValue211
 t131:=Tryz.underlying127
 a131:=Tryz.isAgg127
 z131:=Tryz.sizeOf127
 v131:=Tryz.zeroValue127
 t182:=Tryz.underlying202
 a182:=Tryz.isAgg202
 z182:=Tryz.sizeOf202
 v182:=Tryz.zeroValue202
 t183:=Tryz.underlying203
 a183:=Tryz.isAgg203
 z183:=Tryz.sizeOf203
 v183:=Tryz.zeroValue203
 t218:=Tryz.underlying221
 a218:=Tryz.isAgg221
 z218:=Tryz.sizeOf221
 v218:=Tryz.zeroValue221
 t222:=Tryz.underlying225
 a222:=Tryz.isAgg225
 z222:=Tryz.sizeOf225
 v222:=Tryz.zeroValue225
 t228:=Tryz.underlying231
 a228:=Tryz.isAgg231
 z228:=Tryz.sizeOf231
 v228:=Tryz.zeroValue231
 t229:=Tryz.underlying165
 a229:=Tryz.isAgg165
 z229:=Tryz.sizeOf165
 v229:=Tryz.zeroValue165 }
open Go.Sort Go.RowKit in
theorem Tryz.slices_Sort_int(blk off cap:Nat)(zs:List Int)(w:World)(hH:Holds (Value.int .i64) w blk off zs.toArray)(hblk:blk<w.heap.size)(hsz:zs.length<4611686018427387904) :
  Calls Tryz.prog 248 #[.slice (some ⟨blk,off,none⟩) zs.length cap] w fun e w'=>
   e=.returned (.tuple #[])/\∃ n os,w'=grow (putRow (Value.int .i64) (Sort.ahead w n) blk off (zs.mergeSort fun x y=>decide (x<=y)).toArray) os:=Any.slices_Sort_int Tryz.lays189 blk off cap zs w hH hblk hsz
def Tryz.laysNm220_ren:Go.Shelf.Ren:=⟨fun|20=>249|n=>n,fun|22=>44|3=>3|4=>4|0=>0|n=>n,fun|n=>n⟩
theorem Tryz.laysNm220:Go.Proofs.Lays2.n20 Tryz.prog Tryz.laysNm220_ren:={
 mixed:=by kernel_rfl
 f20:=Tryz.func249.trans (congrArg some (by kernel_rfl))
 t0:=Tryz.underlying0
 a0:=Tryz.isAgg0
 z0:=Tryz.sizeOf0
 v0:=Tryz.zeroValue0
 t3:=Tryz.underlying3
 a3:=Tryz.isAgg3
 z3:=Tryz.sizeOf3
 v3:=Tryz.zeroValue3
 t4:=Tryz.underlying4
 a4:=Tryz.isAgg4
 z4:=Tryz.sizeOf4
 v4:=Tryz.zeroValue4
 t22:=Tryz.underlying44
 a22:=Tryz.isAgg44
 z22:=Tryz.sizeOf44
 v22:=Tryz.zeroValue44
 i3:=by kernel_rfl }
open Go.RowKit Go.Lib Go.Sort in
theorem Tryz.slices_Compact_int_arr(blk off cap:Nat)(d:Array Int)(w:World)(hH:Holds encI w blk off d)(hsz:d.size<=9223372036854775807)(hcap:d.size<=cap) :
  Calls Tryz.prog 249 #[.slice (some ⟨blk,off,none⟩) d.size cap] w fun e w'=>e=.returned (.slice (some ⟨blk,off,none⟩) (compactUpTo d d.size).length cap)/\∃ q,w'=putRow encI (Sort.ahead w q) blk off (compactUpTo d d.size++List.replicate (d.size - (compactUpTo d d.size).length) 0).toArray:=Any.slices_Compact_int_arr Tryz.laysNm220 blk off cap d w hH hsz hcap
open Go.RowKit Go.Lib Go.Sort in
theorem Tryz.slices_Compact_int(blk off cap:Nat)(zs:List Int)(w:World)(hH:Holds (Value.int .i64) w blk off zs.toArray)(hsz:zs.length<=9223372036854775807)(hcap:zs.length<=cap) :
  Calls Tryz.prog 249 #[.slice (some ⟨blk,off,none⟩) zs.length cap] w fun e w'=>e=.returned (.slice (some ⟨blk,off,none⟩) (Lib.compact zs).length cap)/\∃ q,w'=putRow (Value.int .i64) (Sort.ahead w q) blk off (Lib.compact zs++List.replicate (zs.length - (Lib.compact zs).length) 0).toArray:=Any.slices_Compact_int Tryz.laysNm220 blk off cap zs w hH hsz hcap
open Go.RowKit Go.Lib Go.Sort in
theorem Tryz.slices_Compact_int_empty(a:Option Addr)(cap:Nat)(w:World) :
  Calls Tryz.prog 249 #[.slice a 0 cap] w fun e w'=>e=.returned (.slice a 0 cap)/\w'=w:=Any.slices_Compact_int_empty Tryz.laysNm220 a cap w
open Go.RowKit Go.Lib Go.Sort in
theorem Tryz.slices_Compact_int_cells(b off n c:Nat)(zs:List Int)(w:World)(hz:n<=zs.length)(hbig:n<=9223372036854775807)(hcap:n<=c)(hc:∀ j,j<zs.length->w.cell? ⟨b,off+j,none⟩=some (.int .i64 (zs.getD j 0)))(hf:∀ j,j<n->w.frozen? ⟨b,off+j,none⟩=false) :
  Calls Tryz.prog 249 #[.slice (some ⟨b,off,none⟩) n c] w fun e w'=>e=.returned (.slice (some ⟨b,off,none⟩) (Lib.compact (zs.take n)).length c)/\∃ q,w'=(w.drewN q).setCells b off ((Lib.compact (zs.take n)++List.replicate (n - (Lib.compact (zs.take n)).length) 0).map (Value.int .i64)):=Any.slices_Compact_int_cells Tryz.laysNm220 b off n c zs w hz hbig hcap hc hf
open Go.RowKit Go.Sort in
theorem Tryz.slices_Sort_int_none(p:Option Addr)(cap:Nat)(w:World) :
  Calls Tryz.prog 248 #[.slice p 0 cap] w fun e w'=>e=.returned (.tuple #[])/\w'=w:=Any.slices_Sort_int_none Tryz.lays189 p cap w
end Go.Proofs
namespace Go.Proofs.YtkimajabegojoaaGreat
set_option linter.unusedVariables false
set_option linter.unusedSimpArgs false
set_option maxHeartbeats 40000000
set_option maxRecDepth 100000
open Go.RowKit
section
open Go.RowKit Go.Sort
theorem aUJ{w:World}{g n:Nat}{d:Array Int}{os:Array Obj}:w.grownBy (grow (putRow (Value.int .i64) (Sort.ahead w n) g 0 d) os) (some g):=by
 refine⟨rfl,rfl,rfl,by simp,fun k hk hne=>?_⟩;rw[heap_grow_old _ _ (by simpa using hk)];have:g≠k:=fun e=>hne (by rw[e]);simp[putRow,mapBlock,Sort.ahead,Array.getElem?_modify,this]
theorem aSc{w:World}{base:Nat}{e:TypeId}{size:Nat}{v:Value}{n:Nat}{xs:List Value}(h:w.ownsRow base e size v n xs)(os:Array Obj):(grow w os).ownsRow base e size v n xs:=by
 refine⟨h.1,?_⟩;rcases h.2 with hn|⟨g,cap,cur,rfl,hb,hh,rest⟩
 .exact .inl hn
 refine .inr ⟨g,cap,cur,rfl,hb,?_,rest⟩;rw[heap_grow_old _ _ (Array.getElem?_eq_some_iff.1 hh).1];exact hh
abbrev aVa(w:World)(lo hi:Nat)(A:OA)(c:Nat)(ys:LI)(e:Ending)(w':World):Prop:=
 e=.returned (.tuple #[])/\w'.ownsRow lo 3 1 (.slice A ys.length c) ys.length (aAe ys)/\w.grownBy w' (Value.ownBlock (.slice A ys.length c))
theorem aVL(A:OA)(xs:LI)(c:Nat)(w:World)(lo:Nat)(ho:w.ownsRow lo 3 1 (.slice A xs.length c) xs.length (aAe xs))(hl:xs.length<=1048576) :
  Calls Tryz.prog 248 #[.slice A xs.length c] w (aVa w lo 0 A c (xs.mergeSort fun x y=>decide (x<=y))):=by
 by_cases hv:Value.slice A xs.length c=.slice none 0 0
 .injection hv with h1 h2 h3
  obtain rfl:=List.eq_nil_of_length_eq_zero h2;subst h1 h3;exact(Tryz.slices_Sort_int_none none 0 w).mono fun e w' ⟨he,hw⟩=>by
   refine⟨he,?_⟩
   first
   |(subst hw;exact⟨by simpa using ho,World.grownBy.refl _ _⟩)
   |(obtain⟨n,rfl⟩:=hw;exact⟨by simpa using ho,World.grownBy.refl _ _⟩)
 obtain⟨g,cap,he,hb,hg,hn,hm,hz,hH⟩:=Lib.holds_of_ownsRow (enc:=Value.int .i64) (zs:=xs) ho hv;injection he with h1 _ h3
 subst h1 h3;refine(Tryz.slices_Sort_int g 0 c xs w hH hg oO).mono ?_;rintro e w' ⟨he,n,os,rfl⟩;have a0:(xs.mergeSort fun x y=>decide (x<=y)).length=xs.length:=List.length_mergeSort _;have h2:=Lib.ownsRow_putRow (enc:=Value.int .i64) (q:=n) (k:=xs.length) (ys:=xs.mergeSort fun x y=>decide (x<=y)) ho a0 oN;rw[List.take_of_length_le oO] at h2;refine⟨he,?_,?_⟩
 .rw[a0]
  exact aSc h2 os
 rw[a0];exact aUJ
end
end Go.Proofs.YtkimajabegojoaaGreat
namespace Go.Proofs
open Go.Shelf
def Tryz.sortEd_ren:Go.Shelf.Ren:=⟨fun|6=>203|15=>251|14=>250|28=>271|29=>272|20=>263|21=>264|22=>265|23=>266|24=>267|25=>268|26=>269|27=>270|46=>287|47=>288|48=>289|49=>290|50=>291|57=>297|n=>n,fun|22=>33|24=>110|25=>168|3=>3|39=>187|0=>0|53=>209|55=>211|4=>4|46=>203|45=>202|50=>127|5=>5|9=>9|66=>221|70=>225|76=>231|77=>165|n=>n,fun|n=>n⟩
theorem Tryz.sortEd:Go.Proofs.SlLaysF0.n6 Tryz.prog Tryz.sortEd_ren:={
 mixed:=by kernel_rfl
 f6:=⟨Tryz.f203.name,by decide,Tryz.func203.trans (congrArg some (by kernel_rfl))⟩
 f14:=⟨Tryz.f250.name,by decide,Tryz.func250.trans (congrArg some (by kernel_rfl))⟩
 f15:=Tryz.func251.trans (congrArg some (by kernel_rfl))
 f20:=⟨Tryz.f263.name,by decide,Tryz.func263.trans (congrArg some (by kernel_rfl))⟩
 f21:=⟨Tryz.f264.name,by decide,Tryz.func264.trans (congrArg some (by kernel_rfl))⟩
 f22:=⟨Tryz.f265.name,by decide,Tryz.func265.trans (congrArg some (by kernel_rfl))⟩
 f23:=⟨Tryz.f266.name,by decide,Tryz.func266.trans (congrArg some (by kernel_rfl))⟩
 f24:=⟨Tryz.f267.name,by decide,Tryz.func267.trans (congrArg some (by kernel_rfl))⟩
 f25:=⟨Tryz.f268.name,by decide,Tryz.func268.trans (congrArg some (by kernel_rfl))⟩
 f26:=⟨Tryz.f269.name,by decide,Tryz.func269.trans (congrArg some (by kernel_rfl))⟩
 f27:=⟨Tryz.f270.name,by decide,Tryz.func270.trans (congrArg some (by kernel_rfl))⟩
 f28:=Tryz.func271.trans (congrArg some (by kernel_rfl))
 f29:=Tryz.func272.trans (congrArg some (by kernel_rfl))
 f46:=⟨Tryz.f287.name,by decide,Tryz.func287.trans (congrArg some (by kernel_rfl))⟩
 f47:=Tryz.func288.trans (congrArg some (by kernel_rfl))
 f48:=Tryz.func289.trans (congrArg some (by kernel_rfl))
 f49:=⟨Tryz.f290.name,by decide,Tryz.func290.trans (congrArg some (by kernel_rfl))⟩
 f50:=⟨Tryz.f291.name,by decide,Tryz.func291.trans (congrArg some (by kernel_rfl))⟩
 f57:=⟨Tryz.f297.name,by decide,Tryz.func297.trans (congrArg some (by kernel_rfl))⟩
 t0:=Tryz.underlying0
 a0:=Tryz.isAgg0
 z0:=Tryz.sizeOf0
 v0:=Tryz.zeroValue0
 t3:=Tryz.underlying3
 a3:=Tryz.isAgg3
 z3:=Tryz.sizeOf3
 v3:=Tryz.zeroValue3
 t4:=Tryz.underlying4
 a4:=Tryz.isAgg4
 z4:=Tryz.sizeOf4
 v4:=Tryz.zeroValue4
 t5:=Tryz.underlying5
 a5:=Tryz.isAgg5
 z5:=Tryz.sizeOf5
 v5:=Tryz.zeroValue5
 t9:=Tryz.underlying9
 a9:=Tryz.isAgg9
 z9:=Tryz.sizeOf9
 v9:=Tryz.zeroValue9
 t22:=Tryz.underlying33
 a22:=Tryz.isAgg33
 z22:=Tryz.sizeOf33
 v22:=Tryz.zeroValue33
 t25:=Tryz.underlying168
 a25:=Tryz.isAgg168
 z25:=Tryz.sizeOf168
 v25:=Tryz.zeroValue168
 t39:=Tryz.underlying187
 a39:=Tryz.isAgg187
 z39:=Tryz.sizeOf187
 v39:=Tryz.zeroValue187
 t45:=Tryz.underlying202
 a45:=Tryz.isAgg202
 z45:=Tryz.sizeOf202
 v45:=Tryz.zeroValue202
 t46:=Tryz.underlying203
 a46:=Tryz.isAgg203
 z46:=Tryz.sizeOf203
 v46:=Tryz.zeroValue203
 t50:=Tryz.underlying127
 a50:=Tryz.isAgg127
 z50:=Tryz.sizeOf127
 v50:=Tryz.zeroValue127
 t53:=Tryz.underlying209
 a53:=Tryz.isAgg209
 z53:=Tryz.sizeOf209
 v53:=Tryz.zeroValue209
 t55:=Tryz.underlying211
 a55:=Tryz.isAgg211
 z55:=Tryz.sizeOf211
 v55:=Tryz.zeroValue211
 t66:=Tryz.underlying221
 a66:=Tryz.isAgg221
 z66:=Tryz.sizeOf221
 v66:=Tryz.zeroValue221
 t70:=Tryz.underlying225
 a70:=Tryz.isAgg225
 z70:=Tryz.sizeOf225
 v70:=Tryz.zeroValue225
 t76:=Tryz.underlying231
 a76:=Tryz.isAgg231
 z76:=Tryz.sizeOf231
 v76:=Tryz.zeroValue231
 t77:=Tryz.underlying165
 a77:=Tryz.isAgg165
 z77:=Tryz.sizeOf165
 v77:=Tryz.zeroValue165 }
def Tryz.indexEd_ren:Go.Shelf.Ren:=⟨fun|6=>261|n=>n,fun|22=>33|24=>110|3=>3|0=>0|4=>4|n=>n,fun|n=>n⟩
theorem Tryz.indexEd:Go.Proofs.SlLaysQ.n6 Tryz.prog Tryz.indexEd_ren:={
 mixed:=by kernel_rfl
 f6:=⟨Tryz.f261.name,by decide,Tryz.func261.trans (congrArg some (by kernel_rfl))⟩
 t0:=Tryz.underlying0
 a0:=Tryz.isAgg0
 z0:=Tryz.sizeOf0
 v0:=Tryz.zeroValue0
 t3:=Tryz.underlying3
 a3:=Tryz.isAgg3
 z3:=Tryz.sizeOf3
 v3:=Tryz.zeroValue3
 t4:=Tryz.underlying4
 a4:=Tryz.isAgg4
 z4:=Tryz.sizeOf4
 v4:=Tryz.zeroValue4
 t22:=Tryz.underlying33
 a22:=Tryz.isAgg33
 z22:=Tryz.sizeOf33
 v22:=Tryz.zeroValue33 }
def Tryz.containsEd_ren:Go.Shelf.Ren:=⟨fun|7=>245|6=>261|n=>n,fun|22=>33|24=>110|4=>4|0=>0|3=>3|n=>n,fun|n=>n⟩
theorem Tryz.containsEd:Go.Proofs.SlLaysQ.n7 Tryz.prog Tryz.containsEd_ren:={
 mixed:=by kernel_rfl
 f6:=⟨Tryz.f261.name,by decide,Tryz.func261.trans (congrArg some (by kernel_rfl))⟩
 f7:=⟨Tryz.f245.name,by decide,Tryz.func245.trans (congrArg some (by kernel_rfl))⟩
 t0:=Tryz.underlying0
 a0:=Tryz.isAgg0
 z0:=Tryz.sizeOf0
 v0:=Tryz.zeroValue0
 t3:=Tryz.underlying3
 a3:=Tryz.isAgg3
 z3:=Tryz.sizeOf3
 v3:=Tryz.zeroValue3
 t4:=Tryz.underlying4
 a4:=Tryz.isAgg4
 z4:=Tryz.sizeOf4
 v4:=Tryz.zeroValue4
 t22:=Tryz.underlying33
 a22:=Tryz.isAgg33
 z22:=Tryz.sizeOf33
 v22:=Tryz.zeroValue33 }
def Tryz.equalEd_ren:Go.Shelf.Ren:=⟨fun|8=>236|n=>n,fun|22=>33|24=>110|4=>4|3=>3|0=>0|n=>n,fun|n=>n⟩
theorem Tryz.equalEd:Go.Proofs.SlLaysQ.n8 Tryz.prog Tryz.equalEd_ren:={
 mixed:=by kernel_rfl
 f8:=⟨Tryz.f236.name,by decide,Tryz.func236.trans (congrArg some (by kernel_rfl))⟩
 t0:=Tryz.underlying0
 a0:=Tryz.isAgg0
 z0:=Tryz.sizeOf0
 v0:=Tryz.zeroValue0
 t3:=Tryz.underlying3
 a3:=Tryz.isAgg3
 z3:=Tryz.sizeOf3
 v3:=Tryz.zeroValue3
 t4:=Tryz.underlying4
 a4:=Tryz.isAgg4
 z4:=Tryz.sizeOf4
 v4:=Tryz.zeroValue4
 t22:=Tryz.underlying33
 a22:=Tryz.isAgg33
 z22:=Tryz.sizeOf33
 v22:=Tryz.zeroValue33 }
end Go.Proofs
namespace Go.Proofs.YtkimajabegojoaaGreat
set_option linter.unusedVariables false
set_option linter.unusedSimpArgs false
set_option maxHeartbeats 40000000
set_option maxRecDepth 100000
open Go.RowKit
section
open Go.RowKit
theorem aAa{w w':World}{lo hi b i:Nat}{u:Value}(m:Mid lo hi w w')(hb:b<w.heap.size)(hd:b<lo \/ hi<=b)(hc:w.cell? ⟨b,i,none⟩=some u):w'.cell? ⟨b,i,none⟩=some u:=
 (World.cell?_of_block (m.block b hb oO)).trans hc
section
variable {P:Program} {w:World}
theorem aUN(base:Nat)(t ty e:TypeId)(z:Value)(size bytes:Nat)(ht:P.underlying t=some (.slice e))(a4:(P.info? e).map (fun i=>(i.zero,i.size,i.bytes))=some (some z,size,bytes))(aA:z.cells.size=size)(a7:0<size)(v:Value)(n:Nat)(xs:List Value)(a2:w.ownsRow base e size v n xs)(A:OA)(m c B:Nat)(news:List Value)(hr:Rs w B A news)(hl:news.length=m * size)(h1:∀ u∈news,u.oneCell'=true)(a8:n+m<=maxLen)(a0:(n+m) * bytes<=140737488355328)(a3:base<=w.heap.size) :
  ∃ v' w',(Builtin.append_ #[t,t] ty #[v,.slice A m c]).run P w=.ok v' w'/\w'.ownsRow base e size v' (n+m) (xs++news)/\w.grownBy w' v.ownBlock /\
   (v'.ownBlock=v.ownBlock \/ v'.ownBlock=some w):=by
 obtain⟨i,hi,hz,a5,a9⟩:=info_parts a4;rcases A with _|ad
 .have hn:news=[]:=by
   cases hne:news with
  |nil=>rfl
  |cons u r=>
    obtain⟨b,aB,he,_⟩:=hr (by rw[hne];simp);cases he
  subst hn;have hm:m=0:=by
   rcases Nat.eq_zero_or_pos m with h0|h0
   .exact h0
   have:=Nat.mul_pos h0 a7;simp at hl;omega
  subst hm;exact⟨v,w,aFQ base t ty e i size ht hi v n xs a2 c,by simpa using a2,World.grownBy.refl w _,.inl rfl⟩
 have a1:∀ j u,news[j]?=some u->w.cell? (ad.add j)=some u:=by
  intro j u hu;obtain⟨b,aB,he,_,hc⟩:=hr (by intro h0;subst h0;simp at hu);injection he with he
  subst he;rw[Addr.add_lit];exact hc j u hu
 obtain⟨v',w',a6,h2,h3,_,h5⟩:=run_append_own_at (P:=P) w base t ty e i z size bytes ht hi hz a5 a9 aA a7 v n xs a2 ad m c news hl a1 h1 a8 a0 a3;exact⟨v',w',a6,h2,h3,h5⟩
theorem aVz{o:Oper}{a:Act}{K:Act->World->Prop}{Q:Exit->Act->World->Prop}(s x:Operand)(t:TypeId)(ho:o.op=.call { callee:=.builtin .append,args:=#[s,x],argTypes:=#[t,t] })(base:Nat)(e:TypeId)(z:Value)(size bytes:Nat)(ht:P.underlying t=some (.slice e))(hinfo:(P.info? e).map (fun i=>(i.zero,i.size,i.bytes))=some (some z,size,bytes))(hzs:z.cells.size=size)(hsz:0<size)(v:Value)(n:Nat)(xs:List Value)(hs:a.eval s=v)(hown:w.ownsRow base e size v n xs)(A:OA)(m c B:Nat)(news:List Value)(hx:a.eval x=.slice A m c)(hr:Rs w B A news)(hl:news.length=m * size)(h1:∀ u∈news,u.oneCell'=true)(h63:n+m<=maxLen)(hbytes:(n+m) * bytes<=140737488355328)(hbase:base<=w.heap.size)(h:∀ v' w',w'.ownsRow base e size v' (n+m) (xs++news)->w.grownBy w' v.ownBlock->(v'.ownBlock=v.ownBlock \/ v'.ownBlock=some w.heap.size)->K (a.put o.dst v') w'):o.wp P a w K Q:=by
 obtain⟨v',w',a0,h2,h3,h4⟩:=aUN (P:=P) base t o.type e z size bytes ht hinfo hzs hsz v n xs hown A m c B news hr hl h1 h63 hbytes hbase;unfold Oper.wp execOp;simp only[ho,resolve,invoke,builtin,Sem.run_bind,Sem.run_pure,Result.andThen_ok,List.map_toArray,List.map_cons,List.map_nil,hs,hx,a0];exact h v' w' h2 h3 h4
theorem aAV{ops:Array Oper}{o:Oper}{a:Act}{K:Act->World->Prop}{Q:Exit->Act->World->Prop}{E:Prop}(a0:o.guard=none)(s x:Operand)(t:TypeId)(ho:o.op=.call { callee:=.builtin .append,args:=#[s,x],argTypes:=#[t,t] })(base:Nat)(e:TypeId)(z:Value)(size bytes:Nat)(ht:P.underlying t=some (.slice e))(hinfo:(P.info? e).map (fun i=>(i.zero,i.size,i.bytes))=some (some z,size,bytes))(hzs:z.cells.size=size)(hsz:0<size)(v:Value)(n:Nat)(xs:List Value)(hs:a.eval s=v)(hown:w.ownsRow base e size v n xs)(A:OA)(m c B:Nat)(news:List Value)(hx:a.eval x=.slice A m c)(hr:Rs w B A news)(hl:news.length=m * size)(h1:∀ u∈news,u.oneCell'=true)(h63:n+m<=maxLen)(hbytes:(n+m) * bytes<=140737488355328)(hbase:base<=w.heap.size)(h:∀ v' w',w'.ownsRow base e size v' (n+m) (xs++news)->w.grownBy w' v.ownBlock->(v'.ownBlock=v.ownBlock \/ v'.ownBlock=some w.heap.size)->K (a.put o.dst v') w') :
  if Region.wanted o (yielded ops a.tmps)=true then Oper.wp P o a w K Q else E:=by
 have hw:Region.wanted o (yielded ops a.tmps)=true:=by simp[Region.wanted,a0]
 rw[if_pos hw];exact aVz s x t ho base e z size bytes ht hinfo hzs hsz v n xs hs hown A m c B news hx hr hl h1 h63 hbytes hbase h
end
end
def wg(w:World)(m:Nat)(os:Array Obj):World:={ w with heap:=w.heap++os,drawn:=m }
structure GB where
 n:Nat
 os:Array Obj
 deriving Inhabited
theorem Mid.ofWg(w:World)(m:Nat)(os:Array Obj):Mid 0 0 w (wg w m os):=
 ⟨rfl,rfl,rfl,by simp[wg],fun k hk _=>by simp[wg,Array.getElem?_append,hk]⟩
theorem Mid.toWg{w w':World}(h:Mid 0 0 w w'):∃ p:GB,w'=wg w p.n p.os:=by
 refine⟨⟨w'.drawn,w'.heap.extract w w'⟩,?_⟩;have hh:w'.heap=w.heap++w'.heap.extract w w'.heap.size:=by
  apply Array.ext_getElem?;intro k;by_cases hk:k<w.heap.size
  .rw[Array.getElem?_append_left hk]
   exact h.block k hk oO
  rw[Array.getElem?_append_right oO,Array.getElem?_extract];have hs:=h.size;by_cases hk2:k<w'.heap.size
  .rw[if_pos oO,show w.heap.size+(k - w.heap.size)=k by omega]
  rw[if_neg oO,Array.getElem?_eq_none oO]
 have h1:=h.os;have h2:=h.tape;have h3:=h.output;cases w'
 cases w
 simp only[wg] at *;subst h1 h2 h3
 congr 1
theorem aAf{w:World}{a:Addr}{v:Value}(hb:a.block<w.heap.size)(h:w.cell? a=some v)(n:Nat)(os:Array Obj):(wg w n os).cell? a=some v:=
 (World.cell?_of_block ((Mid.ofWg w n os).block a.block hb oO)).trans h
theorem aSG(w:World)(n:Nat)(os:Array Obj):(wg w n os).heap.size=w.heap.size+os.size:=by simp[wg]
theorem aHY{P:Program}{id:Nat}{Q:Exit->Act->World->Prop}{a:Act}{w:World}{l:List Oper}(hm:P.follows .mixedOrders=true)(hB:Region.lexB .any l.toArray=true)(h:wpQuiet P l.toArray (fun w'=>∃ p:GB,w'=wg w p.n p.os) (fun a'=>∀ w',(∃ p:GB,w'=wg w p.n p.os)->Q .normal a' w') l a):(Code.region id l.toArray true).wp P Q a w:=
 wp_region_quiet (C:=fun w'=>∃ p:GB,w'=wg w p.n p.os) hm hB (Mid.drew1 w).toWg (by simpa using h)
theorem Calls.wg_of{P:Program}{f:FuncId}{args:Array Value}{w:World}{n:Nat}{os:Array Obj}{v:Value}(h:Calls P f args (wg w n os) fun e w'=>e=.returned v/\Mid 0 0 (wg w n os) w'):Calls P f args (wg w n os) fun e w''=>e=.returned v/\∃ p:GB,w''=wg w p.n p.os:=
 h.mono fun _ _ ⟨he,hm⟩=>⟨he,((Mid.ofWg w n os).trans hm).toWg⟩
theorem Calls.wg_same{P:Program}{f:FuncId}{args:Array Value}{w:World}{n:Nat}{os:Array Obj}{v:Value}(h:Calls P f args (wg w n os) fun e w'=>e=.returned v/\wg w n os=w'):Calls P f args (wg w n os) fun e w''=>e=.returned v/\∃ p:GB,w''=wg w p.n p.os:=
 h.mono fun _ _ ⟨he,hm⟩=>⟨he,⟨n,os⟩,hm.symm⟩
theorem wqg{P:Program}{id:Nat}{Q:Exit->Act->World->Prop}{a:Act}{w:World}{l:List Oper}(h:wpQuiet P l.toArray (fun w'=>∃ p:GB,w'=wg w p.n p.os) (fun a'=>∀ w',(∃ p:GB,w'=wg w p.n p.os)->Q .normal a' w') l a)(hm:P.follows .mixedOrders=true:=by kernel_rfl)(hB:Region.lexB .any l.toArray=true:=by kernel_rfl):(Code.region id l.toArray true).wp P Q a w:=aHY hm hB h
abbrev Ed.v(e:Ed):Value:=.agg #[.int .i64 e.a,.int .i64 e.l,.int .i64 e.b]
def edB(r s:Int)(e:Ed):Bool:=inB e.a 0 (wrap64 (s - 1)) && inB e.b 0 (wrap64 (s - 1)) && inB e.l 1 r
theorem RV.ed{w:World}{lo hi:Nat}{A:OA}{es:List Ed}{k:Nat}(h:RV w lo hi A (aAe (edI es)))(hk:k<es.length) :
  ∃ b a0 e,A=some ⟨b,a0,none⟩/\lo<=b/\b<hi/\es[k]?=some e/\w.cell? ⟨b,a0+k * 3,none⟩=some (.int .i64 e.a)/\w.cell? ⟨b,a0+k * 3+1,none⟩=some (.int .i64 e.l)/\w.cell? ⟨b,a0+k * 3+2,none⟩=some (.int .i64 e.b):=by
 obtain⟨e,he⟩:=aAy es hk;obtain⟨g0,g1,g2⟩:=aRx he;obtain⟨b,a0,hA,h1,h2,hc⟩:=h.2 (by intro h0;have:=congrArg List.length h0;rw[aAB,aEm] at this;simp at this;omega);exact⟨b,a0,e,hA,h1,h2,he,hc (k * 3) _ (by rw[aAP,g0];rfl),hc (k * 3+1) _ (by rw[aAP,g1];rfl),hc (k * 3+2) _ (by rw[aAP,g2];rfl)⟩
theorem aEQ(r s:Int)(A:OA)(n c:Nat)(x:Int)(w:World)(b:Bool)(hb:inB x 0 (wrap64 (s - 1))=b) :
  Calls Tryz.prog 133 #[.agg #[r,s,.slice A n c],x] w fun e w'=>e=.returned (.bool b)/\Mid 0 0 w w':=by
 subst hb;go_enter Tryz.func133,Tryz.ntmps133
 go_wp2_with fail;with_reducible refine(aAu _ _ _ _).mono ?_
 rintro e w' ⟨rfl,rfl⟩;go_wp2_with fail;go_ret;exact⟨rfl,oE _ _⟩
theorem aIJ(r s:Int)(A:OA)(n c:Nat)(e:Ed)(w:World) :
  Calls Tryz.prog 215 #[.agg #[r,s,.slice A n c],e.v] w fun en w'=>en=.returned (.bool (edB r s e))/\Mid 0 0 w w':=by
 obtain⟨a,l,b⟩:=e;have a5:Mid 0 0 w ((w.alloc (.cells #[r,s,.slice A n c] 35)).alloc (.cells #[a,l,b] 110)):=(oE _ _).trans (oE _ _);have B0:=(oJ w #[r,s,.slice A n c] 35).mid (oE _ (.cells #[a,l,b] 110)) oZr;have B1:=oJ (w.alloc (.cells #[r,s,.slice A n c] 35)) #[a,l,b] 110;cases h1:inB a 0 (wrap64 (s - 1)) with
|false=>
  have hv:edB r s ⟨a,l,b⟩=false:=by simp[edB,h1]
  rw[hv];clear hv B0 B1;go_enter Tryz.func215,Tryz.ntmps215
  go_wp2_with fail;with_reducible refine(aEQ _ _ _ _ _ _ _ _ h1).mono ?_
  rintro en w1 ⟨rfl,a0⟩;go_wp2_with fail;go_ret;exact⟨rfl,a5.trans a0⟩
|true=>
  cases h2:inB b 0 (wrap64 (s - 1)) with
 |false=>
   have hv:edB r s ⟨a,l,b⟩=false:=by simp[edB,h2]
   rw[hv];clear hv;go_enter Tryz.func215,Tryz.ntmps215
   go_wp2_with fail;with_reducible refine(aEQ _ _ _ _ _ _ _ _ h1).mono ?_
   rintro en w1 ⟨rfl,a0⟩;have C0:=B0.mid a0 oZr;have C1:=B1.mid a0 oZr;obtain⟨a6,a7,a8⟩:=C0.c3 rfl;obtain⟨a2,a3,a4⟩:=C1.c3 rfl;simp only[World.size_alloc] at a2 a3 a4;go_wp2_with fail;with_reducible refine(aEQ _ _ _ _ _ _ _ _ h2).mono ?_
   rintro en w2 ⟨rfl,a1⟩;go_wp2_with fail;go_ret;exact⟨rfl,(a5.trans a0).trans a1⟩
 |true=>
   have hv:edB r s ⟨a,l,b⟩=inB l 1 r:=by simp[edB,h1,h2]
   rw[hv];clear hv;go_enter Tryz.func215,Tryz.ntmps215
   go_wp2_with fail;with_reducible refine(aEQ _ _ _ _ _ _ _ _ h1).mono ?_
   rintro en w1 ⟨rfl,a0⟩;have C0:=B0.mid a0 oZr;have C1:=B1.mid a0 oZr;obtain⟨a6,a7,a8⟩:=C0.c3 rfl;obtain⟨a2,a3,a4⟩:=C1.c3 rfl;simp only[World.size_alloc] at a2 a3 a4;go_wp2_with fail;with_reducible refine(aEQ _ _ _ _ _ _ _ _ h2).mono ?_
   rintro en w2 ⟨rfl,a1⟩;have D0:=C0.mid a1 oZr;have D1:=C1.mid a1 oZr;have aA:=D0.cell 0 rfl;have a9:=D1.cell 1 rfl;simp only[World.size_alloc] at a9;go_wp2_with fail;with_reducible refine(aAu _ _ _ _).mono ?_
   rintro en w3 ⟨rfl,rfl⟩;go_wp2_with fail;go_ret;exact⟨rfl,(a5.trans a0).trans a1⟩
theorem aGY(r s:Int)(A:OA)(n c:Nat)(e:Ed)(w:World) :
  Calls Tryz.prog 246 #[.agg #[r,s,.slice A n c],e.v] w fun en w'=>en=.returned (.bool (edB r s e))/\Mid 0 0 w w':=by
 obtain⟨a,l,b⟩:=e;have a0:Mid 0 0 w ((w.alloc (.cells #[r,s,.slice A n c] 35)).alloc (.cells #[a,l,b] 110)):=(oE _ _).trans (oE _ _);have hL:∀ x lo hi (W:World) (b:Bool),inB x lo hi=b->Calls Tryz.prog 102 #[.int .i64 x,.int .i64 lo,.int .i64 hi] W fun e w'=>e=.returned (.bool b)/\W=w':=fun x lo hi W b h=>h ▸ aBw x lo hi W;cases h1:inB a 0 (wrap64 (s - 1)) with
|false=>
  have hv:edB r s ⟨a,l,b⟩=false:=by simp[edB,h1]
  rw[hv];clear hv;go_enter Tryz.func246,Tryz.ntmps246
  go_wp2_with fail;with_reducible refine(hL _ _ _ _ _ h1).mono ?_
  rintro en w1 ⟨rfl,rfl⟩;go_wp2_with fail;go_ret;exact⟨rfl,a0⟩
|true=>
  cases h2:inB b 0 (wrap64 (s - 1)) with
 |false=>
   have hv:edB r s ⟨a,l,b⟩=false:=by simp[edB,h2]
   rw[hv];clear hv;go_enter Tryz.func246,Tryz.ntmps246
   go_wp2_with fail;with_reducible refine(hL _ _ _ _ _ h1).mono ?_
   rintro en w1 ⟨rfl,rfl⟩;go_wp2_with fail;with_reducible refine(hL _ _ _ _ _ h2).mono ?_
   rintro en w1 ⟨rfl,rfl⟩;go_wp2_with fail;go_ret;exact⟨rfl,a0⟩
 |true=>
   have hv:edB r s ⟨a,l,b⟩=inB l 1 r:=by simp[edB,h1,h2]
   rw[hv];clear hv;go_enter Tryz.func246,Tryz.ntmps246
   go_wp2_with fail;with_reducible refine(hL _ _ _ _ _ h1).mono ?_
   rintro en w1 ⟨rfl,rfl⟩;go_wp2_with fail;with_reducible refine(hL _ _ _ _ _ h2).mono ?_
   rintro en w1 ⟨rfl,rfl⟩;go_wp2_with fail;with_reducible refine(aBw _ _ _ _).mono ?_
   rintro en w1 ⟨rfl,rfl⟩;go_wp2_with fail;go_ret;exact⟨rfl,a0⟩
theorem aEc(e f:Ed)(w:World) :
  Calls Tryz.prog 204 #[e.v,f.v] w fun en w'=>en=.returned (.int .i64 (aEM e f))/\((w.alloc (.cells #[.int .i64 e.a,.int .i64 e.l,.int .i64 e.b] 110)).alloc (.cells #[.int .i64 f.a,.int .i64 f.l,.int .i64 f.b] 110))=w':=by
 obtain⟨a,l,b⟩:=e;obtain⟨a',l',b'⟩:=f;have hC:∀ x y (W:World) (v:Int),aGp x y=v->Calls Tryz.prog 113 #[.int .i64 x,.int .i64 y] W fun e w'=>e=.returned (.int .i64 v)/\W=w':=fun x y W v h=>h ▸ aFf x y W;obtain⟨u,hu⟩:∃ u,aGp a a'=u:=⟨_,rfl⟩
 obtain⟨v,hv⟩:∃ v,aGp l l'=v:=⟨_,rfl⟩
 have he:aEM ⟨a,l,b⟩ ⟨a',l',b'⟩=if u≠0 then u else if v≠0 then v else aGp b b':=by simp[aEM,hu,hv]
 rw[he];clear he;by_cases h1:u=0
 .by_cases h2:v=0
  .rw[if_neg (by simpa using h1),if_neg (by simpa using h2)]
   subst h1;subst h2;go_enter Tryz.func204,Tryz.ntmps204
   go_wp2_with fail;with_reducible refine(hC _ _ _ _ hu).mono ?_
   rintro en w1 ⟨rfl,rfl⟩;go_wp2_with fail;with_reducible refine(hC _ _ _ _ hv).mono ?_
   rintro en w1 ⟨rfl,rfl⟩;go_wp2_with fail;with_reducible refine(aFf _ _ _).mono ?_
   rintro en w1 ⟨rfl,rfl⟩;go_wp2_with fail;go_ret;exact⟨rfl,rfl⟩
  rw[if_neg (by simpa using h1),if_pos (by simpa using h2)];subst h1;have hn:(v != 0)=true:=by simpa using h2
  go_enter Tryz.func204,Tryz.ntmps204
  go_wp2_with fail;with_reducible refine(hC _ _ _ _ hu).mono ?_
  rintro en w1 ⟨rfl,rfl⟩;go_wp2_with fail;with_reducible refine(hC _ _ _ _ hv).mono ?_
  rintro en w1 ⟨rfl,rfl⟩;go_wp2_with fail;go_ret;exact⟨rfl,rfl⟩
 rw[if_pos (by simpa using h1)];have hn:(u != 0)=true:=by simpa using h1
 go_enter Tryz.func204,Tryz.ntmps204
 go_wp2_with fail;with_reducible refine(hC _ _ _ _ hu).mono ?_
 rintro en w1 ⟨rfl,rfl⟩;go_wp2_with fail;go_ret;exact⟨rfl,rfl⟩
theorem aIi(e f:Ed)(w:World) :
  Calls Tryz.prog 204 #[e.v,f.v] w fun en w'=>en=.returned (.int .i64 (aEM e f))/\Mid 0 0 w w':=
 (aEc e f w).mono fun _ _ ⟨h,hw⟩=>⟨h,hw ▸ (oE _ _).trans (oE _ _)⟩
theorem aUg{a b:Int}(h:a<b):aGp a b = -1:=by simp[aGp,h]
theorem aUf{a b:Int}(h:b<a):aGp a b=1:=by simp[aGp,h,show ¬ a<b from by omega]
theorem aQm{e f:Ed}{v:Int}(h:aGp e.a f.a=v)(h0:v≠0):aEM e f=v:=by simp[aEM,h,h0]
theorem aOm{e f:Ed}{v:Int}(h1:e.a=f.a)(h:aGp e.l f.l=v)(h0:v≠0):aEM e f=v:=by simp[aEM,aBC.2 h1,h,h0]
theorem aKY{e f:Ed}{v:Int}(h1:e.a=f.a)(h2:e.l=f.l)(h:aGp e.b f.b=v):aEM e f=v:=by simp[aEM,aBC.2 h1,aBC.2 h2,h]
theorem aEH(e f:Ed)(w:World) :
  Calls Tryz.prog 206 #[e.v,f.v] w fun en w'=>en=.returned (.int .i64 (aEM e f))/\Mid 0 0 w w':=by
 obtain⟨a,l,b⟩:=e;obtain⟨a',l',b'⟩:=f;obtain⟨u,hu⟩:∃ u,aEM ⟨a,l,b⟩ ⟨a',l',b'⟩=u:=⟨_,rfl⟩
 rw[hu];have HU:=oH hu;clear hu;go_enter Tryz.func206,Tryz.ntmps206
 go_wp2_with fail;go_loopw [4,7] (fun _ i wr=>∃ k:Nat,i=.int .i64 k/\k<=3/\Mid 0 0 w wr/\(0<k->a=a')/\(1<k->l=l')/\(2<k->b=b') /\
   wr.cell? ⟨w.heap.size+1+1,0,none⟩=some (.int .i64 a)/\wr.cell? ⟨w.heap.size+1+1,1,none⟩=some (.int .i64 l)/\wr.cell? ⟨w.heap.size+1+1,2,none⟩=some (.int .i64 b) /\
   wr.cell? ⟨w.heap.size+1+1+1,0,none⟩=some (.int .i64 a')/\wr.cell? ⟨w.heap.size+1+1+1,1,none⟩=some (.int .i64 l')/\wr.cell? ⟨w.heap.size+1+1+1,2,none⟩=some (.int .i64 b')) (fun _ i _=>4 - (intOf i).toNat)
 case atStart=>
  refine⟨0,rfl,oO,?_,by simp,by simp,by simp,?_,?_,?_,?_,?_,?_⟩
  .exact(((oE _ _).trans (oE _ _)).trans (oE _ _)).trans (oE _ _)
  all_goals simp[World.cell?_alloc_at,World.cell?_alloc_past]
 obtain⟨k,rfl,hk,hm,e0,e1,e2,c0,c1,c2,d0,d1,d2⟩:=hrel;by_cases h3:3<=k
 .go_wp2_with fail
  go_ret;obtain rfl:u=0:=by rw[<- HU.out];exact aKY (e0 oO) (e1 oO) (aBC.2 (e2 oO))
  exact⟨rfl,hm⟩
 have step:∀(x y:Int),wr.cell? ⟨w.heap.size+1+1,k,none⟩=some (.int .i64 x)->wr.cell? ⟨w.heap.size+1+1+1,k,none⟩=some (.int .i64 y)->True:=fun _ _ _ _=>trivial;obtain⟨x,y,cx,cy,a0⟩:∃ x y,wr.cell? ⟨w.heap.size+1+1,k,none⟩=some (.int .i64 x)/\wr.cell? ⟨w.heap.size+1+1+1,k,none⟩=some (.int .i64 y)/\(x≠y->u=aGp x y)/\(k=0->x=a/\y=a')/\(k=1->x=l/\y=l')/\(k=2->x=b/\y=b'):=by
  rcases(by omega:k=0 \/ k=1 \/ k=2) with rfl|rfl|rfl
  .exact⟨a,a',c0,d0,fun h=>by rw[<- HU.out];exact aQm rfl (fun h0=>h (aBC.1 h0)),by simp,by simp,by simp⟩
  .exact⟨l,l',c1,d1,fun h=>by rw[<- HU.out];exact aOm (e0 oO) rfl (fun h0=>h (aBC.1 h0)),by simp,by simp,by simp⟩
  exact⟨b,b',c2,d2,fun h=>by rw[<- HU.out];exact aKY (e0 oO) (e1 oO) rfl,by simp,by simp,by simp⟩
 have a1:k<3:=by omega
 have HE:=oH (And.intro e0 (And.intro e1 e2));have HC:=oH (And.intro c0 (And.intro c1 (And.intro c2 (And.intro d0 (And.intro d1 d2)))));have HX:=oH a0;clear e0 e1 e2 c0 c1 c2 d0 d1 d2 a0 step h3 hk;by_cases hlt:x<y
 .have hv:=HX.out.1 oO
  rw[aUg hlt] at hv;subst hv;go_wp2_with fail;go_quiet (fail)
  go_wp2_with fail;go_ret;exact⟨rfl,hm.drewN _⟩
 by_cases hgt:y<x
 .have hv:=HX.out.1 oO
  rw[aUf hgt] at hv;subst hv;go_wp2_with fail;go_quiet (fail)
  go_wp2_with fail;go_quiet (fail)
  go_wp2_with fail;go_ret;exact⟨rfl,by first|exact(hm.drewN _).drewN _|exact hm.drewN _⟩
 have hq:x=y:=by omega
 clear hlt hgt;subst hq;go_wp2_with fail;go_quiet (fail)
 go_wp2_with fail;go_quiet (fail)
 go_wp2_with fail;go_roundw
 case rel=>
  obtain⟨e0,e1,e2⟩:=HE.out;obtain⟨c0,c1,c2,d0,d1,d2⟩:=HC.out;obtain⟨-,q0,q1,q2⟩:=HX.out;refine⟨k+1,by go_num,oO,by first|exact(hm.drewN _).drewN _|exact hm.drewN _,fun h=>?_,fun h=>?_,fun h=>?_,c0,c1,c2,d0,d1,d2⟩
  .rcases(by omega:k=0 \/ 0<k) with h5|h5
   .rw[<- (q0 h5).1,<- (q0 h5).2]
   exact e0 h5
  .rcases(by omega:k=1 \/ 1<k) with h5|h5
   .rw[<- (q1 h5).1,<- (q1 h5).2]
   exact e1 h5
  rcases(by omega:k=2 \/ 2<k) with h5|h5
  .rw[<- (q2 h5).1,<- (q2 h5).2]
  exact e2 h5
 simp[intOf];omega
def UpTo(r s:Int)(es:List Ed)(k:Nat):Prop:=∀ j e,j<k->es[j]?=some e->edB r s e=true/\∀ f,0<j->es[j - 1]?=some f->aEM f e<0
theorem UpTo.zero(r s:Int)(es:List Ed):UpTo r s es 0:=fun j e h=>absurd h (Nat.not_lt_zero _)
theorem UpTo.succ{r s:Int}{es:List Ed}{k:Nat}{e:Ed}(h:UpTo r s es k)(he:es[k]?=some e)(h1:edB r s e=true)(h2:∀ f,0<k->es[k - 1]?=some f->aEM f e<0):UpTo r s es (k+1):=by
 intro j e' hj a0;rcases Nat.lt_succ_iff_lt_or_eq.1 hj with h3|rfl
 .exact h j e' h3 a0
 rw[he] at a0;injection a0 with a0
 subst a0;exact⟨h1,h2⟩
abbrev aAJ(r s:Int)(A:OA)(n c:Nat):Value:=.agg #[.int .i64 r,.int .i64 s,.slice A n c]
theorem aRw{r s:Int}{e:Ed}(h1:1<=s)(h2:s<=40):edB r s e=true↔InG r s e:=by
 unfold edB InG inB;rw[IntWalk.wrap64_in (s - 1) oO];simp;omega
theorem aTH{es:List Ed}:Asc es↔∀(j:Nat) (e f:Ed),0<j->es[j - 1]?=some f->es[j]?=some e->LtE f e:=by
 constructor
 .intro h j e f hj hf he
  obtain⟨h1,a0⟩:=List.getElem?_eq_some_iff.1 hf;obtain⟨h2,a1⟩:=List.getElem?_eq_some_iff.1 he;have:=List.pairwise_iff_getElem.1 h (j - 1) j h1 h2 oO;rw[a0,a1] at this;exact this
 intro h;refine List.pairwise_iff_getElem.2 fun i j hi hj hij=>?_;obtain⟨d,rfl⟩:∃ d,j=i+1+d:=⟨j - i - 1,oO⟩
 clear hij
 induction d with
|zero=>exact h (i+1) _ _ oO (by rw[Nat.add_sub_cancel];exact List.getElem?_eq_getElem hi) (List.getElem?_eq_getElem hj)
|succ d ih=>exact(ih oO).trans (h (i+1+(d+1)) _ _ oO (List.getElem?_eq_getElem oO) (List.getElem?_eq_getElem hj))
theorem aQc{r s:Int}{es:List Ed}(h1:1<=s)(h2:s<=40):UpTo r s es es.length↔(∀ e∈es,InG r s e)/\Asc es:=by
 constructor
 .intro h
  refine⟨fun e he=>?_,aTH.2 fun j e f hj hf he=>?_⟩
  .obtain⟨j,hj⟩:=List.mem_iff_getElem?.1 he
   exact(aRw h1 h2).1 (h j e (List.getElem?_eq_some_iff.1 hj).1 hj).1
  exact aBv.1 ((h j e (List.getElem?_eq_some_iff.1 he).1 he).2 f hj hf)
 rintro⟨h3,h4⟩ j e hj he;exact⟨(aRw h1 h2).2 (h3 e (oG he)),fun f h0 hf=>aBv.2 (aTH.1 h4 j e f h0 hf he)⟩
structure GrT (r s:Int) (es:List Ed):Prop where
 rank:inB r 1 3=true
 size:inB s 1 40=true
 len:es.length<=120
 up:UpTo r s es es.length
theorem aRH{r s:Int}{es:List Ed}:GrT r s es↔IsGr r s es:=by
 constructor
 .rintro⟨h1,h2,h3,h4⟩
  have h1:1<=r/\r<=3:=by simpa [inB] using h1
  have h2:1<=s/\s<=40:=by simpa [inB] using h2
  obtain⟨h5,h6⟩:=(aQc h2.1 h2.2).1 h4;exact⟨h1,h2,h3,h5,h6⟩
 rintro⟨h1,h2,h3,h4,h5⟩;exact⟨by simpa [inB] using h1,by simpa [inB] using h2,h3,(aQc h2.1 h2.2).2 ⟨h4,h5⟩⟩
theorem aDm{x lo hi:Int}{b:Bool}(h:inB x lo hi=b)(W:World):Calls Tryz.prog 108 #[x,lo,hi] W fun e w'=>e=.returned (.bool b)/\W=w':=h ▸ aAu x lo hi W
theorem aBQ{x lo hi:Int}{b:Bool}(h:inB x lo hi=b)(W:World):Calls Tryz.prog 102 #[x,lo,hi] W fun e w'=>e=.returned (.bool b)/\W=w':=h ▸ aBw x lo hi W
theorem aDh(r s:Int)(A:OA)(es:List Ed)(c:Nat)(w:World)(lo hi:Nat)(hr:RV w lo hi A (aAe (edI es)))(hl:es.length<=1048576)(b:Bool)(hb:b=true↔IsGr r s es) :
  Calls Tryz.prog 144 #[aAJ r s A es.length c] w fun e w'=>e=.returned (.bool b)/\Mid 0 0 w w':=by
 have HB:=oH (hb.trans aRH.symm);clear hb;have aE:=oJ w #[r,s,.slice A es.length c] 35;have a4:=oE w (.cells #[r,s,.slice A es.length c] 35);cases h1:inB r 1 3 with
|false=>
  obtain rfl:b=false:=by cases b with|false=>rfl|true=>have:=(HB.out.1 rfl).rank;rw[h1] at this;cases this
  clear HB;go_enter Tryz.func144,Tryz.ntmps144
  go_wp2_with fail;with_reducible refine(aDm h1 _).mono ?_
  rintro en w1 ⟨rfl,rfl⟩;go_wp2_with fail;go_ret;exact⟨rfl,a4⟩
|true=>
 have H1:=oH h1;go_enter Tryz.func144,Tryz.ntmps144
 go_wp2_with fail;with_reducible refine(aDm h1 _).mono ?_
 rintro en w1 ⟨rfl,rfl⟩;clear h1;cases h2:inB s 1 40 with
|false=>
  obtain rfl:b=false:=by cases b with|false=>rfl|true=>have:=(HB.out.1 rfl).size;rw[h2] at this;cases this
  clear HB;go_wp2_with fail;with_reducible refine(aDm h2 _).mono ?_
  rintro en w1 ⟨rfl,rfl⟩;go_wp2_with fail;go_ret;exact⟨rfl,a4⟩
|true=>
 have H2:=oH h2;go_wp2_with fail;with_reducible refine(aDm h2 _).mono ?_
 rintro en w1 ⟨rfl,rfl⟩;clear h2;by_cases h3:120<es.length
 .obtain rfl:b=false:=by cases b with|false=>rfl|true=>have:=(HB.out.1 rfl).len;omega
  clear HB;go_wp2_with fail;go_ret;exact⟨rfl,a4⟩
 have HL:=oH (show es.length<=120 by omega);go_wp2_with fail;go_loopw [2,24] (fun _ i wr=>∃ k:Nat,k<=es.length/\i=.int .i64 k/\Box wr w.heap.size [.int .i64 r,.int .i64 s,.slice A es.length c]/\UpTo r s es k/\Mid 0 0 w wr) (fun _ i _=>es.length - (intOf i).toNat)
 case atStart=>exact⟨0,oZ,rfl,aE,UpTo.zero _ _ _,a4⟩
 obtain⟨k,hk,rfl,bx,a3,hm⟩:=hrel;by_cases hlt:k<es.length
 .obtain⟨B,aB,e,rfl, -,aF,he,c0,c1,c2⟩:=(hr.mid hm oZl).ed hlt
  have aL:(0:Int)<=(k:Int):=by omega
  have aN:(k:Int)<(es.length:Int):=by omega
  have a9:=oH a3;have a8:=oH he;have a2:=oE wr (.cells #[.int .i64 e.a,.int .i64 e.l,.int .i64 e.b] 110);have a0:=bx.mid a2 oZr;have a1:=oJ wr #[.int .i64 e.a,.int .i64 e.l,.int .i64 e.b] 110;have aA:=(hr.mid hm oZl).mid a2 oZl;have zp:=oT aF aA.1;have g0:=aAf a0.1 (a0.cell 0 rfl);have g1:=aAf a0.1 (a0.cell 1 rfl);have g2:=aAf a0.1 (a0.cell 2 rfl);have e0:=aAf a1.1 (a1.cell 0 rfl);have e1:=aAf a1.1 (a1.cell 1 rfl);have e2:=aAf a1.1 (a1.cell 2 rfl);cases hA0:edB r s e with
 |false=>
   obtain rfl:b=false:=by cases b with|false=>rfl|true=>have:=((HB.out.1 rfl).up k e hlt he).1;rw[hA0] at this;cases this
   have hA:=fun W=>aIJ r s (some ⟨B,aB,none⟩) es.length c e W;rw[hA0] at hA;clear a3 he hA0;go_wp2_with fail;refine wqg ?_;repeat
    (with_reducible refine wpQuiet_step (fun K hK=>?_))
    go_simp
    first|(with_reducible refine hK _ ?_)|(rw[if_neg oD];(with_reducible refine hK _ ?_))|(apply Exists.intro;refine⟨fun _=>?_,hK _ ?_⟩;((go_at_call 215;exact Calls.wg_of (hA _))))
    clear hK K
   with_reducible refine wpQuiet_nil ?_
   rintro _ ⟨⟨nq,osq⟩,rfl⟩;go_wp2_with fail;go_ret;exact⟨rfl,(hm.trans a2).trans (Mid.ofWg _ _ _)⟩
 |true=>
   have hA:=fun W=>aIJ r s (some ⟨B,aB,none⟩) es.length c e W;rw[hA0] at hA;have a7:=oH hA0;by_cases hkz:k=0
   .have aH:decide ((0:Int)<(k:Int))=false:=by simp;omega
    have aI:(0<k)=False:=eq_false oO;have aD:=oH hkz;clear a3 he hA0 hkz;go_wp2_with fail;refine wqg ?_;repeat
     (with_reducible refine wpQuiet_step (fun K hK=>?_))
     go_simp
     first|(with_reducible refine hK _ ?_)|(rw[if_neg oD];(with_reducible refine hK _ ?_))|(apply Exists.intro;refine⟨fun _=>?_,hK _ ?_⟩;((go_at_call 215;exact Calls.wg_of (hA _))))
     clear hK K
    with_reducible refine wpQuiet_nil ?_
    rintro _ ⟨⟨nq,osq⟩,rfl⟩;go_wp2_with fail;go_roundw
    case rel=>exact⟨k+1,oO,by go_num,a0.mid (Mid.ofWg _ _ _) oZr,a9.out.succ a8.out a7.out (fun f h=>absurd h (by have:=aD.out;omega)),(hm.trans a2).trans (Mid.ofWg _ _ _)⟩
    simp[intOf];omega
   obtain⟨m,a5⟩:∃ m,k=m+1:=⟨k - 1,oO⟩
   obtain⟨B',aK,f,a6, -, -,hf,p0,p1,p2⟩:=aA.ed (show m<es.length by omega);injection a6 with a6
   injection a6 with hA2 hA3
   subst hA2;subst hA3;have aM:(k:Int) - 1=(m:Int):=by omega
   have aO:(0:Int)<(k:Int):=by omega
   have aG:0<k:=by omega
   have aQ:IntKind.i64.wrap (m:Int)=(m:Int):=oI _;have aJ:(0:Int)<=(m:Int):=by omega
   have aP:(m:Int)<(es.length:Int):=by omega
   have p0:=aAf zp p0;have p1:=aAf zp p1;have p2:=aAf zp p2;obtain⟨v,hv⟩:∃ v,aEM f e=v:=⟨_,rfl⟩
   have hQ:=fun W=>aIi f e W;rw[hv] at hQ;have HF:=oH hf;have aC:=oH a5;by_cases hv0:0<=v
   .obtain rfl:b=false:=by
     cases b
     .rfl
     have:=((HB.out.1 rfl).up k e hlt he).2 f oO (by rw[a5];exact hf);omega
    clear a3 he hA0 hf a5 hv;go_wp2_with fail;refine wqg ?_;repeat
     (with_reducible refine wpQuiet_step (fun K hK=>?_))
     go_simp
     first|(with_reducible refine hK _ ?_)|(rw[if_neg oD];(with_reducible refine hK _ ?_))|(apply Exists.intro;refine⟨fun _=>?_,hK _ ?_⟩;((first|(go_at_call 215;exact Calls.wg_of (hA _))|(go_at_call 204;exact Calls.wg_of (hQ _)))))
     clear hK K
    with_reducible refine wpQuiet_nil ?_
    rintro _ ⟨⟨nq,osq⟩,rfl⟩;go_wp2_with fail;go_ret;exact⟨rfl,(hm.trans a2).trans (Mid.ofWg _ _ _)⟩
   have HV:=oH (show aEM f e<0 by omega);clear a3 he hA0 hf a5 hv;go_wp2_with fail;refine wqg ?_;repeat
    (with_reducible refine wpQuiet_step (fun K hK=>?_))
    go_simp
    first|(with_reducible refine hK _ ?_)|(rw[if_neg oD];(with_reducible refine hK _ ?_))|(apply Exists.intro;refine⟨fun _=>?_,hK _ ?_⟩;((first|(go_at_call 215;exact Calls.wg_of (hA _))|(go_at_call 204;exact Calls.wg_of (hQ _)))))
    clear hK K
   with_reducible refine wpQuiet_nil ?_
   rintro _ ⟨⟨nq,osq⟩,rfl⟩;go_wp2_with fail;go_roundw
   case rel=>
    refine⟨k+1,oO,by go_num,a0.mid (Mid.ofWg _ _ _) oZr,a9.out.succ a8.out a7.out (fun f' h h'=>?_),(hm.trans a2).trans (Mid.ofWg _ _ _)⟩;rw[aC.out,Nat.add_sub_cancel,HF.out] at h';injection h' with h'
    subst h';exact HV.out
   simp[intOf];omega
 obtain rfl:k=es.length:=by omega
 obtain rfl:b=true:=HB.out.2 ⟨H1.out,H2.out,HL.out,a3⟩;go_wp2_with fail;go_ret;exact⟨rfl,hm⟩
theorem aBa(r s:Int)(A:OA)(es:List Ed)(c:Nat)(w:World)(lo hi:Nat)(hr:RV w lo hi A (aAe (edI es)))(hl:es.length<=1048576)(b:Bool)(hb:b=true↔IsGr r s es) :
  Calls Tryz.prog 199 #[aAJ r s A es.length c] w fun e w'=>e=.returned (.bool b)/\Mid 0 0 w w':=by
 have HB:=oH (hb.trans aRH.symm);clear hb;have a9:=oJ w #[r,s,.slice A es.length c] 35;have aE:=oE w (.cells #[r,s,.slice A es.length c] 35);go_enter Tryz.func199,Tryz.ntmps199
 go_wp2_with fail;go_loopw [2,3] (fun _ i wr=>∃ k:Nat,k<=es.length/\i=.int .i64 k/\Box wr w.heap.size [.int .i64 r,.int .i64 s,.slice A es.length c]/\UpTo r s es k/\Mid 0 0 w wr) (fun _ i _=>es.length - (intOf i).toNat)
 case atStart=>exact⟨0,oZ,rfl,a9,UpTo.zero _ _ _,aE⟩
 obtain⟨k,hk,rfl,bx,a0,hm⟩:=hrel;obtain⟨G0,G1,G2⟩:=bx.c3 rfl;by_cases hlt:k<es.length
 .have a3:=hr.mid hm oZl
  obtain⟨B,aG,e,rfl, -,aA,he,e0,e1,e2⟩:=a3.ed hlt;have aI:(0:Int)<=(k:Int):=by omega
  have aK:(k:Int)<(es.length:Int):=by omega
  have a6:=oH a0;have a5:=oH he;have zp:=oT aA a3.1;have g0:=aAf bx.1 G0;have g1:=aAf bx.1 G1;have g2:=aAf bx.1 G2;have e0:=aAf zp e0;have e1:=aAf zp e1;have e2:=aAf zp e2;have hA:=fun W=>aGY r s (some ⟨B,aG,none⟩) es.length c e W;cases hA0:edB r s e with
 |false=>
   obtain rfl:b=false:=by cases b with|false=>rfl|true=>have:=((HB.out.1 rfl).up k e hlt he).1;rw[hA0] at this;cases this
   rw[hA0] at hA;clear a0 he hA0;go_wp2_with fail;refine wqg ?_;repeat
    (with_reducible refine wpQuiet_step (fun K hK=>?_))
    go_simp
    first|(with_reducible refine hK _ ?_)|(rw[if_neg oD];(with_reducible refine hK _ ?_))|(apply Exists.intro;refine⟨fun _=>?_,hK _ ?_⟩;((go_at_call 246;exact Calls.wg_of (hA _))))
    clear hK K
   with_reducible refine wpQuiet_nil ?_
   rintro _ ⟨⟨nq,osq⟩,rfl⟩;go_wp2_with fail;go_ret;exact⟨rfl,hm.trans (Mid.ofWg _ _ _)⟩
 |true=>
   rw[hA0] at hA;have a4:=oH hA0;by_cases hkz:k=0
   .have aC:decide ((0:Int)<(k:Int))=false:=by simp;omega
    have aD:(0<k)=False:=eq_false oO;have a8:=oH hkz;clear a0 he hA0 hkz;go_wp2_with fail;refine wqg ?_;repeat
     (with_reducible refine wpQuiet_step (fun K hK=>?_))
     go_simp
     first|(with_reducible refine hK _ ?_)|(rw[if_neg oD];(with_reducible refine hK _ ?_))|(apply Exists.intro;refine⟨fun _=>?_,hK _ ?_⟩;((go_at_call 246;exact Calls.wg_of (hA _))))
     clear hK K
    with_reducible refine wpQuiet_nil ?_
    rintro _ ⟨⟨nq,osq⟩,rfl⟩;go_wp2_with fail;go_roundw
    case rel=>exact⟨k+1,oO,by go_num,bx.mid (Mid.ofWg _ _ _) oZr,a6.out.succ a5.out a4.out (fun f h=>absurd h (by have:=a8.out;omega)),hm.trans (Mid.ofWg _ _ _)⟩
    simp[intOf];omega
   obtain⟨m,a1⟩:∃ m,k=m+1:=⟨k - 1,oO⟩
   obtain⟨B',aH,f,a2, -, -,hf,p0,p1,p2⟩:=a3.ed (show m<es.length by omega);injection a2 with a2
   injection a2 with hA2 hA3
   subst hA2;subst hA3;have aJ:(k:Int) - 1=(m:Int):=by omega
   have aL:(0:Int)<(k:Int):=by omega
   have aB:0<k:=by omega
   have aN:IntKind.i64.wrap (m:Int)=(m:Int):=oI _;have aF:(0:Int)<=(m:Int):=by omega
   have aM:(m:Int)<(es.length:Int):=by omega
   have p0:=aAf zp p0;have p1:=aAf zp p1;have p2:=aAf zp p2;obtain⟨v,hv⟩:∃ v,aEM f e=v:=⟨_,rfl⟩
   have hQ:=fun W=>aEH f e W;rw[hv] at hQ;have HF:=oH hf;have a7:=oH a1;by_cases hv0:0<=v
   .obtain rfl:b=false:=by
     cases b
     .rfl
     have:=((HB.out.1 rfl).up k e hlt he).2 f oO (by rw[a1];exact hf);omega
    clear a0 he hA0 hf a1 hv;go_wp2_with fail;refine wqg ?_;repeat
     (with_reducible refine wpQuiet_step (fun K hK=>?_))
     go_simp
     first|(with_reducible refine hK _ ?_)|(rw[if_neg oD];(with_reducible refine hK _ ?_))|(apply Exists.intro;refine⟨fun _=>?_,hK _ ?_⟩;((first|(go_at_call 246;exact Calls.wg_of (hA _))|(go_at_call 206;exact Calls.wg_of (hQ _)))))
     clear hK K
    with_reducible refine wpQuiet_nil ?_
    rintro _ ⟨⟨nq,osq⟩,rfl⟩;go_wp2_with fail;go_ret;exact⟨rfl,hm.trans (Mid.ofWg _ _ _)⟩
   have HV:=oH (show aEM f e<0 by omega);clear a0 he hA0 hf a1 hv;go_wp2_with fail;refine wqg ?_;repeat
    (with_reducible refine wpQuiet_step (fun K hK=>?_))
    go_simp
    first|(with_reducible refine hK _ ?_)|(rw[if_neg oD];(with_reducible refine hK _ ?_))|(apply Exists.intro;refine⟨fun _=>?_,hK _ ?_⟩;((first|(go_at_call 246;exact Calls.wg_of (hA _))|(go_at_call 206;exact Calls.wg_of (hQ _)))))
    clear hK K
   with_reducible refine wpQuiet_nil ?_
   rintro _ ⟨⟨nq,osq⟩,rfl⟩;go_wp2_with fail;go_roundw
   case rel=>
    refine⟨k+1,oO,by go_num,bx.mid (Mid.ofWg _ _ _) oZr,a6.out.succ a5.out a4.out (fun f' h h'=>?_),hm.trans (Mid.ofWg _ _ _)⟩;rw[a7.out,Nat.add_sub_cancel,HF.out] at h';injection h' with h'
    subst h';exact HV.out
   simp[intOf];omega
 obtain rfl:k=es.length:=by omega
 cases h1:inB r 1 3 with
|false=>
  obtain rfl:b=false:=by cases b with|false=>rfl|true=>have:=(HB.out.1 rfl).rank;rw[h1] at this;cases this
  go_wp2_with fail;with_reducible refine(aBQ h1 _).mono ?_
  rintro en w1 ⟨rfl,rfl⟩;go_wp2_with fail;go_ret;exact⟨rfl,hm⟩
|true=>
 go_wp2_with fail;with_reducible refine(aBQ h1 _).mono ?_
 rintro en w1 ⟨rfl,rfl⟩;cases h2:inB s 1 40 with
|false=>
  obtain rfl:b=false:=by cases b with|false=>rfl|true=>have:=(HB.out.1 rfl).size;rw[h2] at this;cases this
  go_wp2_with fail;with_reducible refine(aBQ h2 _).mono ?_
  rintro en w1 ⟨rfl,rfl⟩;go_wp2_with fail;go_ret;exact⟨rfl,hm⟩
|true=>
 obtain rfl:b=decide (es.length<=120):=by
  rw[Bool.eq_iff_iff,HB.out,decide_eq_true_iff];exact⟨fun h=>h.len,fun h=>⟨h1,h2,h,a0⟩⟩
 go_wp2_with fail;with_reducible refine(aBQ h2 _).mono ?_
 rintro en w1 ⟨rfl,rfl⟩;go_wp2_with fail;go_ret;have hd:decide ((es.length:Int)<=120)=decide (es.length<=120):=decide_eq_decide.2 oO;refine⟨?_,hm⟩
 first
 |rfl
 |exact congrArg (fun x=>Ending.returned (Value.bool x)) hd
theorem Mid.stored{lo hi:Nat}{a w:World}{p:Addr}(h:Mid lo hi a w)(u:Value)(h1:lo<=p.block)(h2:p.block<hi):Mid lo hi a (w.setCell p u):=h.trans (Mid.setCell w u h1 h2)
structure Mor where
 rank:Int
 imgs:LL
section
open Go.ChangeShapes Go.WideShapes Go.ChangeAt Go.RowKit
open Go.Joins
section
variable {H:Type} {enc:TypeId × Value->H} {P:Program} {W:World} {T E:TypeId}
def OkSS(xss:LL):Prop:=(xss.length<=9223372036854775807/\∀ xs∈xss,xs.length<=9223372036854775807)/\∀ xs∈xss,OkI xs
end
end
def RI(w:World)(lo hi:Nat)(A:OA)(xs:LI):Prop:=RV w lo hi A (aAe xs)
def OI(w:World)(lo hi:Nat)(A:OA)(c:Nat)(xs:LI):Prop:=OV w lo hi 3 1 A c xs.length (aAe xs)
theorem RI.mid{w w':World}{lo hi a b:Nat}{A:OA}{xs:LI}(h:RI w lo hi A xs)(m:Mid a b w w')(hd:b<=lo \/ hi<=a:=by omega):RI w' lo hi A xs:=RV.mid h m hd
theorem OI.mid{w w':World}{lo hi a b:Nat}{A:OA}{c:Nat}{xs:LI}(h:OI w lo hi A c xs)(m:Mid a b w w')(hd:b<=lo \/ hi<=a:=by omega):OI w' lo hi A c xs:=OV.mid h m hd
theorem OI.ri{w:World}{lo hi:Nat}{A:OA}{c:Nat}{xs:LI}(h:OI w lo hi A c xs):RI w lo hi A xs:=OV.rv h
theorem OI.size{w:World}{lo hi:Nat}{A:OA}{c:Nat}{xs:LI}(h:OI w lo hi A c xs):hi<=w.heap.size:=h.1
theorem RI.rs{w:World}{lo hi:Nat}{A:OA}{xs:LI}(h:RI w lo hi A xs):Rs w w A (aAe xs):=(RV.rs h).more h.1
abbrev Stp(v:Value)(w:World)(e:Ending)(w':World):Prop:=e=.returned v/\Mid 0 0 w w'
theorem aHL{w:World}{base:Nat}{e:TypeId}{size g n cap:Nat}{xs ys:List Value}(h:w.ownsRow base e size (.slice (some ⟨g,0,none⟩) n cap) n xs)(j:Nat)(u:Value)(hy:xs.set j u=ys) :
  (w.setCell ⟨g,j,none⟩ u).ownsRow base e size (.slice (some ⟨g,0,none⟩) n cap) n ys:=by
 subst hy;exact(h.stored j u).1
section
open Go.RowKit
theorem aNq:(Tryz.prog.info? 110).map (fun i=>(i.zero,i.size,i.bytes))=some (some (.agg #[(0:Int),(0:Int),(0:Int)]),3,24):=by kernel_rfl
theorem aMH:Tryz.prog.underlying 33=some (.slice 110):=by kernel_rfl
def RG(w:World)(lo hi:Nat)(A:OA)(es:List Ed):Prop:=RV w lo hi A (aAe (edI es))
def OG(w:World)(lo hi:Nat)(A:OA)(c:Nat)(es:List Ed):Prop:=OV w lo hi 110 3 A c es.length (aAe (edI es))
section
variable {w w':World} {lo hi a b:Nat} {A:OA} {c:Nat} {es:List Ed}
theorem RG.rv(h:RG w lo hi A es):RV w lo hi A (aAe (edI es)):=h
theorem RV.rg(h:RV w lo hi A (aAe (edI es))):RG w lo hi A es:=h
theorem OG.ov(h:OG w lo hi A c es):OV w lo hi 110 3 A c es.length (aAe (edI es)):=h
theorem RG.mid(h:RG w lo hi A es)(m:Mid a b w w')(hd:b<=lo \/ hi<=a:=by omega):RG w' lo hi A es:=RV.mid h m hd
theorem OG.mid(h:OG w lo hi A c es)(m:Mid a b w w')(hd:b<=lo \/ hi<=a:=by omega):OG w' lo hi A c es:=OV.mid h m hd
theorem OG.rg(h:OG w lo hi A c es):RG w lo hi A es:=OV.rv h
theorem OG.size(h:OG w lo hi A c es):hi<=w.heap.size:=h.1
theorem OG.wide{lo' hi':Nat}(h:OG w lo hi A c es)(h1:lo'<=lo)(h2:hi<=hi')(h3:hi'<=w.heap.size):OG w lo' hi' A c es:=OV.wide h h1 h2 h3
theorem RG.wide{lo' hi':Nat}(h:RG w lo hi A es)(h1:lo'<=lo)(h2:hi<=hi')(h3:hi'<=w.heap.size):RG w lo' hi' A es:=RV.wide h h1 h2 h3
theorem RG.ed{k:Nat}(h:RG w lo hi A es)(hk:k<es.length) :
  ∃ b off e,A=some ⟨b,off,none⟩/\lo<=b/\b<hi/\es[k]?=some e/\w.cell? ⟨b,off+k * 3,none⟩=some (.int .i64 e.a)/\w.cell? ⟨b,off+k * 3+1,none⟩=some (.int .i64 e.l)/\w.cell? ⟨b,off+k * 3+2,none⟩=some (.int .i64 e.b):=RV.ed h hk
theorem OG.nil:OG w lo w none 0 []:=⟨oN,⟨rfl,.inl ⟨rfl,rfl⟩⟩,fun g hg=>by simp[Value.ownBlock] at hg⟩
theorem OG.mk'{v:Value}{n base:Nat}(h:w.ownsRow base 110 3 v n (aAe (edI es))):∃ A c,v=.slice A es.length c/\n=es.length/\OG w base w.heap.size A c es:=by
 obtain⟨A,c,rfl, -, -⟩:=aAc h;have hn:n=es.length:=by have:=h.1;rw[aAB,aEm] at this;omega
 subst hn;exact⟨A,c,rfl,rfl,oN,h,fun g hg=>(h.lt g hg).2⟩
end
theorem aOM(xs:LI):∀ u∈aAe xs,u.oneCell'=true:=by
 intro u hu;obtain⟨x, -,rfl⟩:=List.mem_map.1 hu
 rfl
theorem aSZ(es:List Ed){k:Nat}{e:Ed}(he:es[k]?=some e)(zs:List Value)(hz:zs.length=es.length * 3) :
  (((aAe (edI (es.take k))++zs.drop (k * 3)).set (k * 3) (.int .i64 e.a)).set (k * 3+1) (.int .i64 e.l)).set (k * 3+2) (.int .i64 e.b)=aAe (edI (es.take (k+1)))++zs.drop ((k+1) * 3):=by
 obtain⟨hk,rfl⟩:=List.getElem?_eq_some_iff.1 he;have hl:(aAe (edI (es.take k))).length=k * 3:=by rw[aAB,aEm,List.length_take,Nat.min_eq_left oO]
 obtain⟨z0,z1,z2,a0,hd⟩:∃ z0 z1 z2 a0,zs.drop (k * 3)=z0::z1::z2::a0:=by
  refine⟨zs[k * 3],zs[k * 3+1],zs[k * 3+2],zs.drop (k * 3+3),?_⟩;rw[List.drop_eq_getElem_cons oO,List.drop_eq_getElem_cons oO,List.drop_eq_getElem_cons oO]
 have a1:zs.drop ((k+1) * 3)=a0:=by
  rw[show(k+1) * 3=k * 3+3 by omega,<- List.drop_drop,hd]
  rfl
 rw[a1,hd,List.take_succ_eq_append_getElem hk,aCW,aAi,aIe];rw[List.set_append_right _ _ oO,List.set_append_right _ _ oO,List.set_append_right _ _ oO,hl];simp[aAe]
end
end Go.Proofs.YtkimajabegojoaaGreat
