/- Lemmas. -/
import Derived.Test.YtkimajabegojoaaGreatMo2
import Derived.Laws.StructEq
import Derived.Lib.OwnBridge
import Derived.Test.YtkimajabegojoaaGreatMo1
import Derived.BigQuiet
import Derived.Deep.RegionHeld3
import Derived.Deep.DrawnRows
import Derived.StillTail
namespace Go.Proofs.YtkimajabegojoaaGreat
set_option linter.unusedVariables false
set_option linter.unusedSimpArgs false
set_option maxHeartbeats 40000000
set_option maxRecDepth 100000
open Go.RowKit
section
open Go.RowKit Go.Shelf Go.Lib Go.Sort
instance:Inhabited Ed:=⟨⟨0,0,0⟩⟩
def aLL(e:Ed):List Value:=[.int .i64 e.a,.int .i64 e.l,.int .i64 e.b]
theorem aTa{e:Ed}{i:Nat}{v:Value}(h:(aLL e)[i]?=some v):(i=0/\v=.int .i64 e.a) \/ (i=1/\v=.int .i64 e.l) \/ (i=2/\v=.int .i64 e.b):=by
 rcases i with _|_|_|i
 .left;simp[aLL] at h;exact⟨rfl,h.symm⟩
 .right;left;simp[aLL] at h;exact⟨rfl,h.symm⟩
 .right;right;simp[aLL] at h;exact⟨rfl,h.symm⟩
 simp[aLL] at h
theorem eqB(x y:Ed):(x.a == y.a && x.l == y.l && x.b == y.b)=decide (x=y):=by
 rw[Bool.eq_iff_iff];simp;constructor
 .rintro⟨⟨h1,h2⟩,h3⟩;exact Ed.ext' h1 h2 h3
 rintro rfl;exact⟨⟨rfl,rfl⟩,rfl⟩
theorem aUj:EqlAt Tryz.prog 110 (fun x=>.agg (aLL x).toArray) (fun x y=>decide (x=y)):=by
 refine⟨fun x y w=>?_,GuardAt.agg _ oK⟩;have u3:=Tryz.underlying3;have a3:=Tryz.isAgg3;have z3:=Tryz.sizeOf3;have hS:Tryz.prog.underlying 110=some (.struct (Tryz.prog.fieldsOf 110)):=by kernel_rfl
 have hp:Tryz.prog.stoodInHeld 110=false:=by kernel_rfl
 simp only[<- eqB,aLL];rw[run_eql_struct,show(10000:Nat)=9999+1 from rfl,run_equalIn_agg w 9999 110 _ _ hS hp];simp only[Program.fieldsOf,Tryz.underlying110];go_simp;by_cases h1:x.a=y.a <;> by_cases h2:x.l=y.l <;> by_cases h3:x.b=y.b <;> simp[h1,h2,h3]
theorem aVt:NeqAt Tryz.prog 110 (fun x=>.agg (aLL x).toArray) (fun x y=>decide (x=y)):=by
 refine⟨fun x y w=>?_,GuardAt.agg _ oK⟩;have u3:=Tryz.underlying3;have a3:=Tryz.isAgg3;have z3:=Tryz.sizeOf3;have hS:Tryz.prog.underlying 110=some (.struct (Tryz.prog.fieldsOf 110)):=by kernel_rfl
 have hp:Tryz.prog.stoodInHeld 110=false:=by kernel_rfl
 simp only[<- eqB,aLL];rw[run_neq_struct,show(10000:Nat)=9999+1 from rfl,run_equalIn_agg w 9999 110 _ _ hS hp];simp only[Program.fieldsOf,Tryz.underlying110];go_simp;by_cases h1:x.a=y.a <;> by_cases h2:x.l=y.l <;> by_cases h3:x.b=y.b <;> simp[h1,h2,h3]
theorem aHl(e f:Ed){v:Bool}(h:decide (e=f)=v)(w:World):Sem.run Tryz.prog (binOp .eql 110 e.v f.v) w=.ok (.bool v) w:=h ▸ aUj.1 e f w
theorem aJT(e f:Ed)(op:BinOp)(a b:Operand)(w:World):Sem.run Tryz.prog (eqGuard op 110 a b e.v f.v) w=.ok () w:=aUj.2 op a b e f w
theorem aHH(e f:Ed){v:Bool}(h:decide (e≠f)=v)(w:World):Sem.run Tryz.prog (binOp .neq 110 e.v f.v) w=.ok (.bool v) w:=by
 have h1:(!decide (e=f))=v:=by rw[<- h];simp
 exact h1 ▸ aVt.1 e f w
theorem RG.encs{w:World}{lo hi b off:Nat}{es:List Ed}(h:RG w lo hi (some ⟨b,off,none⟩) es):∀ j,j<es.length->∀ i v,(aLL es[j]!)[i]?=some v->w.cell? ⟨b,off+j * 3+i,none⟩=some v:=by
 intro j hj i v hv;obtain⟨b',a0,e,hA, -, -,he,c0,c1,c2⟩:=h.ed hj;injection hA with hA
 injection hA with h1 h2
 subst h1 h2;rw[List.getElem!_eq_getElem?_getD,he] at hv;rcases aTa hv with⟨rfl,rfl⟩|⟨rfl,rfl⟩|⟨rfl,rfl⟩
 .exact c0
 .exact c1
 exact c2
theorem RG.addr{w:World}{lo hi:Nat}{A:OA}{es:List Ed}(h:RG w lo hi A es)(hn:es≠[]):∃ b a0,A=some ⟨b,a0,none⟩:=by
 obtain⟨b,a0,hA, -⟩:=h.2 (by intro h0;have:=congrArg List.length h0;rw[aAB,aEm] at this;simp at this;exact hn (List.eq_nil_of_length_eq_zero oO));exact⟨b,a0,hA⟩
theorem aRJ(A:OA)(c:Nat)(e:Ed)(w:World) :
  Calls Tryz.prog 261 #[.slice A 0 c,e.v] w fun en w'=>en=.returned (.int .i64 (-1))/\Mid 0 0 w w':=by
 obtain⟨a,l,b⟩:=e;go_enter Tryz.func261,Tryz.ntmps261
 go_wp2_with fail;go_loop [8] (fun i=>i=.int .i64 0) (fun _=>0)
 case atStart=>rfl
 subst hrel;go_wp2_with fail;go_ret;exact⟨rfl,oE _ _⟩
theorem aMS(A:OA)(c:Nat)(e:Ed)(w:World) :
  Calls Tryz.prog 245 #[.slice A 0 c,e.v] w fun en w'=>en=.returned (.bool false)/\Mid 0 0 w w':=by
 obtain⟨a,l,b⟩:=e;go_enter Tryz.func245,Tryz.ntmps245
 go_wp2_with fail;with_reducible refine(aRJ A c ⟨a,l,b⟩ _).mono ?_
 rintro en w1 ⟨rfl,hm⟩;go_wp2_with fail;go_ret;exact⟨rfl,(oE _ _).trans hm⟩
theorem aRr(A:OA)(es:List Ed)(c:Nat)(e:Ed)(w:World)(lo hi:Nat)(hr:RG w lo hi A es)(hl:es.length<=1048576) :
  Calls Tryz.prog 245 #[.slice A es.length c,e.v] w fun en w'=>en=.returned (.bool (decide (e∈es)))/\Mid 0 0 w w':=by
 by_cases hn:es=[]
 .subst hn
  exact aMS A c e w
 obtain⟨b,a0,rfl⟩:=hr.addr hn;refine(AnyQ.slices_Contains Tryz.containsEd 3 Tryz.isAgg110 Tryz.sizeOf110 aLL (fun _=>rfl) _ aUj b a0 es.length c es e w oN oO hr.encs).mono ?_;rintro en w' ⟨he,hb⟩;refine⟨he.trans ?_,Mid.of_below hb⟩;rw[List.take_length]
 congr 2
 rw[Bool.eq_iff_iff];simp
theorem aRc(xs ys:List Ed):Lib.allEq (fun x y=>decide (x=y)) xs ys=decide (xs=ys):=by
 rw[Bool.eq_iff_iff,decide_eq_true_iff]
 induction xs generalizing ys with
|nil=>cases ys <;> simp[Lib.allEq]
|cons x t ih=>
  cases ys with
 |nil=>simp[Lib.allEq]
 |cons y s=>
   have:=ih s;simp[Lib.allEq,this]
theorem aRy(A A':OA)(n c c':Nat)(es:List Ed)(w:World)(lo hi:Nat)(hr:RG w lo hi A es)(hn:es.length<=1048576) :
  Calls Tryz.prog 236 #[.slice A es.length c,.slice A' 0 c'] w fun en w'=>en=.returned (.bool (decide (es.length=0)))/\Mid 0 0 w w':=by
 by_cases h0:es.length=0
 .have hd:decide (es.length=0)=true:=by simp[h0]
  rw[hd,h0];go_enter Tryz.func236,Tryz.ntmps236
  go_wp2_with fail;go_loop [13] (fun i=>i=.int .i64 0) (fun _=>0)
  case atStart=>rfl
  subst hrel;go_wp2_with fail;go_ret;exact⟨rfl,Mid.refl _ _ _⟩
 have hd:decide (es.length=0)=false:=by simp[h0]
 rw[hd];have h1:((es.length:Int) != 0)=true:=by first|(simp only[bne_iff_ne,ne_eq];omega)|(simp only[beq_eq_false_iff_ne,ne_eq];omega)
 go_enter Tryz.func236,Tryz.ntmps236
 go_wp2_with fail;go_ret;exact⟨rfl,Mid.refl _ _ _⟩
theorem aQq(A A':OA)(c c':Nat)(es:List Ed)(w:World)(hn:es≠[])(hl:es.length<=1048576) :
  Calls Tryz.prog 236 #[.slice A 0 c,.slice A' es.length c'] w fun en w'=>en=.returned (.bool false)/\Mid 0 0 w w':=by
 have h0:0<es.length:=List.length_pos_iff.2 hn;have h1:((0:Int) != (es.length:Int))=true:=by first|(simp only[bne_iff_ne,ne_eq];omega)|(simp only[beq_eq_false_iff_ne,ne_eq];omega)
 have h2:((0:Int) == (es.length:Int))=false:=by first|(simp only[bne_iff_ne,ne_eq];omega)|(simp only[beq_eq_false_iff_ne,ne_eq];omega)
 go_enter Tryz.func236,Tryz.ntmps236
 go_wp2_with fail;go_ret;exact⟨rfl,Mid.refl _ _ _⟩
theorem aVg(A A':OA)(es fs:List Ed)(c c':Nat)(w:World)(lo hi lo' hi':Nat)(hr:RG w lo hi A es)(a1:RG w lo' hi' A' fs)(hl:es.length<=1048576)(a2:fs.length<=1048576) :
  Calls Tryz.prog 236 #[.slice A es.length c,.slice A' fs.length c'] w fun en w'=>en=.returned (.bool (decide (es=fs)))/\Mid 0 0 w w':=by
 by_cases hf:fs=[]
 .subst hf
  have:=aRy A A' 0 c c' es w lo hi hr hl;have hd:decide (es.length=0)=decide (es=[]):=by simp[List.length_eq_zero_iff]
  rw[hd] at this;exact this
 by_cases hn:es=[]
 .subst hn
  have hd:decide ([]=fs)=false:=by simpa using fun h=>hf h
  rw[hd];exact aQq A A' c c' fs w hf a2
 obtain⟨b,a3,rfl⟩:=hr.addr hn;obtain⟨b',a0,rfl⟩:=a1.addr hf;refine(AnyQ.slices_Equal Tryz.equalEd 3 Tryz.isAgg110 Tryz.sizeOf110 aLL (fun _=>rfl) _ aVt b a3 es.length c b' a0 fs.length c' es fs w oN oN oO oO hr.encs a1.encs).mono ?_;rintro en w' ⟨he,q,rfl⟩;refine⟨he.trans ?_,(Mid.refl 0 0 w).drewN q⟩;rw[List.take_length,List.take_length,aRc]
theorem aOi(W:World)(o1 o2:Obj):(W.alloc o1).alloc o2=grow (W.drewN 0) (#[o1]++#[o2]):=by
 rw[alloc_eq_grow,alloc_eq_grow,grow_grow]
 rfl
theorem aRn(x y:Ed)(W:World) :
  Calls Tryz.prog 204 #[.agg (aLL x).toArray,.agg (aLL y).toArray] W fun e w'=>e=.returned (.int .i64 (aEM x y))/\∃ q os',w'=grow (W.drewN q) os':=
 (aEc x y W).mono fun _ _ ⟨h,hw⟩=>⟨h,0,_,hw.symm.trans (aOi _ _ _)⟩
theorem aSR:SWO (ltOf aEM) where
 irrefl x:=by
  simp only[ltOf,decide_eq_false_iff_not];exact fun h=>LtE.irrefl x (aBv.1 h)
 trans x y z h1 h2:=by
  simp only[ltOf,decide_eq_true_iff] at *;exact aBv.2 ((aBv.1 h1).trans (aBv.1 h2))
 ntrans x y z h1 h2:=by
  simp only[ltOf,decide_eq_false_iff_not] at *;have n1:¬ LtE x y:=fun h=>h1 (aBv.2 h);have n2:¬ LtE y z:=fun h=>h2 (aBv.2 h);have:¬ LtE x z:=by
   intro h;rcases LtE.tri x y with h3|rfl|h3
   .exact n1 h3
   .exact n2 h
   .exact n2 (h3.trans h)
  exact fun h=>this (aBv.1 h)
theorem aVk(d:Array Ed):(flatK aLL 3 d).toList=aAe (edI d.toList):=by
 apply List.ext_getElem?;intro t;by_cases ht:t<d.size * 3
 .obtain⟨k,r,hr,rfl⟩:∃ k r,r<3/\t=k * 3+r:=⟨t / 3,t % 3,oO,oO⟩
  have hk:k<d.size:=by omega
  have h1:(k * 3+r) / 3=k:=by omega
  have h2:(k * 3+r) % 3=r:=by omega
  obtain⟨g0,g1,g2⟩:=aRx (es:=d.toList) (k:=k) (e:=d[k]) oM;rw[Array.getElem?_toList,aAP];simp only[flatK,Array.getElem?_map,Array.getElem?_range,if_pos ht,Option.map_some,h1,h2,getElem!_pos d k hk];rcases r with _|_|_|r
  .rw[Nat.add_zero,g0];rfl
  .rw[g1];rfl
  .rw[g2];rfl
  omega
 rw[List.getElem?_eq_none (by simp;omega),List.getElem?_eq_none (by rw[aAB,aEm];simp;omega)]
theorem aSd{w:World}{base:Nat}{e:TypeId}{size g n cap q:Nat}{xs:List Value}{d:Array Value}(h:w.ownsRow base e size (.slice (some ⟨g,0,none⟩) n cap) n xs)(hd:d.size=n * size) :
  (putRow id (Sort.ahead w q) g 0 d).ownsRow base e size (.slice (some ⟨g,0,none⟩) n cap) n d.toList:=by
 rcases h.2 with⟨e0,_⟩|⟨g',cap',cur,e0,hb,hg,hn,hm,hs,ht⟩
 .cases e0
 injection e0 with e1 _ e3
 injection e1 with e1
 injection e1 with e1
 subst e1;subst e3;have a1:n * size<=cap * size:=Nat.mul_le_mul_right _ hn;refine⟨by simpa using hd,.inr ⟨g,cap,putCells id 0 d cur,rfl,hb,?_,hn,hm,by simpa [putCells] using hs,?_⟩⟩
 .simp[putRow,mapBlock,Sort.ahead,Array.getElem?_modify,hg,onCells]
 apply List.ext_getElem?;intro j;rw[List.getElem?_take,Array.getElem?_toList,Array.getElem?_toList];by_cases hj:j<n * size
 .have a0:j<cur.size:=by omega
  simp only[if_pos hj,putCells,Array.getElem?_mapIdx,Array.getElem?_eq_getElem a0,Option.map_some];rw[if_pos (by simp;omega),Array.getElem?_eq_getElem oO];simp[getElem!_pos,show j<d.size by omega]
 rw[if_neg hj,Array.getElem?_eq_none oO]
theorem aSp{w:World}{g n:Nat}{d:Array Value}{os:Array Obj}:w.grownBy (grow (putRow id (Sort.ahead w n) g 0 d) os) (some g):=by
 refine⟨rfl,rfl,rfl,by simp,fun k hk hne=>?_⟩;rw[heap_grow_old _ _ (by simpa using hk)];have:g≠k:=fun e=>hne (by rw[e]);simp[putRow,mapBlock,Sort.ahead,Array.getElem?_modify,this]
theorem aQI{w:World}{base:Nat}{e:TypeId}{size:Nat}{v:Value}{n:Nat}{xs:List Value}(h:w.ownsRow base e size v n xs)(os:Array Obj):(grow w os).ownsRow base e size v n xs:=by
 refine⟨h.1,?_⟩;rcases h.2 with hn|⟨g,cap,cur,rfl,hb,hh,rest⟩
 .exact .inl hn
 refine .inr ⟨g,cap,cur,rfl,hb,?_,rest⟩;rw[heap_grow_old _ _ (Array.getElem?_eq_some_iff.1 hh).1];exact hh
theorem aVK(g:Nat)(es:List Ed)(c:Nat)(w:World)(lo:Nat)(ho:w.ownsRow lo 110 3 (.slice (some ⟨g,0,none⟩) es.length c) es.length (aAe (edI es)))(hl:es.length<=1048576) :
  Calls Tryz.prog 203 #[.slice (some ⟨g,0,none⟩) es.length c,.func (.func 204) #[] #[]] w fun e w'=>
   e=.returned (.tuple #[])/\∃ fs,fs.length=es.length/\fs.Perm es/\fs.Pairwise (fun x y=>¬ LtE y x)/\w'.ownsRow lo 110 3 (.slice (some ⟨g,0,none⟩) es.length c) es.length (aAe (edI fs))/\w.grownBy w' (some g):=by
 have hg:=ho.lt g rfl;have hH:HoldsK aLL 3 w g 0 es.toArray:=by
  intro j hj;rw[size_flatK] at hj;have a4:j<es.length * 3:=by simpa using hj
  refine⟨?_,ho.frozenAt _⟩;rw[Nat.zero_add,ho.cellAt j a4];have:=aVk es.toArray;rw[show es.toArray.toList=es from rfl] at this;rw[<- this,Array.getElem?_toList,Array.getElem?_eq_getElem (by rw[size_flatK];exact hj)];rw[getElem!_pos _ _ (by rw[size_flatK];exact hj)]
  rfl
 have eg:∀ args w,(callFunc 204 args).run Tryz.prog w=.ok (.enter 204 args) w:=enters_of Tryz.func204 oK rfl;have a3:=AnyQ.slices_SortFunc Tryz.sortEd 3 Tryz.isAgg110 Tryz.sizeOf110 aLL (fun _=>rfl) (fun x v hv=>by simp[aLL] at hv;rcases hv with rfl|rfl|rfl <;> rfl) aEM aSR 204 #[] g 0 c es.toArray w eg (fun _ _ _ _ x y=>aRn x y _) hH hg.2 (by simp;omega);refine(show Calls Tryz.prog 203 _ _ _ from a3).mono ?_;rintro e w' ⟨he,d,n,os,hp,hs,rfl⟩;obtain⟨a6, -,a1⟩:=hp;have a0:d.size=es.length:=by simpa using a6
 have a2:d.toList.Perm es:=by
  rw[show d.extract 0 es.toArray.size=d by rw[show es.toArray.size=d.size by simp[a0]];simp] at a1
  simpa using a1
 refine⟨he,d.toList,by simpa using a0,a2,?_,?_,aSp⟩
 .refine List.pairwise_iff_getElem.2 fun i j hi hj hij=>?_
  have h:=hs i j oZ hij (by simpa [a0] using hj);have hi':i<d.size:=by simpa using hi
  have a4:j<d.size:=by simpa using hj
  rw[getElem!_pos d i hi',getElem!_pos d j a4] at h;simp only[ltOf,decide_eq_false_iff_not] at h;intro a5;exact h (aBv.2 (by simpa using a5))
 have h2:=aSd (q:=n) (d:=flatK aLL 3 d) ho (by rw[size_flatK,a0]);rw[aVk] at h2;exact aQI h2 os
end
def aCy(out:List Ed)(e:Ed):List Ed:=if out.getLast?=some e then out else out++[e]
def aBN(es:List Ed):List Ed:=es.foldl aCy []
theorem aIc(xs:List Ed)(e:Ed):aBN (xs++[e])=aCy (aBN xs) e:=by simp[aBN]
theorem aLH(out:List Ed)(e:Ed):(aCy out e).getLast?=some e:=by
 unfold aCy;split
 .assumption
 simp
theorem aBh{es:List Ed}{k:Nat}{e:Ed}(h:es[k]?=some e):es.take (k+1)=es.take k++[e]:=by
 obtain⟨hk,h'⟩:=List.getElem?_eq_some_iff.1 h;rw[List.take_succ_eq_append_getElem hk,h']
theorem aEt{es:List Ed}{k:Nat}{e:Ed}(h:es[k]?=some e):aBN (es.take (k+1))=aCy (aBN (es.take k)) e:=by rw[aBh h,aIc]
theorem aGb{es:List Ed}{k:Nat}{e:Ed}(h:es[k]?=some e):(aBN (es.take (k+1))).getLast?=some e:=by rw[aEt h];exact aLH _ _
theorem aNy{out:List Ed}{e x:Ed}:x∈aCy out e↔x∈out \/ x=e:=by
 unfold aCy;split
 .rename_i h
  have:=List.mem_of_getLast? h;constructor
  .exact .inl
  rintro(h|rfl)
  .exact h
  exact this
 simp
theorem aPX{p:List Ed->Prop}(h0:p [])(h1:∀ xs e,p xs->p (xs++[e]))(xs:List Ed):p xs:=by
 rw[<- List.reverse_reverse xs]
 induction xs.reverse with
|nil=>exact h0
|cons e t ih=>rw[List.reverse_cons];exact h1 _ _ ih
theorem aKf{xs:List Ed}{x:Ed}:x∈aBN xs↔x∈xs:=by
 induction xs using aPX with
|h0=>simp[aBN]
|h1 xs e ih=>rw[aIc,aNy,ih];simp
theorem aRq{xs:List Ed}(h:xs.Pairwise fun x y=>¬ LtE y x):Asc (aBN xs):=by
 induction xs using aPX with
|h0=>exact List.Pairwise.nil
|h1 xs e ih=>
  obtain⟨h1, -,h2⟩:=List.pairwise_append.1 h;have ha:=ih h1;rw[aIc];unfold aCy;split
  .exact ha
  rename_i hl;refine List.pairwise_append.2 ⟨ha,by simp,fun y hy z hz=>?_⟩;simp at hz;subst hz;have h3:=h2 y (aKf.1 hy) z oM;rcases LtE.tri y z with h4|rfl|h4
  .exact h4
  .exfalso
   obtain⟨ys,l,a0⟩:∃ ys l,aBN xs=ys++[l]:=by
    rcases List.eq_nil_or_concat (aBN xs) with h0|⟨ys,l,h0⟩
    .rw[h0] at hy;simp at hy
    exact⟨ys,l,by rw[h0,List.concat_eq_append]⟩
   have a2:l≠y:=by
    intro e;subst e;apply hl;rw[a0];simp
   have a3:y∈ys:=by
    rw[a0] at hy;rcases List.mem_append.1 hy with h|h
    .exact h
    simp at h;exact absurd h.symm a2
   rw[a0] at ha;obtain⟨-, -,h5⟩:=List.pairwise_append.1 ha;have h6:=h5 y a3 l oM;have a1:l∈xs:=aKf.1 (by rw[a0];simp);exact h2 l a1 y oM h6
  exact absurd h4 h3
theorem aOn{xs es:List Ed}(h:xs.Pairwise fun x y=>¬ LtE y x)(hp:xs.Perm es):aBN xs=canon es:=
 aPm (aRq h) fun e=>by rw[aKf];exact hp.mem_iff
structure CompAt (es:List Ed) (j kk:Nat) (ys:List Ed):Prop where
 len:ys.length=es.length
 lt:kk<j
 cnt:kk=(aBN (es.take j)).length
 low:ys.take kk=aBN (es.take j)
 high:∀ i,kk<=i->ys[i]?=es[i]?
theorem CompAt.start{es:List Ed}{k:Nat}{e:Ed}(h:aBN (es.take k)=es.take k)(h0:0<k)(hk:es[k]?=some e)(hp:es[k - 1]?=some e):CompAt es (k+1) k es:=by
 have a0:=(List.getElem?_eq_some_iff.1 hk).1;have hl:(aBN (es.take k)).getLast?=some e:=by
  have:=aGb hp
  rwa [Nat.sub_add_cancel h0] at this
 have hc:aBN (es.take (k+1))=es.take k:=by
  rw[aEt hk,aCy,if_pos hl,h]
 exact⟨rfl,oO,by rw[hc,List.length_take];omega,hc.symm,fun _ _=>rfl⟩
theorem CompAt.skip{es ys:List Ed}{j kk:Nat}{e:Ed}(h:CompAt es j kk ys)(hj:es[j]?=some e)(hp:es[j - 1]?=some e):CompAt es (j+1) kk ys:=by
 have h0:=h.lt;have hl:(aBN (es.take j)).getLast?=some e:=by
  have:=aGb hp
  rwa [Nat.sub_add_cancel oO] at this
 have hc:aBN (es.take (j+1))=aBN (es.take j):=by rw[aEt hj,aCy,if_pos hl]
 exact⟨h.len,oO,by rw[hc];exact h.cnt,by rw[hc];exact h.low,h.high⟩
theorem CompAt.keep{es ys:List Ed}{j kk:Nat}{e f:Ed}(h:CompAt es j kk ys)(hj:es[j]?=some e)(hp:es[j - 1]?=some f)(a1:e≠f):CompAt es (j+1) (kk+1) (ys.set kk e):=by
 have h0:=h.lt;have a2:=(List.getElem?_eq_some_iff.1 hj).1;have hl:(aBN (es.take j)).getLast?=some f:=by
  have:=aGb hp
  rwa [Nat.sub_add_cancel oO] at this
 have hc:aBN (es.take (j+1))=aBN (es.take j)++[e]:=by
  rw[aEt hj,aCy,if_neg];rw[hl];intro h;injection h with h
  exact a1 h.symm
 have a0:kk<ys.length:=by rw[h.len];omega
 refine⟨by simpa using h.len,oO,by rw[hc,List.length_append,<- h.cnt];rfl,?_,fun i hi=>?_⟩
 .rw[hc,<- h.low,List.take_succ_eq_append_getElem (by simpa using a0),List.getElem_set_self,List.take_set_of_le oN]
 rw[List.getElem?_set_ne oO];exact h.high i oO
theorem CompAt.done{es ys:List Ed}{kk:Nat}(h:CompAt es es.length kk ys):kk=(aBN es).length/\ys.take kk=aBN es:=by
 have h1:=h.cnt;have h2:=h.low;rw[List.take_length] at h1 h2;exact⟨h1,h2⟩
theorem aQn{es:List Ed}{k:Nat}{e f:Ed}(h:aBN (es.take k)=es.take k)(h0:0<k)(hk:es[k]?=some e)(hp:es[k - 1]?=some f)(a0:e≠f):aBN (es.take (k+1))=es.take (k+1):=by
 have hl:(aBN (es.take k)).getLast?=some f:=by
  have:=aGb hp
  rwa [Nat.sub_add_cancel h0] at this
 rw[aEt hk,aCy,if_neg,h,aBh hk];rw[hl];intro h;injection h with h
 exact a0 h.symm
theorem aMP(es:List Ed)(h:es.length<=1):aBN es=es:=by
 match es,h with
|[],_=>rfl
|[e],_=>rfl
theorem aGP{w:World}{lo g n c:Nat}{ys:List Ed}(h:w.ownsRow lo 110 3 (.slice (some ⟨g,0,none⟩) n c) n (aAe (edI ys))){i:Nat}{e:Ed}(hi:ys[i]?=some e) :
  w.cell? ⟨g,i * 3,none⟩=some (.int .i64 e.a)/\w.cell? ⟨g,i * 3+1,none⟩=some (.int .i64 e.l)/\w.cell? ⟨g,i * 3+2,none⟩=some (.int .i64 e.b):=by
 obtain⟨g0,g1,g2⟩:=aRx hi;have hl:=h.1;rw[aAB,aEm] at hl;have a0:=(List.getElem?_eq_some_iff.1 hi).1;exact⟨by rw[h.cellAt _ oO,aAP,g0];rfl,by rw[h.cellAt _ oO,aAP,g1];rfl,by rw[h.cellAt _ oO,aAP,g2];rfl⟩
theorem aUi(ys:List Ed){k:Nat}(e:Ed)(hk:k<ys.length) :
  (((aAe (edI ys)).set (k * 3) (.int .i64 e.a)).set (k * 3+1) (.int .i64 e.l)).set (k * 3+2) (.int .i64 e.b)=aAe (edI (ys.set k e)):=by
 have h:=aSZ (ys.set k e) (k:=k) (e:=e) (by rw[List.getElem?_set_self hk]) (aAe (edI ys)) (by rw[aAB,aEm];simp);have h1:aAe (edI ((ys.set k e).take k))++(aAe (edI ys)).drop (k * 3)=aAe (edI ys):=by
  rw[List.take_set_of_le oN,aPs,show aAe ((edI ys).take (k * 3))=(aAe (edI ys)).take (k * 3) by simp[aAe]];exact List.take_append_drop _ _
 rw[h1] at h;rw[h];have h2:(aAe (edI ys)).drop ((k+1) * 3)=aAe (edI ((ys.set k e).drop (k+1))):=by
  rw[List.drop_set_of_lt oO,aLK];simp[aAe]
 rw[h2,<- aAi,<- aCW,List.take_append_drop]
theorem aNA{w:World}{lo g n c:Nat}{ys:List Ed}(h:w.ownsRow lo 110 3 (.slice (some ⟨g,0,none⟩) n c) n (aAe (edI ys))){k:Nat}(e:Ed)(hk:k<ys.length) :
  (((w.setCell ⟨g,k * 3,none⟩ (.int .i64 e.a)).setCell ⟨g,k * 3+1,none⟩ (.int .i64 e.l)).setCell ⟨g,k * 3+2,none⟩ (.int .i64 e.b)).ownsRow lo 110 3 (.slice (some ⟨g,0,none⟩) n c) n (aAe (edI (ys.set k e))):=by
 have:=aHL (aHL (aHL h (k * 3) (.int .i64 e.a) rfl) (k * 3+1) (.int .i64 e.l) rfl) (k * 3+2) (.int .i64 e.b) rfl
 rwa [aUi ys e hk] at this
theorem aHM{lo g n c size:Nat}{e:TypeId}{xs:List Value}:∀(vs:List Value) (o:Nat) {w:World},n * size<=o->w.ownsRow lo e size (.slice (some ⟨g,0,none⟩) n c) n xs->(w.setCells g o vs).ownsRow lo e size (.slice (some ⟨g,0,none⟩) n c) n xs
|[],_,_,_,h=>h
|v::r,o,w,ho,h=>aHM r (o+1) oO (aHL h o v (List.set_eq_of_length_le (by have:=h.1;omega)))
theorem aGv{w0:World}{g:Nat}:∀(vs:List Value) (o:Nat) {w:World},w0.grownBy w (some g)->w0.grownBy (w.setCells g o vs) (some g)
|[],_,_,h=>h
|v::r,o,w,h=>aGv r (o+1) (aBD h o v)
theorem aQQ(w:World)(ty:TypeId)(b o n c:Nat)(hn:0<n)(hc:∀ j,j<n * 3->(w.cell? ⟨b,o+j,none⟩).isSome=true)(hf:∀ j,j<n * 3->w.frozen? ⟨b,o+j,none⟩=false) :
  (Builtin.clear_ #[33] ty #[.slice (some ⟨b,o,none⟩) n c]).run Tryz.prog w=.ok (.tuple #[]) (w.setCells b o (List.replicate (n * 3) (.int .i64 0))):=by
 have a2:(Builtin.zeroCells (Value.agg #[(0:Int),(0:Int),(0:Int)]).cells n).toList=List.replicate (n * 3) (.int .i64 0):=by
  apply List.ext_getElem
  .simp[Builtin.zeroCells,Value.cells]
  intro i h1 h2;have h3:i % 3<3:=Nat.mod_lt _ oD;simp[Builtin.zeroCells,Value.cells];rcases(show i % 3=0 \/ i % 3=1 \/ i % 3=2 by omega) with h|h|h <;> simp[h]
 have a0:=run_storeCells_cells (P:=Tryz.prog) b o (List.replicate (n * 3) (.int .i64 0)) 0 w (by simpa using hc) (by simpa using hf) (by intro v a1;rw[List.eq_of_mem_replicate a1];rfl);simp only[Nat.add_zero] at a0;have hv:=Tryz.zeroValue110;obtain⟨m,rfl⟩:∃ m,n=m+1:=⟨n - 1,oO⟩
 simp[Builtin.clear_,run_underlying aMH,hv,a2,a0]
theorem aSU(g:Nat)(es:List Ed)(c:Nat)(w:World)(lo:Nat)(ho:w.ownsRow lo 110 3 (.slice (some ⟨g,0,none⟩) es.length c) es.length (aAe (edI es)))(hl:es.length<=1048576) :
  Calls Tryz.prog 205 #[.slice (some ⟨g,0,none⟩) es.length c] w fun e w'=>e=.returned (.slice (some ⟨g,0,none⟩) (aBN es).length c) /\
   w'.ownsRow lo 110 3 (.slice (some ⟨g,0,none⟩) (aBN es).length c) (aBN es).length (aAe (edI (aBN es)))/\w.grownBy w' (some g):=by
 obtain⟨aX,aI⟩:es.length<=c/\c<=maxLen:=by
  obtain⟨A',c',hv,h1,h2⟩:=aAc ho;injection hv with _ _ h3
  subst h3;exact⟨h1,h2⟩
 have aI:c<=9223372036854775807:=by unfold maxLen at aI;omega
 by_cases h2:es.length<2
 .have hd:decide ((es.length:Int)<2)=true:=by simp;omega
  have aN:=aMP es oO;go_enter Tryz.func205,Tryz.ntmps205
  go_wp2_with fail;go_ret;rw[aN];exact⟨rfl,ho,World.grownBy.refl _ _⟩
 have hd:decide ((es.length:Int)<2)=false:=by simp;omega
 have HO:=oH ho;clear ho;go_enter Tryz.func205,Tryz.ntmps205
 go_wp2_with fail;go_loopw [3] (fun i wr=>∃ k q:Nat,1<=k/\k<=es.length/\i=.int .i64 k/\Hid (aBN (es.take k)=es.take k)/\wr=w.drewN q) (fun i _=>es.length - (intOf i).toNat)
 case atStart=>exact⟨1,0,oN,oO,rfl,oH (aMP _ (by simp;omega)),rfl⟩
 obtain⟨k,q,ab,hk,rfl,HC,rfl⟩:=hrel;by_cases hlt:k<es.length
 .obtain⟨e,he⟩:=aAy es hlt
  obtain⟨f,hf⟩:=aAy es (show k - 1<es.length by omega);obtain⟨c0,c1,c2⟩:=aGP HO.out he;obtain⟨m,hm⟩:∃ m,k=m+1:=⟨k - 1,oO⟩
  have a7:=hf;rw[hm,Nat.add_sub_cancel] at a7;obtain⟨p0,p1,p2⟩:=aGP HO.out a7;have aa:(0:Int)<=(k:Int):=by omega
  have ae:(k:Int)<(es.length:Int):=by omega
  have aQ:(k:Int) - 1=(m:Int):=by omega
  have aV:IntKind.i64.wrap (m:Int)=(m:Int):=oI _;have ag:(0:Int)<=(m:Int):=by omega
  have ah:(m:Int)<(es.length:Int):=by omega
  have aK:=aJT e f;have HE:=oH he;have HF:=oH hf;have HM:=oH hm;by_cases hef:e=f
  .have hq:=aHl e f (show decide (e=f)=true by simp[hef])
   have a8:=oH hef;have aY:(c=k)=False:=eq_false oO;have ad:(k:Int)<=(c:Int):=by omega
   clear he hf a7 hm hef;go_wp2_with fail;go_quiet (fail)
   clear hq aK c0 c1 c2 p0 p1 p2 aQ aV;go_wp2_with fail;have HS:=HC.out;go_loopw [3,5] (fun s3 s5 wr=>∃ kk k2:Nat,∃ ys:List Ed,s3=.int .i64 kk/\s5=.int .i64 k2/\1<=k2/\k+k2<=es.length/\Hid (CompAt es (k+k2) kk ys) /\
     wr.ownsRow lo 110 3 (.slice (some ⟨g,0,none⟩) es.length c) es.length (aAe (edI ys))/\w.grownBy wr (some g)) (fun _ s5 _=>es.length - (intOf s5).toNat)
   case atStart=>exact⟨k,1,es,rfl,rfl,oN,oO,oH (CompAt.start HC.out oO HE.out (by rw[a8.out];exact HF.out)),HO.out,aDa (aDF (Below.refl _ w) _) _⟩
   obtain⟨kk,k2,ys,rfl,rfl,h1,af,HI,a0,hg⟩:=hrel;have aS:=HI.out.lt;have aJ:=fun i=>a0.frozenAt i;have a1:=HI.out.len;have HY:=oH a1;clear a1 HS;by_cases hlt2:k+k2<es.length
   .obtain⟨e1,a9⟩:=aAy es hlt2
    obtain⟨m2,aL⟩:∃ m2,k2=m2+1:=⟨k2 - 1,oO⟩
    obtain⟨f1,aA⟩:=aAy es (show k+m2<es.length by omega);obtain⟨c0,c1,c2⟩:=aGP a0 ((HI.out.high _ oO).trans a9);obtain⟨p0,p1,p2⟩:=aGP a0 ((HI.out.high _ oO).trans aA);rw[show(k+k2) * 3=k * 3+k2 * 3 by omega] at c0 c1 c2;rw[show(k+m2) * 3=k * 3+m2 * 3 by omega] at p0 p1 p2;obtain⟨ai,a5⟩:=aAy ys (show kk<ys.length by have:=HY.out;omega);obtain⟨o0,o1,o2⟩:=aGP a0 a5;have a4:es[k+k2 - 1]?=some f1:=by rw[aL,show k+(m2+1) - 1=k+m2 by omega];exact aA
    have aF:=oH a9;have aG:=oH a4;have a6:=oH a0;have aO:(0:Int)<=(k2:Int):=by omega
    have aC:(k2:Int)<(es.length:Int) - (k:Int):=by omega
    have aB:k2<es.length - k:=by omega
    have aR:(k2:Int) - 1=(m2:Int):=by omega
    have aW:IntKind.i64.wrap (m2:Int)=(m2:Int):=oI _;have aT:(0:Int)<=(m2:Int):=by omega
    have aU:(m2:Int)<(es.length:Int) - (k:Int):=by omega
    have aD:(0:Int)<=(kk:Int):=by omega
    have aE:(kk:Int)<(es.length:Int):=by omega
    have aK:=aJT e1 f1;clear a9 aA a4 a5 a0 aL;by_cases hef1:e1=f1
    .have hq:=aHH e1 f1 (show decide (e1≠f1)=false by simp[hef1])
     have a2:=oH hef1;clear hef1;go_wp2_with fail;go_quiet (fail)
     go_wp2_with fail;go_roundw
     case rel=>exact⟨kk,k2+1,ys,rfl,by go_num,oO,oO,oH (HI.out.skip aF.out (by rw[a2.out];exact aG.out)),aBJ a6.out _,aCB hg (aDa (aDF (Below.refl _ _) _) _)⟩
     simp[intOf];omega
    have hq:=aHH e1 f1 (show decide (e1≠f1)=true by simp[hef1]);have a2:=oH hef1;clear hef1;go_wp2_with fail;go_quiet (fail)
    go_wp2_with fail;go_roundw
    case rel=>exact⟨kk+1,k2+1,ys.set kk e1,by go_num,by go_num,oO,oO,oH (HI.out.keep aF.out aG.out a2.out),aNA (aBJ a6.out _) e1 (by have:=HY.out;omega),aBD (aBD (aBD (aCB hg (aDa (aDF (Below.refl _ _) _) _)) _ _) _ _) _ _⟩
    simp[intOf];omega
   have a3:k+k2=es.length:=by omega
   have aC:¬ (k2:Int)<(es.length:Int) - (k:Int):=by omega
   have aB:¬ k2<es.length - k:=by omega
   have aP:(c=kk)=False:=eq_false oO;have aD:(0:Int)<=(kk:Int):=by omega
   have aE:(kk:Int)<=(es.length:Int):=by omega
   have aZ:∀ ty,(Builtin.clear_ #[33] ty #[.slice (some ⟨g,kk * 3,none⟩) (es.length - kk) (c - kk)]).run Tryz.prog wr=.ok (.tuple #[]) (wr.setCells g (kk * 3) (List.replicate ((es.length - kk) * 3) (.int .i64 0))):=
    fun ty=>aQQ wr ty g (kk * 3) _ _ oO (fun j hj=>by rw[a0.cellAt _ oO,List.getElem?_eq_getElem (by have:=a0.1;omega)];rfl) (fun j hj=>aJ _)
   have a6:=oH a0;have HN:=oH a3;clear a0 a3 aJ;go_wp2_with fail;go_ret;have hI:=HI.out;rw[HN.out] at hI;obtain⟨d1,d2⟩:=hI.done;have h3:=aHM (List.replicate ((es.length - kk) * 3) (.int .i64 0)) (kk * 3) oN (aHK a6.out (m:=kk) oO);rw[show(aAe (edI ys)).take (kk * 3)=aAe (edI (ys.take kk)) by rw[aPs];simp[aAe],d2] at h3;rw[d1] at h3 |-;exact⟨rfl,h3,aGv _ _ hg⟩
  have hq:=aHl e f (show decide (e=f)=false by simp[hef]);have a8:=oH hef;clear he hf a7 hm hef;go_wp2_with fail;go_quiet (fail)
  go_wp2_with fail;go_roundw
  case rel=>exact⟨k+1,_,oO,oO,by go_num,oH (aQn HC.out oO HE.out HF.out a8.out),rfl⟩
  simp[intOf];omega
 obtain rfl:k=es.length:=by omega
 have aH:aBN es=es:=by have:=HC.out;rwa [List.take_length] at this
 have aM:=oH aH;clear aH;go_wp2_with fail;go_ret;rw[aM.out];exact⟨rfl,HO.out,aDa (aDF (Below.refl _ w) q) _⟩
theorem aAF(p:Prop):∃ b:Bool,b=true↔p:=by
 by_cases h:p
 .exact⟨true,oX rfl h⟩
 exact⟨false,iff_of_false Bool.false_ne_true h⟩
theorem aAG{b:Bool}{p:Prop}(h:b=true↔p)(hn:¬ p):b=false:=by
 cases b
 .rfl
 exact absurd (h.1 rfl) hn
theorem aDv{es:List Ed}{k:Nat}{e f:Ed}(h:es[k]?=some e):f∈es.take (k+1)↔f∈es.take k \/ f=e:=by
 obtain⟨a0,h'⟩:=List.getElem?_eq_some_iff.1 h;rw[List.take_succ_eq_append_getElem a0,h',List.mem_append];simp
theorem aSW(g:Nat)(es:List Ed)(n c:Nat)(w:World)(lo:Nat)(hn:es.length=n)(ho:w.ownsRow lo 110 3 (.slice (some ⟨g,0,none⟩) n c) n (aAe (edI es)))(hl:n<=1048576) :
  Calls Tryz.prog 205 #[.slice (some ⟨g,0,none⟩) n c] w fun e w'=>e=.returned (.slice (some ⟨g,0,none⟩) (aBN es).length c) /\
   w'.ownsRow lo 110 3 (.slice (some ⟨g,0,none⟩) (aBN es).length c) (aBN es).length (aAe (edI (aBN es)))/\w.grownBy w' (some g):=by
 subst hn;exact aSU g es c w lo ho hl
theorem aOC(A:OA)(es:List Ed)(c:Nat)(w:World)(lo hi:Nat)(hr:RG w lo hi A es)(hl:es.length<=1048576) :
  Calls Tryz.prog 137 #[.slice A es.length c] w fun e w'=>∃ A' c',e=.returned (.slice A' (canon es).length c')/\OG w' w.heap.size w'.heap.size A' c' (canon es)/\Mid 0 0 w w':=by
 have a2:=aAd w 110 3;have aD:=(hr.mid (oE w (.cells #[] 110)) oZl).rv.rs;go_enter Tryz.func137,Tryz.ntmps137
 go_wp2_with (at_builtin;refine aBY rfl _ _ 33 rfl w 110 (.agg #[(0:Int),(0:Int),(0:Int)]) 3 24 aMH aNq rfl oD (.slice (some ⟨w,0,none⟩) 0 0) 0 [] rfl a2 A es.length c _ (aAe (edI es)) rfl aD (by rw[aAB,aEm]) (aOM _) (by unfold maxLen;omega) oO oM ?_;intro v' w1 a0 a8 a4)
 have aB:Mid 0 0 w w1:=(oE w (.cells #[] 110)).transNew (oF a2 a8) (Or.inl oN);obtain⟨g,c1,rfl,aE⟩:∃ g c1,v'=.slice (some ⟨g,0,none⟩) es.length c1/\w.heap.size<=g:=by
  rcases a0.2 with⟨rfl, -⟩|⟨g,cap,cur,rfl,hbg, -⟩
  .simp[Value.ownBlock] at a4
  exact⟨g,cap,by simp,hbg⟩
 simp only[List.nil_append,Nat.zero_add] at a0;go_wp2_with fail;with_reducible refine(aVK g es c1 w1 w a0 hl).mono ?_
 rintro e w2 ⟨rfl,fs,a5,a6,a7,a3,a9⟩;have aC:Mid 0 0 w w2:=aB.transNew (oF a0 a9) (Or.inl oN);have HP:=oH (aOn a7 a6);have hC:=fun W h=>aSW g fs es.length c1 W w a5 h hl;clear a5 a6 a7;go_wp2_with fail;with_reducible refine(hC _ a3).mono ?_
 rintro e w3 ⟨rfl,a1,aA⟩;rw[HP.out] at a1 |-;go_wp2_with fail;go_ret;exact⟨_,_,rfl,⟨oN,a1,fun g hg=>(a1.lt g hg).2⟩,aC.transNew (oF a3 aA) (Or.inl oN)⟩
theorem aCE(A:OA)(es:List Ed)(n c:Nat)(w:World)(lo hi:Nat)(hn:es.length=n)(hr:RG w lo hi A es)(hl:n<=1048576) :
  Calls Tryz.prog 137 #[.slice A n c] w fun e w'=>∃ A' c',e=.returned (.slice A' (canon es).length c')/\OG w' w.heap.size w'.heap.size A' c' (canon es)/\Mid 0 0 w w':=by
 subst hn;exact aOC A es c w lo hi hr hl
theorem OG.cnt{w:World}{lo hi:Nat}{A:OA}{c:Nat}{es:List Ed}(h:OG w lo hi A c es):es.length<=c/\c<=maxLen:=by
 rcases h.2.1.2 with⟨hv,hn⟩|⟨g,cap,cur,hv, -, -,hnc,hcm, -⟩
 .injection hv with _ h1 h2
  subst h2;omega
 injection hv with _ _ h2
 subst h2;exact⟨hnc,hcm⟩
theorem aMi{w:World}{base:Nat}{e:TypeId}{size n:Nat}{v u:Value}{xs:List Value}{k:Nat}(h:w.ownsRow base e size v n xs)(hb:v.ownBlock=u.ownBlock \/ v.ownBlock=some k)(hu:u.ownBlock≠none) :
  ∃ g c,v=.slice (some ⟨g,0,none⟩) n c/\base<=g/\n<=c/\c<=maxLen:=by
 rcases h.2 with⟨rfl, -⟩|⟨g,cap,cur,rfl,hbg, -,h1,h2, -⟩
 .rcases hb with hb|hb
  .exact absurd hb.symm hu
  cases hb
 exact⟨g,cap,rfl,hbg,h1,h2⟩
theorem aBH(r s:Int)(A:OA)(es:List Ed)(c:Nat)(w:World)(lo hi:Nat)(hr:RG w lo hi A es)(hl:es.length<=1048576) :
  Calls Tryz.prog 223 #[aAJ r s A es.length c] w fun e w'=>∃ A' c',e=.returned (aAJ r s A' es.length c')/\OG w' w.heap.size w'.heap.size A' c' es/\Mid 0 0 w w':=by
 have a0:Mid 0 0 w ((w.alloc (.cells #[r,s,.slice A es.length c] 35)).alloc (.cells #[(0:Int),(0:Int),.slice none 0 0] 35)):=(oE _ _).trans (oE _ _);have B0:=(oJ w #[r,s,.slice A es.length c] 35).mid (oE _ (.cells #[(0:Int),(0:Int),.slice none 0 0] 35)) oZr;have B1:=oJ (w.alloc (.cells #[r,s,.slice A es.length c] 35)) #[(0:Int),(0:Int),.slice none 0 0] 35;rw[World.size_alloc] at B1;go_enter Tryz.func223,Tryz.ntmps223
 go_wp2_with fail;generalize hw1:((w.alloc (.cells #[r,s,.slice A es.length c] 35)).alloc (.cells #[(0:Int),(0:Int),.slice none 0 0] 35))=w1 at a0 B0 B1 |-;have aB:w1.heap.size=w.heap.size+1+1:=by rw[<- hw1];simp
 have HS:=oH aB;clear hw1 aB;have a2:=Mid.drew1 w1;have a1:Mid 0 0 w1.drew (w1.drew.alloc (.cells #[] 110)):=oE _ _;have D0:=B0.mid a2 oZr;have D1:=B1.mid a2 oZr;have E0:=D0.mid a1 oZr;have E1:=D1.mid a1 oZr;have aA:=aAd w1.drew 110 3;have aH:=((hr.mid a0 oZl).mid (a2.trans a1) oZl).rv.rs;obtain⟨d0,d1,d2⟩:=D0.c3 rfl;obtain⟨e0,e1,e2⟩:=E0.c3 rfl;have aG:0+es.length<=maxLen:=by unfold maxLen;omega
 have aE:(0+es.length) * 24<=140737488355328:=by omega
 have aD:w1.drew.heap.size<=(w1.drew.alloc (.cells #[] 110)).heap.size:=by simp
 have a8:(aAe (edI es)).length=es.length * 3:=by rw[aAB,aEm]
 have HL:=oH a8;have HO:=oH (aOM (edI es));have aJ:w.heap.size+1<w1.drew.heap.size:=B1.1;have aI:w.heap.size<w1.drew.heap.size:=B0.1;clear a8;have a9:(Value.slice (some ⟨w1.drew.heap.size,0,none⟩) 0 0).ownBlock≠none:=by simp[Value.ownBlock]
 have aC:=oH a9;clear a9;go_region_held3 (fun w'=>w'.cell? ⟨w,0,none⟩=some (.int .i64 r)/\w'.cell? ⟨w,1,none⟩=some (.int .i64 s)/\w'.cell? ⟨w,2,none⟩=some (.slice A es.length c)) (first|exact⟨d0,d1,d2⟩|exact⟨e0,e1,e2⟩|exact⟨f0,f1,f2⟩|exact⟨x0,x1,x2⟩) ((refine aAV (by rfl) (.tmp 7) (.tmp 9) 33 (by rfl) _ 110 (.agg #[(0:Int),(0:Int),(0:Int)]) 3 24 aMH aNq rfl oD (.slice (some ⟨w1.drew.heap.size,0,none⟩) 0 0) 0 [] (by rfl) aA A es.length c _ (aAe (edI es)) (by rfl) aH HL.out HO.out aG aE aD ?_;intro v2 w2 a3 a6 a5;obtain⟨g,c2,rfl,aM, -, -⟩:=aMi a3 a5 aC.out;have a7:=oF aA a6;have F0:=E0.mid a7 (Or.inl aI);have F1:=E1.mid a7 (Or.inl aJ);obtain⟨f0,f1,f2⟩:=F0.c3 rfl;obtain⟨p0,p1,p2⟩:=F1.c3 rfl;have pf:=F1.2.2;have aK:=Mid.setCell w2 (lo:=w.heap.size+1) (hi:=w.heap.size+2) (p:=⟨w.heap.size+1,0,none⟩) r oN oS;have aL:=aK.trans (Mid.setCell _ (lo:=w.heap.size+1) (hi:=w.heap.size+2) (p:=⟨w.heap.size+1,1,none⟩) s oN oS);have a4:=aL.trans (Mid.setCell _ (lo:=w.heap.size+1) (hi:=w.heap.size+2) (p:=⟨w.heap.size+1,2,none⟩) (.slice (some ⟨g,0,none⟩) es.length c2) oN oS);have X0:=F0.mid a4 (Or.inl oS);obtain⟨x0,x1,x2⟩:=X0.c3 rfl))
 go_wp2_with fail;simp only[Nat.zero_add,List.nil_append] at a3;have aF:Mid 0 0 w w2:=((a0.trans a2).trans a1).transNew a7 (Or.inl (by have:=a0.size;exact this));refine oW (v:=.agg #[r,s,.slice (some ⟨g,0,none⟩) es.length c2]) (by simp[results,Tryz.results223,go_sem,p0,p1,p2,pf]) rfl ⟨_,c2,rfl,?_,?_⟩
 .have h0:OG w2 w1.drew.heap.size w2 (some ⟨g,0,none⟩) c2 es:=⟨oN,a3,fun g hg=>(a3.lt g hg).2⟩
  refine OG.wide (OG.mid h0 a4 (Or.inl (by have:=HS.out;show w.heap.size+2<=w1.heap.size;omega))) (by have:=a0.size;exact this) ?_ oN;exact a4.size
 exact aF.transNew a4 (Or.inl (Nat.le_succ _))
theorem aCk(r s:Int)(A:OA)(es:List Ed)(c:Nat)(w:World)(lo hi:Nat)(hr:RG w lo hi A es)(hl:es.length<=1048576) :
  Calls Tryz.prog 210 #[aAJ r s A es.length c] w fun e w'=>∃ A' c',e=.returned (aAJ r s A' es.length c')/\OG w' w.heap.size w'.heap.size A' c' es/\Mid 0 0 w w':=by
 have a0:Mid 0 0 w ((w.alloc (.cells #[r,s,.slice A es.length c] 35)).alloc (.cells #[(0:Int),(0:Int),.slice none 0 0] 35)):=(oE _ _).trans (oE _ _);have B0:=(oJ w #[r,s,.slice A es.length c] 35).mid (oE _ (.cells #[(0:Int),(0:Int),.slice none 0 0] 35)) oZr;have B1:=oJ (w.alloc (.cells #[r,s,.slice A es.length c] 35)) #[(0:Int),(0:Int),.slice none 0 0] 35;rw[World.size_alloc] at B1;go_enter Tryz.func210,Tryz.ntmps210
 go_wp2_with fail;generalize hw1:((w.alloc (.cells #[r,s,.slice A es.length c] 35)).alloc (.cells #[(0:Int),(0:Int),.slice none 0 0] 35))=w1 at a0 B0 B1 |-;have aB:w1.heap.size=w.heap.size+1+1:=by rw[<- hw1];simp
 have HS:=oH aB;clear hw1 aB;have a2:=Mid.drew1 w1;have a1:Mid 0 0 w1.drew (w1.drew.alloc (.cells #[] 110)):=oE _ _;have D0:=B0.mid a2 oZr;have D1:=B1.mid a2 oZr;have E0:=D0.mid a1 oZr;have E1:=D1.mid a1 oZr;have aA:=aAd w1.drew 110 3;have aH:=((hr.mid a0 oZl).mid (a2.trans a1) oZl).rv.rs;obtain⟨d0,d1,d2⟩:=D0.c3 rfl;obtain⟨e0,e1,e2⟩:=E0.c3 rfl;have aG:0+es.length<=maxLen:=by unfold maxLen;omega
 have aE:(0+es.length) * 24<=140737488355328:=by omega
 have aD:w1.drew.heap.size<=(w1.drew.alloc (.cells #[] 110)).heap.size:=by simp
 have a8:(aAe (edI es)).length=es.length * 3:=by rw[aAB,aEm]
 have HL:=oH a8;have HO:=oH (aOM (edI es));have aJ:w.heap.size+1<w1.drew.heap.size:=B1.1;have aI:w.heap.size<w1.drew.heap.size:=B0.1;clear a8;have a9:(Value.slice (some ⟨w1.drew.heap.size,0,none⟩) 0 0).ownBlock≠none:=by simp[Value.ownBlock]
 have aC:=oH a9;clear a9;go_region_held3 (fun w'=>w'.cell? ⟨w,0,none⟩=some (.int .i64 r)/\w'.cell? ⟨w,1,none⟩=some (.int .i64 s)/\w'.cell? ⟨w,2,none⟩=some (.slice A es.length c)) (first|exact⟨d0,d1,d2⟩|exact⟨e0,e1,e2⟩|exact⟨f0,f1,f2⟩|exact⟨x0,x1,x2⟩) ((refine aAV (by rfl) (.tmp 7) (.tmp 9) 33 (by rfl) _ 110 (.agg #[(0:Int),(0:Int),(0:Int)]) 3 24 aMH aNq rfl oD (.slice (some ⟨w1.drew.heap.size,0,none⟩) 0 0) 0 [] (by rfl) aA A es.length c _ (aAe (edI es)) (by rfl) aH HL.out HO.out aG aE aD ?_;intro v2 w2 a3 a6 a5;obtain⟨g,c2,rfl,aM, -, -⟩:=aMi a3 a5 aC.out;have a7:=oF aA a6;have F0:=E0.mid a7 (Or.inl aI);have F1:=E1.mid a7 (Or.inl aJ);obtain⟨f0,f1,f2⟩:=F0.c3 rfl;obtain⟨p0,p1,p2⟩:=F1.c3 rfl;have pf:=F1.2.2;have aK:=Mid.setCell w2 (lo:=w.heap.size+1) (hi:=w.heap.size+2) (p:=⟨w.heap.size+1,0,none⟩) r oN oS;have aL:=aK.trans (Mid.setCell _ (lo:=w.heap.size+1) (hi:=w.heap.size+2) (p:=⟨w.heap.size+1,1,none⟩) s oN oS);have a4:=aL.trans (Mid.setCell _ (lo:=w.heap.size+1) (hi:=w.heap.size+2) (p:=⟨w.heap.size+1,2,none⟩) (.slice (some ⟨g,0,none⟩) es.length c2) oN oS);have X0:=F0.mid a4 (Or.inl oS);obtain⟨x0,x1,x2⟩:=X0.c3 rfl))
 go_wp2_with fail;simp only[Nat.zero_add,List.nil_append] at a3;have aF:Mid 0 0 w w2:=((a0.trans a2).trans a1).transNew a7 (Or.inl (by have:=a0.size;exact this));refine oW (v:=.agg #[r,s,.slice (some ⟨g,0,none⟩) es.length c2]) (by simp[results,Tryz.results210,go_sem,p0,p1,p2,pf]) rfl ⟨_,c2,rfl,?_,?_⟩
 .have h0:OG w2 w1.drew.heap.size w2 (some ⟨g,0,none⟩) c2 es:=⟨oN,a3,fun g hg=>(a3.lt g hg).2⟩
  refine OG.wide (OG.mid h0 a4 (Or.inl (by have:=HS.out;show w.heap.size+2<=w1.heap.size;omega))) (by have:=a0.size;exact this) ?_ oN;exact a4.size
 exact aF.transNew a4 (Or.inl (Nat.le_succ _))
section
open Go.RowKit
section
variable {W:World} {ops:Array Oper} {rest:List Oper} {o:Oper} {a:Act} {Q:Exit->Act->World->Prop}
theorem aCm(a0:o.guard=none)(s x:Operand)(ho:o.op=.call { callee:=.builtin .append,args:=#[s,x],argTypes:=#[33,33] })(lo:Nat)(A:OA)(n c:Nat)(es:List Ed)(hs:a.eval s=.slice A n c)(hown:W.ownsRow lo 110 3 (.slice A n c) n (aAe (edI es)))(e:Ed)(hx:a.eval x=.slice (some ⟨W,0,none⟩) 1 1)(hn:n<=1048576)(hb:lo<=W.heap.size)(h:∀ A' c' w',w'.ownsRow lo 110 3 (.slice A' (n+1) c') (n+1) (aAe (edI (es++[e])))->Mid lo W W w'->wpList Tryz.prog ops Q rest (a.put o.dst (.slice A' (n+1) c')) w') :
  wpList Tryz.prog ops Q (o::rest) a (W.alloc (.cells #[.int .i64 e.a,.int .i64 e.l,.int .i64 e.b] 110)):=by
 refine aAk (news:=[.int .i64 e.a,.int .i64 e.l,.int .i64 e.b]) a0 s x 33 ho lo 110 (.agg #[(0:Int),(0:Int),(0:Int)]) 3 24 aMH aNq rfl oD (.slice A n c) n (aAe (edI es)) hs hown 1 hx rfl ?_ (by unfold maxLen;omega) oO hb ?_
 .intro u hu
  simp at hu;rcases hu with rfl|rfl|rfl <;> rfl
 intro v' w' h1 h2 _;obtain⟨A',c',rfl, -, -⟩:=aAc h1;refine h A' c' w' ?_ (oF hown h2);rw[aCW,aAi,aIe];exact h1
end
theorem aTu{e:Ed}{xs:List Ed}(h:∀ g∈xs,LtE g e):aCw e xs=xs++[e]:=by
 induction xs with
|nil=>rfl
|cons g t ih=>
  have hg:=h g oM;have h1:¬ aEM e g<0:=fun h=>(aBv.1 h).asymm hg;have h2:¬ aEM e g=0:=fun h=>by have:=aDf.1 h;subst this;exact LtE.irrefl _ hg
  rw[aCw,if_neg h1,if_neg h2,ih fun f hf=>h f (by simp[hf])]
  rfl
theorem aSm{e f:Ed}{xs:List Ed}(h:∀ g∈xs,LtE g e)(hf:aEM e f=0):aCw e (xs++[f])=xs++[f]:=by
 induction xs with
|nil=>simp[aCw,hf]
|cons g t ih=>
  have hg:=h g oM;have h1:¬ aEM e g<0:=fun h=>(aBv.1 h).asymm hg;have h2:¬ aEM e g=0:=fun h=>by have:=aDf.1 h;subst this;exact LtE.irrefl _ hg
  rw[List.cons_append,aCw,if_neg h1,if_neg h2,ih fun f hf=>h f (by simp[hf])]
theorem aQO{e f:Ed}{xs:List Ed}(h:∀ g∈xs,LtE g e)(hf:aEM e f<0):aCw e (xs++[f])=xs++[e]++[f]:=by
 induction xs with
|nil=>simp[aCw,hf]
|cons g t ih=>
  have hg:=h g oM;have h1:¬ aEM e g<0:=fun h=>(aBv.1 h).asymm hg;have h2:¬ aEM e g=0:=fun h=>by have:=aDf.1 h;subst this;exact LtE.irrefl _ hg
  rw[List.cons_append,aCw,if_neg h1,if_neg h2,ih fun f hf=>h f (by simp[hf])];simp
theorem aSl{e f:Ed}{xs:List Ed}(h:∃ g∈xs,¬ LtE g e):aCw e (xs++[f])=aCw e xs++[f]:=by
 induction xs with
|nil=>obtain⟨g,hg, -⟩:=h;simp at hg
|cons g t ih=>
  rw[List.cons_append,aCw,aCw];split
  .simp
  split
  .simp
  rename_i h1 h2;rw[ih]
  .simp
  obtain⟨g',a0,hn⟩:=h;rcases List.mem_cons.1 a0 with rfl|a0
  .exfalso
   rcases LtE.tri e g' with h3|rfl|h3
   .exact h1 (aBv.2 h3)
   .exact h2 (aDf.2 rfl)
   exact hn h3
  exact⟨g',a0,hn⟩
def PutAt(e:Ed)(es:List Ed)(i:Nat)(p:Bool)(xs:List Ed):Prop:=
 if p=true then xs=aCw e (es.take i)/\∃ g∈es.take i,¬ LtE g e else xs=es.take i/\∀ g∈es.take i,LtE g e
theorem PutAt.zero(e:Ed)(es:List Ed):PutAt e es 0 false []:=⟨by simp,by simp⟩
theorem PutAt.on{e f:Ed}{es xs:List Ed}{i:Nat}(h:PutAt e es i true xs)(hf:es[i]?=some f):PutAt e es (i+1) true (xs++[f]):=by
 obtain⟨h1,h2⟩:=h;refine⟨by rw[aBh hf,aSl h2,h1],?_⟩;obtain⟨g,hg,hn⟩:=h2;exact⟨g,by rw[aBh hf];simp[hg],hn⟩
theorem PutAt.eq{e f:Ed}{es xs:List Ed}{i:Nat}(h:PutAt e es i false xs)(hf:es[i]?=some f)(hc:aEM e f=0):PutAt e es (i+1) true (xs++[f]):=by
 obtain⟨h1,h2⟩:=h;refine⟨by rw[aBh hf,aSm h2 hc,h1],f,by rw[aBh hf];simp,?_⟩;have:=aDf.1 hc;subst this;exact LtE.irrefl _
theorem PutAt.lt{e f:Ed}{es xs:List Ed}{i:Nat}(h:PutAt e es i false xs)(hf:es[i]?=some f)(hc:aEM e f<0):PutAt e es (i+1) true (xs++[e]++[f]):=by
 obtain⟨h1,h2⟩:=h;exact⟨by rw[aBh hf,aQO h2 hc,h1],f,by rw[aBh hf];simp,(aBv.1 hc).asymm⟩
theorem PutAt.gt{e f:Ed}{es xs:List Ed}{i:Nat}(h:PutAt e es i false xs)(hf:es[i]?=some f)(hc:0<aEM e f):PutAt e es (i+1) false (xs++[f]):=by
 obtain⟨h1,h2⟩:=h;have a0:LtE f e:=by
  rcases LtE.tri f e with h3|rfl|h3
  .exact h3
  .have:=aDf.2 (rfl:f=f);omega
  have:=aBv.2 h3;omega
 refine⟨by rw[aBh hf,h1],fun g hg=>?_⟩;rw[aBh hf] at hg;rcases List.mem_append.1 hg with hg|hg
 .exact h2 g hg
 simp at hg;subst hg;exact a0
theorem PutAt.len{e:Ed}{es xs:List Ed}{i:Nat}{p:Bool}(h:PutAt e es i p xs):xs.length<=es.length+1:=by
 have h3:(es.take i).length<=es.length:=by simp;omega
 cases p
 .have h1:xs=es.take i:=h.1;rw[h1];omega
 have h1:xs=aCw e (es.take i):=h.1;have:=aDw e (es.take i);rw[h1];omega
theorem PutAt.fin{e:Ed}{es xs:List Ed}(h:PutAt e es es.length true xs):xs=aCw e es:=by
 have h1:xs=aCw e (es.take es.length):=h.1
 rwa [List.take_length] at h1
theorem PutAt.fin'{e:Ed}{es xs:List Ed}(h:PutAt e es es.length false xs):xs++[e]=aCw e es:=by
 have h1:xs=es.take es.length:=h.1;have h2:∀ g∈es.take es.length,LtE g e:=h.2;rw[List.take_length] at h1 h2;rw[h1,aTu h2]
theorem aBz(A:OA)(es:List Ed)(c:Nat)(e:Ed)(w:World)(lo hi:Nat)(hr:RG w lo hi A es)(hl:es.length<=1000000) :
  Calls Tryz.prog 138 #[.slice A es.length c,e.v] w fun en w'=>∃ A' c',en=.returned (.slice A' (aCw e es).length c')/\OG w' w.heap.size w'.heap.size A' c' (aCw e es)/\Mid 0 0 w w':=by
 have aF:Mid 0 0 w ((w.alloc (.cells #[.int .i64 e.a,.int .i64 e.l,.int .i64 e.b] 110)).alloc (.cells #[] 110)):=(oE _ _).trans (oE _ _);have B0:=(oJ w #[.int .i64 e.a,.int .i64 e.l,.int .i64 e.b] 110).mid (oE _ (.cells #[] 110)) oZr;have O0:=aAd (w.alloc (.cells #[.int .i64 e.a,.int .i64 e.l,.int .i64 e.b] 110)) 110 3;rw[World.size_alloc] at O0;go_enter Tryz.func138,Tryz.ntmps138
 go_wp2_with fail;go_loopw [5,6,7,8] (fun out pl i _ wr=>∃(k:Nat) (p:Bool) (A1:OA) (c1 n1:Nat) (xs:List Ed),k<=es.length/\i=.int .i64 k/\pl=.bool p/\out=.slice A1 n1 c1/\Hid (PutAt e es k p xs)/\Hid (xs.length=n1) /\
   wr.ownsRow (w.heap.size+1) 110 3 (.slice A1 n1 c1) n1 (aAe (edI xs))/\Box wr w [.int .i64 e.a,.int .i64 e.l,.int .i64 e.b]/\Mid 0 0 w wr/\w.heap.size+1<=wr.heap.size) (fun _ _ i _ _=>es.length - (intOf i).toNat)
 case atStart=>exact⟨0,false,_,0,0,[],oZ,rfl,rfl,rfl,oH (PutAt.zero e es),oH rfl,O0,B0,aF,by simp⟩
 obtain⟨k,p,A1,c1,n1,xs,hk,rfl,rfl,rfl,HP,HN,a4,bx,hm,aG⟩:=hrel;have aO:n1<=1000001:=by have:=HP.out.len;have:=HN.out;omega
 obtain⟨E0,E1,E2⟩:=bx.c3 rfl;by_cases hlt:k<es.length
 .have aC:=hr.mid hm oZl
  obtain⟨B,aP,f,rfl, -,aE,he,c0,aA,c2⟩:=aC.ed hlt;have zb:B<wr.heap.size:=oT aE aC.1;have e0:=aAf bx.1 E0;have e1:=aAf bx.1 E1;have e2:=aAf bx.1 E2;have f0:=aAf zb c0;have f1:=aAf zb aA;have f2:=aAf zb c2;have aM:(0:Int)<=(k:Int):=by omega
  have aN:(k:Int)<(es.length:Int):=by omega
  obtain⟨v,hv⟩:∃ v,aEM e f=v:=⟨_,rfl⟩
  have hQ:=fun W=>aEH e f W;rw[hv] at hQ;have HV:=oH hv;have HE:=oH he;have HB:Hid (B<wr.heap.size/\B<w.heap.size+1):=oH ⟨zb,by have:=hr.1;omega⟩;have C0:=oH c0;have C1:=oH aA;have C2:=oH c2;clear hv he c0 aA c2 E0 E1 E2;go_wp2_with fail;refine wqg ?_;repeat
   (with_reducible refine wpQuiet_step (fun K hK=>?_))
   go_simp
   first|(with_reducible refine hK _ ?_)|(rw[if_neg oD];(with_reducible refine hK _ ?_))|(apply Exists.intro;refine⟨fun _=>?_,hK _ ?_⟩;((go_at_call 206;exact Calls.wg_of (hQ _))))
   clear hK K
  with_reducible refine wpQuiet_nil ?_
  rintro _ ⟨⟨nq,osq⟩,rfl⟩;have hw:=Mid.ofWg wr nq osq;have aI:=aSG wr nq osq;have a7:=hm.trans hw;have a6:=bx.mid hw oZr;have a3:=aAb a4 hw oZl;have a2:w.heap.size+1<=(wg wr nq osq).heap.size:=by omega
  have g0:=aAa hw zb oZr C0.out;have g1:=aAa hw zb oZr C1.out;have g2:=aAa hw zb oZr C2.out;clear aI e0 e1 e2 f0 f1 f2 hQ aC a4 bx hm zb hw C0 C1 C2;have HB:=oH (show B<(wg wr nq osq).heap.size/\B<w.heap.size+1 from⟨by have:=HB.out.1;have:=aSG wr nq osq;omega,HB.out.2⟩);generalize wg wr nq osq=wx at a7 a6 a3 a2 g0 g1 g2 HB |-;obtain⟨e0,e1,e2⟩:=a6.c3 rfl;cases p
  .have HW:=oH a3
   clear a3;rcases(by omega:v=0 \/ v<0 \/ 0<v) with hv|hv|hv
   .subst hv
    go_wp2_with (at_builtin;refine aCm rfl _ _ rfl (w.heap.size+1) A1 n1 c1 xs rfl HW.out f rfl oO a2 ?_;intro A2 c2 w2 a0 a1)
    go_roundw
    case rel=>exact⟨k+1,true,A2,c2,n1+1,xs++[f],oO,by go_num,rfl,rfl,oH (HP.out.eq HE.out HV.out),oH (by rw[List.length_append,HN.out];rfl),a0,a6.mid a1 (Or.inl oS),a7.transNew a1 (Or.inl (Nat.le_succ _)),oV a2 a1.size⟩
    simp[intOf];omega
   .have a5:(v == 0)=false:=by simp only[beq_eq_false_iff_ne];omega
    have aH:decide (v<0)=true:=by simpa using hv
    go_wp2_with (first|(at_builtin;refine aCm rfl _ _ rfl (w.heap.size+1) A1 n1 c1 xs rfl HW.out e rfl oO a2 ?_;intro A2 c2 w2 a0 a1;have aJ:=aAa a1 HB.out.1 (Or.inl HB.out.2) g0;have aK:=aAa a1 HB.out.1 (Or.inl HB.out.2) g1;have aL:=aAa a1 HB.out.1 (Or.inl HB.out.2) g2;have a9:=oV a2 a1.size;have aD:=oH a0;clear a0)|(at_builtin;refine aCm rfl _ _ rfl (w.heap.size+1) A2 (n1+1) c2 (xs++[e]) rfl aD.out f rfl oO a9 ?_;intro A3 c3 w3 a8 aB))
    go_roundw
    case rel=>exact⟨k+1,true,A3,c3,n1+1+1,xs++[e]++[f],oO,by go_num,rfl,rfl,oH (HP.out.lt HE.out (by rw[HV.out];exact hv)),oH (by rw[List.length_append,List.length_append,HN.out];rfl),a8,(a6.mid a1 (Or.inl oS)).mid aB (Or.inl oS),(a7.transNew a1 (Or.inl (Nat.le_succ _))).transNew aB (Or.inl (Nat.le_succ _)),oV a9 aB.size⟩
    simp[intOf];omega
   have a5:(v == 0)=false:=by simp only[beq_eq_false_iff_ne];omega
   have aH:decide (v<0)=false:=by simp;omega
   go_wp2_with (at_builtin;refine aCm rfl _ _ rfl (w.heap.size+1) A1 n1 c1 xs rfl HW.out f rfl oO a2 ?_;intro A2 c2 w2 a0 a1)
   go_roundw
   case rel=>exact⟨k+1,false,A2,c2,n1+1,xs++[f],oO,by go_num,rfl,rfl,oH (HP.out.gt HE.out (by rw[HV.out];exact hv)),oH (by rw[List.length_append,HN.out];rfl),a0,a6.mid a1 (Or.inl oS),a7.transNew a1 (Or.inl (Nat.le_succ _)),oV a2 a1.size⟩
   simp[intOf];omega
  have HW:=oH a3;clear a3;rcases(by omega:v=0 \/ v<0 \/ 0<v) with hv|hv|hv
  focus
   subst hv
  rotate_left
  focus
   have a5:(v == 0)=false:=by simp only[beq_eq_false_iff_ne];omega
  rotate_left
  focus
   have a5:(v == 0)=false:=by simp only[beq_eq_false_iff_ne];omega
  rotate_left
  all_goals
   go_wp2_with (at_builtin;refine aCm rfl _ _ rfl (w.heap.size+1) A1 n1 c1 xs rfl HW.out f rfl oO a2 ?_;intro A2 c2 w2 a0 a1)
   go_roundw
   case rel=>exact⟨k+1,true,A2,c2,n1+1,xs++[f],oO,by go_num,rfl,rfl,oH (HP.out.on HE.out),oH (by rw[List.length_append,HN.out];rfl),a0,a6.mid a1 (Or.inl oS),a7.transNew a1 (Or.inl (Nat.le_succ _)),oV a2 a1.size⟩
   simp[intOf];omega
 obtain rfl:k=es.length:=by omega
 cases p
 .have HW:=oH a4
  go_wp2_with (at_builtin;refine aCm rfl _ _ rfl (w.heap.size+1) A1 n1 c1 xs rfl HW.out e rfl oO aG ?_;intro A2 c2 w2 a0 a1)
  have hx:=HP.out.fin';go_wp2_with fail;go_ret;obtain⟨A3,c3,hv,hn,ho⟩:=OG.mk' a0;injection hv with a5 hv2 hv3
  subst a5 hv3;rw[hx] at ho hn;exact⟨_,_,(by rw[hn];rfl),ho.wide oO oN oN,hm.transNew a1 oL⟩
 go_wp2_with fail;go_ret;have hx:=HP.out.fin;obtain⟨A2,c2,hv,hn,ho⟩:=OG.mk' a4;injection hv with a5 hv2 hv3
 subst a5 hv3;rw[hx] at ho hn;exact⟨_,_,(by rw[hn];rfl),ho.wide oO oN oN,hm⟩
end
section
open Go.RowKit
section
variable {P:Program} {ops:Array Oper} {Q:Exit->Act->World->Prop} {md:Region.Mode} {S:World->Prop} {z:Nat}
def aDX(P:Program)(md:Region.Mode)(ops:Array Oper)(Q:Exit->Act->World->Prop)(S:World->Prop)(z:Nat):Nat->Array Bool->Act->World->Prop
|0,listed,a,w=>Region.ready md ops listed=[]/\Q .normal a w
|fuel+1,listed,a,w=>
  (Region.ready md ops listed=[]->Q .normal a w) /\
  ∀ i∈Region.ready md ops listed,wpOp P ops Q i (fun a' w'=>(i=z \/ S w')/\aDX P md ops Q S z fuel (listed.setIfInBounds i true) a' w') a w
theorem aLz:∀(a1:Nat) (a0:Array Bool) (a:Act) (w:World),aDX P md ops Q S z a1 a0 a w->wpAny P md ops Q a1 a0 a w
|0,_,_,_,h=>h
|a1+1,_,_,_,h=>⟨h.1,fun i hi=>wpOp_mono (fun a' w' h'=>aLz a1 _ a' w' h'.2) (h.2 i hi)⟩
theorem aTo{i:Nat}{listed:Array Bool}(hz:Region.waitsFor md ops z i=true)(a4:listed.getD i true=false):z ∉ Region.ready md ops listed:=by
 intro hr;obtain⟨-,oz,a3,a0⟩:=mem_ready.1 hr;obtain⟨a5,a1,e,he,hb,a2⟩:=Region.waitsFor_spec hz;obtain rfl:a5=oz:=Option.some.inj (a1.symm.trans a3);have h1:=a0 e he hb;rw[a2,getD_both a4] at h1;cases h1
theorem aOa{i:Nat}{oi:Oper}{v:Value}(hi:ops[i]?=some oi)(a5:∀(j:Nat) (o:Oper) cs b,ops[j]?=some o->o.op≠.select cs b)(hQ:∀ c a w,Q (.panic c) (a.put oi.dst v) w->Q (.panic c) a w)(hz:Region.waitsFor md ops z i=true) :
  ∀(a1:Nat) (a0:Array Bool) (a:Act) (w:World),
   (∀ j oj,ops[j]?=some oj->j≠i->a0.getD j true=false->(∀ e∈oj.after,Region.binds md e=true->e.on≠i)->oi.apart ops oj=true) ->
   i∈Region.ready md ops a0->YieldsIf P ops S oi v a->S w ->
   aDX P md ops Q S z a1 (a0.setIfInBounds i true) (a.put oi.dst v) w->aDX P md ops Q S z (a1+1) a0 a w:=by
 intro a1
 induction a1 with
|zero=>
  intro a0 a w _ hr hy hS H;refine⟨fun h=>(by rw[h] at hr;cases hr),fun j hj=>?_⟩;by_cases hji:j=i
  .subst hji;exact hy.wpOp hi hS ⟨.inr hS,H⟩
  have:=ready_mono hj hji;rw[H.1] at this;cases this
|succ a1 ih=>
  intro a0 a w a2 hr hy hS H;refine⟨fun h=>(by rw[h] at hr;cases hr),fun j hj=>?_⟩;by_cases hji:j=i
  .subst hji;exact hy.wpOp hi hS ⟨.inr hS,H⟩
  have aA:j≠z:=fun e=>by
   subst e;exact aTo hz (mem_ready.1 hr).1 hj
  have h1:=H.2 j (ready_mono hj hji);obtain⟨a4,oj,a8,a6⟩:=mem_ready.1 hj;have a7:∀ e∈oj.after,Region.binds md e=true->e.on≠i:=fun e he hb heq=>by
   have h1:=a6 e he hb;have h0:=(mem_ready.1 hr).1;rw[heq] at h1;rcases Nat.lt_or_ge i a0.size with h'|h'
   .simp[h'] at h0 h1;rw[h0] at h1;cases h1
   .simp[Array.getElem?_eq_none h'] at h1
  have h2:=wpOp_putIf a8 (a2 j oj a8 hji a4 a7) (fun cs b=>a5 i oi cs b hi) (fun cs b=>a5 j oj cs b a8) hQ hy h1;have a3:∀ k ok,ops[k]?=some ok->k≠i->(a0.setIfInBounds j true).getD k true=false ->
    (∀ e∈ok.after,Region.binds md e=true->e.on≠i)->oi.apart ops ok=true:=fun k ok hk hki hun hno=>by
   refine a2 k ok hk hki ?_ hno;by_cases hjk:j=k
   .subst hjk;exact a4
   .rw[getD_set_ne true hjk] at hun;exact hun
  refine wpOp_mono (fun a' w' h3=>?_) h2;have a9:S w':=h3.2.1.resolve_left aA;refine⟨.inr a9,ih (a0.setIfInBounds j true) a' w' a3 (ready_mono hr (Ne.symm hji)) h3.1 a9 ?_⟩;rw[Array.setIfInBounds_comm _ _ hji];exact h3.2.2
theorem aPd{i:Nat}{oi:Oper}{v:Value}{fuel:Nat}{listed:Array Bool}{a:Act}{w:World}(hi:ops[i]?=some oi)(hs:Region.noSelect ops=true)(hf:Region.free md ops listed i=true)(hr:(Region.ready md ops listed).contains i=true)(hz:Region.waitsFor md ops z i=true)(hQ:∀ c a w,Q (.panic c) (a.put oi.dst v) w->Q (.panic c) a w)(hy:YieldsIf P ops S oi v a)(hS:S w)(h:aDX P md ops Q S z fuel (listed.setIfInBounds i true) (a.put oi.dst v) w):aDX P md ops Q S z (fuel+1) listed a w:=
 aOa hi (Region.noSelect_spec hs) hQ hz fuel listed a w (Region.free_spec hi hf) (by simpa using hr) hy hS h
def AllReadyT(P:Program)(md:Region.Mode)(ops:Array Oper)(Q:Exit->Act->World->Prop)(S:World->Prop)(z fuel:Nat)(listed:Array Bool)(a:Act)(w:World)(rs:List Nat):Prop:=
 ∀ i∈rs,wpOp P ops Q i (fun a' w'=>(i=z \/ S w')/\aDX P md ops Q S z fuel (listed.setIfInBounds i true) a' w') a w
theorem AllReadyT.nil{fuel:Nat}{listed:Array Bool}{a:Act}{w:World}:AllReadyT P md ops Q S z fuel listed a w []:=fun _ h=>by cases h
theorem AllReadyT.cons{fuel:Nat}{listed:Array Bool}{a:Act}{w:World}{i:Nat}{o:Oper}{rs:List Nat}(ho:ops[i]?=some o)(h:∀ K':Act->World->Prop,Shut (∀ a w,(i=z \/ S w)->((i=z \/ S w)->aDX P md ops Q S z fuel (listed.setIfInBounds i true) a w)->K' a w)->if Region.wanted o (yielded ops a.tmps)=true then Oper.wp P o a w K' Q else K' (a.put o.dst undef) w)(hs:AllReadyT P md ops Q S z fuel listed a w rs):AllReadyT P md ops Q S z fuel listed a w (i::rs):=fun j hj=>by
 rcases List.mem_cons.1 hj with rfl|hj
 .exact wpOp_step ho (fun K' hK=>h K' (fun a w hS hW=>hK a w ⟨hS,hW hS⟩))
 .exact hs j hj
theorem aOb{rs:List Nat}{fuel:Nat}{listed:Array Bool}{a:Act}{w:World}(hr:Region.ready md ops listed=rs)(a0:rs≠[])(h:AllReadyT P md ops Q S z fuel listed a w rs):aDX P md ops Q S z (fuel+1) listed a w:=
 ⟨fun h0=>absurd (hr.symm.trans h0) a0,fun i hi=>h i (hr ▸ hi)⟩
theorem aAR{listed:Array Bool}{a:Act}{w:World}(hr:Region.ready md ops listed=[])(h:Q .normal a w):∀ fuel,aDX P md ops Q S z fuel listed a w
|0=>⟨hr,h⟩
|_+1=>⟨fun _=>h,by rw[hr];simp⟩
theorem aAM{id:Nat}{a:Act}{w:World}(z:Nat)(hm:P.follows .mixedOrders=true)(hS:S w.drew)(h:aDX P .any ops Q S z ops.size (Array.replicate ops.size false) a w.drew):(Code.region id ops true).wp P Q a w:=
 wp_region_any hm (aLz _ _ _ _ h)
end
end
section
variable {P:Program} {ops:Array Oper} {Q:Exit->Act->World->Prop} {md:Region.Mode} {S:World->Prop} {z:Nat}
theorem tkT(i:Nat){oi:Oper}{v:Value}{fuel:Nat}{listed:Array Bool}{a:Act}{w:World}(hi:ops[i]?=some oi)(hS:S w)(h:aDX P md ops Q S z fuel (listed.setIfInBounds i true) (a.put oi.dst v) w)(hs:Region.noSelect ops=true:=by kernel_rfl)(hf:Region.free md ops listed i=true:=by kernel_rfl)(hr:(Region.ready md ops listed).contains i=true:=by kernel_rfl)(hz:Region.waitsFor md ops z i=true:=by kernel_rfl)(hy:∀ w,S w->(execOp a.eval oi).run P w=.ok (.value v) w:=by intro w a0;(try dsimp only at a0);go_simp;try with_reducible rfl)(hQ:∀ c a w,Q (.panic c) (a.put oi.dst v) w->Q (.panic c) a w:=by exact fun _ _ _ h=>h)(hw:Region.wanted oi (yielded ops a.tmps)=true:=by rfl):aDX P md ops Q S z (fuel+1) listed a w:=
 aPd hi hs hf hr hz hQ (Or.inl ⟨hw,hy⟩) hS h
theorem rdT(i:Nat){fuel:Nat}{listed:Array Bool}{a:Act}{w:World}{o:Oper}(ho:ops[i]?=some o)(h:∀ K':Act->World->Prop,Shut (∀ a w,(i=z \/ S w)->((i=z \/ S w)->aDX P md ops Q S z fuel (listed.setIfInBounds i true) a w)->K' a w)->if Region.wanted o (yielded ops a.tmps)=true then Oper.wp P o a w K' Q else K' (a.put o.dst undef) w)(hr:Region.ready md ops listed=[i]:=by kernel_rfl):aDX P md ops Q S z (fuel+1) listed a w:=aOb hr oM (AllReadyT.cons ho h AllReadyT.nil)
end
section
open Go.RowKit
attribute [local go_sem ↓] Go.wp_at_zero Go.wp_at_succ
theorem aIp{w w':World}{base:Nat}{e:TypeId}{size:Nat}{v:Value}{n:Nat}{xs:List Value}{k:Nat}(h:w.ownsRow base e size v n xs)(hg:w.grownBy w' (some k))(hk:v.ownBlock≠some k):w'.ownsRow base e size v n xs:=
 h.kept hg (by
  cases hv:v.ownBlock with
 |none=>exact .inl rfl
 |some j=>exact .inr fun e=>hk (by rw[hv,e]))
theorem Box.grown{w w':World}{b:Nat}{cs:List Value}{row:Option Nat}(h:Box w b cs)(hg:w.grownBy w' row)(hb:row≠some b):Box w' b cs:=
 ⟨oT h.1 hg.size,fun i u hu=>(World.cell?_of_block (hg.block b h.1 (fun e=>hb e.symm))).trans (h.2.1 i u hu),fun i=>(World.frozen?_of_block (hg.block b h.1 (fun e=>hb e.symm))).trans (h.2.2 i)⟩
end
section
open Go.RowKit Go.Sort
section
variable {W:World} {ops:Array Oper} {rest:List Oper} {o:Oper} {a:Act} {Q:Exit->Act->World->Prop}
theorem aAA(a0:o.guard=none)(s x:Operand)(ho:o.op=.call { callee:=.builtin .append,args:=#[s,x],argTypes:=#[44,44] })(lo:Nat)(A:OA)(n c:Nat)(xs:LI)(hs:a.eval s=.slice A n c)(hown:W.ownsRow lo 3 1 (.slice A n c) n (aAe xs))(y:Int)(hx:a.eval x=.slice (some ⟨W,0,none⟩) 1 1)(hn:n<=1048576)(hb:lo<=W.heap.size)(h:∀ A' c' w',w'.ownsRow lo 3 1 (.slice A' (n+1) c') (n+1) (aAe (xs++[y]))->Mid lo W W w'->wpList Tryz.prog ops Q rest (a.put o.dst (.slice A' (n+1) c')) w') :
  wpList Tryz.prog ops Q (o::rest) a (W.alloc (.cells #[y] 3)):=by
 refine aAk (news:=[y]) a0 s x 44 ho lo 3 (.int .i64 0) 1 8 aBo aBs rfl oD (.slice A n c) n (aAe xs) hs hown 1 hx rfl ?_ (by unfold maxLen;omega) oO hb ?_
 .intro u hu
  simp at hu;subst hu
  rfl
 intro v' w' h1 h2 _;obtain⟨A',c',rfl, -, -⟩:=aAc h1;refine h A' c' w' ?_ (oF hown h2);rw[aAi];exact h1
end
theorem aMU{es:List Ed}{k:Nat}{e:Ed}(h:es[k]?=some e)(v x:Int):aEp (es.take (k+1)) v x=aEp (es.take k) v x++(aEN v x e).toList:=by
 rw[aBh h,aEp,List.filterMap_append];cases hd:aEN v x e <;> simp[aEp,hd]
theorem aJN(v x:Int)(e:Ed):(aEN v x e=some e.b/\(0<x/\e.l=x/\e.a=v)) \/ (aEN v x e=some e.a/\¬ (0<x/\e.l=x/\e.a=v)/\(x<0/\e.l = -x/\e.b=v)) \/ (aEN v x e=none/\¬ (0<x/\e.l=x/\e.a=v)/\¬ (x<0/\e.l = -x/\e.b=v)):=by
 unfold aEN;split
 .rename_i h1
  exact Or.inl ⟨rfl,h1⟩
 rename_i h1;split
 .rename_i h2
  exact Or.inr (Or.inl ⟨rfl,h1,h2⟩)
 rename_i h2;exact Or.inr (Or.inr ⟨rfl,h1,h2⟩)
theorem aMR(x:Int)(t:LI):∃ t',Lib.compact (x::t)=x::t':=by
 refine⟨((List.range' 1 t.length).filter (Lib.keeps (x::t).toArray)).map ((x::t).toArray[·]!),?_⟩;unfold Lib.compact Lib.compactUpTo;rw[show(x::t).length=t.length+1 from rfl,List.range_eq_range',List.range'_succ,List.filter_cons,if_pos (Lib.keeps_lt_one _ 0 oO),List.map_cons]
 rfl
theorem aJK(zs:LI):(Lib.compact zs).length<=zs.length:=by
 unfold Lib.compact Lib.compactUpTo;rw[List.length_map];exact oV (List.length_filter_le _ _) oM
def aLD(es:List Ed)(v x:Int)(zs:LI):Prop:=(aEp es v x=[]->zs=[])/\(aEp es v x≠[]->∃ t,zs=aAr es v x::t)/\zs.length<=es.length
theorem aOW{l zs:LI}(hp:zs.Perm l)(hs:zs.Pairwise (·<=·))(hn:l≠[]):∃ t,zs=aKe l::t:=by
 cases zs with
|nil=>exact absurd hp.symm.eq_nil hn
|cons z t=>
  refine⟨t,?_⟩;obtain⟨h1, -⟩:=List.pairwise_cons.1 hs;rw[aHE (x:=z) (hp.mem_iff.1 oM) fun y hy=>?_];rcases List.mem_cons.1 (hp.mem_iff.2 hy) with rfl|h
  .exact Int.le_refl _
  exact h1 y h
theorem aNV(es:List Ed)(v x:Int):aLD es v x (Lib.compact ((aEp es v x).mergeSort fun x y=>decide (x<=y))):=by
 have hp:=List.mergeSort_perm (aEp es v x) (fun x y=>decide (x<=y));have hs:((aEp es v x).mergeSort fun x y=>decide (x<=y)).Pairwise (·<=·):=by
  have:=List.pairwise_mergeSort (le:=fun x y:Int=>decide (x<=y)) (by intro a b c h1 h2;simp at *;omega) (by intro a b;simp;omega) (aEp es v x);exact this.imp fun h=>by simpa using h
 refine⟨fun h=>?_,fun h=>?_,?_⟩
 .rw[h]
  simp[Lib.compact,Lib.compactUpTo]
 .obtain⟨t,ht⟩:=aOW hp hs h
  rw[ht];exact aMR _ _
 have h1:=aJK ((aEp es v x).mergeSort fun x y=>decide (x<=y));have h2:=aJj es v x;rw[hp.length_eq] at h1;omega
theorem aSV(A:OA)(xs:LI)(n c:Nat)(w:World)(lo:Nat)(hn:xs.length=n)(ho:w.ownsRow lo 3 1 (.slice A n c) n (aAe xs))(hl:n<=1048576) :
  Calls Tryz.prog 249 #[.slice A n c] w fun e w'=>e=.returned (.slice A (Lib.compact xs).length c)/\w'.ownsRow lo 3 1 (.slice A (Lib.compact xs).length c) (Lib.compact xs).length (aAe (Lib.compact xs))/\w.grownBy w' (Value.ownBlock (.slice A n c)):=by
 subst hn;by_cases hv:Value.slice A xs.length c=.slice none 0 0
 .injection hv with h1 h2 h3
  obtain rfl:=List.eq_nil_of_length_eq_zero h2;subst h1 h3;refine(Tryz.slices_Compact_int_empty none 0 w).mono ?_;rintro e w' ⟨rfl,rfl⟩;exact⟨rfl,ho,World.grownBy.refl _ _⟩
 obtain⟨g,cap,he,hb,hg,hn,hm,hz,hH⟩:=Lib.holds_of_ownsRow (enc:=Value.int .i64) (zs:=xs) ho hv;injection he with h1 _ h3
 subst h1 h3;refine(Tryz.slices_Compact_int g 0 c xs w hH oO hn).mono ?_;rintro e w' ⟨rfl,q,rfl⟩;have a1:=aJK xs;have a0:(Lib.compact xs++List.replicate (xs.length - (Lib.compact xs).length) 0).length=xs.length:=by simp;omega
 have h2:=Lib.ownsRow_putRow (enc:=Value.int .i64) (q:=q) (k:=(Lib.compact xs).length) (ys:=Lib.compact xs++List.replicate (xs.length - (Lib.compact xs).length) 0) ho a0 a1;rw[List.take_left] at h2;refine⟨rfl,h2,?_⟩;refine⟨rfl,rfl,rfl,by simp[putRow,mapBlock,Sort.ahead],fun k hk hne=>?_⟩;have:g≠k:=fun e=>hne (by rw[e];rfl);simp[putRow,mapBlock,Sort.ahead,Array.getElem?_modify,this]
theorem aVM(A:OA)(xs:LI)(n c:Nat)(w:World)(lo:Nat)(hn:xs.length=n)(ho:w.ownsRow lo 3 1 (.slice A n c) n (aAe xs))(hl:n<=1048576) :
  Calls Tryz.prog 248 #[.slice A n c] w fun e w'=>e=.returned (.tuple #[])/\w'.ownsRow lo 3 1 (.slice A n c) n (aAe (xs.mergeSort fun x y=>decide (x<=y)))/\w.grownBy w' (Value.ownBlock (.slice A n c)):=by
 subst hn;refine(aVL A xs c w lo ho hl).mono ?_;rintro e w' ⟨he,h1,h2⟩;rw[List.length_mergeSort] at h1 h2;exact⟨he,h1,h2⟩
theorem aKG(r s:Int)(A:OA)(es:List Ed)(c:Nat)(v x:Int)(w:World)(lo hi:Nat)(hr:RG w lo hi A es)(hl:es.length<=1000000)(hg:∀ e∈es,1<=e.l/\e.l<=3)(aK:-9223372036854775808<=x)(aL:x<=9223372036854775807) :
  Calls Tryz.prog 202 #[.agg #[.int .i64 r,.int .i64 s,.slice A es.length c],.int .i64 v,.int .i64 x] w fun e w'=>∃ A' c' zs,e=.returned (.slice A' zs.length c')/\RV w' 0 w'.heap.size A' (aAe zs)/\aLD es v x zs/\Mid 0 0 w w':=by
 have aC:Mid 0 0 w ((w.alloc (.cells #[r,s,.slice A es.length c] 35)).alloc (.cells #[] 3)):=(oE _ _).trans (oE _ _);have B0:=(oJ w #[r,s,.slice A es.length c] 35).mid (oE _ (.cells #[] 3)) oZr;have O0:=aAd (w.alloc (.cells #[r,s,.slice A es.length c] 35)) 3 1;rw[World.size_alloc] at O0;go_enter Tryz.func202,Tryz.ntmps202
 go_wp2_with fail;go_loopw [7,14] (fun out i wr=>∃(k:Nat) (A1:OA) (c1 n1:Nat),k<=es.length/\i=.int .i64 k/\out=.slice A1 n1 c1/\Hid ((aEp (es.take k) v x).length=n1) /\
   wr.ownsRow (w.heap.size+1) 3 1 (.slice A1 n1 c1) n1 (aAe (aEp (es.take k) v x))/\Mid 0 0 w wr/\w.heap.size+1<=wr.heap.size) (fun _ i _=>es.length - (intOf i).toNat)
 case atStart=>exact⟨0,_,0,0,oZ,rfl,rfl,oH (by simp[aEp]),by simpa [aEp,aAe] using O0,aC,by simp⟩
 obtain⟨k,A1,c1,n1,hk,rfl,rfl,HN,a3,hm,aJ⟩:=hrel;have aI:n1<=1000000:=by
  have h1:=aJj (es.take k) v x;have h2:=HN.out;simp at h1;omega
 by_cases hlt:k<es.length
 .obtain⟨B,aM,e,rfl, -,aG,he,e0,e1,e2⟩:=(hr.mid hm oZl).ed hlt
  obtain⟨l1,l3⟩:=hg e (oG he);have a9:=aMU he v x;have aB:=oE wr (.cells #[.int .i64 e.a,.int .i64 e.l,.int .i64 e.b] 110);have a0:=a3.alloc (.cells #[.int .i64 e.a,.int .i64 e.l,.int .i64 e.b] 110);have a7:=hm.trans aB;have a2:w.heap.size+1<=(wr.alloc (.cells #[.int .i64 e.a,.int .i64 e.l,.int .i64 e.b] 110)).heap.size:=by simp;omega
  have a4:=oH a9;have aH:(k:Int)<(es.length:Int):=by omega
  clear he a9;rcases(aJN v x e:(aEN v x e=some e.b/\(0<x/\e.l=x/\e.a=v)) \/ (aEN v x e=some e.a/\¬ (0<x/\e.l=x/\e.a=v)/\(x<0/\e.l = -x/\e.b=v)) \/ (aEN v x e=none/\¬ (0<x/\e.l=x/\e.a=v)/\¬ (x<0/\e.l = -x/\e.b=v))) with⟨hv,h1⟩|⟨hv,h1,h2⟩|⟨hv,h1,h2⟩
  .have HW:=oH a0
   clear a3 a0;obtain⟨p1,p2,p3⟩:=h1;have b1:decide (0<x)=true:=by simpa using p1
   have b2:(e.l == x)=true:=by simpa using p2
   have b3:(e.a == v)=true:=by simpa using p3
   clear p1 p2 p3;go_wp2_with (at_builtin;refine aAA rfl _ _ rfl (w.heap.size+1) A1 n1 c1 _ rfl HW.out e.b (by rw[World.size_alloc];rfl) oO a2 ?_;intro A2 c2 w2 a1 a6)
   go_roundw
   case rel=>exact⟨k+1,A2,c2,n1+1,oO,by go_num,rfl,oH (by rw[a4.out,hv,List.length_append,HN.out];rfl),(by rw[a4.out,hv];exact a1),a7.transNew a6 (Or.inl (Nat.le_succ _)),oV a2 a6.size⟩
   simp[intOf];omega
  .have HW:=oH a0
   clear a3 a0;obtain⟨p1,p2,p3⟩:=h2;have b1:decide (0<x)=false:=by simp;omega
   have b0:decide (x<0)=true:=by simpa using p1
   have b2:(x == -9223372036854775808)=false:=by simp only[beq_eq_false_iff_ne];omega
   have aA:(x != -9223372036854775808)=true:=by simp only[bne_iff_ne,ne_eq];omega
   have b4:wrap64 (-x) = -x:=by unfold wrap64;omega
   have b5:(e.l == -x)=true:=by simpa using p2
   have b3:(e.b == v)=true:=by simpa using p3
   clear h1 p1 p2 p3;go_wp2_with (at_builtin;refine aAA rfl _ _ rfl (w.heap.size+1) A1 n1 c1 _ rfl HW.out e.a (by rw[World.size_alloc];rfl) oO a2 ?_;intro A2 c2 w2 a1 a6)
   go_roundw
   case rel=>exact⟨k+1,A2,c2,n1+1,oO,by go_num,rfl,oH (by rw[a4.out,hv,List.length_append,HN.out];rfl),(by rw[a4.out,hv];exact a1),a7.transNew a6 (Or.inl (Nat.le_succ _)),oV a2 a6.size⟩
   simp[intOf];omega
  have HW:=oH a0;clear a3 a0;rcases(by omega:0<x \/ x<0 \/ x=0) with p1|p1|p1
  .have b1:decide (0<x)=true:=by simpa using p1
   have b0:decide (x<0)=false:=by simp;omega
   by_cases p2:e.l=x
   focus
    have b2:(e.l == x)=true:=by simpa using p2
    have b3:(e.a == v)=false:=by simp only[beq_eq_false_iff_ne];exact fun h=>h1 ⟨p1,p2,h⟩
   rotate_left
   focus
    have b2:(e.l == x)=false:=by simpa only[beq_eq_false_iff_ne] using p2
   rotate_left
   all_goals
    clear h1 h2 p1 p2;go_wp2_with fail;go_roundw
    case rel=>exact⟨k+1,A1,c1,n1,oO,by go_num,rfl,oH (by rw[a4.out,hv];simpa using HN.out),(by rw[a4.out,hv];simpa using HW.out),a7,a2⟩
    simp[intOf];omega
  .have b1:decide (0<x)=false:=by simp;omega
   have b0:decide (x<0)=true:=by simpa using p1
   by_cases p4:x = -9223372036854775808
   .subst p4
    clear h1 h2 p1;go_wp2_with fail;go_roundw
    case rel=>exact⟨k+1,A1,c1,n1,oO,by go_num,rfl,oH (by rw[a4.out,hv];simpa using HN.out),(by rw[a4.out,hv];simpa using HW.out),a7,a2⟩
    simp[intOf];omega
   have b2:(x == -9223372036854775808)=false:=by simpa only[beq_eq_false_iff_ne] using p4
   have aA:(x != -9223372036854775808)=true:=by simpa only[bne_iff_ne,ne_eq] using p4
   have b4:wrap64 (-x) = -x:=by unfold wrap64;omega
   by_cases p2:e.l = -x
   focus
    have b5:(e.l == -x)=true:=by simpa using p2
    have b3:(e.b == v)=false:=by simp only[beq_eq_false_iff_ne];exact fun h=>h2 ⟨p1,p2,h⟩
   rotate_left
   focus
    have b5:(e.l == -x)=false:=by simpa only[beq_eq_false_iff_ne] using p2
   rotate_left
   all_goals
    clear h1 h2 p1 p2;go_wp2_with fail;go_roundw
    case rel=>exact⟨k+1,A1,c1,n1,oO,by go_num,rfl,oH (by rw[a4.out,hv];simpa using HN.out),(by rw[a4.out,hv];simpa using HW.out),a7,a2⟩
    simp[intOf];omega
  subst p1;clear h1 h2;go_wp2_with fail;go_roundw
  case rel=>exact⟨k+1,A1,c1,n1,oO,by go_num,rfl,oH (by rw[a4.out,hv];simpa using HN.out),(by rw[a4.out,hv];simpa using HW.out),a7,a2⟩
  simp[intOf];omega
 obtain rfl:k=es.length:=by omega
 rw[List.take_length] at HN a3;have hq:=aVM A1 _ n1 c1 wr _ HN.out a3 oO;have a8:((aEp es v x).mergeSort fun x y=>decide (x<=y)).length=n1:=by rw[List.length_mergeSort];exact HN.out
 have aF:=aNV es v x;go_wp2_with fail;with_reducible refine(hq).mono ?_
 rintro en w2 ⟨rfl,a1,a6⟩;go_wp2_with fail;with_reducible refine(aSV A1 _ n1 c1 w2 _ a8 a1 oO).mono ?_
 rintro en w3 ⟨rfl,a5,aD⟩;have aE:=hm.transNew (oF a3 a6) oL;go_wp2_with fail;go_ret;exact⟨A1,c1,_,rfl,(OV.rv (lo:=w.heap.size+1) ⟨oN,a5,fun g hg=>(a5.lt g hg).2⟩).wide oZ oN oN,aF,aE.transNew (oF a1 aD) oL⟩
theorem aCK(r s:Int)(A:OA)(es:List Ed)(c:Nat)(v x:Int)(w:World)(lo hi:Nat)(hr:RG w lo hi A es)(hl:es.length<=1000000)(hg:∀ e∈es,1<=e.l/\e.l<=3)(a2:-9223372036854775808<=x)(a3:x<=9223372036854775807) :
  Calls Tryz.prog 135 #[.agg #[r,s,.slice A es.length c],v,x] w fun e w'=>e=.returned (.int .i64 (aAr es v x))/\Mid 0 0 w w':=by
 go_enter Tryz.func135,Tryz.ntmps135
 have a0:=oE w (.cells #[r,s,.slice A es.length c] 35);go_wp2_with fail;with_reducible refine(aKG r s A es c v x _ lo hi (hr.mid a0 oZl) hl hg a2 a3).mono ?_
 rintro en w2 ⟨A2,c2,zs,rfl,a1,⟨h1,h2,h3⟩,hm⟩;have hm:=a0.trans hm;generalize hn:zs.length=n;by_cases h0:aEp es v x=[]
 .obtain rfl:n=0:=by rw[<- hn,h1 h0];rfl
  go_wp2_with fail;go_ret;exact⟨by rw[aGh h0];rfl,hm⟩
 obtain⟨t,ht⟩:=h2 h0;obtain⟨g,a5,rfl, -, -,hc⟩:=a1.2 (by rw[ht];simp[aAe]);have c0:=hc 0 (.int .i64 (aAr es v x)) (by rw[ht];simp[aAe]);rw[Nat.add_zero] at c0;have a4:0<n:=by rw[<- hn,ht];simp
 have hz:((n:Int) == 0)=false:=by simp only[beq_eq_false_iff_ne];omega
 have hp:(0:Int)<(n:Int):=by omega
 clear hn ht hc h1 h2 h3 a1;go_wp2_with fail;go_ret;exact⟨rfl,hm⟩
end
section
open Go.RowKit
def aDc(x:Int):LI->LI
|[]=>[x]
|y::t=>if x<y then x::y::t else if x=y then y::t else y::aDc x t
theorem aCp{x y:Int}{l:LI}:y∈aDc x l↔y=x \/ y∈l:=by
 induction l with
|nil=>simp[aDc]
|cons z t ih=>
  rw[aDc];split
  .simp
  split
  .rename_i h
   subst h;simp
  rw[List.mem_cons,ih,List.mem_cons];constructor
  .rintro(h|h|h)
   .exact .inr (.inl h)
   .exact .inl h
   exact .inr (.inr h)
  rintro(h|h|h)
  .exact .inr (.inl h)
  .exact .inl h
  exact .inr (.inr h)
theorem aDQ{x:Int}{l:LI}(h:l.Pairwise (·<·)):(aDc x l).Pairwise (·<·):=by
 induction l with
|nil=>simp[aDc]
|cons z t ih=>
  obtain⟨h1,h2⟩:=List.pairwise_cons.1 h;rw[aDc];split
  .rename_i hlt
   refine List.pairwise_cons.2 ⟨fun y hy=>?_,h⟩;rcases List.mem_cons.1 hy with rfl|hy
   .exact hlt
   have:=h1 y hy;omega
  split
  .exact h
  refine List.pairwise_cons.2 ⟨fun y hy=>?_,ih h2⟩;rcases aCp.1 hy with rfl|hy
  .omega
  exact h1 y hy
theorem aMo(x:Int)(l:LI):(aDc x l).length<=l.length+1:=by
 induction l with
|nil=>simp[aDc]
|cons z t ih=>
  rw[aDc];split
  .simp
  split
  .simp
  simp;omega
theorem aTv{x:Int}{xs:LI}(h:∀ y∈xs,y<x):aDc x xs=xs++[x]:=by
 induction xs with
|nil=>rfl
|cons y t ih=>
  have hy:=h y oM;rw[aDc,if_neg oO,if_neg oO,ih fun f hf=>h f (by simp[hf])]
  rfl
theorem aSo{x:Int}{xs:LI}(h:∀ y∈xs,y<x):aDc x (xs++[x])=xs++[x]:=by
 induction xs with
|nil=>simp[aDc]
|cons y t ih=>
  have hy:=h y oM;rw[List.cons_append,aDc,if_neg oO,if_neg oO,ih fun f hf=>h f (by simp[hf])]
theorem aQP{x f:Int}{xs:LI}(h:∀ y∈xs,y<x)(hf:x<f):aDc x (xs++[f])=xs++[x]++[f]:=by
 induction xs with
|nil=>simp[aDc,hf]
|cons y t ih=>
  have hy:=h y oM;rw[List.cons_append,aDc,if_neg oO,if_neg oO,ih fun f hf=>h f (by simp[hf])];simp
theorem aSn{x f:Int}{xs:LI}(h:∃ y∈xs,¬ y<x):aDc x (xs++[f])=aDc x xs++[f]:=by
 induction xs with
|nil=>obtain⟨g,hg, -⟩:=h;simp at hg
|cons y t ih=>
  rw[List.cons_append,aDc,aDc];split
  .simp
  split
  .simp
  rename_i h1 h2;rw[ih]
  .simp
  obtain⟨g',a0,hn⟩:=h;rcases List.mem_cons.1 a0 with rfl|a0
  .omega
  exact⟨g',a0,hn⟩
theorem aBA{l:LI}{k:Nat}{x:Int}(h:l[k]?=some x):l.take (k+1)=l.take k++[x]:=by
 obtain⟨hk,h'⟩:=List.getElem?_eq_some_iff.1 h;rw[List.take_succ_eq_append_getElem hk,h']
def AddAt(x:Int)(l:LI)(i:Nat)(p:Bool)(xs:LI):Prop:=
 if p=true then xs=aDc x (l.take i)/\∃ y∈l.take i,¬ y<x else xs=l.take i/\∀ y∈l.take i,y<x
section
variable {x f:Int} {l xs:LI} {i:Nat}
theorem AddAt.zero(x:Int)(l:LI):AddAt x l 0 false []:=⟨by simp,by simp⟩
theorem AddAt.on(h:AddAt x l i true xs)(hf:l[i]?=some f):AddAt x l (i+1) true (xs++[f]):=by
 obtain⟨h1,h2⟩:=h;refine⟨by rw[aBA hf,aSn h2,h1],?_⟩;obtain⟨g,hg,hn⟩:=h2;exact⟨g,by rw[aBA hf];simp[hg],hn⟩
theorem AddAt.eq(h:AddAt x l i false xs)(hf:l[i]?=some f)(hc:f=x):AddAt x l (i+1) true (xs++[f]):=by
 obtain⟨h1,h2⟩:=h;subst hc;exact⟨by rw[aBA hf,aSo h2,h1],f,by rw[aBA hf];simp,oO⟩
theorem AddAt.lt(h:AddAt x l i false xs)(hf:l[i]?=some f)(hc:x<f):AddAt x l (i+1) true (xs++[x]++[f]):=by
 obtain⟨h1,h2⟩:=h;exact⟨by rw[aBA hf,aQP h2 hc,h1],f,by rw[aBA hf];simp,oO⟩
theorem AddAt.gt(h:AddAt x l i false xs)(hf:l[i]?=some f)(hc:f<x):AddAt x l (i+1) false (xs++[f]):=by
 obtain⟨h1,h2⟩:=h;refine⟨by rw[aBA hf,h1],fun g hg=>?_⟩;rw[aBA hf] at hg;rcases List.mem_append.1 hg with hg|hg
 .exact h2 g hg
 simp at hg;subst hg;exact hc
theorem AddAt.len{p:Bool}(h:AddAt x l i p xs):xs.length<=l.length+1:=by
 have h3:(l.take i).length<=l.length:=by simp;omega
 cases p
 .have h1:xs=l.take i:=h.1;rw[h1];omega
 have h1:xs=aDc x (l.take i):=h.1;have:=aMo x (l.take i);rw[h1];omega
theorem AddAt.fin(h:AddAt x l l.length true xs):xs=aDc x l:=by
 have h1:xs=aDc x (l.take l.length):=h.1
 rwa [List.take_length] at h1
theorem AddAt.fin'(h:AddAt x l l.length false xs):xs++[x]=aDc x l:=by
 have h1:xs=l.take l.length:=h.1;have h2:∀ g∈l.take l.length,g<x:=h.2;rw[List.take_length] at h1 h2;rw[h1,aTv h2]
end
theorem RV.at{w:World}{lo hi:Nat}{A:OA}{l:LI}{k:Nat}(h:RV w lo hi A (aAe l))(hk:k<l.length) :
  ∃ b a0 f,A=some ⟨b,a0,none⟩/\b<hi/\l[k]?=some f/\w.cell? ⟨b,a0+k,none⟩=some (.int .i64 f):=by
 obtain⟨b,a0,rfl, -,hb,hc⟩:=h.2 (by intro h;simp[aAe] at h;subst h;simp at hk);exact⟨b,a0,l[k],rfl,hb,List.getElem?_eq_getElem hk,hc k _ (by simp[aAe,hk])⟩
theorem aAz{w:World}{lo n c:Nat}{A:OA}{e:TypeId}{size:Nat}{cs:List Value}(h:w.ownsRow lo e size (.slice A n c) n cs):RV w lo w A cs:=
 OV.rv (c:=c) (n:=n) (e:=e) (size:=size) ⟨oN,h,fun g hg=>(h.lt g hg).2⟩
theorem aEJ(A:OA)(l:LI)(c:Nat)(x:Int)(w:World)(lo hi:Nat)(hr:RV w lo hi A (aAe l))(hl:l.length<=1000000) :
  Calls Tryz.prog 247 #[.slice A l.length c,.int .i64 x] w fun en w'=>∃ A' c',en=.returned (.slice A' (aDc x l).length c')/\RV w' 0 w'.heap.size A' (aAe (aDc x l))/\Mid 0 0 w w':=by
 have a6:Mid 0 0 w (w.alloc (.cells #[] 3)):=oE _ _;have O0:=aAd w 3 1;go_enter Tryz.func247,Tryz.ntmps247
 go_wp2_with fail;go_loopw [5,6,7] (fun out pl i wr=>∃(k:Nat) (p:Bool) (A1:OA) (c1 n1:Nat) (xs:LI),k<=l.length/\i=.int .i64 k/\pl=.bool p/\out=.slice A1 n1 c1/\Hid (AddAt x l k p xs)/\Hid (xs.length=n1) /\
   wr.ownsRow w 3 1 (.slice A1 n1 c1) n1 (aAe xs)/\Mid 0 0 w wr/\w.heap.size<=wr.heap.size) (fun _ _ i _=>l.length - (intOf i).toNat)
 case atStart=>exact⟨0,false,_,0,0,[],oZ,rfl,rfl,rfl,oH (AddAt.zero x l),oH rfl,O0,a6,a6.size⟩
 obtain⟨k,p,A1,c1,n1,xs,hk,rfl,rfl,rfl,HP,HN,a2,hm,a3⟩:=hrel;have aE:n1<=1000001:=by have:=HP.out.len;have:=HN.out;omega
 by_cases hlt:k<l.length
 .obtain⟨B,aF,f,rfl,aB,he,c0⟩:=(hr.mid hm oZl).at hlt
  have aC:(0:Int)<=(k:Int):=by omega
  have aD:(k:Int)<(l.length:Int):=by omega
  have HE:=oH he;have HB:B<wr.heap.size/\B<w.heap.size:=by have:=hr.1;omega
  have HW:=oH a2;clear he a2;cases p
  .rcases(by omega:f=x \/ f<x \/ x<f) with hv|hv|hv
   .subst hv
    go_wp2_with (at_builtin;refine aAA rfl _ _ rfl w A1 n1 c1 xs rfl HW.out f rfl oO a3 ?_;intro A2 c2 w2 a0 a1)
    go_roundw
    case rel=>exact⟨k+1,true,A2,c2,n1+1,xs++[f],oO,by go_num,rfl,rfl,oH (HP.out.eq HE.out rfl),oH (by rw[List.length_append,HN.out];rfl),a0,hm.transNew a1 (Or.inl oN),oV a3 a1.size⟩
    simp[intOf];omega
   .have b1:(f == x)=false:=by simp only[beq_eq_false_iff_ne];omega
    have b2:decide (x<f)=false:=by simp;omega
    go_wp2_with (at_builtin;refine aAA rfl _ _ rfl w A1 n1 c1 xs rfl HW.out f rfl oO a3 ?_;intro A2 c2 w2 a0 a1)
    go_roundw
    case rel=>exact⟨k+1,false,A2,c2,n1+1,xs++[f],oO,by go_num,rfl,rfl,oH (HP.out.gt HE.out hv),oH (by rw[List.length_append,HN.out];rfl),a0,hm.transNew a1 (Or.inl oN),oV a3 a1.size⟩
    simp[intOf];omega
   have b1:(f == x)=false:=by simp only[beq_eq_false_iff_ne];omega
   have b2:decide (x<f)=true:=by simpa using hv
   go_wp2_with (first|(at_builtin;refine aAA rfl _ _ rfl w A1 n1 c1 xs rfl HW.out x rfl oO a3 ?_;intro A2 c2 w2 a0 a1;have aA:=aAa a1 HB.1 (Or.inl HB.2) c0;have a5:=oV a3 a1.size;have a8:=oH a0;clear a0)|(at_builtin;refine aAA rfl _ _ rfl w A2 (n1+1) c2 (xs++[x]) rfl a8.out f rfl oO a5 ?_;intro A3 c3 w3 a4 a7))
   go_roundw
   case rel=>exact⟨k+1,true,A3,c3,n1+1+1,xs++[x]++[f],oO,by go_num,rfl,rfl,oH (HP.out.lt HE.out hv),oH (by rw[List.length_append,List.length_append,HN.out];rfl),a4,(hm.transNew a1 (Or.inl oN)).transNew a7 (Or.inl oN),oV a5 a7.size⟩
   simp[intOf];omega
  rcases(by omega:f=x \/ f<x \/ x<f) with hv|hv|hv
  focus
   have b1:(f == x)=true:=by simpa using hv
   have b2:decide (x<f)=false:=by simp;omega
  rotate_left
  focus
   have b1:(f == x)=false:=by simp only[beq_eq_false_iff_ne];omega
   have b2:decide (x<f)=false:=by simp;omega
  rotate_left
  focus
   have b1:(f == x)=false:=by simp only[beq_eq_false_iff_ne];omega
   have b2:decide (x<f)=true:=by simpa using hv
  rotate_left
  all_goals
   clear hv;go_wp2_with (at_builtin;refine aAA rfl _ _ rfl w A1 n1 c1 xs rfl HW.out f rfl oO a3 ?_;intro A2 c2 w2 a0 a1)
   go_roundw
   case rel=>exact⟨k+1,true,A2,c2,n1+1,xs++[f],oO,by go_num,rfl,rfl,oH (HP.out.on HE.out),oH (by rw[List.length_append,HN.out];rfl),a0,hm.transNew a1 (Or.inl oN),oV a3 a1.size⟩
   simp[intOf];omega
 obtain rfl:k=l.length:=by omega
 have a9:=hm.size;cases p
 .have HW:=oH a2
  go_wp2_with (at_builtin;refine aAA rfl _ _ rfl w A1 n1 c1 xs rfl HW.out x rfl oO a3 ?_;intro A2 c2 w2 a0 a1)
  have hx:=HP.out.fin';have hn:(aDc x l).length=n1+1:=by rw[<- hx,List.length_append,HN.out];rfl
  rw[hx] at a0;rw[<- hn] at a0;go_wp2_with fail;go_ret;exact⟨_,_,(by rw[hn];rfl),(aAz a0).wide oZ oN oN,hm.transNew a1 (Or.inl oN)⟩
 have hx:=HP.out.fin;have hn:=HN.out;rw[hx] at hn a2;go_wp2_with fail;go_ret;exact⟨_,_,(by rw[hn];rfl),(aAz a2).wide oZ oN oN,hm⟩
def aMn(es:List Ed)(v x:Int):LI:=(aEp es v x).foldl (fun l y=>aDc y l) []
theorem aNd{y:Int}:∀(zs l:LI),y∈zs.foldl (fun l y=>aDc y l) l↔y∈zs \/ y∈l
|[],l=>by simp
|z::zs,l=>by
  rw[List.foldl_cons,aNd zs,aCp,List.mem_cons];constructor
  .rintro(h|h|h)
   .exact .inl (.inr h)
   .exact .inl (.inl h)
   .exact .inr h
  .rintro((h|h)|h)
   .exact .inr (.inl h)
   .exact .inl h
   .exact .inr (.inr h)
theorem aIG:∀(zs l:LI),l.Pairwise (·<·)->(zs.foldl (fun l y=>aDc y l) l).Pairwise (·<·)
|[],l,h=>h
|z::zs,l,h=>aIG zs _ (aDQ h)
theorem aJR:∀(zs l:LI),(zs.foldl (fun l y=>aDc y l) l).length<=zs.length+l.length
|[],l=>by simp
|z::zs,l=>by
  have h1:=aJR zs (aDc z l);have h2:=aMo z l;rw[List.foldl_cons,List.length_cons];omega
theorem aPb(es:List Ed)(v x:Int):aLD es v x (aMn es v x):=by
 refine⟨fun h=>by rw[aMn,h];rfl,fun h=>?_,?_⟩
 .have hs:=aIG (aEp es v x) [] List.Pairwise.nil
  have hm:=fun y=>aNd (y:=y) (aEp es v x) [];change ∃ t,(aEp es v x).foldl (fun l y=>aDc y l) []=_;cases hz:(aEp es v x).foldl (fun l y=>aDc y l) [] with
 |nil=>
   rw[hz] at hm;obtain⟨y,t,ht⟩:=List.exists_cons_of_ne_nil h;have:=(hm y).2 (.inl (by rw[ht];simp));simp at this
 |cons z t=>
   rw[hz] at hm hs;refine⟨t,?_⟩;obtain⟨h1, -⟩:=List.pairwise_cons.1 hs;have a0:z∈aEp es v x:=by simpa using(hm z).1 oM
   have:aAr es v x=aKe (aEp es v x):=rfl;rw[this,aHE a0 fun y hy=>?_];rcases List.mem_cons.1 ((hm y).2 (.inl hy)) with rfl|h'
   .exact Int.le_refl _
   have:=h1 y h';omega
 have h1:=aJR (aEp es v x) [];have h2:=aJj es v x;rw[List.length_nil] at h1;exact oV (by simpa [aMn] using h1) h2
theorem aKR(r s:Int)(A:OA)(es:List Ed)(c:Nat)(v x:Int)(w:World)(lo hi:Nat)(hr:RG w lo hi A es)(hl:es.length<=1000000)(hg:∀ e∈es,1<=e.l/\e.l<=3)(aC:-9223372036854775808<=x)(aD:x<=9223372036854775807) :
  Calls Tryz.prog 200 #[.agg #[.int .i64 r,.int .i64 s,.slice A es.length c],.int .i64 v,.int .i64 x] w fun e w'=>∃ A' c' zs,e=.returned (.slice A' zs.length c')/\RV w' 0 w'.heap.size A' (aAe zs)/\aLD es v x zs/\Mid 0 0 w w':=by
 have a9:Mid 0 0 w ((w.alloc (.cells #[r,s,.slice A es.length c] 35)).alloc (.cells #[] 3)):=(oE _ _).trans (oE _ _);have B0:=(oJ w #[r,s,.slice A es.length c] 35).mid (oE _ (.cells #[] 3)) oZr;go_enter Tryz.func200,Tryz.ntmps200
 go_wp2_with fail;go_loopw [7,8] (fun out i wr=>∃(k:Nat) (A1:OA) (c1:Nat) (xs:LI),k<=es.length/\i=.int .i64 k/\out=.slice A1 xs.length c1/\Hid (xs=(aEp (es.take k) v x).foldl (fun l y=>aDc y l) []) /\
   RV wr 0 wr A1 (aAe xs)/\Box wr w [r,s,.slice A es.length c]/\Mid 0 0 w wr) (fun _ i _=>es.length - (intOf i).toNat)
 case atStart=>exact⟨0,_,0,[],oZ,rfl,rfl,oH (by simp[aEp]),⟨oN,fun h=>absurd rfl h⟩,B0,a9⟩
 obtain⟨k,A1,c1,xs,hk,rfl,rfl,HX,a7,bx,hm⟩:=hrel;have a6:xs.length<=1000000:=by
  have h1:=aJj (es.take k) v x;have h2:=aJR (aEp (es.take k) v x) [];rw[HX.out];simp at h1 h2 |-;omega
 obtain⟨p0,p1,p2⟩:=bx.c3 rfl;by_cases hlt:k<es.length
 .obtain⟨B,aE,e,rfl, -,aA,he,e0,e1,e2⟩:=(hr.mid hm oZl).ed hlt
  obtain⟨l1,l3⟩:=hg e (oG he);have a2:=oH (aMU he v x);have a5:=oE wr (.cells #[.int .i64 e.a,.int .i64 e.l,.int .i64 e.b] 110);have a3:=hm.trans a5;have a0:=(a7.mid a5 oZl).wide oN a5.size oN;have B1:=bx.mid a5 oZr;have E1:=oJ wr #[.int .i64 e.a,.int .i64 e.l,.int .i64 e.b] 110;have aB:(k:Int)<(es.length:Int):=by omega
  clear he;rcases aJN v x e with⟨hv,h1⟩|⟨hv,h1,h2⟩|⟨hv,h1,h2⟩
  .obtain⟨p1,p2,p3⟩:=h1
   have b1:decide (0<x)=true:=by simpa using p1
   have b0:decide (x<0)=false:=by simp;omega
   have b2:(e.l == x)=true:=by simpa using p2
   have b3:(e.a == v)=true:=by simpa using p3
   clear p1 p2 p3;go_wp2_with fail;with_reducible refine(aEJ A1 xs c1 e.b _ _ _ a0 a6).mono ?_
   rintro en w2 ⟨A2,c2,rfl,a1,a4⟩;go_wp2_with fail;go_roundw
   case rel=>exact⟨k+1,A2,c2,_,oO,by go_num,rfl,oH (by rw[a2.out,hv,HX.out,List.foldl_append];rfl),a1,B1.mid a4 oZr,a3.trans a4⟩
   simp[intOf];omega
  .obtain⟨p1,p2,p3⟩:=h2
   have b1:decide (0<x)=false:=by simp;omega
   have b0:decide (x<0)=true:=by simpa using p1
   have b4:wrap64 (-x) = -x:=by unfold wrap64;omega
   have b5:(e.l == -x)=true:=by simpa using p2
   have b3:(e.b == v)=true:=by simpa using p3
   clear h1 p1 p2 p3;go_wp2_with fail;with_reducible refine(aEJ A1 xs c1 e.a _ _ _ a0 a6).mono ?_
   rintro en w2 ⟨A2,c2,rfl,a1,a4⟩;go_wp2_with fail;go_roundw
   case rel=>exact⟨k+1,A2,c2,_,oO,by go_num,rfl,oH (by rw[a2.out,hv,HX.out,List.foldl_append];rfl),a1,B1.mid a4 oZr,a3.trans a4⟩
   simp[intOf];omega
  rcases(by omega:0<x \/ x<0 \/ x=0) with p1|p1|p1
  .have b1:decide (0<x)=true:=by simpa using p1
   have b0:decide (x<0)=false:=by simp;omega
   by_cases p2:e.l=x
   focus
    have b2:(e.l == x)=true:=by simpa using p2
    have b3:(e.a == v)=false:=by simp only[beq_eq_false_iff_ne];exact fun h=>h1 ⟨p1,p2,h⟩
   rotate_left
   focus
    have b2:(e.l == x)=false:=by simpa only[beq_eq_false_iff_ne] using p2
   rotate_left
   all_goals
    clear h1 h2 p1 p2;go_wp2_with fail;go_roundw
    case rel=>exact⟨k+1,A1,c1,_,oO,by go_num,rfl,oH (by rw[a2.out,hv,HX.out];simp),a0,B1,a3⟩
    simp[intOf];omega
  .have b1:decide (0<x)=false:=by simp;omega
   have b0:decide (x<0)=true:=by simpa using p1
   by_cases p2:e.l=wrap64 (-x)
   focus
    have b5:(e.l == wrap64 (-x))=true:=by simpa using p2
    have b3:(e.b == v)=false:=by simp only[beq_eq_false_iff_ne];exact fun h=>h2 ⟨p1,by unfold wrap64 at p2;omega,h⟩
   rotate_left
   focus
    have b5:(e.l == wrap64 (-x))=false:=by simpa only[beq_eq_false_iff_ne] using p2
   rotate_left
   all_goals
    clear h1 h2 p1 p2;go_wp2_with fail;go_roundw
    case rel=>exact⟨k+1,A1,c1,_,oO,by go_num,rfl,oH (by rw[a2.out,hv,HX.out];simp),a0,B1,a3⟩
    simp[intOf];omega
  subst p1;clear h1 h2;go_wp2_with fail;go_roundw
  case rel=>exact⟨k+1,A1,c1,_,oO,by go_num,rfl,oH (by rw[a2.out,hv,HX.out];simp),a0,B1,a3⟩
  simp[intOf];omega
 obtain rfl:k=es.length:=by omega
 have a8:=aPb es v x;have hx:=HX.out;rw[List.take_length] at hx;rw[aMn,<- hx] at a8;go_wp2_with fail;go_ret;exact⟨_,_,xs,rfl,a7,a8,hm⟩
theorem aBL(r s:Int)(A:OA)(es:List Ed)(c:Nat)(v x:Int)(w:World)(lo hi:Nat)(hr:RG w lo hi A es)(hl:es.length<=1000000)(hg:∀ e∈es,1<=e.l/\e.l<=3)(a2:-9223372036854775808<=x)(a3:x<=9223372036854775807) :
  Calls Tryz.prog 129 #[.agg #[r,s,.slice A es.length c],v,x] w fun e w'=>e=.returned (.int .i64 (aAr es v x))/\Mid 0 0 w w':=by
 go_enter Tryz.func129,Tryz.ntmps129
 have a0:=oE w (.cells #[r,s,.slice A es.length c] 35);go_wp2_with fail;with_reducible refine(aKR r s A es c v x _ lo hi (hr.mid a0 oZl) hl hg a2 a3).mono ?_
 rintro en w2 ⟨A2,c2,zs,rfl,a1,⟨h1,h2,h3⟩,hm⟩;have hm:=a0.trans hm;generalize hn:zs.length=n;by_cases h0:aEp es v x=[]
 .obtain rfl:n=0:=by rw[<- hn,h1 h0];rfl
  go_wp2_with fail;go_ret;exact⟨by rw[aGh h0];rfl,hm⟩
 obtain⟨t,ht⟩:=h2 h0;obtain⟨g,a5,rfl, -, -,hc⟩:=a1.2 (by rw[ht];simp[aAe]);have c0:=hc 0 (.int .i64 (aAr es v x)) (by rw[ht];simp[aAe]);rw[Nat.add_zero] at c0;have a4:0<n:=by rw[<- hn,ht];simp
 have hz:((n:Int) == 0)=false:=by simp only[beq_eq_false_iff_ne];omega
 have hp:(0:Int)<(n:Int):=by omega
 clear hn ht hc h1 h2 h3 a1;go_wp2_with fail;go_ret;exact⟨rfl,hm⟩
end
theorem aBP(rank:Int)(A:OA)(xs:LI)(c:Nat)(w:World)(B:Nat)(hr:Rs w B A (aAe xs))(a7:OkI xs)(hl:xs.length<=4194304)(r:Bool)(a0:r=true↔IsW rank xs) :
  Calls Tryz.prog 146 #[rank,.slice A xs.length c] w fun e w'=>e=.returned (.bool r)/\w=w':=by
 have aB:=oH a7;have HR:=oH a0;clear a7 a0;by_cases hb:inB rank 1 3=false
 .have hf:r=false:=by
   cases r
   .rfl
   have h:=HR.out.1 rfl;simp[inB] at hb;have:=h.1;have:=h.2.1;omega
  subst hf;have HB:=oH hb;clear hb;go_enter Tryz.func146,Tryz.ntmps146
  go_wp2_with fail;refine(aAu _ _ _ _).mono ?_;rintro e w' ⟨rfl,rfl⟩;rw[HB.out];go_wp2_with fail;go_ret;exact⟨rfl,rfl⟩
 have a2:inB rank 1 3=true:=by simpa using hb
 have aC:1<=rank/\rank<=3:=by simpa [inB] using a2
 have HB:=oH a2;clear hb a2;obtain⟨h1,h3⟩:=aC;by_cases h24:24<xs.length
 .have hf:r=false:=by
   cases r
   .rfl
   have:=(HR.out.1 rfl).2.2.1;omega
  subst hf;go_enter Tryz.func146,Tryz.ntmps146
  go_wp2_with fail;refine(aAu _ _ _ _).mono ?_;rintro e w' ⟨rfl,rfl⟩;rw[HB.out];go_wp2_with fail;go_ret;exact⟨rfl,rfl⟩
 have a5:r=true↔WordTo rank xs xs.length:=HR.out.trans ⟨fun h=>(aLy h1 h3).2 h.2.2.2,fun h=>⟨h1,h3,oO,(aLy h1 h3).1 h⟩⟩;have a1:=oH a5;clear a5 HR;go_enter Tryz.func146,Tryz.ntmps146
 go_wp2_with fail;refine(aAu _ _ _ _).mono ?_;rintro e w' ⟨rfl,rfl⟩;rw[HB.out];go_wp2_with fail;go_loop [5,6,17] (fun _ _ i=>∃ k:Nat,k<=xs.length/\i=.int .i64 k/\WordTo rank xs k) (fun _ _ i=>xs.length - (intOf i).toNat)
 case atStart=>exact⟨0,oZ,rfl,WordTo.zero _ _⟩
 obtain⟨k,hk,rfl,a8⟩:=hrel;have HT:=oH a8;clear a8;by_cases hlt:k<xs.length
 .obtain⟨b,aE,x,rfl, -,hx,hc⟩:=hr.int hlt
  have HX:=oH hx;clear hx;by_cases hL:aRP rank x=false
  .have hf:r=false:=by
    cases r
    .rfl
    have:=(a1.out.1 rfl k x hlt HX.out).1;rw[hL] at this;cases this
   subst hf;have HL:=oH hL;clear hL;go_wp2_with fail;refine(aDu _ _ _ h1 h3).mono ?_;rintro e w' ⟨rfl,rfl⟩;rw[HL.out];go_wp2_with fail;go_ret;exact⟨rfl,rfl⟩
  have a4:aRP rank x=true:=by simpa using hL
  have HL:=oH a4;clear hL a4;cases k with
 |zero=>
   have aG:w.cell? ⟨b,aE,none⟩=some (.int .i64 x):=hc;go_wp2_with fail;refine(aDu _ _ _ h1 h3).mono ?_;rintro e w' ⟨rfl,rfl⟩;rw[HL.out];go_wp2_with fail;go_round
   case rel=>exact⟨1,oO,by go_num,HT.out.succ HX.out HL.out (fun y h=>absurd h (Nat.lt_irrefl 0))⟩
   simp[intOf];omega
 |succ m=>
   obtain⟨b',aF,y,he, -,hy,aH⟩:=hr.int (show m<xs.length by omega);injection he with he
   injection he with he1 he2 _
   subst he1 he2;have a6:=aB.out y (oG hy);have HY:=oH hy;have aD:-9223372036854775808<=y/\y<=9223372036854775807:=a6;obtain⟨a9,aA⟩:=aD;clear hy a6;by_cases hI:aFg y x=true
   .have hf:r=false:=by
     cases r
     .rfl
     have:=(a1.out.1 rfl (m+1) x hlt HX.out).2 y (Nat.succ_pos m) HY.out;rw[hI] at this;cases this
    subst hf;have HI:=oH hI;clear hI;go_wp2_with fail;refine(aDu _ _ _ h1 h3).mono ?_;rintro e w' ⟨rfl,rfl⟩;rw[HL.out];go_wp2_with fail;refine(aCe _ _ _ a9 aA).mono ?_;rintro e w' ⟨rfl,rfl⟩;rw[HI.out];go_wp2_with fail;go_ret;exact⟨rfl,rfl⟩
   have a3:aFg y x=false:=by simpa using hI
   have HI:=oH a3;clear hI a3;go_wp2_with fail;refine(aDu _ _ _ h1 h3).mono ?_;rintro e w' ⟨rfl,rfl⟩;rw[HL.out];go_wp2_with fail;refine(aCe _ _ _ a9 aA).mono ?_;rintro e w' ⟨rfl,rfl⟩;rw[HI.out];go_wp2_with fail;go_round
   case rel=>
    refine⟨m+1+1,oO,by go_num,HT.out.succ HX.out HL.out (fun z _ hz=>?_)⟩;rw[Nat.add_sub_cancel,HY.out] at hz;obtain rfl:=Option.some.inj hz;exact HI.out
   simp[intOf];omega
 obtain rfl:k=xs.length:=by omega
 obtain rfl:r=true:=a1.out.2 HT.out;go_wp2_with fail;go_ret;exact⟨rfl,rfl⟩
def PathIs(r s:Int)(es:List Ed)(u:Int)(wd:LI)(v:Int)(rs:Int)(res:List Ed)(b:Bool):Prop:=
 (b=true/\PathOk r s es u wd v/\rs=s+(wd.length:Int) - 1/\res=canon (es++aCq u s wd v wd.length)) \/ (b=false/\¬ PathOk r s es u wd v/\rs=s/\res=es)
theorem PathIs.no{r s:Int}{es:List Ed}{u:Int}{wd:LI}{v rs:Int}{res:List Ed}{b:Bool}(h:PathIs r s es u wd v rs res b)(hn:¬ PathOk r s es u wd v):b=false/\rs=s/\res=es:=by
 rcases h with⟨-,h, -⟩|⟨h1, -,h2⟩
 .exact absurd h hn
 exact⟨h1,h2⟩
theorem PathIs.yes{r s:Int}{es:List Ed}{u:Int}{wd:LI}{v rs:Int}{res:List Ed}{b:Bool}(h:PathIs r s es u wd v rs res b)(hn:PathOk r s es u wd v):b=true/\rs=s+(wd.length:Int) - 1/\res=canon (es++aCq u s wd v wd.length):=by
 rcases h with⟨h1, -,h2⟩|⟨-,h, -⟩
 .exact⟨h1,h2⟩
 exact absurd hn h
theorem aJl{x s:Int}(h1:1<=s)(h2:s<=40){b:Bool}(hb:b=true↔0<=x/\x<s):inB x 0 (wrap64 (s - 1))=b/\inB x 0 (s - 1)=b:=by
 have hw:wrap64 (s - 1)=s - 1:=by unfold wrap64;omega
 rw[hw];have h3:inB x 0 (s - 1)=b:=by
  cases b
  .have h:¬ (0<=x/\x<s):=fun h=>by have:=hb.2 h;cases this
   unfold inB;simp;omega
  have:=hb.1 rfl;unfold inB;simp;omega
 exact⟨h3,h3⟩
theorem aJZ(u x v:Int)(w:World)(h1:-9223372036854775808<x)(h2:x<=9223372036854775807) :
  Calls Tryz.prog 136 #[u,x,v] w fun e w'=>e=.returned (aBc u x v).v/\Mid 0 0 w w':=by
 by_cases h:x<0
 .have d1:decide (x<0)=true:=by simpa using h
  have he:aBc u x v=⟨v, -x,u⟩:=by rw[aBc,if_pos h]
  rw[he];clear he;go_enter Tryz.func136,Tryz.ntmps136
  go_wp2_with fail;refine oW (v:=.agg #[v,.int .i64 (-x),u]) (by simp[results,Tryz.results136,go_sem]) rfl ⟨rfl,?_⟩;repeat (first|exact oE _ _|refine oQ ?_ oM _)
 have d1:decide (x<0)=false:=by simpa using h
 have he:aBc u x v=⟨u,x,v⟩:=by rw[aBc,if_neg h]
 rw[he];clear he;go_enter Tryz.func136,Tryz.ntmps136
 go_wp2_with fail;refine oW (v:=.agg #[u,x,v]) (by simp[results,Tryz.results136,go_sem]) rfl ⟨rfl,?_⟩;repeat (first|exact oE _ _|refine oQ ?_ oM _)
theorem aNj(r s:Int)(A:OA)(es:List Ed)(c:Nat)(u:Int)(Aw:OA)(wd:LI)(cw:Nat)(v:Int)(w:World)(lo hi lo' hi':Nat)(hr:RG w lo hi A es)(hw:RV w lo' hi' Aw (aAe wd))(hl:es.length<=1048576)(bz:wd.length<=1048576)(bL:OkI wd)(rs:Int)(aH:List Ed)(b:Bool)(ak:PathIs r s es u wd v rs aH b) :
  Calls Tryz.prog 253 #[aAJ r s A es.length c,.int .i64 u,.slice Aw wd.length cw,.int .i64 v] w fun e w'=>∃ A1 c1,e=.returned (.tuple #[aAJ r rs A1 aH.length c1,.bool b])/\OG w' w.heap.size w'.heap.size A1 c1 aH/\Mid 0 0 w w':=by
 have HR:=oH ak;have bV:=oH bL;clear ak bL;obtain⟨b1,bE⟩:=aAF (IsGr r s es);obtain⟨b2,bF⟩:=aAF (0<=u/\u<s);obtain⟨b3,bG⟩:=aAF (0<=v/\v<s);obtain⟨b4,bH⟩:=aAF (IsW r wd);have H1:=oH bE;have H2:=oH bF;have H3:=oH bG;have H4:=oH bH;clear bE bF bG bH;have a4:Mid 0 0 w ((w.alloc (.cells #[r,s,.slice A es.length c] 35)).alloc (.cells #[(0:Int),(0:Int),.slice none 0 0] 35)):=(oE _ _).trans (oE _ _);have B0:=(oJ w #[r,s,.slice A es.length c] 35).mid (oE _ (.cells #[(0:Int),(0:Int),.slice none 0 0] 35)) oZr;have B2:=oJ (w.alloc (.cells #[r,s,.slice A es.length c] 35)) #[(0:Int),(0:Int),.slice none 0 0] 35;simp only[World.size_alloc] at B2;go_enter Tryz.func253,Tryz.ntmps253
 go_wp2_with fail;generalize hw1:((w.alloc (.cells #[r,s,.slice A es.length c] 35)).alloc (.cells #[(0:Int),(0:Int),.slice none 0 0] 35))=w1 at a4 B0 B2 |-;have bO:w1.heap.size=w.heap.size+1+1:=by rw[<- hw1];simp
 have HS:=oH bO;clear hw1 bO;with_reducible refine(aBH r s A es c _ _ _ (hr.mid a4 oZl) hl).mono ?_
 rintro en w2 ⟨A1,c1,rfl,b6,aU⟩;have aZ:=oE w2 (.cells #[r,s,.slice A1 es.length c1] 35);have Y3:=oJ w2 #[r,s,.slice A1 es.length c1] 35;replace B0:=B0.mid aU oZr;replace B2:=B2.mid aU oZr;replace a4:=a4.trans aU;replace B0:=B0.mid aZ oZr;replace B2:=B2.mid aZ oZr;replace a4:=a4.trans aZ;have bZ:w.heap.size+1<w2.heap.size:=by have:=HS.out;have:=aU.size;omega
 have a3:=(b6.mid aZ oZl)
 have ai:=b6.ov.2.2;have ad:Value.ownBlock (.slice A1 es.length c1)≠some w2.heap.size:=fun h=>by have:=ai _ h;omega
 obtain⟨p0,p1,p2⟩:=B0.c3 rfl;go_wp2_with fail;generalize w2.alloc (.cells #[r,s,.slice A1 es.length c1] 35)=w3 at a4 B0 B2 Y3 a3 p0 p1 p2 |-;have au:w2.heap.size<w3.heap.size:=Y3.1;have aJ:=oH a3.ov.2.1;have ao:=oH ad;have b7:=a3.wide oN oN (Nat.le_of_lt au);generalize hG:w2.heap.size=G at Y3 bZ au a3 ao |-;have bS:=oH (show w1.heap.size<=G by rw[<- hG];exact aU.size);clear hG aZ aU ai ad b6 b7;with_reducible refine(aDh r s A es c _ _ _ (hr.mid a4 oZl).rv hl b1 H1.out).mono ?_
 rintro en w4 ⟨rfl,aM⟩;replace B0:=B0.mid aM oZr;replace B2:=B2.mid aM oZr;replace Y3:=Y3.mid aM oZr;replace a3:=a3.mid aM oZl;replace a4:=a4.trans aM;replace aJ:=oH (aAb aJ.out aM oZl);clear aM;cases b1 with
|false=>
  have aB:¬ PathOk r s es u wd v:=fun h=>by have:=H1.out.2 h.gr;cases this
  clear p0 p1 p2;obtain⟨rfl,rfl,rfl⟩:=HR.out.no aB;obtain⟨a0,a1,a2⟩:=B2.c3 rfl;obtain⟨q0,q1,q2⟩:=Y3.c3 rfl;have af:=B2.2.2;go_wp2_with fail;refine oW (v:=.tuple #[.agg #[r,rs,.slice A1 aH.length c1],.bool false]) (by simp[results,Tryz.results253,go_sem,a0,a1,a2,af,q0,q1,q2]) rfl ⟨A1,c1,rfl,?_,?_⟩
  .refine OG.wide (OG.mid a3 (a:=w.heap.size) (b:=w.heap.size+2) ?_ (Or.inl (by have:=HS.out;omega))) (by have:=HS.out;omega) (by have:=a3.size;simp;omega) oN
   repeat (first|exact Mid.refl _ _ _|refine Mid.stored ?_ _ (by simp;try omega) (by simp;try omega))
  repeat (first|exact a4|refine oQ ?_ (by simp;try omega) _)
|true=>
 have ag:=H1.out.1 rfl;have an:=ag.size;have bu:=ag.len;have bx:=ag.rank;have GR:=oH ag;clear ag H1;clear p0 p1 p2;obtain⟨p0,p1,p2⟩:=B0.c3 rfl;go_wp2_with fail;with_reducible refine(aEQ r s A es.length c u _ b2 (aJl an.1 an.2 H2.out).1).mono ?_
 rintro en w5 ⟨rfl,aN⟩;replace B0:=B0.mid aN oZr;replace B2:=B2.mid aN oZr;replace Y3:=Y3.mid aN oZr;replace a3:=a3.mid aN oZl;replace a4:=a4.trans aN;replace aJ:=oH (aAb aJ.out aN oZl);clear aN;cases b2 with
|false=>
  have aB:¬ PathOk r s es u wd v:=fun h=>by have:=H2.out.2 h.u0;cases this
  clear p0 p1 p2;obtain⟨rfl,rfl,rfl⟩:=HR.out.no aB;obtain⟨a0,a1,a2⟩:=B2.c3 rfl;obtain⟨q0,q1,q2⟩:=Y3.c3 rfl;have af:=B2.2.2;go_wp2_with fail;refine oW (v:=.tuple #[.agg #[r,rs,.slice A1 aH.length c1],.bool false]) (by simp[results,Tryz.results253,go_sem,a0,a1,a2,af,q0,q1,q2]) rfl ⟨A1,c1,rfl,?_,?_⟩
  .refine OG.wide (OG.mid a3 (a:=w.heap.size) (b:=w.heap.size+2) ?_ (Or.inl (by have:=HS.out;omega))) (by have:=HS.out;omega) (by have:=a3.size;simp;omega) oN
   repeat (first|exact Mid.refl _ _ _|refine Mid.stored ?_ _ (by simp;try omega) (by simp;try omega))
  repeat (first|exact a4|refine oQ ?_ (by simp;try omega) _)
|true=>
 have bk:=H2.out.1 rfl;clear H2;clear p0 p1 p2;obtain⟨p0,p1,p2⟩:=B0.c3 rfl;go_wp2_with fail;with_reducible refine(aEQ r s A es.length c v _ b3 (aJl an.1 an.2 H3.out).1).mono ?_
 rintro en w6 ⟨rfl,aE⟩;replace B0:=B0.mid aE oZr;replace B2:=B2.mid aE oZr;replace Y3:=Y3.mid aE oZr;replace a3:=a3.mid aE oZl;replace a4:=a4.trans aE;replace aJ:=oH (aAb aJ.out aE oZl);clear aE;cases b3 with
|false=>
  have aB:¬ PathOk r s es u wd v:=fun h=>by have:=H3.out.2 h.v0;cases this
  clear p0 p1 p2;obtain⟨rfl,rfl,rfl⟩:=HR.out.no aB;obtain⟨a0,a1,a2⟩:=B2.c3 rfl;obtain⟨q0,q1,q2⟩:=Y3.c3 rfl;have af:=B2.2.2;go_wp2_with fail;refine oW (v:=.tuple #[.agg #[r,rs,.slice A1 aH.length c1],.bool false]) (by simp[results,Tryz.results253,go_sem,a0,a1,a2,af,q0,q1,q2]) rfl ⟨A1,c1,rfl,?_,?_⟩
  .refine OG.wide (OG.mid a3 (a:=w.heap.size) (b:=w.heap.size+2) ?_ (Or.inl (by have:=HS.out;omega))) (by have:=HS.out;omega) (by have:=a3.size;simp;omega) oN
   repeat (first|exact Mid.refl _ _ _|refine Mid.stored ?_ _ (by simp;try omega) (by simp;try omega))
  repeat (first|exact a4|refine oQ ?_ (by simp;try omega) _)
|true=>
 have bl:=H3.out.1 rfl;clear H3;clear p0 p1 p2;obtain⟨p0,p1,p2⟩:=B0.c3 rfl;by_cases aS:wd=[]
 .subst aS
  have aB:¬ PathOk r s es u [] v:=fun h=>h.ne rfl;clear p0 p1 p2;obtain⟨rfl,rfl,rfl⟩:=HR.out.no aB;obtain⟨a0,a1,a2⟩:=B2.c3 rfl;obtain⟨q0,q1,q2⟩:=Y3.c3 rfl;have af:=B2.2.2;go_wp2_with fail;refine oW (v:=.tuple #[.agg #[r,rs,.slice A1 aH.length c1],.bool false]) (by simp[results,Tryz.results253,go_sem,a0,a1,a2,af,q0,q1,q2]) rfl ⟨A1,c1,rfl,?_,?_⟩
  .refine OG.wide (OG.mid a3 (a:=w.heap.size) (b:=w.heap.size+2) ?_ (Or.inl (by have:=HS.out;omega))) (by have:=HS.out;omega) (by have:=a3.size;simp;omega) oN
   repeat (first|exact Mid.refl _ _ _|refine Mid.stored ?_ _ (by simp;try omega) (by simp;try omega))
  repeat (first|exact a4|refine oQ ?_ (by simp;try omega) _)
 have be:0<wd.length:=List.length_pos_iff.2 aS;have d4:((wd.length:Int) == 0)=false:=by simp only[beq_eq_false_iff_ne];omega
 have bT:=oH aS;clear aS;clear p0 p1 p2;obtain⟨p0,p1,p2⟩:=B0.c3 rfl;go_wp2_with fail;with_reducible refine(aBP r Aw wd cw _ _ ((hw.mid a4 oZl).rs) bV.out oO b4 H4.out).mono ?_
 rintro en w7 ⟨rfl,rfl⟩;cases b4 with
|false=>
  have aB:¬ PathOk r s es u wd v:=fun h=>by have:=H4.out.2 h.word;cases this
  clear p0 p1 p2;obtain⟨rfl,rfl,rfl⟩:=HR.out.no aB;obtain⟨a0,a1,a2⟩:=B2.c3 rfl;obtain⟨q0,q1,q2⟩:=Y3.c3 rfl;have af:=B2.2.2;go_wp2_with fail;refine oW (v:=.tuple #[.agg #[r,rs,.slice A1 aH.length c1],.bool false]) (by simp[results,Tryz.results253,go_sem,a0,a1,a2,af,q0,q1,q2]) rfl ⟨A1,c1,rfl,?_,?_⟩
  .refine OG.wide (OG.mid a3 (a:=w.heap.size) (b:=w.heap.size+2) ?_ (Or.inl (by have:=HS.out;omega))) (by have:=HS.out;omega) (by have:=a3.size;simp;omega) oN
   repeat (first|exact Mid.refl _ _ _|refine Mid.stored ?_ _ (by simp;try omega) (by simp;try omega))
  repeat (first|exact a4|refine oQ ?_ (by simp;try omega) _)
|true=>
 have bA:=H4.out.1 rfl;have bQ:=bA.2.2.1;have bD:=oH bA;clear bA H4;clear p0 p1 p2;obtain⟨p0,p1,p2⟩:=B0.c3 rfl;have bm:IntKind.i64.wrap (s+(wd.length:Int))=s+(wd.length:Int):=oI _;have bY:IntKind.i64.wrap (s+(wd.length:Int) - 1)=s+(wd.length:Int) - 1:=oI _;by_cases hsl:40<s+(wd.length:Int) - 1
 .have aB:¬ PathOk r s es u wd v:=fun h=>by have:=h.sz;omega
  have d5:decide (40<s+(wd.length:Int) - 1)=true:=by simpa using hsl
  clear p1;clear p0 p2;obtain⟨p0,p1,p2⟩:=B0.c3 rfl;obtain⟨rfl,rfl,rfl⟩:=HR.out.no aB;obtain⟨a0,a1,a2⟩:=B2.c3 rfl;obtain⟨q0,q1,q2⟩:=Y3.c3 rfl;have af:=B2.2.2;go_wp2_with fail;refine oW (v:=.tuple #[.agg #[r,rs,.slice A1 aH.length c1],.bool false]) (by simp[results,Tryz.results253,go_sem,a0,a1,a2,af,q0,q1,q2]) rfl ⟨A1,c1,rfl,?_,?_⟩
  .refine OG.wide (OG.mid a3 (a:=w.heap.size) (b:=w.heap.size+2) ?_ (Or.inl (by have:=HS.out;omega))) (by have:=HS.out;omega) (by have:=a3.size;simp;omega) oN
   repeat (first|exact Mid.refl _ _ _|refine Mid.stored ?_ _ (by simp;try omega) (by simp;try omega))
  repeat (first|exact a4|refine oQ ?_ (by simp;try omega) _)
 have d5:decide (40<s+(wd.length:Int) - 1)=false:=by simpa using hsl
 by_cases hll:120<es.length+wd.length
 .have aB:¬ PathOk r s es u wd v:=fun h=>by have:=h.ln;omega
  have d6:decide (120<(es.length:Int)+(wd.length:Int))=true:=by simp;omega
  obtain⟨rfl,rfl,rfl⟩:=HR.out.no aB;obtain⟨a0,a1,a2⟩:=B2.c3 rfl;obtain⟨q0,q1,q2⟩:=Y3.c3 rfl;have af:=B2.2.2;go_wp2_with fail;refine oW (v:=.tuple #[.agg #[r,rs,.slice A1 aH.length c1],.bool false]) (by simp[results,Tryz.results253,go_sem,a0,a1,a2,af,q0,q1,q2]) rfl ⟨A1,c1,rfl,?_,?_⟩
  .refine OG.wide (OG.mid a3 (a:=w.heap.size) (b:=w.heap.size+2) ?_ (Or.inl (by have:=HS.out;omega))) (by have:=HS.out;omega) (by have:=a3.size;simp;omega) oN
   repeat (first|exact Mid.refl _ _ _|refine Mid.stored ?_ _ (by simp;try omega) (by simp;try omega))
  repeat (first|exact a4|refine oQ ?_ (by simp;try omega) _)
 have d6:decide (120<(es.length:Int)+(wd.length:Int))=false:=by simp;omega
 obtain⟨rfl,aV,bN⟩:=HR.out.yes ⟨GR.out,bk,bl,bD.out,bT.out,oO,oO⟩;have bW:=oH aV;have bC:=oH bN;have bd:=oH GR.out.asc;clear aV bN HR;have c0:IntKind.i64.wrap ((wd.length:Int) - 1)=(wd.length:Int) - 1:=oI _;have ah:=oH bD.out.2.2.2.1;obtain⟨q0,q1,q2⟩:=Y3.c3 rfl;go_wp2_with fail;clear p0 p1 p2 q0 q1 q2;go_loopw [11,66] (fun at_ i wr=>∃(k:Nat) (A2:OA) (n2 c2:Nat) (sz:Int),k<=wd.length/\i=.int .i64 k/\at_=.int .i64 (aCd u s wd.length v k)/\Hid (sz=s+((min k (wd.length - 1):Nat):Int))/\Hid (n2=es.length+k) /\
  wr.ownsRow w1 110 3 (.slice A2 n2 c2) n2 (aAe (edI (es++aCq u s wd v k)))/\Value.ownBlock (.slice A2 n2 c2)≠some G /\
  Box wr w [r,s,.slice A es.length c]/\Box wr (w.heap.size+1) [(0:Int),(0:Int),.slice none 0 0] /\
  Box wr G [r,sz,.slice A2 n2 c2]/\Mid 0 0 w wr) (fun _ i _=>wd.length - (intOf i).toNat)
 case atStart=>exact⟨0,A1,es.length,c1,s,oZ,rfl,rfl,oH oM,oH rfl,by simpa [aCq] using aJ.out,ao.out,B0,B2,Y3,a4⟩
 clear B0 B2 Y3 a4 a3 aJ ao au;obtain⟨k,A2,n2,c2,sz,hk,rfl,rfl,HSZ,HN,aC,aw,Z0,Z2,Z3,aO⟩:=hrel;have aD:=HSZ.out;have bv:n2<=240:=by have:=HN.out;omega
 by_cases hlt:k<wd.length
 .obtain⟨B,c7,x,rfl,bp,hx,bI⟩:=(hw.mid aO oZl).at hlt
  have c6:=ah.out x (oG hx);have bt:(k:Int)<(wd.length:Int):=by omega
  have br:(0:Int)<=(k:Int):=by omega
  have bM:=aLl (u:=u) (s:=s) (v:=v) hx;have aL:=oH bM;have bn:G<wr.heap.size:=Z3.1;have bj:w1.heap.size<=wr.heap.size:=by have:=bS.out;omega
  clear hx bM;generalize hat:aCd u s wd.length v k=at0 at aL |-;clear hat;by_cases hlast:k+1<wd.length
  focus
   have aG:((min k (wd.length - 1):Nat):Int)=(k:Int):=by rw[Nat.min_eq_left oO]
   have aK:((min (k+1) (wd.length - 1):Nat):Int)=(k:Int)+1:=by rw[Nat.min_eq_left oO];rfl
   rw[aG] at aD;subst aD;have am:aCd u s wd.length v (k+1)=s+(k:Int):=by
    rw[aCd,if_neg oO,if_pos hlast];omega
   rw[am] at aL;have dk:decide ((k:Int)<(wd.length:Int) - 1)=true:=by simp;omega
   have c5:IntKind.i64.wrap (s+(k:Int)+1)=s+(k:Int)+1:=oI _;have q1:=Z3.cell 1 rfl;have qf:=Z3.2.2;have aW:=Mid.setCell wr (lo:=G) (hi:=G+1) (p:=⟨G,1,none⟩) (.int .i64 (s+(k:Int)+1)) oN oS;have V0:=Z0.mid aW;have V2:=Z2.mid aW;have V3:=Z3.set 1 (.int .i64 (s+(k:Int)+1)) oM rfl;have a6:=aIp aC (k:=G) (aBD (World.grownBy.refl _ (some G)) 1 (.int .i64 (s+(k:Int)+1))) aw;have aR:=aO.storeNew (p:=⟨G,1,none⟩) (by show w.heap.size<=G;omega) (.int .i64 (s+(k:Int)+1));have bP:(wr.setCell ⟨G,1,none⟩ (.int .i64 (s+(k:Int)+1))).heap.size=wr.heap.size:=by simp
   go_wp2_with fail;generalize wr.setCell ⟨G,1,none⟩ (.int .i64 (s+(k:Int)+1))=wx at V0 V2 V3 a6 aR bP |-;have aI:Hid (s+(k:Int)+1=s+((min (k+1) (wd.length - 1):Nat):Int)):=oH (by rw[aK];omega);clear Z0 Z2 Z3 aC aO q1 qf aW bI aG aK HSZ;simp only[List.set_cons_succ,List.set_cons_zero] at V3;generalize s+(k:Int)+1=sz' at V3 aI;generalize s+(k:Int)=tz at aL am |-;have bb:G<wx.heap.size:=V3.1;have a8:=Mid.drew1 wx;have U0:=V0.mid a8 oZr;have U2:=V2.mid a8 oZr;have U3:=V3.mid a8 oZr;have a5:=aAb a6 a8 oZl;have aP:=aR.trans a8;have g2:=U3.cell 2 rfl;have b8:=a8.size;have aY:=fun W=>aJZ at0 x tz W oO oO;clear V0 V2 V3 a6 aR a8;refine aAM (S:=(fun w'=>w'.cell? ⟨G,2,none⟩=some (.slice A2 n2 c2))) 9 oK g2 ?_;generalize World.drew wx=wz at U0 U2 U3 a5 aP g2 b8 |-;refine tkT 0 rfl g2 ?_;try simp only[oP]
   refine tkT 1 rfl g2 ?_;try simp only[oP]
   refine tkT 2 rfl g2 ?_;try simp only[oP]
   refine tkT 3 rfl g2 ?_;try simp only[oP]
   refine tkT 4 rfl g2 ?_;try simp only[oP]
   refine rdT 5 rfl (fun K hK=>?_)
   (go_simp;refine(aY _).mono ?_;rintro en w7 ⟨rfl,a7⟩;have aT:=U3.mid a7 oZr;go_wp2_with fail)
   refine hK.out _ _ (Or.inr (aT.cell 2 rfl)) (fun _=>?_);clear hK K;try simp only[oP]
   have aq:=U0.mid a7 oZr;have ar:=U2.mid a7 oZr;have a9:=aAb a5 a7 oZl;have aQ:=aP.trans a7;have bh:=a7.size;clear U0 U2 U3 a5 aP g2 aY a7;generalize aBc at0 x tz=ed at aL |-
  rotate_left
  focus
   have bs:k+1=wd.length:=by omega
   have aG:min k (wd.length - 1)=min (k+1) (wd.length - 1):=by omega
   have aI:Hid (sz=s+((min (k+1) (wd.length - 1):Nat):Int)):=oH (by rw[aD,aG]);have am:aCd u s wd.length v (k+1)=v:=by
    rw[aCd,if_neg oO,if_neg oO]
   rw[am] at aL;have dk:decide ((k:Int)<(wd.length:Int) - 1)=false:=by simp;omega
   clear aD aG HSZ;generalize sz=sz' at Z3 aI;go_wp2_with fail;have V0:=Z0;have V2:=Z2;have V3:=Z3;have a6:=aC;have aR:=aO;obtain⟨wx,bR⟩:∃ wx,wr=wx:=⟨_,rfl⟩
   have bP:wx.heap.size=wr.heap.size:=by rw[bR]
   rw[bR] at V0 V2 V3 a6 aR |-;clear Z0 Z2 Z3 aC aO bI;have bb:G<wx.heap.size:=V3.1;have a8:=Mid.drew1 wx;have U0:=V0.mid a8 oZr;have U2:=V2.mid a8 oZr;have U3:=V3.mid a8 oZr;have a5:=aAb a6 a8 oZl;have aP:=aR.trans a8;have g2:=U3.cell 2 rfl;have b8:=a8.size;have aY:=fun W=>aJZ at0 x v W oO oO;clear V0 V2 V3 a6 aR a8;refine aAM (S:=(fun w'=>w'.cell? ⟨G,2,none⟩=some (.slice A2 n2 c2))) 9 oK g2 ?_;generalize World.drew wx=wz at U0 U2 U3 a5 aP g2 b8 |-;refine tkT 0 rfl g2 ?_;try simp only[oP]
   refine tkT 1 rfl g2 ?_;try simp only[oP]
   refine tkT 2 rfl g2 ?_;try simp only[oP]
   refine tkT 3 rfl g2 ?_;try simp only[oP]
   refine tkT 4 rfl g2 ?_;try simp only[oP]
   refine rdT 5 rfl (fun K hK=>?_)
   (go_simp;refine(aY _).mono ?_;rintro en w7 ⟨rfl,a7⟩;have aT:=U3.mid a7 oZr;go_wp2_with fail)
   refine hK.out _ _ (Or.inr (aT.cell 2 rfl)) (fun _=>?_);clear hK K;try simp only[oP]
   have aq:=U0.mid a7 oZr;have ar:=U2.mid a7 oZr;have a9:=aAb a5 a7 oZl;have aQ:=aP.trans a7;have bh:=a7.size;clear U0 U2 U3 a5 aP g2 aY a7;generalize aBc at0 x v=ed at aL |-
  rotate_left
  all_goals
   have ab:=oE w7 (.cells #[.int .i64 ed.a,.int .i64 ed.l,.int .i64 ed.b] 110);have T0:=aq.mid ab oZr;have T2:=ar.mid ab oZr;have T3:=aT.mid ab oZr;have aA:=a9.alloc (.cells #[.int .i64 ed.a,.int .i64 ed.l,.int .i64 ed.b] 110);have az:=aQ.trans ab;have av:=T3.cell 2 rfl;have aV:Rs (w7.alloc (.cells #[.int .i64 ed.a,.int .i64 ed.l,.int .i64 ed.b] 110)) (w7.heap.size+1) (some ⟨w7,0,none⟩) [.int .i64 ed.a,.int .i64 ed.l,.int .i64 ed.b]:=fun _=>⟨w7.heap.size,0,rfl,oS,fun j u hu=>(World.cell?_alloc_at _ _ _ _ rfl).trans (by simpa using hu)⟩
   have aj:∀ u∈[Value.int .i64 ed.a,.int .i64 ed.l,.int .i64 ed.b],u.oneCell'=true:=by
    intro u hu;simp at hu;rcases hu with rfl|rfl|rfl <;> rfl
   have b5:n2+1<=maxLen:=by unfold maxLen;omega
   have ax:(n2+1) * 24<=140737488355328:=by omega
   have ae:w1.heap.size<=(w7.alloc (.cells #[.int .i64 ed.a,.int .i64 ed.l,.int .i64 ed.b] 110)).heap.size:=by simp;omega
   have bo:G<w7.heap.size:=aT.1;have HO:=oH aj;have bB:=oH (fun(g:Nat) (h:Value.ownBlock (.slice A2 n2 c2)=some g)=>(aA.lt g h).1);have ap:=oH aw;clear aj aw aq ar aT a9 aQ ab;refine rdT 6 rfl (fun K hK=>?_);go_simp;refine hK.out _ _ (Or.inr av) (fun _=>?_);clear hK K;try simp only[oP]
   generalize hwt:w7.alloc (.cells #[.int .i64 ed.a,.int .i64 ed.l,.int .i64 ed.b] 110)=wt at T0 T2 T3 aA az av aV ae |-;have al:wt.heap.size=w7.heap.size+1:=by rw[<- hwt];simp
   have bX:=oH al;clear hwt al;refine rdT 7 rfl (fun K hK=>?_)
   (refine aAV (by rfl) (.tmp 84) (.tmp 89) 33 (by rfl) w1.heap.size 110 (.agg #[(0:Int),(0:Int),(0:Int)]) 3 24 aMH aNq rfl oD (.slice A2 n2 c2) n2 _ (by rfl) aA (some ⟨w7,0,none⟩) 1 1 _ [.int .i64 ed.a,.int .i64 ed.l,.int .i64 ed.b] (by rfl) aV rfl HO.out b5 ax ae ?_;intro v2 w8 bK aF aa;obtain⟨A3,c3,rfl, -, -⟩:=aAc bK)
   refine hK.out _ _ (Or.inr ((T3.grown aF ap.out).cell 2 rfl)) (fun _=>?_);clear hK K;try simp only[oP]
   have R3:=T3.grown aF ap.out;have R0:=T0.grown aF (fun h=>by have:=bB.out _ h;have:=HS.out;omega);have R2:=T2.grown aF (fun h=>by have:=bB.out _ h;have:=HS.out;omega);have ay:Mid 0 0 w w8:=az.transNew (oF aA aF) (Or.inl (by have:=HS.out;omega));have bc:=R3.cell 2 rfl;have aS:Value.ownBlock (.slice A3 (n2+1) c3)≠some G:=by
    rcases aa with h|h
    .rw[h];exact ap.out
    rw[h];intro he;injection he with he
    have:=bX.out;omega
   have aX:=oH aS;have bw:=R3.2.2;clear aS aa av aV T0 T2 T3 az;refine tkT 8 rfl bc ?_;try simp only[oP]
   refine rdT 9 rfl (fun K hK=>?_)
   (go_simp)
   refine hK.out _ _ (Or.inl rfl) (fun _=>?_);clear hK K;try simp only[oP]
   refine aAR oK ?_ _;go_wp2_with fail;go_roundw
   case rel=>
    have aW:=Mid.setCell w8 (lo:=G) (hi:=G+1) (p:=⟨G,2,none⟩) (.slice A3 (n2+1) c3) oN oS;refine⟨k+1,A3,n2+1,c3,sz',oO,by go_num,by rw[am],aI,oH (by rw[HN.out];omega),?_,aX.out,R0.mid aW,R2.mid aW,R3.set 2 _ oM rfl,ay.storeNew (by show w.heap.size<=G;omega) _⟩;have h1:=aIp bK (k:=G) (aBD (World.grownBy.refl _ (some G)) 2 (.slice A3 (n2+1) c3)) aX.out;rw[aL.out,<- List.append_assoc,aCW,aAi,aIe];exact h1
   simp[intOf];omega
 obtain rfl:k=wd.length:=by omega
 have b9:sz=s+(wd.length:Int) - 1:=by rw[aD,Nat.min_eq_right oO];omega
 subst b9;have bg:RG wr w1 wr A2 (es++aCq u s wd v wd.length):=OV.rv (e:=110) (size:=3) (c:=c2) (n:=n2) ⟨oN,aC,fun g hg=>(aC.lt g hg).2⟩;have bJ:(es++aCq u s wd v wd.length).length=n2:=by rw[HN.out,List.length_append,aHN]
 have bU:=oH bJ;have z2:=Z3.cell 2 rfl;clear bJ aD;go_wp2_with fail;with_reducible refine(aCE A2 (es++aCq u s wd v wd.length) n2 c2 _ _ _ bU.out bg oO).mono ?_
 rintro en w6 ⟨A4,c4,rfl,b7,aE⟩;have Q2:=Z2.mid aE oZr;have Q3:=Z3.mid aE oZr;have ba:G<wr.heap.size:=Z3.1;have bi:=aE.size;clear z2;obtain⟨a0,a1,a2⟩:=Q2.c3 rfl;obtain⟨b0,b1,b2⟩:=Q3.c3 rfl;have af:=Q2.2.2;have bf:=Q3.2.2;go_wp2_with fail;have bq:(w.heap.size+1 == G)=false:=by simp;omega
 refine oW (v:=.tuple #[.agg #[r,.int .i64 (s+(wd.length:Int) - 1),.slice A4 (canon (es++aCq u s wd v wd.length)).length c4],.bool true]) (by simp[results,Tryz.results253,go_sem,a0,a1,a2,b0,b1,b2,af,bf]) rfl ⟨A4,c4,?_,?_,?_⟩
 .rw[bW.out,bC.out]
 .rw[bC.out]
  refine OG.wide (OG.mid b7 (a:=w.heap.size) (b:=G+1) ?_ (Or.inl ba)) (by have:=aO.size;omega) oM oN;repeat (first|exact Mid.refl _ _ _|refine Mid.stored ?_ _ (by simp;try omega) (by simp;try omega))
 have h:=aO.trans aE;repeat (first|exact h|refine oQ ?_ (by simp;try omega) _)
def aAL(es:List Ed):Nat->List (Int × Int)
|0=>[]
|k+1=>aAL es k++(match es[k]? with|none=>[]|some e=>(es.drop (k+1)).flatMap (aAp e))
theorem aII{es:List Ed}{k:Nat}{e:Ed}(h:es[k]?=some e):aAL es (k+1)=aAL es k++(es.drop (k+1)).flatMap (aAp e):=by
 rw[aAL,h]
theorem aIH(f:Ed)(t:List Ed):∀ k,aAL (f::t) (k+1)=t.flatMap (aAp f)++aAL t k
|0=>by simp[aAL]
|k+1=>by
  rw[aAL,aIH f t k,aAL,List.append_assoc];simp
theorem aGF:∀ es:List Ed,aAL es es.length=aCo es
|[]=>rfl
|f::t=>by rw[List.length_cons,aIH,aGF t,aCo]
theorem aOv(e f:Ed):(aAp e f).length<=2:=by
 unfold aAp;split
 .split <;> split <;> simp
 simp
theorem aJk(e:Ed):∀ t:List Ed,(t.flatMap (aAp e)).length<=2 * t.length
|[]=>by simp
|f::t=>by
  have:=aJk e t;have:=aOv e f;rw[List.flatMap_cons,List.length_append,List.length_cons];omega
theorem aGG(es:List Ed):∀ k,(aAL es k).length<=k * (2 * es.length)
|0=>by simp[aAL]
|k+1=>by
  have:=aGG es k;rw[aAL,List.length_append,Nat.succ_mul];cases h:es[k]? with
 |none=>simp;omega
 |some e=>
   have h1:=aJk e (es.drop (k+1));rw[List.length_drop] at h1;simp only;omega
def fdI(ps:List (Int × Int)):LI:=(ps.map fun p=>[p.1,p.2]).flatten
theorem aQt(a b:List (Int × Int)):fdI (a++b)=fdI a++fdI b:=by simp[fdI]
theorem aUl(p:Int × Int):fdI [p]=[p.1,p.2]:=by simp[fdI]
theorem aGd(p:Int × Int)(t:List (Int × Int)):fdI (p::t)=p.1::p.2::fdI t:=by simp[fdI]
theorem aNa{e:Ed}{fs:List Ed}{j:Nat}{f:Ed}(h:fs[j]?=some f):(fs.take (j+1)).flatMap (aAp e)=(fs.take j).flatMap (aAp e)++aAp e f:=by
 rw[aBh h,List.flatMap_append];simp
theorem aLq{R:Ed->Ed->Prop}:∀ {es:List Ed},(∀ i e,es[i]?=some e->∀ f∈es.drop (i+1),R e f)->es.Pairwise R
|[],_=>List.Pairwise.nil
|a::t,h=>List.pairwise_cons.2 ⟨fun f hf=>h 0 a rfl f (by simpa using hf),aLq fun i e he f hf=>h (i+1) e (by simpa using he) f (by simpa using hf)⟩
theorem aUK{R:Ed->Ed->Prop}{es:List Ed}(h:es.Pairwise R){i:Nat}{e:Ed}(he:es[i]?=some e){f:Ed}(hf:f∈es.drop (i+1)):R e f:=by
 induction es generalizing i with
|nil=>simp at he
|cons a t ih=>
  obtain⟨h1,h2⟩:=List.pairwise_cons.1 h;cases i with
 |zero=>
   obtain rfl:a=e:=by simpa using he
   exact h1 f (by simpa using hf)
 |succ i=>exact ih h2 (by simpa using he) (by simpa using hf)
theorem RG.drop{w:World}{lo hi:Nat}{b off:Nat}{es:List Ed}(h:RG w lo hi (some ⟨b,off,none⟩) es){k:Nat}:RG w lo hi (some ⟨b,off+k * 3,none⟩) (es.drop k):=by
 refine⟨h.1,fun hn=>?_⟩;obtain⟨b',a0,hA,h1,h2,hc⟩:=h.2 (fun he=>hn (by
  rw[aAe,List.map_eq_nil_iff] at he |-;rw[aLK,he];exact List.drop_nil))
 injection hA with hA
 injection hA with hA1 hA2
 subst hA1 hA2;refine⟨b,off+k * 3,rfl,h1,h2,fun j u hu=>?_⟩;have:=hc (k * 3+j) u (by
  rw[aAe,aLK,List.map_drop,List.getElem?_drop] at hu;rw[aAe];exact hu)
 rw[show off+k * 3+j=off+(k * 3+j) by omega];exact this
theorem aBO(r s:Int)(A:OA)(es:List Ed)(c:Nat)(w:World)(lo hi:Nat)(hr:RG w lo hi A es)(hl:es.length<=1048576)(aP:es.length<=c)(b:Bool)(hb:b=true↔IsFol r s es) :
  Calls Tryz.prog 59 #[aAJ r s A es.length c] w fun e w'=>e=.returned (.bool b)/\Mid 0 0 w w':=by
 have HB:=oH hb;clear hb;have aF:Mid 0 0 w (w.alloc (.cells #[r,s,.slice A es.length c] 35)):=oE _ _;have B1:=(oJ w #[r,s,.slice A es.length c] 35)
 obtain⟨b1,aC⟩:=aAF (IsGr r s es);have H1:=oH aC;clear aC;go_enter Tryz.func59,Tryz.ntmps59
 go_wp2_with fail;with_reducible refine(aDh r s A es c _ _ _ (hr.mid aF oZl).rv hl b1 H1.out).mono ?_
 rintro en w1 ⟨rfl,aG⟩;have a9:=B1.mid aG oZr;clear B1;obtain⟨p0,p1,p2⟩:=a9.c3 rfl;have hm:=aF.trans aG;cases b1 with
|false=>
  obtain rfl:b=false:=aAG HB.out fun h=>by have:=H1.out.2 h.gr;cases this
  go_wp2_with fail;go_ret;exact⟨rfl,hm⟩
|true=>
 have G1:=oH (H1.out.1 rfl);go_wp2_with fail;go_loopw [13] (fun i wr=>∃ k:Nat,k<=es.length/\i=.int .i64 k/\Box wr w.heap.size [.int .i64 r,.int .i64 s,.slice A es.length c]/\(∀ i e,i<k->es[i]?=some e->∀ f∈es.drop (i+1),¬ Clash e f)/\Mid 0 0 w wr) (fun i _=>es.length - (intOf i).toNat)
 case atStart=>exact⟨0,oZ,rfl,a9,fun i e hi=>absurd hi (Nat.not_lt_zero _),hm⟩
 obtain⟨wo,aL⟩:∃ wo,wo=wr:=⟨_,rfl⟩
 subst aL;obtain⟨k,hk,rfl,bx,a0,a7⟩:=hrel;by_cases hlt:k<es.length
 .obtain⟨B,aM,e,rfl, -,aO,he,e0,e1,e2⟩:=(hr.mid a7 oZl).ed hlt
  have aB:=oE wo (.cells #[.int .i64 e.a,.int .i64 e.l,.int .i64 e.b] 110);have E1:=oJ wo #[.int .i64 e.a,.int .i64 e.l,.int .i64 e.b] 110;have a5:=a7.trans aB;have B1:=bx.mid aB oZr;obtain⟨q0,q1,q2⟩:=B1.c3 rfl;have aR:(k:Int)<(es.length:Int):=by omega
  by_cases hck:c=k+1
  .subst hck
   go_wp2_with fail;have aD:(es.drop (k+1)).length=es.length - (k+1):=List.length_drop;have HE:=oH he;have HA:=oH a0;clear he a0;have HN:Hid (∀ i e',i<k+1->es[i]?=some e'->∀ f∈es.drop (i+1),¬ Clash e' f):=oH (by
    intro i e' hi a2 f hf;by_cases h:i<k
    .exact HA.out i e' h a2 f hf
    .obtain rfl:i=k:=by omega
     have:=List.length_pos_of_mem hf;omega)
   go_loopw [24] (fun i wr=>i=.int .i64 0/\wr=wo.alloc (.cells #[.int .i64 e.a,.int .i64 e.l,.int .i64 e.b] 110)) (fun _ _=>0)
   case atStart=>exact⟨rfl,rfl⟩
   obtain⟨rfl,rfl⟩:=hrel;go_wp2_with fail;go_roundw
   case rel=>exact⟨k+1,oO,by go_num,B1,HN.out,a5⟩
   simp[intOf];omega
  go_wp2_with fail;have aK:=(hr.mid a5 oZl).drop (k:=k+1);have aD:(es.drop (k+1)).length=es.length - (k+1):=List.length_drop;have HE:=oH he;have HA:=oH a0;clear he a0;go_loopw [24] (fun i wr=>∃ j:Nat,j<=es.length - (k+1)/\i=.int .i64 j/\Box wr w.heap.size [.int .i64 r,.int .i64 s,.slice (some ⟨B,aM,none⟩) es.length c]/\Box wr wo.heap.size [.int .i64 e.a,.int .i64 e.l,.int .i64 e.b]/\(∀ f∈(es.drop (k+1)).take j,¬ Clash e f)/\Mid 0 0 (wo.alloc (.cells #[.int .i64 e.a,.int .i64 e.l,.int .i64 e.b] 110)) wr) (fun i _=>es.length - (k+1) - (intOf i).toNat)
  case atStart=>exact⟨0,oZ,rfl,B1,E1,by simp,Mid.refl _ _ _⟩
  obtain⟨j,hj,rfl,aA,aI,a6,a8⟩:=hrel;by_cases hlt2:j<es.length - (k+1)
  .obtain⟨B',aN,f,hA, -,aJ,hf,f0,f1,f2⟩:=(aK.mid a8 oZl).ed (k:=j) oO
   injection hA with hA
   injection hA with hA1 hA2
   subst hA1 hA2;have a1:=oE wr (.cells #[.int .i64 f.a,.int .i64 f.l,.int .i64 f.b] 110);have a3:=a8.trans a1;have aH:=aA.mid a1 oZr;have a4:=aI.mid a1 oZr;obtain⟨g0,g1,g2⟩:=a4.c3 rfl;have aQ:(j:Int)<((es.length - (k+1):Nat):Int):=by omega
   have HF:=oH hf;have HI:=oH a6;clear hf a6;by_cases hc:Clash e f
   .have hb:b=false:=aAG HB.out fun h=>aUK h.fol HE.out (oG HF.out) hc
    subst hb;obtain⟨c1,c2⟩:=hc;have d1:(e.l == f.l)=true:=by simpa using c1
    by_cases c3:e.a=f.a
    .have d2:(e.a == f.a)=true:=by simpa using c3
     clear c1 c2 c3;go_wp2_with fail;go_ret;exact⟨rfl,(a5.trans a3)⟩
    have d2:(e.a == f.a)=false:=by simpa only[beq_eq_false_iff_ne] using c3
    have d3:(e.b == f.b)=true:=by simpa using(c2.resolve_left c3)
    clear c1 c2 c3;go_wp2_with fail;go_ret;exact⟨rfl,(a5.trans a3)⟩
   have HN:Hid (∀ f'∈(es.drop (k+1)).take (j+1),¬ Clash e f'):=oH (by
    intro f' aE;rw[aBh HF.out] at aE;rcases List.mem_append.1 aE with h|h
    .exact HI.out f' h
    .obtain rfl:f'=f:=by simpa using h
     exact hc)
   by_cases c1:e.l=f.l
   focus
    have d1:(e.l == f.l)=true:=by simpa using c1
    have d2:(e.a == f.a)=false:=by simp only[beq_eq_false_iff_ne];exact fun h=>hc ⟨c1,.inl h⟩
    have d3:(e.b == f.b)=false:=by simp only[beq_eq_false_iff_ne];exact fun h=>hc ⟨c1,.inr h⟩
   rotate_left
   focus
    have d1:(e.l == f.l)=false:=by simpa only[beq_eq_false_iff_ne] using c1
   rotate_left
   all_goals
    clear c1 hc;go_wp2_with fail;go_roundw
    case rel=>exact⟨j+1,oO,by go_num,aH,a4,HN.out,a3⟩
    simp[intOf];omega
  obtain rfl:j=es.length - (k+1):=by omega
  have HN:Hid (∀ i e',i<k+1->es[i]?=some e'->∀ f∈es.drop (i+1),¬ Clash e' f):=oH (by
   intro i e' hi a2 f hf;by_cases h:i<k
   .exact HA.out i e' h a2 f hf
   .obtain rfl:i=k:=by omega
    rw[HE.out] at a2;injection a2 with a2
    subst a2;exact a6 f (by rw[<- aD,List.take_length];exact hf))
  go_wp2_with fail;go_roundw
  case rel=>exact⟨k+1,oO,by go_num,aA,HN.out,a5.trans a8⟩
  simp[intOf];omega
 obtain rfl:k=es.length:=by omega
 obtain rfl:b=true:=HB.out.2 ⟨G1.out,aLq fun i e he=>a0 i e (List.getElem?_eq_some_iff.1 he).1 he⟩;go_wp2_with fail;go_ret;exact⟨rfl,a7⟩
theorem aSq{es:List Ed}(h:∀(i j:Nat) (e f:Ed),j<i->es[i]?=some e->es[j]?=some f->¬ Clash e f):es.Pairwise fun e f=>¬ Clash e f:=by
 rw[List.pairwise_iff_getElem];intro i j hi hj a0 hc;exact h j i _ _ a0 (List.getElem?_eq_getElem hj) (List.getElem?_eq_getElem hi) hc.symm
theorem aRG{es:List Ed}(h:es.Pairwise fun e f=>¬ Clash e f){i j:Nat}{e f:Ed}(a0:j<i)(he:es[i]?=some e)(hf:es[j]?=some f):¬ Clash e f:=by
 rw[List.pairwise_iff_getElem] at h;obtain⟨hi,rfl⟩:=List.getElem?_eq_some_iff.1 he;obtain⟨hj,rfl⟩:=List.getElem?_eq_some_iff.1 hf;exact fun hc=>h j i hj hi a0 hc.symm
theorem aAY(r s:Int)(A:OA)(es:List Ed)(c:Nat)(w:World)(lo hi:Nat)(hr:RG w lo hi A es)(hl:es.length<=1048576)(b:Bool)(hb:b=true↔IsFol r s es) :
  Calls Tryz.prog 126 #[aAJ r s A es.length c] w fun e w'=>e=.returned (.bool b)/\Mid 0 0 w w':=by
 have HB:=oH hb;clear hb;have aK:Mid 0 0 w (w.alloc (.cells #[r,s,.slice A es.length c] 35)):=oE _ _;have B1:=(oJ w #[r,s,.slice A es.length c] 35)
 obtain⟨b1,aD⟩:=aAF (IsGr r s es);have H1:=oH aD;clear aD;go_enter Tryz.func126,Tryz.ntmps126
 go_wp2_with fail;go_loopw [3] (fun i wr=>∃ k:Nat,k<=es.length/\i=.int .i64 k/\Box wr w.heap.size [.int .i64 r,.int .i64 s,.slice A es.length c]/\(∀(i j:Nat) (e f:Ed),j<i->i<k->es[i]?=some e->es[j]?=some f->¬ Clash e f)/\Mid 0 0 w wr) (fun i _=>es.length - (intOf i).toNat)
 case atStart=>exact⟨0,oZ,rfl,B1,fun i j e f h1 h2=>absurd h2 (Nat.not_lt_zero _),aK⟩
 obtain⟨wo,aL⟩:∃ wo,wo=wr:=⟨_,rfl⟩
 subst aL;obtain⟨k,hk,rfl,bx,a6,a8⟩:=hrel;obtain⟨p0,p1,p2⟩:=bx.c3 rfl;have HA:=oH a6;clear a6;by_cases hlt:k<es.length
 .have aS:(k:Int)<(es.length:Int):=by omega
  go_wp2_with fail;with_reducible refine(aBa r s A es c _ _ _ (hr.mid a8 oZl).rv hl b1 H1.out).mono ?_
  rintro en w1 ⟨rfl,aF⟩;have aB:=a8.trans aF;have aC:=bx.mid aF oZr;obtain⟨q0,q1,q2⟩:=aC.c3 rfl;cases b1
  .obtain rfl:b=false:=aAG HB.out fun h=>by have:=H1.out.2 h.gr;cases this
   go_wp2_with fail;with_reducible refine(aBa r s A es c _ _ _ (hr.mid aB oZl).rv hl false H1.out).mono ?_
   rintro en w2 ⟨rfl,aA⟩;go_wp2_with fail;go_ret;exact⟨rfl,aB.trans aA⟩
  have G1:=oH (H1.out.1 rfl);go_wp2_with fail;go_loopw [4] (fun i wr=>∃ j:Nat,j<=k/\i=.int .i64 j/\Box wr w.heap.size [.int .i64 r,.int .i64 s,.slice A es.length c]/\(∀(i:Nat) (e f:Ed),i<j->es[k]?=some e->es[i]?=some f->¬ Clash e f)/\Mid 0 0 w wr) (fun i _=>k - (intOf i).toNat)
  case atStart=>exact⟨0,oZ,rfl,aC,fun i e f h=>absurd h (Nat.not_lt_zero _),aB⟩
  obtain⟨j,hj,rfl,a7,aE,a4⟩:=hrel;obtain⟨u0,u1,u2⟩:=a7.c3 rfl;have HI:=oH aE;clear aE;by_cases hlt2:j<k
  .obtain⟨B,aT,e,rfl, -,aQ,he,e0,e1,e2⟩:=(hr.mid a4 oZl).ed hlt
   obtain⟨B',aM,f,hA, -,aI,hf,f0,f1,f2⟩:=(hr.mid a4 oZl).ed (k:=j) oO;injection hA with hA
   injection hA with hA1 hA2
   subst hA1 hA2;have a9:B<wr.heap.size:=by have:=hr.1;have:=a4.size;omega
   have a0:=oE wr (.cells #[.int .i64 e.a,.int .i64 e.l,.int .i64 e.b] 110);have a5:=oE (wr.alloc (.cells #[.int .i64 e.a,.int .i64 e.l,.int .i64 e.b] 110)) (.cells #[.int .i64 f.a,.int .i64 f.l,.int .i64 f.b] 110);have a1:=a0.trans a5;have E1:=(oJ wr #[.int .i64 e.a,.int .i64 e.l,.int .i64 e.b] 110).mid a5 oZr;have E2:=oJ (wr.alloc (.cells #[.int .i64 e.a,.int .i64 e.l,.int .i64 e.b] 110)) #[.int .i64 f.a,.int .i64 f.l,.int .i64 f.b] 110;rw[World.size_alloc] at E2;have aH:=a7.mid a0 oZr;have aG:=a7.mid a1 oZr;obtain⟨aU,aV,aW⟩:=aH.c3 rfl;obtain⟨g0,g1,g2⟩:=E1.c3 rfl;obtain⟨h0,h1,h2⟩:=E2.c3 rfl;have aN:=aAa a0 a9 oZr f0;have aO:=aAa a0 a9 oZr f1;have aP:=aAa a0 a9 oZr f2;have aR:(j:Int)<(k:Int):=by omega
   have aJ:(j:Int)<(es.length:Int):=by omega
   have HE:=oH he;have HF:=oH hf;clear he hf;by_cases hc:Clash e f
   .have hb:b=false:=aAG HB.out fun h=>aRG h.fol hlt2 HE.out HF.out hc
    subst hb;obtain⟨c1,c2⟩:=hc;have d1:(e.l == f.l)=true:=by simpa using c1
    by_cases c3:e.a=f.a
    .have d2:(e.a == f.a)=true:=by simpa using c3
     clear c1 c2 c3;go_wp2_with fail;go_ret;exact⟨rfl,a4.trans a1⟩
    have d2:(e.a == f.a)=false:=by simpa only[beq_eq_false_iff_ne] using c3
    have d3:(e.b == f.b)=true:=by simpa using(c2.resolve_left c3)
    clear c1 c2 c3;go_wp2_with fail;go_ret;exact⟨rfl,a4.trans a1⟩
   have HN:Hid (∀(i:Nat) (e f:Ed),i<j+1->es[k]?=some e->es[i]?=some f->¬ Clash e f):=oH (by
    intro i e' f' hi a2 a3;by_cases h:i<j
    .exact HI.out i e' f' h a2 a3
    .obtain rfl:i=j:=by omega
     rw[HE.out] at a2;rw[HF.out] at a3;injection a2 with a2
     injection a3 with a3
     subst a2 a3;exact hc)
   by_cases c1:e.l=f.l
   focus
    have d1:(e.l == f.l)=true:=by simpa using c1
    have d2:(e.a == f.a)=false:=by simp only[beq_eq_false_iff_ne];exact fun h=>hc ⟨c1,.inl h⟩
    have d3:(e.b == f.b)=false:=by simp only[beq_eq_false_iff_ne];exact fun h=>hc ⟨c1,.inr h⟩
   rotate_left
   focus
    have d1:(e.l == f.l)=false:=by simpa only[beq_eq_false_iff_ne] using c1
   rotate_left
   all_goals
    clear c1 hc;go_wp2_with fail;go_roundw
    case rel=>exact⟨j+1,oO,by go_num,aG,HN.out,a4.trans a1⟩
    simp[intOf];omega
  obtain rfl:j=k:=by omega
  have HN:Hid (∀(i j':Nat) (e f:Ed),j'<i->i<j+1->es[i]?=some e->es[j']?=some f->¬ Clash e f):=oH (by
   intro i j' e' f' h1 h2 a2 a3;by_cases h:i<j
   .exact HA.out i j' e' f' h1 h a2 a3
   .obtain rfl:i=j:=by omega
    exact HI.out j' e' f' h1 a2 a3)
  go_wp2_with fail;go_roundw
  case rel=>exact⟨j+1,oO,by go_num,a7,HN.out,a4⟩
  simp[intOf];omega
 obtain rfl:k=es.length:=by omega
 obtain rfl:b=b1:=by
  cases b1
  .exact aAG HB.out fun h=>by have:=H1.out.2 h.gr;cases this
  exact HB.out.2 ⟨H1.out.1 rfl,aSq fun i j e f h1 he hf=>HA.out i j e f h1 (List.getElem?_eq_some_iff.1 he).1 he hf⟩
 go_wp2_with fail;with_reducible refine(aBa r s A es c _ _ _ (hr.mid a8 oZl).rv hl b H1.out).mono ?_
 rintro en w2 ⟨rfl,aA⟩;go_wp2_with fail;go_ret;exact⟨rfl,a8.trans aA⟩
theorem aLT(r s:Int)(A:OA)(es:List Ed)(c:Nat)(v:Int)(w:World)(lo hi:Nat)(hr:RG w lo hi A es)(hl:es.length<=1048576) :
  Calls Tryz.prog 234 #[.agg #[r,s,.slice A es.length c],v] w fun e w'=>e=.returned (.int .i64 (deg es v))/\Mid 0 0 w w':=by
 have a4:Mid 0 0 w (w.alloc (.cells #[r,s,.slice A es.length c] 35)):=oE _ _;have B1:=(oJ w #[r,s,.slice A es.length c] 35)
 go_enter Tryz.func234,Tryz.ntmps234
 go_wp2_with fail;go_loopw [5,11] (fun n i wr=>∃ k d:Nat,k<=es.length/\i=.int .i64 k/\n=.int .i64 d/\Hid (deg (es.take k) v=d)/\Box wr w.heap.size [.int .i64 r,.int .i64 s,.slice A es.length c]/\Mid 0 0 w wr) (fun _ i _=>es.length - (intOf i).toNat)
 case atStart=>exact⟨0,0,oZ,rfl,rfl,oH (by simp[deg]),B1,a4⟩
 obtain⟨k,d,hk,rfl,rfl,HD,bx,a2⟩:=hrel;have hd:d<=2097152:=by
  have h1:=aPq (es.take k) v;have h2:=HD.out;simp at h1;omega
 obtain⟨p0,p1,p2⟩:=bx.c3 rfl;by_cases hlt:k<es.length
 .obtain⟨B,a7,e,rfl, -,a5,he,e0,e1,e2⟩:=(hr.mid a2 oZl).ed hlt
  have a3:=oE wr (.cells #[.int .i64 e.a,.int .i64 e.l,.int .i64 e.b] 110);have a1:=a2.trans a3;have a0:=bx.mid a3 oZr;have a6:(k:Int)<(es.length:Int):=by omega
  have HS:=oH (aHk he v);clear he;by_cases c1:e.a=v
  .have b1:(e.a == v)=true:=by simpa using c1
   by_cases c2:e.b=v
   .have b2:(e.b == v)=true:=by simpa using c2
    have HT:Hid (deg (es.take (k+1)) v=d+1+1):=oH (by rw[HS.out,HD.out,degE,if_pos c1,if_pos c2]);clear c1 c2;go_wp2_with fail;go_roundw
    case rel=>exact⟨k+1,d+1+1,oO,by go_num,congrArg (Value.int .i64) oO,HT,a0,a1⟩
    simp[intOf];omega
   have b2:(e.b == v)=false:=by simpa only[beq_eq_false_iff_ne] using c2
   have HT:Hid (deg (es.take (k+1)) v=d+1):=oH (by rw[HS.out,HD.out,degE,if_pos c1,if_neg c2]);clear c1 c2;go_wp2_with fail;go_roundw
   case rel=>exact⟨k+1,d+1,oO,by go_num,by go_num,HT,a0,a1⟩
   simp[intOf];omega
  have b1:(e.a == v)=false:=by simpa only[beq_eq_false_iff_ne] using c1
  by_cases c2:e.b=v
  .have b2:(e.b == v)=true:=by simpa using c2
   have HT:Hid (deg (es.take (k+1)) v=d+1):=oH (by rw[HS.out,HD.out,degE,if_neg c1,if_pos c2]);clear c1 c2;go_wp2_with fail;go_roundw
   case rel=>exact⟨k+1,d+1,oO,by go_num,by go_num,HT,a0,a1⟩
   simp[intOf];omega
  have b2:(e.b == v)=false:=by simpa only[beq_eq_false_iff_ne] using c2
  have HT:Hid (deg (es.take (k+1)) v=d):=oH (by rw[HS.out,HD.out,degE,if_neg c1,if_neg c2];rfl);clear c1 c2;go_wp2_with fail;go_roundw
  case rel=>exact⟨k+1,d,oO,by go_num,by go_num,HT,a0,a1⟩
  simp[intOf];omega
 obtain rfl:k=es.length:=by omega
 have hx:=HD.out;rw[List.take_length] at hx;subst hx;go_wp2_with fail;go_ret;exact⟨rfl,a2⟩
theorem aMy(r s:Int)(A:OA)(es:List Ed)(c:Nat)(v:Int)(w:World)(lo hi:Nat)(hr:RG w lo hi A es)(hl:es.length<=1048576) :
  Calls Tryz.prog 242 #[.agg #[r,s,.slice A es.length c],v] w fun e w'=>e=.returned (.int .i64 (deg es v))/\Mid 0 0 w w':=by
 have a3:Mid 0 0 w (w.alloc (.cells #[r,s,.slice A es.length c] 35)):=oE _ _;have B1:=(oJ w #[r,s,.slice A es.length c] 35)
 go_enter Tryz.func242,Tryz.ntmps242
 go_wp2_with fail;go_loopw [5,6] (fun n i wr=>∃ k d:Nat,k<=es.length/\i=.int .i64 k/\n=.int .i64 d/\Hid (deg (es.take k) v=d)/\Box wr w.heap.size [.int .i64 r,.int .i64 s,.slice A es.length c]/\Mid 0 0 w wr) (fun _ i _=>es.length - (intOf i).toNat)
 case atStart=>exact⟨0,0,oZ,rfl,rfl,oH (by simp[deg]),B1,a3⟩
 obtain⟨k,d,hk,rfl,rfl,HD,bx,a2⟩:=hrel;have hd:d<=2097152:=by
  have h1:=aPq (es.take k) v;have h2:=HD.out;simp at h1;omega
 obtain⟨p0,p1,p2⟩:=bx.c3 rfl;by_cases hlt:k<es.length
 .obtain⟨B,a6,e,rfl, -,a4,he,e0,e1,e2⟩:=(hr.mid a2 oZl).ed hlt
  have a1:=a2;have a0:=bx;have a5:(k:Int)<(es.length:Int):=by omega
  have HS:=oH (aHk he v);clear he;by_cases c1:e.a=v
  .have b1:(e.a == v)=true:=by simpa using c1
   by_cases c2:e.b=v
   .have b2:(e.b == v)=true:=by simpa using c2
    have HT:Hid (deg (es.take (k+1)) v=d+1+1):=oH (by rw[HS.out,HD.out,degE,if_pos c1,if_pos c2]);clear c1 c2;go_wp2_with fail;go_roundw
    case rel=>exact⟨k+1,d+1+1,oO,by go_num,congrArg (Value.int .i64) oO,HT,a0,a1⟩
    simp[intOf];omega
   have b2:(e.b == v)=false:=by simpa only[beq_eq_false_iff_ne] using c2
   have HT:Hid (deg (es.take (k+1)) v=d+1):=oH (by rw[HS.out,HD.out,degE,if_pos c1,if_neg c2]);clear c1 c2;go_wp2_with fail;go_roundw
   case rel=>exact⟨k+1,d+1,oO,by go_num,by go_num,HT,a0,a1⟩
   simp[intOf];omega
  have b1:(e.a == v)=false:=by simpa only[beq_eq_false_iff_ne] using c1
  by_cases c2:e.b=v
  .have b2:(e.b == v)=true:=by simpa using c2
   have HT:Hid (deg (es.take (k+1)) v=d+1):=oH (by rw[HS.out,HD.out,degE,if_neg c1,if_pos c2]);clear c1 c2;go_wp2_with fail;go_roundw
   case rel=>exact⟨k+1,d+1,oO,by go_num,by go_num,HT,a0,a1⟩
   simp[intOf];omega
  have b2:(e.b == v)=false:=by simpa only[beq_eq_false_iff_ne] using c2
  have HT:Hid (deg (es.take (k+1)) v=d):=oH (by rw[HS.out,HD.out,degE,if_neg c1,if_neg c2];rfl);clear c1 c2;go_wp2_with fail;go_roundw
  case rel=>exact⟨k+1,d,oO,by go_num,by go_num,HT,a0,a1⟩
  simp[intOf];omega
 obtain rfl:k=es.length:=by omega
 have hx:=HD.out;rw[List.take_length] at hx;subst hx;go_wp2_with fail;go_ret;exact⟨rfl,a2⟩
section
open Go.RowKit
structure TwoI (w:World) (lo:Nat) (F T:Value) (n m:Nat) (xs ys:LI):Prop where
 f:w.ownsRow lo 3 1 F n (aAe xs)
 t:w.ownsRow lo 3 1 T m (aAe ys)
 ne:F.ownBlock≠T.ownBlock
theorem TwoI.swap{w:World}{lo:Nat}{F T:Value}{n m:Nat}{xs ys:LI}(h:TwoI w lo F T n m xs ys):TwoI w lo T F m n ys xs:=⟨h.t,h.f,fun e=>h.ne e.symm⟩
theorem TwoI.push{w w':World}{lo:Nat}{F T F':Value}{n m n':Nat}{xs ys xs':LI}(h:TwoI w lo F T n m xs ys)(ho:w'.ownsRow lo 3 1 F' n' (aAe xs'))(hg:w.grownBy w' F.ownBlock)(hb:F'.ownBlock=F.ownBlock \/ F'.ownBlock=some (w.heap.size+1)):TwoI w' lo F' T n' m xs' ys:=by
 refine⟨ho,h.t.kept hg ?_,fun e=>?_⟩
 .cases hT:T.ownBlock with
 |none=>exact .inl rfl
 |some j=>exact .inr fun e=>h.ne (by rw[hT];exact e.symm)
 rcases hb with hb|hb
 .exact h.ne (hb.symm.trans e)
 have:=(h.t.lt (w.heap.size+1) (by rw[<- e,hb])).2;omega
section
variable {W:World} {ops:Array Oper} {rest:List Oper} {o:Oper} {a:Act} {Q:Exit->Act->World->Prop}
theorem aIP(a0:o.guard=none)(s x:Operand)(ho:o.op=.call { callee:=.builtin .append,args:=#[s,x],argTypes:=#[44,44] })(lo:Nat)(A:OA)(n c:Nat)(xs:LI)(T:Value)(m:Nat)(ys:LI)(hs:a.eval s=.slice A n c)(h2:TwoI W lo (.slice A n c) T n m xs ys)(y:Int)(hx:a.eval x=.slice (some ⟨W,0,none⟩) 1 1)(hn:n<=1048576)(hb:lo<=W.heap.size)(h:∀ A' c' w',TwoI w' lo (.slice A' (n+1) c') T (n+1) m (xs++[y]) ys->Mid lo W W w'->wpList Tryz.prog ops Q rest (a.put o.dst (.slice A' (n+1) c')) w') :
  wpList Tryz.prog ops Q (o::rest) a (W.alloc (.cells #[y] 3)):=by
 refine aAk (news:=[y]) a0 s x 44 ho lo 3 (.int .i64 0) 1 8 aBo aBs rfl oD (.slice A n c) n (aAe xs) hs h2.f 1 hx rfl ?_ (by unfold maxLen;omega) oO hb ?_
 .intro u hu
  simp at hu;subst hu
  rfl
 intro v' w' h3 h4 h5;obtain⟨A',c',rfl, -, -⟩:=aAc h3;refine h A' c' w' (h2.push ?_ h4 h5) (oF h2.f h4);rw[aAi];exact h3
theorem aCS(a0:o.guard=none)(s x:Operand)(ho:o.op=.call { callee:=.builtin .append,args:=#[s,x],argTypes:=#[33,33] })(lo:Nat)(A:OA)(n c:Nat)(es:List Ed)(hs:a.eval s=.slice A n c)(hown:W.ownsRow lo 110 3 (.slice A n c) n (aAe (edI es)))(e:Ed)(hx:a.eval x=.slice (some ⟨W,0,none⟩) 1 1)(hn:n<=1048576)(hb:lo<=W.heap.size)(h:∀ A' c' w',w'.ownsRow lo 110 3 (.slice A' (n+1) c') (n+1) (aAe (edI (es++[e])))->W.grownBy w' (Value.ownBlock (.slice A n c))->(Value.ownBlock (.slice A' (n+1) c')=Value.ownBlock (.slice A n c) \/ Value.ownBlock (.slice A' (n+1) c')=some (W.heap.size+1))->wpList Tryz.prog ops Q rest (a.put o.dst (.slice A' (n+1) c')) w') :
  wpList Tryz.prog ops Q (o::rest) a (W.alloc (.cells #[.int .i64 e.a,.int .i64 e.l,.int .i64 e.b] 110)):=by
 refine aAk (news:=[.int .i64 e.a,.int .i64 e.l,.int .i64 e.b]) a0 s x 33 ho lo 110 (.agg #[(0:Int),(0:Int),(0:Int)]) 3 24 aMH aNq rfl oD (.slice A n c) n (aAe (edI es)) hs hown 1 hx rfl ?_ (by unfold maxLen;omega) oO hb ?_
 .intro u hu
  simp at hu;rcases hu with rfl|rfl|rfl <;> rfl
 intro v' w' h1 h2 h3;obtain⟨A',c',rfl, -, -⟩:=aAc h1;refine h A' c' w' ?_ h2 h3;rw[aCW,aAi,aIe];exact h1
end
end
theorem aIn{n:Nat}{x:Int}(h:x∈aAg n):-(n:Int)<=x/\x<=n:=(aAU.1 h).2
theorem aNo(n:Nat)(w:World)(hn:n<=1000) :
  Calls Tryz.prog 134 #[.int .i64 n] w fun e w'=>∃ A c,e=.returned (.slice A (aAg n).length c)/\RV w' w.heap.size w'.heap.size A (aAe (aAg n))/\Mid 0 0 w w':=by
 have a2:Mid 0 0 w (w.alloc (.cells #[] 3)):=oE _ _;have O0:=aAd w 3 1;go_enter Tryz.func134,Tryz.ntmps134
 go_wp2_with fail;go_loopw [3,4] (fun out i wr=>∃(k:Nat) (A1:OA) (c1 n1:Nat),k<=n/\i=.int .i64 ((k:Int)+1)/\out=.slice A1 n1 c1/\Hid ((aAg k).length=n1) /\
   wr.ownsRow w 3 1 (.slice A1 n1 c1) n1 (aAe (aAg k))/\Mid 0 0 w wr/\w.heap.size<=wr.heap.size) (fun _ i _=>(n+1 - intOf i).toNat)
 case atStart=>exact⟨0,_,0,0,oZ,rfl,rfl,oH rfl,O0,a2,a2.size⟩
 obtain⟨k,A1,c1,n1,hk,rfl,rfl,HN,a1,hm,a4⟩:=hrel;have a9:n1<=2000:=by have h1:=aBR k;have h2:=HN.out;omega
 by_cases hlt:k<n
 .have a8:(k:Int)+1<=n:=by omega
  have a7:(0:Int)<=(k:Int):=by omega
  have b4:wrap64 (-((k:Int)+1)) = -((k:Int)+1):=by unfold wrap64;omega
  have HW:=oH a1;clear a1;go_wp2_with (at_builtin;refine aAk rfl _ _ 44 rfl w 3 (.int .i64 0) 1 8 aBo aBs rfl oD _ _ _ rfl HW.out 2 [.int .i64 ((k:Int)+1),.int .i64 (-((k:Int)+1))] rfl rfl ?c1 ?c2 ?c3 a4 ?next)
  case c1=>exact aAm [(k:Int)+1, -((k:Int)+1)]
  case c2=>unfold maxLen;omega
  case c3=>omega
  case next=>
   intro v' w3 a0 a5 _;obtain⟨A3,c3,rfl, -, -⟩:=aAc a0;have a3:=oF HW.out a5;go_wp2_with fail;go_roundw
   case rel=>
    refine⟨k+1,A3,c3,n1+2,oO,by go_num,rfl,oH (by have:=HN.out;simp[aAg];omega),?_,hm.transNew a3 (Or.inl oN),oV a4 a3.size⟩;rw[aAg,aAi];exact a0
   simp[intOf];omega
 obtain rfl:k=n:=by omega
 have hx:=HN.out;have a6:=hm.size;go_wp2_with fail;go_ret;exact⟨_,_,(by rw[hx];rfl),aAz a1,hm⟩
theorem aEo(n:Nat)(w:World)(hn:n<=1000) :
  Calls Tryz.prog 127 #[.int .i64 n] w fun e w'=>∃ A c,e=.returned (.slice A (aAg n).length c)/\RV w' w.heap.size w'.heap.size A (aAe (aAg n))/\Mid 0 0 w w':=by
 have a4:Mid 0 0 w (w.alloc (.cells #[] 3)):=oE _ _;have O0:=aAd w 3 1;go_enter Tryz.func127,Tryz.ntmps127
 go_wp2_with fail;go_loopw [3,4] (fun out i wr=>∃(k:Nat) (A1:OA) (c1 n1:Nat),k<=n/\i=.int .i64 ((k:Int)+1)/\out=.slice A1 n1 c1/\Hid ((aAg k).length=n1) /\
   wr.ownsRow w 3 1 (.slice A1 n1 c1) n1 (aAe (aAg k))/\Mid 0 0 w wr/\w.heap.size<=wr.heap.size) (fun _ i _=>(n+1 - intOf i).toNat)
 case atStart=>exact⟨0,_,0,0,oZ,rfl,rfl,oH rfl,O0,a4,a4.size⟩
 obtain⟨k,A1,c1,n1,hk,rfl,rfl,HN,a2,hm,a7⟩:=hrel;have aB:n1<=2000:=by have h1:=aBR k;have h2:=HN.out;omega
 by_cases hlt:k<n
 .have aA:(k:Int)+1<=n:=by omega
  have a9:(0:Int)<=(k:Int):=by omega
  have b4:wrap64 (-((k:Int)+1)) = -((k:Int)+1):=by unfold wrap64;omega
  have HW:=oH a2;clear a2;go_wp2_with (first|(at_builtin;refine aAA rfl _ _ rfl w A1 n1 c1 (aAg k) rfl HW.out ((k:Int)+1) rfl oO a7 ?_;intro A2 c2 w2 a0 a5;have a3:=oV a7 a5.size;have a8:=oH a0;clear a0)|(at_builtin;refine aAA rfl _ _ rfl w A2 (n1+1) c2 (aAg k++[(k:Int)+1]) rfl a8.out (-((k:Int)+1)) rfl oO a3 ?_;intro A3 c3 w3 a1 a6))
  go_roundw
  case rel=>
   refine⟨k+1,A3,c3,n1+1+1,oO,by go_num,rfl,oH (by have:=HN.out;simp[aAg];omega),?_,(hm.transNew a5 (Or.inl oN)).transNew a6 (Or.inl oN),oV a3 a6.size⟩;rw[List.append_assoc] at a1;exact a1
  simp[intOf];omega
 obtain rfl:k=n:=by omega
 have hx:=HN.out;have a3:=hm.size;go_wp2_with fail;go_ret;exact⟨_,_,(by rw[hx];rfl),aAz a2,hm⟩
theorem aRs(A:OA)(xs:LI)(c:Nat)(w:World)(lo hi:Nat)(hr:RV w lo hi A (aAe xs))(hl:xs.length<=1048576) :
  Calls Tryz.prog 178 #[.slice A xs.length c] w fun e w'=>∃ g c2,e=.returned (.slice (some ⟨g,0,none⟩) xs.length c2)/\w'.ownsRow w.heap.size 3 1 (.slice (some ⟨g,0,none⟩) xs.length c2) xs.length (aAe xs)/\Mid 0 0 w w':=by
 have a5:=aAd w 3 1;have a3:=oE w (.cells #[] 3);have aA:=(hr.mid a3 oZl).rs;have a7:(aAe xs).length=xs.length * 1:=by rw[aAB];omega
 have a4:(Value.slice (some ⟨w,0,none⟩) 0 0).ownBlock≠none:=by simp[Value.ownBlock]
 have a6:=oH a4;clear a4;go_enter Tryz.func178,Tryz.ntmps178
 go_wp2_with (at_builtin;refine aBY rfl _ _ 44 rfl w 3 (.int .i64 0) 1 8 aBo aBs rfl oD _ _ _ rfl a5 A xs.length c _ (aAe xs) rfl aA a7 (aAm _) ?c4 ?c5 ?c6 ?next)
 case c4=>unfold maxLen;omega
 case c5=>omega
 case c6=>simp
 case next=>
  intro v2 w2 a2 a1 a0;obtain⟨g,c2,rfl,aB, -, -⟩:=aMi a2 a0 a6.out;try rw[Nat.zero_add,List.nil_append] at a2
  have a8:=oF a5 a1;have a9:=a3.transNew a8 (Or.inl oN);go_wp2_with fail;go_ret;exact⟨g,c2,by simp,a2,a9⟩
def aDq(n:Nat)(l:LI):List Value:=(List.range n).map (fun(j:Nat)=>Value.bool (decide ((j:Int)∈l)))
theorem aLr(n:Nat):aDq n []=List.replicate n (.bool false):=by
 unfold aDq;apply List.ext_getElem <;> simp
theorem aEG{n j:Nat}{l:LI}(h:j<n):(aDq n l)[j]?=some (.bool (decide ((j:Int)∈l))):=by simp[aDq,h]
theorem aDD{n m:Nat}{l:LI}(_h:m<n):(aDq n l).set m (.bool true)=aDq n (l++[(m:Int)]):=by
 unfold aDq;apply List.ext_getElem
 .simp
 intro i h1 h2;rw[List.getElem_set];by_cases e:m=i
 .subst e
  simp
 simp[e];intro e';omega
theorem aHv(A:OA)(p:LI)(c B:Nat)(w:World)(hr:Rs w B A (aAe p))(hB:B<=w.heap.size)(hl:p.length<=1048576)(r:Bool)(a2:r=true↔aID p) :
  Calls Tryz.prog 219 #[.slice A p.length c] w fun e w'=>e=.returned (.bool r)/\Below w w w':=by
 have HR:=oH a2;clear a2;by_cases hbig:40<p.length
 .go_enter Tryz.func219,Tryz.ntmps219
  go_wp2_with fail;go_ret;have hf:r=false:=by
   cases r
   .rfl
   have:=(HR.out.1 rfl).1;omega
  subst hf;exact⟨rfl,Below.refl _ _⟩
 have aA:p.length<=maxLen:=by unfold maxLen;omega
 go_enter Tryz.func219,Tryz.ntmps219
 go_wp2_with (at_make;refine aDZ rfl _ _ 121 rfl 4 (.bool false) 1 aUS aUs rfl .i64 .i64 _ _ p.length rfl rfl rfl rfl oO aA ?_;intro w1 a1 a4 aB)
 have a8:=aKW a4;go_loopw [5,14] (fun _ i wr=>∃ k:Nat,k<=p.length/\i=.int .i64 k/\wr.ownsRow w.heap.size 4 1 (.slice (some ⟨w.heap.size,0,none⟩) p.length p.length) p.length (aDq p.length (p.take k))/\Below w.heap.size w wr/\(∀ x∈p.take k,0<=x/\x<p.length)/\(p.take k).Nodup)
  (fun _ i _=>p.length - (intOf i).toNat)
 case atStart=>exact⟨0,oZ,rfl,by simpa [aLr] using a1,a8,by simp,by simp⟩
 obtain⟨k,hk,rfl,a0,hb,a6,a7⟩:=hrel;have HI:=oH a6;have HN:=oH a7;clear a6 a7;by_cases hlt:k<p.length
 .obtain⟨b,aD,x,rfl, -,hx,hc⟩:=((hr.more hB).below hb).int hlt
  have HX:=oH hx;clear hx;by_cases hxi:0<=x/\x<p.length
  .obtain⟨m,rfl⟩:∃ m:Nat,x=m:=⟨x.toNat,oO⟩
   have hm:m<p.length:=by omega
   have hi:inB (m:Int) 0 ((p.length:Int) - 1)=true:=by simp[inB];omega
   obtain⟨u,a5,hu⟩:=aEC a0 hm;rw[aEG hm] at a5;obtain rfl:=Option.some.inj a5;clear a5;have aC:=a0.frozenAt m;by_cases hse:(m:Int)∈p.take k
   .have hd:decide ((m:Int)∈p.take k)=true:=by simpa using hse
    rw[hd] at hu;have a3:=oH hse;clear hse hd;go_wp2_with (go_at_call 108;refine(aAu _ _ _ _).mono ?_;rintro e w' ⟨rfl,rfl⟩)
    go_ret;have hf:r=false:=by
     cases r
     .rfl
     exact absurd (HR.out.1 rfl).2.2 (aIK HX.out a3.out)
    subst hf;exact⟨rfl,hb⟩
   have hd:decide ((m:Int)∈p.take k)=false:=by simpa using hse
   rw[hd] at hu;have a3:=oH hse;clear hse hd;go_wp2_with (go_at_call 108;refine(aAu _ _ _ _).mono ?_;rintro e w' ⟨rfl,rfl⟩)
   go_roundw
   case rel=>
    refine⟨k+1,oO,by go_num,aBF a0 m _ ?_,hb.setCell oN _,?_,(aDN HX.out).2 ⟨HN.out,a3.out⟩⟩
    .rw[aDD hm,aAw p HX.out]
    intro y hy;rcases(aCM HX.out).1 hy with hy|rfl
    .exact HI.out y hy
    exact hxi
   simp[intOf];omega
  have hi:inB x 0 ((p.length:Int) - 1)=false:=by simp[inB];omega
  go_wp2_with (go_at_call 108;refine(aAu _ _ _ _).mono ?_;rintro e w' ⟨rfl,rfl⟩)
  go_ret;have hf:r=false:=by
   cases r
   .rfl
   exact absurd ((HR.out.1 rfl).2.1 x (aLj HX.out)) hxi
  subst hf;exact⟨rfl,hb⟩
 go_wp2_with fail;go_ret;have a9:k=p.length:=by omega
 have ht:p.take k=p:=by rw[a9];exact List.take_length
 have hf:r=true:=HR.out.2 ⟨oO,by have:=HI.out;rwa [ht] at this,by have:=HN.out;rwa [ht] at this⟩;subst hf;exact⟨rfl,hb⟩
theorem aHS(A:OA)(p:LI)(c B:Nat)(w:World)(hr:Rs w B A (aAe p))(hl:p.length<=1048576)(r:Bool)(a0:r=true↔aID p) :
  Calls Tryz.prog 221 #[.slice A p.length c] w fun e w'=>e=.returned (.bool r)/\∃ n,w'=w.drewN n:=by
 have HR:=oH a0;clear a0;go_enter Tryz.func221,Tryz.ntmps221
 go_wp2_with fail;go_loopw [3,4] (fun i _ wr=>∃ k:Nat,k<=p.length/\i=.int .i64 k/\(∃ n,wr=w.drewN n)/\(∀ x∈p.take k,0<=x/\x<p.length)/\(p.take k).Nodup)
  (fun i _ _=>p.length - (intOf i).toNat)
 case atStart=>exact⟨0,oZ,rfl,⟨0,rfl⟩,by simp,by simp⟩
 obtain⟨k,hk,rfl,⟨nd,rfl⟩,a5,a6⟩:=hrel;have HI:=oH a5;have HN:=oH a6;clear a5 a6;by_cases hlt:k<p.length
 .obtain⟨b,aD,x,rfl, -,hx,hc⟩:=hr.int hlt
  have HX:=oH hx;clear hx;by_cases hxi:0<=x/\x<p.length
  .have hi:inB x 0 ((p.length:Int) - 1)=true:=by simp[inB];omega
   go_wp2_with (go_at_call 102;refine(aBw _ _ _ _).mono ?_;rintro e w' ⟨rfl,rfl⟩)
   go_loopw [4] (fun j wr=>∃ l:Nat,l<=k/\j=.int .i64 l/\(∃ n,wr=w.drewN n)/\x ∉ p.take l)
    (fun j _=>k - (intOf j).toNat)
   case atStart=>exact⟨0,oZ,rfl,⟨_,rfl⟩,by simp⟩
   obtain⟨l,aB,rfl,⟨aC,rfl⟩,a7⟩:=hrel;have a4:=oH a7;clear a7;by_cases hl2:l<k
   .obtain⟨b',a9,y,a1, -,hy,aA⟩:=hr.int (show l<p.length by omega)
    injection a1 with a1
    injection a1 with hA1 hA2
    subst hA1;subst hA2;have HY:=oH hy;clear hy;by_cases hyx:(y == x)=true
    .go_wp2_with fail
     go_quiet (fail)
     go_wp2_with fail;go_ret;have hf:r=false:=by
      cases r
      .rfl
      refine absurd (HR.out.1 rfl).2.2 (aIK HX.out ?_);have e:y=x:=by simpa using hyx
      rw[<- e];exact oG (by rw[List.getElem?_take,if_pos hl2];exact HY.out)
     subst hf;exact⟨rfl,_,dn _ _ _⟩
    have a3:(y == x)=false:=by simpa using hyx
    clear hyx;go_wp2_with fail;go_quiet (fail)
    go_wp2_with fail;go_roundw
    case rel=>
     refine⟨l+1,oO,by go_num,⟨_,rfl⟩,fun hm=>?_⟩;rcases(aCM HY.out).1 hm with hm|hm
     .exact a4.out hm
     subst hm;simp at a3
    simp[intOf];omega
   go_wp2_with fail;go_roundw
   case rel=>
    have a2:l=k:=by omega
    subst a2;refine⟨l+1,oO,by go_num,⟨_,rfl⟩,?_,(aDN HX.out).2 ⟨HN.out,a4.out⟩⟩;intro y hy;rcases(aCM HX.out).1 hy with hy|rfl
    .exact HI.out y hy
    exact hxi
   simp[intOf];omega
  have hi:inB x 0 ((p.length:Int) - 1)=false:=by simp[inB];omega
  go_wp2_with (go_at_call 102;refine(aBw _ _ _ _).mono ?_;rintro e w' ⟨rfl,rfl⟩)
  go_ret;have hf:r=false:=by
   cases r
   .rfl
   exact absurd ((HR.out.1 rfl).2.1 x (aLj HX.out)) hxi
  subst hf;exact⟨rfl,_,rfl⟩
 by_cases hbig:40<p.length
 .go_wp2_with fail
  go_ret;have hf:r=false:=by
   cases r
   .rfl
   have:=(HR.out.1 rfl).1;omega
  subst hf;exact⟨by simp;omega,_,rfl⟩
 go_wp2_with fail;go_ret;have a8:k=p.length:=by omega
 have ht:p.take k=p:=by rw[a8];exact List.take_length
 have hf:r=true:=HR.out.2 ⟨oO,by have:=HI.out;rwa [ht] at this,by have:=HN.out;rwa [ht] at this⟩;subst hf;exact⟨by simp;omega,_,rfl⟩
structure JAt (s:Int) (es:List Ed) (v:Int) (vis:LI):Prop where
 here:v∈vis
 rng:∀ u∈vis,0<=u/\u<s
 nd:vis.Nodup
 conn:∀ u∈vis,Conn es v u
theorem JAt.le{s:Int}{es:List Ed}{v:Int}{vis:LI}(h:JAt s es v vis):vis.length<=s.toNat:=by
 refine aJs s.toNat vis h.nd fun u hu=>?_;have:=h.rng u hu;omega
theorem JAt.start{s:Int}(es:List Ed){v:Int}(h0:0<=v)(h1:v<s):JAt s es v [v]:=by
 refine⟨by simp,?_,by simp,?_⟩
 .intro u hu;simp at hu;subst hu;exact⟨h0,h1⟩
 intro u hu;simp at hu;subst hu;exact .here
theorem JAt.push{s:Int}{es:List Ed}{v u:Int}{vis:LI}(h:JAt s es v vis)(hr:0<=u/\u<s)(hn:u ∉ vis)(hc:Conn es v u):JAt s es v (vis++[u]):=by
 refine⟨by simp[h.here],?_,?_,?_⟩
 .intro x hx
  rcases List.mem_append.1 hx with hx|hx
  .exact h.rng x hx
  simp at hx;subst hx;exact hr
 .rw[List.nodup_append]
  refine⟨h.nd,by simp,?_⟩;intro a ha b hb;simp at hb;subst hb;intro e;subst e;exact hn ha
 intro x hx;rcases List.mem_append.1 hx with hx|hx
 .exact h.conn x hx
 simp at hx;subst hx;exact hc
def Shut'(es:List Ed)(k:Nat)(vis:LI):Prop:=∀(j:Nat) (e:Ed),j<k->es[j]?=some e->(e.a∈vis↔e.b∈vis)
theorem Shut'.zero(es:List Ed)(a0:LI):Shut' es 0 a0:=fun j e h=>absurd h (Nat.not_lt_zero _)
theorem Shut'.succ{es:List Ed}{k:Nat}{vis:LI}(h:Shut' es k vis){e:Ed}(he:es[k]?=some e)(hc:e.a∈vis↔e.b∈vis):Shut' es (k+1) vis:=fun j f hj hf=>by
 by_cases h1:j<k
 .exact h j f h1 hf
 .obtain rfl:j=k:=by omega
  rw[he] at hf;injection hf with hf
  subst hf;exact hc
theorem JAt.done{s:Int}{es:List Ed}{v:Int}{vis:LI}(h:JAt s es v vis)(hc:Shut' es es.length vis)(u:Int):u∈vis↔Conn es v u:=by
 refine aPp (P:=fun u=>u∈vis) h.here (fun e he=>?_) h.conn u;obtain⟨j,hj,rfl⟩:=List.mem_iff_getElem.1 he;exact hc j _ hj (List.getElem?_eq_getElem hj)
theorem JAt.edge{s r:Int}{es:List Ed}{v:Int}{vis:LI}(h:JAt s es v vis){e:Ed}(he:e∈es)(hi:InG r s e)(hd:¬ (e.a∈vis↔e.b∈vis)) :
  ∃ u,JAt s es v (vis++[u])/\∀ x,x∈vis++[e.a]++[e.b]↔x∈vis++[u]:=by
 unfold InG at hi;by_cases ha:e.a∈vis
 .have hb:e.b ∉ vis:=fun hb=>hd ⟨fun _=>hb,fun _=>ha⟩
  refine⟨e.b,h.push oO hb (.out he (h.conn _ ha)),fun x=>?_⟩;simp only[List.mem_append,List.mem_singleton];constructor
  .rintro((h|rfl)|h)
   .exact .inl h
   .exact .inl ha
   exact .inr h
  rintro(h|h)
  .exact .inl (.inl h)
  exact .inr h
 have hb:e.b∈vis:=Classical.byContradiction fun hb=>hd ⟨fun h=>absurd h ha,fun h=>absurd h hb⟩;refine⟨e.a,h.push oO ha (.inn he (h.conn _ hb)),fun x=>?_⟩;simp only[List.mem_append,List.mem_singleton];constructor
 .rintro((h|rfl)|rfl)
  .exact .inl h
  .exact .inr rfl
  exact .inl hb
 rintro(h|h)
 .exact .inl (.inl h)
 exact .inl (.inr h)
theorem aHn(p:Nat->Bool):∀ l:List Nat,(l.filter p).length+(l.filter fun v=>!p v).length=l.length
|[]=>rfl
|a::t=>by
  have:=aHn p t;cases h:p a <;> simp[h] <;> omega
theorem aQU{n:Nat}{es:List Ed}{v:Int}{vis:LI}(h:JAt n es v vis):((List.range n).filter fun(j:Nat)=>!decide ((j:Int)∈vis)).length+vis.length=n:=by
 have h1:vis.Perm (((List.range n).filter fun(j:Nat)=>decide ((j:Int)∈vis)).map fun(j:Nat)=>(j:Int)):=by
  refine(List.perm_ext_iff_of_nodup h.nd ?_).2 fun u=>?_
  .exact List.pairwise_map.2 ((List.nodup_range.filter _).imp fun h he=>h oO)
  rw[List.mem_map];constructor
  .intro hu
   have:=h.rng u hu;refine⟨u.toNat,List.mem_filter.2 ⟨List.mem_range.2 oO,?_⟩,oO⟩;rw[show((u.toNat:Nat):Int)=u by omega]
   simpa using hu
  rintro⟨k,hk,rfl⟩
  simpa using(List.mem_filter.1 hk).2
 have h2:=aHn (fun j:Nat=>decide ((j:Int)∈vis)) (List.range n);have h3:=h1.length_eq;rw[List.length_map] at h3;rw[List.length_range] at h2;omega
end Go.Proofs.YtkimajabegojoaaGreat
