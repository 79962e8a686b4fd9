/- Lemmas. -/
import Derived.Test.YtkimajabegojoaaGreatMt1
import Derived.Deep.RegionHeld3
import Derived.Laws.StructEq
import Derived.Lib.OwnBridge
import Derived.BigQuiet
import Derived.Deep.DrawnRows
import Derived.StillTail
import Derived.Lib.SliceRun
namespace Go.Proofs.YtkimajabegojoaaGreat
set_option linter.unusedVariables false
set_option linter.unusedSimpArgs false
set_option maxHeartbeats 40000000
set_option maxRecDepth 100000
open Go.RowKit
theorem aGS{w:World}{base:Nat}{e:TypeId}{size g n cap:Nat}{xs ys:List Value}(h:w.ownsRow base e size (.slice (some ⟨g,0,none⟩) n cap) n xs)(j:Nat)(u:Value)(hy:xs.set j u=ys) :
  (w.setCell ⟨g,j,none⟩ u).ownsRow base e size (.slice (some ⟨g,0,none⟩) n cap) n ys:=by
 subst hy;exact(h.stored j u).1
section
open Go.RowKit
theorem aJu:(Tryz.prog.info? 110).map (fun i=>(i.zero,i.size,i.bytes))=some (some (.agg #[.int .i64 0,.int .i64 0,.int .i64 0]),3,24):=by kernel_rfl
theorem aJo:Tryz.prog.underlying 33=some (.slice 110):=by kernel_rfl
def RG(w:World)(lo hi:Nat)(A:Option Addr)(es:List Ed):Prop:=RV w lo hi A (aAd (edI es))
def OG(w:World)(lo hi:Nat)(A:Option Addr)(c:Nat)(es:List Ed):Prop:=OV w lo hi 110 3 A c es.length (aAd (edI es))
section
variable {w w':World} {lo hi a b:Nat} {A:Option Addr} {c:Nat} {es:List Ed}
theorem RG.rv(h:RG w lo hi A es):RV w lo hi A (aAd (edI es)):=h
theorem RV.rg(h:RV w lo hi A (aAd (edI es))):RG w lo hi A es:=h
theorem OG.ov(h:OG w lo hi A c es):OV w lo hi 110 3 A c es.length (aAd (edI es)):=h
theorem RG.mid(h:RG w lo hi A es)(m:Mid a b w w')(hd:b<=lo \/ hi<=a):RG w' lo hi A es:=RV.mid h m hd
theorem OG.mid(h:OG w lo hi A c es)(m:Mid a b w w')(hd:b<=lo \/ hi<=a):OG w' lo hi A c es:=OV.mid h m hd
theorem OG.rg(h:OG w lo hi A c es):RG w lo hi A es:=OV.rv h
theorem RG.size(h:RG w lo hi A es):hi<=w.heap.size:=h.1
theorem OG.size(h:OG w lo hi A c es):hi<=w.heap.size:=h.1
theorem OG.wide{lo' hi':Nat}(h:OG w lo hi A c es)(h1:lo'<=lo)(h2:hi<=hi')(h3:hi'<=w.heap.size):OG w lo' hi' A c es:=OV.wide h h1 h2 h3
theorem RG.wide{lo' hi':Nat}(h:RG w lo hi A es)(h1:lo'<=lo)(h2:hi<=hi')(h3:hi'<=w.heap.size):RG w lo' hi' A es:=RV.wide h h1 h2 h3
theorem RG.ed{k:Nat}(h:RG w lo hi A es)(hk:k<es.length) :
  ∃ b off e,A=some ⟨b,off,none⟩/\lo<=b/\b<hi/\es[k]?=some e/\w.cell? ⟨b,off+k * 3,none⟩=some (.int .i64 e.a)/\w.cell? ⟨b,off+k * 3+1,none⟩=some (.int .i64 e.l)/\w.cell? ⟨b,off+k * 3+2,none⟩=some (.int .i64 e.b):=RV.ed h hk
theorem OG.nil:OG w lo w.heap.size none 0 []:=⟨oN,⟨rfl,.inl ⟨rfl,rfl⟩⟩,fun g hg=>by simp[Value.ownBlock] at hg⟩
theorem OG.mk'{v:Value}{n base:Nat}(h:w.ownsRow base 110 3 v n (aAd (edI es))):∃ A c,v=.slice A es.length c/\n=es.length/\OG w base w.heap.size A c es:=by
 obtain⟨A,c,rfl, -, -⟩:=aAg h;have hn:n=es.length:=by have:=h.1;rw[aAG,aDo] at this;omega
 subst hn;exact⟨A,c,rfl,rfl,oN,h,fun g hg=>(h.lt g hg).2⟩
end
theorem aNk(xs:List Int):∀ u∈aAd xs,u.oneCell'=true:=by
 intro u hu;obtain⟨x, -,rfl⟩:=List.mem_map.1 hu
 rfl
theorem aSa(es:List Ed){k:Nat}{e:Ed}(he:es[k]?=some e)(zs:List Value)(hz:zs.length=es.length * 3) :
  (((aAd (edI (es.take k))++zs.drop (k * 3)).set (k * 3) (.int .i64 e.a)).set (k * 3+1) (.int .i64 e.l)).set (k * 3+2) (.int .i64 e.b)=aAd (edI (es.take (k+1)))++zs.drop ((k+1) * 3):=by
 obtain⟨hk,rfl⟩:=List.getElem?_eq_some_iff.1 he;have hl:(aAd (edI (es.take k))).length=k * 3:=by rw[aAG,aDo,List.length_take,Nat.min_eq_left (by omega)]
 obtain⟨z0,z1,z2,rest,hd⟩:∃ z0 z1 z2 rest,zs.drop (k * 3)=z0::z1::z2::rest:=by
  refine⟨zs[k * 3],zs[k * 3+1],zs[k * 3+2],zs.drop (k * 3+3),?_⟩;rw[List.drop_eq_getElem_cons (by omega),List.drop_eq_getElem_cons (by omega),List.drop_eq_getElem_cons (by omega)]
 have hd3:zs.drop ((k+1) * 3)=rest:=by
  rw[show(k+1) * 3=k * 3+3 by omega,<- List.drop_drop,hd]
  rfl
 rw[hd3,hd,List.take_succ_eq_append_getElem hk,aBT,aAj,aEY];rw[List.set_append_right _ _ (by omega),List.set_append_right _ _ (by omega),List.set_append_right _ _ (by omega),hl];simp[aAd]
end
section
open Go.RowKit Go.Shelf Go.Lib Go.Sort
instance:Inhabited Ed:=⟨⟨0,0,0⟩⟩
def aKz(e:Ed):List Value:=[.int .i64 e.a,.int .i64 e.l,.int .i64 e.b]
theorem aSe{e:Ed}{i:Nat}{v:Value}(h:(aKz e)[i]?=some v):(i=0/\v=.int .i64 e.a) \/ (i=1/\v=.int .i64 e.l) \/ (i=2/\v=.int .i64 e.b):=by
 rcases i with _|_|_|i
 .left;simp[aKz] at h;exact⟨rfl,h.symm⟩
 .right;left;simp[aKz] at h;exact⟨rfl,h.symm⟩
 .right;right;simp[aKz] at h;exact⟨rfl,h.symm⟩
 simp[aKz] at h
theorem eqB(x y:Ed):(x.a == y.a && x.l == y.l && x.b == y.b)=decide (x=y):=by
 rw[Bool.eq_iff_iff];simp;constructor
 .rintro⟨⟨h1,h2⟩,h3⟩;exact Ed.ext' h1 h2 h3
 rintro rfl;exact⟨⟨rfl,rfl⟩,rfl⟩
theorem aTu:EqlAt Tryz.prog 110 (fun x=>.agg (aKz x).toArray) (fun x y=>decide (x=y)):=by
 refine⟨fun x y w=>?_,GuardAt.agg _ (by kernel_rfl)⟩;have u3:=Tryz.underlying3;have a3:=Tryz.isAgg3;have z3:=Tryz.sizeOf3;have hS:Tryz.prog.underlying 110=some (.struct (Tryz.prog.fieldsOf 110)):=by kernel_rfl
 have hp:Tryz.prog.stoodInHeld 110=false:=by kernel_rfl
 simp only[<- eqB,aKz];rw[run_eql_struct,show(10000:Nat)=9999+1 from rfl,run_equalIn_agg w 9999 110 _ _ hS hp];simp only[Program.fieldsOf,Tryz.underlying110];go_simp;by_cases h1:x.a=y.a <;> by_cases h2:x.l=y.l <;> by_cases h3:x.b=y.b <;> simp[h1,h2,h3]
theorem aUE:NeqAt Tryz.prog 110 (fun x=>.agg (aKz x).toArray) (fun x y=>decide (x=y)):=by
 refine⟨fun x y w=>?_,GuardAt.agg _ (by kernel_rfl)⟩;have u3:=Tryz.underlying3;have a3:=Tryz.isAgg3;have z3:=Tryz.sizeOf3;have hS:Tryz.prog.underlying 110=some (.struct (Tryz.prog.fieldsOf 110)):=by kernel_rfl
 have hp:Tryz.prog.stoodInHeld 110=false:=by kernel_rfl
 simp only[<- eqB,aKz];rw[run_neq_struct,show(10000:Nat)=9999+1 from rfl,run_equalIn_agg w 9999 110 _ _ hS hp];simp only[Program.fieldsOf,Tryz.underlying110];go_simp;by_cases h1:x.a=y.a <;> by_cases h2:x.l=y.l <;> by_cases h3:x.b=y.b <;> simp[h1,h2,h3]
theorem aLB(e f:Ed){v:Bool}(h:decide (e=f)=v)(w:World):Sem.run Tryz.prog (binOp .eql 110 e.v f.v) w=.ok (.bool v) w:=h ▸ aTu.1 e f w
theorem aMS(e f:Ed)(op:BinOp)(a b:Operand)(w:World):Sem.run Tryz.prog (eqGuard op 110 a b e.v f.v) w=.ok () w:=aTu.2 op a b e f w
theorem aGN(e f:Ed){v:Bool}(h:decide (e≠f)=v)(w:World):Sem.run Tryz.prog (binOp .neq 110 e.v f.v) w=.ok (.bool v) w:=by
 have h1:(!decide (e=f))=v:=by rw[<- h];simp
 exact h1 ▸ aUE.1 e f w
theorem RG.encs{w:World}{lo hi b off:Nat}{es:List Ed}(h:RG w lo hi (some ⟨b,off,none⟩) es):∀ j,j<es.length->∀ i v,(aKz es[j]!)[i]?=some v->w.cell? ⟨b,off+j * 3+i,none⟩=some v:=by
 intro j hj i v hv;obtain⟨b',off',e,hA, -, -,he,c0,c1,c2⟩:=h.ed hj;injection hA with hA
 injection hA with h1 h2
 subst h1 h2;rw[List.getElem!_eq_getElem?_getD,he] at hv;rcases aSe hv with⟨rfl,rfl⟩|⟨rfl,rfl⟩|⟨rfl,rfl⟩
 .exact c0
 .exact c1
 exact c2
theorem RG.addr{w:World}{lo hi:Nat}{A:Option Addr}{es:List Ed}(h:RG w lo hi A es)(hn:es≠[]):∃ b off,A=some ⟨b,off,none⟩:=by
 obtain⟨b,off,hA, -⟩:=h.2 (by intro h0;have:=congrArg List.length h0;rw[aAG,aDo] at this;simp at this;exact hn (List.eq_nil_of_length_eq_zero (by omega)));exact⟨b,off,hA⟩
theorem aQt(A:Option Addr)(c:Nat)(e:Ed)(w:World) :
  Calls Tryz.prog 261 #[.slice A 0 c,e.v] w fun en w'=>en=.returned (.int .i64 (-1))/\Mid 0 0 w w':=by
 obtain⟨a,l,b⟩:=e;go_enter Tryz.func261,Tryz.ntmps261
 go_wp2_with fail;go_loop [8] (fun i=>i=.int .i64 0) (fun _=>0)
 case atStart=>rfl
 subst hrel;go_wp2_with fail;go_ret;exact⟨rfl,Mid.alloc _ _⟩
theorem aLw(A:Option Addr)(c:Nat)(e:Ed)(w:World) :
  Calls Tryz.prog 245 #[.slice A 0 c,e.v] w fun en w'=>en=.returned (.bool false)/\Mid 0 0 w w':=by
 obtain⟨a,l,b⟩:=e;go_enter Tryz.func245,Tryz.ntmps245
 go_wp2_with fail;with_reducible refine(aQt A c ⟨a,l,b⟩ _).mono ?_
 rintro en w1 ⟨rfl,hm⟩;go_wp2_with fail;go_ret;exact⟨rfl,(Mid.alloc _ _).trans hm⟩
theorem aPW(A:Option Addr)(es:List Ed)(c:Nat)(e:Ed)(w:World)(lo hi:Nat)(hr:RG w lo hi A es)(hl:es.length<=1048576) :
  Calls Tryz.prog 245 #[.slice A es.length c,e.v] w fun en w'=>en=.returned (.bool (decide (e∈es)))/\Mid 0 0 w w':=by
 by_cases hn:es=[]
 .subst hn
  exact aLw A c e w
 obtain⟨b,off,rfl⟩:=hr.addr hn;refine(AnyQ.slices_Contains Tryz.containsEd 3 Tryz.isAgg110 Tryz.sizeOf110 aKz (fun _=>rfl) _ aTu b off es.length c es e w oN (by omega) hr.encs).mono ?_;rintro en w' ⟨he,hb⟩;refine⟨he.trans ?_,Mid.of_below hb⟩;rw[List.take_length]
 congr 2
 rw[Bool.eq_iff_iff];simp
theorem aPJ(xs ys:List Ed):Lib.allEq (fun x y=>decide (x=y)) xs ys=decide (xs=ys):=by
 rw[Bool.eq_iff_iff,decide_eq_true_iff]
 induction xs generalizing ys with
|nil=>cases ys <;> simp[Lib.allEq]
|cons x t ih=>
  cases ys with
 |nil=>simp[Lib.allEq]
 |cons y s=>
   have:=ih s;simp[Lib.allEq,this]
theorem aQh(A A':Option Addr)(n c c':Nat)(es:List Ed)(w:World)(lo hi:Nat)(hr:RG w lo hi A es)(hn:es.length<=1048576) :
  Calls Tryz.prog 236 #[.slice A es.length c,.slice A' 0 c'] w fun en w'=>en=.returned (.bool (decide (es.length=0)))/\Mid 0 0 w w':=by
 by_cases h0:es.length=0
 .have hd:decide (es.length=0)=true:=by simp[h0]
  rw[hd,h0];go_enter Tryz.func236,Tryz.ntmps236
  go_wp2_with fail;go_loop [13] (fun i=>i=.int .i64 0) (fun _=>0)
  case atStart=>rfl
  subst hrel;go_wp2_with fail;go_ret;exact⟨rfl,Mid.refl _ _ _⟩
 have hd:decide (es.length=0)=false:=by simp[h0]
 rw[hd];have h1:((es.length:Int) != 0)=true:=by first|(simp only[bne_iff_ne,ne_eq];omega)|(simp only[beq_eq_false_iff_ne,ne_eq];omega)
 go_enter Tryz.func236,Tryz.ntmps236
 go_wp2_with fail;go_ret;exact⟨rfl,Mid.refl _ _ _⟩
theorem aOV(A A':Option Addr)(c c':Nat)(es:List Ed)(w:World)(hn:es≠[])(hl:es.length<=1048576) :
  Calls Tryz.prog 236 #[.slice A 0 c,.slice A' es.length c'] w fun en w'=>en=.returned (.bool false)/\Mid 0 0 w w':=by
 have h0:0<es.length:=List.length_pos_iff.2 hn;have h1:((0:Int) != (es.length:Int))=true:=by first|(simp only[bne_iff_ne,ne_eq];omega)|(simp only[beq_eq_false_iff_ne,ne_eq];omega)
 have h2:((0:Int) == (es.length:Int))=false:=by first|(simp only[bne_iff_ne,ne_eq];omega)|(simp only[beq_eq_false_iff_ne,ne_eq];omega)
 go_enter Tryz.func236,Tryz.ntmps236
 go_wp2_with fail;go_ret;exact⟨rfl,Mid.refl _ _ _⟩
theorem aUn(A A':Option Addr)(es fs:List Ed)(c c':Nat)(w:World)(lo hi lo' hi':Nat)(hr:RG w lo hi A es)(hr':RG w lo' hi' A' fs)(hl:es.length<=1048576)(hl':fs.length<=1048576) :
  Calls Tryz.prog 236 #[.slice A es.length c,.slice A' fs.length c'] w fun en w'=>en=.returned (.bool (decide (es=fs)))/\Mid 0 0 w w':=by
 by_cases hf:fs=[]
 .subst hf
  have:=aQh A A' 0 c c' es w lo hi hr hl;have hd:decide (es.length=0)=decide (es=[]):=by simp[List.length_eq_zero_iff]
  rw[hd] at this;exact this
 by_cases hn:es=[]
 .subst hn
  have hd:decide ([]=fs)=false:=by simpa using fun h=>hf h
  rw[hd];exact aOV A A' c c' fs w hf hl'
 obtain⟨b,off,rfl⟩:=hr.addr hn;obtain⟨b',off',rfl⟩:=hr'.addr hf;refine(AnyQ.slices_Equal Tryz.equalEd 3 Tryz.isAgg110 Tryz.sizeOf110 aKz (fun _=>rfl) _ aUE b off es.length c b' off' fs.length c' es fs w oN oN (by omega) (by omega) hr.encs hr'.encs).mono ?_;rintro en w' ⟨he,q,rfl⟩;refine⟨he.trans ?_,(Mid.refl 0 0 w).drewN q⟩;rw[List.take_length,List.take_length,aPJ]
theorem aMF(W:World)(o1 o2:Obj):(W.alloc o1).alloc o2=grow (W.drewN 0) (#[o1]++#[o2]):=by
 rw[alloc_eq_grow,alloc_eq_grow,grow_grow]
 rfl
theorem aPS(x y:Ed)(W:World) :
  Calls Tryz.prog 204 #[.agg (aKz x).toArray,.agg (aKz y).toArray] W fun e w'=>e=.returned (.int .i64 (aEv x y))/\∃ q os',w'=grow (W.drewN q) os':=
 (aDK x y W).mono fun _ _ ⟨h,hw⟩=>⟨h,0,_,hw.symm.trans (aMF _ _ _)⟩
theorem aRS:SWO (ltOf aEv) where
 irrefl x:=by
  simp only[ltOf,decide_eq_false_iff_not];exact fun h=>LtE.irrefl x (aBf.1 h)
 trans x y z h1 h2:=by
  simp only[ltOf,decide_eq_true_iff] at *;exact aBf.2 ((aBf.1 h1).trans (aBf.1 h2))
 ntrans x y z h1 h2:=by
  simp only[ltOf,decide_eq_false_iff_not] at *;have n1:¬ LtE x y:=fun h=>h1 (aBf.2 h);have n2:¬ LtE y z:=fun h=>h2 (aBf.2 h);have:¬ LtE x z:=by
   intro h;rcases LtE.tri x y with h3|rfl|h3
   .exact n1 h3
   .exact n2 h
   .exact n2 (h3.trans h)
  exact fun h=>this (aBf.1 h)
theorem aUq(d:Array Ed):(flatK aKz 3 d).toList=aAd (edI d.toList):=by
 apply List.ext_getElem?;intro t;by_cases ht:t<d.size * 3
 .obtain⟨k,r,hr,rfl⟩:∃ k r,r<3/\t=k * 3+r:=⟨t / 3,t % 3,by omega,by omega⟩
  have hk:k<d.size:=by omega
  have h1:(k * 3+r) / 3=k:=by omega
  have h2:(k * 3+r) % 3=r:=by omega
  obtain⟨g0,g1,g2⟩:=aQg (es:=d.toList) (k:=k) (e:=d[k]) (by simp);rw[Array.getElem?_toList,aAF];simp only[flatK,Array.getElem?_map,Array.getElem?_range,if_pos ht,Option.map_some,h1,h2,getElem!_pos d k hk];rcases r with _|_|_|r
  .rw[Nat.add_zero,g0];rfl
  .rw[g1];rfl
  .rw[g2];rfl
  omega
 rw[List.getElem?_eq_none (by simp;omega),List.getElem?_eq_none (by rw[aAG,aDo];simp;omega)]
theorem aQY{w:World}{base:Nat}{e:TypeId}{size g n cap q:Nat}{xs:List Value}{d:Array Value}(h:w.ownsRow base e size (.slice (some ⟨g,0,none⟩) n cap) n xs)(hd:d.size=n * size) :
  (putRow id (Sort.ahead w q) g 0 d).ownsRow base e size (.slice (some ⟨g,0,none⟩) n cap) n d.toList:=by
 rcases h.2 with⟨e0,_⟩|⟨g',cap',cur,e0,hb,hg,hn,hm,hs,ht⟩
 .cases e0
 injection e0 with e1 _ e3
 injection e1 with e1
 injection e1 with e1
 subst e1;subst e3;have hle:n * size<=cap * size:=Nat.mul_le_mul_right _ hn;refine⟨by simpa using hd,.inr ⟨g,cap,putCells id 0 d cur,rfl,hb,?_,hn,hm,by simpa [putCells] using hs,?_⟩⟩
 .simp[putRow,mapBlock,Sort.ahead,Array.getElem?_modify,hg,onCells]
 apply List.ext_getElem?;intro j;rw[List.getElem?_take,Array.getElem?_toList,Array.getElem?_toList];by_cases hj:j<n * size
 .have hjc:j<cur.size:=by omega
  simp only[if_pos hj,putCells,Array.getElem?_mapIdx,Array.getElem?_eq_getElem hjc,Option.map_some];rw[if_pos (by simp;omega),Array.getElem?_eq_getElem (by omega)];simp[getElem!_pos,show j<d.size by omega]
 rw[if_neg hj,Array.getElem?_eq_none (by omega)]
theorem aRr{w:World}{g n:Nat}{d:Array Value}{os:Array Obj}:w.grownBy (grow (putRow id (Sort.ahead w n) g 0 d) os) (some g):=by
 refine⟨rfl,rfl,rfl,by simp,fun k hk hne=>?_⟩;rw[heap_grow_old _ _ (by simpa using hk)];have:g≠k:=fun e=>hne (by rw[e]);simp[putRow,mapBlock,Sort.ahead,Array.getElem?_modify,this]
theorem aPn{w:World}{base:Nat}{e:TypeId}{size:Nat}{v:Value}{n:Nat}{xs:List Value}(h:w.ownsRow base e size v n xs)(os:Array Obj):(grow w os).ownsRow base e size v n xs:=by
 refine⟨h.1,?_⟩;rcases h.2 with hn|⟨g,cap,cur,rfl,hb,hh,rest⟩
 .exact .inl hn
 refine .inr ⟨g,cap,cur,rfl,hb,?_,rest⟩;rw[heap_grow_old _ _ (Array.getElem?_eq_some_iff.1 hh).1];exact hh
theorem aVe(g:Nat)(es:List Ed)(c:Nat)(w:World)(lo:Nat)(ho:w.ownsRow lo 110 3 (.slice (some ⟨g,0,none⟩) es.length c) es.length (aAd (edI es)))(hl:es.length<=1048576) :
  Calls Tryz.prog 203 #[.slice (some ⟨g,0,none⟩) es.length c,.func (.func 204) #[] #[]] w fun e w'=>
   e=.returned (.tuple #[])/\∃ fs,fs.length=es.length/\fs.Perm es/\fs.Pairwise (fun x y=>¬ LtE y x)/\w'.ownsRow lo 110 3 (.slice (some ⟨g,0,none⟩) es.length c) es.length (aAd (edI fs))/\w.grownBy w' (some g):=by
 have hg:=ho.lt g rfl;have hH:HoldsK aKz 3 w g 0 es.toArray:=by
  intro j hj;rw[size_flatK] at hj;have hj':j<es.length * 3:=by simpa using hj
  refine⟨?_,ho.frozenAt _⟩;rw[Nat.zero_add,ho.cellAt j hj'];have:=aUq es.toArray;rw[show es.toArray.toList=es from rfl] at this;rw[<- this,Array.getElem?_toList,Array.getElem?_eq_getElem (by rw[size_flatK];exact hj)];rw[getElem!_pos _ _ (by rw[size_flatK];exact hj)]
  rfl
 have eg:∀ args w,(callFunc 204 args).run Tryz.prog w=.ok (.enter 204 args) w:=enters_of Tryz.func204 (by kernel_rfl) rfl;have hcon:=AnyQ.slices_SortFunc Tryz.sortEd 3 Tryz.isAgg110 Tryz.sizeOf110 aKz (fun _=>rfl) (fun x v hv=>by simp[aKz] at hv;rcases hv with rfl|rfl|rfl <;> rfl) aEv aRS 204 #[] g 0 c es.toArray w eg (fun _ _ _ _ x y=>aPS x y _) hH hg.2 (by simp;omega);refine(show Calls Tryz.prog 203 _ _ _ from hcon).mono ?_;rintro e w' ⟨he,d,n,os,hp,hs,rfl⟩;obtain⟨hsz, -,hperm⟩:=hp;have hsz':d.size=es.length:=by simpa using hsz
 have hperm':d.toList.Perm es:=by
  rw[show d.extract 0 es.toArray.size=d by rw[show es.toArray.size=d.size by simp[hsz']];simp] at hperm
  simpa using hperm
 refine⟨he,d.toList,by simpa using hsz',hperm',?_,?_,aRr⟩
 .refine List.pairwise_iff_getElem.2 fun i j hi hj hij=>?_
  have h:=hs i j oZ hij (by simpa [hsz'] using hj);have hi':i<d.size:=by simpa using hi
  have hj':j<d.size:=by simpa using hj
  rw[getElem!_pos d i hi',getElem!_pos d j hj'] at h;simp only[ltOf,decide_eq_false_iff_not] at h;intro hlt;exact h (aBf.2 (by simpa using hlt))
 have h2:=aQY (q:=n) (d:=flatK aKz 3 d) ho (by rw[size_flatK,hsz']);rw[aUq] at h2;exact aPn h2 os
end
def aCd(out:List Ed)(e:Ed):List Ed:=if out.getLast?=some e then out else out++[e]
def aBx(es:List Ed):List Ed:=es.foldl aCd []
theorem aHm(xs:List Ed)(e:Ed):aBx (xs++[e])=aCd (aBx xs) e:=by simp[aBx]
theorem aKw(out:List Ed)(e:Ed):(aCd out e).getLast?=some e:=by
 unfold aCd;split
 .assumption
 simp
theorem aAV{es:List Ed}{k:Nat}{e:Ed}(h:es[k]?=some e):es.take (k+1)=es.take k++[e]:=by
 obtain⟨hk,h'⟩:=List.getElem?_eq_some_iff.1 h;rw[List.take_succ_eq_append_getElem hk,h']
theorem aEa{es:List Ed}{k:Nat}{e:Ed}(h:es[k]?=some e):aBx (es.take (k+1))=aCd (aBx (es.take k)) e:=by rw[aAV h,aHm]
theorem aFo{es:List Ed}{k:Nat}{e:Ed}(h:es[k]?=some e):(aBx (es.take (k+1))).getLast?=some e:=by rw[aEa h];exact aKw _ _
theorem aLV{out:List Ed}{e x:Ed}:x∈aCd out e↔x∈out \/ x=e:=by
 unfold aCd;split
 .rename_i h
  have:=List.mem_of_getLast? h;constructor
  .exact .inl
  rintro(h|rfl)
  .exact h
  exact this
 simp
theorem aOE{p:List Ed->Prop}(h0:p [])(h1:∀ xs e,p xs->p (xs++[e]))(xs:List Ed):p xs:=by
 rw[<- List.reverse_reverse xs]
 induction xs.reverse with
|nil=>exact h0
|cons e t ih=>rw[List.reverse_cons];exact h1 _ _ ih
theorem aIM{xs:List Ed}{x:Ed}:x∈aBx xs↔x∈xs:=by
 induction xs using aOE with
|h0=>simp[aBx]
|h1 xs e ih=>rw[aHm,aLV,ih];simp
theorem aPU{xs:List Ed}(h:xs.Pairwise fun x y=>¬ LtE y x):Asc (aBx xs):=by
 induction xs using aOE with
|h0=>exact List.Pairwise.nil
|h1 xs e ih=>
  obtain⟨h1, -,h2⟩:=List.pairwise_append.1 h;have ha:=ih h1;rw[aHm];unfold aCd;split
  .exact ha
  rename_i hl;refine List.pairwise_append.2 ⟨ha,by simp,fun y hy z hz=>?_⟩;simp at hz;subst hz;have h3:=h2 y (aIM.1 hy) z (by simp);rcases LtE.tri y z with h4|rfl|h4
  .exact h4
  .exfalso
   obtain⟨ys,l,hcl⟩:∃ ys l,aBx xs=ys++[l]:=by
    rcases List.eq_nil_or_concat (aBx xs) with h0|⟨ys,l,h0⟩
    .rw[h0] at hy;simp at hy
    exact⟨ys,l,by rw[h0,List.concat_eq_append]⟩
   have hly:l≠y:=by
    intro e;subst e;apply hl;rw[hcl];simp
   have hy':y∈ys:=by
    rw[hcl] at hy;rcases List.mem_append.1 hy with h|h
    .exact h
    simp at h;exact absurd h.symm hly
   rw[hcl] at ha;obtain⟨-, -,h5⟩:=List.pairwise_append.1 ha;have h6:=h5 y hy' l (by simp);have hlx:l∈xs:=aIM.1 (by rw[hcl];simp);exact h2 l hlx y (by simp) h6
  exact absurd h4 h3
theorem aMK{xs es:List Ed}(h:xs.Pairwise fun x y=>¬ LtE y x)(hp:xs.Perm es):aBx xs=canon es:=
 aKu (aPU h) fun e=>by rw[aIM];exact hp.mem_iff
structure CompAt (es:List Ed) (j kk:Nat) (ys:List Ed):Prop where
 len:ys.length=es.length
 lt:kk<j
 cnt:kk=(aBx (es.take j)).length
 low:ys.take kk=aBx (es.take j)
 high:∀ i,kk<=i->ys[i]?=es[i]?
theorem CompAt.start{es:List Ed}{k:Nat}{e:Ed}(h:aBx (es.take k)=es.take k)(h0:0<k)(hk:es[k]?=some e)(hp:es[k - 1]?=some e):CompAt es (k+1) k es:=by
 have hkl:=(List.getElem?_eq_some_iff.1 hk).1;have hl:(aBx (es.take k)).getLast?=some e:=by
  have:=aFo hp
  rwa [Nat.sub_add_cancel h0] at this
 have hc:aBx (es.take (k+1))=es.take k:=by
  rw[aEa hk,aCd,if_pos hl,h]
 exact⟨rfl,by omega,by rw[hc,List.length_take];omega,hc.symm,fun _ _=>rfl⟩
theorem CompAt.skip{es ys:List Ed}{j kk:Nat}{e:Ed}(h:CompAt es j kk ys)(hj:es[j]?=some e)(hp:es[j - 1]?=some e):CompAt es (j+1) kk ys:=by
 have h0:=h.lt;have hl:(aBx (es.take j)).getLast?=some e:=by
  have:=aFo hp
  rwa [Nat.sub_add_cancel (by omega)] at this
 have hc:aBx (es.take (j+1))=aBx (es.take j):=by rw[aEa hj,aCd,if_pos hl]
 exact⟨h.len,by omega,by rw[hc];exact h.cnt,by rw[hc];exact h.low,h.high⟩
theorem CompAt.keep{es ys:List Ed}{j kk:Nat}{e f:Ed}(h:CompAt es j kk ys)(hj:es[j]?=some e)(hp:es[j - 1]?=some f)(hne:e≠f):CompAt es (j+1) (kk+1) (ys.set kk e):=by
 have h0:=h.lt;have hjl:=(List.getElem?_eq_some_iff.1 hj).1;have hl:(aBx (es.take j)).getLast?=some f:=by
  have:=aFo hp
  rwa [Nat.sub_add_cancel (by omega)] at this
 have hc:aBx (es.take (j+1))=aBx (es.take j)++[e]:=by
  rw[aEa hj,aCd,if_neg];rw[hl];intro h;injection h with h
  exact hne h.symm
 have hkl:kk<ys.length:=by rw[h.len];omega
 refine⟨by simpa using h.len,by omega,by rw[hc,List.length_append,<- h.cnt];rfl,?_,fun i hi=>?_⟩
 .rw[hc,<- h.low,List.take_succ_eq_append_getElem (by simpa using hkl),List.getElem_set_self,List.take_set_of_le oN]
 rw[List.getElem?_set_ne (by omega)];exact h.high i (by omega)
theorem CompAt.done{es ys:List Ed}{kk:Nat}(h:CompAt es es.length kk ys):kk=(aBx es).length/\ys.take kk=aBx es:=by
 have h1:=h.cnt;have h2:=h.low;rw[List.take_length] at h1 h2;exact⟨h1,h2⟩
theorem aOR{es:List Ed}{k:Nat}{e f:Ed}(h:aBx (es.take k)=es.take k)(h0:0<k)(hk:es[k]?=some e)(hp:es[k - 1]?=some f)(hne:e≠f):aBx (es.take (k+1))=es.take (k+1):=by
 have hl:(aBx (es.take k)).getLast?=some f:=by
  have:=aFo hp
  rwa [Nat.sub_add_cancel h0] at this
 rw[aEa hk,aCd,if_neg,h,aAV hk];rw[hl];intro h;injection h with h
 exact hne h.symm
theorem aLu(es:List Ed)(h:es.length<=1):aBx es=es:=by
 match es,h with
|[],_=>rfl
|[e],_=>rfl
theorem aGQ{w:World}{base:Nat}{e:TypeId}{size g n cap:Nat}{xs:List Value}(h:w.ownsRow base e size (.slice (some ⟨g,0,none⟩) n cap) n xs){m:Nat}(hm:m<=n) :
  w.ownsRow base e size (.slice (some ⟨g,0,none⟩) m cap) m (xs.take (m * size)):=by
 have hle:m * size<=n * size:=Nat.mul_le_mul_right _ hm;refine⟨?_,?_⟩
 .rw[List.length_take,h.1]
  omega
 rcases h.2 with⟨hv,_⟩|⟨g',cap',cur,hv,hbg,hgg,hnc,hcm,hcs,htake⟩
 .cases hv
 refine .inr ⟨g',cap',cur,?_,hbg,hgg,by omega,hcm,hcs,?_⟩
 .injection hv with h1 _ h3
  rw[h1,h3]
 rw[<- htake,List.take_take,Nat.min_eq_left hle]
theorem aNp{out:List Int}{x y:Int}(h:y∈aAX out x):y∈out \/ y=x:=by
 unfold aAX at h;split at h
 .split at h
  .exact .inl ((List.dropLast_sublist _).subset h)
  simpa using h
 simp at h;exact .inr h
theorem aNr{out w:List Int}{y:Int}(h:y∈red out w):y∈out \/ y∈w:=by
 induction w generalizing out with
|nil=>exact .inl h
|cons x t ih=>
  rw[aCf] at h;rcases ih h with h1|h1
  .rcases aNp h1 with h2|rfl
   .exact .inl h2
   exact .inr (List.mem_cons_self)
  exact .inr (List.mem_cons_of_mem _ h1)
theorem aMm{w:List Int}(h:OkI w):OkI (red [] w):=fun x hx=>by
 rcases aNr hx with h1|h1
 .simp at h1
 .exact h x h1
theorem aKZ(w:List Int){k:Nat}{x:Int}(h:w[k]?=some x)(out:List Int):red out (w.take (k+1))=aAX (red out (w.take k)) x:=by
 rw[aBv w h,aBF]
 rfl
theorem aCH(w:List Int):(red [] w).length<=w.length:=by
 have:=aNq [] w
 simpa using this
theorem aMu(d:List (List Int)):d.flatten.length=aDR d:=by
 simp[aDR,List.length_flatten]
theorem aHX(d:List (List Int)){k:Nat}{xs:List Int}(h:d[k]?=some xs):red [] (d.take (k+1)).flatten=red (red [] (d.take k).flatten) xs:=by
 rw[aBv d h,List.flatten_append,aBF];simp
theorem aNj{d:List (List Int)}(h:∀ xs∈d,OkI xs):OkI d.flatten:=fun x hx=>by
 obtain⟨xs,h1,h2⟩:=List.mem_flatten.1 hx;exact h xs h1 x h2
theorem aLA{α:Type}(l:List α)(h:0<l.length):∃ ys a,l=ys++[a]:=by
 rcases List.eq_nil_or_concat l with rfl|⟨ys,a,e⟩
 .simp at h
 exact⟨ys,a,by rw[e];simp⟩
theorem aGn{w:World}{lo g n c:Nat}{ys:List Ed}(h:w.ownsRow lo 110 3 (.slice (some ⟨g,0,none⟩) n c) n (aAd (edI ys))){i:Nat}{e:Ed}(hi:ys[i]?=some e) :
  w.cell? ⟨g,i * 3,none⟩=some (.int .i64 e.a)/\w.cell? ⟨g,i * 3+1,none⟩=some (.int .i64 e.l)/\w.cell? ⟨g,i * 3+2,none⟩=some (.int .i64 e.b):=by
 obtain⟨g0,g1,g2⟩:=aQg hi;have hl:=h.1;rw[aAG,aDo] at hl;have hil:=(List.getElem?_eq_some_iff.1 hi).1;exact⟨by rw[h.cellAt _ (by omega),aAF,g0];rfl,by rw[h.cellAt _ (by omega),aAF,g1];rfl,by rw[h.cellAt _ (by omega),aAF,g2];rfl⟩
theorem aTt(ys:List Ed){k:Nat}(e:Ed)(hk:k<ys.length) :
  (((aAd (edI ys)).set (k * 3) (.int .i64 e.a)).set (k * 3+1) (.int .i64 e.l)).set (k * 3+2) (.int .i64 e.b)=aAd (edI (ys.set k e)):=by
 have h:=aSa (ys.set k e) (k:=k) (e:=e) (by rw[List.getElem?_set_self hk]) (aAd (edI ys)) (by rw[aAG,aDo];simp);have h1:aAd (edI ((ys.set k e).take k))++(aAd (edI ys)).drop (k * 3)=aAd (edI ys):=by
  rw[List.take_set_of_le oN,aNS,show aAd ((edI ys).take (k * 3))=(aAd (edI ys)).take (k * 3) by simp[aAd]];exact List.take_append_drop _ _
 rw[h1] at h;rw[h];have h2:(aAd (edI ys)).drop ((k+1) * 3)=aAd (edI ((ys.set k e).drop (k+1))):=by
  rw[List.drop_set_of_lt (by omega),aKy];simp[aAd]
 rw[h2,<- aAj,<- aBT,List.take_append_drop]
theorem aMf{w:World}{lo g n c:Nat}{ys:List Ed}(h:w.ownsRow lo 110 3 (.slice (some ⟨g,0,none⟩) n c) n (aAd (edI ys))){k:Nat}(e:Ed)(hk:k<ys.length) :
  (((w.setCell ⟨g,k * 3,none⟩ (.int .i64 e.a)).setCell ⟨g,k * 3+1,none⟩ (.int .i64 e.l)).setCell ⟨g,k * 3+2,none⟩ (.int .i64 e.b)).ownsRow lo 110 3 (.slice (some ⟨g,0,none⟩) n c) n (aAd (edI (ys.set k e))):=by
 have:=aGS (aGS (aGS h (k * 3) (.int .i64 e.a) rfl) (k * 3+1) (.int .i64 e.l) rfl) (k * 3+2) (.int .i64 e.b) rfl
 rwa [aTt ys e hk] at this
theorem aGT{lo g n c size:Nat}{e:TypeId}{xs:List Value}:∀(vs:List Value) (o:Nat) {w:World},n * size<=o->w.ownsRow lo e size (.slice (some ⟨g,0,none⟩) n c) n xs->(w.setCells g o vs).ownsRow lo e size (.slice (some ⟨g,0,none⟩) n c) n xs
|[],_,_,_,h=>h
|v::r,o,w,ho,h=>aGT r (o+1) (by omega) (aGS h o v (List.set_eq_of_length_le (by have:=h.1;omega)))
theorem aFQ{w0:World}{g:Nat}:∀(vs:List Value) (o:Nat) {w:World},w0.grownBy w (some g)->w0.grownBy (w.setCells g o vs) (some g)
|[],_,_,h=>h
|v::r,o,w,h=>aFQ r (o+1) (aAQ h o v)
theorem aPx(w:World)(ty:TypeId)(b o n c:Nat)(hn:0<n)(hc:∀ j,j<n * 3->(w.cell? ⟨b,o+j,none⟩).isSome=true)(hf:∀ j,j<n * 3->w.frozen? ⟨b,o+j,none⟩=false) :
  (Builtin.clear_ #[33] ty #[.slice (some ⟨b,o,none⟩) n c]).run Tryz.prog w=.ok (.tuple #[]) (w.setCells b o (List.replicate (n * 3) (.int .i64 0))):=by
 have hzc:(Builtin.zeroCells (Value.agg #[.int .i64 0,.int .i64 0,.int .i64 0]).cells n).toList=List.replicate (n * 3) (.int .i64 0):=by
  apply List.ext_getElem
  .simp[Builtin.zeroCells,Value.cells]
  intro i h1 h2;have h3:i % 3<3:=Nat.mod_lt _ (by decide);simp[Builtin.zeroCells,Value.cells];rcases(show i % 3=0 \/ i % 3=1 \/ i % 3=2 by omega) with h|h|h <;> simp[h]
 have hst:=run_storeCells_cells (P:=Tryz.prog) b o (List.replicate (n * 3) (.int .i64 0)) 0 w (by simpa using hc) (by simpa using hf) (by intro v hv';rw[List.eq_of_mem_replicate hv'];rfl);simp only[Nat.add_zero] at hst;have hv:=Tryz.zeroValue110;obtain⟨m,rfl⟩:∃ m,n=m+1:=⟨n - 1,by omega⟩
 simp[Builtin.clear_,run_underlying aJo,hv,hzc,hst]
theorem aRU(g:Nat)(es:List Ed)(c:Nat)(w:World)(lo:Nat)(ho:w.ownsRow lo 110 3 (.slice (some ⟨g,0,none⟩) es.length c) es.length (aAd (edI es)))(hl:es.length<=1048576) :
  Calls Tryz.prog 205 #[.slice (some ⟨g,0,none⟩) es.length c] w fun e w'=>e=.returned (.slice (some ⟨g,0,none⟩) (aBx es).length c) /\
   w'.ownsRow lo 110 3 (.slice (some ⟨g,0,none⟩) (aBx es).length c) (aBx es).length (aAd (edI (aBx es)))/\w.grownBy w' (some g):=by
 obtain⟨hcc,hcm⟩:es.length<=c/\c<=maxLen:=by
  obtain⟨A',c',hv,h1,h2⟩:=aAg ho;injection hv with _ _ h3
  subst h3;exact⟨h1,h2⟩
 have hcm:c<=9223372036854775807:=by unfold maxLen at hcm;omega
 by_cases h2:es.length<2
 .have hd:decide ((es.length:Int)<2)=true:=by simp;omega
  have hc1:=aLu es (by omega);go_enter Tryz.func205,Tryz.ntmps205
  go_wp2_with fail;go_ret;rw[hc1];exact⟨rfl,ho,World.grownBy.refl _ _⟩
 have hd:decide ((es.length:Int)<2)=false:=by simp;omega
 have HO:=oH ho;clear ho;go_enter Tryz.func205,Tryz.ntmps205
 go_wp2_with fail;go_loopw [3] (fun i wr=>∃ k q:Nat,1<=k/\k<=es.length/\i=.int .i64 k/\Hid (aBx (es.take k)=es.take k)/\wr=w.drewN q) (fun i _=>es.length - (intOf i).toNat)
 case atStart=>exact⟨1,0,oN,by omega,rfl,oH (aLu _ (by simp;omega)),rfl⟩
 obtain⟨k,q,hk1,hk,rfl,HC,rfl⟩:=hrel;by_cases hlt:k<es.length
 .obtain⟨e,he⟩:=aAs es hlt
  obtain⟨f,hf⟩:=aAs es (show k - 1<es.length by omega);obtain⟨c0,c1,c2⟩:=aGn HO.out he;obtain⟨m,hm⟩:∃ m,k=m+1:=⟨k - 1,by omega⟩
  have hf':=hf;rw[hm,Nat.add_sub_cancel] at hf';obtain⟨p0,p1,p2⟩:=aGn HO.out hf';have hk0:(0:Int)<=(k:Int):=by omega
  have hkn:(k:Int)<(es.length:Int):=by omega
  have hkm:(k:Int) - 1=(m:Int):=by omega
  have hwm:IntKind.i64.wrap (m:Int)=(m:Int):=IntWalk.i64_in _ (by omega);have hm0:(0:Int)<=(m:Int):=by omega
  have hmn:(m:Int)<(es.length:Int):=by omega
  have hgd:=aMS e f;have HE:=oH he;have HF:=oH hf;have HM:=oH hm;by_cases hef:e=f
  .have hq:=aLB e f (show decide (e=f)=true by simp[hef])
   have HEF:=oH hef;have hck:(c=k)=False:=eq_false (by omega);have hkc:(k:Int)<=(c:Int):=by omega
   clear he hf hf' hm hef;go_wp2_with fail;go_quiet (fail)
   clear hq hgd c0 c1 c2 p0 p1 p2 hkm hwm;go_wp2_with fail;have HS:=HC.out;go_loopw [3,5] (fun s3 s5 wr=>∃ kk k2:Nat,∃ ys:List Ed,s3=.int .i64 kk/\s5=.int .i64 k2/\1<=k2/\k+k2<=es.length/\Hid (CompAt es (k+k2) kk ys) /\
     wr.ownsRow lo 110 3 (.slice (some ⟨g,0,none⟩) es.length c) es.length (aAd (edI ys))/\w.grownBy wr (some g)) (fun _ s5 _=>es.length - (intOf s5).toNat)
   case atStart=>exact⟨k,1,es,rfl,rfl,oN,by omega,oH (CompAt.start HC.out (by omega) HE.out (by rw[HEF.out];exact HF.out)),HO.out,aCL (aDk (Below.refl _ w) _) _⟩
   obtain⟨kk,k2,ys,rfl,rfl,h1,hle,HI,hown,hg⟩:=hrel;have hlt1:=HI.out.lt;have hfz:=fun i=>hown.frozenAt i;have hylen:=HI.out.len;have HY:=oH hylen;clear hylen HS;by_cases hlt2:k+k2<es.length
   .obtain⟨e1,he1⟩:=aAs es hlt2
    obtain⟨m2,hm2⟩:∃ m2,k2=m2+1:=⟨k2 - 1,by omega⟩
    obtain⟨f1,hf1⟩:=aAs es (show k+m2<es.length by omega);obtain⟨c0,c1,c2⟩:=aGn hown ((HI.out.high _ (by omega)).trans he1);obtain⟨p0,p1,p2⟩:=aGn hown ((HI.out.high _ (by omega)).trans hf1);rw[show(k+k2) * 3=k * 3+k2 * 3 by omega] at c0 c1 c2;rw[show(k+m2) * 3=k * 3+m2 * 3 by omega] at p0 p1 p2;obtain⟨old,hold⟩:=aAs ys (show kk<ys.length by have:=HY.out;omega);obtain⟨o0,o1,o2⟩:=aGn hown hold;have hf1':es[k+k2 - 1]?=some f1:=by rw[hm2,show k+(m2+1) - 1=k+m2 by omega];exact hf1
    have HE1:=oH he1;have HF1:=oH hf1';have HOW:=oH hown;have hk20:(0:Int)<=(k2:Int):=by omega
    have hk2n:(k2:Int)<(es.length:Int) - (k:Int):=by omega
    have hk2N:k2<es.length - k:=by omega
    have hkm2:(k2:Int) - 1=(m2:Int):=by omega
    have hwm2:IntKind.i64.wrap (m2:Int)=(m2:Int):=IntWalk.i64_in _ (by omega);have hm20:(0:Int)<=(m2:Int):=by omega
    have hm2n:(m2:Int)<(es.length:Int) - (k:Int):=by omega
    have hkk0:(0:Int)<=(kk:Int):=by omega
    have hkkn:(kk:Int)<(es.length:Int):=by omega
    have hgd:=aMS e1 f1;clear he1 hf1 hf1' hold hown hm2;by_cases hef1:e1=f1
    .have hq:=aGN e1 f1 (show decide (e1≠f1)=false by simp[hef1])
     have HEF1:=oH hef1;clear hef1;go_wp2_with fail;go_quiet (fail)
     go_wp2_with fail;go_roundw
     case rel=>exact⟨kk,k2+1,ys,rfl,by go_num,by omega,by omega,oH (HI.out.skip HE1.out (by rw[HEF1.out];exact HF1.out)),aBr HOW.out _,aEx hg (aCL (aDk (Below.refl _ _) _) _)⟩
     simp[intOf];omega
    have hq:=aGN e1 f1 (show decide (e1≠f1)=true by simp[hef1]);have HEF1:=oH hef1;clear hef1;go_wp2_with fail;go_quiet (fail)
    go_wp2_with fail;go_roundw
    case rel=>exact⟨kk+1,k2+1,ys.set kk e1,by go_num,by go_num,by omega,by omega,oH (HI.out.keep HE1.out HF1.out HEF1.out),aMf (aBr HOW.out _) e1 (by have:=HY.out;omega),aAQ (aAQ (aAQ (aEx hg (aCL (aDk (Below.refl _ _) _) _)) _ _) _ _) _ _⟩
    simp[intOf];omega
   have hend:k+k2=es.length:=by omega
   have hk2n:¬ (k2:Int)<(es.length:Int) - (k:Int):=by omega
   have hk2N:¬ k2<es.length - k:=by omega
   have hkkc:(c=kk)=False:=eq_false (by omega);have hkk0:(0:Int)<=(kk:Int):=by omega
   have hkkn:(kk:Int)<=(es.length:Int):=by omega
   have hcl:∀ ty,(Builtin.clear_ #[33] ty #[.slice (some ⟨g,kk * 3,none⟩) (es.length - kk) (c - kk)]).run Tryz.prog wr=.ok (.tuple #[]) (wr.setCells g (kk * 3) (List.replicate ((es.length - kk) * 3) (.int .i64 0))):=
    fun ty=>aPx wr ty g (kk * 3) _ _ (by omega) (fun j hj=>by rw[hown.cellAt _ (by omega),List.getElem?_eq_getElem (by have:=hown.1;omega)];rfl) (fun j hj=>hfz _)
   have HOW:=oH hown;have HN:=oH hend;clear hown hend hfz;go_wp2_with fail;go_ret;have hI:=HI.out;rw[HN.out] at hI;obtain⟨d1,d2⟩:=hI.done;have h3:=aGT (List.replicate ((es.length - kk) * 3) (.int .i64 0)) (kk * 3) oN (aGQ HOW.out (m:=kk) (by omega));rw[show(aAd (edI ys)).take (kk * 3)=aAd (edI (ys.take kk)) by rw[aNS];simp[aAd],d2] at h3;rw[d1] at h3 |-;exact⟨rfl,h3,aFQ _ _ hg⟩
  have hq:=aLB e f (show decide (e=f)=false by simp[hef]);have HEF:=oH hef;clear he hf hf' hm hef;go_wp2_with fail;go_quiet (fail)
  go_wp2_with fail;go_roundw
  case rel=>exact⟨k+1,_,by omega,by omega,by go_num,oH (aOR HC.out (by omega) HE.out HF.out HEF.out),rfl⟩
  simp[intOf];omega
 obtain rfl:k=es.length:=by omega
 have hce:aBx es=es:=by have:=HC.out;rwa [List.take_length] at this
 have HCE:=oH hce;clear hce;go_wp2_with fail;go_ret;rw[HCE.out];exact⟨rfl,HO.out,aCL (aDk (Below.refl _ w) q) _⟩
theorem aAC(p:Prop):∃ b:Bool,b=true↔p:=by
 by_cases h:p
 .exact⟨true,iff_of_true rfl h⟩
 exact⟨false,iff_of_false Bool.false_ne_true h⟩
theorem aBq{b:Bool}{p:Prop}(h:b=true↔p)(hn:¬ p):b=false:=by
 cases b
 .rfl
 exact absurd (h.1 rfl) hn
theorem aRW(g:Nat)(es:List Ed)(n c:Nat)(w:World)(lo:Nat)(hn:es.length=n)(ho:w.ownsRow lo 110 3 (.slice (some ⟨g,0,none⟩) n c) n (aAd (edI es)))(hl:n<=1048576) :
  Calls Tryz.prog 205 #[.slice (some ⟨g,0,none⟩) n c] w fun e w'=>e=.returned (.slice (some ⟨g,0,none⟩) (aBx es).length c) /\
   w'.ownsRow lo 110 3 (.slice (some ⟨g,0,none⟩) (aBx es).length c) (aBx es).length (aAd (edI (aBx es)))/\w.grownBy w' (some g):=by
 subst hn;exact aRU g es c w lo ho hl
theorem aMY(A:Option Addr)(es:List Ed)(c:Nat)(w:World)(lo hi:Nat)(hr:RG w lo hi A es)(hl:es.length<=1048576) :
  Calls Tryz.prog 137 #[.slice A es.length c] w fun e w'=>∃ A' c',e=.returned (.slice A' (canon es).length c')/\OG w' w.heap.size w'.heap.size A' c' (canon es)/\Mid 0 0 w w':=by
 have hown0:=aAi w 110 3;have hrs:=(hr.mid (Mid.alloc w (.cells #[] 110)) oZl).rv.rs;go_enter Tryz.func137,Tryz.ntmps137
 go_wp2_with (at_builtin;refine aFH rfl _ _ 33 rfl w.heap.size 110 (.agg #[.int .i64 0,.int .i64 0,.int .i64 0]) 3 24 aJo aJu rfl (by decide) (.slice (some ⟨w.heap.size,0,none⟩) 0 0) 0 [] rfl hown0 A es.length c _ (aAd (edI es)) rfl hrs (by rw[aAG,aDo]) (aNk _) (by unfold maxLen;omega) (by omega) (by simp) ?_;intro v' w1 hown1 hg1 hblk)
 have hm1:Mid 0 0 w w1:=(Mid.alloc w (.cells #[] 110)).transNew (Mid.of_grownRow hown0 hg1) (Or.inl oN);obtain⟨g,c1,rfl,hgw⟩:∃ g c1,v'=.slice (some ⟨g,0,none⟩) es.length c1/\w.heap.size<=g:=by
  rcases hown1.2 with⟨rfl, -⟩|⟨g,cap,cur,rfl,hbg, -⟩
  .simp[Value.ownBlock] at hblk
  exact⟨g,cap,by simp,hbg⟩
 simp only[List.nil_append,Nat.zero_add] at hown1;go_wp2_with fail;with_reducible refine(aVe g es c1 w1 w.heap.size hown1 hl).mono ?_
 rintro e w2 ⟨rfl,fs,hfl,hfp,hfs,hown2,hg2⟩;have hm2:Mid 0 0 w w2:=hm1.transNew (Mid.of_grownRow hown1 hg2) (Or.inl oN);have HP:=oH (aMK hfs hfp);have hC:=fun W h=>aRW g fs es.length c1 W w.heap.size hfl h hl;clear hfl hfp hfs;go_wp2_with fail;with_reducible refine(hC _ hown2).mono ?_
 rintro e w3 ⟨rfl,hown3,hg3⟩;rw[HP.out] at hown3 |-;go_wp2_with fail;go_ret;exact⟨_,_,rfl,⟨oN,hown3,fun g hg=>(hown3.lt g hg).2⟩,hm2.transNew (Mid.of_grownRow hown2 hg3) (Or.inl oN)⟩
theorem aCk(A:Option Addr)(es:List Ed)(n c:Nat)(w:World)(lo hi:Nat)(hn:es.length=n)(hr:RG w lo hi A es)(hl:n<=1048576) :
  Calls Tryz.prog 137 #[.slice A n c] w fun e w'=>∃ A' c',e=.returned (.slice A' (canon es).length c')/\OG w' w.heap.size w'.heap.size A' c' (canon es)/\Mid 0 0 w w':=by
 subst hn;exact aMY A es c w lo hi hr hl
theorem OG.cnt{w:World}{lo hi:Nat}{A:Option Addr}{c:Nat}{es:List Ed}(h:OG w lo hi A c es):es.length<=c/\c<=maxLen:=by
 rcases h.2.1.2 with⟨hv,hn⟩|⟨g,cap,cur,hv, -, -,hnc,hcm, -⟩
 .injection hv with _ h1 h2
  subst h2;omega
 injection hv with _ _ h2
 subst h2;exact⟨hnc,hcm⟩
theorem aKP{w:World}{base:Nat}{e:TypeId}{size n:Nat}{v u:Value}{xs:List Value}{k:Nat}(h:w.ownsRow base e size v n xs)(hb:v.ownBlock=u.ownBlock \/ v.ownBlock=some k)(hu:u.ownBlock≠none) :
  ∃ g c,v=.slice (some ⟨g,0,none⟩) n c/\base<=g/\n<=c/\c<=maxLen:=by
 rcases h.2 with⟨rfl, -⟩|⟨g,cap,cur,rfl,hbg, -,h1,h2, -⟩
 .rcases hb with hb|hb
  .exact absurd hb.symm hu
  cases hb
 exact⟨g,cap,rfl,hbg,h1,h2⟩
theorem aAS(r s:Int)(A:Option Addr)(es:List Ed)(c:Nat)(w:World)(lo hi:Nat)(hr:RG w lo hi A es)(hl:es.length<=1048576) :
  Calls Tryz.prog 223 #[aAw r s A es.length c] w fun e w'=>∃ A' c',e=.returned (aAw r s A' es.length c')/\OG w' w.heap.size w'.heap.size A' c' es/\Mid 0 0 w w':=by
 have hm0:Mid 0 0 w ((w.alloc (.cells #[.int .i64 r,.int .i64 s,.slice A es.length c] 35)).alloc (.cells #[.int .i64 0,.int .i64 0,.slice none 0 0] 35)):=(Mid.alloc _ _).trans (Mid.alloc _ _);have B0:=(Box.new w #[.int .i64 r,.int .i64 s,.slice A es.length c] 35).mid (Mid.alloc _ (.cells #[.int .i64 0,.int .i64 0,.slice none 0 0] 35)) oZr;have B1:=Box.new (w.alloc (.cells #[.int .i64 r,.int .i64 s,.slice A es.length c] 35)) #[.int .i64 0,.int .i64 0,.slice none 0 0] 35;rw[World.size_alloc] at B1;go_enter Tryz.func223,Tryz.ntmps223
 go_wp2_with fail;generalize hw1:((w.alloc (.cells #[.int .i64 r,.int .i64 s,.slice A es.length c] 35)).alloc (.cells #[.int .i64 0,.int .i64 0,.slice none 0 0] 35))=w1 at hm0 B0 B1 |-;have hs1:w1.heap.size=w.heap.size+1+1:=by rw[<- hw1];simp
 have HS:=oH hs1;clear hw1 hs1;have hmd:=Mid.drew1 w1;have hal:Mid 0 0 w1.drew (w1.drew.alloc (.cells #[] 110)):=Mid.alloc _ _;have D0:=B0.mid hmd oZr;have D1:=B1.mid hmd oZr;have E0:=D0.mid hal oZr;have E1:=D1.mid hal oZr;have hoe:=aAi w1.drew 110 3;have hrs:=((hr.mid hm0 oZl).mid (hmd.trans hal) oZl).rv.rs;obtain⟨d0,d1,d2⟩:=D0.c3 rfl;obtain⟨e0,e1,e2⟩:=E0.c3 rfl;have hmx:0+es.length<=maxLen:=by unfold maxLen;omega
 have hby:(0+es.length) * 24<=140737488355328:=by omega
 have hba:w1.drew.heap.size<=(w1.drew.alloc (.cells #[] 110)).heap.size:=by simp
 have hln:(aAd (edI es)).length=es.length * 3:=by rw[aAG,aDo]
 have HL:=oH hln;have HO:=oH (aNk (edI es));have hz1:w.heap.size+1<w1.drew.heap.size:=B1.1;have hz0:w.heap.size<w1.drew.heap.size:=B0.1;clear hln;have hnn:(Value.slice (some ⟨w1.drew.heap.size,0,none⟩) 0 0).ownBlock≠none:=by simp[Value.ownBlock]
 have HNN:=oH hnn;clear hnn;go_region_held3 (fun w'=>w'.cell? ⟨w.heap.size,0,none⟩=some (.int .i64 r)/\w'.cell? ⟨w.heap.size,1,none⟩=some (.int .i64 s)/\w'.cell? ⟨w.heap.size,2,none⟩=some (.slice A es.length c)) (first|exact⟨d0,d1,d2⟩|exact⟨e0,e1,e2⟩|exact⟨f0,f1,f2⟩|exact⟨x0,x1,x2⟩) ((refine aBh (by rfl) (.tmp 7) (.tmp 9) 33 (by rfl) _ 110 (.agg #[.int .i64 0,.int .i64 0,.int .i64 0]) 3 24 aJo aJu rfl (by decide) (.slice (some ⟨w1.drew.heap.size,0,none⟩) 0 0) 0 [] (by rfl) hoe A es.length c _ (aAd (edI es)) (by rfl) hrs HL.out HO.out hmx hby hba ?_;intro v2 w2 ho2 hgr2 hat2;obtain⟨g,c2,rfl,hg1, -, -⟩:=aKP ho2 hat2 HNN.out;have hm2:=Mid.of_grownRow hoe hgr2;have F0:=E0.mid hm2 (Or.inl hz0);have F1:=E1.mid hm2 (Or.inl hz1);obtain⟨f0,f1,f2⟩:=F0.c3 rfl;obtain⟨p0,p1,p2⟩:=F1.c3 rfl;have pf:=F1.2.2;have ms0:=Mid.setCell w2 (lo:=w.heap.size+1) (hi:=w.heap.size+2) (p:=⟨w.heap.size+1,0,none⟩) (.int .i64 r) oN oS;have ms1:=ms0.trans (Mid.setCell _ (lo:=w.heap.size+1) (hi:=w.heap.size+2) (p:=⟨w.heap.size+1,1,none⟩) (.int .i64 s) oN oS);have ms2:=ms1.trans (Mid.setCell _ (lo:=w.heap.size+1) (hi:=w.heap.size+2) (p:=⟨w.heap.size+1,2,none⟩) (.slice (some ⟨g,0,none⟩) es.length c2) oN oS);have X0:=F0.mid ms2 (Or.inl oS);obtain⟨x0,x1,x2⟩:=X0.c3 rfl))
 go_wp2_with fail;simp only[Nat.zero_add,List.nil_append] at ho2;have hmm:Mid 0 0 w w2:=((hm0.trans hmd).trans hal).transNew hm2 (Or.inl (by have:=hm0.size;exact this));refine bodyPost_ret (v:=.agg #[.int .i64 r,.int .i64 s,.slice (some ⟨g,0,none⟩) es.length c2]) (by simp[results,Tryz.results223,go_sem,p0,p1,p2,pf]) rfl ⟨_,c2,rfl,?_,?_⟩
 .have h0:OG w2 w1.drew.heap.size w2.heap.size (some ⟨g,0,none⟩) c2 es:=⟨oN,ho2,fun g hg=>(ho2.lt g hg).2⟩
  refine OG.wide (OG.mid h0 ms2 (Or.inl (by have:=HS.out;show w.heap.size+2<=w1.heap.size;omega))) (by have:=hm0.size;exact this) ?_ oN;exact ms2.size
 exact hmm.transNew ms2 (Or.inl (Nat.le_succ _))
theorem aBp(r s:Int)(A:Option Addr)(es:List Ed)(c:Nat)(w:World)(lo hi:Nat)(hr:RG w lo hi A es)(hl:es.length<=1048576) :
  Calls Tryz.prog 210 #[aAw r s A es.length c] w fun e w'=>∃ A' c',e=.returned (aAw r s A' es.length c')/\OG w' w.heap.size w'.heap.size A' c' es/\Mid 0 0 w w':=by
 have hm0:Mid 0 0 w ((w.alloc (.cells #[.int .i64 r,.int .i64 s,.slice A es.length c] 35)).alloc (.cells #[.int .i64 0,.int .i64 0,.slice none 0 0] 35)):=(Mid.alloc _ _).trans (Mid.alloc _ _);have B0:=(Box.new w #[.int .i64 r,.int .i64 s,.slice A es.length c] 35).mid (Mid.alloc _ (.cells #[.int .i64 0,.int .i64 0,.slice none 0 0] 35)) oZr;have B1:=Box.new (w.alloc (.cells #[.int .i64 r,.int .i64 s,.slice A es.length c] 35)) #[.int .i64 0,.int .i64 0,.slice none 0 0] 35;rw[World.size_alloc] at B1;go_enter Tryz.func210,Tryz.ntmps210
 go_wp2_with fail;generalize hw1:((w.alloc (.cells #[.int .i64 r,.int .i64 s,.slice A es.length c] 35)).alloc (.cells #[.int .i64 0,.int .i64 0,.slice none 0 0] 35))=w1 at hm0 B0 B1 |-;have hs1:w1.heap.size=w.heap.size+1+1:=by rw[<- hw1];simp
 have HS:=oH hs1;clear hw1 hs1;have hmd:=Mid.drew1 w1;have hal:Mid 0 0 w1.drew (w1.drew.alloc (.cells #[] 110)):=Mid.alloc _ _;have D0:=B0.mid hmd oZr;have D1:=B1.mid hmd oZr;have E0:=D0.mid hal oZr;have E1:=D1.mid hal oZr;have hoe:=aAi w1.drew 110 3;have hrs:=((hr.mid hm0 oZl).mid (hmd.trans hal) oZl).rv.rs;obtain⟨d0,d1,d2⟩:=D0.c3 rfl;obtain⟨e0,e1,e2⟩:=E0.c3 rfl;have hmx:0+es.length<=maxLen:=by unfold maxLen;omega
 have hby:(0+es.length) * 24<=140737488355328:=by omega
 have hba:w1.drew.heap.size<=(w1.drew.alloc (.cells #[] 110)).heap.size:=by simp
 have hln:(aAd (edI es)).length=es.length * 3:=by rw[aAG,aDo]
 have HL:=oH hln;have HO:=oH (aNk (edI es));have hz1:w.heap.size+1<w1.drew.heap.size:=B1.1;have hz0:w.heap.size<w1.drew.heap.size:=B0.1;clear hln;have hnn:(Value.slice (some ⟨w1.drew.heap.size,0,none⟩) 0 0).ownBlock≠none:=by simp[Value.ownBlock]
 have HNN:=oH hnn;clear hnn;go_region_held3 (fun w'=>w'.cell? ⟨w.heap.size,0,none⟩=some (.int .i64 r)/\w'.cell? ⟨w.heap.size,1,none⟩=some (.int .i64 s)/\w'.cell? ⟨w.heap.size,2,none⟩=some (.slice A es.length c)) (first|exact⟨d0,d1,d2⟩|exact⟨e0,e1,e2⟩|exact⟨f0,f1,f2⟩|exact⟨x0,x1,x2⟩) ((refine aBh (by rfl) (.tmp 7) (.tmp 9) 33 (by rfl) _ 110 (.agg #[.int .i64 0,.int .i64 0,.int .i64 0]) 3 24 aJo aJu rfl (by decide) (.slice (some ⟨w1.drew.heap.size,0,none⟩) 0 0) 0 [] (by rfl) hoe A es.length c _ (aAd (edI es)) (by rfl) hrs HL.out HO.out hmx hby hba ?_;intro v2 w2 ho2 hgr2 hat2;obtain⟨g,c2,rfl,hg1, -, -⟩:=aKP ho2 hat2 HNN.out;have hm2:=Mid.of_grownRow hoe hgr2;have F0:=E0.mid hm2 (Or.inl hz0);have F1:=E1.mid hm2 (Or.inl hz1);obtain⟨f0,f1,f2⟩:=F0.c3 rfl;obtain⟨p0,p1,p2⟩:=F1.c3 rfl;have pf:=F1.2.2;have ms0:=Mid.setCell w2 (lo:=w.heap.size+1) (hi:=w.heap.size+2) (p:=⟨w.heap.size+1,0,none⟩) (.int .i64 r) oN oS;have ms1:=ms0.trans (Mid.setCell _ (lo:=w.heap.size+1) (hi:=w.heap.size+2) (p:=⟨w.heap.size+1,1,none⟩) (.int .i64 s) oN oS);have ms2:=ms1.trans (Mid.setCell _ (lo:=w.heap.size+1) (hi:=w.heap.size+2) (p:=⟨w.heap.size+1,2,none⟩) (.slice (some ⟨g,0,none⟩) es.length c2) oN oS);have X0:=F0.mid ms2 (Or.inl oS);obtain⟨x0,x1,x2⟩:=X0.c3 rfl))
 go_wp2_with fail;simp only[Nat.zero_add,List.nil_append] at ho2;have hmm:Mid 0 0 w w2:=((hm0.trans hmd).trans hal).transNew hm2 (Or.inl (by have:=hm0.size;exact this));refine bodyPost_ret (v:=.agg #[.int .i64 r,.int .i64 s,.slice (some ⟨g,0,none⟩) es.length c2]) (by simp[results,Tryz.results210,go_sem,p0,p1,p2,pf]) rfl ⟨_,c2,rfl,?_,?_⟩
 .have h0:OG w2 w1.drew.heap.size w2.heap.size (some ⟨g,0,none⟩) c2 es:=⟨oN,ho2,fun g hg=>(ho2.lt g hg).2⟩
  refine OG.wide (OG.mid h0 ms2 (Or.inl (by have:=HS.out;show w.heap.size+2<=w1.heap.size;omega))) (by have:=hm0.size;exact this) ?_ oN;exact ms2.size
 exact hmm.transNew ms2 (Or.inl (Nat.le_succ _))
section
open Go.RowKit
section
variable {W:World} {ops:Array Oper} {rest:List Oper} {o:Oper} {a:Act} {Q:Exit->Act->World->Prop}
theorem aCq(hgd:o.guard=none)(s x:Operand)(ho:o.op=.call { callee:=.builtin .append,args:=#[s,x],argTypes:=#[33,33] })(lo:Nat)(A:Option Addr)(n c:Nat)(es:List Ed)(hs:a.eval s=.slice A n c)(hown:W.ownsRow lo 110 3 (.slice A n c) n (aAd (edI es)))(e:Ed)(hx:a.eval x=.slice (some ⟨W.heap.size,0,none⟩) 1 1)(hn:n<=1048576)(hb:lo<=W.heap.size)(h:∀ A' c' w',w'.ownsRow lo 110 3 (.slice A' (n+1) c') (n+1) (aAd (edI (es++[e])))->Mid lo W.heap.size W w'->wpList Tryz.prog ops Q rest (a.put o.dst (.slice A' (n+1) c')) w') :
  wpList Tryz.prog ops Q (o::rest) a (W.alloc (.cells #[.int .i64 e.a,.int .i64 e.l,.int .i64 e.b] 110)):=by
 refine aAr (news:=[.int .i64 e.a,.int .i64 e.l,.int .i64 e.b]) hgd s x 33 ho lo 110 (.agg #[.int .i64 0,.int .i64 0,.int .i64 0]) 3 24 aJo aJu rfl (by decide) (.slice A n c) n (aAd (edI es)) hs hown 1 hx rfl ?_ (by unfold maxLen;omega) (by omega) hb ?_
 .intro u hu
  simp at hu;rcases hu with rfl|rfl|rfl <;> rfl
 intro v' w' h1 h2 _;obtain⟨A',c',rfl, -, -⟩:=aAg h1;refine h A' c' w' ?_ (Mid.of_grownRow hown h2);rw[aBT,aAj,aEY];exact h1
end
theorem aSD{e:Ed}{xs:List Ed}(h:∀ g∈xs,LtE g e):aCy e xs=xs++[e]:=by
 induction xs with
|nil=>rfl
|cons g t ih=>
  have hg:=h g (by simp);have h1:¬ aEv e g<0:=fun h=>(aBf.1 h).asymm hg;have h2:¬ aEv e g=0:=fun h=>by have:=aCQ.1 h;subst this;exact LtE.irrefl _ hg
  rw[aCy,if_neg h1,if_neg h2,ih fun f hf=>h f (by simp[hf])]
  rfl
theorem aRo{e f:Ed}{xs:List Ed}(h:∀ g∈xs,LtE g e)(hf:aEv e f=0):aCy e (xs++[f])=xs++[f]:=by
 induction xs with
|nil=>simp[aCy,hf]
|cons g t ih=>
  have hg:=h g (by simp);have h1:¬ aEv e g<0:=fun h=>(aBf.1 h).asymm hg;have h2:¬ aEv e g=0:=fun h=>by have:=aCQ.1 h;subst this;exact LtE.irrefl _ hg
  rw[List.cons_append,aCy,if_neg h1,if_neg h2,ih fun f hf=>h f (by simp[hf])]
theorem aPu{e f:Ed}{xs:List Ed}(h:∀ g∈xs,LtE g e)(hf:aEv e f<0):aCy e (xs++[f])=xs++[e]++[f]:=by
 induction xs with
|nil=>simp[aCy,hf]
|cons g t ih=>
  have hg:=h g (by simp);have h1:¬ aEv e g<0:=fun h=>(aBf.1 h).asymm hg;have h2:¬ aEv e g=0:=fun h=>by have:=aCQ.1 h;subst this;exact LtE.irrefl _ hg
  rw[List.cons_append,aCy,if_neg h1,if_neg h2,ih fun f hf=>h f (by simp[hf])];simp
theorem aRn{e f:Ed}{xs:List Ed}(h:∃ g∈xs,¬ LtE g e):aCy e (xs++[f])=aCy e xs++[f]:=by
 induction xs with
|nil=>obtain⟨g,hg, -⟩:=h;simp at hg
|cons g t ih=>
  rw[List.cons_append,aCy,aCy];split
  .simp
  split
  .simp
  rename_i h1 h2;rw[ih]
  .simp
  obtain⟨g',hg',hn⟩:=h;rcases List.mem_cons.1 hg' with rfl|hg'
  .exfalso
   rcases LtE.tri e g' with h3|rfl|h3
   .exact h1 (aBf.2 h3)
   .exact h2 (aCQ.2 rfl)
   exact hn h3
  exact⟨g',hg',hn⟩
def PutAt(e:Ed)(es:List Ed)(i:Nat)(p:Bool)(xs:List Ed):Prop:=
 if p=true then xs=aCy e (es.take i)/\∃ g∈es.take i,¬ LtE g e else xs=es.take i/\∀ g∈es.take i,LtE g e
theorem PutAt.zero(e:Ed)(es:List Ed):PutAt e es 0 false []:=⟨by simp,by simp⟩
theorem PutAt.on{e f:Ed}{es xs:List Ed}{i:Nat}(h:PutAt e es i true xs)(hf:es[i]?=some f):PutAt e es (i+1) true (xs++[f]):=by
 obtain⟨h1,h2⟩:=h;refine⟨by rw[aAV hf,aRn h2,h1],?_⟩;obtain⟨g,hg,hn⟩:=h2;exact⟨g,by rw[aAV hf];simp[hg],hn⟩
theorem PutAt.eq{e f:Ed}{es xs:List Ed}{i:Nat}(h:PutAt e es i false xs)(hf:es[i]?=some f)(hc:aEv e f=0):PutAt e es (i+1) true (xs++[f]):=by
 obtain⟨h1,h2⟩:=h;refine⟨by rw[aAV hf,aRo h2 hc,h1],f,by rw[aAV hf];simp,?_⟩;have:=aCQ.1 hc;subst this;exact LtE.irrefl _
theorem PutAt.lt{e f:Ed}{es xs:List Ed}{i:Nat}(h:PutAt e es i false xs)(hf:es[i]?=some f)(hc:aEv e f<0):PutAt e es (i+1) true (xs++[e]++[f]):=by
 obtain⟨h1,h2⟩:=h;exact⟨by rw[aAV hf,aPu h2 hc,h1],f,by rw[aAV hf];simp,(aBf.1 hc).asymm⟩
theorem PutAt.gt{e f:Ed}{es xs:List Ed}{i:Nat}(h:PutAt e es i false xs)(hf:es[i]?=some f)(hc:0<aEv e f):PutAt e es (i+1) false (xs++[f]):=by
 obtain⟨h1,h2⟩:=h;have hfe:LtE f e:=by
  rcases LtE.tri f e with h3|rfl|h3
  .exact h3
  .have:=aCQ.2 (rfl:f=f);omega
  have:=aBf.2 h3;omega
 refine⟨by rw[aAV hf,h1],fun g hg=>?_⟩;rw[aAV hf] at hg;rcases List.mem_append.1 hg with hg|hg
 .exact h2 g hg
 simp at hg;subst hg;exact hfe
theorem PutAt.len{e:Ed}{es xs:List Ed}{i:Nat}{p:Bool}(h:PutAt e es i p xs):xs.length<=es.length+1:=by
 have h3:(es.take i).length<=es.length:=by simp;omega
 cases p
 .have h1:xs=es.take i:=h.1;rw[h1];omega
 have h1:xs=aCy e (es.take i):=h.1;have:=aDf e (es.take i);rw[h1];omega
theorem PutAt.fin{e:Ed}{es xs:List Ed}(h:PutAt e es es.length true xs):xs=aCy e es:=by
 have h1:xs=aCy e (es.take es.length):=h.1
 rwa [List.take_length] at h1
theorem PutAt.fin'{e:Ed}{es xs:List Ed}(h:PutAt e es es.length false xs):xs++[e]=aCy e es:=by
 have h1:xs=es.take es.length:=h.1;have h2:∀ g∈es.take es.length,LtE g e:=h.2;rw[List.take_length] at h1 h2;rw[h1,aSD h2]
theorem aBW(A:Option Addr)(es:List Ed)(c:Nat)(e:Ed)(w:World)(lo hi:Nat)(hr:RG w lo hi A es)(hl:es.length<=1000000) :
  Calls Tryz.prog 138 #[.slice A es.length c,e.v] w fun en w'=>∃ A' c',en=.returned (.slice A' (aCy e es).length c')/\OG w' w.heap.size w'.heap.size A' c' (aCy e es)/\Mid 0 0 w w':=by
 have hm0:Mid 0 0 w ((w.alloc (.cells #[.int .i64 e.a,.int .i64 e.l,.int .i64 e.b] 110)).alloc (.cells #[] 110)):=(Mid.alloc _ _).trans (Mid.alloc _ _);have B0:=(Box.new w #[.int .i64 e.a,.int .i64 e.l,.int .i64 e.b] 110).mid (Mid.alloc _ (.cells #[] 110)) oZr;have O0:=aAi (w.alloc (.cells #[.int .i64 e.a,.int .i64 e.l,.int .i64 e.b] 110)) 110 3;rw[World.size_alloc] at O0;go_enter Tryz.func138,Tryz.ntmps138
 go_wp2_with fail;go_loopw [5,6,7,8] (fun out pl i _ wr=>∃(k:Nat) (p:Bool) (A1:Option Addr) (c1 n1:Nat) (xs:List Ed),k<=es.length/\i=.int .i64 k/\pl=.bool p/\out=.slice A1 n1 c1/\Hid (PutAt e es k p xs)/\Hid (xs.length=n1) /\
   wr.ownsRow (w.heap.size+1) 110 3 (.slice A1 n1 c1) n1 (aAd (edI xs))/\Box wr w.heap.size [.int .i64 e.a,.int .i64 e.l,.int .i64 e.b]/\Mid 0 0 w wr/\w.heap.size+1<=wr.heap.size) (fun _ _ i _ _=>es.length - (intOf i).toNat)
 case atStart=>exact⟨0,false,_,0,0,[],oZ,rfl,rfl,rfl,oH (PutAt.zero e es),oH rfl,O0,B0,hm0,by simp⟩
 obtain⟨k,p,A1,c1,n1,xs,hk,rfl,rfl,rfl,HP,HN,hown,bx,hm,hsz⟩:=hrel;have hn1:n1<=1000001:=by have:=HP.out.len;have:=HN.out;omega
 obtain⟨E0,E1,E2⟩:=bx.c3 rfl;by_cases hlt:k<es.length
 .have hrm:=hr.mid hm oZl
  obtain⟨B,off,f,rfl, -,hbh,he,c0,cc1,c2⟩:=hrm.ed hlt;have zb:B<wr.heap.size:=Nat.lt_of_lt_of_le hbh hrm.1;have e0:=aAb bx.1 E0;have e1:=aAb bx.1 E1;have e2:=aAb bx.1 E2;have f0:=aAb zb c0;have f1:=aAb zb cc1;have f2:=aAb zb c2;have hk0:(0:Int)<=(k:Int):=by omega
  have hkn:(k:Int)<(es.length:Int):=by omega
  obtain⟨v,hv⟩:∃ v,aEv e f=v:=⟨_,rfl⟩
  have hQ:=fun W=>aEo e f W;rw[hv] at hQ;have HV:=oH hv;have HE:=oH he;have HB:Hid (B<wr.heap.size/\B<w.heap.size+1):=oH ⟨zb,by have:=hr.1;omega⟩;have C0:=oH c0;have C1:=oH cc1;have C2:=oH c2;clear hv he c0 cc1 c2 E0 E1 E2;go_wp2_with fail;refine wqg ?_;repeat
   (with_reducible refine wpQuiet_step (fun K hK=>?_))
   go_simp
   first|(with_reducible refine hK _ ?_)|(rw[if_neg (by decide)];(with_reducible refine hK _ ?_))|(apply Exists.intro;refine⟨fun _=>?_,hK _ ?_⟩;((go_at_call 206;exact Calls.wg_of (hQ _))))
   clear hK K
  with_reducible refine wpQuiet_nil ?_
  rintro _ ⟨⟨nq,osq⟩,rfl⟩;have hw:=Mid.ofWg wr nq osq;have hw2:=aRI wr nq osq;have hmw:=hm.trans hw;have bxw:=bx.mid hw oZr;have hownw:=aAc hown hw oZl;have hszw:w.heap.size+1<=(wg wr nq osq).heap.size:=by omega
  have g0:=aAa hw zb oZr C0.out;have g1:=aAa hw zb oZr C1.out;have g2:=aAa hw zb oZr C2.out;clear hw2 e0 e1 e2 f0 f1 f2 hQ hrm hown bx hm zb hw C0 C1 C2;have HB:=oH (show B<(wg wr nq osq).heap.size/\B<w.heap.size+1 from⟨by have:=HB.out.1;have:=aRI wr nq osq;omega,HB.out.2⟩);generalize wg wr nq osq=wx at hmw bxw hownw hszw g0 g1 g2 HB |-;obtain⟨e0,e1,e2⟩:=bxw.c3 rfl;cases p
  .have HW:=oH hownw
   clear hownw;rcases(by omega:v=0 \/ v<0 \/ 0<v) with hv|hv|hv
   .subst hv
    go_wp2_with (at_builtin;refine aCq rfl _ _ rfl (w.heap.size+1) A1 n1 c1 xs rfl HW.out f rfl (by omega) hszw ?_;intro A2 c2 w2 hown2 hm2)
    go_roundw
    case rel=>exact⟨k+1,true,A2,c2,n1+1,xs++[f],by omega,by go_num,rfl,rfl,oH (HP.out.eq HE.out HV.out),oH (by rw[List.length_append,HN.out];rfl),hown2,bxw.mid hm2 (Or.inl oS),hmw.transNew hm2 (Or.inl (Nat.le_succ _)),Nat.le_trans hszw hm2.size⟩
    simp[intOf];omega
   .have hv1:(v == 0)=false:=by simp only[beq_eq_false_iff_ne];omega
    have hvl:decide (v<0)=true:=by simpa using hv
    go_wp2_with (first|(at_builtin;refine aCq rfl _ _ rfl (w.heap.size+1) A1 n1 c1 xs rfl HW.out e rfl (by omega) hszw ?_;intro A2 c2 w2 hown2 hm2;have g0':=aAa hm2 HB.out.1 (Or.inl HB.out.2) g0;have g1':=aAa hm2 HB.out.1 (Or.inl HB.out.2) g1;have g2':=aAa hm2 HB.out.1 (Or.inl HB.out.2) g2;have hsz2:=Nat.le_trans hszw hm2.size;have HW2:=oH hown2;clear hown2)|(at_builtin;refine aCq rfl _ _ rfl (w.heap.size+1) A2 (n1+1) c2 (xs++[e]) rfl HW2.out f rfl (by omega) hsz2 ?_;intro A3 c3 w3 hown3 hm3))
    go_roundw
    case rel=>exact⟨k+1,true,A3,c3,n1+1+1,xs++[e]++[f],by omega,by go_num,rfl,rfl,oH (HP.out.lt HE.out (by rw[HV.out];exact hv)),oH (by rw[List.length_append,List.length_append,HN.out];rfl),hown3,(bxw.mid hm2 (Or.inl oS)).mid hm3 (Or.inl oS),(hmw.transNew hm2 (Or.inl (Nat.le_succ _))).transNew hm3 (Or.inl (Nat.le_succ _)),Nat.le_trans hsz2 hm3.size⟩
    simp[intOf];omega
   have hv1:(v == 0)=false:=by simp only[beq_eq_false_iff_ne];omega
   have hvl:decide (v<0)=false:=by simp;omega
   go_wp2_with (at_builtin;refine aCq rfl _ _ rfl (w.heap.size+1) A1 n1 c1 xs rfl HW.out f rfl (by omega) hszw ?_;intro A2 c2 w2 hown2 hm2)
   go_roundw
   case rel=>exact⟨k+1,false,A2,c2,n1+1,xs++[f],by omega,by go_num,rfl,rfl,oH (HP.out.gt HE.out (by rw[HV.out];exact hv)),oH (by rw[List.length_append,HN.out];rfl),hown2,bxw.mid hm2 (Or.inl oS),hmw.transNew hm2 (Or.inl (Nat.le_succ _)),Nat.le_trans hszw hm2.size⟩
   simp[intOf];omega
  have HW:=oH hownw;clear hownw;rcases(by omega:v=0 \/ v<0 \/ 0<v) with hv|hv|hv
  focus
   subst hv
  rotate_left
  focus
   have hv1:(v == 0)=false:=by simp only[beq_eq_false_iff_ne];omega
  rotate_left
  focus
   have hv1:(v == 0)=false:=by simp only[beq_eq_false_iff_ne];omega
  rotate_left
  all_goals
   go_wp2_with (at_builtin;refine aCq rfl _ _ rfl (w.heap.size+1) A1 n1 c1 xs rfl HW.out f rfl (by omega) hszw ?_;intro A2 c2 w2 hown2 hm2)
   go_roundw
   case rel=>exact⟨k+1,true,A2,c2,n1+1,xs++[f],by omega,by go_num,rfl,rfl,oH (HP.out.on HE.out),oH (by rw[List.length_append,HN.out];rfl),hown2,bxw.mid hm2 (Or.inl oS),hmw.transNew hm2 (Or.inl (Nat.le_succ _)),Nat.le_trans hszw hm2.size⟩
   simp[intOf];omega
 obtain rfl:k=es.length:=by omega
 cases p
 .have HW:=oH hown
  go_wp2_with (at_builtin;refine aCq rfl _ _ rfl (w.heap.size+1) A1 n1 c1 xs rfl HW.out e rfl (by omega) hsz ?_;intro A2 c2 w2 hown2 hm2)
  have hx:=HP.out.fin';go_wp2_with fail;go_ret;obtain⟨A3,c3,hv,hn,ho⟩:=OG.mk' hown2;injection hv with hv1 hv2 hv3
  subst hv1 hv3;rw[hx] at ho hn;exact⟨_,_,(by rw[hn];rfl),ho.wide (by omega) oN oN,hm.transNew hm2 (Or.inl (by omega))⟩
 go_wp2_with fail;go_ret;have hx:=HP.out.fin;obtain⟨A2,c2,hv,hn,ho⟩:=OG.mk' hown;injection hv with hv1 hv2 hv3
 subst hv1 hv3;rw[hx] at ho hn;exact⟨_,_,(by rw[hn];rfl),ho.wide (by omega) oN oN,hm⟩
end
section
open Go.RowKit
section
variable {P:Program} {ops:Array Oper} {Q:Exit->Act->World->Prop} {md:Region.Mode} {S:World->Prop} {z:Nat}
def aDG(P:Program)(md:Region.Mode)(ops:Array Oper)(Q:Exit->Act->World->Prop)(S:World->Prop)(z:Nat):Nat->Array Bool->Act->World->Prop
|0,listed,a,w=>Region.ready md ops listed=[]/\Q .normal a w
|fuel+1,listed,a,w=>
  (Region.ready md ops listed=[]->Q .normal a w) /\
  ∀ i∈Region.ready md ops listed,wpOp P ops Q i (fun a' w'=>(i=z \/ S w')/\aDG P md ops Q S z fuel (listed.setIfInBounds i true) a' w') a w
theorem aKn:∀(fuel:Nat) (listed:Array Bool) (a:Act) (w:World),aDG P md ops Q S z fuel listed a w->wpAny P md ops Q fuel listed a w
|0,_,_,_,h=>h
|fuel+1,_,_,_,h=>⟨h.1,fun i hi=>wpOp_mono (fun a' w' h'=>aKn fuel _ a' w' h'.2) (h.2 i hi)⟩
theorem aSx{i:Nat}{listed:Array Bool}(hz:Region.waitsFor md ops z i=true)(hun:listed.getD i true=false):z ∉ Region.ready md ops listed:=by
 intro hr;obtain⟨-,oz,hoz,hall⟩:=mem_ready.1 hr;obtain⟨oz',hoz',e,he,hb,hon⟩:=Region.waitsFor_spec hz;obtain rfl:oz'=oz:=Option.some.inj (hoz'.symm.trans hoz);have h1:=hall e he hb;rw[hon,getD_both hun] at h1;cases h1
theorem aMy{i:Nat}{oi:Oper}{v:Value}(hi:ops[i]?=some oi)(hsel:∀(j:Nat) (o:Oper) cs b,ops[j]?=some o->o.op≠.select cs b)(hQ:∀ c a w,Q (.panic c) (a.put oi.dst v) w->Q (.panic c) a w)(hz:Region.waitsFor md ops z i=true) :
  ∀(fuel:Nat) (listed:Array Bool) (a:Act) (w:World),
   (∀ j oj,ops[j]?=some oj->j≠i->listed.getD j true=false->(∀ e∈oj.after,Region.binds md e=true->e.on≠i)->oi.apart ops oj=true) ->
   i∈Region.ready md ops listed->YieldsIf P ops S oi v a->S w ->
   aDG P md ops Q S z fuel (listed.setIfInBounds i true) (a.put oi.dst v) w->aDG P md ops Q S z (fuel+1) listed a w:=by
 intro fuel
 induction fuel with
|zero=>
  intro listed a w _ hr hy hS H;refine⟨fun h=>(by rw[h] at hr;cases hr),fun j hj=>?_⟩;by_cases hji:j=i
  .subst hji;exact hy.wpOp hi hS ⟨.inr hS,H⟩
  have:=ready_mono hj hji;rw[H.1] at this;cases this
|succ fuel ih=>
  intro listed a w hfree hr hy hS H;refine⟨fun h=>(by rw[h] at hr;cases hr),fun j hj=>?_⟩;by_cases hji:j=i
  .subst hji;exact hy.wpOp hi hS ⟨.inr hS,H⟩
  have hjz:j≠z:=fun e=>by
   subst e;exact aSx hz (mem_ready.1 hr).1 hj
  have h1:=H.2 j (ready_mono hj hji);obtain⟨hjun,oj,hoj,hall⟩:=mem_ready.1 hj;have hnot:∀ e∈oj.after,Region.binds md e=true->e.on≠i:=fun e he hb heq=>by
   have h1:=hall e he hb;have h0:=(mem_ready.1 hr).1;rw[heq] at h1;rcases Nat.lt_or_ge i listed.size with h'|h'
   .simp[h'] at h0 h1;rw[h0] at h1;cases h1
   .simp[Array.getElem?_eq_none h'] at h1
  have h2:=wpOp_putIf hoj (hfree j oj hoj hji hjun hnot) (fun cs b=>hsel i oi cs b hi) (fun cs b=>hsel j oj cs b hoj) hQ hy h1;have hfree':∀ k ok,ops[k]?=some ok->k≠i->(listed.setIfInBounds j true).getD k true=false ->
    (∀ e∈ok.after,Region.binds md e=true->e.on≠i)->oi.apart ops ok=true:=fun k ok hk hki hun hno=>by
   refine hfree k ok hk hki ?_ hno;by_cases hjk:j=k
   .subst hjk;exact hjun
   .rw[getD_set_ne true hjk] at hun;exact hun
  refine wpOp_mono (fun a' w' h3=>?_) h2;have hS':S w':=h3.2.1.resolve_left hjz;refine⟨.inr hS',ih (listed.setIfInBounds j true) a' w' hfree' (ready_mono hr (Ne.symm hji)) h3.1 hS' ?_⟩;rw[Array.setIfInBounds_comm _ _ hji];exact h3.2.2
theorem aNB{i:Nat}{oi:Oper}{v:Value}{fuel:Nat}{listed:Array Bool}{a:Act}{w:World}(hi:ops[i]?=some oi)(hs:Region.noSelect ops=true)(hf:Region.free md ops listed i=true)(hr:(Region.ready md ops listed).contains i=true)(hz:Region.waitsFor md ops z i=true)(hQ:∀ c a w,Q (.panic c) (a.put oi.dst v) w->Q (.panic c) a w)(hy:YieldsIf P ops S oi v a)(hS:S w)(h:aDG P md ops Q S z fuel (listed.setIfInBounds i true) (a.put oi.dst v) w):aDG P md ops Q S z (fuel+1) listed a w:=
 aMy hi (Region.noSelect_spec hs) hQ hz fuel listed a w (Region.free_spec hi hf) (by simpa using hr) hy hS h
def AllReadyT(P:Program)(md:Region.Mode)(ops:Array Oper)(Q:Exit->Act->World->Prop)(S:World->Prop)(z fuel:Nat)(listed:Array Bool)(a:Act)(w:World)(rs:List Nat):Prop:=
 ∀ i∈rs,wpOp P ops Q i (fun a' w'=>(i=z \/ S w')/\aDG P md ops Q S z fuel (listed.setIfInBounds i true) a' w') a w
theorem AllReadyT.nil{fuel:Nat}{listed:Array Bool}{a:Act}{w:World}:AllReadyT P md ops Q S z fuel listed a w []:=fun _ h=>by cases h
theorem AllReadyT.cons{fuel:Nat}{listed:Array Bool}{a:Act}{w:World}{i:Nat}{o:Oper}{rs:List Nat}(ho:ops[i]?=some o)(h:∀ K':Act->World->Prop,Shut (∀ a w,(i=z \/ S w)->((i=z \/ S w)->aDG P md ops Q S z fuel (listed.setIfInBounds i true) a w)->K' a w)->if Region.wanted o (yielded ops a.tmps)=true then Oper.wp P o a w K' Q else K' (a.put o.dst undef) w)(hs:AllReadyT P md ops Q S z fuel listed a w rs):AllReadyT P md ops Q S z fuel listed a w (i::rs):=fun j hj=>by
 rcases List.mem_cons.1 hj with rfl|hj
 .exact wpOp_step ho (fun K' hK=>h K' (fun a w hS hW=>hK a w ⟨hS,hW hS⟩))
 .exact hs j hj
theorem aMz{rs:List Nat}{fuel:Nat}{listed:Array Bool}{a:Act}{w:World}(hr:Region.ready md ops listed=rs)(hne:rs≠[])(h:AllReadyT P md ops Q S z fuel listed a w rs):aDG P md ops Q S z (fuel+1) listed a w:=
 ⟨fun h0=>absurd (hr.symm.trans h0) hne,fun i hi=>h i (hr ▸ hi)⟩
theorem aAE{listed:Array Bool}{a:Act}{w:World}(hr:Region.ready md ops listed=[])(h:Q .normal a w):∀ fuel,aDG P md ops Q S z fuel listed a w
|0=>⟨hr,h⟩
|_+1=>⟨fun _=>h,by rw[hr];simp⟩
theorem aAB{id:Nat}{a:Act}{w:World}(z:Nat)(hm:P.follows .mixedOrders=true)(hS:S w.drew)(h:aDG P .any ops Q S z ops.size (Array.replicate ops.size false) a w.drew):(Code.region id ops true).wp P Q a w:=
 wp_region_any hm (aKn _ _ _ _ h)
end
end
section
variable {P:Program} {ops:Array Oper} {Q:Exit->Act->World->Prop} {md:Region.Mode} {S:World->Prop} {z:Nat}
theorem tkT(i:Nat){oi:Oper}{v:Value}{fuel:Nat}{listed:Array Bool}{a:Act}{w:World}(hi:ops[i]?=some oi)(hS:S w)(h:aDG P md ops Q S z fuel (listed.setIfInBounds i true) (a.put oi.dst v) w)(hs:Region.noSelect ops=true:=by kernel_rfl)(hf:Region.free md ops listed i=true:=by kernel_rfl)(hr:(Region.ready md ops listed).contains i=true:=by kernel_rfl)(hz:Region.waitsFor md ops z i=true:=by kernel_rfl)(hy:∀ w,S w->(execOp a.eval oi).run P w=.ok (.value v) w:=by intro w hSw;(try dsimp only at hSw);go_simp;try with_reducible rfl)(hQ:∀ c a w,Q (.panic c) (a.put oi.dst v) w->Q (.panic c) a w:=by exact fun _ _ _ h=>h)(hw:Region.wanted oi (yielded ops a.tmps)=true:=by rfl):aDG P md ops Q S z (fuel+1) listed a w:=
 aNB hi hs hf hr hz hQ (Or.inl ⟨hw,hy⟩) hS h
theorem rdT(i:Nat){fuel:Nat}{listed:Array Bool}{a:Act}{w:World}{o:Oper}(ho:ops[i]?=some o)(h:∀ K':Act->World->Prop,Shut (∀ a w,(i=z \/ S w)->((i=z \/ S w)->aDG P md ops Q S z fuel (listed.setIfInBounds i true) a w)->K' a w)->if Region.wanted o (yielded ops a.tmps)=true then Oper.wp P o a w K' Q else K' (a.put o.dst undef) w)(hr:Region.ready md ops listed=[i]:=by kernel_rfl):aDG P md ops Q S z (fuel+1) listed a w:=aMz hr (by simp) (AllReadyT.cons ho h AllReadyT.nil)
end
section
open Go.RowKit
attribute [local go_sem ↓] Go.wp_at_zero Go.wp_at_succ
theorem aCm{w w':World}{base:Nat}{e:TypeId}{size:Nat}{v:Value}{n:Nat}{xs:List Value}{k:Nat}(h:w.ownsRow base e size v n xs)(hg:w.grownBy w' (some k))(hk:v.ownBlock≠some k):w'.ownsRow base e size v n xs:=
 h.kept hg (by
  cases hv:v.ownBlock with
 |none=>exact .inl rfl
 |some j=>exact .inr fun e=>hk (by rw[hv,e]))
theorem Box.grown{w w':World}{b:Nat}{cs:List Value}{row:Option Nat}(h:Box w b cs)(hg:w.grownBy w' row)(hb:row≠some b):Box w' b cs:=
 ⟨Nat.lt_of_lt_of_le h.1 hg.size,fun i u hu=>(World.cell?_of_block (hg.block b h.1 (fun e=>hb e.symm))).trans (h.2.1 i u hu),fun i=>(World.frozen?_of_block (hg.block b h.1 (fun e=>hb e.symm))).trans (h.2.2 i)⟩
end
section
open Go.RowKit Go.Sort
section
variable {W:World} {ops:Array Oper} {rest:List Oper} {o:Oper} {a:Act} {Q:Exit->Act->World->Prop}
theorem aAv(hgd:o.guard=none)(s x:Operand)(ho:o.op=.call { callee:=.builtin .append,args:=#[s,x],argTypes:=#[44,44] })(lo:Nat)(A:Option Addr)(n c:Nat)(xs:List Int)(hs:a.eval s=.slice A n c)(hown:W.ownsRow lo 3 1 (.slice A n c) n (aAd xs))(y:Int)(hx:a.eval x=.slice (some ⟨W.heap.size,0,none⟩) 1 1)(hn:n<=1048576)(hb:lo<=W.heap.size)(h:∀ A' c' w',w'.ownsRow lo 3 1 (.slice A' (n+1) c') (n+1) (aAd (xs++[y]))->Mid lo W.heap.size W w'->wpList Tryz.prog ops Q rest (a.put o.dst (.slice A' (n+1) c')) w') :
  wpList Tryz.prog ops Q (o::rest) a (W.alloc (.cells #[.int .i64 y] 3)):=by
 refine aAr (news:=[.int .i64 y]) hgd s x 44 ho lo 3 (.int .i64 0) 1 8 aBZ aCg rfl (by decide) (.slice A n c) n (aAd xs) hs hown 1 hx rfl ?_ (by unfold maxLen;omega) (by omega) hb ?_
 .intro u hu
  simp at hu;subst hu
  rfl
 intro v' w' h1 h2 _;obtain⟨A',c',rfl, -, -⟩:=aAg h1;refine h A' c' w' ?_ (Mid.of_grownRow hown h2);rw[aAj];exact h1
end
theorem aLz{es:List Ed}{k:Nat}{e:Ed}(h:es[k]?=some e)(v x:Int):aEt (es.take (k+1)) v x=aEt (es.take k) v x++(aEZ v x e).toList:=by
 rw[aAV h,aEt,List.filterMap_append];cases hd:aEZ v x e <;> simp[aEt,hd]
theorem aIC(v x:Int)(e:Ed):(aEZ v x e=some e.b/\(0<x/\e.l=x/\e.a=v)) \/ (aEZ v x e=some e.a/\¬ (0<x/\e.l=x/\e.a=v)/\(x<0/\e.l = -x/\e.b=v)) \/ (aEZ v x e=none/\¬ (0<x/\e.l=x/\e.a=v)/\¬ (x<0/\e.l = -x/\e.b=v)):=by
 unfold aEZ;split
 .rename_i h1
  exact Or.inl ⟨rfl,h1⟩
 rename_i h1;split
 .rename_i h2
  exact Or.inr (Or.inl ⟨rfl,h1,h2⟩)
 rename_i h2;exact Or.inr (Or.inr ⟨rfl,h1,h2⟩)
theorem aLv(x:Int)(t:List Int):∃ t',Lib.compact (x::t)=x::t':=by
 refine⟨((List.range' 1 t.length).filter (Lib.keeps (x::t).toArray)).map ((x::t).toArray[·]!),?_⟩;unfold Lib.compact Lib.compactUpTo;rw[show(x::t).length=t.length+1 from rfl,List.range_eq_range',List.range'_succ,List.filter_cons,if_pos (Lib.keeps_lt_one _ 0 (by omega)),List.map_cons]
 rfl
theorem aIB(zs:List Int):(Lib.compact zs).length<=zs.length:=by
 unfold Lib.compact Lib.compactUpTo;rw[List.length_map];exact Nat.le_trans (List.length_filter_le _ _) (by simp)
def aKp(es:List Ed)(v x:Int)(zs:List Int):Prop:=(aEt es v x=[]->zs=[])/\(aEt es v x≠[]->∃ t,zs=aAe es v x::t)/\zs.length<=es.length
theorem aNv{l zs:List Int}(hp:zs.Perm l)(hs:zs.Pairwise (·<=·))(hn:l≠[]):∃ t,zs=aIL l::t:=by
 cases zs with
|nil=>exact absurd hp.symm.eq_nil hn
|cons z t=>
  refine⟨t,?_⟩;obtain⟨h1, -⟩:=List.pairwise_cons.1 hs;rw[aGL (x:=z) (hp.mem_iff.1 (by simp)) fun y hy=>?_];rcases List.mem_cons.1 (hp.mem_iff.2 hy) with rfl|h
  .exact Int.le_refl _
  exact h1 y h
theorem aMt(es:List Ed)(v x:Int):aKp es v x (Lib.compact ((aEt es v x).mergeSort fun x y=>decide (x<=y))):=by
 have hp:=List.mergeSort_perm (aEt es v x) (fun x y=>decide (x<=y));have hs:((aEt es v x).mergeSort fun x y=>decide (x<=y)).Pairwise (·<=·):=by
  have:=List.pairwise_mergeSort (le:=fun x y:Int=>decide (x<=y)) (by intro a b c h1 h2;simp at *;omega) (by intro a b;simp;omega) (aEt es v x);exact this.imp fun h=>by simpa using h
 refine⟨fun h=>?_,fun h=>?_,?_⟩
 .rw[h]
  simp[Lib.compact,Lib.compactUpTo]
 .obtain⟨t,ht⟩:=aNv hp hs h
  rw[ht];exact aLv _ _
 have h1:=aIB ((aEt es v x).mergeSort fun x y=>decide (x<=y));have h2:=aIg es v x;rw[hp.length_eq] at h1;omega
theorem aRV(A:Option Addr)(xs:List Int)(n c:Nat)(w:World)(lo:Nat)(hn:xs.length=n)(ho:w.ownsRow lo 3 1 (.slice A n c) n (aAd xs))(hl:n<=1048576) :
  Calls Tryz.prog 249 #[.slice A n c] w fun e w'=>e=.returned (.slice A (Lib.compact xs).length c)/\w'.ownsRow lo 3 1 (.slice A (Lib.compact xs).length c) (Lib.compact xs).length (aAd (Lib.compact xs))/\w.grownBy w' (Value.ownBlock (.slice A n c)):=by
 subst hn;by_cases hv:Value.slice A xs.length c=.slice none 0 0
 .injection hv with h1 h2 h3
  obtain rfl:=List.eq_nil_of_length_eq_zero h2;subst h1 h3;refine(Tryz.slices_Compact_int_empty none 0 w).mono ?_;rintro e w' ⟨rfl,rfl⟩;exact⟨rfl,ho,World.grownBy.refl _ _⟩
 obtain⟨g,cap,he,hb,hg,hn,hm,hz,hH⟩:=Lib.holds_of_ownsRow (enc:=Value.int .i64) (zs:=xs) ho hv;injection he with h1 _ h3
 subst h1 h3;refine(Tryz.slices_Compact_int g 0 c xs w hH (by omega) hn).mono ?_;rintro e w' ⟨rfl,q,rfl⟩;have hle:=aIB xs;have hlen:(Lib.compact xs++List.replicate (xs.length - (Lib.compact xs).length) 0).length=xs.length:=by simp;omega
 have h2:=Lib.ownsRow_putRow (enc:=Value.int .i64) (q:=q) (k:=(Lib.compact xs).length) (ys:=Lib.compact xs++List.replicate (xs.length - (Lib.compact xs).length) 0) ho hlen hle;rw[List.take_left] at h2;refine⟨rfl,h2,?_⟩;refine⟨rfl,rfl,rfl,by simp[putRow,mapBlock,Sort.ahead],fun k hk hne=>?_⟩;have:g≠k:=fun e=>hne (by rw[e];rfl);simp[putRow,mapBlock,Sort.ahead,Array.getElem?_modify,this]
theorem aVg(A:Option Addr)(xs:List Int)(n c:Nat)(w:World)(lo:Nat)(hn:xs.length=n)(ho:w.ownsRow lo 3 1 (.slice A n c) n (aAd xs))(hl:n<=1048576) :
  Calls Tryz.prog 248 #[.slice A n c] w fun e w'=>e=.returned (.tuple #[])/\w'.ownsRow lo 3 1 (.slice A n c) n (aAd (xs.mergeSort fun x y=>decide (x<=y)))/\w.grownBy w' (Value.ownBlock (.slice A n c)):=by
 subst hn;refine(aVf A xs c w lo ho hl).mono ?_;rintro e w' ⟨he,h1,h2⟩;rw[List.length_mergeSort] at h1 h2;exact⟨he,h1,h2⟩
theorem aJs(r s:Int)(A:Option Addr)(es:List Ed)(c:Nat)(v x:Int)(w:World)(lo hi:Nat)(hr:RG w lo hi A es)(hl:es.length<=1000000)(hg:∀ e∈es,1<=e.l/\e.l<=3)(hx1:-9223372036854775808<=x)(hx2:x<=9223372036854775807) :
  Calls Tryz.prog 202 #[.agg #[.int .i64 r,.int .i64 s,.slice A es.length c],.int .i64 v,.int .i64 x] w fun e w'=>∃ A' c' zs,e=.returned (.slice A' zs.length c')/\RV w' 0 w'.heap.size A' (aAd zs)/\aKp es v x zs/\Mid 0 0 w w':=by
 have hm0:Mid 0 0 w ((w.alloc (.cells #[.int .i64 r,.int .i64 s,.slice A es.length c] 35)).alloc (.cells #[] 3)):=(Mid.alloc _ _).trans (Mid.alloc _ _);have B0:=(Box.new w #[.int .i64 r,.int .i64 s,.slice A es.length c] 35).mid (Mid.alloc _ (.cells #[] 3)) oZr;have O0:=aAi (w.alloc (.cells #[.int .i64 r,.int .i64 s,.slice A es.length c] 35)) 3 1;rw[World.size_alloc] at O0;go_enter Tryz.func202,Tryz.ntmps202
 go_wp2_with fail;go_loopw [7,14] (fun out i wr=>∃(k:Nat) (A1:Option Addr) (c1 n1:Nat),k<=es.length/\i=.int .i64 k/\out=.slice A1 n1 c1/\Hid ((aEt (es.take k) v x).length=n1) /\
   wr.ownsRow (w.heap.size+1) 3 1 (.slice A1 n1 c1) n1 (aAd (aEt (es.take k) v x))/\Mid 0 0 w wr/\w.heap.size+1<=wr.heap.size) (fun _ i _=>es.length - (intOf i).toNat)
 case atStart=>exact⟨0,_,0,0,oZ,rfl,rfl,oH (by simp[aEt]),by simpa [aEt,aAd] using O0,hm0,by simp⟩
 obtain⟨k,A1,c1,n1,hk,rfl,rfl,HN,hown,hm,hsz⟩:=hrel;have hn1:n1<=1000000:=by
  have h1:=aIg (es.take k) v x;have h2:=HN.out;simp at h1;omega
 by_cases hlt:k<es.length
 .obtain⟨B,off,e,rfl, -,hbh,he,e0,e1,e2⟩:=(hr.mid hm oZl).ed hlt
  obtain⟨l1,l3⟩:=hg e (List.mem_of_getElem? he);have het:=aLz he v x;have hal:=Mid.alloc wr (.cells #[.int .i64 e.a,.int .i64 e.l,.int .i64 e.b] 110);have hown1:=hown.alloc (.cells #[.int .i64 e.a,.int .i64 e.l,.int .i64 e.b] 110);have hm1:=hm.trans hal;have hsz1:w.heap.size+1<=(wr.alloc (.cells #[.int .i64 e.a,.int .i64 e.l,.int .i64 e.b] 110)).heap.size:=by simp;omega
  have HET:=oH het;have hkn:(k:Int)<(es.length:Int):=by omega
  clear he het;rcases(aIC v x e:(aEZ v x e=some e.b/\(0<x/\e.l=x/\e.a=v)) \/ (aEZ v x e=some e.a/\¬ (0<x/\e.l=x/\e.a=v)/\(x<0/\e.l = -x/\e.b=v)) \/ (aEZ v x e=none/\¬ (0<x/\e.l=x/\e.a=v)/\¬ (x<0/\e.l = -x/\e.b=v))) with⟨hv,h1⟩|⟨hv,h1,h2⟩|⟨hv,h1,h2⟩
  .have HW:=oH hown1
   clear hown hown1;obtain⟨p1,p2,p3⟩:=h1;have b1:decide (0<x)=true:=by simpa using p1
   have b2:(e.l == x)=true:=by simpa using p2
   have b3:(e.a == v)=true:=by simpa using p3
   clear p1 p2 p3;go_wp2_with (at_builtin;refine aAv rfl _ _ rfl (w.heap.size+1) A1 n1 c1 _ rfl HW.out e.b (by rw[World.size_alloc];rfl) (by omega) hsz1 ?_;intro A2 c2 w2 hown2 hm2)
   go_roundw
   case rel=>exact⟨k+1,A2,c2,n1+1,by omega,by go_num,rfl,oH (by rw[HET.out,hv,List.length_append,HN.out];rfl),(by rw[HET.out,hv];exact hown2),hm1.transNew hm2 (Or.inl (Nat.le_succ _)),Nat.le_trans hsz1 hm2.size⟩
   simp[intOf];omega
  .have HW:=oH hown1
   clear hown hown1;obtain⟨p1,p2,p3⟩:=h2;have b1:decide (0<x)=false:=by simp;omega
   have b0:decide (x<0)=true:=by simpa using p1
   have b2:(x == -9223372036854775808)=false:=by simp only[beq_eq_false_iff_ne];omega
   have b2n:(x != -9223372036854775808)=true:=by simp only[bne_iff_ne,ne_eq];omega
   have b4:wrap64 (-x) = -x:=by unfold wrap64;omega
   have b5:(e.l == -x)=true:=by simpa using p2
   have b3:(e.b == v)=true:=by simpa using p3
   clear h1 p1 p2 p3;go_wp2_with (at_builtin;refine aAv rfl _ _ rfl (w.heap.size+1) A1 n1 c1 _ rfl HW.out e.a (by rw[World.size_alloc];rfl) (by omega) hsz1 ?_;intro A2 c2 w2 hown2 hm2)
   go_roundw
   case rel=>exact⟨k+1,A2,c2,n1+1,by omega,by go_num,rfl,oH (by rw[HET.out,hv,List.length_append,HN.out];rfl),(by rw[HET.out,hv];exact hown2),hm1.transNew hm2 (Or.inl (Nat.le_succ _)),Nat.le_trans hsz1 hm2.size⟩
   simp[intOf];omega
  have HW:=oH hown1;clear hown hown1;rcases(by omega:0<x \/ x<0 \/ x=0) with p1|p1|p1
  .have b1:decide (0<x)=true:=by simpa using p1
   have b0:decide (x<0)=false:=by simp;omega
   by_cases p2:e.l=x
   focus
    have b2:(e.l == x)=true:=by simpa using p2
    have b3:(e.a == v)=false:=by simp only[beq_eq_false_iff_ne];exact fun h=>h1 ⟨p1,p2,h⟩
   rotate_left
   focus
    have b2:(e.l == x)=false:=by simpa only[beq_eq_false_iff_ne] using p2
   rotate_left
   all_goals
    clear h1 h2 p1 p2;go_wp2_with fail;go_roundw
    case rel=>exact⟨k+1,A1,c1,n1,by omega,by go_num,rfl,oH (by rw[HET.out,hv];simpa using HN.out),(by rw[HET.out,hv];simpa using HW.out),hm1,hsz1⟩
    simp[intOf];omega
  .have b1:decide (0<x)=false:=by simp;omega
   have b0:decide (x<0)=true:=by simpa using p1
   by_cases p4:x = -9223372036854775808
   .subst p4
    clear h1 h2 p1;go_wp2_with fail;go_roundw
    case rel=>exact⟨k+1,A1,c1,n1,by omega,by go_num,rfl,oH (by rw[HET.out,hv];simpa using HN.out),(by rw[HET.out,hv];simpa using HW.out),hm1,hsz1⟩
    simp[intOf];omega
   have b2:(x == -9223372036854775808)=false:=by simpa only[beq_eq_false_iff_ne] using p4
   have b2n:(x != -9223372036854775808)=true:=by simpa only[bne_iff_ne,ne_eq] using p4
   have b4:wrap64 (-x) = -x:=by unfold wrap64;omega
   by_cases p2:e.l = -x
   focus
    have b5:(e.l == -x)=true:=by simpa using p2
    have b3:(e.b == v)=false:=by simp only[beq_eq_false_iff_ne];exact fun h=>h2 ⟨p1,p2,h⟩
   rotate_left
   focus
    have b5:(e.l == -x)=false:=by simpa only[beq_eq_false_iff_ne] using p2
   rotate_left
   all_goals
    clear h1 h2 p1 p2;go_wp2_with fail;go_roundw
    case rel=>exact⟨k+1,A1,c1,n1,by omega,by go_num,rfl,oH (by rw[HET.out,hv];simpa using HN.out),(by rw[HET.out,hv];simpa using HW.out),hm1,hsz1⟩
    simp[intOf];omega
  subst p1;clear h1 h2;go_wp2_with fail;go_roundw
  case rel=>exact⟨k+1,A1,c1,n1,by omega,by go_num,rfl,oH (by rw[HET.out,hv];simpa using HN.out),(by rw[HET.out,hv];simpa using HW.out),hm1,hsz1⟩
  simp[intOf];omega
 obtain rfl:k=es.length:=by omega
 rw[List.take_length] at HN hown;have hq:=aVg A1 _ n1 c1 wr _ HN.out hown (by omega);have hlen:((aEt es v x).mergeSort fun x y=>decide (x<=y)).length=n1:=by rw[List.length_mergeSort];exact HN.out
 have hst:=aMt es v x;go_wp2_with fail;with_reducible refine(hq).mono ?_
 rintro en w2 ⟨rfl,hown2,hm2⟩;go_wp2_with fail;with_reducible refine(aRV A1 _ n1 c1 w2 _ hlen hown2 (by omega)).mono ?_
 rintro en w3 ⟨rfl,hown3,hm3⟩;have hmm:=hm.transNew (Mid.of_grownRow hown hm2) (Or.inl (by omega));go_wp2_with fail;go_ret;exact⟨A1,c1,_,rfl,(OV.rv (lo:=w.heap.size+1) ⟨oN,hown3,fun g hg=>(hown3.lt g hg).2⟩).wide oZ oN oN,hst,hmm.transNew (Mid.of_grownRow hown2 hm3) (Or.inl (by omega))⟩
theorem aBc(r s:Int)(A:Option Addr)(es:List Ed)(c:Nat)(v x:Int)(w:World)(lo hi:Nat)(hr:RG w lo hi A es)(hl:es.length<=1000000)(hg:∀ e∈es,1<=e.l/\e.l<=3)(hx1:-9223372036854775808<=x)(hx2:x<=9223372036854775807) :
  Calls Tryz.prog 135 #[.agg #[.int .i64 r,.int .i64 s,.slice A es.length c],.int .i64 v,.int .i64 x] w fun e w'=>e=.returned (.int .i64 (aAe es v x))/\Mid 0 0 w w':=by
 go_enter Tryz.func135,Tryz.ntmps135
 have hal:=Mid.alloc w (.cells #[.int .i64 r,.int .i64 s,.slice A es.length c] 35);go_wp2_with fail;with_reducible refine(aJs r s A es c v x _ lo hi (hr.mid hal oZl) hl hg hx1 hx2).mono ?_
 rintro en w2 ⟨A2,c2,zs,rfl,hrv,⟨h1,h2,h3⟩,hm⟩;have hm:=hal.trans hm;generalize hn:zs.length=n;by_cases h0:aEt es v x=[]
 .obtain rfl:n=0:=by rw[<- hn,h1 h0];rfl
  go_wp2_with fail;go_ret;exact⟨by rw[aFw h0];rfl,hm⟩
 obtain⟨t,ht⟩:=h2 h0;obtain⟨g,off,rfl, -, -,hc⟩:=hrv.2 (by rw[ht];simp[aAd]);have c0:=hc 0 (.int .i64 (aAe es v x)) (by rw[ht];simp[aAd]);rw[Nat.add_zero] at c0;have hn0:0<n:=by rw[<- hn,ht];simp
 have hz:((n:Int) == 0)=false:=by simp only[beq_eq_false_iff_ne];omega
 have hp:(0:Int)<(n:Int):=by omega
 clear hn ht hc h1 h2 h3 hrv;go_wp2_with fail;go_ret;exact⟨rfl,hm⟩
end
section
open Go.RowKit
def aCN(x:Int):List Int->List Int
|[]=>[x]
|y::t=>if x<y then x::y::t else if x=y then y::t else y::aCN x t
theorem aBV{x y:Int}{l:List Int}:y∈aCN x l↔y=x \/ y∈l:=by
 induction l with
|nil=>simp[aCN]
|cons z t ih=>
  rw[aCN];split
  .simp
  split
  .rename_i h
   subst h;simp
  rw[List.mem_cons,ih,List.mem_cons];constructor
  .rintro(h|h|h)
   .exact .inr (.inl h)
   .exact .inl h
   exact .inr (.inr h)
  rintro(h|h|h)
  .exact .inr (.inl h)
  .exact .inl h
  exact .inr (.inr h)
theorem aDz{x:Int}{l:List Int}(h:l.Pairwise (·<·)):(aCN x l).Pairwise (·<·):=by
 induction l with
|nil=>simp[aCN]
|cons z t ih=>
  obtain⟨h1,h2⟩:=List.pairwise_cons.1 h;rw[aCN];split
  .rename_i hlt
   refine List.pairwise_cons.2 ⟨fun y hy=>?_,h⟩;rcases List.mem_cons.1 hy with rfl|hy
   .exact hlt
   have:=h1 y hy;omega
  split
  .exact h
  refine List.pairwise_cons.2 ⟨fun y hy=>?_,ih h2⟩;rcases aBV.1 hy with rfl|hy
  .omega
  exact h1 y hy
theorem aKX(x:Int)(l:List Int):(aCN x l).length<=l.length+1:=by
 induction l with
|nil=>simp[aCN]
|cons z t ih=>
  rw[aCN];split
  .simp
  split
  .simp
  simp;omega
theorem aSE{x:Int}{xs:List Int}(h:∀ y∈xs,y<x):aCN x xs=xs++[x]:=by
 induction xs with
|nil=>rfl
|cons y t ih=>
  have hy:=h y (by simp);rw[aCN,if_neg (by omega),if_neg (by omega),ih fun f hf=>h f (by simp[hf])]
  rfl
theorem aRq{x:Int}{xs:List Int}(h:∀ y∈xs,y<x):aCN x (xs++[x])=xs++[x]:=by
 induction xs with
|nil=>simp[aCN]
|cons y t ih=>
  have hy:=h y (by simp);rw[List.cons_append,aCN,if_neg (by omega),if_neg (by omega),ih fun f hf=>h f (by simp[hf])]
theorem aPv{x f:Int}{xs:List Int}(h:∀ y∈xs,y<x)(hf:x<f):aCN x (xs++[f])=xs++[x]++[f]:=by
 induction xs with
|nil=>simp[aCN,hf]
|cons y t ih=>
  have hy:=h y (by simp);rw[List.cons_append,aCN,if_neg (by omega),if_neg (by omega),ih fun f hf=>h f (by simp[hf])];simp
theorem aRp{x f:Int}{xs:List Int}(h:∃ y∈xs,¬ y<x):aCN x (xs++[f])=aCN x xs++[f]:=by
 induction xs with
|nil=>obtain⟨g,hg, -⟩:=h;simp at hg
|cons y t ih=>
  rw[List.cons_append,aCN,aCN];split
  .simp
  split
  .simp
  rename_i h1 h2;rw[ih]
  .simp
  obtain⟨g',hg',hn⟩:=h;rcases List.mem_cons.1 hg' with rfl|hg'
  .omega
  exact⟨g',hg',hn⟩
theorem aBu{l:List Int}{k:Nat}{x:Int}(h:l[k]?=some x):l.take (k+1)=l.take k++[x]:=by
 obtain⟨hk,h'⟩:=List.getElem?_eq_some_iff.1 h;rw[List.take_succ_eq_append_getElem hk,h']
def AddAt(x:Int)(l:List Int)(i:Nat)(p:Bool)(xs:List Int):Prop:=
 if p=true then xs=aCN x (l.take i)/\∃ y∈l.take i,¬ y<x else xs=l.take i/\∀ y∈l.take i,y<x
section
variable {x f:Int} {l xs:List Int} {i:Nat}
theorem AddAt.zero(x:Int)(l:List Int):AddAt x l 0 false []:=⟨by simp,by simp⟩
theorem AddAt.on(h:AddAt x l i true xs)(hf:l[i]?=some f):AddAt x l (i+1) true (xs++[f]):=by
 obtain⟨h1,h2⟩:=h;refine⟨by rw[aBu hf,aRp h2,h1],?_⟩;obtain⟨g,hg,hn⟩:=h2;exact⟨g,by rw[aBu hf];simp[hg],hn⟩
theorem AddAt.eq(h:AddAt x l i false xs)(hf:l[i]?=some f)(hc:f=x):AddAt x l (i+1) true (xs++[f]):=by
 obtain⟨h1,h2⟩:=h;subst hc;exact⟨by rw[aBu hf,aRq h2,h1],f,by rw[aBu hf];simp,by omega⟩
theorem AddAt.lt(h:AddAt x l i false xs)(hf:l[i]?=some f)(hc:x<f):AddAt x l (i+1) true (xs++[x]++[f]):=by
 obtain⟨h1,h2⟩:=h;exact⟨by rw[aBu hf,aPv h2 hc,h1],f,by rw[aBu hf];simp,by omega⟩
theorem AddAt.gt(h:AddAt x l i false xs)(hf:l[i]?=some f)(hc:f<x):AddAt x l (i+1) false (xs++[f]):=by
 obtain⟨h1,h2⟩:=h;refine⟨by rw[aBu hf,h1],fun g hg=>?_⟩;rw[aBu hf] at hg;rcases List.mem_append.1 hg with hg|hg
 .exact h2 g hg
 simp at hg;subst hg;exact hc
theorem AddAt.len{p:Bool}(h:AddAt x l i p xs):xs.length<=l.length+1:=by
 have h3:(l.take i).length<=l.length:=by simp;omega
 cases p
 .have h1:xs=l.take i:=h.1;rw[h1];omega
 have h1:xs=aCN x (l.take i):=h.1;have:=aKX x (l.take i);rw[h1];omega
theorem AddAt.fin(h:AddAt x l l.length true xs):xs=aCN x l:=by
 have h1:xs=aCN x (l.take l.length):=h.1
 rwa [List.take_length] at h1
theorem AddAt.fin'(h:AddAt x l l.length false xs):xs++[x]=aCN x l:=by
 have h1:xs=l.take l.length:=h.1;have h2:∀ g∈l.take l.length,g<x:=h.2;rw[List.take_length] at h1 h2;rw[h1,aSE h2]
end
theorem RV.at{w:World}{lo hi:Nat}{A:Option Addr}{l:List Int}{k:Nat}(h:RV w lo hi A (aAd l))(hk:k<l.length) :
  ∃ b off f,A=some ⟨b,off,none⟩/\b<hi/\l[k]?=some f/\w.cell? ⟨b,off+k,none⟩=some (.int .i64 f):=by
 obtain⟨b,off,rfl, -,hb,hc⟩:=h.2 (by intro h;simp[aAd] at h;subst h;simp at hk);exact⟨b,off,l[k],rfl,hb,List.getElem?_eq_getElem hk,hc k _ (by simp[aAd,hk])⟩
theorem aAy{w:World}{lo n c:Nat}{A:Option Addr}{e:TypeId}{size:Nat}{cs:List Value}(h:w.ownsRow lo e size (.slice A n c) n cs):RV w lo w.heap.size A cs:=
 OV.rv (c:=c) (n:=n) (e:=e) (size:=size) ⟨oN,h,fun g hg=>(h.lt g hg).2⟩
theorem aEp(A:Option Addr)(l:List Int)(c:Nat)(x:Int)(w:World)(lo hi:Nat)(hr:RV w lo hi A (aAd l))(hl:l.length<=1000000) :
  Calls Tryz.prog 247 #[.slice A l.length c,.int .i64 x] w fun en w'=>∃ A' c',en=.returned (.slice A' (aCN x l).length c')/\RV w' 0 w'.heap.size A' (aAd (aCN x l))/\Mid 0 0 w w':=by
 have hm0:Mid 0 0 w (w.alloc (.cells #[] 3)):=Mid.alloc _ _;have O0:=aAi w 3 1;go_enter Tryz.func247,Tryz.ntmps247
 go_wp2_with fail;go_loopw [5,6,7] (fun out pl i wr=>∃(k:Nat) (p:Bool) (A1:Option Addr) (c1 n1:Nat) (xs:List Int),k<=l.length/\i=.int .i64 k/\pl=.bool p/\out=.slice A1 n1 c1/\Hid (AddAt x l k p xs)/\Hid (xs.length=n1) /\
   wr.ownsRow w.heap.size 3 1 (.slice A1 n1 c1) n1 (aAd xs)/\Mid 0 0 w wr/\w.heap.size<=wr.heap.size) (fun _ _ i _=>l.length - (intOf i).toNat)
 case atStart=>exact⟨0,false,_,0,0,[],oZ,rfl,rfl,rfl,oH (AddAt.zero x l),oH rfl,O0,hm0,hm0.size⟩
 obtain⟨k,p,A1,c1,n1,xs,hk,rfl,rfl,rfl,HP,HN,hown,hm,hsz⟩:=hrel;have hn1:n1<=1000001:=by have:=HP.out.len;have:=HN.out;omega
 by_cases hlt:k<l.length
 .obtain⟨B,off,f,rfl,hbh,he,c0⟩:=(hr.mid hm oZl).at hlt
  have hk0:(0:Int)<=(k:Int):=by omega
  have hkn:(k:Int)<(l.length:Int):=by omega
  have HE:=oH he;have HB:B<wr.heap.size/\B<w.heap.size:=by have:=hr.1;omega
  have HW:=oH hown;clear he hown;cases p
  .rcases(by omega:f=x \/ f<x \/ x<f) with hv|hv|hv
   .subst hv
    go_wp2_with (at_builtin;refine aAv rfl _ _ rfl w.heap.size A1 n1 c1 xs rfl HW.out f rfl (by omega) hsz ?_;intro A2 c2 w2 hown2 hm2)
    go_roundw
    case rel=>exact⟨k+1,true,A2,c2,n1+1,xs++[f],by omega,by go_num,rfl,rfl,oH (HP.out.eq HE.out rfl),oH (by rw[List.length_append,HN.out];rfl),hown2,hm.transNew hm2 (Or.inl oN),Nat.le_trans hsz hm2.size⟩
    simp[intOf];omega
   .have b1:(f == x)=false:=by simp only[beq_eq_false_iff_ne];omega
    have b2:decide (x<f)=false:=by simp;omega
    go_wp2_with (at_builtin;refine aAv rfl _ _ rfl w.heap.size A1 n1 c1 xs rfl HW.out f rfl (by omega) hsz ?_;intro A2 c2 w2 hown2 hm2)
    go_roundw
    case rel=>exact⟨k+1,false,A2,c2,n1+1,xs++[f],by omega,by go_num,rfl,rfl,oH (HP.out.gt HE.out hv),oH (by rw[List.length_append,HN.out];rfl),hown2,hm.transNew hm2 (Or.inl oN),Nat.le_trans hsz hm2.size⟩
    simp[intOf];omega
   have b1:(f == x)=false:=by simp only[beq_eq_false_iff_ne];omega
   have b2:decide (x<f)=true:=by simpa using hv
   go_wp2_with (first|(at_builtin;refine aAv rfl _ _ rfl w.heap.size A1 n1 c1 xs rfl HW.out x rfl (by omega) hsz ?_;intro A2 c2 w2 hown2 hm2;have c0':=aAa hm2 HB.1 (Or.inl HB.2) c0;have hsz2:=Nat.le_trans hsz hm2.size;have HW2:=oH hown2;clear hown2)|(at_builtin;refine aAv rfl _ _ rfl w.heap.size A2 (n1+1) c2 (xs++[x]) rfl HW2.out f rfl (by omega) hsz2 ?_;intro A3 c3 w3 hown3 hm3))
   go_roundw
   case rel=>exact⟨k+1,true,A3,c3,n1+1+1,xs++[x]++[f],by omega,by go_num,rfl,rfl,oH (HP.out.lt HE.out hv),oH (by rw[List.length_append,List.length_append,HN.out];rfl),hown3,(hm.transNew hm2 (Or.inl oN)).transNew hm3 (Or.inl oN),Nat.le_trans hsz2 hm3.size⟩
   simp[intOf];omega
  rcases(by omega:f=x \/ f<x \/ x<f) with hv|hv|hv
  focus
   have b1:(f == x)=true:=by simpa using hv
   have b2:decide (x<f)=false:=by simp;omega
  rotate_left
  focus
   have b1:(f == x)=false:=by simp only[beq_eq_false_iff_ne];omega
   have b2:decide (x<f)=false:=by simp;omega
  rotate_left
  focus
   have b1:(f == x)=false:=by simp only[beq_eq_false_iff_ne];omega
   have b2:decide (x<f)=true:=by simpa using hv
  rotate_left
  all_goals
   clear hv;go_wp2_with (at_builtin;refine aAv rfl _ _ rfl w.heap.size A1 n1 c1 xs rfl HW.out f rfl (by omega) hsz ?_;intro A2 c2 w2 hown2 hm2)
   go_roundw
   case rel=>exact⟨k+1,true,A2,c2,n1+1,xs++[f],by omega,by go_num,rfl,rfl,oH (HP.out.on HE.out),oH (by rw[List.length_append,HN.out];rfl),hown2,hm.transNew hm2 (Or.inl oN),Nat.le_trans hsz hm2.size⟩
   simp[intOf];omega
 obtain rfl:k=l.length:=by omega
 have hsz':=hm.size;cases p
 .have HW:=oH hown
  go_wp2_with (at_builtin;refine aAv rfl _ _ rfl w.heap.size A1 n1 c1 xs rfl HW.out x rfl (by omega) hsz ?_;intro A2 c2 w2 hown2 hm2)
  have hx:=HP.out.fin';have hn:(aCN x l).length=n1+1:=by rw[<- hx,List.length_append,HN.out];rfl
  rw[hx] at hown2;rw[<- hn] at hown2;go_wp2_with fail;go_ret;exact⟨_,_,(by rw[hn];rfl),(aAy hown2).wide oZ oN oN,hm.transNew hm2 (Or.inl oN)⟩
 have hx:=HP.out.fin;have hn:=HN.out;rw[hx] at hn hown;go_wp2_with fail;go_ret;exact⟨_,_,(by rw[hn];rfl),(aAy hown).wide oZ oN oN,hm⟩
def aKW(es:List Ed)(v x:Int):List Int:=(aEt es v x).foldl (fun l y=>aCN y l) []
theorem aLF{y:Int}:∀(zs l:List Int),y∈zs.foldl (fun l y=>aCN y l) l↔y∈zs \/ y∈l
|[],l=>by simp
|z::zs,l=>by
  rw[List.foldl_cons,aLF zs,aBV,List.mem_cons];constructor
  .rintro(h|h|h)
   .exact .inl (.inr h)
   .exact .inl (.inl h)
   .exact .inr h
  .rintro((h|h)|h)
   .exact .inr (.inl h)
   .exact .inl h
   .exact .inr (.inr h)
theorem aHF:∀(zs l:List Int),l.Pairwise (·<·)->(zs.foldl (fun l y=>aCN y l) l).Pairwise (·<·)
|[],l,h=>h
|z::zs,l,h=>aHF zs _ (aDz h)
theorem aIG:∀(zs l:List Int),(zs.foldl (fun l y=>aCN y l) l).length<=zs.length+l.length
|[],l=>by simp
|z::zs,l=>by
  have h1:=aIG zs (aCN z l);have h2:=aKX z l;rw[List.foldl_cons,List.length_cons];omega
theorem aNz(es:List Ed)(v x:Int):aKp es v x (aKW es v x):=by
 refine⟨fun h=>by rw[aKW,h];rfl,fun h=>?_,?_⟩
 .have hs:=aHF (aEt es v x) [] List.Pairwise.nil
  have hm:=fun y=>aLF (y:=y) (aEt es v x) [];change ∃ t,(aEt es v x).foldl (fun l y=>aCN y l) []=_;cases hz:(aEt es v x).foldl (fun l y=>aCN y l) [] with
 |nil=>
   rw[hz] at hm;obtain⟨y,t,ht⟩:=List.exists_cons_of_ne_nil h;have:=(hm y).2 (.inl (by rw[ht];simp));simp at this
 |cons z t=>
   rw[hz] at hm hs;refine⟨t,?_⟩;obtain⟨h1, -⟩:=List.pairwise_cons.1 hs;have hzm:z∈aEt es v x:=by simpa using(hm z).1 (by simp)
   have:aAe es v x=aIL (aEt es v x):=rfl;rw[this,aGL hzm fun y hy=>?_];rcases List.mem_cons.1 ((hm y).2 (.inl hy)) with rfl|h'
   .exact Int.le_refl _
   have:=h1 y h';omega
 have h1:=aIG (aEt es v x) [];have h2:=aIg es v x;rw[List.length_nil] at h1;exact Nat.le_trans (by simpa [aKW] using h1) h2
theorem aJz(r s:Int)(A:Option Addr)(es:List Ed)(c:Nat)(v x:Int)(w:World)(lo hi:Nat)(hr:RG w lo hi A es)(hl:es.length<=1000000)(hg:∀ e∈es,1<=e.l/\e.l<=3)(hx1:-9223372036854775808<=x)(hx2:x<=9223372036854775807) :
  Calls Tryz.prog 200 #[.agg #[.int .i64 r,.int .i64 s,.slice A es.length c],.int .i64 v,.int .i64 x] w fun e w'=>∃ A' c' zs,e=.returned (.slice A' zs.length c')/\RV w' 0 w'.heap.size A' (aAd zs)/\aKp es v x zs/\Mid 0 0 w w':=by
 have hm0:Mid 0 0 w ((w.alloc (.cells #[.int .i64 r,.int .i64 s,.slice A es.length c] 35)).alloc (.cells #[] 3)):=(Mid.alloc _ _).trans (Mid.alloc _ _);have B0:=(Box.new w #[.int .i64 r,.int .i64 s,.slice A es.length c] 35).mid (Mid.alloc _ (.cells #[] 3)) oZr;go_enter Tryz.func200,Tryz.ntmps200
 go_wp2_with fail;go_loopw [7,8] (fun out i wr=>∃(k:Nat) (A1:Option Addr) (c1:Nat) (xs:List Int),k<=es.length/\i=.int .i64 k/\out=.slice A1 xs.length c1/\Hid (xs=(aEt (es.take k) v x).foldl (fun l y=>aCN y l) []) /\
   RV wr 0 wr.heap.size A1 (aAd xs)/\Box wr w.heap.size [.int .i64 r,.int .i64 s,.slice A es.length c]/\Mid 0 0 w wr) (fun _ i _=>es.length - (intOf i).toNat)
 case atStart=>exact⟨0,_,0,[],oZ,rfl,rfl,oH (by simp[aEt]),⟨oN,fun h=>absurd rfl h⟩,B0,hm0⟩
 obtain⟨k,A1,c1,xs,hk,rfl,rfl,HX,hrv,bx,hm⟩:=hrel;have hn1:xs.length<=1000000:=by
  have h1:=aIg (es.take k) v x;have h2:=aIG (aEt (es.take k) v x) [];rw[HX.out];simp at h1 h2 |-;omega
 obtain⟨p0,p1,p2⟩:=bx.c3 rfl;by_cases hlt:k<es.length
 .obtain⟨B,off,e,rfl, -,hbh,he,e0,e1,e2⟩:=(hr.mid hm oZl).ed hlt
  obtain⟨l1,l3⟩:=hg e (List.mem_of_getElem? he);have HET:=oH (aLz he v x);have hal:=Mid.alloc wr (.cells #[.int .i64 e.a,.int .i64 e.l,.int .i64 e.b] 110);have hm1:=hm.trans hal;have hrv1:=(hrv.mid hal oZl).wide oN hal.size oN;have B1:=bx.mid hal oZr;have E1:=Box.new wr #[.int .i64 e.a,.int .i64 e.l,.int .i64 e.b] 110;have hkn:(k:Int)<(es.length:Int):=by omega
  clear he;rcases aIC v x e with⟨hv,h1⟩|⟨hv,h1,h2⟩|⟨hv,h1,h2⟩
  .obtain⟨p1,p2,p3⟩:=h1
   have b1:decide (0<x)=true:=by simpa using p1
   have b0:decide (x<0)=false:=by simp;omega
   have b2:(e.l == x)=true:=by simpa using p2
   have b3:(e.a == v)=true:=by simpa using p3
   clear p1 p2 p3;go_wp2_with fail;with_reducible refine(aEp A1 xs c1 e.b _ _ _ hrv1 hn1).mono ?_
   rintro en w2 ⟨A2,c2,rfl,hrv2,hm2⟩;go_wp2_with fail;go_roundw
   case rel=>exact⟨k+1,A2,c2,_,by omega,by go_num,rfl,oH (by rw[HET.out,hv,HX.out,List.foldl_append];rfl),hrv2,B1.mid hm2 oZr,hm1.trans hm2⟩
   simp[intOf];omega
  .obtain⟨p1,p2,p3⟩:=h2
   have b1:decide (0<x)=false:=by simp;omega
   have b0:decide (x<0)=true:=by simpa using p1
   have b4:wrap64 (-x) = -x:=by unfold wrap64;omega
   have b5:(e.l == -x)=true:=by simpa using p2
   have b3:(e.b == v)=true:=by simpa using p3
   clear h1 p1 p2 p3;go_wp2_with fail;with_reducible refine(aEp A1 xs c1 e.a _ _ _ hrv1 hn1).mono ?_
   rintro en w2 ⟨A2,c2,rfl,hrv2,hm2⟩;go_wp2_with fail;go_roundw
   case rel=>exact⟨k+1,A2,c2,_,by omega,by go_num,rfl,oH (by rw[HET.out,hv,HX.out,List.foldl_append];rfl),hrv2,B1.mid hm2 oZr,hm1.trans hm2⟩
   simp[intOf];omega
  rcases(by omega:0<x \/ x<0 \/ x=0) with p1|p1|p1
  .have b1:decide (0<x)=true:=by simpa using p1
   have b0:decide (x<0)=false:=by simp;omega
   by_cases p2:e.l=x
   focus
    have b2:(e.l == x)=true:=by simpa using p2
    have b3:(e.a == v)=false:=by simp only[beq_eq_false_iff_ne];exact fun h=>h1 ⟨p1,p2,h⟩
   rotate_left
   focus
    have b2:(e.l == x)=false:=by simpa only[beq_eq_false_iff_ne] using p2
   rotate_left
   all_goals
    clear h1 h2 p1 p2;go_wp2_with fail;go_roundw
    case rel=>exact⟨k+1,A1,c1,_,by omega,by go_num,rfl,oH (by rw[HET.out,hv,HX.out];simp),hrv1,B1,hm1⟩
    simp[intOf];omega
  .have b1:decide (0<x)=false:=by simp;omega
   have b0:decide (x<0)=true:=by simpa using p1
   by_cases p2:e.l=wrap64 (-x)
   focus
    have b5:(e.l == wrap64 (-x))=true:=by simpa using p2
    have b3:(e.b == v)=false:=by simp only[beq_eq_false_iff_ne];exact fun h=>h2 ⟨p1,by unfold wrap64 at p2;omega,h⟩
   rotate_left
   focus
    have b5:(e.l == wrap64 (-x))=false:=by simpa only[beq_eq_false_iff_ne] using p2
   rotate_left
   all_goals
    clear h1 h2 p1 p2;go_wp2_with fail;go_roundw
    case rel=>exact⟨k+1,A1,c1,_,by omega,by go_num,rfl,oH (by rw[HET.out,hv,HX.out];simp),hrv1,B1,hm1⟩
    simp[intOf];omega
  subst p1;clear h1 h2;go_wp2_with fail;go_roundw
  case rel=>exact⟨k+1,A1,c1,_,by omega,by go_num,rfl,oH (by rw[HET.out,hv,HX.out];simp),hrv1,B1,hm1⟩
  simp[intOf];omega
 obtain rfl:k=es.length:=by omega
 have hst:=aNz es v x;have hx:=HX.out;rw[List.take_length] at hx;rw[aKW,<- hx] at hst;go_wp2_with fail;go_ret;exact⟨_,_,xs,rfl,hrv,hst,hm⟩
theorem aAz(r s:Int)(A:Option Addr)(es:List Ed)(c:Nat)(v x:Int)(w:World)(lo hi:Nat)(hr:RG w lo hi A es)(hl:es.length<=1000000)(hg:∀ e∈es,1<=e.l/\e.l<=3)(hx1:-9223372036854775808<=x)(hx2:x<=9223372036854775807) :
  Calls Tryz.prog 129 #[.agg #[.int .i64 r,.int .i64 s,.slice A es.length c],.int .i64 v,.int .i64 x] w fun e w'=>e=.returned (.int .i64 (aAe es v x))/\Mid 0 0 w w':=by
 go_enter Tryz.func129,Tryz.ntmps129
 have hal:=Mid.alloc w (.cells #[.int .i64 r,.int .i64 s,.slice A es.length c] 35);go_wp2_with fail;with_reducible refine(aJz r s A es c v x _ lo hi (hr.mid hal oZl) hl hg hx1 hx2).mono ?_
 rintro en w2 ⟨A2,c2,zs,rfl,hrv,⟨h1,h2,h3⟩,hm⟩;have hm:=hal.trans hm;generalize hn:zs.length=n;by_cases h0:aEt es v x=[]
 .obtain rfl:n=0:=by rw[<- hn,h1 h0];rfl
  go_wp2_with fail;go_ret;exact⟨by rw[aFw h0];rfl,hm⟩
 obtain⟨t,ht⟩:=h2 h0;obtain⟨g,off,rfl, -, -,hc⟩:=hrv.2 (by rw[ht];simp[aAd]);have c0:=hc 0 (.int .i64 (aAe es v x)) (by rw[ht];simp[aAd]);rw[Nat.add_zero] at c0;have hn0:0<n:=by rw[<- hn,ht];simp
 have hz:((n:Int) == 0)=false:=by simp only[beq_eq_false_iff_ne];omega
 have hp:(0:Int)<(n:Int):=by omega
 clear hn ht hc h1 h2 h3 hrv;go_wp2_with fail;go_ret;exact⟨rfl,hm⟩
end
theorem aKf{R:Ed->Ed->Prop}:∀ {es:List Ed},(∀ i e,es[i]?=some e->∀ f∈es.drop (i+1),R e f)->es.Pairwise R
|[],_=>List.Pairwise.nil
|a::t,h=>List.pairwise_cons.2 ⟨fun f hf=>h 0 a rfl f (by simpa using hf),aKf fun i e he f hf=>h (i+1) e (by simpa using he) f (by simpa using hf)⟩
theorem aTQ{R:Ed->Ed->Prop}{es:List Ed}(h:es.Pairwise R){i:Nat}{e:Ed}(he:es[i]?=some e){f:Ed}(hf:f∈es.drop (i+1)):R e f:=by
 induction es generalizing i with
|nil=>simp at he
|cons a t ih=>
  obtain⟨h1,h2⟩:=List.pairwise_cons.1 h;cases i with
 |zero=>
   obtain rfl:a=e:=by simpa using he
   exact h1 f (by simpa using hf)
 |succ i=>exact ih h2 (by simpa using he) (by simpa using hf)
theorem RG.drop{w:World}{lo hi:Nat}{b off:Nat}{es:List Ed}(h:RG w lo hi (some ⟨b,off,none⟩) es){k:Nat}:RG w lo hi (some ⟨b,off+k * 3,none⟩) (es.drop k):=by
 refine⟨h.1,fun hn=>?_⟩;obtain⟨b',off',hA,h1,h2,hc⟩:=h.2 (fun he=>hn (by
  rw[aAd,List.map_eq_nil_iff] at he |-;rw[aKy,he];exact List.drop_nil))
 injection hA with hA
 injection hA with hA1 hA2
 subst hA1 hA2;refine⟨b,off+k * 3,rfl,h1,h2,fun j u hu=>?_⟩;have:=hc (k * 3+j) u (by
  rw[aAd,aKy,List.map_drop,List.getElem?_drop] at hu;rw[aAd];exact hu)
 rw[show off+k * 3+j=off+(k * 3+j) by omega];exact this
theorem aAR(r s:Int)(A:Option Addr)(es:List Ed)(c:Nat)(w:World)(lo hi:Nat)(hr:RG w lo hi A es)(hl:es.length<=1048576)(hcl:es.length<=c)(b:Bool)(hb:b=true↔IsFol r s es) :
  Calls Tryz.prog 59 #[aAw r s A es.length c] w fun e w'=>e=.returned (.bool b)/\Mid 0 0 w w':=by
 have HB:=oH hb;clear hb;have hm0:Mid 0 0 w (w.alloc (.cells #[.int .i64 r,.int .i64 s,.slice A es.length c] 35)):=Mid.alloc _ _;have B1:=(Box.new w #[.int .i64 r,.int .i64 s,.slice A es.length c] 35)
 obtain⟨b1,hb1⟩:=aAC (IsGr r s es);have H1:=oH hb1;clear hb1;go_enter Tryz.func59,Tryz.ntmps59
 go_wp2_with fail;with_reducible refine(aCj r s A es c _ _ _ (hr.mid hm0 oZl).rv hl b1 H1.out).mono ?_
 rintro en w1 ⟨rfl,hm1⟩;have B1a:=B1.mid hm1 oZr;clear B1;obtain⟨p0,p1,p2⟩:=B1a.c3 rfl;have hm:=hm0.trans hm1;cases b1 with
|false=>
  obtain rfl:b=false:=aBq HB.out fun h=>by have:=H1.out.2 h.gr;cases this
  go_wp2_with fail;go_ret;exact⟨rfl,hm⟩
|true=>
 have G1:=oH (H1.out.1 rfl);go_wp2_with fail;go_loopw [13] (fun i wr=>∃ k:Nat,k<=es.length/\i=.int .i64 k/\Box wr w.heap.size [.int .i64 r,.int .i64 s,.slice A es.length c]/\(∀ i e,i<k->es[i]?=some e->∀ f∈es.drop (i+1),¬ Clash e f)/\Mid 0 0 w wr) (fun i _=>es.length - (intOf i).toNat)
 case atStart=>exact⟨0,oZ,rfl,B1a,fun i e hi=>absurd hi (Nat.not_lt_zero _),hm⟩
 obtain⟨wo,hwo⟩:∃ wo,wo=wr:=⟨_,rfl⟩
 subst hwo;obtain⟨k,hk,rfl,bx,hall,hmr⟩:=hrel;by_cases hlt:k<es.length
 .obtain⟨B,off,e,rfl, -,hbh,he,e0,e1,e2⟩:=(hr.mid hmr oZl).ed hlt
  have hal:=Mid.alloc wo (.cells #[.int .i64 e.a,.int .i64 e.l,.int .i64 e.b] 110);have E1:=Box.new wo #[.int .i64 e.a,.int .i64 e.l,.int .i64 e.b] 110;have hmo:=hmr.trans hal;have B1:=bx.mid hal oZr;obtain⟨q0,q1,q2⟩:=B1.c3 rfl;have hkn:(k:Int)<(es.length:Int):=by omega
  by_cases hck:c=k+1
  .subst hck
   go_wp2_with fail;have hdl:(es.drop (k+1)).length=es.length - (k+1):=List.length_drop;have HE:=oH he;have HA:=oH hall;clear he hall;have HN:Hid (∀ i e',i<k+1->es[i]?=some e'->∀ f∈es.drop (i+1),¬ Clash e' f):=oH (by
    intro i e' hi he' f hf;by_cases h:i<k
    .exact HA.out i e' h he' f hf
    .obtain rfl:i=k:=by omega
     have:=List.length_pos_of_mem hf;omega)
   go_loopw [24] (fun i wr=>i=.int .i64 0/\wr=wo.alloc (.cells #[.int .i64 e.a,.int .i64 e.l,.int .i64 e.b] 110)) (fun _ _=>0)
   case atStart=>exact⟨rfl,rfl⟩
   obtain⟨rfl,rfl⟩:=hrel;go_wp2_with fail;go_roundw
   case rel=>exact⟨k+1,by omega,by go_num,B1,HN.out,hmo⟩
   simp[intOf];omega
  go_wp2_with fail;have hrd:=(hr.mid hmo oZl).drop (k:=k+1);have hdl:(es.drop (k+1)).length=es.length - (k+1):=List.length_drop;have HE:=oH he;have HA:=oH hall;clear he hall;go_loopw [24] (fun i wr=>∃ j:Nat,j<=es.length - (k+1)/\i=.int .i64 j/\Box wr w.heap.size [.int .i64 r,.int .i64 s,.slice (some ⟨B,off,none⟩) es.length c]/\Box wr wo.heap.size [.int .i64 e.a,.int .i64 e.l,.int .i64 e.b]/\(∀ f∈(es.drop (k+1)).take j,¬ Clash e f)/\Mid 0 0 (wo.alloc (.cells #[.int .i64 e.a,.int .i64 e.l,.int .i64 e.b] 110)) wr) (fun i _=>es.length - (k+1) - (intOf i).toNat)
  case atStart=>exact⟨0,oZ,rfl,B1,E1,by simp,Mid.refl _ _ _⟩
  obtain⟨j,hj,rfl,bx2,bxe,hin,hmx⟩:=hrel;by_cases hlt2:j<es.length - (k+1)
  .obtain⟨B',off',f,hA, -,hbh2,hf,f0,f1,f2⟩:=(hrd.mid hmx oZl).ed (k:=j) (by omega)
   injection hA with hA
   injection hA with hA1 hA2
   subst hA1 hA2;have hal2:=Mid.alloc wr (.cells #[.int .i64 f.a,.int .i64 f.l,.int .i64 f.b] 110);have hmx2:=hmx.trans hal2;have bx3:=bx2.mid hal2 oZr;have bxe3:=bxe.mid hal2 oZr;obtain⟨g0,g1,g2⟩:=bxe3.c3 rfl;have hjn:(j:Int)<((es.length - (k+1):Nat):Int):=by omega
   have HF:=oH hf;have HI:=oH hin;clear hf hin;by_cases hc:Clash e f
   .have hb:b=false:=aBq HB.out fun h=>aTQ h.fol HE.out (List.mem_of_getElem? HF.out) hc
    subst hb;obtain⟨c1,c2⟩:=hc;have d1:(e.l == f.l)=true:=by simpa using c1
    by_cases c3:e.a=f.a
    .have d2:(e.a == f.a)=true:=by simpa using c3
     clear c1 c2 c3;go_wp2_with fail;go_ret;exact⟨rfl,(hmo.trans hmx2)⟩
    have d2:(e.a == f.a)=false:=by simpa only[beq_eq_false_iff_ne] using c3
    have d3:(e.b == f.b)=true:=by simpa using(c2.resolve_left c3)
    clear c1 c2 c3;go_wp2_with fail;go_ret;exact⟨rfl,(hmo.trans hmx2)⟩
   have HN:Hid (∀ f'∈(es.drop (k+1)).take (j+1),¬ Clash e f'):=oH (by
    intro f' hf';rw[aAV HF.out] at hf';rcases List.mem_append.1 hf' with h|h
    .exact HI.out f' h
    .obtain rfl:f'=f:=by simpa using h
     exact hc)
   by_cases c1:e.l=f.l
   focus
    have d1:(e.l == f.l)=true:=by simpa using c1
    have d2:(e.a == f.a)=false:=by simp only[beq_eq_false_iff_ne];exact fun h=>hc ⟨c1,.inl h⟩
    have d3:(e.b == f.b)=false:=by simp only[beq_eq_false_iff_ne];exact fun h=>hc ⟨c1,.inr h⟩
   rotate_left
   focus
    have d1:(e.l == f.l)=false:=by simpa only[beq_eq_false_iff_ne] using c1
   rotate_left
   all_goals
    clear c1 hc;go_wp2_with fail;go_roundw
    case rel=>exact⟨j+1,by omega,by go_num,bx3,bxe3,HN.out,hmx2⟩
    simp[intOf];omega
  obtain rfl:j=es.length - (k+1):=by omega
  have HN:Hid (∀ i e',i<k+1->es[i]?=some e'->∀ f∈es.drop (i+1),¬ Clash e' f):=oH (by
   intro i e' hi he' f hf;by_cases h:i<k
   .exact HA.out i e' h he' f hf
   .obtain rfl:i=k:=by omega
    rw[HE.out] at he';injection he' with he'
    subst he';exact hin f (by rw[<- hdl,List.take_length];exact hf))
  go_wp2_with fail;go_roundw
  case rel=>exact⟨k+1,by omega,by go_num,bx2,HN.out,hmo.trans hmx⟩
  simp[intOf];omega
 obtain rfl:k=es.length:=by omega
 obtain rfl:b=true:=HB.out.2 ⟨G1.out,aKf fun i e he=>hall i e (List.getElem?_eq_some_iff.1 he).1 he⟩;go_wp2_with fail;go_ret;exact⟨rfl,hmr⟩
theorem aRt{es:List Ed}(h:∀(i j:Nat) (e f:Ed),j<i->es[i]?=some e->es[j]?=some f->¬ Clash e f):es.Pairwise fun e f=>¬ Clash e f:=by
 rw[List.pairwise_iff_getElem];intro i j hi hj hij hc;exact h j i _ _ hij (List.getElem?_eq_getElem hj) (List.getElem?_eq_getElem hi) hc.symm
theorem aQn{es:List Ed}(h:es.Pairwise fun e f=>¬ Clash e f){i j:Nat}{e f:Ed}(hij:j<i)(he:es[i]?=some e)(hf:es[j]?=some f):¬ Clash e f:=by
 rw[List.pairwise_iff_getElem] at h;obtain⟨hi,rfl⟩:=List.getElem?_eq_some_iff.1 he;obtain⟨hj,rfl⟩:=List.getElem?_eq_some_iff.1 hf;exact fun hc=>h j i hj hi hij hc.symm
theorem aAT(r s:Int)(A:Option Addr)(es:List Ed)(c:Nat)(w:World)(lo hi:Nat)(hr:RG w lo hi A es)(hl:es.length<=1048576)(b:Bool)(hb:b=true↔IsFol r s es) :
  Calls Tryz.prog 126 #[aAw r s A es.length c] w fun e w'=>e=.returned (.bool b)/\Mid 0 0 w w':=by
 have HB:=oH hb;clear hb;have hm0:Mid 0 0 w (w.alloc (.cells #[.int .i64 r,.int .i64 s,.slice A es.length c] 35)):=Mid.alloc _ _;have B1:=(Box.new w #[.int .i64 r,.int .i64 s,.slice A es.length c] 35)
 obtain⟨b1,hb1⟩:=aAC (IsGr r s es);have H1:=oH hb1;clear hb1;go_enter Tryz.func126,Tryz.ntmps126
 go_wp2_with fail;go_loopw [3] (fun i wr=>∃ k:Nat,k<=es.length/\i=.int .i64 k/\Box wr w.heap.size [.int .i64 r,.int .i64 s,.slice A es.length c]/\(∀(i j:Nat) (e f:Ed),j<i->i<k->es[i]?=some e->es[j]?=some f->¬ Clash e f)/\Mid 0 0 w wr) (fun i _=>es.length - (intOf i).toNat)
 case atStart=>exact⟨0,oZ,rfl,B1,fun i j e f h1 h2=>absurd h2 (Nat.not_lt_zero _),hm0⟩
 obtain⟨wo,hwo⟩:∃ wo,wo=wr:=⟨_,rfl⟩
 subst hwo;obtain⟨k,hk,rfl,bx,hall,hmr⟩:=hrel;obtain⟨p0,p1,p2⟩:=bx.c3 rfl;have HA:=oH hall;clear hall;by_cases hlt:k<es.length
 .have hkn:(k:Int)<(es.length:Int):=by omega
  go_wp2_with fail;with_reducible refine(aAM r s A es c _ _ _ (hr.mid hmr oZl).rv hl b1 H1.out).mono ?_
  rintro en w1 ⟨rfl,hm1⟩;have hmo:=hmr.trans hm1;have bx1:=bx.mid hm1 oZr;obtain⟨q0,q1,q2⟩:=bx1.c3 rfl;cases b1
  .obtain rfl:b=false:=aBq HB.out fun h=>by have:=H1.out.2 h.gr;cases this
   go_wp2_with fail;with_reducible refine(aAM r s A es c _ _ _ (hr.mid hmo oZl).rv hl false H1.out).mono ?_
   rintro en w2 ⟨rfl,hm2⟩;go_wp2_with fail;go_ret;exact⟨rfl,hmo.trans hm2⟩
  have G1:=oH (H1.out.1 rfl);go_wp2_with fail;go_loopw [4] (fun i wr=>∃ j:Nat,j<=k/\i=.int .i64 j/\Box wr w.heap.size [.int .i64 r,.int .i64 s,.slice A es.length c]/\(∀(i:Nat) (e f:Ed),i<j->es[k]?=some e->es[i]?=some f->¬ Clash e f)/\Mid 0 0 w wr) (fun i _=>k - (intOf i).toNat)
  case atStart=>exact⟨0,oZ,rfl,bx1,fun i e f h=>absurd h (Nat.not_lt_zero _),hmo⟩
  obtain⟨j,hj,rfl,bx2,hin,hmx⟩:=hrel;obtain⟨u0,u1,u2⟩:=bx2.c3 rfl;have HI:=oH hin;clear hin;by_cases hlt2:j<k
  .obtain⟨B,off,e,rfl, -,hbh,he,e0,e1,e2⟩:=(hr.mid hmx oZl).ed hlt
   obtain⟨B',off',f,hA, -,hbh2,hf,f0,f1,f2⟩:=(hr.mid hmx oZl).ed (k:=j) (by omega);injection hA with hA
   injection hA with hA1 hA2
   subst hA1 hA2;have hbs:B<wr.heap.size:=by have:=hr.1;have:=hmx.size;omega
   have hala:=Mid.alloc wr (.cells #[.int .i64 e.a,.int .i64 e.l,.int .i64 e.b] 110);have halb:=Mid.alloc (wr.alloc (.cells #[.int .i64 e.a,.int .i64 e.l,.int .i64 e.b] 110)) (.cells #[.int .i64 f.a,.int .i64 f.l,.int .i64 f.b] 110);have hal2:=hala.trans halb;have E1:=(Box.new wr #[.int .i64 e.a,.int .i64 e.l,.int .i64 e.b] 110).mid halb oZr;have E2:=Box.new (wr.alloc (.cells #[.int .i64 e.a,.int .i64 e.l,.int .i64 e.b] 110)) #[.int .i64 f.a,.int .i64 f.l,.int .i64 f.b] 110;rw[World.size_alloc] at E2;have bxa:=bx2.mid hala oZr;have bx3:=bx2.mid hal2 oZr;obtain⟨va0,va1,va2⟩:=bxa.c3 rfl;obtain⟨g0,g1,g2⟩:=E1.c3 rfl;obtain⟨h0,h1,h2⟩:=E2.c3 rfl;have g0':=aAa hala hbs oZr f0;have g1':=aAa hala hbs oZr f1;have g2':=aAa hala hbs oZr f2;have hjn:(j:Int)<(k:Int):=by omega
   have hjn2:(j:Int)<(es.length:Int):=by omega
   have HE:=oH he;have HF:=oH hf;clear he hf;by_cases hc:Clash e f
   .have hb:b=false:=aBq HB.out fun h=>aQn h.fol hlt2 HE.out HF.out hc
    subst hb;obtain⟨c1,c2⟩:=hc;have d1:(e.l == f.l)=true:=by simpa using c1
    by_cases c3:e.a=f.a
    .have d2:(e.a == f.a)=true:=by simpa using c3
     clear c1 c2 c3;go_wp2_with fail;go_ret;exact⟨rfl,hmx.trans hal2⟩
    have d2:(e.a == f.a)=false:=by simpa only[beq_eq_false_iff_ne] using c3
    have d3:(e.b == f.b)=true:=by simpa using(c2.resolve_left c3)
    clear c1 c2 c3;go_wp2_with fail;go_ret;exact⟨rfl,hmx.trans hal2⟩
   have HN:Hid (∀(i:Nat) (e f:Ed),i<j+1->es[k]?=some e->es[i]?=some f->¬ Clash e f):=oH (by
    intro i e' f' hi he' hf';by_cases h:i<j
    .exact HI.out i e' f' h he' hf'
    .obtain rfl:i=j:=by omega
     rw[HE.out] at he';rw[HF.out] at hf';injection he' with he'
     injection hf' with hf'
     subst he' hf';exact hc)
   by_cases c1:e.l=f.l
   focus
    have d1:(e.l == f.l)=true:=by simpa using c1
    have d2:(e.a == f.a)=false:=by simp only[beq_eq_false_iff_ne];exact fun h=>hc ⟨c1,.inl h⟩
    have d3:(e.b == f.b)=false:=by simp only[beq_eq_false_iff_ne];exact fun h=>hc ⟨c1,.inr h⟩
   rotate_left
   focus
    have d1:(e.l == f.l)=false:=by simpa only[beq_eq_false_iff_ne] using c1
   rotate_left
   all_goals
    clear c1 hc;go_wp2_with fail;go_roundw
    case rel=>exact⟨j+1,by omega,by go_num,bx3,HN.out,hmx.trans hal2⟩
    simp[intOf];omega
  obtain rfl:j=k:=by omega
  have HN:Hid (∀(i j':Nat) (e f:Ed),j'<i->i<j+1->es[i]?=some e->es[j']?=some f->¬ Clash e f):=oH (by
   intro i j' e' f' h1 h2 he' hf';by_cases h:i<j
   .exact HA.out i j' e' f' h1 h he' hf'
   .obtain rfl:i=j:=by omega
    exact HI.out j' e' f' h1 he' hf')
  go_wp2_with fail;go_roundw
  case rel=>exact⟨j+1,by omega,by go_num,bx2,HN.out,hmx⟩
  simp[intOf];omega
 obtain rfl:k=es.length:=by omega
 obtain rfl:b=b1:=by
  cases b1
  .exact aBq HB.out fun h=>by have:=H1.out.2 h.gr;cases this
  exact HB.out.2 ⟨H1.out.1 rfl,aRt fun i j e f h1 he hf=>HA.out i j e f h1 (List.getElem?_eq_some_iff.1 he).1 he hf⟩
 go_wp2_with fail;with_reducible refine(aAM r s A es c _ _ _ (hr.mid hmr oZl).rv hl b H1.out).mono ?_
 rintro en w2 ⟨rfl,hm2⟩;go_wp2_with fail;go_ret;exact⟨rfl,hmr.trans hm2⟩
theorem aKD(r s:Int)(A:Option Addr)(es:List Ed)(c:Nat)(v:Int)(w:World)(lo hi:Nat)(hr:RG w lo hi A es)(hl:es.length<=1048576) :
  Calls Tryz.prog 234 #[.agg #[.int .i64 r,.int .i64 s,.slice A es.length c],.int .i64 v] w fun e w'=>e=.returned (.int .i64 (deg es v))/\Mid 0 0 w w':=by
 have hm0:Mid 0 0 w (w.alloc (.cells #[.int .i64 r,.int .i64 s,.slice A es.length c] 35)):=Mid.alloc _ _;have B1:=(Box.new w #[.int .i64 r,.int .i64 s,.slice A es.length c] 35)
 go_enter Tryz.func234,Tryz.ntmps234
 go_wp2_with fail;go_loopw [5,11] (fun n i wr=>∃ k d:Nat,k<=es.length/\i=.int .i64 k/\n=.int .i64 d/\Hid (deg (es.take k) v=d)/\Box wr w.heap.size [.int .i64 r,.int .i64 s,.slice A es.length c]/\Mid 0 0 w wr) (fun _ i _=>es.length - (intOf i).toNat)
 case atStart=>exact⟨0,0,oZ,rfl,rfl,oH (by simp[deg]),B1,hm0⟩
 obtain⟨k,d,hk,rfl,rfl,HD,bx,hmr⟩:=hrel;have hd:d<=2097152:=by
  have h1:=aNQ (es.take k) v;have h2:=HD.out;simp at h1;omega
 obtain⟨p0,p1,p2⟩:=bx.c3 rfl;by_cases hlt:k<es.length
 .obtain⟨B,off,e,rfl, -,hbh,he,e0,e1,e2⟩:=(hr.mid hmr oZl).ed hlt
  have hal:=Mid.alloc wr (.cells #[.int .i64 e.a,.int .i64 e.l,.int .i64 e.b] 110);have hm1:=hmr.trans hal;have bx1:=bx.mid hal oZr;have hkn:(k:Int)<(es.length:Int):=by omega
  have HS:=oH (aGA he v);clear he;by_cases c1:e.a=v
  .have b1:(e.a == v)=true:=by simpa using c1
   by_cases c2:e.b=v
   .have b2:(e.b == v)=true:=by simpa using c2
    have HT:Hid (deg (es.take (k+1)) v=d+1+1):=oH (by rw[HS.out,HD.out,degE,if_pos c1,if_pos c2]);clear c1 c2;go_wp2_with fail;go_roundw
    case rel=>exact⟨k+1,d+1+1,by omega,by go_num,congrArg (Value.int .i64) (by omega),HT,bx1,hm1⟩
    simp[intOf];omega
   have b2:(e.b == v)=false:=by simpa only[beq_eq_false_iff_ne] using c2
   have HT:Hid (deg (es.take (k+1)) v=d+1):=oH (by rw[HS.out,HD.out,degE,if_pos c1,if_neg c2]);clear c1 c2;go_wp2_with fail;go_roundw
   case rel=>exact⟨k+1,d+1,by omega,by go_num,by go_num,HT,bx1,hm1⟩
   simp[intOf];omega
  have b1:(e.a == v)=false:=by simpa only[beq_eq_false_iff_ne] using c1
  by_cases c2:e.b=v
  .have b2:(e.b == v)=true:=by simpa using c2
   have HT:Hid (deg (es.take (k+1)) v=d+1):=oH (by rw[HS.out,HD.out,degE,if_neg c1,if_pos c2]);clear c1 c2;go_wp2_with fail;go_roundw
   case rel=>exact⟨k+1,d+1,by omega,by go_num,by go_num,HT,bx1,hm1⟩
   simp[intOf];omega
  have b2:(e.b == v)=false:=by simpa only[beq_eq_false_iff_ne] using c2
  have HT:Hid (deg (es.take (k+1)) v=d):=oH (by rw[HS.out,HD.out,degE,if_neg c1,if_neg c2];rfl);clear c1 c2;go_wp2_with fail;go_roundw
  case rel=>exact⟨k+1,d,by omega,by go_num,by go_num,HT,bx1,hm1⟩
  simp[intOf];omega
 obtain rfl:k=es.length:=by omega
 have hx:=HD.out;rw[List.take_length] at hx;subst hx;go_wp2_with fail;go_ret;exact⟨rfl,hmr⟩
theorem aLe(r s:Int)(A:Option Addr)(es:List Ed)(c:Nat)(v:Int)(w:World)(lo hi:Nat)(hr:RG w lo hi A es)(hl:es.length<=1048576) :
  Calls Tryz.prog 242 #[.agg #[.int .i64 r,.int .i64 s,.slice A es.length c],.int .i64 v] w fun e w'=>e=.returned (.int .i64 (deg es v))/\Mid 0 0 w w':=by
 have hm0:Mid 0 0 w (w.alloc (.cells #[.int .i64 r,.int .i64 s,.slice A es.length c] 35)):=Mid.alloc _ _;have B1:=(Box.new w #[.int .i64 r,.int .i64 s,.slice A es.length c] 35)
 go_enter Tryz.func242,Tryz.ntmps242
 go_wp2_with fail;go_loopw [5,6] (fun n i wr=>∃ k d:Nat,k<=es.length/\i=.int .i64 k/\n=.int .i64 d/\Hid (deg (es.take k) v=d)/\Box wr w.heap.size [.int .i64 r,.int .i64 s,.slice A es.length c]/\Mid 0 0 w wr) (fun _ i _=>es.length - (intOf i).toNat)
 case atStart=>exact⟨0,0,oZ,rfl,rfl,oH (by simp[deg]),B1,hm0⟩
 obtain⟨k,d,hk,rfl,rfl,HD,bx,hmr⟩:=hrel;have hd:d<=2097152:=by
  have h1:=aNQ (es.take k) v;have h2:=HD.out;simp at h1;omega
 obtain⟨p0,p1,p2⟩:=bx.c3 rfl;by_cases hlt:k<es.length
 .obtain⟨B,off,e,rfl, -,hbh,he,e0,e1,e2⟩:=(hr.mid hmr oZl).ed hlt
  have hm1:=hmr;have bx1:=bx;have hkn:(k:Int)<(es.length:Int):=by omega
  have HS:=oH (aGA he v);clear he;by_cases c1:e.a=v
  .have b1:(e.a == v)=true:=by simpa using c1
   by_cases c2:e.b=v
   .have b2:(e.b == v)=true:=by simpa using c2
    have HT:Hid (deg (es.take (k+1)) v=d+1+1):=oH (by rw[HS.out,HD.out,degE,if_pos c1,if_pos c2]);clear c1 c2;go_wp2_with fail;go_roundw
    case rel=>exact⟨k+1,d+1+1,by omega,by go_num,congrArg (Value.int .i64) (by omega),HT,bx1,hm1⟩
    simp[intOf];omega
   have b2:(e.b == v)=false:=by simpa only[beq_eq_false_iff_ne] using c2
   have HT:Hid (deg (es.take (k+1)) v=d+1):=oH (by rw[HS.out,HD.out,degE,if_pos c1,if_neg c2]);clear c1 c2;go_wp2_with fail;go_roundw
   case rel=>exact⟨k+1,d+1,by omega,by go_num,by go_num,HT,bx1,hm1⟩
   simp[intOf];omega
  have b1:(e.a == v)=false:=by simpa only[beq_eq_false_iff_ne] using c1
  by_cases c2:e.b=v
  .have b2:(e.b == v)=true:=by simpa using c2
   have HT:Hid (deg (es.take (k+1)) v=d+1):=oH (by rw[HS.out,HD.out,degE,if_neg c1,if_pos c2]);clear c1 c2;go_wp2_with fail;go_roundw
   case rel=>exact⟨k+1,d+1,by omega,by go_num,by go_num,HT,bx1,hm1⟩
   simp[intOf];omega
  have b2:(e.b == v)=false:=by simpa only[beq_eq_false_iff_ne] using c2
  have HT:Hid (deg (es.take (k+1)) v=d):=oH (by rw[HS.out,HD.out,degE,if_neg c1,if_neg c2];rfl);clear c1 c2;go_wp2_with fail;go_roundw
  case rel=>exact⟨k+1,d,by omega,by go_num,by go_num,HT,bx1,hm1⟩
  simp[intOf];omega
 obtain rfl:k=es.length:=by omega
 have hx:=HD.out;rw[List.take_length] at hx;subst hx;go_wp2_with fail;go_ret;exact⟨rfl,hmr⟩
section
open Go.RowKit
structure TwoI (w:World) (lo:Nat) (F T:Value) (n m:Nat) (xs ys:List Int):Prop where
 f:w.ownsRow lo 3 1 F n (aAd xs)
 t:w.ownsRow lo 3 1 T m (aAd ys)
 ne:F.ownBlock≠T.ownBlock
theorem TwoI.swap{w:World}{lo:Nat}{F T:Value}{n m:Nat}{xs ys:List Int}(h:TwoI w lo F T n m xs ys):TwoI w lo T F m n ys xs:=⟨h.t,h.f,fun e=>h.ne e.symm⟩
theorem TwoI.push{w w':World}{lo:Nat}{F T F':Value}{n m n':Nat}{xs ys xs':List Int}(h:TwoI w lo F T n m xs ys)(ho:w'.ownsRow lo 3 1 F' n' (aAd xs'))(hg:w.grownBy w' F.ownBlock)(hb:F'.ownBlock=F.ownBlock \/ F'.ownBlock=some (w.heap.size+1)):TwoI w' lo F' T n' m xs' ys:=by
 refine⟨ho,h.t.kept hg ?_,fun e=>?_⟩
 .cases hT:T.ownBlock with
 |none=>exact .inl rfl
 |some j=>exact .inr fun e=>h.ne (by rw[hT];exact e.symm)
 rcases hb with hb|hb
 .exact h.ne (hb.symm.trans e)
 have:=(h.t.lt (w.heap.size+1) (by rw[<- e,hb])).2;omega
section
variable {W:World} {ops:Array Oper} {rest:List Oper} {o:Oper} {a:Act} {Q:Exit->Act->World->Prop}
theorem aHR(hgd:o.guard=none)(s x:Operand)(ho:o.op=.call { callee:=.builtin .append,args:=#[s,x],argTypes:=#[44,44] })(lo:Nat)(A:Option Addr)(n c:Nat)(xs:List Int)(T:Value)(m:Nat)(ys:List Int)(hs:a.eval s=.slice A n c)(h2:TwoI W lo (.slice A n c) T n m xs ys)(y:Int)(hx:a.eval x=.slice (some ⟨W.heap.size,0,none⟩) 1 1)(hn:n<=1048576)(hb:lo<=W.heap.size)(h:∀ A' c' w',TwoI w' lo (.slice A' (n+1) c') T (n+1) m (xs++[y]) ys->Mid lo W.heap.size W w'->wpList Tryz.prog ops Q rest (a.put o.dst (.slice A' (n+1) c')) w') :
  wpList Tryz.prog ops Q (o::rest) a (W.alloc (.cells #[.int .i64 y] 3)):=by
 refine aAr (news:=[.int .i64 y]) hgd s x 44 ho lo 3 (.int .i64 0) 1 8 aBZ aCg rfl (by decide) (.slice A n c) n (aAd xs) hs h2.f 1 hx rfl ?_ (by unfold maxLen;omega) (by omega) hb ?_
 .intro u hu
  simp at hu;subst hu
  rfl
 intro v' w' h3 h4 h5;obtain⟨A',c',rfl, -, -⟩:=aAg h3;refine h A' c' w' (h2.push ?_ h4 h5) (Mid.of_grownRow h2.f h4);rw[aAj];exact h3
theorem aHj(hgd:o.guard=none)(s x:Operand)(ho:o.op=.call { callee:=.builtin .append,args:=#[s,x],argTypes:=#[33,33] })(lo:Nat)(A:Option Addr)(n c:Nat)(es:List Ed)(hs:a.eval s=.slice A n c)(hown:W.ownsRow lo 110 3 (.slice A n c) n (aAd (edI es)))(e:Ed)(hx:a.eval x=.slice (some ⟨W.heap.size,0,none⟩) 1 1)(hn:n<=1048576)(hb:lo<=W.heap.size)(h:∀ A' c' w',w'.ownsRow lo 110 3 (.slice A' (n+1) c') (n+1) (aAd (edI (es++[e])))->W.grownBy w' (Value.ownBlock (.slice A n c))->(Value.ownBlock (.slice A' (n+1) c')=Value.ownBlock (.slice A n c) \/ Value.ownBlock (.slice A' (n+1) c')=some (W.heap.size+1))->wpList Tryz.prog ops Q rest (a.put o.dst (.slice A' (n+1) c')) w') :
  wpList Tryz.prog ops Q (o::rest) a (W.alloc (.cells #[.int .i64 e.a,.int .i64 e.l,.int .i64 e.b] 110)):=by
 refine aAr (news:=[.int .i64 e.a,.int .i64 e.l,.int .i64 e.b]) hgd s x 33 ho lo 110 (.agg #[.int .i64 0,.int .i64 0,.int .i64 0]) 3 24 aJo aJu rfl (by decide) (.slice A n c) n (aAd (edI es)) hs hown 1 hx rfl ?_ (by unfold maxLen;omega) (by omega) hb ?_
 .intro u hu
  simp at hu;rcases hu with rfl|rfl|rfl <;> rfl
 intro v' w' h1 h2 h3;obtain⟨A',c',rfl, -, -⟩:=aAg h1;refine h A' c' w' ?_ h2 h3;rw[aBT,aAj,aEY];exact h1
end
end
theorem aHt{n:Nat}{x:Int}(h:x∈lets n):-(n:Int)<=x/\x<=n:=(aBz.1 h).2
theorem aFd(n:Nat)(w:World)(hn:n<=1000) :
  Calls Tryz.prog 134 #[.int .i64 n] w fun e w'=>∃ A c,e=.returned (.slice A (lets n).length c)/\RV w' w.heap.size w'.heap.size A (aAd (lets n))/\Mid 0 0 w w':=by
 have hm0:Mid 0 0 w (w.alloc (.cells #[] 3)):=Mid.alloc _ _;have O0:=aAi w 3 1;go_enter Tryz.func134,Tryz.ntmps134
 go_wp2_with fail;go_loopw [3,4] (fun out i wr=>∃(k:Nat) (A1:Option Addr) (c1 n1:Nat),k<=n/\i=.int .i64 ((k:Int)+1)/\out=.slice A1 n1 c1/\Hid ((lets k).length=n1) /\
   wr.ownsRow w.heap.size 3 1 (.slice A1 n1 c1) n1 (aAd (lets k))/\Mid 0 0 w wr/\w.heap.size<=wr.heap.size) (fun _ i _=>(n+1 - intOf i).toNat)
 case atStart=>exact⟨0,_,0,0,oZ,rfl,rfl,oH rfl,O0,hm0,hm0.size⟩
 obtain⟨k,A1,c1,n1,hk,rfl,rfl,HN,hown,hm,hsz⟩:=hrel;have hn1:n1<=2000:=by have h1:=aBL k;have h2:=HN.out;omega
 by_cases hlt:k<n
 .have hkn:(k:Int)+1<=n:=by omega
  have hk0:(0:Int)<=(k:Int):=by omega
  have b4:wrap64 (-((k:Int)+1)) = -((k:Int)+1):=by unfold wrap64;omega
  have HW:=oH hown;clear hown;go_wp2_with (at_builtin;refine aAr rfl _ _ 44 rfl w.heap.size 3 (.int .i64 0) 1 8 aBZ aCg rfl (by decide) _ _ _ rfl HW.out 2 [.int .i64 ((k:Int)+1),.int .i64 (-((k:Int)+1))] rfl rfl ?c1 ?c2 ?c3 hsz ?next)
  case c1=>exact aAu [(k:Int)+1, -((k:Int)+1)]
  case c2=>unfold maxLen;omega
  case c3=>omega
  intro v' w3 hown1 hgr _;obtain⟨A3,c3,rfl, -, -⟩:=aAg hown1;have hm3:=Mid.of_grownRow HW.out hgr;go_wp2_with fail;go_roundw
  case rel=>
   refine⟨k+1,A3,c3,n1+2,by omega,by go_num,rfl,oH (by have:=HN.out;simp[lets];omega),?_,hm.transNew hm3 (Or.inl oN),Nat.le_trans hsz hm3.size⟩;rw[lets,aAj];exact hown1
  simp[intOf];omega
 obtain rfl:k=n:=by omega
 have hx:=HN.out;have hsz2:=hm.size;go_wp2_with fail;go_ret;exact⟨_,_,(by rw[hx];rfl),aAy hown,hm⟩
theorem aDW(n:Nat)(w:World)(hn:n<=1000) :
  Calls Tryz.prog 127 #[.int .i64 n] w fun e w'=>∃ A c,e=.returned (.slice A (lets n).length c)/\RV w' w.heap.size w'.heap.size A (aAd (lets n))/\Mid 0 0 w w':=by
 have hm0:Mid 0 0 w (w.alloc (.cells #[] 3)):=Mid.alloc _ _;have O0:=aAi w 3 1;go_enter Tryz.func127,Tryz.ntmps127
 go_wp2_with fail;go_loopw [3,4] (fun out i wr=>∃(k:Nat) (A1:Option Addr) (c1 n1:Nat),k<=n/\i=.int .i64 ((k:Int)+1)/\out=.slice A1 n1 c1/\Hid ((lets k).length=n1) /\
   wr.ownsRow w.heap.size 3 1 (.slice A1 n1 c1) n1 (aAd (lets k))/\Mid 0 0 w wr/\w.heap.size<=wr.heap.size) (fun _ i _=>(n+1 - intOf i).toNat)
 case atStart=>exact⟨0,_,0,0,oZ,rfl,rfl,oH rfl,O0,hm0,hm0.size⟩
 obtain⟨k,A1,c1,n1,hk,rfl,rfl,HN,hown,hm,hsz⟩:=hrel;have hn1:n1<=2000:=by have h1:=aBL k;have h2:=HN.out;omega
 by_cases hlt:k<n
 .have hkn:(k:Int)+1<=n:=by omega
  have hk0:(0:Int)<=(k:Int):=by omega
  have b4:wrap64 (-((k:Int)+1)) = -((k:Int)+1):=by unfold wrap64;omega
  have HW:=oH hown;clear hown;go_wp2_with (first|(at_builtin;refine aAv rfl _ _ rfl w.heap.size A1 n1 c1 (lets k) rfl HW.out ((k:Int)+1) rfl (by omega) hsz ?_;intro A2 c2 w2 hown2 hm2;have hsz2:=Nat.le_trans hsz hm2.size;have HW2:=oH hown2;clear hown2)|(at_builtin;refine aAv rfl _ _ rfl w.heap.size A2 (n1+1) c2 (lets k++[(k:Int)+1]) rfl HW2.out (-((k:Int)+1)) rfl (by omega) hsz2 ?_;intro A3 c3 w3 hown3 hm3))
  go_roundw
  case rel=>
   refine⟨k+1,A3,c3,n1+1+1,by omega,by go_num,rfl,oH (by have:=HN.out;simp[lets];omega),?_,(hm.transNew hm2 (Or.inl oN)).transNew hm3 (Or.inl oN),Nat.le_trans hsz2 hm3.size⟩;rw[List.append_assoc] at hown3;exact hown3
  simp[intOf];omega
 obtain rfl:k=n:=by omega
 have hx:=HN.out;have hsz2:=hm.size;go_wp2_with fail;go_ret;exact⟨_,_,(by rw[hx];rfl),aAy hown,hm⟩
theorem aPZ(A:Option Addr)(xs:List Int)(c:Nat)(w:World)(lo hi:Nat)(hr:RV w lo hi A (aAd xs))(hl:xs.length<=1048576) :
  Calls Tryz.prog 178 #[.slice A xs.length c] w fun e w'=>∃ g c2,e=.returned (.slice (some ⟨g,0,none⟩) xs.length c2)/\w'.ownsRow w.heap.size 3 1 (.slice (some ⟨g,0,none⟩) xs.length c2) xs.length (aAd xs)/\Mid 0 0 w w':=by
 have hoe:=aAi w 3 1;have hal:=Mid.alloc w (.cells #[] 3);have hra:=(hr.mid hal oZl).rs;have hla:(aAd xs).length=xs.length * 1:=by rw[aAG];omega
 have hnn:(Value.slice (some ⟨w.heap.size,0,none⟩) 0 0).ownBlock≠none:=by simp[Value.ownBlock]
 have HNN:=oH hnn;clear hnn;go_enter Tryz.func178,Tryz.ntmps178
 go_wp2_with (at_builtin;refine aFH rfl _ _ 44 rfl w.heap.size 3 (.int .i64 0) 1 8 aBZ aCg rfl (by decide) _ _ _ rfl hoe A xs.length c _ (aAd xs) rfl hra hla (aAu _) ?c4 ?c5 ?c6 ?next)
 case c4=>unfold maxLen;omega
 case c5=>omega
 case c6=>simp
 intro v2 w2 ho2 hgr2 hat2;obtain⟨g,c2,rfl,hg1, -, -⟩:=aKP ho2 hat2 HNN.out;try rw[Nat.zero_add,List.nil_append] at ho2
 have hm2:=Mid.of_grownRow hoe hgr2;have hmm:=hal.transNew hm2 (Or.inl oN);go_wp2_with fail;go_ret;exact⟨g,c2,by simp,ho2,hmm⟩
def aBM(n:Nat)(l:List Int):List Value:=(List.range n).map (fun(j:Nat)=>Value.bool (decide ((j:Int)∈l)))
theorem aFE(n:Nat):aBM n []=List.replicate n (.bool false):=by
 unfold aBM;apply List.ext_getElem <;> simp
theorem aCI{n j:Nat}{l:List Int}(h:j<n):(aBM n l)[j]?=some (.bool (decide ((j:Int)∈l))):=by simp[aBM,h]
theorem aBG{n m:Nat}{l:List Int}(_h:m<n):(aBM n l).set m (.bool true)=aBM n (l++[(m:Int)]):=by
 unfold aBM;apply List.ext_getElem
 .simp
 intro i h1 h2;rw[List.getElem_set];by_cases e:m=i
 .subst e
  simp
 simp[e];intro e';omega
structure JAt (s:Int) (es:List Ed) (v:Int) (vis:List Int):Prop where
 here:v∈vis
 rng:∀ u∈vis,0<=u/\u<s
 nd:vis.Nodup
 conn:∀ u∈vis,Conn es v u
theorem JAt.le{s:Int}{es:List Ed}{v:Int}{vis:List Int}(h:JAt s es v vis):vis.length<=s.toNat:=by
 refine aGO s.toNat vis h.nd fun u hu=>?_;have:=h.rng u hu;omega
theorem JAt.start{s:Int}(es:List Ed){v:Int}(h0:0<=v)(h1:v<s):JAt s es v [v]:=by
 refine⟨by simp,?_,by simp,?_⟩
 .intro u hu;simp at hu;subst hu;exact⟨h0,h1⟩
 intro u hu;simp at hu;subst hu;exact .here
theorem JAt.push{s:Int}{es:List Ed}{v u:Int}{vis:List Int}(h:JAt s es v vis)(hr:0<=u/\u<s)(hn:u ∉ vis)(hc:Conn es v u):JAt s es v (vis++[u]):=by
 refine⟨by simp[h.here],?_,?_,?_⟩
 .intro x hx
  rcases List.mem_append.1 hx with hx|hx
  .exact h.rng x hx
  simp at hx;subst hx;exact hr
 .rw[List.nodup_append]
  refine⟨h.nd,by simp,?_⟩;intro a ha b hb;simp at hb;subst hb;intro e;subst e;exact hn ha
 intro x hx;rcases List.mem_append.1 hx with hx|hx
 .exact h.conn x hx
 simp at hx;subst hx;exact hc
def Shut'(es:List Ed)(k:Nat)(vis:List Int):Prop:=∀(j:Nat) (e:Ed),j<k->es[j]?=some e->(e.a∈vis↔e.b∈vis)
theorem Shut'.zero(es:List Ed)(vis:List Int):Shut' es 0 vis:=fun j e h=>absurd h (Nat.not_lt_zero _)
theorem Shut'.succ{es:List Ed}{k:Nat}{vis:List Int}(h:Shut' es k vis){e:Ed}(he:es[k]?=some e)(hc:e.a∈vis↔e.b∈vis):Shut' es (k+1) vis:=fun j f hj hf=>by
 by_cases h1:j<k
 .exact h j f h1 hf
 .obtain rfl:j=k:=by omega
  rw[he] at hf;injection hf with hf
  subst hf;exact hc
theorem JAt.done{s:Int}{es:List Ed}{v:Int}{vis:List Int}(h:JAt s es v vis)(hc:Shut' es es.length vis)(u:Int):u∈vis↔Conn es v u:=by
 refine aNM (P:=fun u=>u∈vis) h.here (fun e he=>?_) h.conn u;obtain⟨j,hj,rfl⟩:=List.mem_iff_getElem.1 he;exact hc j _ hj (List.getElem?_eq_getElem hj)
theorem JAt.edge{s r:Int}{es:List Ed}{v:Int}{vis:List Int}(h:JAt s es v vis){e:Ed}(he:e∈es)(hi:InG r s e)(hd:¬ (e.a∈vis↔e.b∈vis)) :
  ∃ u,JAt s es v (vis++[u])/\∀ x,x∈vis++[e.a]++[e.b]↔x∈vis++[u]:=by
 unfold InG at hi;by_cases ha:e.a∈vis
 .have hb:e.b ∉ vis:=fun hb=>hd ⟨fun _=>hb,fun _=>ha⟩
  refine⟨e.b,h.push (by omega) hb (.out he (h.conn _ ha)),fun x=>?_⟩;simp only[List.mem_append,List.mem_singleton];constructor
  .rintro((h|rfl)|h)
   .exact .inl h
   .exact .inl ha
   exact .inr h
  rintro(h|h)
  .exact .inl (.inl h)
  exact .inr h
 have hb:e.b∈vis:=Classical.byContradiction fun hb=>hd ⟨fun h=>absurd h ha,fun h=>absurd h hb⟩;refine⟨e.a,h.push (by omega) ha (.inn he (h.conn _ hb)),fun x=>?_⟩;simp only[List.mem_append,List.mem_singleton];constructor
 .rintro((h|rfl)|rfl)
  .exact .inl h
  .exact .inr rfl
  exact .inl hb
 rintro(h|h)
 .exact .inl (.inl h)
 exact .inl (.inr h)
theorem aGC(p:Nat->Bool):∀ l:List Nat,(l.filter p).length+(l.filter fun v=>!p v).length=l.length
|[]=>rfl
|a::t=>by
  have:=aGC p t;cases h:p a <;> simp[h] <;> omega
theorem aPA{n:Nat}{es:List Ed}{v:Int}{vis:List Int}(h:JAt n es v vis):((List.range n).filter fun(j:Nat)=>!decide ((j:Int)∈vis)).length+vis.length=n:=by
 have h1:vis.Perm (((List.range n).filter fun(j:Nat)=>decide ((j:Int)∈vis)).map fun(j:Nat)=>(j:Int)):=by
  refine(List.perm_ext_iff_of_nodup h.nd ?_).2 fun u=>?_
  .exact List.pairwise_map.2 ((List.nodup_range.filter _).imp fun h he=>h (by omega))
  rw[List.mem_map];constructor
  .intro hu
   have:=h.rng u hu;refine⟨u.toNat,List.mem_filter.2 ⟨List.mem_range.2 (by omega),?_⟩,by omega⟩;rw[show((u.toNat:Nat):Int)=u by omega]
   simpa using hu
  rintro⟨k,hk,rfl⟩
  simpa using(List.mem_filter.1 hk).2
 have h2:=aGC (fun j:Nat=>decide ((j:Int)∈vis)) (List.range n);have h3:=h1.length_eq;rw[List.length_map] at h3;rw[List.length_range] at h2;omega
theorem aHO(n:Nat){xs ys:List Int}(h:∀ u,u∈xs↔u∈ys):aBM n xs=aBM n ys:=by
 unfold aBM;exact List.map_congr_left fun j _=>by rw[decide_eq_decide.2 (h j)]
theorem Mid.setAt(w:World)(b i:Nat)(u:Value):Mid b (b+1) w (w.setCell ⟨b,i,none⟩ u):=Mid.setCell w u oN oS
def aSP:Value->Bool|.bool b=>b|_=>false
def aUR(w:World)(g n:Nat):Nat:=((List.range n).filter fun j=>match w.cell? ⟨g,j,none⟩ with|some (.bool false)=>true|_=>false).length
theorem aLr{w:World}{base g n c:Nat}{vis:List Int}{es:List Ed}{v:Int}(h:w.ownsRow base 4 1 (.slice (some ⟨g,0,none⟩) n c) n (aBM n vis))(hj:JAt n es v vis):aUR w g n+vis.length=n:=by
 have h0:=aPA hj
 suffices hs:aUR w g n=((List.range n).filter fun(j:Nat)=>!decide ((j:Int)∈vis)).length by omega
 unfold aUR
 congr 1
 refine List.filter_congr fun j hj=>?_;have hj:=List.mem_range.1 hj;rw[(h.cellAt j (by omega)).trans (aCI hj)];by_cases hm:(j:Int)∈vis <;> simp[hm]
theorem aMW(r:Int)(n m:Nat)(A:Option Addr)(es:List Ed)(c:Nat)(w:World)(lo hi:Nat)(hr:RG w lo hi A es)(hg:IsGr r n es)(hv:m<n) :
  Calls Tryz.prog 233 #[aAw r n A es.length c,.int .i64 m] w fun e w'=>e=.returned (.slice (some ⟨w.heap.size+1,0,none⟩) n n)/\∃ vis,w'.ownsRow (w.heap.size+1) 4 1 (.slice (some ⟨w.heap.size+1,0,none⟩) n n) n (aBM n vis)/\(∀ u,u∈vis↔Conn es m u)/\Mid 0 0 w w':=by
 have hn40:n<=40:=by have:=hg.size;omega
 have hl:=hg.len;have hmx:n<=maxLen:=by unfold maxLen;omega
 have hm0:Mid 0 0 w (w.alloc (.cells #[.int .i64 r,.int .i64 n,.slice A es.length c] 35)):=Mid.alloc _ _;have B0:=Box.new w #[.int .i64 r,.int .i64 n,.slice A es.length c] 35;have HG:=oH hg;have hv3:(m:Int)<(n:Int):=by omega
 have hv0:(0:Int)<=(m:Int):=by omega
 have hj0:=JAt.start (s:=n) es hv0 hv3;have HJ0:=oH hj0;clear hg hj0;go_enter Tryz.func233,Tryz.ntmps233
 go_wp2_with (at_make;refine aCB rfl _ _ 121 rfl 4 (.bool false) 1 aSM aSj rfl .i64 .i64 _ _ n rfl rfl rfl rfl (by omega) hmx ?_;intro w2 hown2 hgr2 hsz2;have hfz:=hown2.frozenAt m;obtain⟨u, -,hcs⟩:=aDv hown2 hv;rw[World.size_alloc] at hfz hcs)
 have hm2:=hm0.trans (Mid.of_grown hgr2 (by intro g h;cases h));rw[World.size_alloc] at hown2;have B2:=B0.mid (Mid.of_grown (lo:=0) (hi:=0) hgr2 (by intro g h;cases h)) oZr;have hset:=aBA (ys:=aBM n [(m:Int)]) hown2 m (.bool true) (by rw[<- aFE,aBG hv];rfl);have hms:=Mid.storeNew hm2 (p:=⟨w.heap.size+1,m,none⟩) (Nat.le_succ _) (.bool true);have hst:Mid (w.heap.size+1) (w.heap.size+2) w2 (w2.setCell ⟨w.heap.size+1,m,none⟩ (.bool true)):=Mid.setCell _ _ oN oS;have B3:=B2.mid hst (Or.inl oS);clear hown2 hgr2 hm2 B2 hcs hfz B0 hm0 hsz2 hst;go_loopw [6] (fun a wr=>∃(ag:Bool) (vis:List Int),a=.bool ag/\JAt n es m vis/\Hid (ag=false->Shut' es es.length vis)/\Box wr w.heap.size [.int .i64 r,.int .i64 n,.slice A es.length c] /\
   wr.ownsRow (w.heap.size+1) 4 1 (.slice (some ⟨w.heap.size+1,0,none⟩) n n) n (aBM n vis)/\Mid 0 0 w wr) (fun a wr=>2 * aUR wr (w.heap.size+1) n+if aSP a then 1 else 0)
 case atStart=>exact⟨true,[(m:Int)],rfl,HJ0.out,oH (fun h=>nomatch h),B3,hset,hms⟩
 clear B3 hset hms;obtain⟨wo,hwo⟩:∃ wo,wo=wr:=⟨_,rfl⟩
 subst hwo;obtain⟨ag0,vis0,rfl,hj,HA,bx,hown,hm⟩:=hrel;cases ag0
 .go_wp2_with fail
  go_ret;exact⟨rfl,vis0,hown,fun u=>hj.done (HA.out trivial) u,hm⟩
 have HJ:=oH hj;have HC:=oH (aLr hown hj);clear hj HA;obtain⟨p0,p1,p2⟩:=bx.c3 rfl;go_wp2_with fail;go_loopw [6,19] (fun a i wr=>∃(k:Nat) (ag:Bool) (vis:List Int),k<=es.length/\i=.int .i64 k/\a=.bool ag/\JAt n es m vis/\Hid (ag=false->vis.length=vis0.length/\Shut' es k vis)/\Hid (ag=true->vis0.length<vis.length)/\Hid (vis0.length<=vis.length) /\
  Box wr w.heap.size [.int .i64 r,.int .i64 n,.slice A es.length c]/\wr.ownsRow (w.heap.size+1) 4 1 (.slice (some ⟨w.heap.size+1,0,none⟩) n n) n (aBM n vis)/\Mid 0 0 w wr) (fun _ i _=>es.length - (intOf i).toNat)
 case atStart=>exact⟨0,false,vis0,oZ,rfl,rfl,HJ.out,oH (fun _=>⟨rfl,Shut'.zero es vis0⟩),oH (fun h=>nomatch h),oH oN,bx,hown,hm⟩
 clear bx hown hm p0 p1 p2;obtain⟨k,ag,vis,hk,rfl,rfl,hj,HF,HT,HL,bx,hown,hm⟩:=hrel;obtain⟨p0,p1,p2⟩:=bx.c3 rfl;by_cases hlt:k<es.length
 .obtain⟨B,off,e,rfl, -,hbh,he,e0,e1,e2⟩:=(hr.mid hm oZl).ed hlt
  have hin:=HG.out.all e (List.mem_of_getElem? he);obtain⟨i1,i2,i3,i4,i5,i6⟩:=hin;have HE:=oH he;have hkn:(k:Int)<(es.length:Int):=by omega
  obtain⟨x,l,y⟩:=e;simp only at i1 i2 i3 i4 i5 i6 e0 e1 e2;obtain⟨ia,rfl⟩:∃ ia:Nat,x=ia:=⟨x.toNat,by omega⟩
  obtain⟨ib,rfl⟩:∃ ib:Nat,y=ib:=⟨y.toNat,by omega⟩
  have hia:ia<n:=by omega
  have hib:ib<n:=by omega
  have hin:InG r n ⟨(ia:Int),l,(ib:Int)⟩:=⟨i1,i2,i3,i4,i5,i6⟩
  have HIN:=oH hin;have hal:=Mid.alloc wr (.cells #[.int .i64 ia,.int .i64 l,.int .i64 ib] 110);have ZE:=Box.new wr #[.int .i64 ia,.int .i64 l,.int .i64 ib] 110;have bx1:=bx.mid hal oZr;have hown1:=hown.alloc (.cells #[.int .i64 ia,.int .i64 l,.int .i64 ib] 110);have hm1:=hm.trans hal;have hca:=(hown1.cellAt ia (by omega)).trans (aCI hia);have hcb:=(hown1.cellAt ib (by omega)).trans (aCI hib);have hfz:=fun i=>hown1.frozenAt i;have hgs:w.heap.size+1<wr.heap.size:=(hown.lt _ rfl).2;obtain⟨ba,hba⟩:∃ b:Bool,decide ((ia:Int)∈vis)=b:=⟨_,rfl⟩
  obtain⟨bb,hbb⟩:∃ b:Bool,decide ((ib:Int)∈vis)=b:=⟨_,rfl⟩
  rw[hba] at hca;rw[hbb] at hcb;clear he hin;cases ba
  .cases bb
   .have HD:Hid ((ia:Int)∈vis↔(ib:Int)∈vis):=oH (by rw[<- decide_eq_decide,hba,hbb])
    go_wp2_with fail;go_quiet (fail)
    go_wp2_with fail;go_roundw
    case rel=>exact⟨k+1,ag,vis,by omega,by go_num,rfl,hj,oH (fun h=>⟨(HF.out h).1,(HF.out h).2.succ HE.out (HD.out)⟩),HT,HL,bx1.drewN _,aBr hown1 _,hm1.drewN _⟩
    simp[intOf];omega
   have hne1:¬ ia=ib:=fun h=>by rw[h,hbb] at hba;cases hba
   have hne2:¬ ib=ia:=fun h=>hne1 h.symm;obtain⟨u,hju,hmem⟩:=hj.edge (List.mem_of_getElem? HE.out) HIN.out (by simp only[];rw[<- decide_eq_decide,hba,hbb];simp);have hset:=fun q=>aBA (aBA (aBr hown1 q) ia (.bool true) (aBG hia)) ib (.bool true) ((aBG hib).trans (aHO _ hmem));have hms:=fun q=>(Mid.storeNew (hm1.drewN q) (p:=⟨w.heap.size+1,ia,none⟩) (Nat.le_succ _) (.bool true)).storeNew (p:=⟨w.heap.size+1,ib,none⟩) (Nat.le_succ _) (.bool true);have hst:∀ q,Mid (w.heap.size+1) (w.heap.size+2) ((wr.alloc (.cells #[.int .i64 ia,.int .i64 l,.int .i64 ib] 110)).drewN q) ((((wr.alloc (.cells #[.int .i64 ia,.int .i64 l,.int .i64 ib] 110)).drewN q).setCell ⟨w.heap.size+1,ia,none⟩ (.bool true)).setCell ⟨w.heap.size+1,ib,none⟩ (.bool true)):=fun q=>(Mid.setAt _ _ _ _).trans (Mid.setAt _ _ _ _);have bx2:=fun q=>(bx1.drewN q).mid (hst q) (Or.inl oS);have HSET:=oH hset;clear hset;go_wp2_with fail;go_quiet (fail)
   go_wp2_with fail;go_roundw
   case rel=>
    refine⟨k+1,true,vis++[u],by omega,by go_num,rfl,hju,oH (fun h=>nomatch h),oH (fun _=>?_),oH ?_,bx2 _,HSET.out _,hms _⟩
    .have:=HL.out;simp;omega
    have:=HL.out;simp;omega
   simp[intOf];omega
  cases bb
  .have hne1:¬ ia=ib:=fun h=>by rw[h,hbb] at hba;cases hba
   have hne2:¬ ib=ia:=fun h=>hne1 h.symm;obtain⟨u,hju,hmem⟩:=hj.edge (List.mem_of_getElem? HE.out) HIN.out (by simp only[];rw[<- decide_eq_decide,hba,hbb];simp);have hset:=fun q=>aBA (aBA (aBr hown1 q) ia (.bool true) (aBG hia)) ib (.bool true) ((aBG hib).trans (aHO _ hmem));have hms:=fun q=>(Mid.storeNew (hm1.drewN q) (p:=⟨w.heap.size+1,ia,none⟩) (Nat.le_succ _) (.bool true)).storeNew (p:=⟨w.heap.size+1,ib,none⟩) (Nat.le_succ _) (.bool true);have hst:∀ q,Mid (w.heap.size+1) (w.heap.size+2) ((wr.alloc (.cells #[.int .i64 ia,.int .i64 l,.int .i64 ib] 110)).drewN q) ((((wr.alloc (.cells #[.int .i64 ia,.int .i64 l,.int .i64 ib] 110)).drewN q).setCell ⟨w.heap.size+1,ia,none⟩ (.bool true)).setCell ⟨w.heap.size+1,ib,none⟩ (.bool true)):=fun q=>(Mid.setAt _ _ _ _).trans (Mid.setAt _ _ _ _);have bx2:=fun q=>(bx1.drewN q).mid (hst q) (Or.inl oS);have HSET:=oH hset;clear hset;go_wp2_with fail;go_quiet (fail)
   go_wp2_with fail;go_roundw
   case rel=>
    refine⟨k+1,true,vis++[u],by omega,by go_num,rfl,hju,oH (fun h=>nomatch h),oH (fun _=>?_),oH ?_,bx2 _,HSET.out _,hms _⟩
    .have:=HL.out;simp;omega
    have:=HL.out;simp;omega
   simp[intOf];omega
  have HD:Hid ((ia:Int)∈vis↔(ib:Int)∈vis):=oH (by rw[<- decide_eq_decide,hba,hbb]);go_wp2_with fail;go_quiet (fail)
  go_wp2_with fail;go_roundw
  case rel=>exact⟨k+1,ag,vis,by omega,by go_num,rfl,hj,oH (fun h=>⟨(HF.out h).1,(HF.out h).2.succ HE.out (HD.out)⟩),HT,HL,bx1.drewN _,aBr hown1 _,hm1.drewN _⟩
  simp[intOf];omega
 obtain rfl:k=es.length:=by omega
 go_wp2_with fail;go_roundw
 case rel=>exact⟨ag,vis,rfl,hj,oH (fun h=>(HF.out h).2),bx,hown,hm⟩
 have h1:=HC.out;have h2:=aLr hown hj;have h3:=HL.out;have h4:=HT.out;have h5:=HJ.out.le;simp[aSP];cases ag
 .simp;omega
 have:=h4 rfl;simp;omega
section
open Go.RowKit
structure TreeSt (w:World) (g:Nat) (oB:Option Nat) (n:Nat) (vals:List Value) (st:BS):Prop where
 len:vals.length=n
 on:∀ p∈st,∃ b c,vals[p.1.toNat]?=some (.slice (some ⟨b,0,none⟩) p.2.length c)/\(∀ j u,(aAd p.2)[j]?=some u->w.cell? ⟨b,j,none⟩=some u)/\b≠g/\oB≠some b/\b<w.heap.size
 off:∀ u:Nat,u<n->(u:Int) ∉ st.map Prod.fst->vals[u]?=some (.slice none 0 0)
section
variable {w w':World} {g n:Nat} {oB oB':Option Nat} {vals:List Value} {st:BS}
theorem TreeSt.mid{a b:Nat}(h:TreeSt w g oB n vals st)(m:Mid 0 0 w w'):TreeSt w' g oB n vals st:=
 ⟨h.len,fun p hp=>by
  obtain⟨b,c,h1,h2,h3,h4,h5⟩:=h.on p hp;exact⟨b,c,h1,fun j u hu=>(World.cell?_of_block (m.block b h5 (by omega))).trans (h2 j u hu),h3,h4,Nat.lt_of_lt_of_le h5 m.size⟩,h.off⟩
theorem TreeSt.grow(h:TreeSt w g oB n vals st)(hg:w.grownBy w' oB)(hb:oB'=oB \/ ∃ k,oB'=some k/\w.heap.size<=k):TreeSt w' g oB' n vals st:=
 ⟨h.len,fun p hp=>by
  obtain⟨b,c,h1,h2,h3,h4,h5⟩:=h.on p hp;refine⟨b,c,h1,fun j u hu=>(World.cell?_of_block (hg.block b h5 (fun e=>h4 e.symm))).trans (h2 j u hu),h3,?_,Nat.lt_of_lt_of_le h5 hg.size⟩;rcases hb with rfl|⟨k,rfl,hk⟩
  .exact h4
  .intro e
   injection e with e
   omega,h.off⟩
theorem TreeSt.set{t b c:Nat}{wd:List Int}(h:TreeSt w g oB n vals st)(ht:t<n)(hn:(t:Int) ∉ st.map Prod.fst)(hst:∀ p∈st,0<=p.1)(hc:∀ j u,(aAd wd)[j]?=some u->w.cell? ⟨b,j,none⟩=some u)(hb:b≠g)(ho:oB≠some b)(hs:b<w.heap.size) :
  TreeSt (w.setCell ⟨g,t,none⟩ (.slice (some ⟨b,0,none⟩) wd.length c)) g oB n (vals.set t (.slice (some ⟨b,0,none⟩) wd.length c)) (st++[((t:Int),wd)]):=by
 have key:∀(b' j:Nat) (u v:Value),b'≠g->w.cell? ⟨b',j,none⟩=some u->(w.setCell ⟨g,t,none⟩ v).cell? ⟨b',j,none⟩=some u:=fun b' j u v hbg hc=>
  (World.cell?_setCell_other w _ _ v (by intro e;injection e with e;exact hbg e.symm)).trans hc
 refine⟨by rw[List.length_set];exact h.len,fun p hp=>?_,fun u hu hnu=>?_⟩
 .rcases List.mem_append.1 hp with hp|hp
  .obtain⟨b',c',h1,h2,h3,h4,h5⟩:=h.on p hp
   have hne:t≠p.1.toNat:=by
    intro e;apply hn;have:=hst p hp;rw[show(t:Int)=p.1 by omega];exact List.mem_map_of_mem hp
   refine⟨b',c',by rw[List.getElem?_set_ne hne];exact h1,fun j u hu=>key b' j u _ h3 (h2 j u hu),h3,h4,by simpa using h5⟩
  simp at hp;subst hp;refine⟨b,c,?_,fun j u hu=>key b j u _ hb (hc j u hu),hb,ho,by simpa using hs⟩;simp only[Int.toNat_natCast];rw[List.getElem?_set_self (by rw[h.len];exact ht)]
 rw[List.map_append,List.mem_append] at hnu;have hne:t≠u:=by
  intro e;subst e;exact hnu (.inr (by simp))
 rw[List.getElem?_set_ne hne];exact h.off u hu fun hm=>hnu (.inl hm)
theorem TreeSt.word{p:Int × List Int}(h:TreeSt w g oB n vals st)(hp:p∈st):∃ b c,vals[p.1.toNat]?=some (.slice (some ⟨b,0,none⟩) p.2.length c)/\RV w 0 w.heap.size (some ⟨b,0,none⟩) (aAd p.2):=by
 obtain⟨b,c,h1,h2,h3,h4,h5⟩:=h.on p hp;exact⟨b,c,h1,oN,fun _=>⟨b,0,rfl,oZ,h5,fun j u hu=>by rw[Nat.zero_add];exact h2 j u hu⟩⟩
end
section
variable {W:World} {ops:Array Oper} {rest:List Oper} {o:Oper} {a:Act} {Q:Exit->Act->World->Prop}
theorem aBl(hgd:o.guard=none)(s x:Operand)(ho:o.op=.call { callee:=.builtin .append,args:=#[s,x],argTypes:=#[44,44] })(lo:Nat)(A:Option Addr)(n c:Nat)(xs:List Int)(hs:a.eval s=.slice A n c)(hown:W.ownsRow lo 3 1 (.slice A n c) n (aAd xs))(y:Int)(hx:a.eval x=.slice (some ⟨W.heap.size,0,none⟩) 1 1)(hn:n<=1048576)(hb:lo<=W.heap.size)(h:∀ A' c' w',w'.ownsRow lo 3 1 (.slice A' (n+1) c') (n+1) (aAd (xs++[y]))->W.grownBy w' (Value.ownBlock (.slice A n c))->(Value.ownBlock (.slice A' (n+1) c')=Value.ownBlock (.slice A n c) \/ Value.ownBlock (.slice A' (n+1) c')=some (W.heap.size+1))->wpList Tryz.prog ops Q rest (a.put o.dst (.slice A' (n+1) c')) w') :
  wpList Tryz.prog ops Q (o::rest) a (W.alloc (.cells #[.int .i64 y] 3)):=by
 refine aAr (news:=[.int .i64 y]) hgd s x 44 ho lo 3 (.int .i64 0) 1 8 aBZ aCg rfl (by decide) (.slice A n c) n (aAd xs) hs hown 1 hx rfl ?_ (by unfold maxLen;omega) (by omega) hb ?_
 .intro u hu
  simp at hu;subst hu
  rfl
 intro v' w' h1 h2 h3;obtain⟨A',c',rfl, -, -⟩:=aAg h1;refine h A' c' w' ?_ h2 h3;rw[aAj];exact h1
end
theorem RV.grown{w w':World}{lo hi:Nat}{A:Option Addr}{cs:List Value}{row:Option Nat}(h:RV w lo hi A cs)(hg:w.grownBy w' row)(hd:∀ g,row=some g->g<lo \/ hi<=g):RV w' lo hi A cs:=
 ⟨Nat.le_trans h.1 hg.size,fun hn=>by
  obtain⟨g,off,e,h1,h2,hc⟩:=h.2 hn;have hs:=h.1;exact⟨g,off,e,h1,h2,fun j u hu=>(World.cell?_of_block (hg.block g (by omega) (fun e=>by have:=hd g e.symm;omega))).trans (hc j u hu)⟩⟩
theorem aQO(a:Addr)(n c:Nat)(W:World):(binOp .eql 44 (.slice (some a) n c) (.slice none 0 0)).run Tryz.prog W=.ok (.bool false) W:=Lib.run_eql_slice_nil W 44 3 (some a) n c 0 0 aBZ
theorem aQN(W:World):(binOp .eql 44 (.slice none 0 0) (.slice none 0 0)).run Tryz.prog W=.ok (.bool true) W:=Lib.run_eql_slice_nil W 44 3 none 0 0 0 0 aBZ
theorem aIx{es:List Ed}{L:List Int}{p:Int × List Int}{st:BS}{j:Nat}{x:Int}(h:L[j]?=some x):aBb es (L.take (j+1)) p st=aAH es p.1 p.2 (aBb es (L.take j) p st) x:=by
 unfold aBb;rw[aBu h,List.foldl_append]
 rfl
theorem aJE{es:List Ed}{L:List Int}{v:Int}{i:Nat}{p:Int × List Int}(h:(aAo es L v i)[i]?=some p):aAo es L v (i+1)=aBb es L p (aAo es L v i):=by
 show(match (aAo es L v i)[i]? with|none=>aAo es L v i|some p=>aBb es L p (aAo es L v i))=_
 rw[h]
theorem aIJ(r n v:Nat)(A:Option Addr)(es:List Ed)(c:Nat)(w:World)(lo hi:Nat)(hr:RG w lo hi A es)(hg:IsGr r n es)(hv:v<n) :
  Calls Tryz.prog 197 #[aAw r n A es.length c,.int .i64 v] w fun e w'=>∃ A1 c1,e=.returned (.tuple #[.slice A1 (aBO r es v).length c1,.slice (some ⟨w.heap.size+1,0,none⟩) n n])/\Mid 0 0 w w' /\
   w'.ownsRow (w.heap.size+2) 3 1 (.slice A1 (aBO r es v).length c1) (aBO r es v).length (aAd (aBO r es v)) /\
   ∃ vals,w'.ownsRow (w.heap.size+1) 44 1 (.slice (some ⟨w.heap.size+1,0,none⟩) n n) n vals/\TreeSt w' (w.heap.size+1) (Value.ownBlock (.slice A1 (aBO r es v).length c1)) n vals (bfs es (lets r) v):=by
 have hn40:n<=40:=by have:=hg.size;omega
 have hr3:r<=3:=by have:=hg.rank;omega
 have hl:=hg.len;have hmx:n<=maxLen:=by unfold maxLen;omega
 have hgl:∀ e∈es,1<=e.l/\e.l<=3:=fun e he=>by have:=hg.all e he;unfold InG at this;omega
 have hm0:Mid 0 0 w (w.alloc (.cells #[.int .i64 r,.int .i64 n,.slice A es.length c] 35)):=Mid.alloc _ _;have B0:=Box.new w #[.int .i64 r,.int .i64 n,.slice A es.length c] 35;have HG:=oH hg;have HGL:=oH hgl;have hv3:(v:Int)<(n:Int):=by omega
 have hv0:(0:Int)<=(v:Int):=by omega
 clear hg hgl;go_enter Tryz.func197,Tryz.ntmps197
 go_wp2_with (at_make;refine aCB rfl _ _ 24 rfl 44 (.slice none 0 0) 24 aKj aJQ rfl .i64 .i64 _ _ n rfl rfl rfl rfl (by omega) hmx ?_;intro w2 hown2 hgr2 hsz2;rw[World.size_alloc] at hown2 hsz2;have hfz:=hown2.frozenAt v;obtain⟨u0, -,hcs⟩:=aDv hown2 hv)
 have hm2:=hm0.trans (Mid.of_grown hgr2 (by intro g h;cases h));have B2:=B0.mid (Mid.of_grown (lo:=0) (hi:=0) hgr2 (by intro g h;cases h)) oZr;have hal:=Mid.alloc w2 (.cells #[] 3);replace B2:=B2.mid hal oZr;replace hm2:=hm2.trans hal;have hown3:=hown2.alloc (.cells #[] 3);have T0:TreeSt (w2.alloc (.cells #[] 3)) (w.heap.size+1) (some (w2.heap.size+1)) n (List.replicate n (.slice none 0 0)) []:=⟨by simp,by simp,fun u hu _=>by simp[hu]⟩
 have T1:=T0.set (t:=v) (b:=w2.heap.size) (c:=0) (wd:=[]) hv (by simp) (by simp) (by simp[aAd]) (by omega) (by intro e;injection e with e;omega) (by simp);have O1:=aBA hown3 v (.slice (some ⟨w2.heap.size,0,none⟩) 0 0) rfl;have hst:=Mid.setAt (w2.alloc (.cells #[] 3)) (w.heap.size+1) v (.slice (some ⟨w2.heap.size,0,none⟩) 0 0);have B3:=B2.mid hst (Or.inl oS);have hm3:=hm2.storeNew (p:=⟨w.heap.size+1,v,none⟩) (Nat.le_succ _) (.slice (some ⟨w2.heap.size,0,none⟩) 0 0);have heq:(w2.alloc (.cells #[] 3)).setCell ⟨w.heap.size+1,v,none⟩ (.slice (some ⟨w2.heap.size,0,none⟩) 0 0)=(w2.setCell ⟨w.heap.size+1,v,none⟩ (.slice (some ⟨w2.heap.size,0,none⟩) 0 0)).alloc (.cells #[] 3):=by go_simp
 rw[heq] at O1 B3 hm3;simp only[List.length_nil] at T1;rw[heq] at T1;generalize hw3:(w2.setCell ⟨w.heap.size+1,v,none⟩ (.slice (some ⟨w2.heap.size,0,none⟩) 0 0)).alloc (.cells #[] 3)=w3 at T1 O1 B3 hm3 |-;have hs3:w3.heap.size=w2.heap.size+1:=by rw[<- hw3];simp
 have hal3:=Mid.alloc w3 (.cells #[.int .i64 v] 3);have O2:(w3.alloc (.cells #[.int .i64 v] 3)).ownsRow (w.heap.size+2) 3 1 (.slice (some ⟨w2.heap.size+1,0,none⟩) 1 1) 1 (aAd [(v:Int)]):=by rw[<- hs3];exact aAp (World.ownsRow_lit (size:=1) w3 #[.int .i64 v] 1 oN (by simp[maxLen]) (by simp)) (by omega)
 have T2:=T1.mid (a:=0) (b:=0) hal3;have O3:=O1.alloc (.cells #[.int .i64 v] 3);replace B3:=B3.mid hal3 oZr;replace hm3:=hm3.trans hal3;have HT:=oH T2;clear hw3 T0 T1 T2 O1 hst hown2 hown3 hm2 B2 B0 hm0 hal hal3 hgr2 hcs hfz;go_loopw [7,8] (fun ord iv wr=>∃(i n1:Nat) (A1:Option Addr) (c1:Nat) (vals:List Value),i<=n1/\iv=.int .i64 i/\ord=.slice A1 n1 c1/\Hid ((aAo es (lets r) v i).length=n1) /\
   wr.ownsRow (w.heap.size+2) 3 1 (.slice A1 n1 c1) n1 (aAd ((aAo es (lets r) v i).map Prod.fst))/\wr.ownsRow (w.heap.size+1) 44 1 (.slice (some ⟨w.heap.size+1,0,none⟩) n n) n vals /\
   Hid (TreeSt wr (w.heap.size+1) (Value.ownBlock (.slice A1 n1 c1)) n vals (aAo es (lets r) v i))/\Box wr w.heap.size [.int .i64 r,.int .i64 n,.slice A es.length c]/\Mid 0 0 w wr) (fun _ i _=>(41 - intOf i).toNat)
 case atStart=>exact⟨0,1,_,1,_,oZ,rfl,rfl,oH rfl,O2,O3,HT,B3,hm3⟩
 clear O2 O3 HT B3 hm3 hs3;obtain⟨wo,hwo⟩:∃ wo,wo=wr:=⟨_,rfl⟩
 subst hwo;obtain⟨i,n1,A1,c1,vals,hin,rfl,rfl,HN,hord,hwor,HT,bx,hm⟩:=hrel;have hok:=aIe (L:=lets r) HG.out.all hv0 hv3 i;have hn1:n1<=40:=by have h1:=hok.len (by omega);have h2:=HN.out;omega
 have HOK:=oH hok;clear hok;by_cases hlt:i<n1
 .obtain⟨p,hp⟩:=aAs (aAo es (lets r) v i) (show i<(aAo es (lets r) v i).length by rw[HN.out];exact hlt)
  have hrng:=HOK.out.rng p (List.mem_of_getElem? hp);obtain⟨pu,wd⟩:=p;simp only at hrng;obtain⟨u,rfl⟩:∃ u:Nat,pu=u:=⟨pu.toNat,by omega⟩
  have hun:u<n:=by omega
  have hwl:=HOK.out.wl i _ hp;simp only at hwl;have HP:=oH hp;have hNX:=oH (aJE hp);obtain⟨g1,rfl,hg1,hg1s⟩:=aAU hord (show 0<n1 by omega);have hcu:wo.cell? ⟨g1,i,none⟩=some (.int .i64 u):=(hord.cellAt i (by omega)).trans (by rw[aAF,List.getElem?_map,hp];rfl);have hi0:(0:Int)<=(i:Int):=by omega
  have hi1:(i:Int)<(n1:Int):=by omega
  obtain⟨p0,p1,p2⟩:=bx.c3 rfl;clear hp;go_wp2_with fail;with_reducible refine(aFd r _ (by omega)).mono ?_
  rintro en w4 ⟨A4,c4,rfl,hL4,hm4⟩;have hdo:=fun g hg=>(hord.lt g hg).2;have hwo2:w.heap.size+1<wo.heap.size:=(hwor.lt _ rfl).2;replace bx:=bx.mid hm4 oZr;replace hord:=aAc hord hm4 oZl;replace hwor:=aAc hwor hm4 oZl;replace hm:=hm.trans hm4;replace HT:=oH (HT.out.mid (a:=0) (b:=0) hm4);clear p0 p1 p2 hcu;have HLL:=oH (aBL r);obtain⟨LL,hLL⟩:∃ LL,(lets r).length=LL:=⟨_,rfl⟩
  have hLL6:LL<=6:=by have:=HLL.out;omega
  rw[hLL];have HLn:=oH hLL;clear hLL;go_wp2_with fail;go_loopw [7,36] (fun ord jv wr=>∃(j n1:Nat) (A1:Option Addr) (c1:Nat) (vals:List Value),j<=LL/\jv=.int .i64 j/\ord=.slice A1 n1 c1/\Hid ((aBb es ((lets r).take j) ((u:Int),wd) (aAo es (lets r) v i)).length=n1) /\
    wr.ownsRow (w.heap.size+2) 3 1 (.slice A1 n1 c1) n1 (aAd ((aBb es ((lets r).take j) ((u:Int),wd) (aAo es (lets r) v i)).map Prod.fst))/\wr.ownsRow (w.heap.size+1) 44 1 (.slice (some ⟨w.heap.size+1,0,none⟩) n n) n vals /\
    Hid (TreeSt wr (w.heap.size+1) (Value.ownBlock (.slice A1 n1 c1)) n vals (aBb es ((lets r).take j) ((u:Int),wd) (aAo es (lets r) v i)))/\Hid (RV wr wo.heap.size w4.heap.size A4 (aAd (lets r)))/\Hid (∀ g,Value.ownBlock (.slice A1 n1 c1)=some g->g<wo.heap.size \/ w4.heap.size<=g)/\Box wr w.heap.size [.int .i64 r,.int .i64 n,.slice A es.length c]/\Mid 0 0 w wr) (fun _ j _=>LL - (intOf j).toNat)
  case atStart=>exact⟨0,n1,_,c1,vals,oZ,rfl,rfl,by rw[List.take_zero];exact HN,hord,hwor,by rw[List.take_zero];exact HT,oH hL4,oH (fun g hg=>.inl (hdo g hg)),bx,hm⟩
  clear hord hwor HT hL4 bx hm hdo hm4;obtain⟨j,n1,A1,c1,vals,hj,rfl,rfl,HN,hord,hwor,HT,HL4,HD,bx,hm⟩:=hrel;obtain⟨stj,hstj⟩:∃ st,aBb es ((lets r).take j) ((u:Int),wd) (aAo es (lets r) v i)=st:=⟨_,rfl⟩
  have hokj:BfsOk n (lets r) stj:=by rw[<- hstj];exact BfsOk.row HG.out.all _ (fun x hx=>List.mem_of_mem_take hx) HOK.out HP.out
  have hpj:stj[i]?=some ((u:Int),wd):=by rw[<- hstj];exact aAO (aCE _ _ _ _) HP.out
  rw[hstj] at HN hord HT;have hn1b:n1<=40:=by have h1:=hokj.len (by omega);have h2:=HN.out;omega
  have HOJ:=oH hokj;obtain⟨p0,p1,p2⟩:=bx.c3 rfl;by_cases hlt2:j<LL
  .obtain⟨B4,o4,x,rfl,hB4,hx,hcx⟩:=HL4.out.at (k:=j) (by rw[HLn.out];exact hlt2)
   have hxm:=aHt (List.mem_of_getElem? hx);have hnx:=aIx (es:=es) (p:=((u:Int),wd)) (st:=aAo es (lets r) v i) hx;rw[hstj] at hnx;simp only at hnx;have hj0:(0:Int)<=(j:Int):=by omega
   have hj1:(j:Int)<(LL:Int):=by omega
   obtain⟨bw,cw,hvw,hrvw⟩:=HT.out.word (List.mem_of_getElem? hpj);have hcs:=aBm HG.out.all (u:Int) x;have HVW:=oH hvw;have HPJ:=oH hpj;have HSJ:=oH hstj;have hu0:(0:Int)<=(u:Int):=by omega
   have hu1:(u:Int)<(n:Int):=by omega
   clear hvw hx hokj hpj hstj;go_wp2_with fail;with_reducible refine(aBc r n A es c u x _ lo hi (hr.mid hm oZl) (by omega) HGL.out (by omega) (by omega)).mono ?_
   rintro en w6 ⟨rfl,hm6⟩;replace bx:=bx.mid hm6 oZr;replace hord:=aAc hord hm6 oZl;replace hwor:=aAc hwor hm6 oZl;replace hm:=hm.trans hm6;replace HT:=oH (HT.out.mid (a:=0) (b:=0) hm6);replace HL4:=oH (HL4.out.mid hm6 oZl);replace hrvw:=(hrvw.mid hm6 oZl).wide oN hm6.size oN;generalize htx:aAe es (u:Int) x=t at hnx hcs |-;clear p0 p1 p2 hcx;by_cases ht0:t<0
   .have b1:decide (0<=t)=false:=by simp;omega
    have HNX:=oH (hnx.trans (by rw[aAH,htx,if_pos (.inl ht0)]:aAH es (u:Int) wd stj x=stj));clear hnx hcs ht0 htx;go_wp2_with fail;go_roundw
    case rel=>exact⟨j+1,n1,A1,c1,vals,by omega,by go_num,rfl,by rw[HNX.out];exact HN,by rw[HNX.out];exact hord,hwor,by rw[HNX.out];exact HT,HL4,HD,bx,hm⟩
    simp[intOf];omega
   obtain⟨tn,rfl⟩:∃ tn:Nat,t=tn:=⟨t.toNat,by omega⟩
   have htn:tn<n:=by omega
   have ht1:(tn:Int)<(n:Int):=by omega
   have ht2:(0:Int)<=(tn:Int):=by omega
   clear hcs ht0;by_cases hmem:(tn:Int)∈stj.map Prod.fst
   .obtain⟨p',hp',hpt⟩:=List.mem_map.1 hmem
    obtain⟨b',c',hval, -⟩:=HT.out.word hp';have hct:w6.cell? ⟨w.heap.size+1,tn,none⟩=some (.slice (some ⟨b',0,none⟩) p'.2.length c'):=(hwor.cellAt tn (by omega)).trans (by rw[<- hval,hpt];rfl);have HNX:=oH (hnx.trans (by rw[aAH,htx,if_pos (.inr hmem)]:aAH es (u:Int) wd stj x=stj));have hq:=fun W=>aQO ⟨b',0,none⟩ p'.2.length c' W;clear hnx htx hmem hval hp' hpt;go_wp2_with fail;go_roundw
    case rel=>exact⟨j+1,n1,A1,c1,vals,by omega,by go_num,rfl,by rw[HNX.out];exact HN,by rw[HNX.out];exact hord,hwor,by rw[HNX.out];exact HT,HL4,HD,bx,hm⟩
    simp[intOf];omega
   have hval:=HT.out.off tn htn hmem;have hct:w6.cell? ⟨w.heap.size+1,tn,none⟩=some (.slice none 0 0):=(hwor.cellAt tn (by omega)).trans hval;have hcw:w6.cell? ⟨w.heap.size+1,u,none⟩=some (.slice (some ⟨bw,0,none⟩) wd.length cw):=(hwor.cellAt u (by omega)).trans HVW.out;have HNX:=oH (hnx.trans (by rw[aAH,htx,if_neg (fun h=>h.elim (fun h=>by omega) hmem)]:aAH es (u:Int) wd stj x=stj++[((tn:Int),wd++[x])]));have HMEM:=oH hmem;have HVAL:=oH hval;have hlt6:=fun g hg=>(hord.lt g hg).2;have hws6:w.heap.size+1<w6.heap.size:=(hwor.lt _ rfl).2;have hq:=fun W=>aQN W;clear hnx htx hmem hval;go_wp2_with fail;with_reducible refine(aPZ (some ⟨bw,0,none⟩) wd cw _ _ _ hrvw (by omega)).mono ?_
   rintro en w7 ⟨g7,c7,rfl,hown7,hm7⟩;have HW7:=oH hown7;have HLT6:=oH hlt6;clear hown7 hct hcw hlt6;go_wp2_with (first|(at_builtin;refine aAv rfl _ _ rfl w6.heap.size (some ⟨g7,0,none⟩) wd.length c7 wd rfl HW7.out x rfl (by omega) hm7.size ?_;intro A8 c8 w8 hown8 hm8;obtain⟨g8,rfl,hg8a,hg8b⟩:=aAU hown8 (Nat.succ_pos _);have hm78:=hm7.transNew hm8 (Or.inl oN);have hwor8:=aAc hwor hm78 oZl;have hord8:=aAc hord hm78 oZl;have hct8:=(hwor8.cellAt tn (by omega)).trans HVAL.out;have hfz8:=hwor8.frozenAt tn;have hord9:=hord8.kept (aCZ w8 (w.heap.size+1) tn (.slice (some ⟨g8,0,none⟩) (wd.length+1) c8)) (aBP hord8 hwor8 (by decide));have HO9:=oH hord9;have hsz9:w.heap.size+2<=w8.heap.size:=Nat.le_trans hws6 hm78.size;clear hord9 hwor hord)|(at_builtin;refine aBl rfl _ _ rfl (w.heap.size+2) A1 n1 c1 (stj.map Prod.fst) rfl HO9.out tn (by rw[World.size_setCell];rfl) (by omega) (by simp;omega) ?_;intro A10 c10 w10 hord10 hgr10 hat10))
   have T8:=HT.out.mid (a:=0) (b:=0) hm78;have T9:=T8.set (t:=tn) (b:=g8) (c:=c8) (wd:=wd++[x]) htn HMEM.out (fun p hp=>(HOJ.out.rng p hp).1) (fun j u hu=>(hown8.cellAt j (by have:=(List.getElem?_eq_some_iff.1 hu).1;simp[aAd] at this;omega)).trans hu) (by omega) (fun e=>by have:=HLT6.out g8 e;omega) hg8b;rw[show(wd++[x]).length=wd.length+1 by simp] at T9;have T10:=T9.grow hgr10 (hat10.imp id fun h=>⟨_,h,by simp⟩);have hwor9:=aBA hwor8 tn (.slice (some ⟨g8,0,none⟩) (wd.length+1) c8) rfl;have hwor10:=hwor9.kept hgr10 (aBP hwor9 HO9.out (by decide));have hst:=Mid.setAt w8 (w.heap.size+1) tn (.slice (some ⟨g8,0,none⟩) (wd.length+1) c8);have hm10:=Mid.of_grownRow HO9.out hgr10;have bx10:=((bx.mid hm78 oZr).mid hst (Or.inl oS)).mid hm10 (Or.inl (by omega));have hL10:=((HL4.out.mid hm78 oZl).mid hst (Or.inl (by omega))).grown hgr10 HD.out;have hmm10:=((hm.trans hm78).storeNew (p:=⟨w.heap.size+1,tn,none⟩) (Nat.le_succ _) (.slice (some ⟨g8,0,none⟩) (wd.length+1) c8)).transNew hm10 (Or.inl (by omega));have hmap:(stj++[((tn:Int),wd++[x])]).map Prod.fst=stj.map Prod.fst++[(tn:Int)]:=by simp
   have HMAP:=oH hmap;have hw46:w4.heap.size<=w8.heap.size:=Nat.le_trans HL4.out.1 hm78.size;have HD10:Hid (∀ g,Value.ownBlock (.slice A10 (n1+1) c10)=some g->g<wo.heap.size \/ w4.heap.size<=g):=oH (by
    intro g hg;rcases hat10 with h|h
    .exact HD.out g (h.symm.trans hg)
    .rw[h] at hg
     injection hg with hg
     simp at hg;omega)
   have HT10:=oH T10;have HL10:=oH hL10;clear T8 T9 T10 hL10 hmap hat10 hgr10;go_wp2_with fail;go_roundw
   case rel=>exact⟨j+1,n1+1,A10,c10,_,by omega,by go_num,rfl,oH (by rw[HNX.out,List.length_append,HN.out];rfl),by rw[HNX.out,HMAP.out];exact hord10,hwor10,by rw[HNX.out];exact HT10,HL10,HD10,bx10,hmm10⟩
   simp[intOf];omega
  obtain rfl:j=LL:=by omega
  have htk:(lets r).take j=lets r:=List.take_of_length_le (by rw[HLn.out];exact oN);rw[htk] at hstj;have hnx:=hNX.out;rw[hstj] at hnx;have HNX:=oH hnx;clear hnx hstj;have hin1:i+1<=n1:=by have h1:=(List.getElem?_eq_some_iff.1 hpj).1;have h2:=HN.out;omega
  go_wp2_with fail;go_roundw
  case rel=>exact⟨i+1,n1,A1,c1,vals,hin1,by go_num,rfl,by rw[HNX.out];exact HN,by rw[HNX.out];exact hord,hwor,by rw[HNX.out];exact HT,bx,hm⟩
  simp[intOf];omega
 obtain rfl:i=n1:=by omega
 have hbf:=aSO (L:=lets r) HG.out.all hv0 hv3 (by omega) HN.out;have hord':aBO r es v=(aAo es (lets r) v i).map Prod.fst:=by rw[aBO,Int.toNat_natCast,hbf]
 have hlen:(aBO r es v).length=i:=by rw[hord',List.length_map];exact HN.out
 have HORD:=oH hord';have HLEN:=oH hlen;have HBF:=oH hbf;clear hbf hord' hlen;go_wp2_with fail;go_ret2;exact⟨A1,c1,by rw[HLEN.out];rfl,hm,by rw[HLEN.out,HORD.out];exact hord,vals,hwor,by rw[HLEN.out,HBF.out];exact HT.out⟩
end
end Go.Proofs.YtkimajabegojoaaGreat
