/- Contracts and lemmas of this seat, many texts in one: see the words ahead of each. No condition beyond those typed in each lemma. -/
import Derived.Test.YthampgpcajmopaaGreatJn2
import Derived.Laws.StructEq
import Derived.Lib.OwnBridge
import Derived.Test.YthampgpcajmopaaGreatJn1
import Derived.BigQuiet
import Derived.Deep.RegionHeld3
import Derived.Deep.DrawnRows
import Derived.StillTail

namespace Go.Proofs.YthampgpcajmopaaGreat
set_option linter.unusedVariables false
set_option linter.unusedSimpArgs false
set_option maxHeartbeats 40000000
set_option maxRecDepth 100000
section
open Go.RowKit Go.Shelf Go.Lib Go.Sort
instance:Inhabited Ed:=⟨⟨0,0,0⟩⟩
def encE (e:Ed):List Value:=[.int .i64 e.a,.int .i64 e.l,.int .i64 e.b]
theorem encE_get {e:Ed} {i:Nat} {v:Value} (h:(encE e)[i]?=some v):(i=0∧v=.int .i64 e.a) ∨ (i=1∧v=.int .i64 e.l) ∨ (i=2∧v=.int .i64 e.b):=by
 rcases i with _ | _ | _ | i
 ·left;simp [encE] at h;exact ⟨rfl,h.symm⟩
 ·right;left;simp [encE] at h;exact ⟨rfl,h.symm⟩
 ·right;right;simp [encE] at h;exact ⟨rfl,h.symm⟩
 ·simp [encE] at h
theorem eqB (x y:Ed):(x.a == y.a && x.l == y.l && x.b == y.b)=decide (x=y):=by
 rw [Bool.eq_iff_iff];simp;constructor
 ·rintro ⟨⟨h1,h2⟩,h3⟩;exact Ed.ext' h1 h2 h3
 ·rintro rfl;exact ⟨⟨rfl,rfl⟩,rfl⟩
theorem eqlEd:EqlAt Tryz.prog 68 (fun x=>.agg (encE x).toArray) (fun x y=>decide (x=y)):=by
 refine ⟨fun x y w=>?_,GuardAt.agg _ (by kernel_rfl)⟩;have u3:=Tryz.underlying3;have a3:=Tryz.isAgg3;have z3:=Tryz.sizeOf3;have hS:Tryz.prog.underlying 68=some (.struct (Tryz.prog.fieldsOf 68)):=by kernel_rfl
 have hp:Tryz.prog.stoodInHeld 68=false:=by kernel_rfl
 simp only [← eqB,encE];rw [run_eql_struct,show (10000:Nat)=9999+1 from rfl,run_equalIn_agg w 9999 68 _ _ hS hp];simp only [Program.fieldsOf,Tryz.underlying68];go_simp;by_cases h1:x.a=y.a <;> by_cases h2:x.l=y.l <;> by_cases h3:x.b=y.b <;> simp [h1,h2,h3]
theorem neqEd:NeqAt Tryz.prog 68 (fun x=>.agg (encE x).toArray) (fun x y=>decide (x=y)):=by
 refine ⟨fun x y w=>?_,GuardAt.agg _ (by kernel_rfl)⟩;have u3:=Tryz.underlying3;have a3:=Tryz.isAgg3;have z3:=Tryz.sizeOf3;have hS:Tryz.prog.underlying 68=some (.struct (Tryz.prog.fieldsOf 68)):=by kernel_rfl
 have hp:Tryz.prog.stoodInHeld 68=false:=by kernel_rfl
 simp only [← eqB,encE];rw [run_neq_struct,show (10000:Nat)=9999+1 from rfl,run_equalIn_agg w 9999 68 _ _ hS hp];simp only [Program.fieldsOf,Tryz.underlying68];go_simp;by_cases h1:x.a=y.a <;> by_cases h2:x.l=y.l <;> by_cases h3:x.b=y.b <;> simp [h1,h2,h3]
theorem eqlEd_run (e f:Ed) {v:Bool} (h:decide (e=f)=v) (w:World):Sem.run Tryz.prog (binOp .eql 68 e.v f.v) w=.ok (.bool v) w:=h ▸ eqlEd.1 e f w
theorem guardEd (e f:Ed) (op:BinOp) (a b:Operand) (w:World):Sem.run Tryz.prog (eqGuard op 68 a b e.v f.v) w=.ok () w:=eqlEd.2 op a b e f w
theorem neqEd_run (e f:Ed) {v:Bool} (h:decide (e≠f)=v) (w:World):Sem.run Tryz.prog (binOp .neq 68 e.v f.v) w=.ok (.bool v) w:=by
 have h1:(!decide (e=f))=v:=by rw [← h];simp
 exact h1 ▸ neqEd.1 e f w
theorem RG.encs {w:World} {lo hi b off:Nat} {es:List Ed} (h:RG w lo hi (some ⟨b,off,none⟩) es):∀ j,j < es.length→∀ i v,(encE es[j]!)[i]?=some v→w.cell? ⟨b,off+j * 3+i,none⟩=some v:=by
 intro j hj i v hv;obtain ⟨b',off',e,hA, -, -,he,c0,c1,c2⟩:=h.ed hj;injection hA with hA
 injection hA with h1 h2
 subst h1 h2;rw [List.getElem!_eq_getElem?_getD,he] at hv;rcases encE_get hv with ⟨rfl,rfl⟩ | ⟨rfl,rfl⟩ | ⟨rfl,rfl⟩
 ·exact c0
 ·exact c1
 ·exact c2
theorem RG.addr {w:World} {lo hi:Nat} {A:Option Addr} {es:List Ed} (h:RG w lo hi A es) (hn:es≠[]):∃ b off,A=some ⟨b,off,none⟩:=by
 obtain ⟨b,off,hA, -⟩:=h.2 (by intro h0;have:=congrArg List.length h0;rw [ints_len,edI_len] at this;simp at this;exact hn (List.eq_nil_of_length_eq_zero (by omega)));exact ⟨b,off,hA⟩
theorem index_nil (A:Option Addr) (c:Nat) (e:Ed) (w:World) :
  Calls Tryz.prog 196 #[.slice A 0 c,e.v] w fun en w'=>en=.returned (.int .i64 (-1))∧Mid 0 0 w w':=by
 obtain ⟨a,l,b⟩:=e;go_enter Tryz.func196,Tryz.ntmps196
 go_wp2_with fail;go_loop [8] (fun i=>i=.int .i64 0) (fun _=>0)
 case atStart=>rfl
 case round =>
  subst hrel;go_wp2_with fail;go_ret;exact ⟨rfl,Mid.alloc _ _⟩
theorem contains_nil (A:Option Addr) (c:Nat) (e:Ed) (w:World) :
  Calls Tryz.prog 141 #[.slice A 0 c,e.v] w fun en w'=>en=.returned (.bool false)∧Mid 0 0 w w':=by
 obtain ⟨a,l,b⟩:=e;go_enter Tryz.func141,Tryz.ntmps141
 go_wp2_with fail;with_reducible refine (index_nil A c ⟨a,l,b⟩ _).mono ?_
 rintro en w1 ⟨rfl,hm⟩;go_wp2_with fail;go_ret;exact ⟨rfl,(Mid.alloc _ _).trans hm⟩
theorem containsE (A:Option Addr) (es:List Ed) (c:Nat) (e:Ed) (w:World) (lo hi:Nat) (hr:RG w lo hi A es) (hl:es.length≤1048576) :
  Calls Tryz.prog 141 #[.slice A es.length c,e.v] w fun en w'=>en=.returned (.bool (decide (e∈es)))∧Mid 0 0 w w':=by
 by_cases hn:es=[]
 ·subst hn
  exact contains_nil A c e w
 ·obtain ⟨b,off,rfl⟩:=hr.addr hn
  refine (AnyQ.slices_Contains Tryz.containsEd 3 Tryz.isAgg68 Tryz.sizeOf68 encE (fun _=>rfl) _ eqlEd b off es.length c es e w (Nat.le_refl _) (by omega) hr.encs).mono ?_;rintro en w' ⟨he,hb⟩;refine ⟨he.trans ?_,Mid.of_below hb⟩;rw [List.take_length]
  congr 2
  rw [Bool.eq_iff_iff];simp
theorem allEq_iff (xs ys:List Ed):Lib.allEq (fun x y=>decide (x=y)) xs ys=decide (xs=ys):=by
 rw [Bool.eq_iff_iff,decide_eq_true_iff]
 induction xs generalizing ys with
 | nil=>cases ys <;> simp [Lib.allEq]
 | cons x t ih =>
  cases ys with
  | nil=>simp [Lib.allEq]
  | cons y s =>
   have:=ih s;simp [Lib.allEq,this]
theorem equal_nil (A A':Option Addr) (n c c':Nat) (es:List Ed) (w:World) (lo hi:Nat) (hr:RG w lo hi A es) (hn:es.length≤1048576) :
  Calls Tryz.prog 188 #[.slice A es.length c,.slice A' 0 c'] w fun en w'=>en=.returned (.bool (decide (es.length=0)))∧Mid 0 0 w w':=by
 by_cases h0:es.length=0
 ·have hd:decide (es.length=0)=true:=by simp [h0]
  rw [hd,h0];go_enter Tryz.func188,Tryz.ntmps188
  go_wp2_with fail;go_loop [13] (fun i=>i=.int .i64 0) (fun _=>0)
  case atStart=>rfl
  case round =>
   subst hrel;go_wp2_with fail;go_ret;exact ⟨rfl,Mid.refl _ _ _⟩
 ·have hd:decide (es.length=0)=false:=by simp [h0]
  rw [hd];have h1:((es.length:Int) != 0)=true:=by first | (simp only [bne_iff_ne,ne_eq];omega) | (simp only [beq_eq_false_iff_ne,ne_eq];omega)
  go_enter Tryz.func188,Tryz.ntmps188
  go_wp2_with fail;go_ret;exact ⟨rfl,Mid.refl _ _ _⟩
theorem equal_nil' (A A':Option Addr) (c c':Nat) (es:List Ed) (w:World) (hn:es≠[]) (hl:es.length≤1048576) :
  Calls Tryz.prog 188 #[.slice A 0 c,.slice A' es.length c'] w fun en w'=>en=.returned (.bool false)∧Mid 0 0 w w':=by
 have h0:0 < es.length:=List.length_pos_iff.2 hn;have h1:((0:Int) != (es.length:Int))=true:=by first | (simp only [bne_iff_ne,ne_eq];omega) | (simp only [beq_eq_false_iff_ne,ne_eq];omega)
 have h2:((0:Int) == (es.length:Int))=false:=by first | (simp only [bne_iff_ne,ne_eq];omega) | (simp only [beq_eq_false_iff_ne,ne_eq];omega)
 go_enter Tryz.func188,Tryz.ntmps188
 go_wp2_with fail;go_ret;exact ⟨rfl,Mid.refl _ _ _⟩
theorem equalE (A A':Option Addr) (es fs:List Ed) (c c':Nat) (w:World) (lo hi lo' hi':Nat) (hr:RG w lo hi A es) (hr':RG w lo' hi' A' fs) (hl:es.length≤1048576) (hl':fs.length≤1048576) :
  Calls Tryz.prog 188 #[.slice A es.length c,.slice A' fs.length c'] w fun en w'=>en=.returned (.bool (decide (es=fs)))∧Mid 0 0 w w':=by
 by_cases hf:fs=[]
 ·subst hf
  have:=equal_nil A A' 0 c c' es w lo hi hr hl;have hd:decide (es.length=0)=decide (es=[]):=by simp [List.length_eq_zero_iff]
  rw [hd] at this;exact this
 ·by_cases hn:es=[]
  ·subst hn
   have hd:decide ([]=fs)=false:=by simpa using fun h=>hf h
   rw [hd];exact equal_nil' A A' c c' fs w hf hl'
  ·obtain ⟨b,off,rfl⟩:=hr.addr hn
   obtain ⟨b',off',rfl⟩:=hr'.addr hf;refine (AnyQ.slices_Equal Tryz.equalEd 3 Tryz.isAgg68 Tryz.sizeOf68 encE (fun _=>rfl) _ neqEd b off es.length c b' off' fs.length c' es fs w (Nat.le_refl _) (Nat.le_refl _) (by omega) (by omega) hr.encs hr'.encs).mono ?_;rintro en w' ⟨he,q,rfl⟩;refine ⟨he.trans ?_,(Mid.refl 0 0 w).drewN q⟩;rw [List.take_length,List.take_length,allEq_iff]
theorem alloc2_grow (W:World) (o1 o2:Obj):(W.alloc o1).alloc o2=grow (W.drewN 0) (#[o1]++#[o2]):=by
 rw [alloc_eq_grow,alloc_eq_grow,grow_grow]
 rfl
theorem cmpE_call (x y:Ed) (W:World) :
  Calls Tryz.prog 171 #[.agg (encE x).toArray,.agg (encE y).toArray] W fun e w'=>e=.returned (.int .i64 (cmpE x y))∧∃ q os',w'=grow (W.drewN q) os' :=
 (impl_CompareEdgesW x y W).mono fun _ _ ⟨h,hw⟩=>⟨h,0,_,hw.symm.trans (alloc2_grow _ _ _)⟩
theorem cmpE_swo:SWO (ltOf cmpE) where
 irrefl x:=by
  simp only [ltOf,decide_eq_false_iff_not];exact fun h=>LtE.irrefl x (cmpE_neg.1 h)
 trans x y z h1 h2:=by
  simp only [ltOf,decide_eq_true_iff] at *;exact cmpE_neg.2 ((cmpE_neg.1 h1).trans (cmpE_neg.1 h2))
 ntrans x y z h1 h2:=by
  simp only [ltOf,decide_eq_false_iff_not] at *;have n1:¬ LtE x y:=fun h=>h1 (cmpE_neg.2 h);have n2:¬ LtE y z:=fun h=>h2 (cmpE_neg.2 h);have:¬ LtE x z:=by
   intro h;rcases LtE.tri x y with h3 | rfl | h3
   ·exact n1 h3
   ·exact n2 h
   ·exact n2 (h3.trans h)
  exact fun h=>this (cmpE_neg.1 h)
theorem flatE (d:Array Ed):(flatK encE 3 d).toList=ints (edI d.toList):=by
 apply List.ext_getElem?;intro t;by_cases ht:t < d.size * 3
 ·obtain ⟨k,r,hr,rfl⟩:∃ k r,r < 3∧t=k * 3+r:=⟨t / 3,t % 3,by omega,by omega⟩
  have hk:k < d.size:=by omega
  have h1:(k * 3+r) / 3=k:=by omega
  have h2:(k * 3+r) % 3=r:=by omega
  obtain ⟨g0,g1,g2⟩:=edI_at (es:=d.toList) (k:=k) (e:=d[k]) (by simp);rw [Array.getElem?_toList,ints_get];simp only [flatK,Array.getElem?_map,Array.getElem?_range,if_pos ht,Option.map_some,h1,h2,getElem!_pos d k hk];rcases r with _ | _ | _ | r
  ·rw [Nat.add_zero,g0];rfl
  ·rw [g1];rfl
  ·rw [g2];rfl
  ·omega
 ·rw [List.getElem?_eq_none (by simp;omega),List.getElem?_eq_none (by rw [ints_len,edI_len];simp;omega)]
theorem owns_putV {w:World} {base:Nat} {e:TypeId} {size g n cap q:Nat} {xs:List Value} {d:Array Value} (h:w.ownsRow base e size (.slice (some ⟨g,0,none⟩) n cap) n xs) (hd:d.size=n * size) :
  (putRow id (Sort.ahead w q) g 0 d).ownsRow base e size (.slice (some ⟨g,0,none⟩) n cap) n d.toList:=by
 rcases h.2 with ⟨e0,_⟩ | ⟨g',cap',cur,e0,hb,hg,hn,hm,hs,ht⟩
 ·cases e0
 ·injection e0 with e1 _ e3
  injection e1 with e1
  injection e1 with e1
  subst e1;subst e3;have hle:n * size≤cap * size:=Nat.mul_le_mul_right _ hn;refine ⟨by simpa using hd,.inr ⟨g,cap,putCells id 0 d cur,rfl,hb,?_,hn,hm,by simpa [putCells] using hs,?_⟩⟩
  ·simp [putRow,mapBlock,Sort.ahead,Array.getElem?_modify,hg,onCells]
  ·apply List.ext_getElem?
   intro j;rw [List.getElem?_take,Array.getElem?_toList,Array.getElem?_toList];by_cases hj:j < n * size
   ·have hjc:j < cur.size:=by omega
    simp only [if_pos hj,putCells,Array.getElem?_mapIdx,Array.getElem?_eq_getElem hjc,Option.map_some];rw [if_pos (by simp;omega),Array.getElem?_eq_getElem (by omega)];simp [getElem!_pos,show j < d.size by omega]
   ·rw [if_neg hj,Array.getElem?_eq_none (by omega)]
theorem put_grown {w:World} {g n:Nat} {d:Array Value} {os:Array Obj}:w.grownBy (grow (putRow id (Sort.ahead w n) g 0 d) os) (some g):=by
 refine ⟨rfl,rfl,rfl,by simp,fun k hk hne=>?_⟩;rw [heap_grow_old _ _ (by simpa using hk)];have:g≠k:=fun e=>hne (by rw [e]);simp [putRow,mapBlock,Sort.ahead,Array.getElem?_modify,this]
theorem owns_growV {w:World} {base:Nat} {e:TypeId} {size:Nat} {v:Value} {n:Nat} {xs:List Value} (h:w.ownsRow base e size v n xs) (os:Array Obj):(grow w os).ownsRow base e size v n xs:=by
 refine ⟨h.1,?_⟩;rcases h.2 with hn | ⟨g,cap,cur,rfl,hb,hh,rest⟩
 ·exact .inl hn
 ·refine .inr ⟨g,cap,cur,rfl,hb,?_,rest⟩
  rw [heap_grow_old _ _ (Array.getElem?_eq_some_iff.1 hh).1];exact hh
theorem sortE (g:Nat) (es:List Ed) (c:Nat) (w:World) (lo:Nat) (ho:w.ownsRow lo 68 3 (.slice (some ⟨g,0,none⟩) es.length c) es.length (ints (edI es))) (hl:es.length≤1048576) :
  Calls Tryz.prog 172 #[.slice (some ⟨g,0,none⟩) es.length c,.func (.func 171) #[] #[]] w fun e w' =>
   e=.returned (.tuple #[])∧∃ fs,fs.length=es.length∧fs.Perm es∧fs.Pairwise (fun x y=>¬ LtE y x)∧w'.ownsRow lo 68 3 (.slice (some ⟨g,0,none⟩) es.length c) es.length (ints (edI fs))∧w.grownBy w' (some g):=by
 have hg:=ho.lt g rfl;have hH:HoldsK encE 3 w g 0 es.toArray:=by
  intro j hj;rw [size_flatK] at hj;have hj':j < es.length * 3:=by simpa using hj
  refine ⟨?_,ho.frozenAt _⟩;rw [Nat.zero_add,ho.cellAt j hj'];have:=flatE es.toArray;rw [show es.toArray.toList=es from rfl] at this;rw [← this,Array.getElem?_toList,Array.getElem?_eq_getElem (by rw [size_flatK];exact hj)];rw [getElem!_pos _ _ (by rw [size_flatK];exact hj)]
  rfl
 have eg:∀ args w,(callFunc 171 args).run Tryz.prog w=.ok (.enter 171 args) w:=enters_of Tryz.func171 (by kernel_rfl) rfl;have hcon:=AnyQ.slices_SortFunc Tryz.sortEd 3 Tryz.isAgg68 Tryz.sizeOf68 encE (fun _=>rfl) (fun x v hv=>by simp [encE] at hv;rcases hv with rfl | rfl | rfl <;> rfl) cmpE cmpE_swo 171 #[] g 0 c es.toArray w eg (fun _ _ _ _ x y=>cmpE_call x y _) hH hg.2 (by simp;omega);refine (show Calls Tryz.prog 172 _ _ _ from hcon).mono ?_;rintro e w' ⟨he,d,n,os,hp,hs,rfl⟩;obtain ⟨hsz, -,hperm⟩:=hp;have hsz':d.size=es.length:=by simpa using hsz
 have hperm':d.toList.Perm es:=by
  rw [show d.extract 0 es.toArray.size=d by rw [show es.toArray.size=d.size by simp [hsz']];simp] at hperm
  simpa using hperm
 refine ⟨he,d.toList,by simpa using hsz',hperm',?_,?_,put_grown⟩
 ·refine List.pairwise_iff_getElem.2 fun i j hi hj hij=>?_
  have h:=hs i j (Nat.zero_le _) hij (by simpa [hsz'] using hj);have hi':i < d.size:=by simpa using hi
  have hj':j < d.size:=by simpa using hj
  rw [getElem!_pos d i hi',getElem!_pos d j hj'] at h;simp only [ltOf,decide_eq_false_iff_not] at h;intro hlt;exact h (cmpE_neg.2 (by simpa using hlt))
 ·have h2:=owns_putV (q:=n) (d:=flatK encE 3 d) ho (by rw [size_flatK,hsz'])
  rw [flatE] at h2;exact owns_growV h2 os
end
def compStep (out:List Ed) (e:Ed):List Ed:=if out.getLast?=some e then out else out++[e]
def compE (es:List Ed):List Ed:=es.foldl compStep []
theorem compE_snoc (xs:List Ed) (e:Ed):compE (xs++[e])=compStep (compE xs) e:=by simp [compE]
theorem compStep_last (out:List Ed) (e:Ed):(compStep out e).getLast?=some e:=by
 unfold compStep;split
 ·assumption
 ·simp
theorem take_snoc {es:List Ed} {k:Nat} {e:Ed} (h:es[k]?=some e):es.take (k+1)=es.take k++[e]:=by
 obtain ⟨hk,h'⟩:=List.getElem?_eq_some_iff.1 h;rw [List.take_succ_eq_append_getElem hk,h']
theorem compE_take {es:List Ed} {k:Nat} {e:Ed} (h:es[k]?=some e):compE (es.take (k+1))=compStep (compE (es.take k)) e:=by rw [take_snoc h,compE_snoc]
theorem compE_last {es:List Ed} {k:Nat} {e:Ed} (h:es[k]?=some e):(compE (es.take (k+1))).getLast?=some e:=by rw [compE_take h];exact compStep_last _ _
theorem mem_compStep {out:List Ed} {e x:Ed}:x∈compStep out e↔x∈out ∨ x=e:=by
 unfold compStep;split
 ·rename_i h
  have:=List.mem_of_getLast? h;constructor
  ·exact .inl
  ·rintro (h | rfl)
   ·exact h
   ·exact this
 ·simp
theorem snoc_ind {p:List Ed→Prop} (h0:p []) (h1:∀ xs e,p xs→p (xs++[e])) (xs:List Ed):p xs:=by
 rw [← List.reverse_reverse xs]
 induction xs.reverse with
 | nil=>exact h0
 | cons e t ih=>rw [List.reverse_cons];exact h1 _ _ ih
theorem mem_compE {xs:List Ed} {x:Ed}:x∈compE xs↔x∈xs:=by
 induction xs using snoc_ind with
 | h0=>simp [compE]
 | h1 xs e ih=>rw [compE_snoc,mem_compStep,ih];simp
theorem compE_asc {xs:List Ed} (h:xs.Pairwise fun x y=>¬ LtE y x):Asc (compE xs):=by
 induction xs using snoc_ind with
 | h0=>exact List.Pairwise.nil
 | h1 xs e ih =>
  obtain ⟨h1, -,h2⟩:=List.pairwise_append.1 h;have ha:=ih h1;rw [compE_snoc];unfold compStep;split
  ·exact ha
  ·rename_i hl
   refine List.pairwise_append.2 ⟨ha,by simp,fun y hy z hz=>?_⟩;simp at hz;subst hz;have h3:=h2 y (mem_compE.1 hy) z (by simp);rcases LtE.tri y z with h4 | rfl | h4
   ·exact h4
   ·exfalso
    obtain ⟨ys,l,hcl⟩:∃ ys l,compE xs=ys++[l]:=by
     rcases List.eq_nil_or_concat (compE xs) with h0 | ⟨ys,l,h0⟩
     ·rw [h0] at hy;simp at hy
     ·exact ⟨ys,l,by rw [h0,List.concat_eq_append]⟩
    have hly:l≠y:=by
     intro e;subst e;apply hl;rw [hcl];simp
    have hy':y∈ys:=by
     rw [hcl] at hy;rcases List.mem_append.1 hy with h | h
     ·exact h
     ·simp at h;exact absurd h.symm hly
    rw [hcl] at ha;obtain ⟨-, -,h5⟩:=List.pairwise_append.1 ha;have h6:=h5 y hy' l (by simp);have hlx:l∈xs:=mem_compE.1 (by rw [hcl];simp);exact h2 l hlx y (by simp) h6
   ·exact absurd h4 h3
theorem compE_canon {xs es:List Ed} (h:xs.Pairwise fun x y=>¬ LtE y x) (hp:xs.Perm es):compE xs=canon es :=
 canon_eq (compE_asc h) fun e=>by rw [mem_compE];exact hp.mem_iff
structure CompAt (es:List Ed) (j kk:Nat) (ys:List Ed):Prop where
 len:ys.length=es.length
 lt:kk < j
 cnt:kk=(compE (es.take j)).length
 low:ys.take kk=compE (es.take j)
 high:∀ i,kk≤i→ys[i]?=es[i]?
theorem CompAt.start {es:List Ed} {k:Nat} {e:Ed} (h:compE (es.take k)=es.take k) (h0:0 < k) (hk:es[k]?=some e) (hp:es[k - 1]?=some e):CompAt es (k+1) k es:=by
 have hkl:=(List.getElem?_eq_some_iff.1 hk).1;have hl:(compE (es.take k)).getLast?=some e:=by
  have:=compE_last hp
  rwa [Nat.sub_add_cancel h0] at this
 have hc:compE (es.take (k+1))=es.take k:=by
  rw [compE_take hk,compStep,if_pos hl,h]
 exact ⟨rfl,by omega,by rw [hc,List.length_take];omega,hc.symm,fun _ _=>rfl⟩
theorem CompAt.skip {es ys:List Ed} {j kk:Nat} {e:Ed} (h:CompAt es j kk ys) (hj:es[j]?=some e) (hp:es[j - 1]?=some e):CompAt es (j+1) kk ys:=by
 have h0:=h.lt;have hl:(compE (es.take j)).getLast?=some e:=by
  have:=compE_last hp
  rwa [Nat.sub_add_cancel (by omega)] at this
 have hc:compE (es.take (j+1))=compE (es.take j):=by rw [compE_take hj,compStep,if_pos hl]
 exact ⟨h.len,by omega,by rw [hc];exact h.cnt,by rw [hc];exact h.low,h.high⟩
theorem CompAt.keep {es ys:List Ed} {j kk:Nat} {e f:Ed} (h:CompAt es j kk ys) (hj:es[j]?=some e) (hp:es[j - 1]?=some f) (hne:e≠f):CompAt es (j+1) (kk+1) (ys.set kk e):=by
 have h0:=h.lt;have hjl:=(List.getElem?_eq_some_iff.1 hj).1;have hl:(compE (es.take j)).getLast?=some f:=by
  have:=compE_last hp
  rwa [Nat.sub_add_cancel (by omega)] at this
 have hc:compE (es.take (j+1))=compE (es.take j)++[e]:=by
  rw [compE_take hj,compStep,if_neg];rw [hl];intro h;injection h with h
  exact hne h.symm
 have hkl:kk < ys.length:=by rw [h.len];omega
 refine ⟨by simpa using h.len,by omega,by rw [hc,List.length_append,← h.cnt];rfl,?_,fun i hi=>?_⟩
 ·rw [hc,← h.low,List.take_succ_eq_append_getElem (by simpa using hkl),List.getElem_set_self,List.take_set_of_le (Nat.le_refl _)]
 ·rw [List.getElem?_set_ne (by omega)]
  exact h.high i (by omega)
theorem CompAt.done {es ys:List Ed} {kk:Nat} (h:CompAt es es.length kk ys):kk=(compE es).length∧ys.take kk=compE es:=by
 have h1:=h.cnt;have h2:=h.low;rw [List.take_length] at h1 h2;exact ⟨h1,h2⟩
theorem compE_grow {es:List Ed} {k:Nat} {e f:Ed} (h:compE (es.take k)=es.take k) (h0:0 < k) (hk:es[k]?=some e) (hp:es[k - 1]?=some f) (hne:e≠f):compE (es.take (k+1))=es.take (k+1):=by
 have hl:(compE (es.take k)).getLast?=some f:=by
  have:=compE_last hp
  rwa [Nat.sub_add_cancel h0] at this
 rw [compE_take hk,compStep,if_neg,h,take_snoc hk];rw [hl];intro h;injection h with h
 exact hne h.symm
theorem compE_one (es:List Ed) (h:es.length≤1):compE es=es:=by
 match es,h with
 | [],_=>rfl
 | [e],_=>rfl
section
open Go.RowKit
theorem owns_ed {w:World} {lo g n c:Nat} {ys:List Ed} (h:w.ownsRow lo 68 3 (.slice (some ⟨g,0,none⟩) n c) n (ints (edI ys))) {i:Nat} {e:Ed} (hi:ys[i]?=some e) :
  w.cell? ⟨g,i * 3,none⟩=some (.int .i64 e.a)∧w.cell? ⟨g,i * 3+1,none⟩=some (.int .i64 e.l)∧w.cell? ⟨g,i * 3+2,none⟩=some (.int .i64 e.b):=by
 obtain ⟨g0,g1,g2⟩:=edI_at hi;have hl:=h.1;rw [ints_len,edI_len] at hl;have hil:=(List.getElem?_eq_some_iff.1 hi).1;exact ⟨by rw [h.cellAt _ (by omega),ints_get,g0];rfl,by rw [h.cellAt _ (by omega),ints_get,g1];rfl,by rw [h.cellAt _ (by omega),ints_get,g2];rfl⟩
theorem edI_set (ys:List Ed) {k:Nat} (e:Ed) (hk:k < ys.length) :
  (((ints (edI ys)).set (k * 3) (.int .i64 e.a)).set (k * 3+1) (.int .i64 e.l)).set (k * 3+2) (.int .i64 e.b)=ints (edI (ys.set k e)):=by
 have h:=edI_fill (ys.set k e) (k:=k) (e:=e) (by rw [List.getElem?_set_self hk]) (ints (edI ys)) (by rw [ints_len,edI_len];simp);have h1:ints (edI ((ys.set k e).take k))++(ints (edI ys)).drop (k * 3)=ints (edI ys):=by
  rw [List.take_set_of_le (Nat.le_refl _),edI_take,show ints ((edI ys).take (k * 3))=(ints (edI ys)).take (k * 3) by simp [ints]];exact List.take_append_drop _ _
 rw [h1] at h;rw [h];have h2:(ints (edI ys)).drop ((k+1) * 3)=ints (edI ((ys.set k e).drop (k+1))):=by
  rw [List.drop_set_of_lt (by omega),edI_drop];simp [ints]
 rw [h2,← ints_append,← edI_append,List.take_append_drop]
theorem owns_setE {w:World} {lo g n c:Nat} {ys:List Ed} (h:w.ownsRow lo 68 3 (.slice (some ⟨g,0,none⟩) n c) n (ints (edI ys))) {k:Nat} (e:Ed) (hk:k < ys.length) :
  (((w.setCell ⟨g,k * 3,none⟩ (.int .i64 e.a)).setCell ⟨g,k * 3+1,none⟩ (.int .i64 e.l)).setCell ⟨g,k * 3+2,none⟩ (.int .i64 e.b)).ownsRow lo 68 3 (.slice (some ⟨g,0,none⟩) n c) n (ints (edI (ys.set k e))):=by
 have:=owns_setK (owns_setK (owns_setK h (k * 3) (.int .i64 e.a) rfl) (k * 3+1) (.int .i64 e.l) rfl) (k * 3+2) (.int .i64 e.b) rfl
 rwa [edI_set ys e hk] at this
theorem owns_setsPast {lo g n c size:Nat} {e:TypeId} {xs:List Value}:∀ (vs:List Value) (o:Nat) {w:World},n * size≤o→w.ownsRow lo e size (.slice (some ⟨g,0,none⟩) n c) n xs→(w.setCells g o vs).ownsRow lo e size (.slice (some ⟨g,0,none⟩) n c) n xs
 | [],_,_,_,h=>h
 | v :: r,o,w,ho,h=>owns_setsPast r (o+1) (by omega) (owns_setK h o v (List.set_eq_of_length_le (by have:=h.1;omega)))
theorem grown_setCells {w0:World} {g:Nat}:∀ (vs:List Value) (o:Nat) {w:World},w0.grownBy w (some g)→w0.grownBy (w.setCells g o vs) (some g)
 | [],_,_,h=>h
 | v :: r,o,w,h=>grown_setCells r (o+1) (grown_setCell h o v)
theorem run_clear3 (w:World) (ty:TypeId) (b o n c:Nat) (hn:0 < n)
  (hc:∀ j,j < n * 3→(w.cell? ⟨b,o+j,none⟩).isSome=true) (hf:∀ j,j < n * 3→w.frozen? ⟨b,o+j,none⟩=false) :
  (Builtin.clear_ #[24] ty #[.slice (some ⟨b,o,none⟩) n c]).run Tryz.prog w=.ok (.tuple #[]) (w.setCells b o (List.replicate (n * 3) (.int .i64 0))):=by
 have hzc:(Builtin.zeroCells (Value.agg #[.int .i64 0,.int .i64 0,.int .i64 0]).cells n).toList=List.replicate (n * 3) (.int .i64 0):=by
  apply List.ext_getElem
  ·simp [Builtin.zeroCells,Value.cells]
  ·intro i h1 h2
   have h3:i % 3 < 3:=Nat.mod_lt _ (by decide);simp [Builtin.zeroCells,Value.cells];rcases (show i % 3=0 ∨ i % 3=1 ∨ i % 3=2 by omega) with h | h | h <;> simp [h]
 have hst:=run_storeCells_cells (P:=Tryz.prog) b o (List.replicate (n * 3) (.int .i64 0)) 0 w (by simpa using hc) (by simpa using hf) (by intro v hv';rw [List.eq_of_mem_replicate hv'];rfl);simp only [Nat.add_zero] at hst;have hv:=Tryz.zeroValue68;obtain ⟨m,rfl⟩:∃ m,n=m+1:=⟨n - 1,by omega⟩
 simp [Builtin.clear_,run_underlying undSE,hv,hzc,hst]
theorem compactE (g:Nat) (es:List Ed) (c:Nat) (w:World) (lo:Nat) (ho:w.ownsRow lo 68 3 (.slice (some ⟨g,0,none⟩) es.length c) es.length (ints (edI es))) (hl:es.length≤1048576) :
  Calls Tryz.prog 173 #[.slice (some ⟨g,0,none⟩) es.length c] w fun e w'=>e=.returned (.slice (some ⟨g,0,none⟩) (compE es).length c) ∧
   w'.ownsRow lo 68 3 (.slice (some ⟨g,0,none⟩) (compE es).length c) (compE es).length (ints (edI (compE es)))∧w.grownBy w' (some g):=by
 obtain ⟨hcc,hcm⟩:es.length≤c∧c≤maxLen:=by
  obtain ⟨A',c',hv,h1,h2⟩:=owns_shape ho;injection hv with _ _ h3
  subst h3;exact ⟨h1,h2⟩
 have hcm:c≤9223372036854775807:=by unfold maxLen at hcm;omega
 by_cases h2:es.length < 2
 ·have hd:decide ((es.length:Int) < 2)=true:=by simp;omega
  have hc1:=compE_one es (by omega);go_enter Tryz.func173,Tryz.ntmps173
  go_wp2_with fail;go_ret;rw [hc1];exact ⟨rfl,ho,World.grownBy.refl _ _⟩
 have hd:decide ((es.length:Int) < 2)=false:=by simp;omega
 have HO:=Lib.hid ho;clear ho;go_enter Tryz.func173,Tryz.ntmps173
 go_wp2_with fail;go_loopw [3] (fun i wr=>∃ k q:Nat,1≤k∧k≤es.length∧i=.int .i64 k∧Hid (compE (es.take k)=es.take k)∧wr=w.drewN q) (fun i _=>es.length - (intOf i).toNat)
 case atStart=>exact ⟨1,0,Nat.le_refl _,by omega,rfl,Lib.hid (compE_one _ (by simp;omega)),rfl⟩
 case round =>
  obtain ⟨k,q,hk1,hk,rfl,HC,rfl⟩:=hrel;by_cases hlt:k < es.length
  ·obtain ⟨e,he⟩:=get_of_lt es hlt
   obtain ⟨f,hf⟩:=get_of_lt es (show k - 1 < es.length by omega);obtain ⟨c0,c1,c2⟩:=owns_ed HO.out he;obtain ⟨m,hm⟩:∃ m,k=m+1:=⟨k - 1,by omega⟩
   have hf':=hf;rw [hm,Nat.add_sub_cancel] at hf';obtain ⟨p0,p1,p2⟩:=owns_ed HO.out hf';have hk0:(0:Int)≤(k:Int):=by omega
   have hkn:(k:Int) < (es.length:Int):=by omega
   have hkm:(k:Int) - 1=(m:Int):=by omega
   have hwm:IntKind.i64.wrap (m:Int)=(m:Int):=IntWalk.i64_in _ (by omega);have hm0:(0:Int)≤(m:Int):=by omega
   have hmn:(m:Int) < (es.length:Int):=by omega
   have hgd:=guardEd e f;have HE:=Lib.hid he;have HF:=Lib.hid hf;have HM:=Lib.hid hm;by_cases hef:e=f
   ·have hq:=eqlEd_run e f (show decide (e=f)=true by simp [hef])
    have HEF:=Lib.hid hef;have hck:(c=k)=False:=eq_false (by omega);have hkc:(k:Int)≤(c:Int):=by omega
    clear he hf hf' hm hef;go_wp2_with fail;go_quiet (fail)
    clear hq hgd c0 c1 c2 p0 p1 p2 hkm hwm;go_wp2_with fail;have HS:=HC.out;go_loopw [3,5] (fun s3 s5 wr=>∃ kk k2:Nat,∃ ys:List Ed,s3=.int .i64 kk∧s5=.int .i64 k2∧1≤k2∧k+k2≤es.length∧Hid (CompAt es (k+k2) kk ys) ∧
      wr.ownsRow lo 68 3 (.slice (some ⟨g,0,none⟩) es.length c) es.length (ints (edI ys))∧w.grownBy wr (some g)) (fun _ s5 _=>es.length - (intOf s5).toNat)
    case atStart=>exact ⟨k,1,es,rfl,rfl,Nat.le_refl _,by omega,Lib.hid (CompAt.start HC.out (by omega) HE.out (by rw [HEF.out];exact HF.out)),HO.out,grown_of_below (below_drewN (Below.refl _ w) _) _⟩
    case round =>
     obtain ⟨kk,k2,ys,rfl,rfl,h1,hle,HI,hown,hg⟩:=hrel;have hlt1:=HI.out.lt;have hfz:=fun i=>hown.frozenAt i;have hylen:=HI.out.len;have HY:=Lib.hid hylen;clear hylen HS;by_cases hlt2:k+k2 < es.length
     ·obtain ⟨e1,he1⟩:=get_of_lt es hlt2
      obtain ⟨m2,hm2⟩:∃ m2,k2=m2+1:=⟨k2 - 1,by omega⟩
      obtain ⟨f1,hf1⟩:=get_of_lt es (show k+m2 < es.length by omega);obtain ⟨c0,c1,c2⟩:=owns_ed hown ((HI.out.high _ (by omega)).trans he1);obtain ⟨p0,p1,p2⟩:=owns_ed hown ((HI.out.high _ (by omega)).trans hf1);rw [show (k+k2) * 3=k * 3+k2 * 3 by omega] at c0 c1 c2;rw [show (k+m2) * 3=k * 3+m2 * 3 by omega] at p0 p1 p2;obtain ⟨old,hold⟩:=get_of_lt ys (show kk < ys.length by have:=HY.out;omega);obtain ⟨o0,o1,o2⟩:=owns_ed hown hold;have hf1':es[k+k2 - 1]?=some f1:=by rw [hm2,show k+(m2+1) - 1=k+m2 by omega];exact hf1
      have HE1:=Lib.hid he1;have HF1:=Lib.hid hf1';have HOW:=Lib.hid hown;have hk20:(0:Int)≤(k2:Int):=by omega
      have hk2n:(k2:Int) < (es.length:Int) - (k:Int):=by omega
      have hk2N:k2 < es.length - k:=by omega
      have hkm2:(k2:Int) - 1=(m2:Int):=by omega
      have hwm2:IntKind.i64.wrap (m2:Int)=(m2:Int):=IntWalk.i64_in _ (by omega);have hm20:(0:Int)≤(m2:Int):=by omega
      have hm2n:(m2:Int) < (es.length:Int) - (k:Int):=by omega
      have hkk0:(0:Int)≤(kk:Int):=by omega
      have hkkn:(kk:Int) < (es.length:Int):=by omega
      have hgd:=guardEd e1 f1;clear he1 hf1 hf1' hold hown hm2;by_cases hef1:e1=f1
      ·have hq:=neqEd_run e1 f1 (show decide (e1≠f1)=false by simp [hef1])
       have HEF1:=Lib.hid hef1;clear hef1;go_wp2_with fail;go_quiet (fail)
       go_wp2_with fail;go_roundw
       case rel=>exact ⟨kk,k2+1,ys,rfl,by go_num,by omega,by omega,Lib.hid (HI.out.skip HE1.out (by rw [HEF1.out];exact HF1.out)),owns_drewN HOW.out _,grown_trans hg (grown_of_below (below_drewN (Below.refl _ _) _) _)⟩
       case measure=>simp [intOf];omega
      ·have hq:=neqEd_run e1 f1 (show decide (e1≠f1)=true by simp [hef1])
       have HEF1:=Lib.hid hef1;clear hef1;go_wp2_with fail;go_quiet (fail)
       go_wp2_with fail;go_roundw
       case rel=>exact ⟨kk+1,k2+1,ys.set kk e1,by go_num,by go_num,by omega,by omega,Lib.hid (HI.out.keep HE1.out HF1.out HEF1.out),owns_setE (owns_drewN HOW.out _) e1 (by have:=HY.out;omega),grown_setCell (grown_setCell (grown_setCell (grown_trans hg (grown_of_below (below_drewN (Below.refl _ _) _) _)) _ _) _ _) _ _⟩
       case measure=>simp [intOf];omega
     ·have hend:k+k2=es.length:=by omega
      have hk2n:¬ (k2:Int) < (es.length:Int) - (k:Int):=by omega
      have hk2N:¬ k2 < es.length - k:=by omega
      have hkkc:(c=kk)=False:=eq_false (by omega);have hkk0:(0:Int)≤(kk:Int):=by omega
      have hkkn:(kk:Int)≤(es.length:Int):=by omega
      have hcl:∀ ty,(Builtin.clear_ #[24] ty #[.slice (some ⟨g,kk * 3,none⟩) (es.length - kk) (c - kk)]).run Tryz.prog wr=.ok (.tuple #[]) (wr.setCells g (kk * 3) (List.replicate ((es.length - kk) * 3) (.int .i64 0))) :=
       fun ty=>run_clear3 wr ty g (kk * 3) _ _ (by omega) (fun j hj=>by rw [hown.cellAt _ (by omega),List.getElem?_eq_getElem (by have:=hown.1;omega)];rfl) (fun j hj=>hfz _)
      have HOW:=Lib.hid hown;have HN:=Lib.hid hend;clear hown hend hfz;go_wp2_with fail;go_ret;have hI:=HI.out;rw [HN.out] at hI;obtain ⟨d1,d2⟩:=hI.done;have h3:=owns_setsPast (List.replicate ((es.length - kk) * 3) (.int .i64 0)) (kk * 3) (Nat.le_refl _) (owns_cut HOW.out (m:=kk) (by omega));rw [show (ints (edI ys)).take (kk * 3)=ints (edI (ys.take kk)) by rw [edI_take];simp [ints],d2] at h3;rw [d1] at h3 ⊢;exact ⟨rfl,h3,grown_setCells _ _ hg⟩
   ·have hq:=eqlEd_run e f (show decide (e=f)=false by simp [hef])
    have HEF:=Lib.hid hef;clear he hf hf' hm hef;go_wp2_with fail;go_quiet (fail)
    go_wp2_with fail;go_roundw
    case rel=>exact ⟨k+1,_,by omega,by omega,by go_num,Lib.hid (compE_grow HC.out (by omega) HE.out HF.out HEF.out),rfl⟩
    case measure=>simp [intOf];omega
  ·obtain rfl:k=es.length:=by omega
   have hce:compE es=es:=by have:=HC.out;rwa [List.take_length] at this
   have HCE:=Lib.hid hce;clear hce;go_wp2_with fail;go_ret;rw [HCE.out];exact ⟨rfl,HO.out,grown_of_below (below_drewN (Below.refl _ w) q) _⟩
end
section
open Go.RowKit
theorem bool_of (p:Prop):∃ b:Bool,b=true↔p:=by
 by_cases h:p
 ·exact ⟨true,iff_of_true rfl h⟩
 ·exact ⟨false,iff_of_false Bool.false_ne_true h⟩
theorem bool_no {b:Bool} {p:Prop} (h:b=true↔p) (hn:¬ p):b=false:=by
 cases b with
 | false=>rfl
 | true=>exact absurd (h.1 rfl) hn
end
section
open Go.RowKit
theorem compactN (g:Nat) (es:List Ed) (n c:Nat) (w:World) (lo:Nat) (hn:es.length=n) (ho:w.ownsRow lo 68 3 (.slice (some ⟨g,0,none⟩) n c) n (ints (edI es))) (hl:n≤1048576) :
  Calls Tryz.prog 173 #[.slice (some ⟨g,0,none⟩) n c] w fun e w'=>e=.returned (.slice (some ⟨g,0,none⟩) (compE es).length c) ∧
   w'.ownsRow lo 68 3 (.slice (some ⟨g,0,none⟩) (compE es).length c) (compE es).length (ints (edI (compE es)))∧w.grownBy w' (some g):=by
 subst hn;exact compactE g es c w lo ho hl
theorem impl_sorted (A:Option Addr) (es:List Ed) (c:Nat) (w:World) (lo hi:Nat) (hr:RG w lo hi A es) (hl:es.length≤1048576) :
  Calls Tryz.prog 95 #[.slice A es.length c] w fun e w'=>∃ A' c',e=.returned (.slice A' (canon es).length c')∧OG w' w.heap.size w'.heap.size A' c' (canon es)∧Mid 0 0 w w':=by
 have hown0:=owns_empty w 68 3;have hrs:=(hr.mid (Mid.alloc w (.cells #[] 68)) oZl).rv.rs;go_enter Tryz.func95,Tryz.ntmps95
 go_wp2_with (at_builtin;refine wpList_cat rfl _ _ 24 rfl w.heap.size 68 (.agg #[.int .i64 0,.int .i64 0,.int .i64 0]) 3 24 undSE infoE rfl (by decide) (.slice (some ⟨w.heap.size,0,none⟩) 0 0) 0 [] rfl hown0 A es.length c _ (ints (edI es)) rfl hrs (by rw [ints_len,edI_len]) (oneInts _) (by unfold maxLen;omega) (by omega) (by simp) ?_;intro v' w1 hown1 hg1 hblk)
 have hm1:Mid 0 0 w w1:=(Mid.alloc w (.cells #[] 68)).transNew (Mid.of_grownRow hown0 hg1) (Or.inl (Nat.le_refl _));obtain ⟨g,c1,rfl,hgw⟩:∃ g c1,v'=.slice (some ⟨g,0,none⟩) es.length c1∧w.heap.size≤g:=by
  rcases hown1.2 with ⟨rfl, -⟩ | ⟨g,cap,cur,rfl,hbg, -⟩
  ·simp [Value.ownBlock] at hblk
  ·exact ⟨g,cap,by simp,hbg⟩
 simp only [List.nil_append,Nat.zero_add] at hown1;go_wp2_with fail;with_reducible refine (sortE g es c1 w1 w.heap.size hown1 hl).mono ?_
 rintro e w2 ⟨rfl,fs,hfl,hfp,hfs,hown2,hg2⟩;have hm2:Mid 0 0 w w2:=hm1.transNew (Mid.of_grownRow hown1 hg2) (Or.inl (Nat.le_refl _));have HP:=Lib.hid (compE_canon hfs hfp);have hC:=fun W h=>compactN g fs es.length c1 W w.heap.size hfl h hl;clear hfl hfp hfs;go_wp2_with fail;with_reducible refine (hC _ hown2).mono ?_
 rintro e w3 ⟨rfl,hown3,hg3⟩;rw [HP.out] at hown3 ⊢;go_wp2_with fail;go_ret;exact ⟨_,_,rfl,⟨Nat.le_refl _,hown3,fun g hg=>(hown3.lt g hg).2⟩,hm2.transNew (Mid.of_grownRow hown2 hg3) (Or.inl (Nat.le_refl _))⟩
theorem impl_sortedN (A:Option Addr) (es:List Ed) (n c:Nat) (w:World) (lo hi:Nat) (hn:es.length=n) (hr:RG w lo hi A es) (hl:n≤1048576) :
  Calls Tryz.prog 95 #[.slice A n c] w fun e w'=>∃ A' c',e=.returned (.slice A' (canon es).length c')∧OG w' w.heap.size w'.heap.size A' c' (canon es)∧Mid 0 0 w w':=by
 subst hn;exact impl_sorted A es c w lo hi hr hl
end
section
open Go.RowKit
theorem OG.cnt {w:World} {lo hi:Nat} {A:Option Addr} {c:Nat} {es:List Ed} (h:OG w lo hi A c es):es.length≤c∧c≤maxLen:=by
 rcases h.2.1.2 with ⟨hv,hn⟩ | ⟨g,cap,cur,hv, -, -,hnc,hcm, -⟩
 ·injection hv with _ h1 h2
  subst h2;omega
 ·injection hv with _ _ h2
  subst h2;exact ⟨hnc,hcm⟩
end
section
open Go.RowKit
theorem owns_blk {w:World} {base:Nat} {e:TypeId} {size n:Nat} {v u:Value} {xs:List Value} {k:Nat} (h:w.ownsRow base e size v n xs) (hb:v.ownBlock=u.ownBlock ∨ v.ownBlock=some k) (hu:u.ownBlock≠none) :
  ∃ g c,v=.slice (some ⟨g,0,none⟩) n c∧base≤g∧n≤c∧c≤maxLen:=by
 rcases h.2 with ⟨rfl, -⟩ | ⟨g,cap,cur,rfl,hbg, -,h1,h2, -⟩
 ·rcases hb with hb | hb
  ·exact absurd hb.symm hu
  ·cases hb
 ·exact ⟨g,cap,rfl,hbg,h1,h2⟩
theorem impl_copyGraph (r s:Int) (A:Option Addr) (es:List Ed) (c:Nat) (w:World) (lo hi:Nat) (hr:RG w lo hi A es) (hl:es.length≤1048576) :
  Calls Tryz.prog 94 #[graV r s A es.length c] w fun e w'=>∃ A' c',e=.returned (graV r s A' es.length c')∧OG w' w.heap.size w'.heap.size A' c' es∧Mid 0 0 w w':=by
 have hm0:Mid 0 0 w ((w.alloc (.cells #[.int .i64 r,.int .i64 s,.slice A es.length c] 26)).alloc (.cells #[.int .i64 0,.int .i64 0,.slice none 0 0] 26)):=(Mid.alloc _ _).trans (Mid.alloc _ _);have B0:=(Box.new w #[.int .i64 r,.int .i64 s,.slice A es.length c] 26).mid (Mid.alloc _ (.cells #[.int .i64 0,.int .i64 0,.slice none 0 0] 26)) oZr;have B1:=Box.new (w.alloc (.cells #[.int .i64 r,.int .i64 s,.slice A es.length c] 26)) #[.int .i64 0,.int .i64 0,.slice none 0 0] 26;rw [World.size_alloc] at B1;go_enter Tryz.func94,Tryz.ntmps94
 go_wp2_with fail;generalize hw1:((w.alloc (.cells #[.int .i64 r,.int .i64 s,.slice A es.length c] 26)).alloc (.cells #[.int .i64 0,.int .i64 0,.slice none 0 0] 26))=w1 at hm0 B0 B1 ⊢;have hs1:w1.heap.size=w.heap.size+1+1:=by rw [← hw1];simp
 have HS:=Lib.hid hs1;clear hw1 hs1;have hmd:=Mid.drew1 w1;have hal:Mid 0 0 w1.drew (w1.drew.alloc (.cells #[] 68)):=Mid.alloc _ _;have D0:=B0.mid hmd oZr;have D1:=B1.mid hmd oZr;have E0:=D0.mid hal oZr;have E1:=D1.mid hal oZr;have hoe:=owns_empty w1.drew 68 3;have hrs:=((hr.mid hm0 oZl).mid (hmd.trans hal) oZl).rv.rs;have d0:=D0.cell 0 rfl;have d1:=D0.cell 1 rfl;have d2:=D0.cell 2 rfl;have e0:=E0.cell 0 rfl;have e1:=E0.cell 1 rfl;have e2:=E0.cell 2 rfl;have hmx:0+es.length≤maxLen:=by unfold maxLen;omega
 have hby:(0+es.length) * 24≤140737488355328:=by omega
 have hba:w1.drew.heap.size≤(w1.drew.alloc (.cells #[] 68)).heap.size:=by simp
 have hln:(ints (edI es)).length=es.length * 3:=by rw [ints_len,edI_len]
 have HL:=Lib.hid hln;have HO:=Lib.hid (oneInts (edI es));have hz1:w.heap.size+1 < w1.drew.heap.size:=B1.1;have hz0:w.heap.size < w1.drew.heap.size:=B0.1;clear hln;have hnn:(Value.slice (some ⟨w1.drew.heap.size,0,none⟩) 0 0).ownBlock≠none:=by simp [Value.ownBlock]
 have HNN:=Lib.hid hnn;clear hnn;go_region_held3 (fun w'=>w'.cell? ⟨w.heap.size,0,none⟩=some (.int .i64 r)∧w'.cell? ⟨w.heap.size,1,none⟩=some (.int .i64 s)∧w'.cell? ⟨w.heap.size,2,none⟩=some (.slice A es.length c)) (first | exact ⟨d0,d1,d2⟩ | exact ⟨e0,e1,e2⟩ | exact ⟨f0,f1,f2⟩ | exact ⟨x0,x1,x2⟩) ((refine step_cat (by rfl) (.tmp 7) (.tmp 9) 24 (by rfl) _ 68 (.agg #[.int .i64 0,.int .i64 0,.int .i64 0]) 3 24 undSE infoE rfl (by decide) (.slice (some ⟨w1.drew.heap.size,0,none⟩) 0 0) 0 [] (by rfl) hoe A es.length c _ (ints (edI es)) (by rfl) hrs HL.out HO.out hmx hby hba ?_;intro v2 w2 ho2 hgr2 hat2;obtain ⟨g,c2,rfl,hg1, -, -⟩:=owns_blk ho2 hat2 HNN.out;have hm2:=Mid.of_grownRow hoe hgr2;have F0:=E0.mid hm2 (Or.inl hz0);have F1:=E1.mid hm2 (Or.inl hz1);have f0:=F0.cell 0 rfl;have f1:=F0.cell 1 rfl;have f2:=F0.cell 2 rfl;have p0:=F1.cell 0 rfl;have p1:=F1.cell 1 rfl;have p2:=F1.cell 2 rfl;have pf:=F1.2.2;have ms0:=Mid.setCell w2 (lo:=w.heap.size+1) (hi:=w.heap.size+2) (p:=⟨w.heap.size+1,0,none⟩) (.int .i64 r) (Nat.le_refl _) (Nat.lt_succ_self _);have ms1:=ms0.trans (Mid.setCell _ (lo:=w.heap.size+1) (hi:=w.heap.size+2) (p:=⟨w.heap.size+1,1,none⟩) (.int .i64 s) (Nat.le_refl _) (Nat.lt_succ_self _));have ms2:=ms1.trans (Mid.setCell _ (lo:=w.heap.size+1) (hi:=w.heap.size+2) (p:=⟨w.heap.size+1,2,none⟩) (.slice (some ⟨g,0,none⟩) es.length c2) (Nat.le_refl _) (Nat.lt_succ_self _));have X0:=F0.mid ms2 (Or.inl (Nat.lt_succ_self _));have x0:=X0.cell 0 rfl;have x1:=X0.cell 1 rfl;have x2:=X0.cell 2 rfl))
 go_wp2_with fail;simp only [Nat.zero_add,List.nil_append] at ho2;have hmm:Mid 0 0 w w2:=((hm0.trans hmd).trans hal).transNew hm2 (Or.inl (by have:=hm0.size;exact this));refine bodyPost_ret (v:=.agg #[.int .i64 r,.int .i64 s,.slice (some ⟨g,0,none⟩) es.length c2]) (by simp [results,Tryz.results94,go_sem,p0,p1,p2,pf]) rfl ⟨_,c2,rfl,?_,?_⟩
 ·have h0:OG w2 w1.drew.heap.size w2.heap.size (some ⟨g,0,none⟩) c2 es:=⟨Nat.le_refl _,ho2,fun g hg=>(ho2.lt g hg).2⟩
  refine OG.wide (OG.mid h0 ms2 (Or.inl (by have:=HS.out;show w.heap.size+2≤w1.heap.size;omega))) (by have:=hm0.size;exact this) ?_ (Nat.le_refl _);exact ms2.size
 ·exact hmm.transNew ms2 (Or.inl (Nat.le_succ _))
theorem spec_l4Copy (r s:Int) (A:Option Addr) (es:List Ed) (c:Nat) (w:World) (lo hi:Nat) (hr:RG w lo hi A es) (hl:es.length≤1048576) :
  Calls Tryz.prog 97 #[graV r s A es.length c] w fun e w'=>∃ A' c',e=.returned (graV r s A' es.length c')∧OG w' w.heap.size w'.heap.size A' c' es∧Mid 0 0 w w':=by
 have hm0:Mid 0 0 w ((w.alloc (.cells #[.int .i64 r,.int .i64 s,.slice A es.length c] 26)).alloc (.cells #[.int .i64 0,.int .i64 0,.slice none 0 0] 26)):=(Mid.alloc _ _).trans (Mid.alloc _ _);have B0:=(Box.new w #[.int .i64 r,.int .i64 s,.slice A es.length c] 26).mid (Mid.alloc _ (.cells #[.int .i64 0,.int .i64 0,.slice none 0 0] 26)) oZr;have B1:=Box.new (w.alloc (.cells #[.int .i64 r,.int .i64 s,.slice A es.length c] 26)) #[.int .i64 0,.int .i64 0,.slice none 0 0] 26;rw [World.size_alloc] at B1;go_enter Tryz.func97,Tryz.ntmps97
 go_wp2_with fail;generalize hw1:((w.alloc (.cells #[.int .i64 r,.int .i64 s,.slice A es.length c] 26)).alloc (.cells #[.int .i64 0,.int .i64 0,.slice none 0 0] 26))=w1 at hm0 B0 B1 ⊢;have hs1:w1.heap.size=w.heap.size+1+1:=by rw [← hw1];simp
 have HS:=Lib.hid hs1;clear hw1 hs1;have hmd:=Mid.drew1 w1;have hal:Mid 0 0 w1.drew (w1.drew.alloc (.cells #[] 68)):=Mid.alloc _ _;have D0:=B0.mid hmd oZr;have D1:=B1.mid hmd oZr;have E0:=D0.mid hal oZr;have E1:=D1.mid hal oZr;have hoe:=owns_empty w1.drew 68 3;have hrs:=((hr.mid hm0 oZl).mid (hmd.trans hal) oZl).rv.rs;have d0:=D0.cell 0 rfl;have d1:=D0.cell 1 rfl;have d2:=D0.cell 2 rfl;have e0:=E0.cell 0 rfl;have e1:=E0.cell 1 rfl;have e2:=E0.cell 2 rfl;have hmx:0+es.length≤maxLen:=by unfold maxLen;omega
 have hby:(0+es.length) * 24≤140737488355328:=by omega
 have hba:w1.drew.heap.size≤(w1.drew.alloc (.cells #[] 68)).heap.size:=by simp
 have hln:(ints (edI es)).length=es.length * 3:=by rw [ints_len,edI_len]
 have HL:=Lib.hid hln;have HO:=Lib.hid (oneInts (edI es));have hz1:w.heap.size+1 < w1.drew.heap.size:=B1.1;have hz0:w.heap.size < w1.drew.heap.size:=B0.1;clear hln;have hnn:(Value.slice (some ⟨w1.drew.heap.size,0,none⟩) 0 0).ownBlock≠none:=by simp [Value.ownBlock]
 have HNN:=Lib.hid hnn;clear hnn;go_region_held3 (fun w'=>w'.cell? ⟨w.heap.size,0,none⟩=some (.int .i64 r)∧w'.cell? ⟨w.heap.size,1,none⟩=some (.int .i64 s)∧w'.cell? ⟨w.heap.size,2,none⟩=some (.slice A es.length c)) (first | exact ⟨d0,d1,d2⟩ | exact ⟨e0,e1,e2⟩ | exact ⟨f0,f1,f2⟩ | exact ⟨x0,x1,x2⟩) ((refine step_cat (by rfl) (.tmp 7) (.tmp 9) 24 (by rfl) _ 68 (.agg #[.int .i64 0,.int .i64 0,.int .i64 0]) 3 24 undSE infoE rfl (by decide) (.slice (some ⟨w1.drew.heap.size,0,none⟩) 0 0) 0 [] (by rfl) hoe A es.length c _ (ints (edI es)) (by rfl) hrs HL.out HO.out hmx hby hba ?_;intro v2 w2 ho2 hgr2 hat2;obtain ⟨g,c2,rfl,hg1, -, -⟩:=owns_blk ho2 hat2 HNN.out;have hm2:=Mid.of_grownRow hoe hgr2;have F0:=E0.mid hm2 (Or.inl hz0);have F1:=E1.mid hm2 (Or.inl hz1);have f0:=F0.cell 0 rfl;have f1:=F0.cell 1 rfl;have f2:=F0.cell 2 rfl;have p0:=F1.cell 0 rfl;have p1:=F1.cell 1 rfl;have p2:=F1.cell 2 rfl;have pf:=F1.2.2;have ms0:=Mid.setCell w2 (lo:=w.heap.size+1) (hi:=w.heap.size+2) (p:=⟨w.heap.size+1,0,none⟩) (.int .i64 r) (Nat.le_refl _) (Nat.lt_succ_self _);have ms1:=ms0.trans (Mid.setCell _ (lo:=w.heap.size+1) (hi:=w.heap.size+2) (p:=⟨w.heap.size+1,1,none⟩) (.int .i64 s) (Nat.le_refl _) (Nat.lt_succ_self _));have ms2:=ms1.trans (Mid.setCell _ (lo:=w.heap.size+1) (hi:=w.heap.size+2) (p:=⟨w.heap.size+1,2,none⟩) (.slice (some ⟨g,0,none⟩) es.length c2) (Nat.le_refl _) (Nat.lt_succ_self _));have X0:=F0.mid ms2 (Or.inl (Nat.lt_succ_self _));have x0:=X0.cell 0 rfl;have x1:=X0.cell 1 rfl;have x2:=X0.cell 2 rfl))
 go_wp2_with fail;simp only [Nat.zero_add,List.nil_append] at ho2;have hmm:Mid 0 0 w w2:=((hm0.trans hmd).trans hal).transNew hm2 (Or.inl (by have:=hm0.size;exact this));refine bodyPost_ret (v:=.agg #[.int .i64 r,.int .i64 s,.slice (some ⟨g,0,none⟩) es.length c2]) (by simp [results,Tryz.results97,go_sem,p0,p1,p2,pf]) rfl ⟨_,c2,rfl,?_,?_⟩
 ·have h0:OG w2 w1.drew.heap.size w2.heap.size (some ⟨g,0,none⟩) c2 es:=⟨Nat.le_refl _,ho2,fun g hg=>(ho2.lt g hg).2⟩
  refine OG.wide (OG.mid h0 ms2 (Or.inl (by have:=HS.out;show w.heap.size+2≤w1.heap.size;omega))) (by have:=hm0.size;exact this) ?_ (Nat.le_refl _);exact ms2.size
 ·exact hmm.transNew ms2 (Or.inl (Nat.le_succ _))
end
section
open Go.RowKit
section
variable {W:World} {ops:Array Oper} {rest:List Oper} {o:Oper} {a:Act} {Q:Exit→Act→World→Prop}
theorem wpList_pushE (hgd:o.guard=none) (s x:Operand)
  (ho:o.op=.call { callee:=.builtin .append,args:=#[s,x],argTypes:=#[24,24] }) (lo:Nat) (A:Option Addr) (n c:Nat) (es:List Ed) (hs:a.eval s=.slice A n c)
  (hown:W.ownsRow lo 68 3 (.slice A n c) n (ints (edI es))) (e:Ed) (hx:a.eval x=.slice (some ⟨W.heap.size,0,none⟩) 1 1) (hn:n≤1048576) (hb:lo≤W.heap.size)
  (h:∀ A' c' w',w'.ownsRow lo 68 3 (.slice A' (n+1) c') (n+1) (ints (edI (es++[e])))→Mid lo W.heap.size W w'→wpList Tryz.prog ops Q rest (a.put o.dst (.slice A' (n+1) c')) w') :
  wpList Tryz.prog ops Q (o :: rest) a (W.alloc (.cells #[.int .i64 e.a,.int .i64 e.l,.int .i64 e.b] 68)):=by
 refine wpList_push (news:=[.int .i64 e.a,.int .i64 e.l,.int .i64 e.b]) hgd s x 24 ho lo 68 (.agg #[.int .i64 0,.int .i64 0,.int .i64 0]) 3 24 undSE infoE rfl (by decide) (.slice A n c) n (ints (edI es)) hs hown 1 hx rfl ?_ (by unfold maxLen;omega) (by omega) hb ?_
 ·intro u hu
  simp at hu;rcases hu with rfl | rfl | rfl <;> rfl
 ·intro v' w' h1 h2 _
  obtain ⟨A',c',rfl, -, -⟩:=owns_shape h1;refine h A' c' w' ?_ (Mid.of_grownRow hown h2);rw [edI_append,ints_append,edI_one];exact h1
end
theorem putE_all {e:Ed} {xs:List Ed} (h:∀ g∈xs,LtE g e):putE e xs=xs++[e]:=by
 induction xs with
 | nil=>rfl
 | cons g t ih =>
  have hg:=h g (by simp);have h1:¬ cmpE e g < 0:=fun h=>(cmpE_neg.1 h).asymm hg;have h2:¬ cmpE e g=0:=fun h=>by have:=cmpE_zero.1 h;subst this;exact LtE.irrefl _ hg
  rw [putE,if_neg h1,if_neg h2,ih fun f hf=>h f (by simp [hf])]
  rfl
theorem putE_same {e f:Ed} {xs:List Ed} (h:∀ g∈xs,LtE g e) (hf:cmpE e f=0):putE e (xs++[f])=xs++[f]:=by
 induction xs with
 | nil=>simp [putE,hf]
 | cons g t ih =>
  have hg:=h g (by simp);have h1:¬ cmpE e g < 0:=fun h=>(cmpE_neg.1 h).asymm hg;have h2:¬ cmpE e g=0:=fun h=>by have:=cmpE_zero.1 h;subst this;exact LtE.irrefl _ hg
  rw [List.cons_append,putE,if_neg h1,if_neg h2,ih fun f hf=>h f (by simp [hf])]
theorem putE_ahead {e f:Ed} {xs:List Ed} (h:∀ g∈xs,LtE g e) (hf:cmpE e f < 0):putE e (xs++[f])=xs++[e]++[f]:=by
 induction xs with
 | nil=>simp [putE,hf]
 | cons g t ih =>
  have hg:=h g (by simp);have h1:¬ cmpE e g < 0:=fun h=>(cmpE_neg.1 h).asymm hg;have h2:¬ cmpE e g=0:=fun h=>by have:=cmpE_zero.1 h;subst this;exact LtE.irrefl _ hg
  rw [List.cons_append,putE,if_neg h1,if_neg h2,ih fun f hf=>h f (by simp [hf])];simp
theorem putE_done {e f:Ed} {xs:List Ed} (h:∃ g∈xs,¬ LtE g e):putE e (xs++[f])=putE e xs++[f]:=by
 induction xs with
 | nil=>obtain ⟨g,hg, -⟩:=h;simp at hg
 | cons g t ih =>
  rw [List.cons_append,putE,putE];split
  ·simp
  ·split
   ·simp
   ·rename_i h1 h2
    rw [ih]
    ·simp
    ·obtain ⟨g',hg',hn⟩:=h
     rcases List.mem_cons.1 hg' with rfl | hg'
     ·exfalso
      rcases LtE.tri e g' with h3 | rfl | h3
      ·exact h1 (cmpE_neg.2 h3)
      ·exact h2 (cmpE_zero.2 rfl)
      ·exact hn h3
     ·exact ⟨g',hg',hn⟩
def PutAt (e:Ed) (es:List Ed) (i:Nat) (p:Bool) (xs:List Ed):Prop :=
 if p=true then xs=putE e (es.take i)∧∃ g∈es.take i,¬ LtE g e else xs=es.take i∧∀ g∈es.take i,LtE g e
theorem PutAt.zero (e:Ed) (es:List Ed):PutAt e es 0 false []:=⟨by simp,by simp⟩
theorem PutAt.on {e f:Ed} {es xs:List Ed} {i:Nat} (h:PutAt e es i true xs) (hf:es[i]?=some f):PutAt e es (i+1) true (xs++[f]):=by
 obtain ⟨h1,h2⟩:=h;refine ⟨by rw [take_snoc hf,putE_done h2,h1],?_⟩;obtain ⟨g,hg,hn⟩:=h2;exact ⟨g,by rw [take_snoc hf];simp [hg],hn⟩
theorem PutAt.eq {e f:Ed} {es xs:List Ed} {i:Nat} (h:PutAt e es i false xs) (hf:es[i]?=some f) (hc:cmpE e f=0):PutAt e es (i+1) true (xs++[f]):=by
 obtain ⟨h1,h2⟩:=h;refine ⟨by rw [take_snoc hf,putE_same h2 hc,h1],f,by rw [take_snoc hf];simp,?_⟩;have:=cmpE_zero.1 hc;subst this;exact LtE.irrefl _
theorem PutAt.lt {e f:Ed} {es xs:List Ed} {i:Nat} (h:PutAt e es i false xs) (hf:es[i]?=some f) (hc:cmpE e f < 0):PutAt e es (i+1) true (xs++[e]++[f]):=by
 obtain ⟨h1,h2⟩:=h;exact ⟨by rw [take_snoc hf,putE_ahead h2 hc,h1],f,by rw [take_snoc hf];simp,(cmpE_neg.1 hc).asymm⟩
theorem PutAt.gt {e f:Ed} {es xs:List Ed} {i:Nat} (h:PutAt e es i false xs) (hf:es[i]?=some f) (hc:0 < cmpE e f):PutAt e es (i+1) false (xs++[f]):=by
 obtain ⟨h1,h2⟩:=h;have hfe:LtE f e:=by
  rcases LtE.tri f e with h3 | rfl | h3
  ·exact h3
  ·have:=cmpE_zero.2 (rfl:f=f);omega
  ·have:=cmpE_neg.2 h3;omega
 refine ⟨by rw [take_snoc hf,h1],fun g hg=>?_⟩;rw [take_snoc hf] at hg;rcases List.mem_append.1 hg with hg | hg
 ·exact h2 g hg
 ·simp at hg;subst hg;exact hfe
theorem PutAt.len {e:Ed} {es xs:List Ed} {i:Nat} {p:Bool} (h:PutAt e es i p xs):xs.length≤es.length+1:=by
 have h3:(es.take i).length≤es.length:=by simp;omega
 cases p with
 | false=>have h1:xs=es.take i:=h.1;rw [h1];omega
 | true=>have h1:xs=putE e (es.take i):=h.1;have:=putE_len e (es.take i);rw [h1];omega
theorem PutAt.fin {e:Ed} {es xs:List Ed} (h:PutAt e es es.length true xs):xs=putE e es:=by
 have h1:xs=putE e (es.take es.length):=h.1
 rwa [List.take_length] at h1
theorem PutAt.fin' {e:Ed} {es xs:List Ed} (h:PutAt e es es.length false xs):xs++[e]=putE e es:=by
 have h1:xs=es.take es.length:=h.1;have h2:∀ g∈es.take es.length,LtE g e:=h.2;rw [List.take_length] at h1 h2;rw [h1,putE_all h2]
theorem spec_l4Put (A:Option Addr) (es:List Ed) (c:Nat) (e:Ed) (w:World) (lo hi:Nat) (hr:RG w lo hi A es) (hl:es.length≤1000000) :
  Calls Tryz.prog 98 #[.slice A es.length c,e.v] w fun en w'=>∃ A' c',en=.returned (.slice A' (putE e es).length c')∧OG w' w.heap.size w'.heap.size A' c' (putE e es)∧Mid 0 0 w w':=by
 have hm0:Mid 0 0 w ((w.alloc (.cells #[.int .i64 e.a,.int .i64 e.l,.int .i64 e.b] 68)).alloc (.cells #[] 68)):=(Mid.alloc _ _).trans (Mid.alloc _ _);have B0:=(Box.new w #[.int .i64 e.a,.int .i64 e.l,.int .i64 e.b] 68).mid (Mid.alloc _ (.cells #[] 68)) oZr;have O0:=owns_empty (w.alloc (.cells #[.int .i64 e.a,.int .i64 e.l,.int .i64 e.b] 68)) 68 3;rw [World.size_alloc] at O0;go_enter Tryz.func98,Tryz.ntmps98
 go_wp2_with fail;go_loopw [5,6,7,8] (fun out pl i _ wr=>∃ (k:Nat) (p:Bool) (A1:Option Addr) (c1 n1:Nat) (xs:List Ed),k≤es.length∧i=.int .i64 k∧pl=.bool p∧out=.slice A1 n1 c1∧Hid (PutAt e es k p xs)∧Hid (xs.length=n1) ∧
   wr.ownsRow (w.heap.size+1) 68 3 (.slice A1 n1 c1) n1 (ints (edI xs))∧Box wr w.heap.size [.int .i64 e.a,.int .i64 e.l,.int .i64 e.b]∧Mid 0 0 w wr∧w.heap.size+1≤wr.heap.size) (fun _ _ i _ _=>es.length - (intOf i).toNat)
 case atStart=>exact ⟨0,false,_,0,0,[],Nat.zero_le _,rfl,rfl,rfl,Lib.hid (PutAt.zero e es),Lib.hid rfl,O0,B0,hm0,by simp⟩
 case round =>
  obtain ⟨k,p,A1,c1,n1,xs,hk,rfl,rfl,rfl,HP,HN,hown,bx,hm,hsz⟩:=hrel;have hn1:n1≤1000001:=by have:=HP.out.len;have:=HN.out;omega
  have E0:=bx.cell 0 rfl;have E1:=bx.cell 1 rfl;have E2:=bx.cell 2 rfl;by_cases hlt:k < es.length
  ·have hrm:=hr.mid hm oZl
   obtain ⟨B,off,f,rfl, -,hbh,he,c0,cc1,c2⟩:=hrm.ed hlt;have zb:B < wr.heap.size:=Nat.lt_of_lt_of_le hbh hrm.1;have e0:=wg_cell bx.1 E0;have e1:=wg_cell bx.1 E1;have e2:=wg_cell bx.1 E2;have f0:=wg_cell zb c0;have f1:=wg_cell zb cc1;have f2:=wg_cell zb c2;have hk0:(0:Int)≤(k:Int):=by omega
   have hkn:(k:Int) < (es.length:Int):=by omega
   obtain ⟨v,hv⟩:∃ v,cmpE e f=v:=⟨_,rfl⟩
   have hQ:=fun W=>spec_CompareEdges e f W;rw [hv] at hQ;have HV:=Lib.hid hv;have HE:=Lib.hid he;have HB:Hid (B < wr.heap.size∧B < w.heap.size+1):=Lib.hid ⟨zb,by have:=hr.1;omega⟩;have C0:=Lib.hid c0;have C1:=Lib.hid cc1;have C2:=Lib.hid c2;clear hv he c0 cc1 c2 E0 E1 E2;go_wp2_with fail;refine wp_region_quiet_wg (by kernel_rfl) (by kernel_rfl) ?_;repeat
    (with_reducible refine wpQuiet_step (fun K hK=>?_))
    go_simp
    first
     | ((with_reducible refine hK _ ?_);clear hK K)
     | (rw [if_neg (by decide)];(with_reducible refine hK _ ?_);clear hK K)
     | (apply Exists.intro;refine ⟨fun _=>?_,hK _ ?_⟩;((go_at_call 175;exact Calls.wg_of (hQ _)));clear hK K)
   with_reducible refine wpQuiet_nil ?_
   intro _ hw';obtain ⟨⟨nq,osq⟩,hw''⟩:=hw';subst hw'';have hw:=Mid.ofWg wr nq osq;have hw2:=wg_size wr nq osq;have hmw:=hm.trans hw;have bxw:=bx.mid hw oZr;have hownw:=owns_mid hown hw oZl;have hszw:w.heap.size+1≤(wg wr nq osq).heap.size:=by omega
   have g0:=cell_keep hw zb oZr C0.out;have g1:=cell_keep hw zb oZr C1.out;have g2:=cell_keep hw zb oZr C2.out;clear hw2 e0 e1 e2 f0 f1 f2 hQ hrm hown bx hm zb hw C0 C1 C2;have HB:=Lib.hid (show B < (wg wr nq osq).heap.size∧B < w.heap.size+1 from ⟨by have:=HB.out.1;have:=wg_size wr nq osq;omega,HB.out.2⟩);generalize wg wr nq osq=wx at hmw bxw hownw hszw g0 g1 g2 HB ⊢;have e0:=bxw.cell 0 rfl;have e1:=bxw.cell 1 rfl;have e2:=bxw.cell 2 rfl;cases p with
   | true =>
    have HW:=Lib.hid hownw;clear hownw;rcases (by omega:v=0 ∨ v < 0 ∨ 0 < v) with hv | hv | hv
    ·subst hv
     go_wp2_with (at_builtin;refine wpList_pushE rfl _ _ rfl (w.heap.size+1) A1 n1 c1 xs rfl HW.out f rfl (by omega) hszw ?_;intro A2 c2 w2 hown2 hm2)
     go_roundw
     case rel=>exact ⟨k+1,true,A2,c2,n1+1,xs++[f],by omega,by go_num,rfl,rfl,Lib.hid (HP.out.on HE.out),Lib.hid (by rw [List.length_append,HN.out];rfl),hown2,bxw.mid hm2 (Or.inl (Nat.lt_succ_self _)),hmw.transNew hm2 (Or.inl (Nat.le_succ _)),Nat.le_trans hszw hm2.size⟩
     case measure=>simp [intOf];omega
    ·have hv1:(v == 0)=false:=by simp only [beq_eq_false_iff_ne];omega
     go_wp2_with (at_builtin;refine wpList_pushE rfl _ _ rfl (w.heap.size+1) A1 n1 c1 xs rfl HW.out f rfl (by omega) hszw ?_;intro A2 c2 w2 hown2 hm2)
     go_roundw
     case rel=>exact ⟨k+1,true,A2,c2,n1+1,xs++[f],by omega,by go_num,rfl,rfl,Lib.hid (HP.out.on HE.out),Lib.hid (by rw [List.length_append,HN.out];rfl),hown2,bxw.mid hm2 (Or.inl (Nat.lt_succ_self _)),hmw.transNew hm2 (Or.inl (Nat.le_succ _)),Nat.le_trans hszw hm2.size⟩
     case measure=>simp [intOf];omega
    ·have hv1:(v == 0)=false:=by simp only [beq_eq_false_iff_ne];omega
     go_wp2_with (at_builtin;refine wpList_pushE rfl _ _ rfl (w.heap.size+1) A1 n1 c1 xs rfl HW.out f rfl (by omega) hszw ?_;intro A2 c2 w2 hown2 hm2)
     go_roundw
     case rel=>exact ⟨k+1,true,A2,c2,n1+1,xs++[f],by omega,by go_num,rfl,rfl,Lib.hid (HP.out.on HE.out),Lib.hid (by rw [List.length_append,HN.out];rfl),hown2,bxw.mid hm2 (Or.inl (Nat.lt_succ_self _)),hmw.transNew hm2 (Or.inl (Nat.le_succ _)),Nat.le_trans hszw hm2.size⟩
     case measure=>simp [intOf];omega
   | false =>
    have HW:=Lib.hid hownw;clear hownw;rcases (by omega:v=0 ∨ v < 0 ∨ 0 < v) with hv | hv | hv
    ·subst hv
     go_wp2_with (at_builtin;refine wpList_pushE rfl _ _ rfl (w.heap.size+1) A1 n1 c1 xs rfl HW.out f rfl (by omega) hszw ?_;intro A2 c2 w2 hown2 hm2)
     go_roundw
     case rel=>exact ⟨k+1,true,A2,c2,n1+1,xs++[f],by omega,by go_num,rfl,rfl,Lib.hid (HP.out.eq HE.out HV.out),Lib.hid (by rw [List.length_append,HN.out];rfl),hown2,bxw.mid hm2 (Or.inl (Nat.lt_succ_self _)),hmw.transNew hm2 (Or.inl (Nat.le_succ _)),Nat.le_trans hszw hm2.size⟩
     case measure=>simp [intOf];omega
    ·have hv1:(v == 0)=false:=by simp only [beq_eq_false_iff_ne];omega
     have hvl:decide (v < 0)=true:=by simpa using hv
     go_wp2_with (first | (at_builtin;refine wpList_pushE rfl _ _ rfl (w.heap.size+1) A1 n1 c1 xs rfl HW.out e rfl (by omega) hszw ?_;intro A2 c2 w2 hown2 hm2;have g0':=cell_keep hm2 HB.out.1 (Or.inl HB.out.2) g0;have g1':=cell_keep hm2 HB.out.1 (Or.inl HB.out.2) g1;have g2':=cell_keep hm2 HB.out.1 (Or.inl HB.out.2) g2;have hsz2:=Nat.le_trans hszw hm2.size;have HW2:=Lib.hid hown2;clear hown2) | (at_builtin;refine wpList_pushE rfl _ _ rfl (w.heap.size+1) A2 (n1+1) c2 (xs++[e]) rfl HW2.out f rfl (by omega) hsz2 ?_;intro A3 c3 w3 hown3 hm3))
     go_roundw
     case rel=>exact ⟨k+1,true,A3,c3,n1+1+1,xs++[e]++[f],by omega,by go_num,rfl,rfl,Lib.hid (HP.out.lt HE.out (by rw [HV.out];exact hv)),Lib.hid (by rw [List.length_append,List.length_append,HN.out];rfl),hown3,(bxw.mid hm2 (Or.inl (Nat.lt_succ_self _))).mid hm3 (Or.inl (Nat.lt_succ_self _)),(hmw.transNew hm2 (Or.inl (Nat.le_succ _))).transNew hm3 (Or.inl (Nat.le_succ _)),Nat.le_trans hsz2 hm3.size⟩
     case measure=>simp [intOf];omega
    ·have hv1:(v == 0)=false:=by simp only [beq_eq_false_iff_ne];omega
     have hvl:decide (v < 0)=false:=by simp;omega
     go_wp2_with (at_builtin;refine wpList_pushE rfl _ _ rfl (w.heap.size+1) A1 n1 c1 xs rfl HW.out f rfl (by omega) hszw ?_;intro A2 c2 w2 hown2 hm2)
     go_roundw
     case rel=>exact ⟨k+1,false,A2,c2,n1+1,xs++[f],by omega,by go_num,rfl,rfl,Lib.hid (HP.out.gt HE.out (by rw [HV.out];exact hv)),Lib.hid (by rw [List.length_append,HN.out];rfl),hown2,bxw.mid hm2 (Or.inl (Nat.lt_succ_self _)),hmw.transNew hm2 (Or.inl (Nat.le_succ _)),Nat.le_trans hszw hm2.size⟩
     case measure=>simp [intOf];omega
  ·obtain rfl:k=es.length:=by omega
   cases p with
   | true =>
    go_wp2_with fail;go_ret;have hx:=HP.out.fin;obtain ⟨A2,c2,hv,hn,ho⟩:=OG.mk' hown;injection hv with hv1 hv2 hv3
    subst hv1 hv3;rw [hx] at ho hn;exact ⟨_,_,(by rw [hn];rfl),ho.wide (by omega) (Nat.le_refl _) (Nat.le_refl _),hm⟩
   | false =>
    have HW:=Lib.hid hown;go_wp2_with (at_builtin;refine wpList_pushE rfl _ _ rfl (w.heap.size+1) A1 n1 c1 xs rfl HW.out e rfl (by omega) hsz ?_;intro A2 c2 w2 hown2 hm2)
    have hx:=HP.out.fin';go_wp2_with fail;go_ret;obtain ⟨A3,c3,hv,hn,ho⟩:=OG.mk' hown2;injection hv with hv1 hv2 hv3
    subst hv1 hv3;rw [hx] at ho hn;exact ⟨_,_,(by rw [hn];rfl),ho.wide (by omega) (Nat.le_refl _) (Nat.le_refl _),hm.transNew hm2 (Or.inl (by omega))⟩
end
section
open Go.RowKit
section
variable {P:Program} {ops:Array Oper} {Q:Exit→Act→World→Prop} {md:Region.Mode} {S:World→Prop} {z:Nat}
def wpAnyT (P:Program) (md:Region.Mode) (ops:Array Oper) (Q:Exit→Act→World→Prop) (S:World→Prop) (z:Nat):Nat→Array Bool→Act→World→Prop
 | 0,listed,a,w=>Region.ready md ops listed=[]∧Q .normal a w
 | fuel+1,listed,a,w =>
  (Region.ready md ops listed=[]→Q .normal a w) ∧
  ∀ i∈Region.ready md ops listed,wpOp P ops Q i (fun a' w'=>(i=z ∨ S w')∧wpAnyT P md ops Q S z fuel (listed.setIfInBounds i true) a' w') a w
theorem wpAny_of_T:∀ (fuel:Nat) (listed:Array Bool) (a:Act) (w:World),wpAnyT P md ops Q S z fuel listed a w→wpAny P md ops Q fuel listed a w
 | 0,_,_,_,h=>h
 | fuel+1,_,_,_,h=>⟨h.1,fun i hi=>wpOp_mono (fun a' w' h'=>wpAny_of_T fuel _ a' w' h'.2) (h.2 i hi)⟩
theorem not_last {i:Nat} {listed:Array Bool} (hz:Region.waitsFor md ops z i=true) (hun:listed.getD i true=false):z ∉ Region.ready md ops listed:=by
 intro hr;obtain ⟨-,oz,hoz,hall⟩:=mem_ready.1 hr;obtain ⟨oz',hoz',e,he,hb,hon⟩:=Region.waitsFor_spec hz;obtain rfl:oz'=oz:=Option.some.inj (hoz'.symm.trans hoz);have h1:=hall e he hb;rw [hon,getD_both hun] at h1;cases h1
theorem wpAnyT_first {i:Nat} {oi:Oper} {v:Value} (hi:ops[i]?=some oi) (hsel:∀ (j:Nat) (o:Oper) cs b,ops[j]?=some o→o.op≠.select cs b)
  (hQ:∀ c a w,Q (.panic c) (a.put oi.dst v) w→Q (.panic c) a w) (hz:Region.waitsFor md ops z i=true) :
  ∀ (fuel:Nat) (listed:Array Bool) (a:Act) (w:World),
   (∀ j oj,ops[j]?=some oj→j≠i→listed.getD j true=false→(∀ e∈oj.after,Region.binds md e=true→e.on≠i)→oi.apart ops oj=true) →
   i∈Region.ready md ops listed→YieldsIf P ops S oi v a→S w →
   wpAnyT P md ops Q S z fuel (listed.setIfInBounds i true) (a.put oi.dst v) w→wpAnyT P md ops Q S z (fuel+1) listed a w:=by
 intro fuel
 induction fuel with
 | zero =>
  intro listed a w _ hr hy hS H;refine ⟨fun h=>(by rw [h] at hr;cases hr),fun j hj=>?_⟩;by_cases hji:j=i
  ·subst hji;exact hy.wpOp hi hS ⟨.inr hS,H⟩
  ·have:=ready_mono hj hji
   rw [H.1] at this;cases this
 | succ fuel ih =>
  intro listed a w hfree hr hy hS H;refine ⟨fun h=>(by rw [h] at hr;cases hr),fun j hj=>?_⟩;by_cases hji:j=i
  ·subst hji;exact hy.wpOp hi hS ⟨.inr hS,H⟩
  ·have hjz:j≠z:=fun e=>by
    subst e;exact not_last hz (mem_ready.1 hr).1 hj
   have h1:=H.2 j (ready_mono hj hji);obtain ⟨hjun,oj,hoj,hall⟩:=mem_ready.1 hj;have hnot:∀ e∈oj.after,Region.binds md e=true→e.on≠i:=fun e he hb heq=>by
    have h1:=hall e he hb;have h0:=(mem_ready.1 hr).1;rw [heq] at h1;rcases Nat.lt_or_ge i listed.size with h' | h'
    ·simp [h'] at h0 h1;rw [h0] at h1;cases h1
    ·simp [Array.getElem?_eq_none h'] at h1
   have h2:=wpOp_putIf hoj (hfree j oj hoj hji hjun hnot) (fun cs b=>hsel i oi cs b hi) (fun cs b=>hsel j oj cs b hoj) hQ hy h1;have hfree':∀ k ok,ops[k]?=some ok→k≠i→(listed.setIfInBounds j true).getD k true=false →
     (∀ e∈ok.after,Region.binds md e=true→e.on≠i)→oi.apart ops ok=true:=fun k ok hk hki hun hno=>by
    refine hfree k ok hk hki ?_ hno;by_cases hjk:j=k
    ·subst hjk;exact hjun
    ·rw [getD_set_ne true hjk] at hun;exact hun
   refine wpOp_mono (fun a' w' h3=>?_) h2;have hS':S w':=h3.2.1.resolve_left hjz;refine ⟨.inr hS',ih (listed.setIfInBounds j true) a' w' hfree' (ready_mono hr (Ne.symm hji)) h3.1 hS' ?_⟩;rw [Array.setIfInBounds_comm _ _ hji];exact h3.2.2
theorem wpAnyT_take {i:Nat} {oi:Oper} {v:Value} {fuel:Nat} {listed:Array Bool} {a:Act} {w:World} (hi:ops[i]?=some oi)
  (hs:Region.noSelect ops=true) (hf:Region.free md ops listed i=true) (hr:(Region.ready md ops listed).contains i=true) (hz:Region.waitsFor md ops z i=true)
  (hQ:∀ c a w,Q (.panic c) (a.put oi.dst v) w→Q (.panic c) a w) (hy:YieldsIf P ops S oi v a) (hS:S w)
  (h:wpAnyT P md ops Q S z fuel (listed.setIfInBounds i true) (a.put oi.dst v) w):wpAnyT P md ops Q S z (fuel+1) listed a w :=
 wpAnyT_first hi (Region.noSelect_spec hs) hQ hz fuel listed a w (Region.free_spec hi hf) (by simpa using hr) hy hS h
def AllReadyT (P:Program) (md:Region.Mode) (ops:Array Oper) (Q:Exit→Act→World→Prop) (S:World→Prop) (z fuel:Nat) (listed:Array Bool) (a:Act) (w:World) (rs:List Nat):Prop :=
 ∀ i∈rs,wpOp P ops Q i (fun a' w'=>(i=z ∨ S w')∧wpAnyT P md ops Q S z fuel (listed.setIfInBounds i true) a' w') a w
theorem AllReadyT.nil {fuel:Nat} {listed:Array Bool} {a:Act} {w:World}:AllReadyT P md ops Q S z fuel listed a w []:=fun _ h=>by cases h
theorem AllReadyT.cons {fuel:Nat} {listed:Array Bool} {a:Act} {w:World} {i:Nat} {o:Oper} {rs:List Nat} (ho:ops[i]?=some o)
  (h:∀ K':Act→World→Prop,Shut (∀ a w,(i=z ∨ S w)→((i=z ∨ S w)→wpAnyT P md ops Q S z fuel (listed.setIfInBounds i true) a w)→K' a w)→if Region.wanted o (yielded ops a.tmps)=true then Oper.wp P o a w K' Q else K' (a.put o.dst undef) w)
  (hs:AllReadyT P md ops Q S z fuel listed a w rs):AllReadyT P md ops Q S z fuel listed a w (i :: rs):=fun j hj=>by
 rcases List.mem_cons.1 hj with rfl | hj
 ·exact wpOp_step ho (fun K' hK=>h K' (fun a w hS hW=>hK a w ⟨hS,hW hS⟩))
 ·exact hs j hj
theorem wpAnyT_ready {rs:List Nat} {fuel:Nat} {listed:Array Bool} {a:Act} {w:World} (hr:Region.ready md ops listed=rs) (hne:rs≠[])
  (h:AllReadyT P md ops Q S z fuel listed a w rs):wpAnyT P md ops Q S z (fuel+1) listed a w :=
 ⟨fun h0=>absurd (hr.symm.trans h0) hne,fun i hi=>h i (hr ▸ hi)⟩
theorem wpAnyT_done {listed:Array Bool} {a:Act} {w:World} (hr:Region.ready md ops listed=[]) (h:Q .normal a w):∀ fuel,wpAnyT P md ops Q S z fuel listed a w
 | 0=>⟨hr,h⟩
 | _+1=>⟨fun _=>h,by rw [hr];simp⟩
theorem wp_region_T {id:Nat} {a:Act} {w:World} (z:Nat) (hm:P.follows .mixedOrders=true) (hS:S w.drew)
  (h:wpAnyT P .any ops Q S z ops.size (Array.replicate ops.size false) a w.drew):(Code.region id ops true).wp P Q a w :=
 wp_region_any hm (wpAny_of_T _ _ _ _ h)
end
end
section
variable {P:Program} {ops:Array Oper} {Q:Exit→Act→World→Prop} {md:Region.Mode} {S:World→Prop} {z:Nat}
theorem tkT (i:Nat) {oi:Oper} {v:Value} {fuel:Nat} {listed:Array Bool} {a:Act} {w:World} (hi:ops[i]?=some oi) (hS:S w)
 (h:wpAnyT P md ops Q S z fuel (listed.setIfInBounds i true) (a.put oi.dst v) w)
 (hs:Region.noSelect ops=true:=by kernel_rfl) (hf:Region.free md ops listed i=true:=by kernel_rfl) (hr:(Region.ready md ops listed).contains i=true:=by kernel_rfl) (hz:Region.waitsFor md ops z i=true:=by kernel_rfl)
 (hy:∀ w,S w→(execOp a.eval oi).run P w=.ok (.value v) w:=by intro w hSw;(try dsimp only at hSw);go_simp;try with_reducible rfl)
 (hQ:∀ c a w,Q (.panic c) (a.put oi.dst v) w→Q (.panic c) a w:=by exact fun _ _ _ h=>h) (hw:Region.wanted oi (yielded ops a.tmps)=true:=by rfl):wpAnyT P md ops Q S z (fuel+1) listed a w :=
 wpAnyT_take hi hs hf hr hz hQ (Or.inl ⟨hw,hy⟩) hS h
theorem rdT (i:Nat) {fuel:Nat} {listed:Array Bool} {a:Act} {w:World} {o:Oper} (ho:ops[i]?=some o)
 (h:∀ K':Act→World→Prop,Shut (∀ a w,(i=z ∨ S w)→((i=z ∨ S w)→wpAnyT P md ops Q S z fuel (listed.setIfInBounds i true) a w)→K' a w)→if Region.wanted o (yielded ops a.tmps)=true then Oper.wp P o a w K' Q else K' (a.put o.dst undef) w)
 (hr:Region.ready md ops listed=[i]:=by kernel_rfl):wpAnyT P md ops Q S z (fuel+1) listed a w:=wpAnyT_ready hr (by simp) (AllReadyT.cons ho h AllReadyT.nil)
end
section
open Go.RowKit
attribute [local go_sem ↓] Go.wp_at_zero Go.wp_at_succ
def glueV (s v:Int):Int:=if v=0 then 0 else s+v - 1
def glueF (s:Int) (e:Ed):Ed:=⟨glueV s e.a,e.l,glueV s e.b⟩
def glueE (s:Int) (es:List Ed):List Ed:=es.map (glueF s)
structure GlueOk (r s:Int) (es:List Ed) (r' s':Int) (es':List Ed):Prop where
 g1:IsGr r s es
 g2:IsGr r' s' es'
 rk:r=r'
 sz:s+s' - 1≤40
 ln:es.length+es'.length≤120
def GlueAtBaseIs (r s:Int) (es:List Ed) (r' s':Int) (es':List Ed) (rr rs:Int) (res:List Ed) (b:Bool):Prop :=
 (b=true∧GlueOk r s es r' s' es'∧rr=r∧rs=s+s' - 1∧res=canon (es++glueE s es')) ∨ (b=false∧¬ GlueOk r s es r' s' es'∧rr=0∧rs=0∧res=[])
theorem GlueAtBaseIs.no {r s:Int} {es:List Ed} {r' s':Int} {es':List Ed} {rr rs:Int} {res:List Ed} {b:Bool} (h:GlueAtBaseIs r s es r' s' es' rr rs res b) (hn:¬ GlueOk r s es r' s' es'):b=false∧rr=0∧rs=0∧res=[]:=by
 rcases h with ⟨-,h, -⟩ | ⟨h1, -,h2⟩
 ·exact absurd h hn
 ·exact ⟨h1,h2⟩
theorem GlueAtBaseIs.yes {r s:Int} {es:List Ed} {r' s':Int} {es':List Ed} {rr rs:Int} {res:List Ed} {b:Bool} (h:GlueAtBaseIs r s es r' s' es' rr rs res b) (hn:GlueOk r s es r' s' es'):b=true∧rr=r∧rs=s+s' - 1∧res=canon (es++glueE s es'):=by
 rcases h with ⟨h1, -,h2⟩ | ⟨-,h, -⟩
 ·exact ⟨h1,h2⟩
 ·exact absurd hn h
theorem glue_place (B:Nat) (s v:Int) (w:World) (hc:w.cell? ⟨B,1,none⟩=some (.int .i64 s)) (h1:0≤s) (h2:s≤40) (h3:0≤v) (h4:v < 40) :
  Calls Tryz.prog 93 #[.int .i64 v,.pointer (some ⟨B,0,none⟩)] w fun e w'=>e=.returned (.int .i64 (glueV s v))∧w'=w:=by
 by_cases h0:v=0
 ·subst h0
  go_enter Tryz.func93,Tryz.ntmps93
  go_wp2_with fail;go_ret;exact ⟨rfl,rfl⟩
 ·have hv:glueV s v=s+v - 1:=by simp [glueV,h0]
  have hb:(v == 0)=false:=by simpa using h0
  rw [hv];clear hv h0;go_enter Tryz.func93,Tryz.ntmps93
  go_wp2_with fail;go_ret;exact ⟨rfl,rfl⟩
theorem owns_other {w w':World} {base:Nat} {e:TypeId} {size:Nat} {v:Value} {n:Nat} {xs:List Value} {k:Nat} (h:w.ownsRow base e size v n xs) (hg:w.grownBy w' (some k)) (hk:v.ownBlock≠some k):w'.ownsRow base e size v n xs :=
 h.kept hg (by
  cases hv:v.ownBlock with
  | none=>exact .inl rfl
  | some j=>exact .inr fun e=>hk (by rw [hv,e]))
theorem Box.grown {w w':World} {b:Nat} {cs:List Value} {row:Option Nat} (h:Box w b cs) (hg:w.grownBy w' row) (hb:row≠some b):Box w' b cs :=
 ⟨Nat.lt_of_lt_of_le h.1 hg.size,fun i u hu=>(World.cell?_of_block (hg.block b h.1 (fun e=>hb e.symm))).trans (h.2.1 i u hu),fun i=>(World.frozen?_of_block (hg.block b h.1 (fun e=>hb e.symm))).trans (h.2.2 i)⟩
theorem impl_GlueAtBase (r s:Int) (A:Option Addr) (es:List Ed) (c:Nat) (r' s':Int) (A':Option Addr) (es':List Ed) (c':Nat) (w:World) (lo hi lo' hi':Nat)
  (hr:RG w lo hi A es) (hr':RG w lo' hi' A' es') (hl:es.length≤1048576) (hl':es'.length≤1048576) (rr rs:Int) (res:List Ed) (b:Bool) (hres:GlueAtBaseIs r s es r' s' es' rr rs res b) :
  Calls Tryz.prog 11 #[graV r s A es.length c,graV r' s' A' es'.length c'] w fun e w'=>∃ A1 c1,e=.returned (.tuple #[graV rr rs A1 res.length c1,.bool b])∧OG w' w.heap.size w'.heap.size A1 c1 res∧Mid 0 0 w w':=by
 have HR:=Lib.hid hres;clear hres;obtain ⟨b1,hb1⟩:=bool_of (IsGr r s es);obtain ⟨b2,hb2⟩:=bool_of (IsGr r' s' es');have H1:=Lib.hid hb1;have H2:=Lib.hid hb2;clear hb1 hb2;have hm0:Mid 0 0 w (((w.alloc (.cells #[.int .i64 r,.int .i64 s,.slice A es.length c] 26)).alloc (.cells #[.int .i64 r',.int .i64 s',.slice A' es'.length c'] 26)).alloc (.cells #[.int .i64 0,.int .i64 0,.slice none 0 0] 26)):=((Mid.alloc _ _).trans (Mid.alloc _ _)).trans (Mid.alloc _ _);have B0:=((Box.new w #[.int .i64 r,.int .i64 s,.slice A es.length c] 26).mid (Mid.alloc _ (.cells #[.int .i64 r',.int .i64 s',.slice A' es'.length c'] 26)) oZr).mid (Mid.alloc _ (.cells #[.int .i64 0,.int .i64 0,.slice none 0 0] 26)) oZr;have B1:=(Box.new (w.alloc (.cells #[.int .i64 r,.int .i64 s,.slice A es.length c] 26)) #[.int .i64 r',.int .i64 s',.slice A' es'.length c'] 26).mid (Mid.alloc _ (.cells #[.int .i64 0,.int .i64 0,.slice none 0 0] 26)) oZr;have B2:=Box.new ((w.alloc (.cells #[.int .i64 r,.int .i64 s,.slice A es.length c] 26)).alloc (.cells #[.int .i64 r',.int .i64 s',.slice A' es'.length c'] 26)) #[.int .i64 0,.int .i64 0,.slice none 0 0] 26;simp only [World.size_alloc] at B1 B2;go_enter Tryz.func11,Tryz.ntmps11
 go_wp2_with fail;generalize hw1:(((w.alloc (.cells #[.int .i64 r,.int .i64 s,.slice A es.length c] 26)).alloc (.cells #[.int .i64 r',.int .i64 s',.slice A' es'.length c'] 26)).alloc (.cells #[.int .i64 0,.int .i64 0,.slice none 0 0] 26))=w1 at hm0 B0 B1 B2 ⊢;have hs1:w1.heap.size=w.heap.size+1+1+1:=by rw [← hw1];simp
 have HS:=Lib.hid hs1;clear hw1 hs1;with_reducible refine (impl_IsGraph r s A es c _ _ _ (hr.mid hm0 oZl).rv hl b1 H1.out).mono ?_
 rintro en w2 ⟨rfl,hm2⟩;have C0:=B0.mid hm2 oZr;have C1:=B1.mid hm2 oZr;have C2:=B2.mid hm2 oZr;have p0:=C0.cell 0 rfl;have p1:=C0.cell 1 rfl;have p2:=C0.cell 2 rfl;have q0:=C1.cell 0 rfl;have q1:=C1.cell 1 rfl;have q2:=C1.cell 2 rfl;have z0:=C2.cell 0 rfl;have z1:=C2.cell 1 rfl;have z2:=C2.cell 2 rfl;have zf:=C2.2.2;have hm:=hm0.trans hm2;cases b1 with
 | false =>
  have hno:¬ GlueOk r s es r' s' es':=fun h=>by have:=H1.out.2 h.g1;cases this
  obtain ⟨rfl,rfl,rfl,rfl⟩:=HR.out.no hno;go_wp2_with fail;refine bodyPost_ret (v:=.tuple #[.agg #[.int .i64 0,.int .i64 0,.slice none 0 0],.bool false]) (by simp [results,Tryz.results11,go_sem,z0,z1,z2,zf]) rfl ⟨none,0,rfl,OG.nil,?_⟩;repeat (first | exact hm | refine Mid.storeNew ?_ (by simp;try omega) _)
 | true =>
 have G1h:=Lib.hid (H1.out.1 rfl);clear B0 B1 B2;go_wp2_with fail;with_reducible refine (impl_IsGraph r' s' A' es' c' _ _ _ (hr'.mid hm oZl).rv hl' b2 H2.out).mono ?_
 rintro en w3 ⟨rfl,hm3⟩;have D0:=C0.mid hm3 oZr;have D1:=C1.mid hm3 oZr;have D2:=C2.mid hm3 oZr;clear p0 p1 p2 q0 q1 q2 z0 z1 z2 zf C0 C1 C2;have p0:=D0.cell 0 rfl;have p1:=D0.cell 1 rfl;have p2:=D0.cell 2 rfl;have q0:=D1.cell 0 rfl;have q1:=D1.cell 1 rfl;have q2:=D1.cell 2 rfl;have z0:=D2.cell 0 rfl;have z1:=D2.cell 1 rfl;have z2:=D2.cell 2 rfl;have zf:=D2.2.2;have hmm:=hm.trans hm3;have hw33:w.heap.size+3≤w3.heap.size:=by have h1:=HS.out;have h2:=hm2.size;have h3:=hm3.size;omega
 clear hm0 hm2 hm hm3;cases b2 with
 | false =>
  have hno:¬ GlueOk r s es r' s' es':=fun h=>by have:=H2.out.2 h.g2;cases this
  obtain ⟨rfl,rfl,rfl,rfl⟩:=HR.out.no hno;go_wp2_with fail;refine bodyPost_ret (v:=.tuple #[.agg #[.int .i64 0,.int .i64 0,.slice none 0 0],.bool false]) (by simp [results,Tryz.results11,go_sem,z0,z1,z2,zf]) rfl ⟨none,0,rfl,OG.nil,?_⟩;repeat (first | exact hmm | refine Mid.storeNew ?_ (by simp;try omega) _)
 | true =>
 have G2h:=Lib.hid (H2.out.1 rfl);clear H1 H2;have hsz:=G1h.out.size;have hsz':=G2h.out.size;by_cases hok:GlueOk r s es r' s' es'
 ·obtain ⟨rfl,hrr,hrs,hre⟩:=HR.out.yes hok
  have h1a:(r != r')=false:=by simpa using hok.rk
  have h2a:decide (40 < s+s' - 1)=false:=by have:=hok.sz;simp;omega
  have h3a:decide (120 < (es.length:Int)+(es'.length:Int))=false:=by have:=hok.ln;simp;omega
  have HRR:=Lib.hid hrr;have HRS:=Lib.hid hrs;have HRE:=Lib.hid hre;have hln:=hok.ln;have HK:=Lib.hid hok;clear hrr hrs hre hok HR;go_wp2_with fail;with_reducible refine (impl_copyGraph r s A es c _ _ _ (hr.mid hmm oZl) hl).mono ?_
  rintro en w4 ⟨A1,c1,rfl,ho4,hm4⟩;have E0:=D0.mid hm4 oZr;have E1:=D1.mid hm4 oZr;have E2:=D2.mid hm4 oZr;have hal:=Mid.alloc w4 (.cells #[.int .i64 r,.int .i64 (s+s' - 1),.slice A1 es.length c1] 26);have Y0:=E0.mid hal oZr;have Y1:=E1.mid hal oZr;have Y2:=E2.mid hal oZr;have Y3:=Box.new w4 #[.int .i64 r,.int .i64 (s+s' - 1),.slice A1 es.length c1] 26;have hzs:=hm4.size;have hmy:=(hmm.trans hm4).trans hal;have ho5:=(ho4.mid hal oZl).ov.2.1;have hlt4:=ho4.ov.2.2;clear p0 p1 p2 q0 q1 q2 z0 z1 z2 zf D0 D1 D2;have p1:=E0.cell 1 rfl;have q1:=E1.cell 1 rfl;have q2:=E1.cell 2 rfl;have hz0:=E0.1;have hz1:=E1.1;have hz2:=E2.1;clear E0 E1 E2;go_wp2_with fail;have hb4:Value.ownBlock (.slice A1 es.length c1)≠some w4.heap.size:=fun h=>by have:=hlt4 _ h;omega
  clear p1 q1 q2;generalize hw5:w4.alloc (.cells #[.int .i64 r,.int .i64 (s+s' - 1),.slice A1 es.length c1] 26)=w5 at Y0 Y1 Y2 Y3 hmy ho5 ⊢;have hs5:w4.heap.size+1≤w5.heap.size:=by rw [← hw5];simp
  clear hw5 hal;generalize hG:w4.heap.size=G at Y3 hb4 hs5 hz2 hzs ⊢;clear hG;have hGw:w.heap.size+2 < G:=by omega
  have hw3:w.heap.size≤w3.heap.size:=hmm.size;go_loopw [9,58] (fun _ i wr=>∃ (k:Nat) (A2:Option Addr) (n2 c2:Nat),k≤es'.length∧i=.int .i64 k∧Hid (n2=es.length+k) ∧
   wr.ownsRow w3.heap.size 68 3 (.slice A2 n2 c2) n2 (ints (edI (es++glueE s (es'.take k))))∧Value.ownBlock (.slice A2 n2 c2)≠some G ∧
   Box wr w.heap.size [.int .i64 r,.int .i64 s,.slice A es.length c]∧Box wr (w.heap.size+1) [.int .i64 r',.int .i64 s',.slice A' es'.length c']∧Box wr (w.heap.size+1+1) [.int .i64 0,.int .i64 0,.slice none 0 0] ∧
   Box wr G [.int .i64 r,.int .i64 (s+s' - 1),.slice A2 n2 c2]∧Mid 0 0 w wr) (fun _ i _=>es'.length - (intOf i).toNat)
  case atStart=>exact ⟨0,A1,es.length,c1,Nat.zero_le _,rfl,Lib.hid rfl,by simpa [glueE] using ho5,hb4,Y0,Y1,Y2,Y3,hmy⟩
  case round =>
   obtain ⟨k,A2,n2,c2,hk,rfl,HN,hown,hbk,Z0,Z1,Z2,Z3,hmr⟩:=hrel;have hn2:n2=es.length+k:=HN.out;have hn2l:n2≤240:=by omega
   have HN2:=Lib.hid hn2;clear hn2;have p1:=Z0.cell 1 rfl;have q2:=Z1.cell 2 rfl;by_cases hlt:k < es'.length
   ·obtain ⟨B,off,e,rfl, -,hbh,he,e0,e1,e2⟩:=(hr'.mid hmr oZl).ed hlt
    have hin:InG _ s' e:=G2h.out.all e (List.mem_of_getElem? he);obtain ⟨i1,i2,i3,i4,i5,i6⟩:=hin;have HE:=Lib.hid he;have hk0:(0:Int)≤(k:Int):=by omega
    have hkn:(k:Int) < (es'.length:Int):=by omega
    have hal:=Mid.alloc wr (.cells #[.int .i64 e.a,.int .i64 e.l,.int .i64 e.b] 68);have ZE:=Box.new wr #[.int .i64 e.a,.int .i64 e.l,.int .i64 e.b] 68;have V0:=Z0.mid hal oZr;have V1:=Z1.mid hal oZr;have V2:=Z2.mid hal oZr;have V3:=Z3.mid hal oZr;have hownV:=hown.alloc (.cells #[.int .i64 e.a,.int .i64 e.l,.int .i64 e.b] 68);have hmv:=hmr.trans hal;have hrk:=hmr.size;have hGr:G < wr.heap.size:=Z3.1;have hbE:Value.ownBlock (.slice A2 n2 c2)≠some wr.heap.size:=fun h=>by have:=(hown.lt _ h).2;omega
    clear he;go_wp2_with fail;generalize hwx:wr.alloc (.cells #[.int .i64 e.a,.int .i64 e.l,.int .i64 e.b] 68)=wx at ZE V0 V1 V2 V3 hownV hmv ⊢;clear hwx hal e0 e1 e2 p1 q2;generalize hgE:wr.heap.size=E at ZE hrk hGr hbE ⊢;clear hgE;obtain ⟨x,hx⟩:∃ x,glueV s e.a=x:=⟨_,rfl⟩
    obtain ⟨y,hy⟩:∃ y,glueV s e.b=y:=⟨_,rfl⟩
    have HX:=Lib.hid hx;have HY:=Lib.hid hy;have hmd:=Mid.drew1 wx;have U0:=V0.mid hmd oZr;have U1:=V1.mid hmd oZr;have U2:=V2.mid hmd oZr;have U3:=V3.mid hmd oZr;have UE:=ZE.mid hmd oZr;have hownU:=owns_mid hownV hmd oZl;have hmu:=hmv.trans hmd;have p1:=U0.cell 1 rfl;have f0:=UE.cell 0 rfl;have f1:=UE.cell 1 rfl;have f2:=UE.cell 2 rfl;have g2:=U3.cell 2 rfl;have hP1:=glue_place w.heap.size s e.a _ p1 (by omega) (by omega) i1 (by omega);have hP2:=glue_place w.heap.size s e.b _ p1 (by omega) (by omega) i3 (by omega);rw [hx] at hP1;rw [hy] at hP2;clear hx hy V0 V1 V2 V3 ZE hownV hmv hmd;refine wp_region_T (S:=(fun w'=>w'.cell? ⟨E,0,none⟩=some (.int .i64 e.a)∧w'.cell? ⟨E,1,none⟩=some (.int .i64 e.l)∧w'.cell? ⟨E,2,none⟩=some (.int .i64 e.b)∧w'.cell? ⟨G,2,none⟩=some (.slice A2 n2 c2))) 16 (by kernel_rfl) ⟨f0,f1,f2,g2⟩ ?_;generalize World.drew wx=wz at U0 U1 U2 U3 UE hownU hmu p1 f0 f1 f2 g2 hP1 hP2 ⊢;have hS:wz.cell? ⟨E,0,none⟩=some (.int .i64 e.a)∧wz.cell? ⟨E,1,none⟩=some (.int .i64 e.l)∧wz.cell? ⟨E,2,none⟩=some (.int .i64 e.b)∧wz.cell? ⟨G,2,none⟩=some (.slice A2 n2 c2):=⟨f0,f1,f2,g2⟩
    refine tkT 0 rfl hS ?_;try simp only [Act.put,zs1,zs2,zs3,zs4,zs5,zs6]
    refine tkT 1 rfl hS ?_;try simp only [Act.put,zs1,zs2,zs3,zs4,zs5,zs6]
    refine tkT 2 rfl hS ?_;try simp only [Act.put,zs1,zs2,zs3,zs4,zs5,zs6]
    refine tkT 3 rfl hS ?_;try simp only [Act.put,zs1,zs2,zs3,zs4,zs5,zs6]
    refine tkT 4 rfl hS ?_;try simp only [Act.put,zs1,zs2,zs3,zs4,zs5,zs6]
    refine tkT 6 rfl hS ?_;try simp only [Act.put,zs1,zs2,zs3,zs4,zs5,zs6]
    refine tkT 7 rfl hS ?_;try simp only [Act.put,zs1,zs2,zs3,zs4,zs5,zs6]
    refine tkT 8 rfl hS ?_;try simp only [Act.put,zs1,zs2,zs3,zs4,zs5,zs6]
    refine tkT 9 rfl hS ?_;try simp only [Act.put,zs1,zs2,zs3,zs4,zs5,zs6]
    refine tkT 10 rfl hS ?_;try simp only [Act.put,zs1,zs2,zs3,zs4,zs5,zs6]
    refine rdT 5 rfl (fun K hK=>?_)
    (go_simp;refine hP1.mono ?_;rintro _ w' ⟨rfl,h⟩;obtain rfl:=h.symm;go_wp2_with fail)
    refine hK.out _ _ (Or.inr hS) (fun _=>?_);clear hK K;try simp only [Act.put,zs1,zs2,zs3,zs4,zs5,zs6]
    refine rdT 11 rfl (fun K hK=>?_)
    (go_simp;refine hP2.mono ?_;rintro _ w' ⟨rfl,h⟩;obtain rfl:=h.symm;go_wp2_with fail)
    refine hK.out _ _ (Or.inr hS) (fun _=>?_);clear hK K;try simp only [Act.put,zs1,zs2,zs3,zs4,zs5,zs6]
    refine tkT 12 rfl hS ?_;try simp only [Act.put,zs1,zs2,zs3,zs4,zs5,zs6]
    have haz:=Mid.alloc wz (.cells #[.int .i64 x,.int .i64 e.l,.int .i64 y] 68);have T0:=U0.mid haz oZr;have T1:=U1.mid haz oZr;have T2:=U2.mid haz oZr;have T3:=U3.mid haz oZr;have TE:=UE.mid haz oZr;have hownT:=hownU.alloc (.cells #[.int .i64 x,.int .i64 e.l,.int .i64 y] 68);have hmt:=hmu.trans haz;have hS2:=And.intro (TE.cell 0 rfl) (And.intro (TE.cell 1 rfl) (And.intro (TE.cell 2 rfl) (T3.cell 2 rfl)));have hrs:Rs (wz.alloc (.cells #[.int .i64 x,.int .i64 e.l,.int .i64 y] 68)) (wz.heap.size+1) (some ⟨wz.heap.size,0,none⟩) [.int .i64 x,.int .i64 e.l,.int .i64 y]:=fun _=>⟨wz.heap.size,0,rfl,Nat.lt_succ_self _,fun j u hu=>(World.cell?_alloc_at _ _ _ _ rfl).trans (by simpa using hu)⟩
    have hone:∀ u∈[Value.int .i64 x,.int .i64 e.l,.int .i64 y],u.oneCell'=true:=by
     intro u hu;simp at hu;rcases hu with rfl | rfl | rfl <;> rfl
    have hmxl:n2+1≤maxLen:=by unfold maxLen;omega
    have hbyt:(n2+1) * 24≤140737488355328:=by omega
    have hbas:w3.heap.size≤(wz.alloc (.cells #[.int .i64 x,.int .i64 e.l,.int .i64 y] 68)).heap.size:=by have:=hownT;have h1:=T3.1;omega
    have hGz:G < wz.heap.size:=U3.1;have HO:=Lib.hid hone;have HB0:=Lib.hid (fun (g:Nat) (h:Value.ownBlock (.slice A2 n2 c2)=some g)=>(hownT.lt g h).1);have HBk:=Lib.hid hbk;have HBe:=Lib.hid hbE;clear hone hbk hbE U0 U1 U2 U3 UE hownU f0 f1 f2 g2 p1 hS hmu haz hP1 hP2;refine rdT 13 rfl (fun K hK=>?_);go_simp;refine hK.out _ _ (Or.inr hS2) (fun _=>?_);clear hK K;try simp only [Act.put,zs1,zs2,zs3,zs4,zs5,zs6]
    generalize hwt:wz.alloc (.cells #[.int .i64 x,.int .i64 e.l,.int .i64 y] 68)=wt at T0 T1 T2 T3 TE hownT hmt hS2 hrs hbas ⊢;have hszt:wt.heap.size=wz.heap.size+1:=by rw [← hwt];simp
    have HZT:=Lib.hid hszt;clear hwt hszt;refine rdT 14 rfl (fun K hK=>?_)
    (refine step_cat (by rfl) (.tmp 63) (.tmp 75) 24 (by rfl) w3.heap.size 68 (.agg #[.int .i64 0,.int .i64 0,.int .i64 0]) 3 24 undSE infoE rfl (by decide) (.slice A2 n2 c2) n2 _ (by rfl) hownT (some ⟨wz.heap.size,0,none⟩) 1 1 _ [.int .i64 x,.int .i64 e.l,.int .i64 y] (by rfl) hrs rfl HO.out hmxl hbyt hbas ?_;intro v2 w2 ho2 hgr2 hat2;obtain ⟨A3,c3,rfl, -, -⟩:=owns_shape ho2)
    refine hK.out _ _ (Or.inr ⟨(TE.grown hgr2 HBe.out).cell 0 rfl,(TE.grown hgr2 HBe.out).cell 1 rfl,(TE.grown hgr2 HBe.out).cell 2 rfl,(T3.grown hgr2 HBk.out).cell 2 rfl⟩) (fun _=>?_);clear hK K;try simp only [Act.put,zs1,zs2,zs3,zs4,zs5,zs6]
    have R3:=T3.grown hgr2 HBk.out;have RE:=TE.grown hgr2 HBe.out;have R0:=T0.grown hgr2 (fun h=>by have:=HB0.out _ h;omega);have R1:=T1.grown hgr2 (fun h=>by have:=HB0.out _ h;omega);have R2:=T2.grown hgr2 (fun h=>by have:=HB0.out _ h;omega);have hmr2:Mid 0 0 w w2:=hmt.transNew (Mid.of_grownRow hownT hgr2) (Or.inl hw3);have hS3:=And.intro (RE.cell 0 rfl) (And.intro (RE.cell 1 rfl) (And.intro (RE.cell 2 rfl) (R3.cell 2 rfl)));have hne:Value.ownBlock (.slice A3 (n2+1) c3)≠some G:=by
     rcases hat2 with h | h
     ·rw [h];exact HBk.out
     ·rw [h]
      intro he;injection he with he
      have:=HZT.out;omega
    have HNE:=Lib.hid hne;have hr2:=R3.cell 2 rfl;have hrf:=R3.2.2;clear hne hat2 hS2 hrs T0 T1 T2 T3 TE hmt;refine tkT 15 rfl hS3 ?_;try simp only [Act.put,zs1,zs2,zs3,zs4,zs5,zs6]
    refine rdT 16 rfl (fun K hK=>?_)
    (go_simp)
    refine hK.out _ _ (Or.inl rfl) (fun _=>?_);clear hK K;try simp only [Act.put,zs1,zs2,zs3,zs4,zs5,zs6]
    refine wpAnyT_done (by kernel_rfl) ?_ _;go_wp2_with fail;go_roundw
    case rel =>
     have hst:=Mid.setCell w2 (lo:=G) (hi:=G+1) (p:=⟨G,2,none⟩) (.slice A3 (n2+1) c3) (Nat.le_refl _) (Nat.lt_succ_self _);refine ⟨k+1,A3,n2+1,c3,by omega,by go_num,Lib.hid (by rw [HN2.out];omega),?_,HNE.out,R0.mid hst (Or.inl (by omega)),R1.mid hst (Or.inl (by omega)),R2.mid hst (Or.inl (by omega)),R3.set 2 _ (by simp) rfl,hmr2.storeNew (by show w.heap.size≤G;omega) _⟩;have h1:=owns_other ho2 (k:=G) (grown_setCell (World.grownBy.refl _ (some G)) 2 (.slice A3 (n2+1) c3)) HNE.out;have h2:ints (edI (es++glueE s (es'.take (k+1))))=ints (edI (es++glueE s (es'.take k)))++[.int .i64 x,.int .i64 e.l,.int .i64 y]:=by
      rw [take_snoc HE.out];simp [glueE,edI_append,edI_one,ints_append,ints,glueF,HX.out,HY.out]
     rw [h2];exact h1
    case measure=>simp [intOf];omega
   ·obtain rfl:k=es'.length:=by omega
    rw [List.take_length] at hown;have hrg:RG wr w3.heap.size wr.heap.size A2 (es++glueE s es'):=OV.rv (e:=68) (size:=3) (c:=c2) (n:=n2) ⟨Nat.le_refl _,hown,fun g hg=>(hown.lt g hg).2⟩;have hnl:(es++glueE s es').length=n2:=by rw [HN2.out];simp [glueE]
    have HNL:=Lib.hid hnl;have z2:=Z3.cell 2 rfl;clear hnl;go_wp2_with fail;with_reducible refine (impl_sortedN A2 (es++glueE s es') n2 c2 _ _ _ HNL.out hrg (by omega)).mono ?_
    rintro en w6 ⟨A4,c4,rfl,ho6,hm6⟩;have Q2:=Z2.mid hm6 oZr;have Q3:=Z3.mid hm6 oZr;have hG6:G < wr.heap.size:=Z3.1;have hsz6:=hm6.size;clear z2;have a0:=Q2.cell 0 rfl;have a1:=Q2.cell 1 rfl;have a2:=Q2.cell 2 rfl;have b0:=Q3.cell 0 rfl;have b1:=Q3.cell 1 rfl;have b2:=Q3.cell 2 rfl;have af:=Q2.2.2;have bf:=Q3.2.2;go_wp2_with fail;have hcl:(w.heap.size+1+1 == G)=false:=by simp;omega
    refine bodyPost_ret (v:=.tuple #[.agg #[.int .i64 r,.int .i64 (s+s' - 1),.slice A4 (canon (es++glueE s es')).length c4],.bool true]) (by simp [results,Tryz.results11,go_sem,a0,a1,a2,b0,b1,b2,af,bf]) rfl ⟨A4,c4,?_,?_,?_⟩
    ·rw [HRR.out,HRS.out,HRE.out]
    ·rw [HRE.out]
     refine OG.wide (OG.mid ho6 (a:=w.heap.size) (b:=G+1) ?_ (Or.inl hG6)) (by have:=hmr.size;omega) (by simp) (Nat.le_refl _);repeat (first | exact Mid.refl _ _ _ | refine Mid.stored ?_ _ (by simp;try omega) (by simp;try omega))
    ·have h:=hmr.trans hm6
     repeat (first | exact h | refine Mid.storeNew ?_ (by simp;try omega) _)
 ·obtain ⟨rfl,rfl,rfl,rfl⟩:=HR.out.no hok
  have hc:r≠r' ∨ (r=r'∧40 < s+s' - 1) ∨ (r=r'∧¬ 40 < s+s' - 1∧120 < es.length+es'.length):=by
   by_cases h1:r=r'
   ·by_cases h2:40 < s+s' - 1
    ·exact .inr (.inl ⟨h1,h2⟩)
    ·refine .inr (.inr ⟨h1,h2,?_⟩)
     refine Classical.byContradiction fun h3=>hok ⟨G1h.out,G2h.out,h1,by omega,by omega⟩
   ·exact .inl h1
  clear hok;rcases hc with h1 | ⟨h1,h2⟩ | ⟨h1,h2,h3⟩
  ·have h1a:(r != r')=true:=by simpa using h1
   go_wp2_with fail;refine bodyPost_ret (v:=.tuple #[.agg #[.int .i64 0,.int .i64 0,.slice none 0 0],.bool false]) (by simp [results,Tryz.results11,go_sem,z0,z1,z2,zf]) rfl ⟨none,0,rfl,OG.nil,?_⟩;repeat (first | exact hmm | refine Mid.storeNew ?_ (by simp;try omega) _)
  ·have h1a:(r != r')=false:=by simpa using h1
   have h2a:decide (40 < s+s' - 1)=true:=by simpa using h2
   clear h1;go_wp2_with fail;refine bodyPost_ret (v:=.tuple #[.agg #[.int .i64 0,.int .i64 0,.slice none 0 0],.bool false]) (by simp [results,Tryz.results11,go_sem,z0,z1,z2,zf]) rfl ⟨none,0,rfl,OG.nil,?_⟩;repeat (first | exact hmm | refine Mid.storeNew ?_ (by simp;try omega) _)
  ·have h1a:(r != r')=false:=by simpa using h1
   have h2a:decide (40 < s+s' - 1)=false:=by simpa using h2
   have h3a:decide (120 < (es.length:Int)+(es'.length:Int))=true:=by simp;omega
   clear h1;go_wp2_with fail;refine bodyPost_ret (v:=.tuple #[.agg #[.int .i64 0,.int .i64 0,.slice none 0 0],.bool false]) (by simp [results,Tryz.results11,go_sem,z0,z1,z2,zf]) rfl ⟨none,0,rfl,OG.nil,?_⟩;repeat (first | exact hmm | refine Mid.storeNew ?_ (by simp;try omega) _)
end
section
open Go.RowKit Go.Sort
section
variable {W:World} {ops:Array Oper} {rest:List Oper} {o:Oper} {a:Act} {Q:Exit→Act→World→Prop}
theorem wpList_pushI (hgd:o.guard=none) (s x:Operand)
  (ho:o.op=.call { callee:=.builtin .append,args:=#[s,x],argTypes:=#[34,34] }) (lo:Nat) (A:Option Addr) (n c:Nat) (xs:List Int) (hs:a.eval s=.slice A n c)
  (hown:W.ownsRow lo 3 1 (.slice A n c) n (ints xs)) (y:Int) (hx:a.eval x=.slice (some ⟨W.heap.size,0,none⟩) 1 1) (hn:n≤1048576) (hb:lo≤W.heap.size)
  (h:∀ A' c' w',w'.ownsRow lo 3 1 (.slice A' (n+1) c') (n+1) (ints (xs++[y]))→Mid lo W.heap.size W w'→wpList Tryz.prog ops Q rest (a.put o.dst (.slice A' (n+1) c')) w') :
  wpList Tryz.prog ops Q (o :: rest) a (W.alloc (.cells #[.int .i64 y] 3)):=by
 refine wpList_push (news:=[.int .i64 y]) hgd s x 34 ho lo 3 (.int .i64 0) 1 8 undSI infoI rfl (by decide) (.slice A n c) n (ints xs) hs hown 1 hx rfl ?_ (by unfold maxLen;omega) (by omega) hb ?_
 ·intro u hu
  simp at hu;subst hu
  rfl
 ·intro v' w' h1 h2 _
  obtain ⟨A',c',rfl, -, -⟩:=owns_shape h1;refine h A' c' w' ?_ (Mid.of_grownRow hown h2);rw [ints_append];exact h1
end
theorem ends_take {es:List Ed} {k:Nat} {e:Ed} (h:es[k]?=some e) (v x:Int):ends (es.take (k+1)) v x=ends (es.take k) v x++(endOf v x e).toList:=by
 rw [take_snoc h,ends,List.filterMap_append];cases hd:endOf v x e <;> simp [ends,hd]
theorem endOf_cases (v x:Int) (e:Ed):(endOf v x e=some e.b∧(0 < x∧e.l=x∧e.a=v)) ∨ (endOf v x e=some e.a∧¬ (0 < x∧e.l=x∧e.a=v)∧(x < 0∧e.l = -x∧e.b=v)) ∨ (endOf v x e=none∧¬ (0 < x∧e.l=x∧e.a=v)∧¬ (x < 0∧e.l = -x∧e.b=v)):=by
 unfold endOf;split
 ·rename_i h1
  exact Or.inl ⟨rfl,h1⟩
 ·rename_i h1
  split
  ·rename_i h2
   exact Or.inr (Or.inl ⟨rfl,h1,h2⟩)
  ·rename_i h2
   exact Or.inr (Or.inr ⟨rfl,h1,h2⟩)
theorem compact_head (x:Int) (t:List Int):∃ t',Lib.compact (x :: t)=x :: t':=by
 refine ⟨((List.range' 1 t.length).filter (Lib.keeps (x :: t).toArray)).map ((x :: t).toArray[·]!),?_⟩;unfold Lib.compact Lib.compactUpTo;rw [show (x :: t).length=t.length+1 from rfl,List.range_eq_range',List.range'_succ,List.filter_cons,if_pos (Lib.keeps_lt_one _ 0 (by omega)),List.map_cons]
 rfl
theorem compact_len (zs:List Int):(Lib.compact zs).length≤zs.length:=by
 unfold Lib.compact Lib.compactUpTo;rw [List.length_map];exact Nat.le_trans (List.length_filter_le _ _) (by simp)
def StepsIs (es:List Ed) (v x:Int) (zs:List Int):Prop:=(ends es v x=[]→zs=[])∧(ends es v x≠[]→∃ t,zs=nextV es v x :: t)∧zs.length≤es.length
theorem sorted_head {l zs:List Int} (hp:zs.Perm l) (hs:zs.Pairwise (·≤·)) (hn:l≠[]):∃ t,zs=leastI l :: t:=by
 cases zs with
 | nil=>exact absurd hp.symm.eq_nil hn
 | cons z t =>
  refine ⟨t,?_⟩;obtain ⟨h1, -⟩:=List.pairwise_cons.1 hs;rw [leastI_eq (x:=z) (hp.mem_iff.1 (by simp)) fun y hy=>?_];rcases List.mem_cons.1 (hp.mem_iff.2 hy) with rfl | h
  ·exact Int.le_refl _
  ·exact h1 y h
theorem stepsIs_sort (es:List Ed) (v x:Int):StepsIs es v x (Lib.compact ((ends es v x).mergeSort fun x y=>decide (x≤y))):=by
 have hp:=List.mergeSort_perm (ends es v x) (fun x y=>decide (x≤y));have hs:((ends es v x).mergeSort fun x y=>decide (x≤y)).Pairwise (·≤·):=by
  have:=List.pairwise_mergeSort (le:=fun x y:Int=>decide (x≤y)) (by intro a b c h1 h2;simp at *;omega) (by intro a b;simp;omega) (ends es v x);exact this.imp fun h=>by simpa using h
 refine ⟨fun h=>?_,fun h=>?_,?_⟩
 ·rw [h]
  simp [Lib.compact,Lib.compactUpTo]
 ·obtain ⟨t,ht⟩:=sorted_head hp hs h
  rw [ht];exact compact_head _ _
 ·have h1:=compact_len ((ends es v x).mergeSort fun x y=>decide (x≤y))
  have h2:=ends_len es v x;rw [hp.length_eq] at h1;omega
theorem compactI (A:Option Addr) (xs:List Int) (n c:Nat) (w:World) (lo:Nat) (hn:xs.length=n) (ho:w.ownsRow lo 3 1 (.slice A n c) n (ints xs)) (hl:n≤1048576) :
  Calls Tryz.prog 220 #[.slice A n c] w fun e w'=>e=.returned (.slice A (Lib.compact xs).length c)∧w'.ownsRow lo 3 1 (.slice A (Lib.compact xs).length c) (Lib.compact xs).length (ints (Lib.compact xs))∧w.grownBy w' (Value.ownBlock (.slice A n c)):=by
 subst hn;by_cases hv:Value.slice A xs.length c=.slice none 0 0
 ·injection hv with h1 h2 h3
  obtain rfl:=List.eq_nil_of_length_eq_zero h2;subst h1 h3;refine (Tryz.slices_Compact_int_empty none 0 w).mono ?_;rintro e w' ⟨rfl,rfl⟩;exact ⟨rfl,ho,World.grownBy.refl _ _⟩
 ·obtain ⟨g,cap,he,hb,hg,hn,hm,hz,hH⟩:=Lib.holds_of_ownsRow (enc:=Value.int .i64) (zs:=xs) ho hv
  injection he with h1 _ h3
  subst h1 h3;refine (Tryz.slices_Compact_int g 0 c xs w hH (by omega) hn).mono ?_;rintro e w' ⟨rfl,q,rfl⟩;have hle:=compact_len xs;have hlen:(Lib.compact xs++List.replicate (xs.length - (Lib.compact xs).length) 0).length=xs.length:=by simp;omega
  have h2:=Lib.ownsRow_putRow (enc:=Value.int .i64) (q:=q) (k:=(Lib.compact xs).length) (ys:=Lib.compact xs++List.replicate (xs.length - (Lib.compact xs).length) 0) ho hlen hle;rw [List.take_left] at h2;refine ⟨rfl,h2,?_⟩;refine ⟨rfl,rfl,rfl,by simp [putRow,mapBlock,Sort.ahead],fun k hk hne=>?_⟩;have:g≠k:=fun e=>hne (by rw [e];rfl);simp [putRow,mapBlock,Sort.ahead,Array.getElem?_modify,this]
theorem sortN (A:Option Addr) (xs:List Int) (n c:Nat) (w:World) (lo:Nat) (hn:xs.length=n) (ho:w.ownsRow lo 3 1 (.slice A n c) n (ints xs)) (hl:n≤1048576) :
  Calls Tryz.prog 219 #[.slice A n c] w fun e w'=>e=.returned (.tuple #[])∧w'.ownsRow lo 3 1 (.slice A n c) n (ints (xs.mergeSort fun x y=>decide (x≤y)))∧w.grownBy w' (Value.ownBlock (.slice A n c)):=by
 subst hn;refine (sortI A xs c w lo ho hl).mono ?_;rintro e w' ⟨he,h1,h2⟩;rw [List.length_mergeSort] at h1 h2;exact ⟨he,h1,h2⟩
theorem impl_StepsFrom (r s:Int) (A:Option Addr) (es:List Ed) (c:Nat) (v x:Int) (w:World) (lo hi:Nat) (hr:RG w lo hi A es) (hl:es.length≤1000000) (hg:∀ e∈es,1≤e.l∧e.l≤3) (hx1:-9223372036854775808≤x) (hx2:x≤9223372036854775807) :
  Calls Tryz.prog 192 #[.agg #[.int .i64 r,.int .i64 s,.slice A es.length c],.int .i64 v,.int .i64 x] w fun e w'=>∃ A' c' zs,e=.returned (.slice A' zs.length c')∧RV w' 0 w'.heap.size A' (ints zs)∧StepsIs es v x zs∧Mid 0 0 w w':=by
 have hm0:Mid 0 0 w ((w.alloc (.cells #[.int .i64 r,.int .i64 s,.slice A es.length c] 26)).alloc (.cells #[] 3)):=(Mid.alloc _ _).trans (Mid.alloc _ _);have B0:=(Box.new w #[.int .i64 r,.int .i64 s,.slice A es.length c] 26).mid (Mid.alloc _ (.cells #[] 3)) oZr;have O0:=owns_empty (w.alloc (.cells #[.int .i64 r,.int .i64 s,.slice A es.length c] 26)) 3 1;rw [World.size_alloc] at O0;go_enter Tryz.func192,Tryz.ntmps192
 go_wp2_with fail;go_loopw [7,14] (fun out i wr=>∃ (k:Nat) (A1:Option Addr) (c1 n1:Nat),k≤es.length∧i=.int .i64 k∧out=.slice A1 n1 c1∧Hid ((ends (es.take k) v x).length=n1) ∧
   wr.ownsRow (w.heap.size+1) 3 1 (.slice A1 n1 c1) n1 (ints (ends (es.take k) v x))∧Mid 0 0 w wr∧w.heap.size+1≤wr.heap.size) (fun _ i _=>es.length - (intOf i).toNat)
 case atStart=>exact ⟨0,_,0,0,Nat.zero_le _,rfl,rfl,Lib.hid (by simp [ends]),by simpa [ends,ints] using O0,hm0,by simp⟩
 case round =>
  obtain ⟨k,A1,c1,n1,hk,rfl,rfl,HN,hown,hm,hsz⟩:=hrel;have hn1:n1≤1000000:=by
   have h1:=ends_len (es.take k) v x;have h2:=HN.out;simp at h1;omega
  by_cases hlt:k < es.length
  ·obtain ⟨B,off,e,rfl, -,hbh,he,e0,e1,e2⟩:=(hr.mid hm oZl).ed hlt
   obtain ⟨l1,l3⟩:=hg e (List.mem_of_getElem? he);have het:=ends_take he v x;have hal:=Mid.alloc wr (.cells #[.int .i64 e.a,.int .i64 e.l,.int .i64 e.b] 68);have hown1:=hown.alloc (.cells #[.int .i64 e.a,.int .i64 e.l,.int .i64 e.b] 68);have hm1:=hm.trans hal;have hsz1:w.heap.size+1≤(wr.alloc (.cells #[.int .i64 e.a,.int .i64 e.l,.int .i64 e.b] 68)).heap.size:=by simp;omega
   have HET:=Lib.hid het;have hkn:(k:Int) < (es.length:Int):=by omega
   clear he het;rcases (endOf_cases v x e:(endOf v x e=some e.b∧(0 < x∧e.l=x∧e.a=v)) ∨ (endOf v x e=some e.a∧¬ (0 < x∧e.l=x∧e.a=v)∧(x < 0∧e.l = -x∧e.b=v)) ∨ (endOf v x e=none∧¬ (0 < x∧e.l=x∧e.a=v)∧¬ (x < 0∧e.l = -x∧e.b=v))) with ⟨hv,h1⟩ | ⟨hv,h1,h2⟩ | ⟨hv,h1,h2⟩
   ·have HW:=Lib.hid hown1
    clear hown hown1;obtain ⟨p1,p2,p3⟩:=h1;have b1:decide (0 < x)=true:=by simpa using p1
    have b2:(e.l == x)=true:=by simpa using p2
    have b3:(e.a == v)=true:=by simpa using p3
    clear p1 p2 p3;go_wp2_with (at_builtin;refine wpList_pushI rfl _ _ rfl (w.heap.size+1) A1 n1 c1 _ rfl HW.out e.b (by rw [World.size_alloc];rfl) (by omega) hsz1 ?_;intro A2 c2 w2 hown2 hm2)
    go_roundw
    case rel=>exact ⟨k+1,A2,c2,n1+1,by omega,by go_num,rfl,Lib.hid (by rw [HET.out,hv,List.length_append,HN.out];rfl),(by rw [HET.out,hv];exact hown2),hm1.transNew hm2 (Or.inl (Nat.le_succ _)),Nat.le_trans hsz1 hm2.size⟩
    case measure=>simp [intOf];omega
   ·have HW:=Lib.hid hown1
    clear hown hown1;obtain ⟨p1,p2,p3⟩:=h2;have b1:decide (0 < x)=false:=by simp;omega
    have b0:decide (x < 0)=true:=by simpa using p1
    have b2:(x == -9223372036854775808)=false:=by simp only [beq_eq_false_iff_ne];omega
    have b2n:(x != -9223372036854775808)=true:=by simp only [bne_iff_ne,ne_eq];omega
    have b4:wrap64 (-x) = -x:=by unfold wrap64;omega
    have b5:(e.l == -x)=true:=by simpa using p2
    have b3:(e.b == v)=true:=by simpa using p3
    clear h1 p1 p2 p3;go_wp2_with (at_builtin;refine wpList_pushI rfl _ _ rfl (w.heap.size+1) A1 n1 c1 _ rfl HW.out e.a (by rw [World.size_alloc];rfl) (by omega) hsz1 ?_;intro A2 c2 w2 hown2 hm2)
    go_roundw
    case rel=>exact ⟨k+1,A2,c2,n1+1,by omega,by go_num,rfl,Lib.hid (by rw [HET.out,hv,List.length_append,HN.out];rfl),(by rw [HET.out,hv];exact hown2),hm1.transNew hm2 (Or.inl (Nat.le_succ _)),Nat.le_trans hsz1 hm2.size⟩
    case measure=>simp [intOf];omega
   ·have HW:=Lib.hid hown1
    clear hown hown1;rcases (by omega:0 < x ∨ x < 0 ∨ x=0) with p1 | p1 | p1
    ·have b1:decide (0 < x)=true:=by simpa using p1
     have b0:decide (x < 0)=false:=by simp;omega
     by_cases p2:e.l=x
     ·have b2:(e.l == x)=true:=by simpa using p2
      have b3:(e.a == v)=false:=by simp only [beq_eq_false_iff_ne];exact fun h=>h1 ⟨p1,p2,h⟩
      clear h1 h2 p1 p2;go_wp2_with fail;go_roundw
      case rel=>exact ⟨k+1,A1,c1,n1,by omega,by go_num,rfl,Lib.hid (by rw [HET.out,hv];simpa using HN.out),(by rw [HET.out,hv];simpa using HW.out),hm1,hsz1⟩
      case measure=>simp [intOf];omega
     ·have b2:(e.l == x)=false:=by simpa only [beq_eq_false_iff_ne] using p2
      clear h1 h2 p1 p2;go_wp2_with fail;go_roundw
      case rel=>exact ⟨k+1,A1,c1,n1,by omega,by go_num,rfl,Lib.hid (by rw [HET.out,hv];simpa using HN.out),(by rw [HET.out,hv];simpa using HW.out),hm1,hsz1⟩
      case measure=>simp [intOf];omega
    ·have b1:decide (0 < x)=false:=by simp;omega
     have b0:decide (x < 0)=true:=by simpa using p1
     by_cases p4:x = -9223372036854775808
     ·subst p4
      clear h1 h2 p1;go_wp2_with fail;go_roundw
      case rel=>exact ⟨k+1,A1,c1,n1,by omega,by go_num,rfl,Lib.hid (by rw [HET.out,hv];simpa using HN.out),(by rw [HET.out,hv];simpa using HW.out),hm1,hsz1⟩
      case measure=>simp [intOf];omega
     ·have b2:(x == -9223372036854775808)=false:=by simpa only [beq_eq_false_iff_ne] using p4
      have b2n:(x != -9223372036854775808)=true:=by simpa only [bne_iff_ne,ne_eq] using p4
      have b4:wrap64 (-x) = -x:=by unfold wrap64;omega
      by_cases p2:e.l = -x
      ·have b5:(e.l == -x)=true:=by simpa using p2
       have b3:(e.b == v)=false:=by simp only [beq_eq_false_iff_ne];exact fun h=>h2 ⟨p1,p2,h⟩
       clear h1 h2 p1 p2;go_wp2_with fail;go_roundw
       case rel=>exact ⟨k+1,A1,c1,n1,by omega,by go_num,rfl,Lib.hid (by rw [HET.out,hv];simpa using HN.out),(by rw [HET.out,hv];simpa using HW.out),hm1,hsz1⟩
       case measure=>simp [intOf];omega
      ·have b5:(e.l == -x)=false:=by simpa only [beq_eq_false_iff_ne] using p2
       clear h1 h2 p1 p2;go_wp2_with fail;go_roundw
       case rel=>exact ⟨k+1,A1,c1,n1,by omega,by go_num,rfl,Lib.hid (by rw [HET.out,hv];simpa using HN.out),(by rw [HET.out,hv];simpa using HW.out),hm1,hsz1⟩
       case measure=>simp [intOf];omega
    ·subst p1
     clear h1 h2;go_wp2_with fail;go_roundw
     case rel=>exact ⟨k+1,A1,c1,n1,by omega,by go_num,rfl,Lib.hid (by rw [HET.out,hv];simpa using HN.out),(by rw [HET.out,hv];simpa using HW.out),hm1,hsz1⟩
     case measure=>simp [intOf];omega
  ·obtain rfl:k=es.length:=by omega
   rw [List.take_length] at HN hown;have hq:=sortN A1 _ n1 c1 wr _ HN.out hown (by omega);have hlen:((ends es v x).mergeSort fun x y=>decide (x≤y)).length=n1:=by rw [List.length_mergeSort];exact HN.out
   have hst:=stepsIs_sort es v x;go_wp2_with fail;with_reducible refine (hq).mono ?_
   rintro en w2 ⟨rfl,hown2,hm2⟩;go_wp2_with fail;with_reducible refine (compactI A1 _ n1 c1 w2 _ hlen hown2 (by omega)).mono ?_
   rintro en w3 ⟨rfl,hown3,hm3⟩;have hmm:=hm.transNew (Mid.of_grownRow hown hm2) (Or.inl (by omega));go_wp2_with fail;go_ret;exact ⟨A1,c1,_,rfl,(OV.rv (lo:=w.heap.size+1) ⟨Nat.le_refl _,hown3,fun g hg=>(hown3.lt g hg).2⟩).wide (Nat.zero_le _) (Nat.le_refl _) (Nat.le_refl _),hst,hmm.transNew (Mid.of_grownRow hown2 hm3) (Or.inl (by omega))⟩
theorem impl_NextVertex (r s:Int) (A:Option Addr) (es:List Ed) (c:Nat) (v x:Int) (w:World) (lo hi:Nat) (hr:RG w lo hi A es) (hl:es.length≤1000000) (hg:∀ e∈es,1≤e.l∧e.l≤3) (hx1:-9223372036854775808≤x) (hx2:x≤9223372036854775807) :
  Calls Tryz.prog 135 #[.agg #[.int .i64 r,.int .i64 s,.slice A es.length c],.int .i64 v,.int .i64 x] w fun e w'=>e=.returned (.int .i64 (nextV es v x))∧Mid 0 0 w w':=by
 go_enter Tryz.func135,Tryz.ntmps135
 have hal:=Mid.alloc w (.cells #[.int .i64 r,.int .i64 s,.slice A es.length c] 26);go_wp2_with fail;with_reducible refine (impl_StepsFrom r s A es c v x _ lo hi (hr.mid hal oZl) hl hg hx1 hx2).mono ?_
 rintro en w2 ⟨A2,c2,zs,rfl,hrv,⟨h1,h2,h3⟩,hm⟩;have hm:=hal.trans hm;generalize hn:zs.length=n;by_cases h0:ends es v x=[]
 ·obtain rfl:n=0:=by rw [← hn,h1 h0];rfl
  go_wp2_with fail;go_ret;exact ⟨by rw [nextV_none h0];rfl,hm⟩
 ·obtain ⟨t,ht⟩:=h2 h0
  obtain ⟨g,off,rfl, -, -,hc⟩:=hrv.2 (by rw [ht];simp [ints]);have c0:=hc 0 (.int .i64 (nextV es v x)) (by rw [ht];simp [ints]);rw [Nat.add_zero] at c0;have hn0:0 < n:=by rw [← hn,ht];simp
  have hz:((n:Int) == 0)=false:=by simp only [beq_eq_false_iff_ne];omega
  have hp:(0:Int) < (n:Int):=by omega
  clear hn ht hc h1 h2 h3 hrv;go_wp2_with fail;go_ret;exact ⟨rfl,hm⟩
end
section
open Go.RowKit
def putI (x:Int):List Int→List Int
 | []=>[x]
 | y :: t=>if x < y then x :: y :: t else if x=y then y :: t else y :: putI x t
theorem mem_putI {x y:Int} {l:List Int}:y∈putI x l↔y=x ∨ y∈l:=by
 induction l with
 | nil=>simp [putI]
 | cons z t ih =>
  rw [putI];split
  ·simp
  ·split
   ·rename_i h
    subst h;simp
   ·rw [List.mem_cons,ih,List.mem_cons]
    constructor
    ·rintro (h | h | h)
     ·exact .inr (.inl h)
     ·exact .inl h
     ·exact .inr (.inr h)
    ·rintro (h | h | h)
     ·exact .inr (.inl h)
     ·exact .inl h
     ·exact .inr (.inr h)
theorem putI_sorted {x:Int} {l:List Int} (h:l.Pairwise (· < ·)):(putI x l).Pairwise (· < ·):=by
 induction l with
 | nil=>simp [putI]
 | cons z t ih =>
  obtain ⟨h1,h2⟩:=List.pairwise_cons.1 h;rw [putI];split
  ·rename_i hlt
   refine List.pairwise_cons.2 ⟨fun y hy=>?_,h⟩;rcases List.mem_cons.1 hy with rfl | hy
   ·exact hlt
   ·have:=h1 y hy
    omega
  ·split
   ·exact h
   ·refine List.pairwise_cons.2 ⟨fun y hy=>?_,ih h2⟩
    rcases mem_putI.1 hy with rfl | hy
    ·omega
    ·exact h1 y hy
theorem putI_len (x:Int) (l:List Int):(putI x l).length≤l.length+1:=by
 induction l with
 | nil=>simp [putI]
 | cons z t ih =>
  rw [putI];split
  ·simp
  ·split
   ·simp
   ·simp;omega
theorem putI_all {x:Int} {xs:List Int} (h:∀ y∈xs,y < x):putI x xs=xs++[x]:=by
 induction xs with
 | nil=>rfl
 | cons y t ih =>
  have hy:=h y (by simp);rw [putI,if_neg (by omega),if_neg (by omega),ih fun f hf=>h f (by simp [hf])]
  rfl
theorem putI_same {x:Int} {xs:List Int} (h:∀ y∈xs,y < x):putI x (xs++[x])=xs++[x]:=by
 induction xs with
 | nil=>simp [putI]
 | cons y t ih =>
  have hy:=h y (by simp);rw [List.cons_append,putI,if_neg (by omega),if_neg (by omega),ih fun f hf=>h f (by simp [hf])]
theorem putI_ahead {x f:Int} {xs:List Int} (h:∀ y∈xs,y < x) (hf:x < f):putI x (xs++[f])=xs++[x]++[f]:=by
 induction xs with
 | nil=>simp [putI,hf]
 | cons y t ih =>
  have hy:=h y (by simp);rw [List.cons_append,putI,if_neg (by omega),if_neg (by omega),ih fun f hf=>h f (by simp [hf])];simp
theorem putI_done {x f:Int} {xs:List Int} (h:∃ y∈xs,¬ y < x):putI x (xs++[f])=putI x xs++[f]:=by
 induction xs with
 | nil=>obtain ⟨g,hg, -⟩:=h;simp at hg
 | cons y t ih =>
  rw [List.cons_append,putI,putI];split
  ·simp
  ·split
   ·simp
   ·rename_i h1 h2
    rw [ih]
    ·simp
    ·obtain ⟨g',hg',hn⟩:=h
     rcases List.mem_cons.1 hg' with rfl | hg'
     ·omega
     ·exact ⟨g',hg',hn⟩
theorem take_snocI {l:List Int} {k:Nat} {x:Int} (h:l[k]?=some x):l.take (k+1)=l.take k++[x]:=by
 obtain ⟨hk,h'⟩:=List.getElem?_eq_some_iff.1 h;rw [List.take_succ_eq_append_getElem hk,h']
def AddAt (x:Int) (l:List Int) (i:Nat) (p:Bool) (xs:List Int):Prop :=
 if p=true then xs=putI x (l.take i)∧∃ y∈l.take i,¬ y < x else xs=l.take i∧∀ y∈l.take i,y < x
section
variable {x f:Int} {l xs:List Int} {i:Nat}
theorem AddAt.zero (x:Int) (l:List Int):AddAt x l 0 false []:=⟨by simp,by simp⟩
theorem AddAt.on (h:AddAt x l i true xs) (hf:l[i]?=some f):AddAt x l (i+1) true (xs++[f]):=by
 obtain ⟨h1,h2⟩:=h;refine ⟨by rw [take_snocI hf,putI_done h2,h1],?_⟩;obtain ⟨g,hg,hn⟩:=h2;exact ⟨g,by rw [take_snocI hf];simp [hg],hn⟩
theorem AddAt.eq (h:AddAt x l i false xs) (hf:l[i]?=some f) (hc:f=x):AddAt x l (i+1) true (xs++[f]):=by
 obtain ⟨h1,h2⟩:=h;subst hc;exact ⟨by rw [take_snocI hf,putI_same h2,h1],f,by rw [take_snocI hf];simp,by omega⟩
theorem AddAt.lt (h:AddAt x l i false xs) (hf:l[i]?=some f) (hc:x < f):AddAt x l (i+1) true (xs++[x]++[f]):=by
 obtain ⟨h1,h2⟩:=h;exact ⟨by rw [take_snocI hf,putI_ahead h2 hc,h1],f,by rw [take_snocI hf];simp,by omega⟩
theorem AddAt.gt (h:AddAt x l i false xs) (hf:l[i]?=some f) (hc:f < x):AddAt x l (i+1) false (xs++[f]):=by
 obtain ⟨h1,h2⟩:=h;refine ⟨by rw [take_snocI hf,h1],fun g hg=>?_⟩;rw [take_snocI hf] at hg;rcases List.mem_append.1 hg with hg | hg
 ·exact h2 g hg
 ·simp at hg;subst hg;exact hc
theorem AddAt.len {p:Bool} (h:AddAt x l i p xs):xs.length≤l.length+1:=by
 have h3:(l.take i).length≤l.length:=by simp;omega
 cases p with
 | false=>have h1:xs=l.take i:=h.1;rw [h1];omega
 | true=>have h1:xs=putI x (l.take i):=h.1;have:=putI_len x (l.take i);rw [h1];omega
theorem AddAt.fin (h:AddAt x l l.length true xs):xs=putI x l:=by
 have h1:xs=putI x (l.take l.length):=h.1
 rwa [List.take_length] at h1
theorem AddAt.fin' (h:AddAt x l l.length false xs):xs++[x]=putI x l:=by
 have h1:xs=l.take l.length:=h.1;have h2:∀ g∈l.take l.length,g < x:=h.2;rw [List.take_length] at h1 h2;rw [h1,putI_all h2]
end
theorem RV.at {w:World} {lo hi:Nat} {A:Option Addr} {l:List Int} {k:Nat} (h:RV w lo hi A (ints l)) (hk:k < l.length) :
  ∃ b off f,A=some ⟨b,off,none⟩∧b < hi∧l[k]?=some f∧w.cell? ⟨b,off+k,none⟩=some (.int .i64 f):=by
 obtain ⟨b,off,rfl, -,hb,hc⟩:=h.2 (by intro h;simp [ints] at h;subst h;simp at hk);exact ⟨b,off,l[k],rfl,hb,List.getElem?_eq_getElem hk,hc k _ (by simp [ints,hk])⟩
theorem owns_rv {w:World} {lo n c:Nat} {A:Option Addr} {e:TypeId} {size:Nat} {cs:List Value} (h:w.ownsRow lo e size (.slice A n c) n cs):RV w lo w.heap.size A cs :=
 OV.rv (c:=c) (n:=n) (e:=e) (size:=size) ⟨Nat.le_refl _,h,fun g hg=>(h.lt g hg).2⟩
theorem spec_l4Add (A:Option Addr) (l:List Int) (c:Nat) (x:Int) (w:World) (lo hi:Nat) (hr:RV w lo hi A (ints l)) (hl:l.length≤1000000) :
  Calls Tryz.prog 221 #[.slice A l.length c,.int .i64 x] w fun en w'=>∃ A' c',en=.returned (.slice A' (putI x l).length c')∧RV w' 0 w'.heap.size A' (ints (putI x l))∧Mid 0 0 w w':=by
 have hm0:Mid 0 0 w (w.alloc (.cells #[] 3)):=Mid.alloc _ _;have O0:=owns_empty w 3 1;go_enter Tryz.func221,Tryz.ntmps221
 go_wp2_with fail;go_loopw [5,6,7] (fun out pl i wr=>∃ (k:Nat) (p:Bool) (A1:Option Addr) (c1 n1:Nat) (xs:List Int),k≤l.length∧i=.int .i64 k∧pl=.bool p∧out=.slice A1 n1 c1∧Hid (AddAt x l k p xs)∧Hid (xs.length=n1) ∧
   wr.ownsRow w.heap.size 3 1 (.slice A1 n1 c1) n1 (ints xs)∧Mid 0 0 w wr∧w.heap.size≤wr.heap.size) (fun _ _ i _=>l.length - (intOf i).toNat)
 case atStart=>exact ⟨0,false,_,0,0,[],Nat.zero_le _,rfl,rfl,rfl,Lib.hid (AddAt.zero x l),Lib.hid rfl,O0,hm0,hm0.size⟩
 case round =>
  obtain ⟨k,p,A1,c1,n1,xs,hk,rfl,rfl,rfl,HP,HN,hown,hm,hsz⟩:=hrel;have hn1:n1≤1000001:=by have:=HP.out.len;have:=HN.out;omega
  by_cases hlt:k < l.length
  ·obtain ⟨B,off,f,rfl,hbh,he,c0⟩:=(hr.mid hm oZl).at hlt
   have hk0:(0:Int)≤(k:Int):=by omega
   have hkn:(k:Int) < (l.length:Int):=by omega
   have HE:=Lib.hid he;have HB:B < wr.heap.size∧B < w.heap.size:=by have:=hr.1;omega
   have HW:=Lib.hid hown;clear he hown;cases p with
   | true =>
    rcases (by omega:f=x ∨ f < x ∨ x < f) with hv | hv | hv
    ·have b1:(f == x)=true:=by simpa using hv
     have b2:decide (x < f)=false:=by simp;omega
     clear hv;go_wp2_with (at_builtin;refine wpList_pushI rfl _ _ rfl w.heap.size A1 n1 c1 xs rfl HW.out f rfl (by omega) hsz ?_;intro A2 c2 w2 hown2 hm2)
     go_roundw
     case rel=>exact ⟨k+1,true,A2,c2,n1+1,xs++[f],by omega,by go_num,rfl,rfl,Lib.hid (HP.out.on HE.out),Lib.hid (by rw [List.length_append,HN.out];rfl),hown2,hm.transNew hm2 (Or.inl (Nat.le_refl _)),Nat.le_trans hsz hm2.size⟩
     case measure=>simp [intOf];omega
    ·have b1:(f == x)=false:=by simp only [beq_eq_false_iff_ne];omega
     have b2:decide (x < f)=false:=by simp;omega
     clear hv;go_wp2_with (at_builtin;refine wpList_pushI rfl _ _ rfl w.heap.size A1 n1 c1 xs rfl HW.out f rfl (by omega) hsz ?_;intro A2 c2 w2 hown2 hm2)
     go_roundw
     case rel=>exact ⟨k+1,true,A2,c2,n1+1,xs++[f],by omega,by go_num,rfl,rfl,Lib.hid (HP.out.on HE.out),Lib.hid (by rw [List.length_append,HN.out];rfl),hown2,hm.transNew hm2 (Or.inl (Nat.le_refl _)),Nat.le_trans hsz hm2.size⟩
     case measure=>simp [intOf];omega
    ·have b1:(f == x)=false:=by simp only [beq_eq_false_iff_ne];omega
     have b2:decide (x < f)=true:=by simpa using hv
     clear hv;go_wp2_with (at_builtin;refine wpList_pushI rfl _ _ rfl w.heap.size A1 n1 c1 xs rfl HW.out f rfl (by omega) hsz ?_;intro A2 c2 w2 hown2 hm2)
     go_roundw
     case rel=>exact ⟨k+1,true,A2,c2,n1+1,xs++[f],by omega,by go_num,rfl,rfl,Lib.hid (HP.out.on HE.out),Lib.hid (by rw [List.length_append,HN.out];rfl),hown2,hm.transNew hm2 (Or.inl (Nat.le_refl _)),Nat.le_trans hsz hm2.size⟩
     case measure=>simp [intOf];omega
   | false =>
    rcases (by omega:f=x ∨ f < x ∨ x < f) with hv | hv | hv
    ·subst hv
     go_wp2_with (at_builtin;refine wpList_pushI rfl _ _ rfl w.heap.size A1 n1 c1 xs rfl HW.out f rfl (by omega) hsz ?_;intro A2 c2 w2 hown2 hm2)
     go_roundw
     case rel=>exact ⟨k+1,true,A2,c2,n1+1,xs++[f],by omega,by go_num,rfl,rfl,Lib.hid (HP.out.eq HE.out rfl),Lib.hid (by rw [List.length_append,HN.out];rfl),hown2,hm.transNew hm2 (Or.inl (Nat.le_refl _)),Nat.le_trans hsz hm2.size⟩
     case measure=>simp [intOf];omega
    ·have b1:(f == x)=false:=by simp only [beq_eq_false_iff_ne];omega
     have b2:decide (x < f)=false:=by simp;omega
     go_wp2_with (at_builtin;refine wpList_pushI rfl _ _ rfl w.heap.size A1 n1 c1 xs rfl HW.out f rfl (by omega) hsz ?_;intro A2 c2 w2 hown2 hm2)
     go_roundw
     case rel=>exact ⟨k+1,false,A2,c2,n1+1,xs++[f],by omega,by go_num,rfl,rfl,Lib.hid (HP.out.gt HE.out hv),Lib.hid (by rw [List.length_append,HN.out];rfl),hown2,hm.transNew hm2 (Or.inl (Nat.le_refl _)),Nat.le_trans hsz hm2.size⟩
     case measure=>simp [intOf];omega
    ·have b1:(f == x)=false:=by simp only [beq_eq_false_iff_ne];omega
     have b2:decide (x < f)=true:=by simpa using hv
     go_wp2_with (first | (at_builtin;refine wpList_pushI rfl _ _ rfl w.heap.size A1 n1 c1 xs rfl HW.out x rfl (by omega) hsz ?_;intro A2 c2 w2 hown2 hm2;have c0':=cell_keep hm2 HB.1 (Or.inl HB.2) c0;have hsz2:=Nat.le_trans hsz hm2.size;have HW2:=Lib.hid hown2;clear hown2) | (at_builtin;refine wpList_pushI rfl _ _ rfl w.heap.size A2 (n1+1) c2 (xs++[x]) rfl HW2.out f rfl (by omega) hsz2 ?_;intro A3 c3 w3 hown3 hm3))
     go_roundw
     case rel=>exact ⟨k+1,true,A3,c3,n1+1+1,xs++[x]++[f],by omega,by go_num,rfl,rfl,Lib.hid (HP.out.lt HE.out hv),Lib.hid (by rw [List.length_append,List.length_append,HN.out];rfl),hown3,(hm.transNew hm2 (Or.inl (Nat.le_refl _))).transNew hm3 (Or.inl (Nat.le_refl _)),Nat.le_trans hsz2 hm3.size⟩
     case measure=>simp [intOf];omega
  ·obtain rfl:k=l.length:=by omega
   have hsz':=hm.size;cases p with
   | true =>
    have hx:=HP.out.fin;have hn:=HN.out;rw [hx] at hn hown;go_wp2_with fail;go_ret;exact ⟨_,_,(by rw [hn];rfl),(owns_rv hown).wide (Nat.zero_le _) (Nat.le_refl _) (Nat.le_refl _),hm⟩
   | false =>
    have HW:=Lib.hid hown;go_wp2_with (at_builtin;refine wpList_pushI rfl _ _ rfl w.heap.size A1 n1 c1 xs rfl HW.out x rfl (by omega) hsz ?_;intro A2 c2 w2 hown2 hm2)
    have hx:=HP.out.fin';have hn:(putI x l).length=n1+1:=by rw [← hx,List.length_append,HN.out];rfl
    rw [hx] at hown2;rw [← hn] at hown2;go_wp2_with fail;go_ret;exact ⟨_,_,(by rw [hn];rfl),(owns_rv hown2).wide (Nat.zero_le _) (Nat.le_refl _) (Nat.le_refl _),hm.transNew hm2 (Or.inl (Nat.le_refl _))⟩
def putEnds (es:List Ed) (v x:Int):List Int:=(ends es v x).foldl (fun l y=>putI y l) []
theorem foldI_mem {y:Int}:∀ (zs l:List Int),y∈zs.foldl (fun l y=>putI y l) l↔y∈zs ∨ y∈l
 | [],l=>by simp
 | z :: zs,l=>by
  rw [List.foldl_cons,foldI_mem zs,mem_putI,List.mem_cons];constructor
  ·rintro (h | h | h)
   ·exact .inl (.inr h)
   ·exact .inl (.inl h)
   ·exact .inr h
  ·rintro ((h | h) | h)
   ·exact .inr (.inl h)
   ·exact .inl h
   ·exact .inr (.inr h)
theorem foldI_sorted:∀ (zs l:List Int),l.Pairwise (· < ·)→(zs.foldl (fun l y=>putI y l) l).Pairwise (· < ·)
 | [],l,h=>h
 | z :: zs,l,h=>foldI_sorted zs _ (putI_sorted h)
theorem foldI_len:∀ (zs l:List Int),(zs.foldl (fun l y=>putI y l) l).length≤zs.length+l.length
 | [],l=>by simp
 | z :: zs,l=>by
  have h1:=foldI_len zs (putI z l);have h2:=putI_len z l;rw [List.foldl_cons,List.length_cons];omega
theorem stepsIs_put (es:List Ed) (v x:Int):StepsIs es v x (putEnds es v x):=by
 refine ⟨fun h=>by rw [putEnds,h];rfl,fun h=>?_,?_⟩
 ·have hs:=foldI_sorted (ends es v x) [] List.Pairwise.nil
  have hm:=fun y=>foldI_mem (y:=y) (ends es v x) [];change ∃ t,(ends es v x).foldl (fun l y=>putI y l) []=_;cases hz:(ends es v x).foldl (fun l y=>putI y l) [] with
  | nil =>
   rw [hz] at hm;obtain ⟨y,t,ht⟩:=List.exists_cons_of_ne_nil h;have:=(hm y).2 (.inl (by rw [ht];simp));simp at this
  | cons z t =>
   rw [hz] at hm hs;refine ⟨t,?_⟩;obtain ⟨h1, -⟩:=List.pairwise_cons.1 hs;have hzm:z∈ends es v x:=by simpa using (hm z).1 (by simp)
   have:nextV es v x=leastI (ends es v x):=rfl;rw [this,leastI_eq hzm fun y hy=>?_];rcases List.mem_cons.1 ((hm y).2 (.inl hy)) with rfl | h'
   ·exact Int.le_refl _
   ·have:=h1 y h'
    omega
 ·have h1:=foldI_len (ends es v x) []
  have h2:=ends_len es v x;rw [List.length_nil] at h1;exact Nat.le_trans (by simpa [putEnds] using h1) h2
theorem spec_StepsFrom (r s:Int) (A:Option Addr) (es:List Ed) (c:Nat) (v x:Int) (w:World) (lo hi:Nat) (hr:RG w lo hi A es) (hl:es.length≤1000000) (hg:∀ e∈es,1≤e.l∧e.l≤3) (hx1:-9223372036854775808≤x) (hx2:x≤9223372036854775807) :
  Calls Tryz.prog 193 #[.agg #[.int .i64 r,.int .i64 s,.slice A es.length c],.int .i64 v,.int .i64 x] w fun e w'=>∃ A' c' zs,e=.returned (.slice A' zs.length c')∧RV w' 0 w'.heap.size A' (ints zs)∧StepsIs es v x zs∧Mid 0 0 w w':=by
 have hm0:Mid 0 0 w ((w.alloc (.cells #[.int .i64 r,.int .i64 s,.slice A es.length c] 26)).alloc (.cells #[] 3)):=(Mid.alloc _ _).trans (Mid.alloc _ _);have B0:=(Box.new w #[.int .i64 r,.int .i64 s,.slice A es.length c] 26).mid (Mid.alloc _ (.cells #[] 3)) oZr;go_enter Tryz.func193,Tryz.ntmps193
 go_wp2_with fail;go_loopw [7,8] (fun out i wr=>∃ (k:Nat) (A1:Option Addr) (c1:Nat) (xs:List Int),k≤es.length∧i=.int .i64 k∧out=.slice A1 xs.length c1∧Hid (xs=(ends (es.take k) v x).foldl (fun l y=>putI y l) []) ∧
   RV wr 0 wr.heap.size A1 (ints xs)∧Box wr w.heap.size [.int .i64 r,.int .i64 s,.slice A es.length c]∧Mid 0 0 w wr) (fun _ i _=>es.length - (intOf i).toNat)
 case atStart=>exact ⟨0,_,0,[],Nat.zero_le _,rfl,rfl,Lib.hid (by simp [ends]),⟨Nat.le_refl _,fun h=>absurd rfl h⟩,B0,hm0⟩
 case round =>
  obtain ⟨k,A1,c1,xs,hk,rfl,rfl,HX,hrv,bx,hm⟩:=hrel;have hn1:xs.length≤1000000:=by
   have h1:=ends_len (es.take k) v x;have h2:=foldI_len (ends (es.take k) v x) [];rw [HX.out];simp at h1 h2 ⊢;omega
  have p0:=bx.cell 0 rfl;have p1:=bx.cell 1 rfl;have p2:=bx.cell 2 rfl;by_cases hlt:k < es.length
  ·obtain ⟨B,off,e,rfl, -,hbh,he,e0,e1,e2⟩:=(hr.mid hm oZl).ed hlt
   obtain ⟨l1,l3⟩:=hg e (List.mem_of_getElem? he);have HET:=Lib.hid (ends_take he v x);have hal:=Mid.alloc wr (.cells #[.int .i64 e.a,.int .i64 e.l,.int .i64 e.b] 68);have hm1:=hm.trans hal;have hrv1:=(hrv.mid hal oZl).wide (Nat.le_refl _) hal.size (Nat.le_refl _);have B1:=bx.mid hal oZr;have E1:=Box.new wr #[.int .i64 e.a,.int .i64 e.l,.int .i64 e.b] 68;have hkn:(k:Int) < (es.length:Int):=by omega
   clear he;rcases endOf_cases v x e with ⟨hv,h1⟩ | ⟨hv,h1,h2⟩ | ⟨hv,h1,h2⟩
   ·obtain ⟨p1,p2,p3⟩:=h1
    have b1:decide (0 < x)=true:=by simpa using p1
    have b0:decide (x < 0)=false:=by simp;omega
    have b2:(e.l == x)=true:=by simpa using p2
    have b3:(e.a == v)=true:=by simpa using p3
    clear p1 p2 p3;go_wp2_with fail;with_reducible refine (spec_l4Add A1 xs c1 e.b _ _ _ hrv1 hn1).mono ?_
    rintro en w2 ⟨A2,c2,rfl,hrv2,hm2⟩;go_wp2_with fail;go_roundw
    case rel=>exact ⟨k+1,A2,c2,_,by omega,by go_num,rfl,Lib.hid (by rw [HET.out,hv,HX.out,List.foldl_append];rfl),hrv2,B1.mid hm2 oZr,hm1.trans hm2⟩
    case measure=>simp [intOf];omega
   ·obtain ⟨p1,p2,p3⟩:=h2
    have b1:decide (0 < x)=false:=by simp;omega
    have b0:decide (x < 0)=true:=by simpa using p1
    have b4:wrap64 (-x) = -x:=by unfold wrap64;omega
    have b5:(e.l == -x)=true:=by simpa using p2
    have b3:(e.b == v)=true:=by simpa using p3
    clear h1 p1 p2 p3;go_wp2_with fail;with_reducible refine (spec_l4Add A1 xs c1 e.a _ _ _ hrv1 hn1).mono ?_
    rintro en w2 ⟨A2,c2,rfl,hrv2,hm2⟩;go_wp2_with fail;go_roundw
    case rel=>exact ⟨k+1,A2,c2,_,by omega,by go_num,rfl,Lib.hid (by rw [HET.out,hv,HX.out,List.foldl_append];rfl),hrv2,B1.mid hm2 oZr,hm1.trans hm2⟩
    case measure=>simp [intOf];omega
   ·rcases (by omega:0 < x ∨ x < 0 ∨ x=0) with p1 | p1 | p1
    ·have b1:decide (0 < x)=true:=by simpa using p1
     have b0:decide (x < 0)=false:=by simp;omega
     by_cases p2:e.l=x
     ·have b2:(e.l == x)=true:=by simpa using p2
      have b3:(e.a == v)=false:=by simp only [beq_eq_false_iff_ne];exact fun h=>h1 ⟨p1,p2,h⟩
      clear h1 h2 p1 p2;go_wp2_with fail;go_roundw
      case rel=>exact ⟨k+1,A1,c1,_,by omega,by go_num,rfl,Lib.hid (by rw [HET.out,hv,HX.out];simp),hrv1,B1,hm1⟩
      case measure=>simp [intOf];omega
     ·have b2:(e.l == x)=false:=by simpa only [beq_eq_false_iff_ne] using p2
      clear h1 h2 p1 p2;go_wp2_with fail;go_roundw
      case rel=>exact ⟨k+1,A1,c1,_,by omega,by go_num,rfl,Lib.hid (by rw [HET.out,hv,HX.out];simp),hrv1,B1,hm1⟩
      case measure=>simp [intOf];omega
    ·have b1:decide (0 < x)=false:=by simp;omega
     have b0:decide (x < 0)=true:=by simpa using p1
     by_cases p2:e.l=wrap64 (-x)
     ·have b5:(e.l == wrap64 (-x))=true:=by simpa using p2
      have b3:(e.b == v)=false:=by simp only [beq_eq_false_iff_ne];exact fun h=>h2 ⟨p1,by unfold wrap64 at p2;omega,h⟩
      clear h1 h2 p1 p2;go_wp2_with fail;go_roundw
      case rel=>exact ⟨k+1,A1,c1,_,by omega,by go_num,rfl,Lib.hid (by rw [HET.out,hv,HX.out];simp),hrv1,B1,hm1⟩
      case measure=>simp [intOf];omega
     ·have b5:(e.l == wrap64 (-x))=false:=by simpa only [beq_eq_false_iff_ne] using p2
      clear h1 h2 p1 p2;go_wp2_with fail;go_roundw
      case rel=>exact ⟨k+1,A1,c1,_,by omega,by go_num,rfl,Lib.hid (by rw [HET.out,hv,HX.out];simp),hrv1,B1,hm1⟩
      case measure=>simp [intOf];omega
    ·subst p1
     clear h1 h2;go_wp2_with fail;go_roundw
     case rel=>exact ⟨k+1,A1,c1,_,by omega,by go_num,rfl,Lib.hid (by rw [HET.out,hv,HX.out];simp),hrv1,B1,hm1⟩
     case measure=>simp [intOf];omega
  ·obtain rfl:k=es.length:=by omega
   have hst:=stepsIs_put es v x;have hx:=HX.out;rw [List.take_length] at hx;rw [putEnds,← hx] at hst;go_wp2_with fail;go_ret;exact ⟨_,_,xs,rfl,hrv,hst,hm⟩
theorem spec_NextVertex (r s:Int) (A:Option Addr) (es:List Ed) (c:Nat) (v x:Int) (w:World) (lo hi:Nat) (hr:RG w lo hi A es) (hl:es.length≤1000000) (hg:∀ e∈es,1≤e.l∧e.l≤3) (hx1:-9223372036854775808≤x) (hx2:x≤9223372036854775807) :
  Calls Tryz.prog 138 #[.agg #[.int .i64 r,.int .i64 s,.slice A es.length c],.int .i64 v,.int .i64 x] w fun e w'=>e=.returned (.int .i64 (nextV es v x))∧Mid 0 0 w w':=by
 go_enter Tryz.func138,Tryz.ntmps138
 have hal:=Mid.alloc w (.cells #[.int .i64 r,.int .i64 s,.slice A es.length c] 26);go_wp2_with fail;with_reducible refine (spec_StepsFrom r s A es c v x _ lo hi (hr.mid hal oZl) hl hg hx1 hx2).mono ?_
 rintro en w2 ⟨A2,c2,zs,rfl,hrv,⟨h1,h2,h3⟩,hm⟩;have hm:=hal.trans hm;generalize hn:zs.length=n;by_cases h0:ends es v x=[]
 ·obtain rfl:n=0:=by rw [← hn,h1 h0];rfl
  go_wp2_with fail;go_ret;exact ⟨by rw [nextV_none h0];rfl,hm⟩
 ·obtain ⟨t,ht⟩:=h2 h0
  obtain ⟨g,off,rfl, -, -,hc⟩:=hrv.2 (by rw [ht];simp [ints]);have c0:=hc 0 (.int .i64 (nextV es v x)) (by rw [ht];simp [ints]);rw [Nat.add_zero] at c0;have hn0:0 < n:=by rw [← hn,ht];simp
  have hz:((n:Int) == 0)=false:=by simp only [beq_eq_false_iff_ne];omega
  have hp:(0:Int) < (n:Int):=by omega
  clear hn ht hc h1 h2 h3 hrv;go_wp2_with fail;go_ret;exact ⟨rfl,hm⟩
end
section
open Go.RowKit
theorem impl_IsWord (rank:Int) (A:Option Addr) (xs:List Int) (c:Nat) (w:World) (B:Nat) (hr:Rs w B A (ints xs)) (hok:OkI xs) (hl:xs.length≤4194304) (r:Bool) (hres:r=true↔IsW rank xs) :
  Calls Tryz.prog 103 #[.int .i64 rank,.slice A xs.length c] w fun e w'=>e=.returned (.bool r)∧w=w':=by
 have HOK:=Lib.hid hok;have HR:=Lib.hid hres;clear hok hres;by_cases hb:inB rank 1 3=false
 ·have hf:r=false:=by
   cases r with
   | false=>rfl
   | true =>
    have h:=HR.out.1 rfl;simp [inB] at hb;have:=h.1;have:=h.2.1;omega
  subst hf;have HB:=Lib.hid hb;clear hb;go_enter Tryz.func103,Tryz.ntmps103
  go_wp2_with fail;refine (within_any _ _ _ _).mono ?_;rintro e w' ⟨rfl,rfl⟩;rw [HB.out];go_wp2_with fail;go_ret;exact ⟨rfl,rfl⟩
 ·have hb':inB rank 1 3=true:=by simpa using hb
  have h13:1≤rank∧rank≤3:=by simpa [inB] using hb'
  have HB:=Lib.hid hb';clear hb hb';obtain ⟨h1,h3⟩:=h13;by_cases h24:24 < xs.length
  ·have hf:r=false:=by
    cases r with
    | false=>rfl
    | true =>
     have:=(HR.out.1 rfl).2.2.1;omega
   subst hf;go_enter Tryz.func103,Tryz.ntmps103
   go_wp2_with fail;refine (within_any _ _ _ _).mono ?_;rintro e w' ⟨rfl,rfl⟩;rw [HB.out];go_wp2_with fail;go_ret;exact ⟨rfl,rfl⟩
  ·have hR2:r=true↔WordTo rank xs xs.length:=HR.out.trans ⟨fun h=>(wordTo_all h1 h3).2 h.2.2.2,fun h=>⟨h1,h3,by omega,(wordTo_all h1 h3).1 h⟩⟩
   have HR2:=Lib.hid hR2;clear hR2 HR;go_enter Tryz.func103,Tryz.ntmps103
   go_wp2_with fail;refine (within_any _ _ _ _).mono ?_;rintro e w' ⟨rfl,rfl⟩;rw [HB.out];go_wp2_with fail;go_loop [5,6,17] (fun _ _ i=>∃ k:Nat,k≤xs.length∧i=.int .i64 k∧WordTo rank xs k) (fun _ _ i=>xs.length - (intOf i).toNat)
   case atStart=>exact ⟨0,Nat.zero_le _,rfl,WordTo.zero _ _⟩
   case round =>
    obtain ⟨k,hk,rfl,hto⟩:=hrel;have HT:=Lib.hid hto;clear hto;by_cases hlt:k < xs.length
    ·obtain ⟨b,off,x,rfl, -,hx,hc⟩:=hr.int hlt
     have HX:=Lib.hid hx;clear hx;by_cases hL:letB rank x=false
     ·have hf:r=false:=by
       cases r with
       | false=>rfl
       | true =>
        have:=(HR2.out.1 rfl k x hlt HX.out).1;rw [hL] at this;cases this
      subst hf;have HL:=Lib.hid hL;clear hL;go_wp2_with fail;refine (impl_isLetter _ _ _ h1 h3).mono ?_;rintro e w' ⟨rfl,rfl⟩;rw [HL.out];go_wp2_with fail;go_ret;exact ⟨rfl,rfl⟩
     ·have hL':letB rank x=true:=by simpa using hL
      have HL:=Lib.hid hL';clear hL hL';cases k with
      | zero =>
       have hc0:w.cell? ⟨b,off,none⟩=some (.int .i64 x):=hc;go_wp2_with fail;refine (impl_isLetter _ _ _ h1 h3).mono ?_;rintro e w' ⟨rfl,rfl⟩;rw [HL.out];go_wp2_with fail;go_round
       case rel=>exact ⟨1,by omega,by go_num,HT.out.succ HX.out HL.out (fun y h=>absurd h (Nat.lt_irrefl 0))⟩
       case measure=>simp [intOf];omega
      | succ m =>
       obtain ⟨b',off',y,he, -,hy,hcy⟩:=hr.int (show m < xs.length by omega);injection he with he
       injection he with he1 he2 _
       subst he1 he2;have hby:=HOK.out y (List.mem_of_getElem? hy);have HY:=Lib.hid hy;have hyl:-9223372036854775808≤y∧y≤9223372036854775807:=hby;obtain ⟨hy1,hy2⟩:=hyl;clear hy hby;by_cases hI:invB y x=true
       ·have hf:r=false:=by
         cases r with
         | false=>rfl
         | true =>
          have:=(HR2.out.1 rfl (m+1) x hlt HX.out).2 y (Nat.succ_pos m) HY.out;rw [hI] at this;cases this
        subst hf;have HI:=Lib.hid hI;clear hI;go_wp2_with fail;refine (impl_isLetter _ _ _ h1 h3).mono ?_;rintro e w' ⟨rfl,rfl⟩;rw [HL.out];go_wp2_with fail;refine (impl_areInverse _ _ _ hy1 hy2).mono ?_;rintro e w' ⟨rfl,rfl⟩;rw [HI.out];go_wp2_with fail;go_ret;exact ⟨rfl,rfl⟩
       ·have hI':invB y x=false:=by simpa using hI
        have HI:=Lib.hid hI';clear hI hI';go_wp2_with fail;refine (impl_isLetter _ _ _ h1 h3).mono ?_;rintro e w' ⟨rfl,rfl⟩;rw [HL.out];go_wp2_with fail;refine (impl_areInverse _ _ _ hy1 hy2).mono ?_;rintro e w' ⟨rfl,rfl⟩;rw [HI.out];go_wp2_with fail;go_round
        case rel =>
         refine ⟨m+1+1,by omega,by go_num,HT.out.succ HX.out HL.out (fun z _ hz=>?_)⟩;rw [Nat.add_sub_cancel,HY.out] at hz;obtain rfl:=Option.some.inj hz;exact HI.out
        case measure=>simp [intOf];omega
    ·obtain rfl:k=xs.length:=by omega
     obtain rfl:r=true:=HR2.out.2 HT.out;go_wp2_with fail;go_ret;exact ⟨rfl,rfl⟩
end
section
open Go.RowKit
def PathIs (r s:Int) (es:List Ed) (u:Int) (wd:List Int) (v:Int) (rs:Int) (res:List Ed) (b:Bool):Prop :=
 (b=true∧PathOk r s es u wd v∧rs=s+(wd.length:Int) - 1∧res=canon (es++pathE u s wd v wd.length)) ∨ (b=false∧¬ PathOk r s es u wd v∧rs=s∧res=es)
theorem PathIs.no {r s:Int} {es:List Ed} {u:Int} {wd:List Int} {v rs:Int} {res:List Ed} {b:Bool} (h:PathIs r s es u wd v rs res b) (hn:¬ PathOk r s es u wd v):b=false∧rs=s∧res=es:=by
 rcases h with ⟨-,h, -⟩ | ⟨h1, -,h2⟩
 ·exact absurd h hn
 ·exact ⟨h1,h2⟩
theorem PathIs.yes {r s:Int} {es:List Ed} {u:Int} {wd:List Int} {v rs:Int} {res:List Ed} {b:Bool} (h:PathIs r s es u wd v rs res b) (hn:PathOk r s es u wd v):b=true∧rs=s+(wd.length:Int) - 1∧res=canon (es++pathE u s wd v wd.length):=by
 rcases h with ⟨h1, -,h2⟩ | ⟨-,h, -⟩
 ·exact ⟨h1,h2⟩
 ·exact absurd hn h
theorem has_bool {x s:Int} (h1:1≤s) (h2:s≤40) {b:Bool} (hb:b=true↔0≤x∧x < s):inB x 0 (wrap64 (s - 1))=b∧inB x 0 (s - 1)=b:=by
 have hw:wrap64 (s - 1)=s - 1:=by unfold wrap64;omega
 rw [hw];have h3:inB x 0 (s - 1)=b:=by
  cases b with
  | true=>have:=hb.1 rfl;unfold inB;simp;omega
  | false =>
   have h:¬ (0≤x∧x < s):=fun h=>by have:=hb.2 h;cases this
   unfold inB;simp;omega
 exact ⟨h3,h3⟩
theorem impl_step (u x v:Int) (w:World) (h1:-9223372036854775808 < x) (h2:x≤9223372036854775807) :
  Calls Tryz.prog 215 #[.int .i64 u,.int .i64 x,.int .i64 v] w fun e w'=>e=.returned (stepE u x v).v∧Mid 0 0 w w':=by
 by_cases h:x < 0
 ·have d1:decide (x < 0)=true:=by simpa using h
  have he:stepE u x v=⟨v, -x,u⟩:=by rw [stepE,if_pos h]
  rw [he];clear he;go_enter Tryz.func215,Tryz.ntmps215
  go_wp2_with fail;refine bodyPost_ret (v:=.agg #[.int .i64 v,.int .i64 (-x),.int .i64 u]) (by simp [results,Tryz.results215,go_sem]) rfl ⟨rfl,?_⟩;repeat (first | exact Mid.alloc _ _ | refine Mid.storeNew ?_ (by simp) _)
 ·have d1:decide (x < 0)=false:=by simpa using h
  have he:stepE u x v=⟨u,x,v⟩:=by rw [stepE,if_neg h]
  rw [he];clear he;go_enter Tryz.func215,Tryz.ntmps215
  go_wp2_with fail;refine bodyPost_ret (v:=.agg #[.int .i64 u,.int .i64 x,.int .i64 v]) (by simp [results,Tryz.results215,go_sem]) rfl ⟨rfl,?_⟩;repeat (first | exact Mid.alloc _ _ | refine Mid.storeNew ?_ (by simp) _)
theorem impl_AddPath (r s:Int) (A:Option Addr) (es:List Ed) (c:Nat) (u:Int) (Aw:Option Addr) (wd:List Int) (cw:Nat) (v:Int) (w:World) (lo hi lo' hi':Nat)
  (hr:RG w lo hi A es) (hw:RV w lo' hi' Aw (ints wd)) (hl:es.length≤1048576) (hwl:wd.length≤1048576) (hok:OkI wd) (rs:Int) (res:List Ed) (b:Bool) (hres:PathIs r s es u wd v rs res b) :
  Calls Tryz.prog 184 #[graV r s A es.length c,.int .i64 u,.slice Aw wd.length cw,.int .i64 v] w fun e w'=>∃ A1 c1,e=.returned (.tuple #[graV r rs A1 res.length c1,.bool b])∧OG w' w.heap.size w'.heap.size A1 c1 res∧Mid 0 0 w w':=by
 have HR:=Lib.hid hres;have HOK:=Lib.hid hok;clear hres hok;obtain ⟨b1,hb1⟩:=bool_of (IsGr r s es);obtain ⟨b2,hb2⟩:=bool_of (0≤u∧u < s);obtain ⟨b3,hb3⟩:=bool_of (0≤v∧v < s);obtain ⟨b4,hb4⟩:=bool_of (IsW r wd);have H1:=Lib.hid hb1;have H2:=Lib.hid hb2;have H3:=Lib.hid hb3;have H4:=Lib.hid hb4;clear hb1 hb2 hb3 hb4;have hm0:Mid 0 0 w ((w.alloc (.cells #[.int .i64 r,.int .i64 s,.slice A es.length c] 26)).alloc (.cells #[.int .i64 0,.int .i64 0,.slice none 0 0] 26)):=(Mid.alloc _ _).trans (Mid.alloc _ _);have B0:=(Box.new w #[.int .i64 r,.int .i64 s,.slice A es.length c] 26).mid (Mid.alloc _ (.cells #[.int .i64 0,.int .i64 0,.slice none 0 0] 26)) oZr;have B2:=Box.new (w.alloc (.cells #[.int .i64 r,.int .i64 s,.slice A es.length c] 26)) #[.int .i64 0,.int .i64 0,.slice none 0 0] 26;simp only [World.size_alloc] at B2;go_enter Tryz.func184,Tryz.ntmps184
 go_wp2_with fail;generalize hw1:((w.alloc (.cells #[.int .i64 r,.int .i64 s,.slice A es.length c] 26)).alloc (.cells #[.int .i64 0,.int .i64 0,.slice none 0 0] 26))=w1 at hm0 B0 B2 ⊢;have hs1:w1.heap.size=w.heap.size+1+1:=by rw [← hw1];simp
 have HS:=Lib.hid hs1;clear hw1 hs1;with_reducible refine (impl_copyGraph r s A es c _ _ _ (hr.mid hm0 oZl) hl).mono ?_
 rintro en w2 ⟨A1,c1,rfl,ho2,hm2⟩;have hal:=Mid.alloc w2 (.cells #[.int .i64 r,.int .i64 s,.slice A1 es.length c1] 26);have Y3:=Box.new w2 #[.int .i64 r,.int .i64 s,.slice A1 es.length c1] 26;replace B0:=B0.mid hm2 oZr;replace B2:=B2.mid hm2 oZr;replace hm0:=hm0.trans hm2;replace B0:=B0.mid hal oZr;replace B2:=B2.mid hal oZr;replace hm0:=hm0.trans hal;have hG2:w.heap.size+1 < w2.heap.size:=by have:=HS.out;have:=hm2.size;omega
 have ho5:=(ho2.mid hal oZl)
 have hlt2:=ho2.ov.2.2;have hb2k:Value.ownBlock (.slice A1 es.length c1)≠some w2.heap.size:=fun h=>by have:=hlt2 _ h;omega
 have p0:=B0.cell 0 rfl;have p1:=B0.cell 1 rfl;have p2:=B0.cell 2 rfl;go_wp2_with fail;generalize w2.alloc (.cells #[.int .i64 r,.int .i64 s,.slice A1 es.length c1] 26)=w3 at hm0 B0 B2 Y3 ho5 p0 p1 p2 ⊢;have hG3:w2.heap.size < w3.heap.size:=Y3.1;have HOW:=Lib.hid ho5.ov.2.1;have HBK:=Lib.hid hb2k;have ho6:=ho5.wide (Nat.le_refl _) (Nat.le_refl _) (Nat.le_of_lt hG3);generalize hG:w2.heap.size=G at Y3 hG2 hG3 ho5 HBK ⊢;have HGW:=Lib.hid (show w1.heap.size≤G by rw [← hG];exact hm2.size);clear hG hal hm2 hlt2 hb2k ho2 ho6;with_reducible refine (impl_IsGraph r s A es c _ _ _ (hr.mid hm0 oZl).rv hl b1 H1.out).mono ?_
 rintro en w4 ⟨rfl,hm4⟩;replace B0:=B0.mid hm4 oZr;replace B2:=B2.mid hm4 oZr;replace Y3:=Y3.mid hm4 oZr;replace ho5:=ho5.mid hm4 oZl;replace hm0:=hm0.trans hm4;replace HOW:=Lib.hid (owns_mid HOW.out hm4 oZl);clear hm4;cases b1 with
 | false =>
  have hno:¬ PathOk r s es u wd v:=fun h=>by have:=H1.out.2 h.gr;cases this
  clear p0 p1 p2;obtain ⟨rfl,rfl,rfl⟩:=HR.out.no hno;have a0:=B2.cell 0 rfl;have a1:=B2.cell 1 rfl;have a2:=B2.cell 2 rfl;have q0:=Y3.cell 0 rfl;have q1:=Y3.cell 1 rfl;have q2:=Y3.cell 2 rfl;have af:=B2.2.2;go_wp2_with fail;refine bodyPost_ret (v:=.tuple #[.agg #[.int .i64 r,.int .i64 rs,.slice A1 res.length c1],.bool false]) (by simp [results,Tryz.results184,go_sem,a0,a1,a2,af,q0,q1,q2]) rfl ⟨A1,c1,rfl,?_,?_⟩
  ·refine OG.wide (OG.mid ho5 (a:=w.heap.size) (b:=w.heap.size+2) ?_ (Or.inl (by have:=HS.out;omega))) (by have:=HS.out;omega) (by have:=ho5.size;simp;omega) (Nat.le_refl _)
   repeat (first | exact Mid.refl _ _ _ | refine Mid.stored ?_ _ (by simp;try omega) (by simp;try omega))
  ·repeat (first | exact hm0 | refine Mid.storeNew ?_ (by simp;try omega) _)
 | true =>
 have hgr:=H1.out.1 rfl;have hsz:=hgr.size;have hln:=hgr.len;have hrk:=hgr.rank;have GR:=Lib.hid hgr;clear hgr H1;clear p0 p1 p2;have p0:=B0.cell 0 rfl;have p1:=B0.cell 1 rfl;have p2:=B0.cell 2 rfl;go_wp2_with fail;with_reducible refine (impl_has r s A es.length c u _ b2 (has_bool hsz.1 hsz.2 H2.out).1).mono ?_
 rintro en w5 ⟨rfl,hm5⟩;replace B0:=B0.mid hm5 oZr;replace B2:=B2.mid hm5 oZr;replace Y3:=Y3.mid hm5 oZr;replace ho5:=ho5.mid hm5 oZl;replace hm0:=hm0.trans hm5;replace HOW:=Lib.hid (owns_mid HOW.out hm5 oZl);clear hm5;cases b2 with
 | false =>
  have hno:¬ PathOk r s es u wd v:=fun h=>by have:=H2.out.2 h.u0;cases this
  clear p0 p1 p2;obtain ⟨rfl,rfl,rfl⟩:=HR.out.no hno;have a0:=B2.cell 0 rfl;have a1:=B2.cell 1 rfl;have a2:=B2.cell 2 rfl;have q0:=Y3.cell 0 rfl;have q1:=Y3.cell 1 rfl;have q2:=Y3.cell 2 rfl;have af:=B2.2.2;go_wp2_with fail;refine bodyPost_ret (v:=.tuple #[.agg #[.int .i64 r,.int .i64 rs,.slice A1 res.length c1],.bool false]) (by simp [results,Tryz.results184,go_sem,a0,a1,a2,af,q0,q1,q2]) rfl ⟨A1,c1,rfl,?_,?_⟩
  ·refine OG.wide (OG.mid ho5 (a:=w.heap.size) (b:=w.heap.size+2) ?_ (Or.inl (by have:=HS.out;omega))) (by have:=HS.out;omega) (by have:=ho5.size;simp;omega) (Nat.le_refl _)
   repeat (first | exact Mid.refl _ _ _ | refine Mid.stored ?_ _ (by simp;try omega) (by simp;try omega))
  ·repeat (first | exact hm0 | refine Mid.storeNew ?_ (by simp;try omega) _)
 | true =>
 have hxu:=H2.out.1 rfl;clear H2;clear p0 p1 p2;have p0:=B0.cell 0 rfl;have p1:=B0.cell 1 rfl;have p2:=B0.cell 2 rfl;go_wp2_with fail;with_reducible refine (impl_has r s A es.length c v _ b3 (has_bool hsz.1 hsz.2 H3.out).1).mono ?_
 rintro en w6 ⟨rfl,hm6⟩;replace B0:=B0.mid hm6 oZr;replace B2:=B2.mid hm6 oZr;replace Y3:=Y3.mid hm6 oZr;replace ho5:=ho5.mid hm6 oZl;replace hm0:=hm0.trans hm6;replace HOW:=Lib.hid (owns_mid HOW.out hm6 oZl);clear hm6;cases b3 with
 | false =>
  have hno:¬ PathOk r s es u wd v:=fun h=>by have:=H3.out.2 h.v0;cases this
  clear p0 p1 p2;obtain ⟨rfl,rfl,rfl⟩:=HR.out.no hno;have a0:=B2.cell 0 rfl;have a1:=B2.cell 1 rfl;have a2:=B2.cell 2 rfl;have q0:=Y3.cell 0 rfl;have q1:=Y3.cell 1 rfl;have q2:=Y3.cell 2 rfl;have af:=B2.2.2;go_wp2_with fail;refine bodyPost_ret (v:=.tuple #[.agg #[.int .i64 r,.int .i64 rs,.slice A1 res.length c1],.bool false]) (by simp [results,Tryz.results184,go_sem,a0,a1,a2,af,q0,q1,q2]) rfl ⟨A1,c1,rfl,?_,?_⟩
  ·refine OG.wide (OG.mid ho5 (a:=w.heap.size) (b:=w.heap.size+2) ?_ (Or.inl (by have:=HS.out;omega))) (by have:=HS.out;omega) (by have:=ho5.size;simp;omega) (Nat.le_refl _)
   repeat (first | exact Mid.refl _ _ _ | refine Mid.stored ?_ _ (by simp;try omega) (by simp;try omega))
  ·repeat (first | exact hm0 | refine Mid.storeNew ?_ (by simp;try omega) _)
 | true =>
 have hxv:=H3.out.1 rfl;clear H3;clear p0 p1 p2;have p0:=B0.cell 0 rfl;have p1:=B0.cell 1 rfl;have p2:=B0.cell 2 rfl;by_cases hne:wd=[]
 ·subst hne
  have hno:¬ PathOk r s es u [] v:=fun h=>h.ne rfl;clear p0 p1 p2;obtain ⟨rfl,rfl,rfl⟩:=HR.out.no hno;have a0:=B2.cell 0 rfl;have a1:=B2.cell 1 rfl;have a2:=B2.cell 2 rfl;have q0:=Y3.cell 0 rfl;have q1:=Y3.cell 1 rfl;have q2:=Y3.cell 2 rfl;have af:=B2.2.2;go_wp2_with fail;refine bodyPost_ret (v:=.tuple #[.agg #[.int .i64 r,.int .i64 rs,.slice A1 res.length c1],.bool false]) (by simp [results,Tryz.results184,go_sem,a0,a1,a2,af,q0,q1,q2]) rfl ⟨A1,c1,rfl,?_,?_⟩
  ·refine OG.wide (OG.mid ho5 (a:=w.heap.size) (b:=w.heap.size+2) ?_ (Or.inl (by have:=HS.out;omega))) (by have:=HS.out;omega) (by have:=ho5.size;simp;omega) (Nat.le_refl _)
   repeat (first | exact Mid.refl _ _ _ | refine Mid.stored ?_ _ (by simp;try omega) (by simp;try omega))
  ·repeat (first | exact hm0 | refine Mid.storeNew ?_ (by simp;try omega) _)
 have hpos:0 < wd.length:=List.length_pos_iff.2 hne;have d4:((wd.length:Int) == 0)=false:=by simp only [beq_eq_false_iff_ne];omega
 have HNE:=Lib.hid hne;clear hne;clear p0 p1 p2;have p0:=B0.cell 0 rfl;have p1:=B0.cell 1 rfl;have p2:=B0.cell 2 rfl;go_wp2_with fail;with_reducible refine (impl_IsWord r Aw wd cw _ _ ((hw.mid hm0 oZl).rs) HOK.out (by omega) b4 H4.out).mono ?_
 rintro en w7 ⟨rfl,rfl⟩;cases b4 with
 | false =>
  have hno:¬ PathOk r s es u wd v:=fun h=>by have:=H4.out.2 h.word;cases this
  clear p0 p1 p2;obtain ⟨rfl,rfl,rfl⟩:=HR.out.no hno;have a0:=B2.cell 0 rfl;have a1:=B2.cell 1 rfl;have a2:=B2.cell 2 rfl;have q0:=Y3.cell 0 rfl;have q1:=Y3.cell 1 rfl;have q2:=Y3.cell 2 rfl;have af:=B2.2.2;go_wp2_with fail;refine bodyPost_ret (v:=.tuple #[.agg #[.int .i64 r,.int .i64 rs,.slice A1 res.length c1],.bool false]) (by simp [results,Tryz.results184,go_sem,a0,a1,a2,af,q0,q1,q2]) rfl ⟨A1,c1,rfl,?_,?_⟩
  ·refine OG.wide (OG.mid ho5 (a:=w.heap.size) (b:=w.heap.size+2) ?_ (Or.inl (by have:=HS.out;omega))) (by have:=HS.out;omega) (by have:=ho5.size;simp;omega) (Nat.le_refl _)
   repeat (first | exact Mid.refl _ _ _ | refine Mid.stored ?_ _ (by simp;try omega) (by simp;try omega))
  ·repeat (first | exact hm0 | refine Mid.storeNew ?_ (by simp;try omega) _)
 | true =>
 have hwd:=H4.out.1 rfl;have hwd24:=hwd.2.2.1;have HWD:=Lib.hid hwd;clear hwd H4;clear p0 p1 p2;have p0:=B0.cell 0 rfl;have p1:=B0.cell 1 rfl;have p2:=B0.cell 2 rfl;have d5':IntKind.i64.wrap (s+(wd.length:Int))=s+(wd.length:Int):=IntWalk.i64_in _ (by omega);have d5'':IntKind.i64.wrap (s+(wd.length:Int) - 1)=s+(wd.length:Int) - 1:=IntWalk.i64_in _ (by omega);by_cases hsl:40 < s+(wd.length:Int) - 1
 ·have hno:¬ PathOk r s es u wd v:=fun h=>by have:=h.sz;omega
  have d5:decide (40 < s+(wd.length:Int) - 1)=true:=by simpa using hsl
  clear p1;clear p0 p2;have p0:=B0.cell 0 rfl;have p1:=B0.cell 1 rfl;have p2:=B0.cell 2 rfl;obtain ⟨rfl,rfl,rfl⟩:=HR.out.no hno;have a0:=B2.cell 0 rfl;have a1:=B2.cell 1 rfl;have a2:=B2.cell 2 rfl;have q0:=Y3.cell 0 rfl;have q1:=Y3.cell 1 rfl;have q2:=Y3.cell 2 rfl;have af:=B2.2.2;go_wp2_with fail;refine bodyPost_ret (v:=.tuple #[.agg #[.int .i64 r,.int .i64 rs,.slice A1 res.length c1],.bool false]) (by simp [results,Tryz.results184,go_sem,a0,a1,a2,af,q0,q1,q2]) rfl ⟨A1,c1,rfl,?_,?_⟩
  ·refine OG.wide (OG.mid ho5 (a:=w.heap.size) (b:=w.heap.size+2) ?_ (Or.inl (by have:=HS.out;omega))) (by have:=HS.out;omega) (by have:=ho5.size;simp;omega) (Nat.le_refl _)
   repeat (first | exact Mid.refl _ _ _ | refine Mid.stored ?_ _ (by simp;try omega) (by simp;try omega))
  ·repeat (first | exact hm0 | refine Mid.storeNew ?_ (by simp;try omega) _)
 have d5:decide (40 < s+(wd.length:Int) - 1)=false:=by simpa using hsl
 by_cases hll:120 < es.length+wd.length
 ·have hno:¬ PathOk r s es u wd v:=fun h=>by have:=h.ln;omega
  have d6:decide (120 < (es.length:Int)+(wd.length:Int))=true:=by simp;omega
  obtain ⟨rfl,rfl,rfl⟩:=HR.out.no hno;have a0:=B2.cell 0 rfl;have a1:=B2.cell 1 rfl;have a2:=B2.cell 2 rfl;have q0:=Y3.cell 0 rfl;have q1:=Y3.cell 1 rfl;have q2:=Y3.cell 2 rfl;have af:=B2.2.2;go_wp2_with fail;refine bodyPost_ret (v:=.tuple #[.agg #[.int .i64 r,.int .i64 rs,.slice A1 res.length c1],.bool false]) (by simp [results,Tryz.results184,go_sem,a0,a1,a2,af,q0,q1,q2]) rfl ⟨A1,c1,rfl,?_,?_⟩
  ·refine OG.wide (OG.mid ho5 (a:=w.heap.size) (b:=w.heap.size+2) ?_ (Or.inl (by have:=HS.out;omega))) (by have:=HS.out;omega) (by have:=ho5.size;simp;omega) (Nat.le_refl _)
   repeat (first | exact Mid.refl _ _ _ | refine Mid.stored ?_ _ (by simp;try omega) (by simp;try omega))
  ·repeat (first | exact hm0 | refine Mid.storeNew ?_ (by simp;try omega) _)
 have d6:decide (120 < (es.length:Int)+(wd.length:Int))=false:=by simp;omega
 obtain ⟨rfl,hrs,hre⟩:=HR.out.yes ⟨GR.out,hxu,hxv,HWD.out,HNE.out,by omega,by omega⟩;have HRS:=Lib.hid hrs;have HRE:=Lib.hid hre;have hasc:=Lib.hid GR.out.asc;clear hrs hre HR;have hwn:IntKind.i64.wrap ((wd.length:Int) - 1)=(wd.length:Int) - 1:=IntWalk.i64_in _ (by omega);have hletb:=Lib.hid HWD.out.2.2.2.1;have q0:=Y3.cell 0 rfl;have q1:=Y3.cell 1 rfl;have q2:=Y3.cell 2 rfl;go_wp2_with fail;clear p0 p1 p2 q0 q1 q2;go_loopw [11,66] (fun at_ i wr=>∃ (k:Nat) (A2:Option Addr) (n2 c2:Nat) (sz:Int),k≤wd.length∧i=.int .i64 k∧at_=.int .i64 (pathV u s wd.length v k)∧Hid (sz=s+((min k (wd.length - 1):Nat):Int))∧Hid (n2=es.length+k) ∧
  wr.ownsRow w1.heap.size 68 3 (.slice A2 n2 c2) n2 (ints (edI (es++pathE u s wd v k)))∧Value.ownBlock (.slice A2 n2 c2)≠some G ∧
  Box wr w.heap.size [.int .i64 r,.int .i64 s,.slice A es.length c]∧Box wr (w.heap.size+1) [.int .i64 0,.int .i64 0,.slice none 0 0] ∧
  Box wr G [.int .i64 r,.int .i64 sz,.slice A2 n2 c2]∧Mid 0 0 w wr) (fun _ i _=>wd.length - (intOf i).toNat)
 case atStart=>exact ⟨0,A1,es.length,c1,s,Nat.zero_le _,rfl,rfl,Lib.hid (by simp),Lib.hid rfl,by simpa [pathE] using HOW.out,HBK.out,B0,B2,Y3,hm0⟩
 case round =>
  clear B0 B2 Y3 hm0 ho5 HOW HBK hG3;obtain ⟨k,A2,n2,c2,sz,hk,rfl,rfl,HSZ,HN,hown,hbk,Z0,Z2,Z3,hmr⟩:=hrel;have hszv:=HSZ.out;have hn2:n2≤240:=by have:=HN.out;omega
  by_cases hlt:k < wd.length
  ·obtain ⟨B,off,x,rfl,hbh,hx,hcx⟩:=(hw.mid hmr oZl).at hlt
   have hxl:=hletb.out x (List.mem_of_getElem? hx);have hkn:(k:Int) < (wd.length:Int):=by omega
   have hk0:(0:Int)≤(k:Int):=by omega
   have hpe:=pathE_succ (u:=u) (s:=s) (v:=v) hx;have HPE:=Lib.hid hpe;have hGr:G < wr.heap.size:=Z3.1;have hw1r:w1.heap.size≤wr.heap.size:=by have:=HGW.out;omega
   clear hx hpe;generalize hat:pathV u s wd.length v k=at0 at HPE ⊢;clear hat;by_cases hlast:k+1 < wd.length
   ·have hmin:((min k (wd.length - 1):Nat):Int)=(k:Int):=by rw [Nat.min_eq_left (by omega)]
    have hmin2:((min (k+1) (wd.length - 1):Nat):Int)=(k:Int)+1:=by rw [Nat.min_eq_left (by omega)];rfl
    rw [hmin] at hszv;subst hszv;have hto:pathV u s wd.length v (k+1)=s+(k:Int):=by
     rw [pathV,if_neg (by omega),if_pos hlast];omega
    rw [hto] at HPE;have dk:decide ((k:Int) < (wd.length:Int) - 1)=true:=by simp;omega
    have hws:IntKind.i64.wrap (s+(k:Int)+1)=s+(k:Int)+1:=IntWalk.i64_in _ (by omega);have q1:=Z3.cell 1 rfl;have qf:=Z3.2.2;have hst:=Mid.setCell wr (lo:=G) (hi:=G+1) (p:=⟨G,1,none⟩) (.int .i64 (s+(k:Int)+1)) (Nat.le_refl _) (Nat.lt_succ_self _);have V0:=Z0.mid hst (Or.inl (by omega));have V2:=Z2.mid hst (Or.inl (by omega));have V3:=Z3.set 1 (.int .i64 (s+(k:Int)+1)) (by simp) rfl;have hownV:=owns_other hown (k:=G) (grown_setCell (World.grownBy.refl _ (some G)) 1 (.int .i64 (s+(k:Int)+1))) hbk;have hmv:=hmr.storeNew (p:=⟨G,1,none⟩) (by show w.heap.size≤G;omega) (.int .i64 (s+(k:Int)+1));have hsV:(wr.setCell ⟨G,1,none⟩ (.int .i64 (s+(k:Int)+1))).heap.size=wr.heap.size:=by simp
    go_wp2_with fail;generalize wr.setCell ⟨G,1,none⟩ (.int .i64 (s+(k:Int)+1))=wx at V0 V2 V3 hownV hmv hsV ⊢;have hnsz:Hid (s+(k:Int)+1=s+((min (k+1) (wd.length - 1):Nat):Int)):=Lib.hid (by rw [hmin2];omega);clear Z0 Z2 Z3 hown hmr q1 qf hst hcx hmin hmin2 HSZ;simp only [List.set_cons_succ,List.set_cons_zero] at V3;generalize s+(k:Int)+1=sz' at V3 hnsz;generalize s+(k:Int)=to at HPE hto ⊢;have hGx:G < wx.heap.size:=V3.1;have hmd:=Mid.drew1 wx;have U0:=V0.mid hmd oZr;have U2:=V2.mid hmd oZr;have U3:=V3.mid hmd oZr;have hownU:=owns_mid hownV hmd oZl;have hmu:=hmv.trans hmd;have g2:=U3.cell 2 rfl;have hsd:=hmd.size;have hP1:=fun W=>impl_step at0 x to W (by omega) (by omega);clear V0 V2 V3 hownV hmv hmd;refine wp_region_T (S:=(fun w'=>w'.cell? ⟨G,2,none⟩=some (.slice A2 n2 c2))) 9 (by kernel_rfl) g2 ?_;generalize World.drew wx=wz at U0 U2 U3 hownU hmu g2 hsd ⊢;refine tkT 0 rfl g2 ?_;try simp only [Act.put,zs1,zs2,zs3,zs4,zs5,zs6]
    refine tkT 1 rfl g2 ?_;try simp only [Act.put,zs1,zs2,zs3,zs4,zs5,zs6]
    refine tkT 2 rfl g2 ?_;try simp only [Act.put,zs1,zs2,zs3,zs4,zs5,zs6]
    refine tkT 3 rfl g2 ?_;try simp only [Act.put,zs1,zs2,zs3,zs4,zs5,zs6]
    refine tkT 4 rfl g2 ?_;try simp only [Act.put,zs1,zs2,zs3,zs4,zs5,zs6]
    refine rdT 5 rfl (fun K hK=>?_)
    (go_simp;refine (hP1 _).mono ?_;rintro en w7 ⟨rfl,hm7⟩;have U3':=U3.mid hm7 oZr;go_wp2_with fail)
    refine hK.out _ _ (Or.inr (U3'.cell 2 rfl)) (fun _=>?_);clear hK K;try simp only [Act.put,zs1,zs2,zs3,zs4,zs5,zs6]
    have U0':=U0.mid hm7 oZr;have U2':=U2.mid hm7 oZr;have hownU':=owns_mid hownU hm7 oZl;have hmu':=hmu.trans hm7;have hs7:=hm7.size;clear U0 U2 U3 hownU hmu g2 hP1 hm7;generalize stepE at0 x to=ed at HPE ⊢;have haz:=Mid.alloc w7 (.cells #[.int .i64 ed.a,.int .i64 ed.l,.int .i64 ed.b] 68);have T0:=U0'.mid haz oZr;have T2:=U2'.mid haz oZr;have T3:=U3'.mid haz oZr;have hownT:=hownU'.alloc (.cells #[.int .i64 ed.a,.int .i64 ed.l,.int .i64 ed.b] 68);have hmt:=hmu'.trans haz;have hS2:=T3.cell 2 rfl;have hrs:Rs (w7.alloc (.cells #[.int .i64 ed.a,.int .i64 ed.l,.int .i64 ed.b] 68)) (w7.heap.size+1) (some ⟨w7.heap.size,0,none⟩) [.int .i64 ed.a,.int .i64 ed.l,.int .i64 ed.b]:=fun _=>⟨w7.heap.size,0,rfl,Nat.lt_succ_self _,fun j u hu=>(World.cell?_alloc_at _ _ _ _ rfl).trans (by simpa using hu)⟩
    have hone:∀ u∈[Value.int .i64 ed.a,.int .i64 ed.l,.int .i64 ed.b],u.oneCell'=true:=by
     intro u hu;simp at hu;rcases hu with rfl | rfl | rfl <;> rfl
    have hmxl:n2+1≤maxLen:=by unfold maxLen;omega
    have hbyt:(n2+1) * 24≤140737488355328:=by omega
    have hbas:w1.heap.size≤(w7.alloc (.cells #[.int .i64 ed.a,.int .i64 ed.l,.int .i64 ed.b] 68)).heap.size:=by simp;omega
    have hGz:G < w7.heap.size:=U3'.1;have HO:=Lib.hid hone;have HB0:=Lib.hid (fun (g:Nat) (h:Value.ownBlock (.slice A2 n2 c2)=some g)=>(hownT.lt g h).1);have HBk:=Lib.hid hbk;clear hone hbk U0' U2' U3' hownU' hmu' haz;refine rdT 6 rfl (fun K hK=>?_);go_simp;refine hK.out _ _ (Or.inr hS2) (fun _=>?_);clear hK K;try simp only [Act.put,zs1,zs2,zs3,zs4,zs5,zs6]
    generalize hwt:w7.alloc (.cells #[.int .i64 ed.a,.int .i64 ed.l,.int .i64 ed.b] 68)=wt at T0 T2 T3 hownT hmt hS2 hrs hbas ⊢;have hszt:wt.heap.size=w7.heap.size+1:=by rw [← hwt];simp
    have HZT:=Lib.hid hszt;clear hwt hszt;refine rdT 7 rfl (fun K hK=>?_)
    (refine step_cat (by rfl) (.tmp 84) (.tmp 89) 24 (by rfl) w1.heap.size 68 (.agg #[.int .i64 0,.int .i64 0,.int .i64 0]) 3 24 undSE infoE rfl (by decide) (.slice A2 n2 c2) n2 _ (by rfl) hownT (some ⟨w7.heap.size,0,none⟩) 1 1 _ [.int .i64 ed.a,.int .i64 ed.l,.int .i64 ed.b] (by rfl) hrs rfl HO.out hmxl hbyt hbas ?_;intro v2 w8 ho8 hgr8 hat8;obtain ⟨A3,c3,rfl, -, -⟩:=owns_shape ho8)
    refine hK.out _ _ (Or.inr ((T3.grown hgr8 HBk.out).cell 2 rfl)) (fun _=>?_);clear hK K;try simp only [Act.put,zs1,zs2,zs3,zs4,zs5,zs6]
    have R3:=T3.grown hgr8 HBk.out;have R0:=T0.grown hgr8 (fun h=>by have:=HB0.out _ h;have:=HS.out;omega);have R2:=T2.grown hgr8 (fun h=>by have:=HB0.out _ h;have:=HS.out;omega);have hmr8:Mid 0 0 w w8:=hmt.transNew (Mid.of_grownRow hownT hgr8) (Or.inl (by have:=HS.out;omega));have hS3:=R3.cell 2 rfl;have hne:Value.ownBlock (.slice A3 (n2+1) c3)≠some G:=by
     rcases hat8 with h | h
     ·rw [h];exact HBk.out
     ·rw [h]
      intro he;injection he with he
      have:=HZT.out;omega
    have HNE2:=Lib.hid hne;have hrf:=R3.2.2;clear hne hat8 hS2 hrs T0 T2 T3 hmt;refine tkT 8 rfl hS3 ?_;try simp only [Act.put,zs1,zs2,zs3,zs4,zs5,zs6]
    refine rdT 9 rfl (fun K hK=>?_)
    (go_simp)
    refine hK.out _ _ (Or.inl rfl) (fun _=>?_);clear hK K;try simp only [Act.put,zs1,zs2,zs3,zs4,zs5,zs6]
    refine wpAnyT_done (by kernel_rfl) ?_ _;go_wp2_with fail;go_roundw
    case rel =>
     have hst:=Mid.setCell w8 (lo:=G) (hi:=G+1) (p:=⟨G,2,none⟩) (.slice A3 (n2+1) c3) (Nat.le_refl _) (Nat.lt_succ_self _);refine ⟨k+1,A3,n2+1,c3,sz',by omega,by go_num,by rw [hto],hnsz,Lib.hid (by rw [HN.out];omega),?_,HNE2.out,R0.mid hst (Or.inl (by omega)),R2.mid hst (Or.inl (by omega)),R3.set 2 _ (by simp) rfl,hmr8.storeNew (by show w.heap.size≤G;omega) _⟩;have h1:=owns_other ho8 (k:=G) (grown_setCell (World.grownBy.refl _ (some G)) 2 (.slice A3 (n2+1) c3)) HNE2.out;rw [HPE.out,← List.append_assoc,edI_append,ints_append,edI_one];exact h1
    case measure=>simp [intOf];omega
   ·have hkl:k+1=wd.length:=by omega
    have hmin:min k (wd.length - 1)=min (k+1) (wd.length - 1):=by omega
    have hnsz:Hid (sz=s+((min (k+1) (wd.length - 1):Nat):Int)):=Lib.hid (by rw [hszv,hmin]);have hto:pathV u s wd.length v (k+1)=v:=by
     rw [pathV,if_neg (by omega),if_neg (by omega)]
    rw [hto] at HPE;have dk:decide ((k:Int) < (wd.length:Int) - 1)=false:=by simp;omega
    clear hszv hmin HSZ;generalize sz=sz' at Z3 hnsz;go_wp2_with fail;have V0:=Z0;have V2:=Z2;have V3:=Z3;have hownV:=hown;have hmv:=hmr;obtain ⟨wx,hwx⟩:∃ wx,wr=wx:=⟨_,rfl⟩
    have hsV:wx.heap.size=wr.heap.size:=by rw [hwx]
    rw [hwx] at V0 V2 V3 hownV hmv ⊢;clear Z0 Z2 Z3 hown hmr hcx;have hGx:G < wx.heap.size:=V3.1;have hmd:=Mid.drew1 wx;have U0:=V0.mid hmd oZr;have U2:=V2.mid hmd oZr;have U3:=V3.mid hmd oZr;have hownU:=owns_mid hownV hmd oZl;have hmu:=hmv.trans hmd;have g2:=U3.cell 2 rfl;have hsd:=hmd.size;have hP1:=fun W=>impl_step at0 x v W (by omega) (by omega);clear V0 V2 V3 hownV hmv hmd;refine wp_region_T (S:=(fun w'=>w'.cell? ⟨G,2,none⟩=some (.slice A2 n2 c2))) 9 (by kernel_rfl) g2 ?_;generalize World.drew wx=wz at U0 U2 U3 hownU hmu g2 hsd ⊢;refine tkT 0 rfl g2 ?_;try simp only [Act.put,zs1,zs2,zs3,zs4,zs5,zs6]
    refine tkT 1 rfl g2 ?_;try simp only [Act.put,zs1,zs2,zs3,zs4,zs5,zs6]
    refine tkT 2 rfl g2 ?_;try simp only [Act.put,zs1,zs2,zs3,zs4,zs5,zs6]
    refine tkT 3 rfl g2 ?_;try simp only [Act.put,zs1,zs2,zs3,zs4,zs5,zs6]
    refine tkT 4 rfl g2 ?_;try simp only [Act.put,zs1,zs2,zs3,zs4,zs5,zs6]
    refine rdT 5 rfl (fun K hK=>?_)
    (go_simp;refine (hP1 _).mono ?_;rintro en w7 ⟨rfl,hm7⟩;have U3':=U3.mid hm7 oZr;go_wp2_with fail)
    refine hK.out _ _ (Or.inr (U3'.cell 2 rfl)) (fun _=>?_);clear hK K;try simp only [Act.put,zs1,zs2,zs3,zs4,zs5,zs6]
    have U0':=U0.mid hm7 oZr;have U2':=U2.mid hm7 oZr;have hownU':=owns_mid hownU hm7 oZl;have hmu':=hmu.trans hm7;have hs7:=hm7.size;clear U0 U2 U3 hownU hmu g2 hP1 hm7;generalize stepE at0 x v=ed at HPE ⊢;have haz:=Mid.alloc w7 (.cells #[.int .i64 ed.a,.int .i64 ed.l,.int .i64 ed.b] 68);have T0:=U0'.mid haz oZr;have T2:=U2'.mid haz oZr;have T3:=U3'.mid haz oZr;have hownT:=hownU'.alloc (.cells #[.int .i64 ed.a,.int .i64 ed.l,.int .i64 ed.b] 68);have hmt:=hmu'.trans haz;have hS2:=T3.cell 2 rfl;have hrs:Rs (w7.alloc (.cells #[.int .i64 ed.a,.int .i64 ed.l,.int .i64 ed.b] 68)) (w7.heap.size+1) (some ⟨w7.heap.size,0,none⟩) [.int .i64 ed.a,.int .i64 ed.l,.int .i64 ed.b]:=fun _=>⟨w7.heap.size,0,rfl,Nat.lt_succ_self _,fun j u hu=>(World.cell?_alloc_at _ _ _ _ rfl).trans (by simpa using hu)⟩
    have hone:∀ u∈[Value.int .i64 ed.a,.int .i64 ed.l,.int .i64 ed.b],u.oneCell'=true:=by
     intro u hu;simp at hu;rcases hu with rfl | rfl | rfl <;> rfl
    have hmxl:n2+1≤maxLen:=by unfold maxLen;omega
    have hbyt:(n2+1) * 24≤140737488355328:=by omega
    have hbas:w1.heap.size≤(w7.alloc (.cells #[.int .i64 ed.a,.int .i64 ed.l,.int .i64 ed.b] 68)).heap.size:=by simp;omega
    have hGz:G < w7.heap.size:=U3'.1;have HO:=Lib.hid hone;have HB0:=Lib.hid (fun (g:Nat) (h:Value.ownBlock (.slice A2 n2 c2)=some g)=>(hownT.lt g h).1);have HBk:=Lib.hid hbk;clear hone hbk U0' U2' U3' hownU' hmu' haz;refine rdT 6 rfl (fun K hK=>?_);go_simp;refine hK.out _ _ (Or.inr hS2) (fun _=>?_);clear hK K;try simp only [Act.put,zs1,zs2,zs3,zs4,zs5,zs6]
    generalize hwt:w7.alloc (.cells #[.int .i64 ed.a,.int .i64 ed.l,.int .i64 ed.b] 68)=wt at T0 T2 T3 hownT hmt hS2 hrs hbas ⊢;have hszt:wt.heap.size=w7.heap.size+1:=by rw [← hwt];simp
    have HZT:=Lib.hid hszt;clear hwt hszt;refine rdT 7 rfl (fun K hK=>?_)
    (refine step_cat (by rfl) (.tmp 84) (.tmp 89) 24 (by rfl) w1.heap.size 68 (.agg #[.int .i64 0,.int .i64 0,.int .i64 0]) 3 24 undSE infoE rfl (by decide) (.slice A2 n2 c2) n2 _ (by rfl) hownT (some ⟨w7.heap.size,0,none⟩) 1 1 _ [.int .i64 ed.a,.int .i64 ed.l,.int .i64 ed.b] (by rfl) hrs rfl HO.out hmxl hbyt hbas ?_;intro v2 w8 ho8 hgr8 hat8;obtain ⟨A3,c3,rfl, -, -⟩:=owns_shape ho8)
    refine hK.out _ _ (Or.inr ((T3.grown hgr8 HBk.out).cell 2 rfl)) (fun _=>?_);clear hK K;try simp only [Act.put,zs1,zs2,zs3,zs4,zs5,zs6]
    have R3:=T3.grown hgr8 HBk.out;have R0:=T0.grown hgr8 (fun h=>by have:=HB0.out _ h;have:=HS.out;omega);have R2:=T2.grown hgr8 (fun h=>by have:=HB0.out _ h;have:=HS.out;omega);have hmr8:Mid 0 0 w w8:=hmt.transNew (Mid.of_grownRow hownT hgr8) (Or.inl (by have:=HS.out;omega));have hS3:=R3.cell 2 rfl;have hne:Value.ownBlock (.slice A3 (n2+1) c3)≠some G:=by
     rcases hat8 with h | h
     ·rw [h];exact HBk.out
     ·rw [h]
      intro he;injection he with he
      have:=HZT.out;omega
    have HNE2:=Lib.hid hne;have hrf:=R3.2.2;clear hne hat8 hS2 hrs T0 T2 T3 hmt;refine tkT 8 rfl hS3 ?_;try simp only [Act.put,zs1,zs2,zs3,zs4,zs5,zs6]
    refine rdT 9 rfl (fun K hK=>?_)
    (go_simp)
    refine hK.out _ _ (Or.inl rfl) (fun _=>?_);clear hK K;try simp only [Act.put,zs1,zs2,zs3,zs4,zs5,zs6]
    refine wpAnyT_done (by kernel_rfl) ?_ _;go_wp2_with fail;go_roundw
    case rel =>
     have hst:=Mid.setCell w8 (lo:=G) (hi:=G+1) (p:=⟨G,2,none⟩) (.slice A3 (n2+1) c3) (Nat.le_refl _) (Nat.lt_succ_self _);refine ⟨k+1,A3,n2+1,c3,sz',by omega,by go_num,by rw [hto],hnsz,Lib.hid (by rw [HN.out];omega),?_,HNE2.out,R0.mid hst (Or.inl (by omega)),R2.mid hst (Or.inl (by omega)),R3.set 2 _ (by simp) rfl,hmr8.storeNew (by show w.heap.size≤G;omega) _⟩;have h1:=owns_other ho8 (k:=G) (grown_setCell (World.grownBy.refl _ (some G)) 2 (.slice A3 (n2+1) c3)) HNE2.out;rw [HPE.out,← List.append_assoc,edI_append,ints_append,edI_one];exact h1
    case measure=>simp [intOf];omega
  ·obtain rfl:k=wd.length:=by omega
   have hszf:sz=s+(wd.length:Int) - 1:=by rw [hszv,Nat.min_eq_right (by omega)];omega
   subst hszf;have hrg:RG wr w1.heap.size wr.heap.size A2 (es++pathE u s wd v wd.length):=OV.rv (e:=68) (size:=3) (c:=c2) (n:=n2) ⟨Nat.le_refl _,hown,fun g hg=>(hown.lt g hg).2⟩;have hnl:(es++pathE u s wd v wd.length).length=n2:=by rw [HN.out,List.length_append,pathE_len]
   have HNL:=Lib.hid hnl;have z2:=Z3.cell 2 rfl;clear hnl hszv;go_wp2_with fail;with_reducible refine (impl_sortedN A2 (es++pathE u s wd v wd.length) n2 c2 _ _ _ HNL.out hrg (by omega)).mono ?_
   rintro en w6 ⟨A4,c4,rfl,ho6,hm6⟩;have Q2:=Z2.mid hm6 oZr;have Q3:=Z3.mid hm6 oZr;have hG6:G < wr.heap.size:=Z3.1;have hsz6:=hm6.size;clear z2;have a0:=Q2.cell 0 rfl;have a1:=Q2.cell 1 rfl;have a2:=Q2.cell 2 rfl;have b0:=Q3.cell 0 rfl;have b1:=Q3.cell 1 rfl;have b2:=Q3.cell 2 rfl;have af:=Q2.2.2;have bf:=Q3.2.2;go_wp2_with fail;have hcl:(w.heap.size+1 == G)=false:=by simp;omega
   refine bodyPost_ret (v:=.tuple #[.agg #[.int .i64 r,.int .i64 (s+(wd.length:Int) - 1),.slice A4 (canon (es++pathE u s wd v wd.length)).length c4],.bool true]) (by simp [results,Tryz.results184,go_sem,a0,a1,a2,b0,b1,b2,af,bf]) rfl ⟨A4,c4,?_,?_,?_⟩
   ·rw [HRS.out,HRE.out]
   ·rw [HRE.out]
    refine OG.wide (OG.mid ho6 (a:=w.heap.size) (b:=G+1) ?_ (Or.inl hG6)) (by have:=hmr.size;omega) (by simp) (Nat.le_refl _);repeat (first | exact Mid.refl _ _ _ | refine Mid.stored ?_ _ (by simp;try omega) (by simp;try omega))
   ·have h:=hmr.trans hm6
    repeat (first | exact h | refine Mid.storeNew ?_ (by simp;try omega) _)
end
def foldsUp (es:List Ed):Nat→List (Int × Int)
 | 0=>[]
 | k+1=>foldsUp es k++(match es[k]? with | none=>[] | some e=>(es.drop (k+1)).flatMap (foldsAB e))
theorem foldsUp_succ {es:List Ed} {k:Nat} {e:Ed} (h:es[k]?=some e):foldsUp es (k+1)=foldsUp es k++(es.drop (k+1)).flatMap (foldsAB e):=by
 rw [foldsUp,h]
theorem foldsUp_cons (f:Ed) (t:List Ed):∀ k,foldsUp (f :: t) (k+1)=t.flatMap (foldsAB f)++foldsUp t k
 | 0=>by simp [foldsUp]
 | k+1=>by
  rw [foldsUp,foldsUp_cons f t k,foldsUp,List.append_assoc];simp
theorem foldsUp_all:∀ es:List Ed,foldsUp es es.length=folds es
 | []=>rfl
 | f :: t=>by rw [List.length_cons,foldsUp_cons,foldsUp_all t,folds]
theorem foldsAB_len (e f:Ed):(foldsAB e f).length≤2:=by
 unfold foldsAB;split
 ·split <;> split <;> simp
 ·simp
theorem flat_len (e:Ed):∀ t:List Ed,(t.flatMap (foldsAB e)).length≤2 * t.length
 | []=>by simp
 | f :: t=>by
  have:=flat_len e t;have:=foldsAB_len e f;rw [List.flatMap_cons,List.length_append,List.length_cons];omega
theorem foldsUp_len (es:List Ed):∀ k,(foldsUp es k).length≤k * (2 * es.length)
 | 0=>by simp [foldsUp]
 | k+1=>by
  have:=foldsUp_len es k;rw [foldsUp,List.length_append,Nat.succ_mul];cases h:es[k]? with
  | none=>simp;omega
  | some e =>
   have h1:=flat_len e (es.drop (k+1));rw [List.length_drop] at h1;simp only;omega
def fdI (ps:List (Int × Int)):List Int:=(ps.map fun p=>[p.1,p.2]).flatten
theorem fdI_append (a b:List (Int × Int)):fdI (a++b)=fdI a++fdI b:=by simp [fdI]
theorem fdI_one (p:Int × Int):fdI [p]=[p.1,p.2]:=by simp [fdI]
theorem fdI_head (p:Int × Int) (t:List (Int × Int)):fdI (p :: t)=p.1 :: p.2 :: fdI t:=by simp [fdI]
theorem flat_take {e:Ed} {fs:List Ed} {j:Nat} {f:Ed} (h:fs[j]?=some f):(fs.take (j+1)).flatMap (foldsAB e)=(fs.take j).flatMap (foldsAB e)++foldsAB e f:=by
 rw [take_snoc h,List.flatMap_append];simp
end Go.Proofs.YthampgpcajmopaaGreat
