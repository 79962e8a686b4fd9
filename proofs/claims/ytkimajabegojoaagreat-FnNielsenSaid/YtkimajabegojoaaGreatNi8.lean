/- Contracts and lemmas of this seat, many texts in one: see the words ahead of each. No condition beyond those typed in each lemma. -/
import Derived.Test.YtkimajabegojoaaGreatNi7
import Derived.Test.YtkimajabegojoaaGreatNi1
import Derived.Test.YtkimajabegojoaaGreatNi2
import Derived.Test.YtkimajabegojoaaGreatNi5

namespace Go.Proofs.YtkimajabegojoaaGreat
set_option linter.unusedVariables false
set_option linter.unusedSimpArgs false
set_option maxHeartbeats 40000000
set_option maxRecDepth 100000
theorem take_snocL {α:Type} {l:List α} {k:Nat} {x:α} (h:l[k]?=some x):l.take (k+1)=l.take k++[x]:=by
 obtain ⟨h1,h2⟩:=List.getElem?_eq_some_iff.1 h;rw [List.take_succ_eq_append_getElem h1,h2]
theorem nodup_sub_len {α:Type} [DecidableEq α]:∀ (l m:List α),l.Nodup→(∀ x∈l,x∈m)→l.length≤m.length:=by
 intro l
 induction l with
 | nil=>intro m _ _;simp
 | cons a t ih =>
  intro m hn hs;rw [List.nodup_cons] at hn;have ha:=hs a List.mem_cons_self;have h:=ih (m.erase a) hn.2 (fun x hx=>by
   have hne:x≠a:=fun e=>hn.1 (e ▸ hx);exact (List.mem_erase_of_ne hne).2 (hs x (List.mem_cons_of_mem _ hx)))
  rw [List.length_erase_of_mem ha] at h;have:=List.length_pos_of_mem ha;simp only [List.length_cons];omega
def Rch (s:Int) (es:List Ed):Prop:=∀ v,0≤v→v < s→∃ w,Pa es 0 w v
theorem rch_ord {r s:Int} {es:List Ed} (hf:IsFol r s es) (hr:Rch s es):((ordE r es 0).length:Int)=s∧∀ v,0≤v→v < s→v∈ordE r es 0:=by
 have hs:=hf.gr.size;have ho:=ordE_len hf.gr (v:=0) (Int.le_refl _) (by omega);have hall:∀ v,0≤v→v < s→v∈ordE r es 0:=fun v h0 h1=>by
  obtain ⟨w,hw⟩:=hr v h0 h1;exact bfs_reach hf (Int.le_refl _) (by omega) (ordE_self r es 0) hw
 refine ⟨?_,hall⟩;have h1:((List.range s.toNat).map fun (k:Nat)=>(k:Int)).length≤(ordE r es 0).length:=by
  have hnd:((List.range s.toNat).map fun (k:Nat)=>(k:Int)).Nodup:=by
   unfold List.Nodup;rw [List.pairwise_map];exact (List.pairwise_lt_range (n:=s.toNat)).imp fun h=>by omega
  refine nodup_sub_len _ _ hnd fun x hx=>?_;obtain ⟨k,hk,rfl⟩:=List.mem_map.1 hx;have:=List.mem_range.1 hk;exact hall k (by omega) (by omega)
 simp only [List.length_map,List.length_range] at h1;have:=ho.2.1;omega
section
theorem pa_canon {es:List Ed} {w:List Int} {a b:Int}:Pa (canon es) a w b↔Pa es a w b:=⟨Pa.mono fun e he=>mem_canon.1 he,Pa.mono fun e he=>mem_canon.2 he⟩
section
variable {r s:Int} {es:List Ed} {u:Int} {w:List Int}
end
end
theorem foldsAB_same {e f:Ed} {p:Int × Int} (h:p∈foldsAB e f):foldE p e=foldE p f:=by
 have hb:∀ a b:Int,foldV (min a b,max a b) a=foldV (min a b,max a b) b:=fun a b=>by
  unfold foldV;simp only;rcases Int.le_total a b with h | h
  ·rw [Int.min_eq_left h,Int.max_eq_right h]
   split <;> split <;> (try split) <;> omega
  ·rw [Int.min_eq_right h,Int.max_eq_left h]
   split <;> split <;> (try split) <;> omega
 unfold foldsAB at h;split at h
 ·rename_i hl
  rcases List.mem_append.1 h with h | h
  ·split at h
   ·rename_i ha
    rw [List.mem_singleton] at h;subst h;unfold foldE;rw [ha,hl,hb]
   ·cases h
  ·split at h
   ·rename_i hc
    rw [List.mem_singleton] at h;subst h;unfold foldE;rw [hc,hl,hb]
   ·cases h
 ·cases h
theorem folds_two {es:List Ed} (ha:Asc es) {p:Int × Int}:∀ {fs:List Ed},Asc fs→(∀ e∈fs,e∈es)→p∈folds fs→∃ e∈es,∃ f∈es,e≠f∧foldE p e=foldE p f
 | [],_,_,h=>by cases h
 | e :: t,hs,hm,h=>by
  obtain ⟨h1,h2⟩:=List.pairwise_cons.1 hs;rcases List.mem_append.1 h with h | h
  ·obtain ⟨f,hf,h⟩:=List.mem_flatMap.1 h
   exact ⟨e,hm e List.mem_cons_self,f,hm f (List.mem_cons_of_mem _ hf),(h1 f hf).ne,foldsAB_same h⟩
  ·exact folds_two ha h2 (fun x hx=>hm x (List.mem_cons_of_mem _ hx)) h
theorem merge_len {es:List Ed} (ha:Asc es) {p:Int × Int} (h:p∈folds es):(mergeE p es).length+1≤es.length:=by
 obtain ⟨e,he,f,hf,hne,heq⟩:=folds_two ha ha (fun x hx=>hx) h;have h1:mergeE p es=canon ((es.erase f).map (foldE p)):=canon_congr fun x=>by
  rw [List.mem_map,List.mem_map];constructor
  ·rintro ⟨y,hy,rfl⟩
   by_cases hyf:y=f
   ·exact ⟨e,(List.mem_erase_of_ne hne).2 he,by rw [heq,hyf]⟩
   ·exact ⟨y,(List.mem_erase_of_ne hyf).2 hy,rfl⟩
  ·rintro ⟨y,hy,rfl⟩
   exact ⟨y,List.mem_of_mem_erase hy,rfl⟩
 rw [h1];have h2:=canon_len ((es.erase f).map (foldE p));rw [List.length_map,List.length_erase_of_mem hf] at h2;have:=List.length_pos_of_mem hf;omega
def chi (g:Int × List Ed):Int:=(g.2.length:Int) - g.1
theorem merge_rch {s:Int} {es:List Ed} {p:Int × Int} (h0:0≤p.1) (h1:p.1 < p.2) (h2:p.2 < s) (h:Rch s es):Rch (s - 1) (mergeE p es):=fun v a b=>by
 obtain ⟨u,hu,hv⟩:∃ u,(0≤u∧u < s)∧foldV p u=v:=by
  by_cases hc:v < p.2
  ·exact ⟨v,by omega,by unfold foldV;rw [if_neg (by omega),if_neg (by omega)]⟩
  ·exact ⟨v+1,by omega,by unfold foldV;rw [if_neg (by omega),if_pos (by omega)];omega⟩
 obtain ⟨w,hw⟩:=h u hu.1 hu.2;have:=merge_pa (p:=p) hw;rw [foldV_zero h0 h1,hv] at this;exact ⟨w,this⟩
theorem foldA_chi {r:Int}:∀ (n:Nat) {g:Int × List Ed},IsGr r g.1 g.2→Rch g.1 g.2→chi (foldA n g)≤chi g∧Rch (foldA n g).1 (foldA n g).2
 | 0,g,_,hr=>⟨Int.le_refl _,hr⟩
 | n+1,g,h,hr=>by
  cases hf:folds g.2 with
  | nil=>rw [foldA_nil hf];exact ⟨Int.le_refl _,hr⟩
  | cons p t =>
   rw [foldA_cons hf];have hm:p∈folds g.2:=by rw [hf];exact List.mem_cons_self
   obtain ⟨h1,h2,h3⟩:=mem_folds h.all h.asc hm;have h4:=foldA_chi n (g:=(g.1 - 1,mergeE p g.2)) (mergeE_gr h h1 h2 h3) (merge_rch h1 h2 h3 hr);have h5:=merge_len h.asc hm;refine ⟨Int.le_trans h4.1 ?_,h4.2⟩;unfold chi;simp only;omega
theorem nodup_len_eq {α:Type} [DecidableEq α] {l m:List α} (hl:l.Nodup) (hm:m.Nodup) (h:∀ x,x∈l↔x∈m):l.length=m.length :=
 Nat.le_antisymm (nodup_sub_len l m hl fun x hx=>(h x).1 hx) (nodup_sub_len m l hm fun x hx=>(h x).2 hx)
theorem asc_nodup {es:List Ed} (h:Asc es):es.Nodup:=h.imp fun h=>h.ne
theorem part_len {es:List Ed} (ha:Asc es) (ord:List Int):(partE ord es).length=(es.filter fun e=>decide (e.a∈ord∧e.b∈ord)).length:=by
 have h1:((es.filter fun e=>decide (e.a∈ord∧e.b∈ord)).map fun e=>(⟨idxI ord e.a,e.l,idxI ord e.b⟩:Ed)).Nodup:=by
  unfold List.Nodup;rw [List.pairwise_map];refine List.Pairwise.imp_of_mem ?_ ((asc_nodup ha).filter _);intro e f he hf hne heq;have he2:=(List.mem_filter.1 he).2;have hf2:=(List.mem_filter.1 hf).2;simp only [decide_eq_true_eq] at he2 hf2;injection heq with e1 e2 e3
  exact hne (Ed.ext' (idxI_inj he2.1 hf2.1 e1) e2 (idxI_inj he2.2 hf2.2 e3))
 have h2:=nodup_len_eq (asc_nodup (show Asc (partE ord es) from asc_canon _)) h1 fun x=>by
  rw [mem_partE,List.mem_map];constructor
  ·rintro ⟨e,he,a,b,rfl⟩
   exact ⟨e,List.mem_filter.2 ⟨he,by simpa using ⟨a,b⟩⟩,rfl⟩
  ·rintro ⟨e,he,rfl⟩
   obtain ⟨h3,h4⟩:=List.mem_filter.1 he;simp only [decide_eq_true_eq] at h4;exact ⟨e,h3,h4.1,h4.2,rfl⟩
 rw [h2,List.length_map]
theorem filt_split (p:Ed→Bool):∀ l:List Ed,(l.filter p).length+(l.filter fun e=>!p e).length=l.length
 | []=>rfl
 | e :: t=>by
  have:=filt_split p t;cases h:p e <;> simp [List.filter_cons,h] <;> omega
theorem touch_le (v:Int):∀ es:List Ed,(es.filter fun e=>decide (e.a=v ∨ e.b=v)).length≤deg es v
 | []=>by simp
 | e :: t=>by
  have h:=touch_le v t;have h1:deg (e :: t) v=degE v e+deg t v:=by simp [deg]
  rw [List.filter_cons];by_cases hc:e.a=v ∨ e.b=v
  ·rw [if_pos (by simpa using hc),List.length_cons]
   have:1≤degE v e:=by
    unfold degE;rcases hc with hc | hc
    ·rw [if_pos hc];omega
    ·rw [if_pos hc];omega
   omega
  ·rw [if_neg (by simpa using hc)]
   omega
theorem cut_chi {r:Int} {g:Int × List Ed} {v:Nat} (h:IsFol r g.1 g.2) (hr:Rch g.1 g.2) (h1:1≤v) (h2:(v:Int) < g.1) (hb:Bad g.2 v):chi (cutV g v)=chi g∧Rch (cutV g v).1 (cutV g v).2:=by
 have hs:=h.gr.size;have hd:deg g.2 v < 2:=by
  rcases hb with hb | hb
  ·exact hb
  ·exact absurd ((conn_pa h.gr.all).2 (hr v (by omega) h2)) hb
 have hin:∃ e∈g.2,e.a=(v:Int) ∨ e.b=(v:Int):=by
  obtain ⟨w,hw⟩:=hr v (by omega) h2;rcases snoc_cases w with rfl | ⟨t,x,rfl⟩
  ·have:(0:Int)=v:=hw
   omega
  ·obtain ⟨q, -,hq⟩:=pa_app.1 hw
   rcases pa_one.1 hq with ⟨_,hq⟩ | ⟨_,hq⟩
   ·exact ⟨_,hq,.inr rfl⟩
   ·exact ⟨_,hq,.inl rfl⟩
 have ht:(g.2.filter fun e=>decide (e.a=(v:Int) ∨ e.b=(v:Int))).length=1:=by
  have h3:=touch_le v g.2;obtain ⟨e,he,hc⟩:=hin;have:=List.length_pos_of_mem (List.mem_filter.2 ⟨he,by simpa using hc⟩:e∈g.2.filter fun e=>decide (e.a=(v:Int) ∨ e.b=(v:Int)));omega
 have hlen:(cutV g v).2.length+1=g.2.length:=by
  have h3:=filt_split (fun e=>decide (e.a=(v:Int) ∨ e.b=(v:Int))) g.2;have h4:=part_len h.gr.asc (but v g.1.toNat);have h5:(g.2.filter fun e=>decide (e.a∈but v g.1.toNat∧e.b∈but v g.1.toNat))=g.2.filter fun e=>!decide (e.a=(v:Int) ∨ e.b=(v:Int)):=List.filter_congr fun e he=>by
   have hi:=h.gr.all e he;simp only [InG] at hi;have ha:=mem_butV (v:=v) (n:=g.1.toNat) (x:=e.a);have hbm:=mem_butV (v:=v) (n:=g.1.toNat) (x:=e.b);rw [← decide_not];refine decide_eq_decide.2 ?_;rw [ha,hbm];omega
  rw [h5] at h4
  show (partE (but v g.1.toNat) g.2).length+1=_
  omega
 constructor
 ·unfold chi
  rw [cutV_size h2];omega
 ·intro i h3 h4
  rw [cutV_size h2] at h4;have hbl:=but_len v (show v < g.1.toNat by omega);obtain ⟨k,rfl⟩:=Int.eq_ofNat_of_zero_le h3;have hk:k < (but v g.1.toNat).length:=by omega
  have hm:(but v g.1.toNat)[k]∈but v g.1.toNat:=List.getElem_mem hk;have hid:idxI (but v g.1.toNat) ((but v g.1.toNat)[k])=k:=idxI_at (but_nodup _ _) (List.getElem?_eq_getElem hk);generalize (but v g.1.toNat)[k]=u at hm hid;have hu:=mem_butV.1 hm;obtain ⟨w,hw⟩:=hr u hu.1 (by omega);have hw2:=hw.red h;have lw:=hw.lt h.gr;have hrd:=rd_red lw;refine ⟨red [] w,?_⟩;have:=part_pa_of (ord:=but v g.1.toNat) hw2 fun a b t e hp=>by
   have htr:=hp.rng h.gr.all (by omega);refine mem_butV.2 ⟨htr.1,by omega,fun e2=>?_⟩;subst e2;have hp2:Pa g.2 (v:Int) b u:=by
    rw [e] at hw2;obtain ⟨t',h5,h6⟩:=pa_app.1 hw2
    rwa [hp.det h h5]
   rcases snoc_cases a with rfl | ⟨a',x,rfl⟩
   ·have:(0:Int)=v:=hp
    omega
   ·cases b with
    | nil=>exact hu.2.2 (by have:(v:Int)=u:=hp2;omega)
    | cons y b' =>
     obtain ⟨t1,h5,h6⟩:=pa_app.1 hp;have h6:=(pa_one.1 h6).neg;obtain ⟨t2,h7,h8⟩:=hp2;by_cases hxy:y = -x
     ·subst hxy
      exact hrd a' b' x (by rw [e];simp)
     ·have:=Two.deg (es:=g.2) (v:=v) ⟨y, -x,t2,t1,hxy,h7,h6⟩
      omega
  rw [but_zero h1 (by omega),hid] at this;exact this
theorem trimA_chi {r:Int}:∀ (n:Nat) {g:Int × List Ed},IsFol r g.1 g.2→Rch g.1 g.2→chi (trimA n g)=chi g∧Rch (trimA n g).1 (trimA n g).2
 | 0,g,_,hr=>⟨rfl,hr⟩
 | n+1,g,h,hr=>by
  cases hf:leaf g.1 g.2 with
  | none=>rw [trimA_none hf];exact ⟨rfl,hr⟩
  | some v =>
   rw [trimA_some hf];obtain ⟨h1,h2,h3⟩:=leaf_spec hf;have h4:=cut_chi h hr h1 h2 h3;have h5:=trimA_chi n (cut_fol h h1 h2) h4.2;exact ⟨h5.1.trans h4.1,h5.2⟩
theorem canonG_chi {r:Int} {g:Int × List Ed} (h:IsFol r g.1 g.2) (hr:Rch g.1 g.2):chi (canonG r g)=chi g∧(canonG r g).1=g.1:=by
 obtain ⟨h1,h2⟩:=rch_ord h hr;rw [canonG_val h];refine ⟨?_,h1⟩;unfold chi;simp only;rw [h1,part_len h.gr.asc,List.filter_eq_self.2 fun e he=>by
  have hi:=h.gr.all e he;simp only [InG] at hi
  simpa using ⟨h2 e.a (by omega) (by omega),h2 e.b (by omega) (by omega)⟩]
theorem core_chi {r s:Int} {es:List Ed} (h:IsGr r s es) (hr:Rch s es):chi (coreA r (s,es))≤chi (s,es):=by
 have hf:=foldA_isFol h;have h1:=foldA_chi 40 (g:=(s,es)) h hr;have h2:=trimA_chi 40 hf h1.2;have h3:=trimA_fol 40 hf;unfold coreA;generalize foldA 40 (s,es)=g2 at hf h1 h2 h3 ⊢;generalize trimA 40 g2=g at h2 h3 ⊢;rw [(canonG_chi h3 h2.2).1,h2.1];exact h1.1
section
structure Gd (s:Int) (es:List Ed):Prop where
 rng:∀ e∈es,InG 3 s e
 det:∀ {u x v v':Int},Sp es u x v→Sp es u x v'→v=v'
 nd:es.Nodup
section
variable {s:Int} {es:List Ed}
end
theorem rd_app {a b:List Int} (ha:Rd a) (hb:Rd b) (h:∀ t x y q,a=t++[x]→b=y :: q→x≠-y):Rd (a++b):=by
 rcases snoc_cases a with rfl | ⟨t,x,rfl⟩
 ·exact hb
 ·rw [List.append_assoc,List.singleton_append]
  refine Rd.join ha (Rd.cons hb fun y q e hy=>?_);exact h t x y q rfl e (by omega)
theorem rd_nil {a:List Int} (hl:LtW a) (h:Rd a) (e:Eqv a []):a=[]:=by
 have:=red_self h hl;rw [← this];exact e
abbrev Key:=List Int × Int
def eg (p:List Int) (y:Int):Key:=if 0 < y then (p,y) else (p++[y], -y)
def tr (u:List Int) (a:Key):Key:=(u++a.1,a.2)
end
section
theorem nd_le {α:Type}:∀ {l m:List α},l.Nodup→(∀ x∈l,x∈m)→l.length≤m.length
 | [],m,_,_=>Nat.zero_le _
 | a :: l,m,hl,hs=>by
  classical
  obtain ⟨h1,h2⟩:=List.nodup_cons.1 hl;have ham:=hs a List.mem_cons_self;have h3:=nd_le (l:=l) (m:=m.erase a) h2 fun x hx=>by
   refine (List.mem_erase_of_ne (fun e=>h1 (by rw [← e];exact hx))).2 (hs x (List.mem_cons_of_mem _ hx))
  have h4:=List.length_erase_of_mem ham;have h5:=List.length_pos_of_mem ham;rw [List.length_cons];omega
theorem map_nd {α β:Type} {f:α→β} (hf:∀ a b,f a=f b→a=b) {l:List α} (h:l.Nodup):(l.map f).Nodup:=by
 unfold List.Nodup;rw [List.pairwise_map];exact h.imp fun hne e=>hne (hf _ _ e)
def allF {β:Type} (els:List β):(n:Nat)→List (Fin n→β)
 | 0=>[fun i=>i.elim0]
 | n+1=>(allF els n).flatMap fun f=>els.map fun b=>fun i=>if h:i.val < n then f ⟨i.val,h⟩ else b
theorem mem_allF {β:Type} {els:List β} (hall:∀ b,b∈els):∀ (n:Nat) (f:Fin n→β),f∈allF els n
 | 0,f=>by
  rw [allF,List.mem_singleton]
  funext i
  exact i.elim0
 | n+1,f=>by
  rw [allF,List.mem_flatMap];refine ⟨fun i=>f ⟨i.val,by omega⟩,mem_allF hall n _,List.mem_map.2 ⟨f ⟨n,by omega⟩,hall _,?_⟩⟩
  funext i
  by_cases h:i.val < n
  ·simp only [h,dif_pos]
  ·simp only [h,dif_neg,not_false_eq_true]
   congr 1
   exact Fin.ext (by have:=i.isLt;simp only;omega)
structure Fg (α:Type) where
 mul:α→α→α
 one:α
 inv:α→α
 assoc:∀ a b c,mul (mul a b) c=mul a (mul b c)
 one_mul:∀ a,mul one a=a
 mul_one:∀ a,mul a one=a
 inv_mul:∀ a,mul (inv a) a=one
 mul_inv:∀ a,mul a (inv a)=one
 els:List α
 all:∀ a,a∈els
section
variable {α:Type} (G:Fg α)
theorem Fg.inv_inv (a:α):G.inv (G.inv a)=a:=by
 have h:=G.assoc (G.inv (G.inv a)) (G.inv a) a;rw [G.inv_mul,G.one_mul,G.inv_mul,G.mul_one] at h;exact h.symm
theorem Fg.inv_of {a b:α} (h:G.mul a b=G.one):b=G.inv a:=by
 have h1:=G.assoc (G.inv a) a b;rw [G.inv_mul,G.one_mul,h,G.mul_one] at h1;exact h1
def lv (c:Nat→α) (x:Int):α:=if 0 < x then c (x.toNat - 1) else G.inv (c ((-x).toNat - 1))
def ev (c:Nat→α):List Int→α
 | []=>G.one
 | x :: w=>G.mul (lv G c x) (ev c w)
variable {c:Nat→α}
theorem ev_app:∀ (a b:List Int),ev G c (a++b)=G.mul (ev G c a) (ev G c b)
 | [],b=>(G.one_mul _).symm
 | x :: a,b=>by
  rw [List.cons_append,ev,ev_app a b,ev,G.assoc]
theorem ev_one (x:Int):ev G c [x]=lv G c x:=G.mul_one _
theorem lv_neg {x:Int} (hx:x≠0):lv G c (-x)=G.inv (lv G c x):=by
 unfold lv;by_cases h:0 < x
 ·rw [if_neg (by omega),if_pos h,Int.neg_neg]
 ·rw [if_pos (by omega),if_neg h,G.inv_inv]
theorem ev_step {out:List Int} {x:Int} (ho:LtW out) (hx:Lt3 x):ev G c (redStep out x)=G.mul (ev G c out) (lv G c x):=by
 rcases snoc_cases out with rfl | ⟨o,a,rfl⟩
 ·show ev G c [x]=_
  rw [ev_one];exact (G.one_mul _).symm
 ·have ha:Lt3 a:=ho a (by simp)
  cases hb:invB a x with
  | true =>
   rw [redStep_pop hb];have e:a = -x:=(invB_lt ha hx).1 hb;rw [ev_app,ev_one,e,lv_neg G hx.1,G.assoc,G.inv_mul,G.mul_one]
  | false=>rw [redStep_push hb,ev_app,ev_one]
theorem ev_redO:∀ {w out:List Int},LtW out→LtW w→ev G c (red out w)=G.mul (ev G c out) (ev G c w)
 | [],out,_,_=>(G.mul_one _).symm
 | x :: w,out,ho,hw=>by
  have hs:LtW (redStep out x):=fun y hy=>(redStep_mem hy).elim (ho y) (fun e=>by rw [e];exact hw.head);rw [red_cons,ev_redO hs hw.tail,ev_step G ho hw.head,ev,G.assoc]
theorem ev_red {w:List Int} (hw:LtW w):ev G c (red [] w)=ev G c w:=by
 rw [ev_redO G LtW.nil hw];exact G.one_mul _
theorem ev_eqv {a b:List Int} (ha:LtW a) (hb:LtW b) (h:Eqv a b):ev G c a=ev G c b:=by
 rw [← ev_red G ha,← ev_red G hb];exact congrArg _ h
theorem ev_inv {w:List Int} (hw:LtW w):ev G c (invW w)=G.inv (ev G c w):=by
 have h:=ev_eqv G (c:=c) (hw.app hw.inv) LtW.nil (Eqv.inv_right hw);rw [ev_app] at h;exact G.inv_of h
end
def LtK (k:Nat) (w:List Int):Prop:=∀ x∈w,x≠0∧-(k:Int)≤x∧x≤k
theorem LtK.nil {k:Nat}:LtK k []:=fun x hx=>by cases hx
theorem LtK.app {k:Nat} {a b:List Int} (h:LtK k a) (g:LtK k b):LtK k (a++b):=fun x hx=>(List.mem_append.1 hx).elim (h x) (g x)
theorem LtK.lt {k:Nat} (hk:k≤3) {w:List Int} (h:LtK k w):LtW w:=fun x hx=>by
 have:=h x hx;unfold Lt3;omega
theorem LtK.head {k:Nat} {x:Int} {w:List Int} (h:LtK k (x :: w)):x≠0∧-(k:Int)≤x∧x≤k:=h x List.mem_cons_self
theorem LtK.tail {k:Nat} {x:Int} {w:List Int} (h:LtK k (x :: w)):LtK k w:=fun y hy=>h y (List.mem_cons_of_mem _ hy)
theorem LtK.cons {k:Nat} {x:Int} {w:List Int} (h:x≠0∧-(k:Int)≤x∧x≤k) (g:LtK k w):LtK k (x :: w):=fun y hy=>by
 rcases List.mem_cons.1 hy with rfl | hy
 ·exact h
 ·exact g y hy
theorem LtK.inv {k:Nat} (hk:k≤3) {w:List Int} (h:LtK k w):LtK k (invW w):=fun x hx=>by
 rw [invW_lt (h.lt hk)] at hx;obtain ⟨y,hy,rfl⟩:=List.mem_map.1 (List.mem_reverse.1 hx);have:=h y hy;omega
theorem LtK.red {k:Nat} {w:List Int} (h:LtK k w):LtK k (red [] w):=fun x hx=>by
 rcases red_mem hx with hx | hx
 ·cases hx
 ·exact h x hx
def sbL (d:Nat→List Int) (x:Int):List Int:=if 0 < x then d (x.toNat - 1) else invW (d ((-x).toNat - 1))
def sbW (d:Nat→List Int) (w:List Int):List Int:=w.flatMap (sbL d)
theorem sbW_cons (d:Nat→List Int) (x:Int) (w:List Int):sbW d (x :: w)=sbL d x++sbW d w:=rfl
theorem sbW_app (d:Nat→List Int) (a b:List Int):sbW d (a++b)=sbW d a++sbW d b:=by simp [sbW]
theorem sbW_one (d:Nat→List Int) (x:Int):sbW d [x]=sbL d x:=by simp [sbW]
theorem sbL_lt {k:Nat} {d:Nat→List Int} (hd:∀ i,i < k→LtW (d i)) {x:Int} (hx:x≠0∧-(k:Int)≤x∧x≤k):LtW (sbL d x):=by
 unfold sbL;split
 ·exact hd _ (by omega)
 ·exact (hd _ (by omega)).inv
theorem sbW_lt {k:Nat} {d:Nat→List Int} (hd:∀ i,i < k→LtW (d i)):∀ {w:List Int},LtK k w→LtW (sbW d w)
 | [],_=>LtW.nil
 | x :: w,h=>(sbL_lt hd h.head).app (sbW_lt hd h.tail)
theorem sbL_neg {k:Nat} {d:Nat→List Int} (hd:∀ i,i < k→LtW (d i)) {x:Int} (hx:x≠0∧-(k:Int)≤x∧x≤k):sbL d (-x)=invW (sbL d x):=by
 unfold sbL;by_cases h:0 < x
 ·rw [if_neg (by omega),if_pos h,Int.neg_neg]
 ·rw [if_pos (by omega),if_neg h,invW_invW (hd _ (by omega))]
theorem sbW_inv {k:Nat} (hk:k≤3) {d:Nat→List Int} (hd:∀ i,i < k→LtW (d i)):∀ {w:List Int},LtK k w→sbW d (invW w)=invW (sbW d w)
 | [],_=>rfl
 | x :: w,h=>by
  have hx:Lt3 x:=(h.lt hk).head;have e:invW (x :: w)=invW w++[-x]:=by
   rw [show x :: w=[x]++w from rfl,invW_app];simp [invW,hx.negI]
  rw [e,sbW_app,sbW_one,sbL_neg hd h.head,sbW_inv hk hd h.tail,sbW_cons,invW_app]
theorem sbW_step {k:Nat} (hk:k≤3) {d:Nat→List Int} (hd:∀ i,i < k→LtW (d i)) {out:List Int} {x:Int} (ho:LtK k out) (hx:x≠0∧-(k:Int)≤x∧x≤k):Eqv (sbW d (redStep out x)) (sbW d out++sbL d x):=by
 have hx3:Lt3 x:=by unfold Lt3;omega
 rcases snoc_cases out with rfl | ⟨o,a,rfl⟩
 ·show Eqv (sbW d [x]) _
  rw [sbW_one];exact Eqv.refl _
 ·have ha:Lt3 a:=(ho.lt hk) a (by simp)
  cases hb:invB a x with
  | true =>
   rw [redStep_pop hb];have e:a = -x:=(invB_lt ha hx3).1 hb;have hlo:LtW (sbW d o):=sbW_lt hd fun y hy=>ho y (List.mem_append_left _ hy);have hlx:=sbL_lt hd hx;rw [sbW_app,sbW_one,e,sbL_neg hd hx,List.append_assoc];have:=Eqv.app hlo hlo (hlx.inv.app hlx) LtW.nil (Eqv.refl _) (Eqv.inv_left hlx);rw [List.append_nil] at this;exact this.symm
  | false =>
   rw [redStep_push hb,sbW_app,sbW_one];exact Eqv.refl _
theorem sbW_redO {k:Nat} (hk:k≤3) {d:Nat→List Int} (hd:∀ i,i < k→LtW (d i)):∀ {w out:List Int},LtK k out→LtK k w→Eqv (sbW d (red out w)) (sbW d out++sbW d w)
 | [],out,_,_=>by
  show Eqv (sbW d out) (sbW d out++[])
  rw [List.append_nil];exact Eqv.refl _
 | x :: w,out,ho,hw=>by
  have hs:LtK k (redStep out x):=fun y hy=>(redStep_mem hy).elim (ho y) (fun e=>by rw [e];exact hw.head);have h1:=sbW_redO hk hd hs hw.tail;have lo:=sbW_lt hd ho;have lx:=sbL_lt hd hw.head;have lw:=sbW_lt hd hw.tail;have h2:=Eqv.app (sbW_lt hd hs) (lo.app lx) lw lw (sbW_step hk hd ho hw.head) (Eqv.refl _);rw [red_cons,sbW_cons,← List.append_assoc];exact h1.trans h2
theorem sbW_red {k:Nat} (hk:k≤3) {d:Nat→List Int} (hd:∀ i,i < k→LtW (d i)) {w:List Int} (hw:LtK k w):Eqv (sbW d (red [] w)) (sbW d w):=sbW_redO hk hd LtK.nil hw
theorem ev_sub {α:Type} (G:Fg α) {c:Nat→α} {k:Nat} {d:Nat→List Int} (hd:∀ i,i < k→LtW (d i)):∀ {w:List Int},LtK k w→ev G c (sbW d w)=ev G (fun i=>ev G c (d i)) w
 | [],_=>rfl
 | x :: w,h=>by
  rw [sbW_cons,ev_app,ev_sub G hd h.tail,ev]
  congr 1
  have hx:=h.head;unfold sbL lv;split
  ·rfl
  ·exact ev_inv G (hd _ (by omega))
theorem ev_congr {α:Type} (G:Fg α) {k:Nat} {c c':Nat→α} (h:∀ i,i < k→c i=c' i):∀ {w:List Int},LtK k w→ev G c w=ev G c' w
 | [],_=>rfl
 | x :: w,hw=>by
  have hx:=hw.head;rw [ev,ev,ev_congr G h hw.tail]
  congr 1
  unfold lv;split
  ·rw [h _ (by omega)]
  ·rw [h _ (by omega)]
def extF {α:Type} (G:Fg α) {k:Nat} (c:Fin k→α) (i:Nat):α:=if h:i < k then c ⟨i,h⟩ else G.one
theorem extF_at {α:Type} (G:Fg α) {k:Nat} (c:Fin k→α) {i:Nat} (h:i < k):extF G c i=c ⟨i,h⟩:=dif_pos h
end
section
section
variable {r n:Nat} {es:List Ed}
end
theorem rd_adj {w:List Int} (h:Rd w) {i:Nat} (hi:i+1 < w.length):w.getD (i+1) 0≠-(w.getD i 0):=fun e=>by
 refine h (w.take i) (w.drop (i+2)) (w.getD i 0) ?_;rw [← e];have h1:w.getD i 0=w[i]:=by rw [List.getD_eq_getElem?_getD,List.getElem?_eq_getElem (by omega)];rfl
 have h2:w.getD (i+1) 0=w[i+1]:=by rw [List.getD_eq_getElem?_getD,List.getElem?_eq_getElem hi];rfl
 rw [h1,h2,← List.drop_eq_getElem_cons hi,← List.drop_eq_getElem_cons (by omega:i < w.length),List.take_append_drop]
theorem getD_lt {w:List Int} (hl:LtW w) {j:Nat} (hj:j < w.length):Lt3 (w.getD j 0):=by
 rw [List.getD_eq_getElem?_getD,List.getElem?_eq_getElem hj];exact hl _ (List.getElem_mem hj)
end
section
theorem stepE_neg {u x v:Int} (hx:x≠0):stepE v (-x) u=stepE u x v:=by
 unfold stepE;by_cases h:x < 0
 ·rw [if_neg (by omega),if_pos h]
 ·rw [if_pos (by omega),if_neg h,Int.neg_neg]
open Classical in
noncomputable def rlV (E:List Ed) (u x v:Int):List Int :=
 if stepE u x v∈E then (if 0 < x then [((E.idxOf (stepE u x v):Nat):Int)+1] else [-(((E.idxOf (stepE u x v):Nat):Int)+1)]) else []
theorem rlV_no {E:List Ed} {u x v:Int} (h:stepE u x v ∉ E):rlV E u x v=[]:=if_neg h
theorem rlV_ltK {E:List Ed} {u x v:Int}:LtK E.length (rlV E u x v):=by
 classical
 unfold rlV;split
 ·rename_i h
  have:=List.idxOf_lt_length_iff.2 h;split
  ·exact LtK.cons (by omega) LtK.nil
  ·exact LtK.cons (by omega) LtK.nil
 ·exact LtK.nil
theorem rlV_neg {E:List Ed} (hE:E.length≤3) {u x v:Int} (hx:x≠0):rlV E v (-x) u=invW (rlV E u x v):=by
 classical
 unfold rlV;rw [stepE_neg hx];by_cases h:stepE u x v∈E
 ·rw [if_pos h,if_pos h]
  have h1:=List.idxOf_lt_length_iff.2 h;by_cases h2:0 < x
  ·rw [if_neg (by omega),if_pos h2]
   have:Lt3 (((E.idxOf (stepE u x v):Nat):Int)+1):=by unfold Lt3;omega
   simp [invW,this.negI]
  ·rw [if_pos (by omega),if_neg h2]
   have:Lt3 (-(((E.idxOf (stepE u x v):Nat):Int)+1)):=by unfold Lt3;omega
   simp only [invW,List.map_cons,List.map_nil,List.reverse_cons,List.reverse_nil,List.nil_append,this.negI,Int.neg_neg]
 ·rw [if_neg h,if_neg h]
  rfl
noncomputable def rwW (E es:List Ed):Int→List Int→List Int
 | _,[]=>[]
 | u,x :: w=>rlV E u x (nextV es u x)++rwW E es (nextV es u x) w
theorem rwW_ltK {E es:List Ed}:∀ {w:List Int} {u:Int},LtK E.length (rwW E es u w)
 | [],_=>LtK.nil
 | x :: w,u=>rlV_ltK.app rwW_ltK
section
variable {r s:Int} {es E:List Ed}
end
section
variable {r n:Nat} {es:List Ed}
theorem extraE_nd (h:IsGr r n es):(extraE r es).Nodup:=by
 unfold extraE;exact (h.asc.imp fun k=>k.ne).filter _
theorem rlV_at (h:IsGr r n es) {j:Nat} {u x v:Int} (hx:0 < x) (he:(extraE r es)[j]?=some ⟨u,x,v⟩):rlV (extraE r es) u x v=[(j:Int)+1]:=by
 classical
 obtain ⟨hj,he2⟩:=List.getElem?_eq_some_iff.1 he;have e:stepE u x v=⟨u,x,v⟩:=by unfold stepE;rw [if_neg (by omega)]
 unfold rlV;rw [e,if_pos (List.mem_of_getElem? he),if_pos hx];have hi:(extraE r es).idxOf (⟨u,x,v⟩:Ed)=j:=by
  rw [← he2];exact (extraE_nd h).idxOf_getElem j hj
 have hi2:@List.idxOf Ed instBEqOfDecidableEq (⟨u,x,v⟩:Ed) (extraE r es)=j:=by
  rw [← he2];exact (extraE_nd h).idxOf_getElem j hj
 first
  | rw [hi]
  | rw [hi2]
theorem extra_count (h:IsCor r n es):(extraE r es).length+n=es.length+1:=by
 classical
 have hs:=h.gr.size;have hnd:es.Nodup:=h.gr.asc.imp fun k=>k.ne;have hsplit:=filt_split (fun e=>decide (e ∉ treeE es (bfs es (lets r) 0))) es;have hE:(extraE r es).length=(es.filter fun e=>decide (e ∉ treeE es (bfs es (lets r) 0))).length:=by
  unfold extraE
  congr 1
 have hT:∀ e,e∈(es.filter fun e=>!decide (e ∉ treeE es (bfs es (lets r) 0)))↔e∈es∧e∈treeE es (bfs es (lets r) 0):=fun e=>by
  rw [List.mem_filter];simp
 have htl:(treeE es (bfs es (lets r) 0)).length+1=n:=by
  have h1:=(core_ord h).1;have h2:(ordE r es 0).length=(bfs es (lets r) 0).length:=by
   rw [ordE_def,List.length_map]
   rfl
  have h3:(treeE es (bfs es (lets r) 0)).length=(bfs es (lets r) 0).length - 1:=by unfold treeE;rw [List.length_map,List.length_tail]
  omega
 have hle:(es.filter fun e=>!decide (e ∉ treeE es (bfs es (lets r) 0))).length≤(treeE es (bfs es (lets r) 0)).length :=
  nd_le (hnd.filter _) fun e he=>((hT e).1 he).2
 have hex:∀ v:Nat,∃ e:Ed,(1≤v∧v < n)→∃ (p:Nat) (x:Int),p < n∧wordV r es v=wordV r es p++[x]∧Sp es p x v∧e=stepE p x v∧e∈treeE es (bfs es (lets r) 0):=fun v=>by
  by_cases hv:1≤v∧v < n
  ·obtain ⟨p,x,hp,e,hsp,ht⟩:=wordV_last h hv.2 (by omega)
   exact ⟨_,fun _=>⟨p,x,hp,e,hsp,rfl,ht⟩⟩
  ·exact ⟨⟨0,0,0⟩,fun hh=>absurd hh hv⟩
 have hge:n - 1≤(es.filter fun e=>!decide (e ∉ treeE es (bfs es (lets r) 0))).length:=by
  have hnd2:((List.range (n - 1)).map fun v=>(hex (v+1)).choose).Nodup:=by
   unfold List.Nodup;rw [List.pairwise_map];refine List.Pairwise.imp_of_mem ?_ (List.nodup_range (n:=n - 1));intro a b ha hb hne e;have ha:=List.mem_range.1 ha;have hb:=List.mem_range.1 hb;obtain ⟨p,x,hp,w1,s1,e1, -⟩:=(hex (a+1)).choose_spec ⟨by omega,by omega⟩;obtain ⟨q,y,hq,w2,s2,e2, -⟩:=(hex (b+1)).choose_spec ⟨by omega,by omega⟩;rw [e,e2] at e1;have x0:=(s1.rng h.gr.all).2.2.1;have y0:=(s2.rng h.gr.all).2.2.1;rcases stepE_inj y0 x0 e1 with ⟨h1,h2,h3⟩ | ⟨h1,h2,h3⟩
   ·omega
   ·have w3:=congrArg List.length w1
    have w4:=congrArg List.length w2;rw [← h1,List.length_append] at w3;rw [h3,List.length_append] at w4;simp only [List.length_singleton] at w3 w4;omega
  have:=nd_le hnd2 (m:=es.filter fun e=>!decide (e ∉ treeE es (bfs es (lets r) 0))) fun e he=>by
   obtain ⟨v,hv,rfl⟩:=List.mem_map.1 he;have hv:=List.mem_range.1 hv;obtain ⟨p,x,hp,w1,s1,e1,ht⟩:=(hex (v+1)).choose_spec ⟨by omega,by omega⟩;refine (hT _).2 ⟨?_,ht⟩;rw [e1];exact (sp_stepE.1 s1).2
  rwa [List.length_map,List.length_range] at this
 omega
end
end
section
theorem path_readG {u S v:Int} {w:List Int} (hw:∀ x∈w,x≠0):∀ k,k≤w.length→Pa (pathE u S w v w.length) u (w.take k) (pathV u S w.length v k):=by
 intro k
 induction k with
 | zero =>
  intro _
  show u=_
  simp [pathV]
 | succ k ih =>
  intro hk;obtain ⟨x,hx⟩:∃ x,w[k]?=some x:=⟨_,List.getElem?_eq_getElem (by omega)⟩
  rw [take_snocL hx];refine (ih (by omega)).snoc (sp_stepE.2 ⟨hw x (List.mem_of_getElem? hx),?_⟩);unfold pathE;refine List.mem_map.2 ⟨k,List.mem_range.2 hk,?_⟩;rw [List.getD_eq_getElem?_getD,hx]
  rfl
theorem petal_loop {s:Int} {es:List Ed} {w:List Int} (hw:∀ x∈w,x≠0) (hne:w≠[]):Pa (canon (es++pathE 0 s w 0 w.length)) 0 w 0:=by
 have h:=path_readG (u:=0) (S:=s) (v:=0) hw w.length (Nat.le_refl _);have hl:=List.length_pos_iff.2 hne;have e:pathV 0 s w.length 0 w.length=0:=by
  unfold pathV;rw [if_neg (by omega),if_neg (by omega)]
 rw [List.take_length,e] at h;exact pa_canon.2 (h.mono fun e he=>List.mem_append_right _ he)
theorem petal_rch {r s:Int} {es:List Ed} (hr:Rch s es) {w:List Int} (hw:∀ x∈w,x≠0):Rch (s+(w.length:Int) - 1) (canon (es++pathE 0 s w 0 w.length)):=fun v h0 h1=>by
 rcases Int.lt_or_le v s with hlt | hge
 ·obtain ⟨q,hq⟩:=hr v h0 hlt
  exact ⟨q,pa_canon.2 (hq.mono fun e he=>List.mem_append_left _ he)⟩
 ·have h4:=path_readG (u:=0) (S:=s) (v:=0) hw (v - s+1).toNat (by omega)
  have e:pathV 0 s w.length 0 (v - s+1).toNat=v:=by
   unfold pathV;rw [if_neg (by omega),if_pos (by omega)];omega
  rw [e] at h4;exact ⟨_,pa_canon.2 (h4.mono fun e he=>List.mem_append_right _ he)⟩
section
variable {r s s':Int} {ea eb:List Ed}
end
theorem core_uniqI {r s s':Int} {es es':List Ed} (h:IsCor r s es) (h':IsCor r s' es') (hl:∀ w,LtW w→(InS es w↔InS es' w)):s=s'∧es=es':=by
 have hr:=h.gr.rank;have hs0:=h.gr.size;have hs:=h'.gr.size;obtain ⟨a,rfl⟩:=Int.eq_ofNat_of_zero_le (show 0≤r by omega);obtain ⟨n,rfl⟩:=Int.eq_ofNat_of_zero_le (show 0≤s by omega);obtain ⟨n',rfl⟩:=Int.eq_ofNat_of_zero_le (show 0≤s' by omega);obtain ⟨h1,h2⟩:=core_uniq h h' hl;exact ⟨by rw [h1],h2⟩
end
def atW (l:List (List Int)) (i:Nat):List Int:=l.getD i []
theorem atW_mem {l:List (List Int)} {i:Nat} (h:i < l.length):atW l i∈l:=by
 unfold atW;rw [List.getD_eq_getElem?_getD,List.getElem?_eq_getElem h];exact List.getElem_mem h
theorem atW_app {l:List (List Int)} {w:List Int} {i:Nat} (h:i < l.length):atW (l++[w]) i=atW l i:=by
 unfold atW;rw [List.getD_eq_getElem?_getD,List.getD_eq_getElem?_getD,List.getElem?_append_left h]
theorem atW_last {l:List (List Int)} {w:List Int}:atW (l++[w]) l.length=w:=by
 unfold atW;rw [List.getD_eq_getElem?_getD,List.getElem?_append_right (Nat.le_refl _),Nat.sub_self]
 rfl
theorem sbW_congr {k:Nat} {d d':Nat→List Int} (h:∀ i,i < k→d i=d' i):∀ {z:List Int},LtK k z→sbW d z=sbW d' z
 | [],_=>rfl
 | x :: z,hz=>by
  have hx:=hz.head;rw [sbW_cons,sbW_cons,sbW_congr h hz.tail]
  congr 1
  unfold sbL;split
  ·exact h _ (by omega)
  ·rw [h _ (by omega)]
theorem LtK.mono {k m:Nat} (hk:k≤m) {w:List Int} (h:LtK k w):LtK m w:=fun x hx=>by
 have:=h x hx;omega
def GenP (es:List Ed) (l:List (List Int)) (p:Int→List Int):Prop :=
 p 0=[]∧(∀ v,LtW (p v))∧∀ e∈es,∃ z,LtK l.length z∧Eqv (p e.a++[e.l]++invW (p e.b)) (sbW (atW l) z)
theorem inv_three {a b:List Int} {x:Int} (ha:LtW a) (hb:LtW b) (hx:Lt3 x):invW (a++[x]++invW b)=b++[-x]++invW a:=by
 rw [invW_app,invW_app,invW_invW hb,List.append_assoc];simp [invW,hx.negI]
theorem GenP.sp {s:Int} {es:List Ed} {l:List (List Int)} {p:Int→List Int} (h:GenP es l p) (hg:∀ e∈es,InG 3 s e) (hk:l.length≤3) (hl:∀ w∈l,LtW w) {u x v:Int} (hs:Sp es u x v) :
  ∃ z,LtK l.length z∧Eqv (p u++[x]++invW (p v)) (sbW (atW l) z):=by
 have hd:∀ i,i < l.length→LtW (atW l i):=fun i hi=>hl _ (atW_mem hi);rcases hs with ⟨h1,h2⟩ | ⟨h1,h2⟩
 ·exact h.2.2 _ h2
 ·obtain ⟨z,h3,h4⟩:=h.2.2 _ h2
  have hi:=hg _ h2;unfold InG at hi;simp only at hi;have hx:Lt3 (-x):=by unfold Lt3;omega
  refine ⟨invW z,h3.inv hk,?_⟩;simp only at h4;have h5:=Eqv.inv (((h.2.1 v).app (LtW.one hx)).app (h.2.1 u).inv) (sbW_lt hd h3) h4;rw [inv_three (h.2.1 v) (h.2.1 u) hx,Int.neg_neg,← sbW_inv hk hd h3] at h5;exact h5
theorem GenP.pa {s:Int} {es:List Ed} {l:List (List Int)} {p:Int→List Int} (h:GenP es l p) (hg:∀ e∈es,InG 3 s e) (hk:l.length≤3) (hl:∀ w∈l,LtW w):∀ {w:List Int} {u v:Int},Pa es u w v →
  LtW w∧∃ z,LtK l.length z∧Eqv (p u++w++invW (p v)) (sbW (atW l) z)
 | [],u,v,e=>by
  cases e
  refine ⟨LtW.nil,[],LtK.nil,?_⟩;rw [List.append_nil];exact Eqv.inv_right (h.2.1 u)
 | x :: w,u,v,⟨t,h1,h2⟩=>by
  have hd:∀ i,i < l.length→LtW (atW l i):=fun i hi=>hl _ (atW_mem hi);have hx:Lt3 x:=by
   have:=h1.rng hg;unfold Lt3;omega
  obtain ⟨lw,z2,k2,e2⟩:=h.pa hg hk hl h2;obtain ⟨z1,k1,e1⟩:=h.sp hg hk hl h1;have lu:=h.2.1 u;have lt:=h.2.1 t;have lvv:=h.2.1 v;refine ⟨LtW.cons hx lw,z1++z2,k1.app k2,?_⟩;rw [sbW_app];have l1:LtW (p u++[x]++invW (p t)):=(lu.app (LtW.one hx)).app lt.inv;have l2:LtW (p t++w++invW (p v)):=(lt.app lw).app lvv.inv;have h3:=Eqv.app l1 (sbW_lt hd k1) l2 (sbW_lt hd k2) e1 e2;refine Eqv.trans ?_ h3;have c1:Eqv (invW (p t)++p t) []:=Eqv.inv_left lt;have lb:LtW (w++invW (p v)):=lw.app lvv.inv;have h4:=Eqv.app (lt.inv.app lt) LtW.nil lb lb c1 (Eqv.refl _);have h5:=Eqv.app (lu.app (LtW.one hx)) (lu.app (LtW.one hx)) ((lt.inv.app lt).app lb) (LtW.nil.app lb) (Eqv.refl _) h4;have e3:p u++[x]++invW (p t)++(p t++w++invW (p v))=(p u++[x])++((invW (p t)++p t)++(w++invW (p v))):=by simp only [List.append_assoc]
  have e4:p u++x :: w++invW (p v)=(p u++[x])++([]++(w++invW (p v))):=by simp
  rw [e3,e4];exact h5.symm
theorem GenP.nil:GenP [] [] fun _=>[]:=⟨rfl,fun _=>LtW.nil,fun e he=>by cases he⟩
theorem path_in {s:Int} (hs:1≤s) {w:List Int} (hw:LtW w) {e:Ed} (he:e∈pathE 0 s w 0 w.length):InG 3 (s+(w.length:Int) - 1) e:=by
 unfold pathE at he;obtain ⟨i,hi,rfl⟩:=List.mem_map.1 he;have hi:=List.mem_range.1 hi;have hx:=getD_lt hw hi;have hv:∀ j,j≤w.length→0≤pathV 0 s w.length 0 j∧pathV 0 s w.length 0 j < s+(w.length:Int) - 1:=fun j hj=>by
  unfold pathV;split
  ·omega
  ·split <;> omega
 have h1:=hv i (by omega);have h2:=hv (i+1) (by omega);unfold Lt3 at hx;unfold stepE InG;split <;> simp only <;> omega
theorem GenP.add {s:Int} (hs:1≤s) {es:List Ed} {l:List (List Int)} {p:Int→List Int} (h:GenP es l p) (hg:∀ e∈es,InG 3 s e) {w:List Int} (hw:LtW w) (hk:(l++[w]).length≤3) (hl:∀ x∈l++[w],LtW x) :
  ∃ p',GenP (canon (es++pathE 0 s w 0 w.length)) (l++[w]) p':=by
 have hd:∀ i,i < (l++[w]).length→LtW (atW (l++[w]) i):=fun i hi=>hl _ (atW_mem hi)
 let q:Int→List Int:=fun v=>if s≤v then w.take (v - s+1).toNat else p v
 have ql:∀ v,LtW (q v):=fun v=>by
  show LtW (if s≤v then w.take (v - s+1).toNat else p v)
  split
  ·exact fun x hx=>hw x (List.mem_of_mem_take hx)
  ·exact h.2.1 v
 have q0:q 0=[]:=by
  show (if s≤0 then w.take (0 - s+1).toNat else p 0)=[]
  rw [if_neg (by omega),h.1]
 refine ⟨q,q0,ql,fun e he=>?_⟩;rcases List.mem_append.1 (mem_canon.1 he) with he | he
 ·have hi:=hg e he
  unfold InG at hi;obtain ⟨z,k1,k2⟩:=h.2.2 e he;refine ⟨z,k1.mono (by simp),?_⟩;have ea:q e.a=p e.a:=if_neg (by omega);have eb:q e.b=p e.b:=if_neg (by omega);rw [ea,eb,sbW_congr (d:=atW (l++[w])) (d':=atW l) (fun i hi=>atW_app hi) k1];exact k2
 ·unfold pathE at he
  obtain ⟨i,hi,rfl⟩:=List.mem_map.1 he;have hi:=List.mem_range.1 hi;have hx:=getD_lt hw hi;have hq:∀ j,j < w.length→q (pathV 0 s w.length 0 j)=w.take j:=fun j hj=>by
   unfold pathV;split
   ·rename_i h0
    rw [q0,h0,List.take_zero]
   ·show (if s≤_ then w.take (_ - s+1).toNat else p _)=_
    rw [if_pos (by omega)]
    congr 1
    omega
  have hqe:q (pathV 0 s w.length 0 w.length)=[]:=by
   unfold pathV;split
   ·exact q0
   ·rw [if_neg (by omega)]
    exact q0
  have ht:w.take (i+1)=w.take i++[w.getD i 0]:=by
   rw [List.take_succ_eq_append_getElem hi,List.getD_eq_getElem?_getD,List.getElem?_eq_getElem hi]
   rfl
  have lt:LtW (w.take i):=fun x hx=>hw x (List.mem_of_mem_take hx)
  -- the step forward
  have fwd:∃ z,LtK (l++[w]).length z∧Eqv (q (pathV 0 s w.length 0 i)++[w.getD i 0]++invW (q (pathV 0 s w.length 0 (i+1)))) (sbW (atW (l++[w])) z):=by
   rw [hq i hi];by_cases hlast:i+1=w.length
   ·refine ⟨[(l.length:Int)+1],LtK.cons (by simp;omega) LtK.nil,?_⟩
    rw [hlast,hqe,← ht,hlast,List.take_length,sbW_one];unfold sbL;rw [if_pos (by omega),show ((l.length:Int)+1).toNat - 1=l.length by omega,atW_last]
    show Eqv (w++[]) w
    rw [List.append_nil];exact Eqv.refl _
   ·refine ⟨[],LtK.nil,?_⟩
    rw [hq (i+1) (by omega),ht];exact Eqv.inv_right (lt.app (LtW.one hx))
  obtain ⟨z,k1,k2⟩:=fwd;by_cases hneg:w.getD i 0 < 0
  ·refine ⟨invW z,k1.inv hk,?_⟩
   unfold stepE;rw [if_pos hneg];simp only;have h5:=Eqv.inv (((ql _).app (LtW.one hx)).app (ql _).inv) (sbW_lt hd k1) k2;rw [inv_three (ql _) (ql _) hx,← sbW_inv hk hd k1] at h5;exact h5
  ·refine ⟨z,k1,?_⟩
   unfold stepE;rw [if_neg hneg];exact k2
theorem flow_gen:∀ (n:Nat) (l:List (List Int)),l.length=n→n≤3→(∀ w∈l,LtW w)→(∃ p,GenP (flowA l (1,[])).2 l p)∧(∀ e∈(flowA l (1,[])).2,InG 3 (flowA l (1,[])).1 e)∧1≤(flowA l (1,[])).1∧∀ w∈l,Pa (flowA l (1,[])).2 0 w 0
 | 0,l,hn,_,_=>by
  obtain rfl:=List.length_eq_zero_iff.1 hn;refine ⟨⟨_,GenP.nil⟩,?_,Int.le_refl _,?_⟩
  ·intro e he
   cases he
  ·intro w hw
   cases hw
 | n+1,l,hn,h3,hl=>by
  rcases snoc_cases l with rfl | ⟨m,w,rfl⟩
  ·simp at hn
  ·have hm:m.length=n:=by simp at hn;omega
   obtain ⟨⟨p,hp⟩,hg,hs,hpa⟩:=flow_gen n m hm (by omega) fun x hx=>hl x (List.mem_append_left _ hx);have hw:LtW w:=hl w (by simp);have e:flowA (m++[w]) (1,[])=petalA (flowA m (1,[])) w:=by
    unfold flowA;rw [List.foldl_append]
    rfl
   rw [e];generalize flowA m (1,[])=g at hp hg hs hpa;unfold petalA;by_cases h0:w=[]
   ·rw [if_pos h0]
    refine ⟨⟨p,hp.1,hp.2.1,fun e he=>?_⟩,hg,hs,fun x hx=>?_⟩
    ·obtain ⟨z,k1,k2⟩:=hp.2.2 e he
     refine ⟨z,k1.mono (by simp),?_⟩;rw [sbW_congr (d:=atW (m++[w])) (d':=atW m) (fun i hi=>atW_app hi) k1];exact k2
    ·rcases List.mem_append.1 hx with hx | hx
     ·exact hpa x hx
     ·rw [List.mem_singleton.1 hx,h0]
      rfl
   ·rw [if_neg h0]
    have hlen:=List.length_pos_iff.2 h0;refine ⟨hp.add hs hg hw (by omega) hl,fun e he=>?_,by simp only;omega,fun x hx=>?_⟩
    ·rcases List.mem_append.1 (mem_canon.1 he) with he | he
     ·have:=hg e he
      unfold InG at this ⊢;simp only;omega
     ·exact path_in hs hw he
    ·rcases List.mem_append.1 hx with hx | hx
     ·exact (hpa x hx).mono fun e he=>mem_canon.2 (List.mem_append_left _ he)
     ·rw [List.mem_singleton.1 hx]
      exact petal_loop (fun y hy=>(hw y hy).1) h0
theorem flow_words {l:List (List Int)} (h3:l.length≤3) (hl:∀ w∈l,LtW w) {w:List Int} (hw:LtW w) (h:GenL (flowA l (1,[])).2 w):∃ z,LtK l.length z∧Eqv (sbW (atW l) z) w:=by
 obtain ⟨⟨p,hp⟩,hg, -, -⟩:=flow_gen l.length l rfl h3 hl;obtain ⟨w2,l2,e,hpa⟩:=h;obtain ⟨-,z,k1,k2⟩:=hp.pa hg h3 hl hpa;rw [hp.1] at k2;have e2:[]++w2++invW []=w2:=by show w2++[]=w2;exact List.append_nil _
 rw [e2] at k2;exact ⟨z,k1,(e.trans k2).symm⟩
def lnum (x:Int):Nat:=2 * (x.natAbs - 1)+(if x < 0 then 1 else 0)
theorem lnum_lt {x:Int} (h:Lt3 x):lnum x < 6:=by
 unfold Lt3 at h;unfold lnum;split <;> omega
theorem cmpL_num {x y:Int} (hx:Lt3 x) (hy:Lt3 y):(cmpL x y < 0↔lnum x < lnum y)∧(cmpL x y=0↔lnum x=lnum y):=by
 unfold Lt3 at hx hy;have hmx:¬ x=minI:=by unfold minI;omega
 have hmy:¬ y=minI:=by unfold minI;omega
 unfold cmpL absI lnum;rw [if_neg hmx,if_neg hmy];constructor
 ·constructor
  ·intro h
   repeat' split at h
   all_goals (repeat' split) <;> omega
  ·intro h
   repeat' split at h
   all_goals (repeat' split) <;> omega
 ·constructor
  ·intro h
   repeat' split at h
   all_goals (repeat' split) <;> omega
  ·intro h
   repeat' split at h
   all_goals (repeat' split) <;> omega
def nmW:List Int→Nat
 | []=>0
 | x :: w=>lnum x * 6 ^ w.length+nmW w
theorem nmW_lt:∀ {w:List Int},LtW w→nmW w < 6 ^ w.length
 | [],_=>by decide
 | x :: w,h=>by
  have h1:=nmW_lt h.tail;have h2:=lnum_lt h.head;have h3:lnum x * 6 ^ w.length+6 ^ w.length≤6 * 6 ^ w.length:=by
   have:(lnum x+1) * 6 ^ w.length≤6 * 6 ^ w.length:=Nat.mul_le_mul_right _ (by omega)
   rwa [Nat.succ_mul] at this
  rw [nmW,List.length_cons,Nat.pow_succ,Nat.mul_comm (6 ^ w.length) 6];omega
theorem lex_lt {a b c d P:Nat} (hc:c < P) (hd:d < P):a * P+c < b * P+d↔a < b ∨ (a=b∧c < d):=by
 constructor
 ·intro h
  rcases Nat.lt_trichotomy a b with h1 | h1 | h1
  ·exact .inl h1
  ·subst h1
   exact .inr ⟨rfl,by omega⟩
  ·have:(b+1) * P≤a * P:=Nat.mul_le_mul_right _ h1
   rw [Nat.succ_mul] at this;omega
 ·rintro (h | ⟨rfl,h⟩)
  ·have:(a+1) * P≤b * P:=Nat.mul_le_mul_right _ h
   rw [Nat.succ_mul] at this;omega
  ·omega
theorem nmW_cons_lt {x y:Int} {a b:List Int} (hl:a.length=b.length) (ha:LtW a) (hb:LtW b):nmW (x :: a) < nmW (y :: b)↔lnum x < lnum y ∨ (lnum x=lnum y∧nmW a < nmW b):=by
 rw [nmW,nmW,← hl];exact lex_lt (nmW_lt ha) (by rw [hl];exact nmW_lt hb)
theorem lnum_inj {x y:Int} (hx:Lt3 x) (hy:Lt3 y) (h:lnum x=lnum y):x=y:=by
 unfold Lt3 at hx hy;unfold lnum at h;repeat' split at h
 all_goals omega
theorem nmW_inj:∀ {a b:List Int},a.length=b.length→LtW a→LtW b→nmW a=nmW b→a=b
 | [],[],_,_,_,_=>rfl
 | [],y :: b,h,_,_,_=>by simp at h
 | x :: a,[],h,_,_,_=>by simp at h
 | x :: a,y :: b,h,ha,hb,e=>by
  have hl:a.length=b.length:=by simpa using h
  have h1:¬ nmW (x :: a) < nmW (y :: b):=by omega
  have h2:¬ nmW (y :: b) < nmW (x :: a):=by omega
  rw [nmW_cons_lt hl ha.tail hb.tail] at h1;rw [nmW_cons_lt hl.symm hb.tail ha.tail] at h2;have e1:lnum x=lnum y:=by omega
  have e2:nmW a=nmW b:=by
   have h3:¬ nmW a < nmW b:=fun h=>h1 (.inr ⟨e1,h⟩);have h4:¬ nmW b < nmW a:=fun h=>h2 (.inr ⟨e1.symm,h⟩);omega
  rw [lnum_inj ha.head hb.head e1,nmW_inj hl ha.tail hb.tail e2]
theorem cmpLs_num:∀ {a b:List Int},a.length=b.length→LtW a→LtW b→(cmpLs a b < 0↔nmW a < nmW b)∧(cmpLs a b=0↔nmW a=nmW b)
 | [],[],_,_,_=>by simp [cmpLs,nmW]
 | [],y :: b,h,_,_=>by simp at h
 | x :: a,[],h,_,_=>by simp at h
 | x :: a,y :: b,h,ha,hb=>by
  have hl:a.length=b.length:=by simpa using h
  obtain ⟨i1,i2⟩:=cmpLs_num hl ha.tail hb.tail;obtain ⟨c1,c2⟩:=cmpL_num ha.head hb.head;have n1:=nmW_cons_lt (x:=x) (y:=y) hl ha.tail hb.tail;have n2:=nmW_cons_lt (x:=y) (y:=x) hl.symm hb.tail ha.tail;rw [cmpLs];by_cases h0:cmpL x y=0
  ·rw [if_pos h0,n1,i1,i2]
   have e:=c2.1 h0;refine ⟨⟨fun h=>.inr ⟨e,h⟩,fun h=>by rcases h with h | h <;> omega⟩,⟨fun h=>?_,fun h=>?_⟩⟩
   ·rw [nmW,nmW,e,hl,h]
   ·have h1:¬ nmW (x :: a) < nmW (y :: b):=by omega
    have h2:¬ nmW (y :: b) < nmW (x :: a):=by omega
    rw [n1] at h1;rw [n2] at h2;omega
  ·rw [if_neg h0,n1,c1]
   have e:¬ lnum x=lnum y:=fun e=>h0 (c2.2 e);refine ⟨⟨fun h=>.inl h,fun h=>by rcases h with h | h <;> omega⟩,⟨fun h=>absurd h h0,fun h=>?_⟩⟩;exfalso
   have h1:¬ nmW (x :: a) < nmW (y :: b):=by omega
   have h2:¬ nmW (y :: b) < nmW (x :: a):=by omega
   rw [n1] at h1;rw [n2] at h2;omega
theorem cmpW_num {a b:List Int} (h:a.length=b.length) (ha:LtW a) (hb:LtW b):(cmpW a b < 0↔nmW a < nmW b)∧(cmpW a b=0↔nmW a=nmW b)∧(0 < cmpW a b↔nmW b < nmW a):=by
 have e:cmpW a b=cmpLs a b:=by unfold cmpW;rw [if_neg (by omega),if_neg (by omega)]
 obtain ⟨h1,h2⟩:=cmpLs_num h ha hb;have h3:=cmpLs_vals a b;rw [e];refine ⟨h1,h2,?_⟩;omega
theorem halfA_lt {w:List Int} (h:LtW w):LtW (halfA w):=fun x hx=>h x (List.mem_of_mem_take hx)
theorem halfB_lt {w:List Int} (h:LtW w):LtW (halfB w):=fun x hx=>h.inv x (List.mem_of_mem_take hx)
def key (w:List Int):Nat:=min (nmW (halfA w)) (nmW (halfB w)) * 6 ^ halfN w+max (nmW (halfA w)) (nmW (halfB w))
theorem half_nums {w:List Int} (h:LtW w):nmW (halfA w) < 6 ^ halfN w∧nmW (halfB w) < 6 ^ halfN w:=by
 have h1:=nmW_lt (halfA_lt h);have h2:=nmW_lt (halfB_lt h);rw [halfA_len] at h1;rw [halfB_len] at h2;exact ⟨h1,h2⟩
theorem halves_num {w:List Int} (h:LtW w):nmW (halves w).1=min (nmW (halfA w)) (nmW (halfB w))∧nmW (halves w).2=max (nmW (halfA w)) (nmW (halfB w))∧LtW (halves w).1∧LtW (halves w).2:=by
 have hc:=(cmpW_num (a:=halfA w) (b:=halfB w) (by rw [halfA_len,halfB_len]) (halfA_lt h) (halfB_lt h)).2.2;unfold halves;by_cases h0:0 < cmpW (halfA w) (halfB w)
 ·have:=hc.1 h0
  rw [if_pos h0];refine ⟨by simp only;omega,by simp only;omega,halfB_lt h,halfA_lt h⟩
 ·have:¬ nmW (halfB w) < nmW (halfA w):=fun k=>h0 (hc.2 k)
  rw [if_neg h0];refine ⟨by simp only;omega,by simp only;omega,halfA_lt h,halfB_lt h⟩
theorem cmpN_key {a b:List Int} (ha:LtW a) (hb:LtW b):cmpN a b < 0↔a.length < b.length ∨ (a.length=b.length∧key a < key b):=by
 unfold cmpN;by_cases h1:a.length < b.length
 ·rw [if_pos h1]
  exact ⟨fun _=>.inl h1,fun _=>by decide⟩
 ·rw [if_neg h1]
  by_cases h2:b.length < a.length
  ·rw [if_pos h2]
   exact ⟨fun h=>by omega,fun h=>by omega⟩
  ·rw [if_neg h2]
   have hl:a.length=b.length:=by omega
   have hh:halfN a=halfN b:=by unfold halfN;rw [hl]
   obtain ⟨a1,a2,a3,a4⟩:=halves_num ha;obtain ⟨b1,b2,b3,b4⟩:=halves_num hb;have l1:=halves_len a;have l2:=halves_len b;have c1:=cmpW_num (a:=(halves a).1) (b:=(halves b).1) (by rw [l1.1,l2.1,hh]) a3 b3;have c2:=cmpW_num (a:=(halves a).2) (b:=(halves b).2) (by rw [l1.2,l2.2,hh]) a4 b4;have na:=half_nums ha;have nb:=half_nums hb;unfold key;rw [← hh] at nb ⊢;rw [lex_lt (by omega) (by omega)];rw [a1,b1] at c1;rw [a2,b2] at c2;by_cases h0:cmpW (halves a).1 (halves b).1=0
   ·rw [if_pos h0,c2.1]
    have:=c1.2.1.1 h0;omega
   ·rw [if_neg h0,c1.1]
    have h3:¬ min (nmW (halfA a)) (nmW (halfB a))=min (nmW (halfA b)) (nmW (halfB b)):=fun k=>h0 (c1.2.1.2 k);omega
theorem halfN_inv (w:List Int):halfN (invW w)=halfN w:=by unfold halfN;rw [invW_len]
theorem halfA_inv (w:List Int):halfA (invW w)=halfB w:=by unfold halfA halfB;rw [halfN_inv]
theorem halfB_inv {w:List Int} (h:LtW w):halfB (invW w)=halfA w:=by unfold halfA halfB;rw [halfN_inv,invW_invW h]
theorem key_inv {w:List Int} (h:LtW w):key (invW w)=key w:=by
 unfold key;rw [halfN_inv,halfA_inv,halfB_inv h,Nat.min_comm,Nat.max_comm]
theorem nmW_app_lt:∀ {q p t:List Int},q.length=p.length→LtW q→LtW p→LtW t→(nmW (q++t) < nmW (p++t)↔nmW q < nmW p)
 | [],[],t,_,_,_,_=>by simp [nmW]
 | [],y :: p,t,h,_,_,_=>by simp at h
 | x :: q,[],t,h,_,_,_=>by simp at h
 | x :: q,y :: p,t,h,hq,hp,ht=>by
  have hl:q.length=p.length:=by simpa using h
  rw [List.cons_append,List.cons_append,nmW_cons_lt (by simp [hl]) (hq.tail.app ht) (hp.tail.app ht),nmW_cons_lt hl hq.tail hp.tail,nmW_app_lt hl hq.tail hp.tail ht]
theorem end_less {u p q:List Int} (hu:LtW u) (hp:LtW p) (hq:LtW q) (hl:q.length=p.length) (hle:p.length≤u.length) (h:nmW q < nmW p):key (u++invW q) < key (u++invW p):=by
 have hn:halfN (u++invW q)=halfN (u++invW p):=by
  unfold halfN;rw [List.length_append,List.length_append,invW_len,invW_len,hl]
 have hh:halfN (u++invW p)≤u.length:=by
  unfold halfN;rw [List.length_append,invW_len];omega
 have hpl:p.length≤halfN (u++invW p):=by
  unfold halfN;rw [List.length_append,invW_len];omega
 have e1:halfA (u++invW q)=halfA (u++invW p):=by
  unfold halfA;rw [hn,List.take_append_of_le_length hh,List.take_append_of_le_length hh]
 have eB:∀ x:List Int,LtW x→x.length=p.length→(invW (u++invW x)).take (halfN (u++invW p))=x++(invW u).take (halfN (u++invW p) - p.length):=fun x hx hxl=>by
  rw [invW_app,invW_invW hx,List.take_append,List.take_of_length_le (by omega),hxl]
 have e2:halfB (u++invW q)=q++(invW u).take (halfN (u++invW p) - p.length):=by
  unfold halfB;rw [hn];exact eB q hq hl
 have e3:halfB (u++invW p)=p++(invW u).take (halfN (u++invW p) - p.length):=by
  unfold halfB;exact eB p hp rfl
 have ht:LtW ((invW u).take (halfN (u++invW p) - p.length)):=fun x hx=>hu.inv x (List.mem_of_mem_take hx);have h4:nmW (halfB (u++invW q)) < nmW (halfB (u++invW p)):=by
  rw [e2,e3];exact (nmW_app_lt hl hq hp ht).2 h
 have n1:=half_nums (hu.app hq.inv);have n2:=half_nums (hu.app hp.inv);unfold key;rw [hn] at n1 ⊢;rw [e1] at n1 ⊢;rw [lex_lt (by omega) (by omega)];omega
theorem canc:∀ (m:Nat) {a b:List Int},a.length≤m→Rd a→Rd b→LtW a→LtW b→∃ a' p b',a=a'++p∧b=invW p++b'∧Rd (a'++b')
 | m,a,b,hm,ha,hb,la,lb=>by
  rcases snoc_cases a with rfl | ⟨a0,x,rfl⟩
  ·exact ⟨[],[],b,rfl,rfl,hb⟩
  ·cases b with
   | nil=>exact ⟨a0++[x],[],[],by simp,rfl,by rw [List.append_nil];exact ha⟩
   | cons y b0 =>
    have lx:Lt3 x:=la x (by simp);by_cases h:x = -y
    ·cases m with
     | zero=>simp at hm
     | succ m =>
      obtain ⟨a',p,b',e1,e2,h3⟩:=canc m (a:=a0) (b:=b0) (by simp at hm;omega) ha.left (Rd.right (a:=[y]) hb) la.left lb.tail;refine ⟨a',p++[x],b',by rw [e1,List.append_assoc],?_,h3⟩;have e3:invW [x]=[y]:=by
       have:-x=y:=by omega
       simp [invW,lx.negI,this]
      rw [invW_app,e3,e2]
      rfl
    ·refine ⟨a0++[x],[],y :: b0,by simp,rfl,rd_app ha hb fun t z w q e1 e2=>?_⟩
     have h1:=(snoc_inj e1).2;have h2:=(List.cons.inj e2).1;omega
theorem canc_red {a' p b':List Int} (la:LtW a') (lp:LtW p) (lb:LtW b') (h:Rd (a'++b')):red [] ((a'++p)++(invW p++b'))=a'++b':=by
 have h1:=Eqv.app (lp.app lp.inv) LtW.nil lb lb (Eqv.inv_right lp) (Eqv.refl _);have h2:=Eqv.app la la ((lp.app lp.inv).app lb) (LtW.nil.app lb) (Eqv.refl _) h1;have e:(a'++p)++(invW p++b')=a'++((p++invW p)++b'):=by simp only [List.append_assoc]
 rw [e,show red [] (a'++((p++invW p)++b'))=red [] (a'++([]++b')) from h2];exact red_self h (la.app lb)
section
def LessN (a b:List Int):Prop:=a.length < b.length ∨ (a.length=b.length∧key a < key b)
structure NR (k:Nat) (d:Nat→List Int):Prop where
 k3:k≤3
 lt:∀ i,i < k→LtW (d i)
 rd:∀ i,i < k→Rd (d i)
 ne:∀ i,i < k→d i≠[]
 no1:∀ x y,LtK k [x]→LtK k [y]→x≠y→x≠-y→¬ LessN (red [] (sbL d x++sbL d y)) (sbL d x)
 no2:∀ x y,LtK k [x]→LtK k [y]→x≠y→x≠-y→¬ LessN (red [] (sbL d x++sbL d y)) (sbL d y)
section
variable {k:Nat} {d:Nat→List Int}
theorem ltK_one {x:Int} (h:LtK k [x]):x≠0∧-(k:Int)≤x∧x≤k:=h x (by simp)
theorem NR.wl (h:NR k d) {x:Int} (hx:LtK k [x]):LtW (sbL d x):=sbL_lt h.lt (ltK_one hx)
theorem NR.wr (h:NR k d) {x:Int} (hx:LtK k [x]):Rd (sbL d x):=by
 have hx:=ltK_one hx;unfold sbL;split
 ·exact h.rd _ (by omega)
 ·exact (h.rd _ (by omega)).inv (h.lt _ (by omega))
theorem NR.wn (h:NR k d) {x:Int} (hx:LtK k [x]):sbL d x≠[]:=by
 have hx:=ltK_one hx;unfold sbL;split
 ·exact h.ne _ (by omega)
 ·intro e
  have:=congrArg List.length e;rw [invW_len] at this;exact h.ne _ (by omega) (List.length_eq_zero_iff.1 this)
theorem self_inv {s:List Int} (hl:LtW s) (hr:Rd s) (e:invW s=s):s=[]:=by
 refine Classical.byContradiction fun hn=>?_;have hlen:=List.length_pos_iff.2 hn;have hat:∀ i,i < s.length→s.getD i 0 = -(s.getD (s.length - 1 - i) 0):=fun i hi=>by
  conv=>lhs;rw [← e,invW_lt hl]
  rw [List.getD_eq_getElem?_getD,List.getElem?_reverse (by simpa using hi),List.getElem?_map,List.length_map,List.getElem?_eq_getElem (by omega),List.getD_eq_getElem?_getD,List.getElem?_eq_getElem (by omega)]
  rfl
 by_cases hodd:s.length % 2=1
 ·have h1:=hat ((s.length - 1) / 2) (by omega)
  rw [show s.length - 1 - (s.length - 1) / 2=(s.length - 1) / 2 by omega] at h1;have h2:=getD_lt hl (show (s.length - 1) / 2 < s.length by omega);unfold Lt3 at h2;omega
 ·have h1:=hat (s.length / 2 - 1) (by omega)
  rw [show s.length - 1 - (s.length / 2 - 1)=s.length / 2 - 1+1 by omega] at h1;exact rd_adj hr (i:=s.length / 2 - 1) (by omega) (by omega)
theorem self_canc {u a p b:List Int} (hl:LtW u) (hr:Rd u) (hn:u≠[]) (e1:u=a++p) (e2:u=invW p++b):2 * p.length < u.length:=by
 refine Classical.byContradiction fun hc=>?_;have l1:=congrArg List.length e1;have l2:=congrArg List.length e2;rw [List.length_append] at l1 l2;rw [invW_len] at l2;have la:LtW a:=LtW.left (b:=p) (by rw [← e1];exact hl);have lp:LtW p:=LtW.right (a:=a) (by rw [← e1];exact hl)
 -- invW p=a++s
 have e3:a++p=invW p++b:=e1.symm.trans e2;obtain ⟨s,hs⟩:∃ s,invW p=a++s:=by
  rcases List.append_eq_append_iff.1 e3 with ⟨s,h1,h2⟩ | ⟨s,h1,h2⟩
  ·exact ⟨s,h1⟩
  ·have:=congrArg List.length h1
   rw [List.length_append,invW_len] at this;have hs0:s=[]:=List.length_eq_zero_iff.1 (by omega);subst hs0;exact ⟨[],by rw [h1];simp⟩
 have ls:LtW s:=LtW.right (a:=a) (by rw [← hs];exact lp.inv);have rs:Rd s:=by
  have h1:Rd (invW p):=Rd.left (b:=b) (by rw [← e2];exact hr);rw [hs] at h1;exact h1.right
 have e4:p=invW s++invW a:=by rw [← invW_invW lp,hs,invW_app]
 rw [hs,e4,List.append_assoc] at e3;have e5:=List.append_cancel_left e3;have e6:invW s=s:=(List.append_inj e5 (by rw [invW_len])).1;have hs0:=self_inv ls rs e6;rw [hs0,List.append_nil] at hs;rw [← hs] at e1;refine hn (rd_nil hl hr ?_);rw [e1];exact Eqv.inv_left lp
theorem NR.half (h:NR k d) {x y:Int} (hx:LtK k [x]) (hy:LtK k [y]) (hne:x≠-y) {a p b:List Int} (e1:sbL d x=a++p) (e2:sbL d y=invW p++b) (hr:Rd (a++b)) :
  2 * p.length≤(sbL d x).length∧2 * p.length≤(sbL d y).length∧(x=y→2 * p.length < (sbL d x).length):=by
 have lx:=h.wl hx;have ly:=h.wl hy;have n1:=congrArg List.length e1;have n2:=congrArg List.length e2;rw [List.length_append] at n1 n2;rw [invW_len] at n2;by_cases hxy:x=y
 ·subst hxy
  have:=self_canc lx (h.wr hx) (h.wn hx) e1 e2;omega
 ·have la:LtW a:=LtW.left (b:=p) (by rw [← e1];exact lx)
  have lp:LtW p:=LtW.right (a:=a) (by rw [← e1];exact lx);have lb:LtW b:=LtW.right (a:=invW p) (by rw [← e2];exact ly);have hred:red [] (sbL d x++sbL d y)=a++b:=by rw [e1,e2];exact canc_red la lp lb hr
  have h1:=h.no1 x y hx hy hxy hne;have h2:=h.no2 x y hx hy hxy hne;rw [hred] at h1 h2;have h3:¬ (a++b).length < (sbL d x).length:=fun k=>h1 (.inl k);have h4:¬ (a++b).length < (sbL d y).length:=fun k=>h2 (.inl k);rw [List.length_append] at h3 h4;exact ⟨by omega,by omega,fun k=>absurd k hxy⟩
theorem NR.mid (h:NR k d) {x y z:Int} (hx:LtK k [x]) (hy:LtK k [y]) (hz:LtK k [z]) (n1:x≠-y) (n2:y≠-z) {a p b c q e:List Int}
  (e1:sbL d x=a++p) (e2:sbL d y=invW p++b) (r1:Rd (a++b)) (e3:sbL d y=c++q) (e4:sbL d z=invW q++e) (r2:Rd (c++e)):p.length+q.length < (sbL d y).length:=by
 obtain ⟨p1,p2,p3⟩:=h.half hx hy n1 e1 e2 r1;obtain ⟨q1,q2,q3⟩:=h.half hy hz n2 e3 e4 r2;refine Classical.byContradiction fun hc=>?_;have lx:=h.wl hx;have ly:=h.wl hy;have lz:=h.wl hz;have hxy:x≠y:=fun e=>by
  have:=p3 e;rw [e] at this;omega
 have hyz:y≠z:=fun e=>by
  have:=q3 e;omega
 have m1:=congrArg List.length e1;have m2:=congrArg List.length e2;have m3:=congrArg List.length e3;have m4:=congrArg List.length e4;rw [List.length_append] at m1 m2 m3 m4;rw [invW_len] at m2 m4;have la:LtW a:=LtW.left (b:=p) (by rw [← e1];exact lx);have lp:LtW p:=LtW.right (a:=a) (by rw [← e1];exact lx);have lb:LtW b:=LtW.right (a:=invW p) (by rw [← e2];exact ly);have lc:LtW c:=LtW.left (b:=q) (by rw [← e3];exact ly);have lq:LtW q:=LtW.right (a:=c) (by rw [← e3];exact ly);have le:LtW e:=LtW.right (a:=invW q) (by rw [← e4];exact lz);have hbq:=List.append_inj (e2.symm.trans e3) (by rw [invW_len];omega);have ebq:b=q:=hbq.2;have ecp:c=invW p:=hbq.1.symm;have hred1:red [] (sbL d x++sbL d y)=a++b:=by rw [e1,e2];exact canc_red la lp lb r1
 have hred2:red [] (sbL d y++sbL d z)=c++e:=by rw [e3,e4];exact canc_red lc lq le r2
 have lip:=lp.inv;have liq:=lq.inv;rcases Nat.lt_trichotomy (nmW (invW q)) (nmW (invW p)) with hlt | heq | hlt
 ·refine h.no1 x y hx hy hxy n1 (.inr ?_)
  rw [hred1,e1,ebq];refine ⟨by rw [List.length_append,List.length_append];omega,?_⟩;have:=end_less (u:=a) (p:=invW p) (q:=invW q) la lip liq (by rw [invW_len,invW_len];omega) (by rw [invW_len];omega) hlt
  rwa [invW_invW lp,invW_invW lq] at this
 ·have e5:=nmW_inj (by rw [invW_len,invW_len];omega) liq lip heq
  have e6:q=p:=by rw [← invW_invW lq,e5,invW_invW lp]
  refine h.wn hy (rd_nil ly (h.wr hy) ?_);rw [e2,ebq,e6];exact Eqv.inv_left lp
 ·refine h.no2 y z hy hz hyz n2 (.inr ?_)
  rw [hred2,e4,ecp];refine ⟨by rw [List.length_append,List.length_append,invW_len,invW_len];omega,?_⟩;have:=end_less (u:=invW e) (p:=invW q) (q:=invW p) le.inv liq lip (by rw [invW_len,invW_len];omega) (by rw [invW_len,invW_len];omega) hlt;rw [← key_inv (lip.app le),← key_inv (liq.app le),invW_app,invW_app];exact this
theorem rd_glue {X M E:List Int} (h1:Rd (X++M)) (h2:Rd (M++E)) (hM:M≠[]):Rd (X++(M++E)):=by
 rcases snoc_cases M with rfl | ⟨M0,m,rfl⟩
 ·exact absurd rfl hM
 ·have h3:Rd ((X++M0)++[m]):=by rw [List.append_assoc];exact h1
  have h4:Rd (m :: E):=Rd.right (a:=M0) (by rw [List.append_assoc] at h2;exact h2);have:=Rd.join h3 h4
  simpa using this
theorem NR.prod (h:NR k d):∀ (m:Nat) (w:List Int),w.length=m+1→LtK k w→Rd w→∃ v y X S B,w=v++[y]∧sbL d y=S++B∧red [] (sbW d w)=X++B ∧
  ∀ z,LtK k [z]→y≠-z→∀ c q e,sbL d y=c++q→sbL d z=invW q++e→Rd (c++e)→q.length < B.length
 | 0,w,hm,hw,hr=>by
  obtain ⟨y,rfl⟩:∃ y,w=[y]:=by
   cases w with
   | nil=>simp at hm
   | cons y t =>
    have ht:t=[]:=List.length_eq_zero_iff.1 (by simpa using hm);exact ⟨y,by rw [ht]⟩
  refine ⟨[],y,[],[],sbL d y,rfl,rfl,?_,fun z hz hne c q e e1 e2 r1=>?_⟩
  ·rw [sbW_one]
   exact red_self (h.wr hw) (h.wl hw)
  ·have:=(h.half hw hz hne e1 e2 r1).1
   have:=List.length_pos_iff.2 (h.wn hw);omega
 | m+1,w,hm,hw,hr=>by
  rcases snoc_cases w with rfl | ⟨w0,z,rfl⟩
  ·simp at hm
  ·have hw0:LtK k w0:=fun x hx=>hw x (List.mem_append_left _ hx)
   have hz:LtK k [z]:=fun x hx=>hw x (List.mem_append_right _ hx);obtain ⟨v,y,X,S,B,rfl,e1,e2,hb⟩:=h.prod m w0 (by simp at hm;omega) hw0 hr.left;have hy:LtK k [y]:=fun x hx=>hw0 x (List.mem_append_right _ hx);have hyz:y≠-z:=fun e=>by
    have:=hr.last;exact this e
   have ly:=h.wl hy;have lz:=h.wl hz;obtain ⟨c,q,e,e3,e4,r1⟩:=canc _ (Nat.le_refl _) (h.wr hy) (h.wr hz) ly lz;have hq:=hb z hz hyz c q e e3 e4 r1;obtain ⟨M,rfl,e5⟩:∃ M,B=M++q∧c=S++M:=by
    rcases List.append_eq_append_iff.1 (e1.symm.trans e3) with ⟨M,h1,h2⟩ | ⟨M,h1,h2⟩
    ·exact ⟨M,h2,h1⟩
    ·have:=congrArg List.length h2
     rw [List.length_append] at this;omega
   have hM:M≠[]:=fun e=>by
    rw [e] at hq;simp at hq
   subst e5;have lw:=sbW_lt h.lt hw0;have hrr:Rd (X++(M++q)):=by rw [← e2];exact rd_red lw
   have lxb:LtW (X++(M++q)):=by rw [← e2];exact lt_red lw
   have lX:LtW X:=lxb.left;have lM:LtW M:=lxb.right.left;have lq:LtW q:=lxb.right.right;have le:LtW e:=LtW.right (a:=invW q) (by rw [← e4];exact lz);have r2:Rd (X++M):=by
    rw [← List.append_assoc] at hrr;exact hrr.left
   have r3:Rd (M++e):=by
    rw [List.append_assoc] at r1;exact r1.right
   have r4:=rd_glue r2 r3 hM;refine ⟨v++[y],z,X++M,invW q,e,rfl,e4,?_,fun z' hz' hne c2 q2 e2' f1 f2 f3=>?_⟩
   ·have h1:Eqv (sbW d (v++[y]++[z])) ((X++(M++q))++(invW q++e)):=by
     rw [sbW_app,sbW_one,← e4];refine Eqv.app lw lxb lz lz ?_ (Eqv.refl _);rw [← e2];exact (Eqv.toRed lw).symm
    have h2:red [] ((X++(M++q))++(invW q++e))=(X++M)++e:=by
     rw [← List.append_assoc X M q];exact canc_red (lX.app lM) lq le (by rw [List.append_assoc];exact r4)
    rw [← h2];exact h1
   ·have:=h.mid hy hz hz' hyz hne e3 e4 r1 f1 f2 f3
    rw [e4,List.length_append,invW_len] at this;omega
theorem NR.free (h:NR k d) {w:List Int} (hw:LtK k w) (hr:Rd w) (h0:Eqv (sbW d w) []):w=[]:=by
 refine Classical.byContradiction fun hn=>?_;have hlen:=List.length_pos_iff.2 hn;obtain ⟨v,y,X,S,B,rfl,e1,e2,hb⟩:=h.prod (w.length - 1) w (by omega) hw hr;have hy:LtK k [y]:=fun x hx=>hw x (List.mem_append_right _ hx);obtain ⟨c,q,e,f1,f2,f3⟩:=canc _ (Nat.le_refl _) (h.wr hy) (h.wr hy) (h.wl hy) (h.wl hy);have h1:=hb y hy (by have:=(ltK_one hy).1;omega) c q e f1 f2 f3;have h2:red [] (sbW d (v++[y]))=[]:=h0;rw [h2] at e2;have:=congrArg List.length e2;rw [List.length_append] at this;simp at this;omega
end
end
def allW:Nat→List (List Int)
 | 0=>[[]]
 | n+1=>[1, -1,2, -2,3, -3].flatMap fun x=>((allW n).filter fun w=>!(w.headD 0 == -x)).map (x :: ·)
theorem mem_allW:∀ {w:List Int},LtW w→Rd w→w∈allW w.length
 | [],_,_=>by simp [allW]
 | x :: w,hl,hr=>by
  have h1:=mem_allW hl.tail (Rd.right (a:=[x]) hr);have hx:=hl.head;unfold Lt3 at hx;rw [List.length_cons,allW,List.mem_flatMap];refine ⟨x,?_,List.mem_map.2 ⟨w,List.mem_filter.2 ⟨h1,?_⟩,rfl⟩⟩
  ·simp
   omega
  ·cases w with
   | nil=>simp;omega
   | cons y w =>
    have:y≠-x:=fun e=>by
     subst e;exact hr [] w x rfl
    simpa using this
def keysN (n:Nat):List Nat:=(allW n).foldl (fun acc w=>if key w∈acc then acc else key w :: acc) []
theorem mem_keysF:∀ (l:List (List Int)) (acc:List Nat),(∀ x∈acc,x∈l.foldl (fun acc w=>if key w∈acc then acc else key w :: acc) acc)∧∀ w∈l,key w∈l.foldl (fun acc w=>if key w∈acc then acc else key w :: acc) acc
 | [],acc=>⟨fun x hx=>hx,fun w hw=>by cases hw⟩
 | v :: l,acc=>by
  rw [List.foldl_cons];by_cases h:key v∈acc
  ·rw [if_pos h]
   obtain ⟨h1,h2⟩:=mem_keysF l acc;refine ⟨h1,fun w hw=>?_⟩;rcases List.mem_cons.1 hw with rfl | hw
   ·exact h1 _ h
   ·exact h2 w hw
  ·rw [if_neg h]
   obtain ⟨h1,h2⟩:=mem_keysF l (key v :: acc);refine ⟨fun x hx=>h1 x (List.mem_cons_of_mem _ hx),fun w hw=>?_⟩;rcases List.mem_cons.1 hw with rfl | hw
   ·exact h1 _ List.mem_cons_self
   ·exact h2 w hw
theorem mem_keysN {n:Nat} {w:List Int} (h:w∈allW n):key w∈keysN n:=(mem_keysF (allW n) []).2 w h
theorem keys_len:(keysN 1).length=3∧(keysN 2).length=15∧(keysN 3).length=75:=by decide +kernel
def rkK (n:Nat) (w:List Int):Nat:=(keysN n).countP fun c=>decide (c < key w)
theorem countP_lt2 {a b:Nat} (h:a < b):∀ {l:List Nat},a∈l→(l.countP fun c=>decide (c < a)) < l.countP fun c=>decide (c < b)
 | [],hm=>by cases hm
 | x :: l,hm=>by
  have hle:∀ l:List Nat,(l.countP fun c=>decide (c < a))≤l.countP fun c=>decide (c < b):=fun l=>by
   refine List.countP_mono_left fun x _ hx=>?_;simp only [decide_eq_true_eq] at hx ⊢;omega
  rw [List.countP_cons,List.countP_cons];rcases List.mem_cons.1 hm with rfl | hm
  ·have:=hle l
   rw [if_neg (by simp),if_pos (by simpa using h)];omega
  ·have:=countP_lt2 h hm
   by_cases h1:x < a
   ·rw [if_pos (by simpa using h1),if_pos (by simp;omega)]
    omega
   ·rw [if_neg (by simpa using h1)]
    split <;> omega
theorem countP_room {b:Nat}:∀ {l:List Nat},b∈l→(l.countP fun c=>decide (c < b))+1≤l.length
 | [],hm=>by cases hm
 | x :: l,hm=>by
  rw [List.countP_cons,List.length_cons];rcases List.mem_cons.1 hm with rfl | hm
  ·have:=List.countP_le_length (p:=fun c=>decide (c < b)) (l:=l)
   rw [if_neg (by simp)];omega
  ·have:=countP_room hm
   split <;> omega
theorem rkK_lt {w w':List Int} (hl:LtW w') (hr:Rd w') (hk:key w' < key w):rkK w'.length w' < rkK w'.length w:=countP_lt2 hk (mem_keysN (mem_allW hl hr))
theorem rkK_le {w:List Int} (hl:LtW w) (hr:Rd w):rkK w.length w+1≤(keysN w.length).length:=countP_room (mem_keysN (mem_allW hl hr))
structure Pf where
 n:Nat
 K:Nat
 F:Nat
 f:Nat
 e1:Nat
 e2:Nat
def fW (w:List Int):Nat:=lnum (w.headD 1)+lnum ((invW w).headD 1)
def kW (w:List Int):Nat:=if w.length=0 then 1 else if w.length=1 then 2+rkK 1 w else if w.length=2 then 5+rkK 2 w else 20+rkK 3 w
def gW (w:List Int):Nat:=if w.length=0 then 1 else if w.length=1 then 2+rkK 1 w else if w.length=2 then 5+fW w else 16+fW w
def prof (w:List Int):Pf:=⟨w.length,kW w,gW w,fW w,nmW (w.take 2),nmW ((invW w).take 2)⟩
def absent:Pf:=⟨0,0,0,0,0,0⟩
theorem head_lt {w:List Int} (h:LtW w):lnum (w.headD 1)≤5:=by
 cases w with
 | nil=>decide
 | cons x w=>have:=lnum_lt h.head;show lnum x≤5;omega
theorem fW_le {w:List Int} (h:LtW w):fW w≤10:=by
 have h1:=head_lt h;have h2:=head_lt h.inv;unfold fW;omega
theorem fW_inv {w:List Int} (h:LtW w):fW (invW w)=fW w:=by
 unfold fW;rw [invW_invW h];omega
theorem rkK_inv {n:Nat} {w:List Int} (h:LtW w):rkK n (invW w)=rkK n w:=by unfold rkK;rw [key_inv h]
theorem kW_inv {w:List Int} (h:LtW w):kW (invW w)=kW w:=by unfold kW;rw [invW_len,rkK_inv h,rkK_inv h,rkK_inv h]
theorem gW_inv {w:List Int} (h:LtW w):gW (invW w)=gW w:=by unfold gW;rw [invW_len,rkK_inv h,fW_inv h]
def Pf.sw (p:Pf):Pf:=⟨p.n,p.K,p.F,p.f,p.e2,p.e1⟩
theorem prof_inv {w:List Int} (h:LtW w):prof (invW w)=(prof w).sw:=by
 unfold prof Pf.sw;rw [invW_len,kW_inv h,gW_inv h,fW_inv h,invW_invW h]
structure Real (p:Pf):Prop where
 n5:p.n≤5
 f10:p.f≤10
 r0:p.n=0→p.K=1∧p.F=1
 r1:p.n=1→2≤p.K∧p.K≤4∧p.F=p.K
 r2:p.n=2→5≤p.K∧p.K≤19∧5≤p.F∧p.F≤15
 r3:p.n=3→20≤p.K∧p.K≤94∧16≤p.F∧p.F≤26
theorem real_prof {w:List Int} (hl:LtW w) (hr:Rd w) (h5:w.length≤5):Real (prof w):=by
 have hf:=fW_le hl;obtain ⟨k1,k2,k3⟩:=keys_len;have hk:=rkK_le hl hr;refine ⟨h5,hf,fun h=>?_,fun h=>?_,fun h=>?_,fun h=>?_⟩
 ·have h:w.length=0:=h
  show kW w=1∧gW w=1
  unfold kW gW;rw [if_pos h,if_pos h];exact ⟨rfl,rfl⟩
 ·have h:w.length=1:=h
  rw [h,k1] at hk
  show 2≤kW w∧kW w≤4∧gW w=kW w
  unfold kW gW;rw [if_neg (by omega),if_pos h,if_neg (by omega),if_pos h];omega
 ·have h:w.length=2:=h
  rw [h,k2] at hk
  show 5≤kW w∧kW w≤19∧5≤gW w∧gW w≤15
  unfold kW gW;rw [if_neg (by omega),if_neg (by omega),if_pos h,if_neg (by omega),if_neg (by omega),if_pos h];omega
 ·have h:w.length=3:=h
  rw [h,k3] at hk
  show 20≤kW w∧kW w≤94∧16≤gW w∧gW w≤26
  unfold kW gW;rw [if_neg (by omega),if_neg (by omega),if_neg (by omega),if_neg (by omega),if_neg (by omega),if_neg (by omega)];omega
structure Keep (p p' q:Pf):Prop where
 n:p'.n=p.n
 n1:1≤p.n
 k:p.n≤3→p'.K < p.K
 t1:q.n=2 ∨ q.n=4
 s1:q.n=2→p.n≤3→p'.F < p.F
 l1:q.n=2→4≤p.n→p'.f < p.f
 l2:q.n=4→4≤p.n→p'.f≤p.f∧∃ P Q e,Q < P∧((p.e1=P∧p.e2=e) ∨ (p.e1=e∧p.e2=P))∧((p'.e1=Q∧p'.e2=e) ∨ (p'.e1=e∧p'.e2=Q))∧((q.e1=P∧q.e2=Q) ∨ (q.e1=Q∧q.e2=P))∧(p.n=4→e≠P∧e≠Q)
theorem Keep.swp {p p' q:Pf} (h:Keep p p' q):Keep p.sw p'.sw q:=by
 refine ⟨h.n,h.n1,h.k,h.t1,h.s1,h.l1,fun a b=>?_⟩;obtain ⟨h1,P,Q,e,h2,h3,h4,h5,h6⟩:=h.l2 a b;refine ⟨h1,P,Q,e,h2,?_,?_,h5,h6⟩
 ·show (p.e2=P∧p.e1=e) ∨ (p.e2=e∧p.e1=P)
  omega
 ·show (p'.e2=Q∧p'.e1=e) ∨ (p'.e2=e∧p'.e1=Q)
  omega
theorem Keep.swq {p p' q:Pf} (h:Keep p p' q):Keep p p' q.sw:=by
 refine ⟨h.n,h.n1,h.k,h.t1,h.s1,h.l1,fun a b=>?_⟩;obtain ⟨h1,P,Q,e,h2,h3,h4,h5,h6⟩:=h.l2 a b;refine ⟨h1,P,Q,e,h2,h3,h4,?_,h6⟩
 show (q.e2=P∧q.e1=Q) ∨ (q.e2=Q∧q.e1=P)
 omega
theorem keep_parts {a x:List Int} (la:LtW a) (ra:Rd a) (lx:LtW x) (rx:Rd x) (hlen:(red [] (a++x)).length=a.length):∃ u P Q,LtW u∧LtW P∧LtW Q∧P.length=Q.length∧a=u++invW P∧x=P++invW Q∧red [] (a++x)=u++invW Q:=by
 obtain ⟨u,p,b,e1,e2,h3⟩:=canc _ (Nat.le_refl _) ra rx la lx;have lu:LtW u:=LtW.left (b:=p) (by rw [← e1];exact la);have lp:LtW p:=LtW.right (a:=u) (by rw [← e1];exact la);have lb:LtW b:=LtW.right (a:=invW p) (by rw [← e2];exact lx);have hr:red [] (a++x)=u++b:=by rw [e1,e2];exact canc_red lu lp lb h3
 rw [hr,e1,List.length_append,List.length_append] at hlen;refine ⟨u,invW p,invW b,lu,lp.inv,lb.inv,by rw [invW_len,invW_len];omega,by rw [invW_invW lp,e1],by rw [invW_invW lb,e2],by rw [invW_invW lb,hr]⟩
theorem keep_right {a x:List Int} (la:LtW a) (ra:Rd a) (a5:a.length≤5) (lx:LtW x) (rx:Rd x) (x5:x.length≤5) (hlen:(red [] (a++x)).length=a.length) (hk:key (red [] (a++x)) < key a) (hne:a≠[]) :
  Keep (prof a) (prof (red [] (a++x))) (prof x):=by
 have lr:LtW (red [] (a++x)):=lt_red (la.app lx);have rr:Rd (red [] (a++x)):=rd_red (la.app lx);obtain ⟨u,P,Q,lu,lP,lQ,hPQ,ea,ex,er⟩:=keep_parts la ra lx rx hlen;generalize red [] (a++x)=a' at hlen hk lr rr er;have ha0:=List.length_pos_iff.2 hne;have hal:a.length=u.length+P.length:=by rw [ea,List.length_append,invW_len]
 have hxl:x.length=2 * P.length:=by rw [ex,List.length_append,invW_len];omega
 have hP0:P.length≠0:=fun h=>by
  have h1:P=[]:=List.length_eq_zero_iff.1 h;have h2:Q=[]:=List.length_eq_zero_iff.1 (by omega);rw [ea,er,h1,h2] at hk;omega
 have hKK:∀ n,a.length=n→n≤3→rkK n a' < rkK n a:=fun n hn h3=>by
  have:=rkK_lt (w:=a) lr rr hk
  rwa [hlen,hn] at this
 have hless:P.length≤u.length→nmW Q < nmW P:=fun hle=>by
  rcases Nat.lt_trichotomy (nmW Q) (nmW P) with h | h | h
  ·exact h
  ·have e:=nmW_inj hPQ.symm lQ lP h
   rw [ea,er,e] at hk;omega
  ·have:=end_less lu lQ lP hPQ (by omega) h
   rw [ea,er] at hk;omega
 have hinv:invW a=P++invW u:=by rw [ea,invW_app,invW_invW lP]
 have hinv':invW a'=Q++invW u:=by rw [er,invW_app,invW_invW lQ]
 have hkk:kW a' < kW a ∨ 4≤a.length:=by
  by_cases h4:4≤a.length
  ·exact .inr h4
  ·refine .inl ?_
   unfold kW;rw [hlen];rcases (by omega:a.length=1 ∨ a.length=2 ∨ a.length=3) with h | h | h
   ·rw [if_neg (by omega),if_pos h,if_neg (by omega),if_pos h]
    have:=hKK 1 h (by omega);omega
   ·rw [if_neg (by omega),if_neg (by omega),if_pos h,if_neg (by omega),if_neg (by omega),if_pos h]
    have:=hKK 2 h (by omega);omega
   ·rw [if_neg (by omega),if_neg (by omega),if_neg (by omega),if_neg (by omega),if_neg (by omega),if_neg (by omega)]
    have:=hKK 3 h (by omega);omega
 have hP1:P.length=1 ∨ P.length=2:=by omega
 have hfu:1≤u.length→a.headD 1=u.headD 1∧a'.headD 1=u.headD 1:=fun hu=>by
  cases u with
  | nil=>simp at hu
  | cons y u=>rw [ea,er];exact ⟨rfl,rfl⟩
 have hfP:(invW a).headD 1=P.headD 1∧(invW a').headD 1=Q.headD 1:=by
  rw [hinv,hinv'];constructor
  ·cases P with
   | nil=>simp at hP0
   | cons y P=>rfl
  ·cases Q with
   | nil=>exact absurd hPQ hP0
   | cons y Q=>rfl
 have hf1:P.length=1→1≤u.length→fW a' < fW a:=fun h1 hu=>by
  have hl:=hless (by omega);obtain ⟨p,rfl⟩:=List.length_eq_one_iff.1 h1;obtain ⟨q,rfl⟩:=List.length_eq_one_iff.1 (hPQ.symm.trans h1);have hl2:lnum q < lnum p:=by simpa [nmW] using hl
  unfold fW;rw [hfP.1,hfP.2,(hfu hu).1,(hfu hu).2]
  show lnum (u.headD 1)+lnum q < lnum (u.headD 1)+lnum p
  omega
 refine ⟨hlen,ha0,fun h3=>?_,?_,fun h2 h3=>?_,fun h2 h4=>?_,fun h2 h4=>?_⟩
 ·have h3:a.length≤3:=h3
  rcases hkk with h | h
  ·exact h
  ·omega
 ·show x.length=2 ∨ x.length=4
  omega
 ·have h2:x.length=2:=h2
  have h3:a.length≤3:=h3
  show gW a' < gW a
  unfold gW;rw [hlen];by_cases hn:a.length=1
  ·rw [if_neg (by omega),if_pos hn,if_neg (by omega),if_pos hn]
   have:=hKK 1 hn (by omega);omega
  ·have hf:=hf1 (by omega) (by omega)
   by_cases hn2:a.length=2
   ·rw [if_neg (by omega),if_neg hn,if_pos hn2,if_neg (by omega),if_neg hn,if_pos hn2]
    omega
   ·rw [if_neg (by omega),if_neg hn,if_neg hn2,if_neg (by omega),if_neg hn,if_neg hn2]
    omega
 ·have h2:x.length=2:=h2
  have h4:4≤a.length:=h4;exact hf1 (by omega) (by omega)
 ·have h2:x.length=4:=h2
  have h4:4≤a.length:=h4;have hp2:P.length=2:=by omega
  have hq2:Q.length=2:=by omega
  have hl:=hless (by omega);have eP:(invW a).take 2=P:=by rw [hinv,List.take_append_of_le_length (by omega),List.take_of_length_le (by omega)]
  have eQ:(invW a').take 2=Q:=by rw [hinv',List.take_append_of_le_length (by omega),List.take_of_length_le (by omega)]
  have eu:a.take 2=u.take 2:=by rw [ea,List.take_append_of_le_length (by omega)]
  have eu':a'.take 2=u.take 2:=by rw [er,List.take_append_of_le_length (by omega)]
  have ex1:x.take 2=P:=by rw [ex,List.take_append_of_le_length (by omega),List.take_of_length_le (by omega)]
  have ex2:(invW x).take 2=Q:=by rw [ex,invW_app,invW_invW lQ,List.take_append_of_le_length (by omega),List.take_of_length_le (by omega)]
  refine ⟨?_,nmW P,nmW Q,nmW (u.take 2),hl,.inr ⟨?_,?_⟩,.inr ⟨?_,?_⟩,.inl ⟨?_,?_⟩,fun hn=>?_⟩
  ·show fW a'≤fW a
   unfold fW;rw [hfP.1,hfP.2,(hfu (by omega)).1,(hfu (by omega)).2]
   match P,Q,hp2,hq2,lP,lQ,hl with
   | [p1,p2],[q1,q2],_,_,lP,lQ,hl =>
    have a1:=lnum_lt lP.head;have a2:=lnum_lt lP.tail.head;have a3:=lnum_lt lQ.tail.head;have hl2:lnum q1 * 6+lnum q2 < lnum p1 * 6+lnum p2:=by simpa [nmW] using hl
    show lnum (u.headD 1)+lnum q1≤lnum (u.headD 1)+lnum p1
    omega
  ·show nmW (a.take 2)=_
   rw [eu]
  ·show nmW ((invW a).take 2)=_
   rw [eP]
  ·show nmW (a'.take 2)=_
   rw [eu']
  ·show nmW ((invW a').take 2)=_
   rw [eQ]
  ·show nmW (x.take 2)=_
   rw [ex1]
  ·show nmW ((invW x).take 2)=_
   rw [ex2]
  ·have hn:a.length=4:=hn
   have hu2:u.length=2:=by omega
   rw [List.take_of_length_le (by omega)];constructor
   ·intro e
    have e2:=nmW_inj (by omega) lu lP e;rw [e2] at ea;have:=rd_nil la ra (by rw [ea];exact Eqv.inv_right lP);exact hne this
   ·intro e
    have e2:=nmW_inj (by omega) lu lQ e;rw [e2] at er;have:=rd_nil lr rr (by rw [er];exact Eqv.inv_right lQ);rw [this] at hlen;simp at hlen;omega
theorem keep_left {a x:List Int} (la:LtW a) (ra:Rd a) (a5:a.length≤5) (lx:LtW x) (rx:Rd x) (x5:x.length≤5) (hlen:(red [] (x++a)).length=a.length) (hk:key (red [] (x++a)) < key a) (hne:a≠[]) :
  Keep (prof a) (prof (red [] (x++a))) (prof x):=by
 have e:invW (red [] (x++a))=red [] (invW a++invW x):=by rw [invW_red (lx.app la),invW_app]
 have lr:=lt_red (lx.app la);have h:=keep_right (a:=invW a) (x:=invW x) la.inv (ra.inv la) (by rw [invW_len];exact a5) lx.inv (rx.inv lx) (by rw [invW_len];exact x5) (by rw [← e,invW_len,invW_len];exact hlen) (by rw [← e,key_inv lr,key_inv la];exact hk)
  (fun h=>hne (by rw [← invW_invW la,h];rfl))
 rw [← e,prof_inv lr,prof_inv la,prof_inv lx] at h;have h2:=h.swp.swq;exact h2
def bN (p:Prop) [Decidable p]:Nat:=if p then 1 else 0
def twN (p q:Pf):Nat :=
 (if p.e1=q.e1 then bN (p.e2 < p.e1)+bN (q.e2 < q.e1) else 0)+(if p.e1=q.e2 then bN (p.e2 < p.e1)+bN (q.e1 < q.e2) else 0) +
 ((if p.e2=q.e1 then bN (p.e1 < p.e2)+bN (q.e2 < q.e1) else 0)+(if p.e2=q.e2 then bN (p.e1 < p.e2)+bN (q.e1 < q.e2) else 0))
def oneN (p q:Pf):Nat:=bN (p.e1=max q.e1 q.e2)+bN (p.e2=max q.e1 q.e2)
def rho (p q:Pf):Nat:=if p.n=4∧q.n=4 then min 2 (twN p q) else if p.n=5∧q.n=4 then oneN p q else if p.n=4∧q.n=5 then oneN q p else 0
theorem bN_le (p:Prop) [Decidable p]:bN p≤1:=by unfold bN;split <;> omega
theorem rho_le (p q:Pf):rho p q≤2:=by
 have h1:=bN_le (p.e1=max q.e1 q.e2);have h2:=bN_le (p.e2=max q.e1 q.e2);have h3:=bN_le (q.e1=max p.e1 p.e2);have h4:=bN_le (q.e2=max p.e1 p.e2);unfold rho oneN;split
 ·omega
 ·split
  ·omega
  ·split <;> omega
theorem twN_comm (p q:Pf):twN p q=twN q p:=by
 unfold twN;have e1:(p.e1=q.e1)=(q.e1=p.e1):=propext ⟨Eq.symm,Eq.symm⟩;have e2:(p.e1=q.e2)=(q.e2=p.e1):=propext ⟨Eq.symm,Eq.symm⟩;have e3:(p.e2=q.e1)=(q.e1=p.e2):=propext ⟨Eq.symm,Eq.symm⟩;have e4:(p.e2=q.e2)=(q.e2=p.e2):=propext ⟨Eq.symm,Eq.symm⟩;simp only [e1,e2,e3,e4];split <;> split <;> split <;> split <;> omega
theorem rho_comm (p q:Pf):rho p q=rho q p:=by
 unfold rho;rw [twN_comm];repeat' split
 all_goals omega
def q2 (p q:Pf):Nat:=(if p.n=4∧q.n=4 then 122 else if p.n=5∧q.n=5 then 188 else 155)+3 * (p.f+q.f)+rho p q
theorem q2_comm (p q:Pf):q2 p q=q2 q p:=by
 unfold q2;rw [rho_comm,Nat.add_comm p.f];repeat' split
 all_goals omega
def y1 (p:Pf):Nat:=(if p.n=4 then 27 else 38)+p.f
def inE (p q r:Pf) (u:Nat):Prop:=(u=p.e1 ∨ u=p.e2) ∨ (u=q.e1 ∨ u=q.e2) ∨ (u=r.e1 ∨ u=r.e2)
instance (p q r:Pf) (u:Nat):Decidable (inE p q r u):=by unfold inE;infer_instance
def rkE (p q r:Pf) (v:Nat):Nat:=((List.range v).filter fun u=>decide (inE p q r u)).length
def psi (p q r:Pf):Nat:=(rkE p q r p.e1+rkE p q r p.e2)+((rkE p q r q.e1+rkE p q r q.e2)+(rkE p q r r.e1+rkE p q r r.e2))
theorem rkE_mono {p q r p' q' r':Pf} (h:∀ u,inE p q r u→inE p' q' r' u) (v:Nat):rkE p q r v≤rkE p' q' r' v:=by
 refine nd_le (List.nodup_range.filter _) fun u hu=>?_;obtain ⟨h1,h2⟩:=List.mem_filter.1 hu;exact List.mem_filter.2 ⟨h1,by simpa using h u (by simpa using h2)⟩
theorem rkE_lt {p q r:Pf} {a b:Nat} (h:a < b) (ha:inE p q r a):rkE p q r a < rkE p q r b:=by
 have hn:(a :: (List.range a).filter fun u=>decide (inE p q r u)).Nodup:=List.nodup_cons.2 ⟨fun hm=>by
  have:=List.mem_range.1 (List.mem_filter.1 hm).1;omega,List.nodup_range.filter _⟩
 have:=nd_le (m:=(List.range b).filter fun u=>decide (inE p q r u)) hn fun u hu=>by
  rcases List.mem_cons.1 hu with rfl | hu
  ·exact List.mem_filter.2 ⟨List.mem_range.2 h,by simpa using ha⟩
  ·obtain ⟨h1,h2⟩:=List.mem_filter.1 hu
   have:=List.mem_range.1 h1;exact List.mem_filter.2 ⟨List.mem_range.2 (by omega),h2⟩
 rw [List.length_cons] at this;unfold rkE;omega
theorem rkE_le {p q r:Pf} {v:Nat} (hv:inE p q r v):rkE p q r v≤5:=by
 have key:∀ L:List Nat,L.length≤5→(∀ u,inE p q r u→u < v→u∈L)→rkE p q r v≤5:=fun L hL h=>by
  refine Nat.le_trans (nd_le (m:=L) (List.nodup_range.filter _) fun u hu=>?_) hL;obtain ⟨h1,h2⟩:=List.mem_filter.1 hu;exact h u (by simpa using h2) (List.mem_range.1 h1)
 rcases hv with (e | e) | (e | e) | (e | e)
 ·exact key [p.e2,q.e1,q.e2,r.e1,r.e2] (by simp) fun u hu hl=>by unfold inE at hu;simp only [List.mem_cons,List.not_mem_nil,or_false];omega
 ·exact key [p.e1,q.e1,q.e2,r.e1,r.e2] (by simp) fun u hu hl=>by unfold inE at hu;simp only [List.mem_cons,List.not_mem_nil,or_false];omega
 ·exact key [p.e1,p.e2,q.e2,r.e1,r.e2] (by simp) fun u hu hl=>by unfold inE at hu;simp only [List.mem_cons,List.not_mem_nil,or_false];omega
 ·exact key [p.e1,p.e2,q.e1,r.e1,r.e2] (by simp) fun u hu hl=>by unfold inE at hu;simp only [List.mem_cons,List.not_mem_nil,or_false];omega
 ·exact key [p.e1,p.e2,q.e1,q.e2,r.e2] (by simp) fun u hu hl=>by unfold inE at hu;simp only [List.mem_cons,List.not_mem_nil,or_false];omega
 ·exact key [p.e1,p.e2,q.e1,q.e2,r.e1] (by simp) fun u hu hl=>by unfold inE at hu;simp only [List.mem_cons,List.not_mem_nil,or_false];omega
theorem psi_le (p q r:Pf):psi p q r≤30:=by
 have h1:=rkE_le (p:=p) (q:=q) (r:=r) (v:=p.e1) (.inl (.inl rfl));have h2:=rkE_le (p:=p) (q:=q) (r:=r) (v:=p.e2) (.inl (.inr rfl));have h3:=rkE_le (p:=p) (q:=q) (r:=r) (v:=q.e1) (.inr (.inl (.inl rfl)));have h4:=rkE_le (p:=p) (q:=q) (r:=r) (v:=q.e2) (.inr (.inl (.inr rfl)));have h5:=rkE_le (p:=p) (q:=q) (r:=r) (v:=r.e1) (.inr (.inr (.inl rfl)));have h6:=rkE_le (p:=p) (q:=q) (r:=r) (v:=r.e2) (.inr (.inr (.inr rfl)));unfold psi;omega
theorem rkE_same {p q r p' q' r':Pf} (h:∀ u,inE p q r u↔inE p' q' r' u) (v:Nat):rkE p q r v=rkE p' q' r' v:=Nat.le_antisymm (rkE_mono (fun u=>(h u).1) v) (rkE_mono (fun u=>(h u).2) v)
theorem psi_swap12 (p q r:Pf):psi p q r=psi q p r:=by
 have h:=rkE_same (p:=p) (q:=q) (r:=r) (p':=q) (q':=p) (r':=r) fun u=>by unfold inE;omega
 unfold psi;rw [h,h,h,h,h,h];omega
theorem psi_swap23 (p q r:Pf):psi p q r=psi p r q:=by
 have h:=rkE_same (p:=p) (q:=q) (r:=r) (p':=p) (q':=r) (r':=q) fun u=>by unfold inE;omega
 unfold psi;rw [h,h,h,h,h,h];omega
def r3 (p q r:Pf):Nat:=if p.n+q.n+r.n=15 then 376 else (if p.n+q.n+r.n=12 then 279 else if p.n+q.n+r.n=13 then 312 else 345)+psi p q r
def phi (p q r:Pf):Nat :=
 if 4≤p.n then (if 4≤q.n then (if 4≤r.n then r3 p q r else q2 p q+r.K) else (if 4≤r.n then q2 p r+q.K else y1 p+(q.K+r.K)))
 else (if 4≤q.n then (if 4≤r.n then q2 q r+p.K else y1 q+(p.K+r.K)) else (if 4≤r.n then y1 r+(p.K+q.K) else min p.K p.F+(min q.K q.F+min r.K r.F)))
theorem phi_swap12 (p q r:Pf):phi p q r=phi q p r:=by
 have h1:=q2_comm p q;have h2:=psi_swap12 p q r;have h3:r3 p q r=r3 q p r:=by
  unfold r3;rw [h2,Nat.add_comm p.n]
 unfold phi;split <;> split <;> split <;> omega
theorem phi_swap23 (p q r:Pf):phi p q r=phi p r q:=by
 have h1:=q2_comm q r;have h2:=psi_swap23 p q r;have h3:r3 p q r=r3 p r q:=by
  unfold r3;rw [h2,Nat.add_right_comm p.n]
 unfold phi;split <;> split <;> split <;> omega
def RA (p:Pf):Prop:=Real p ∨ p=absent
theorem RA.bds {p:Pf} (h:RA p):p.n≤5∧p.f≤10∧(p.n≤3→p.K≤94∧p.F≤26):=by
 rcases h with h | rfl
 ·refine ⟨h.n5,h.f10,fun h3=>?_⟩
  have h0:=h.r0;have h1:=h.r1;have h2:=h.r2;have h4:=h.r3;omega
 ·exact ⟨by decide,by decide,fun _=>by decide⟩
theorem q2_bd {p q:Pf} (hp:p.f≤10) (hq:q.f≤10):q2 p q≤188+3 * (p.f+q.f)+2∧122+3 * (p.f+q.f)≤q2 p q:=by
 have:=rho_le p q;unfold q2;split
 ·omega
 ·split <;> omega
theorem q2_val {p q:Pf} (hp:4≤p.n∧p.n≤5) (hq:4≤q.n∧q.n≤5):∃ x,x≤2∧q2 p q=33 * (p.n+q.n) - 142+3 * (p.f+q.f)+x:=by
 refine ⟨rho p q,rho_le p q,?_⟩;unfold q2;split
 ·omega
 ·split <;> omega
theorem r3_val {p q r:Pf} (hp:4≤p.n∧p.n≤5) (hq:4≤q.n∧q.n≤5) (hr:4≤r.n∧r.n≤5):∃ x,x≤30∧((p.n+q.n+r.n=12∧r3 p q r=279+x) ∨ (p.n+q.n+r.n=13∧r3 p q r=312+x) ∨ (p.n+q.n+r.n=14∧r3 p q r=345+x) ∨ (p.n+q.n+r.n=15∧r3 p q r=376)):=by
 refine ⟨psi p q r,psi_le p q r,?_⟩;unfold r3;repeat' split
 all_goals omega
theorem phi_le {p q r:Pf} (hp:RA p) (hq:RA q) (hr:RA r):phi p q r≤376:=by
 have bp:=hp.bds;have bq:=hq.bds;have br:=hr.bds;have a1:=q2_bd bp.2.1 bq.2.1;have a2:=q2_bd bp.2.1 br.2.1;have a3:=q2_bd bq.2.1 br.2.1;have a4:=psi_le p q r;unfold phi y1 r3;repeat' split
 all_goals omega
theorem phi_less {p p' q r:Pf} (hp:Real p) (hp':Real p') (hq:RA q) (hr:RA r) (h:p'.n < p.n):phi p' q r < phi p q r:=by
 have p0:=hp.r0;have p1:=hp.r1;have p2:=hp.r2;have p3:=hp.r3;have c0:=hp'.r0;have c1:=hp'.r1;have c2:=hp'.r2;have c3:=hp'.r3;have p5:=hp.n5;have p6:=hp.f10;have c6:=hp'.f10;have bq:=hq.bds;have br:=hr.bds;unfold phi;by_cases h1:4≤p.n
 ·rw [if_pos h1]
  by_cases h2:4≤p'.n
  ·rw [if_pos h2]
   by_cases h3:4≤q.n
   ·rw [if_pos h3,if_pos h3]
    obtain ⟨x,hx,ex⟩:=q2_val (p:=p) (q:=q) ⟨h1,p5⟩ ⟨h3,bq.1⟩;obtain ⟨y,hy,ey⟩:=q2_val (p:=p') (q:=q) ⟨h2,hp'.n5⟩ ⟨h3,bq.1⟩;by_cases h4:4≤r.n
    ·rw [if_pos h4,if_pos h4]
     obtain ⟨z,hz,ez⟩:=r3_val (p:=p) (q:=q) (r:=r) ⟨h1,p5⟩ ⟨h3,bq.1⟩ ⟨h4,br.1⟩;obtain ⟨v,hv,ev⟩:=r3_val (p:=p') (q:=q) (r:=r) ⟨h2,hp'.n5⟩ ⟨h3,bq.1⟩ ⟨h4,br.1⟩;omega
    ·rw [if_neg h4,if_neg h4]
     omega
   ·rw [if_neg h3,if_neg h3]
    by_cases h4:4≤r.n
    ·rw [if_pos h4,if_pos h4]
     obtain ⟨x,hx,ex⟩:=q2_val (p:=p) (q:=r) ⟨h1,p5⟩ ⟨h4,br.1⟩;obtain ⟨y,hy,ey⟩:=q2_val (p:=p') (q:=r) ⟨h2,hp'.n5⟩ ⟨h4,br.1⟩;omega
    ·rw [if_neg h4,if_neg h4]
     have e1:y1 p=11 * p.n - 17+p.f:=by unfold y1;split <;> omega
     have e2:y1 p'=11 * p'.n - 17+p'.f:=by unfold y1;split <;> omega
     omega
  ·rw [if_neg h2]
   have hy1:27+p.f≤y1 p:=by unfold y1;split <;> omega
   by_cases h3:4≤q.n
   ·rw [if_pos h3,if_pos h3]
    obtain ⟨x,hx,ex⟩:=q2_val (p:=p) (q:=q) ⟨h1,p5⟩ ⟨h3,bq.1⟩;have hyq:y1 q=11 * q.n - 17+q.f:=by unfold y1;split <;> omega
    by_cases h4:4≤r.n
    ·rw [if_pos h4,if_pos h4]
     obtain ⟨z,hz,ez⟩:=r3_val (p:=p) (q:=q) (r:=r) ⟨h1,p5⟩ ⟨h3,bq.1⟩ ⟨h4,br.1⟩;obtain ⟨v,hv,ev⟩:=q2_val (p:=q) (q:=r) ⟨h3,bq.1⟩ ⟨h4,br.1⟩;omega
    ·rw [if_neg h4,if_neg h4]
     omega
   ·rw [if_neg h3,if_neg h3]
    by_cases h4:4≤r.n
    ·rw [if_pos h4,if_pos h4]
     obtain ⟨x,hx,ex⟩:=q2_val (p:=p) (q:=r) ⟨h1,p5⟩ ⟨h4,br.1⟩;have hyr:y1 r=11 * r.n - 17+r.f:=by unfold y1;split <;> omega
     omega
    ·rw [if_neg h4,if_neg h4]
     omega
 ·rw [if_neg h1,if_neg (by omega)]
  by_cases h3:4≤q.n
  ·rw [if_pos h3,if_pos h3]
   split <;> omega
  ·rw [if_neg h3,if_neg h3]
   split <;> omega
theorem rho_dec {p p' q:Pf} (hn:p'.n=p.n) (h4:q.n=4) (hp:4≤p.n∧p.n≤5) {P Q e:Nat} (hQ:Q < P) (h1:(p.e1=P∧p.e2=e) ∨ (p.e1=e∧p.e2=P)) (h2:(p'.e1=Q∧p'.e2=e) ∨ (p'.e1=e∧p'.e2=Q))
  (h3:(q.e1=P∧q.e2=Q) ∨ (q.e1=Q∧q.e2=P)) (he:p.n=4→e≠P∧e≠Q):rho p' q < rho p q:=by
 unfold rho;by_cases hp4:p.n=4
 ·obtain ⟨e1,e2⟩:=he hp4
  rw [if_pos ⟨by omega,h4⟩,if_pos ⟨hp4,h4⟩];have a1:twN p q=bN (e < P)+1:=by
   unfold twN bN;rcases h1 with ⟨x1,x2⟩ | ⟨x1,x2⟩ <;> rcases h3 with ⟨x3,x4⟩ | ⟨x3,x4⟩ <;> rw [x1,x2,x3,x4] <;> (repeat' split) <;> omega
  have a2:twN p' q=bN (e < Q):=by
   unfold twN bN;rcases h2 with ⟨x1,x2⟩ | ⟨x1,x2⟩ <;> rcases h3 with ⟨x3,x4⟩ | ⟨x3,x4⟩ <;> rw [x1,x2,x3,x4] <;> (repeat' split) <;> omega
  have a3:bN (e < Q)≤bN (e < P):=by
   unfold bN;by_cases h:e < Q
   ·rw [if_pos h,if_pos (by omega)]
    exact Nat.le_refl _
   ·rw [if_neg h]
    exact Nat.zero_le _
  have a4:=bN_le (e < P);omega
 ·have hp5:p.n=5:=by omega
  rw [if_neg (by omega),if_pos ⟨by omega,h4⟩,if_neg (by omega),if_pos ⟨hp5,h4⟩];unfold oneN bN;have hm:max q.e1 q.e2=P:=by omega
  rw [hm];rcases h1 with ⟨x1,x2⟩ | ⟨x1,x2⟩ <;> rcases h2 with ⟨x3,x4⟩ | ⟨x3,x4⟩ <;> rw [x1,x2,x3,x4] <;> (repeat' split) <;> omega
theorem psi_dec {p p' q r:Pf} {P Q e:Nat} (hQ:Q < P) (h1:(p.e1=P∧p.e2=e) ∨ (p.e1=e∧p.e2=P)) (h2:(p'.e1=Q∧p'.e2=e) ∨ (p'.e1=e∧p'.e2=Q))
  (h3:(q.e1=P∧q.e2=Q) ∨ (q.e1=Q∧q.e2=P)):psi p' q r < psi p q r:=by
 have hm:=rkE_mono (p:=p') (q:=q) (r:=r) (p':=p) (q':=q) (r':=r) fun u hu=>by
  unfold inE at hu ⊢;omega
 have hl:=rkE_lt (p:=p) (q:=q) (r:=r) hQ (by unfold inE;omega);have m1:=hm Q;have m2:=hm e;have m3:=hm q.e1;have m4:=hm q.e2;have m5:=hm r.e1;have m6:=hm r.e2;unfold psi;rcases h1 with ⟨x1,x2⟩ | ⟨x1,x2⟩ <;> rcases h2 with ⟨x3,x4⟩ | ⟨x3,x4⟩ <;> rw [x1,x2,x3,x4] <;> omega
theorem q2_dec {p p' q:Pf} (hn:p'.n=p.n) (h:3 * p'.f+rho p' q < 3 * p.f+rho p q):q2 p' q < q2 p q:=by
 unfold q2;rw [hn];split
 ·omega
 ·split <;> omega
theorem phi_keep {p p' q r:Pf} (hp:Real p) (hq:Real q) (hr:RA r) (h:Keep p p' q):phi p' q r < phi p q r:=by
 have hn:=h.n;have hk:=h.k;have ht:=h.t1;have hs:=h.s1;have hl:=h.l1;have hl2:=h.l2;have p5:=hp.n5;have r5:=hr.bds.1;unfold phi;rw [hn];by_cases h1:4≤p.n
 ·rw [if_pos h1,if_pos h1]
  rcases ht with ht | ht
  ·have hf:=hl ht h1
   have hq4:¬ 4≤q.n:=by omega
   rw [if_neg hq4,if_neg hq4];by_cases h4:4≤r.n
   ·rw [if_pos h4,if_pos h4]
    have:=q2_dec (p:=p) (p':=p') (q:=r) hn (by have:=rho_le p' r;omega);omega
   ·rw [if_neg h4,if_neg h4]
    unfold y1;rw [hn];omega
  ·obtain ⟨hf,P,Q,e,a1,a2,a3,a4,a5⟩:=hl2 ht h1
   have hq4:4≤q.n:=by omega
   rw [if_pos hq4,if_pos hq4];by_cases h4:4≤r.n
   ·rw [if_pos h4,if_pos h4]
    have:=psi_dec (r:=r) a1 a2 a3 a4;have hne:¬ p.n+q.n+r.n=15:=by omega
    unfold r3;rw [hn,if_neg hne,if_neg hne];omega
   ·rw [if_neg h4,if_neg h4]
    have:=rho_dec hn ht ⟨h1,p5⟩ a1 a2 a3 a4 a5;have:=q2_dec (p:=p) (p':=p') (q:=q) hn (by omega);omega
 ·clear hl2 hl
  rw [if_neg h1,if_neg h1];have hk2:=hk (by omega);by_cases h3:4≤q.n
  ·rw [if_pos h3,if_pos h3]
   split <;> omega
  ·rw [if_neg h3,if_neg h3]
   have hs2:=hs (by omega) (by omega);split <;> omega
theorem phi_drop {p q r:Pf} (hp:Real p) (h0:p.n=0):phi absent q r < phi p q r:=by
 have:=hp.r0 h0;have a0:absent.n=0:=rfl;have a1:absent.K=0:=rfl;have a2:absent.F=0:=rfl;have h4:¬ 4≤absent.n:=by omega
 have h5:¬ 4≤p.n:=by omega
 unfold phi;rw [if_neg h4,if_neg h5];split
 ·split <;> omega
 ·split <;> omega
end Go.Proofs.YtkimajabegojoaaGreat
