/- Contracts and lemmas of this seat, many texts in one: see the words ahead of each. No condition beyond those typed in each lemma. -/
import Derived.Test.YthampgpcajmopaaGreatJn1
import Derived.Shelf.Small.Wraps
import Derived.Shelf.Sort.Plain
import Derived.Shelf.Slices.Reverse
import Derived.Ground.Names2Prog
import Derived.Shelf.Slices.CompactI
import Derived.Shelf.Slices.Cells
import Derived.Shelf.Slices.In.SortNone
import Derived.Test.YthampgpcajmopaaGreatProg
import Derived.Lib.OwnBridge
import Derived.Shelf.SlGeneric
import Derived.Shelf.SlSortCmp.WholeK
import Derived.Shelf.SlicesQ.Contains
import Derived.Shelf.SlicesQ.Equal
import Derived.Ground.SlsfProg
import Derived.Ground.SlgqProg
import Derived.Deep.AppendLies
import Derived.RegionTactic
import Derived.Deep.QuietTactic
import Derived.Deep.Matrix
import Derived.Lib.SmallJoins
import Derived.ProofKit
import Derived.OpenShut
import Derived.ShutString
import Derived.ChangeOld
import Derived.Deep.RegionHeld3

namespace Go.Proofs.YthampgpcajmopaaGreat
set_option linter.unusedVariables false
set_option linter.unusedSimpArgs false
set_option maxHeartbeats 40000000
set_option maxRecDepth 100000
def GenL (es:List Ed) (w:List Int):Prop:=∃ w2,LtW w2∧Eqv w w2∧Pa es 0 w2 0
theorem genL_inS {r s:Int} {es:List Ed} (h:IsFol r s es) {w:List Int} (hw:LtW w):GenL es w↔InS es w:=by
 constructor
 ·rintro ⟨w2,l2,e,p⟩
  exact (InS.eqv e).2 (InS.mk h p)
 ·exact fun h2=>⟨Go.Proofs.YthampgpcajmopaaGreat.red [] w,lt_red hw,(Eqv.toRed hw).symm,h2⟩
theorem mem_mergeE {p:Int × Int} {es:List Ed} {f:Ed}:f∈mergeE p es↔∃ e∈es,foldE p e=f:=by
 unfold mergeE;rw [mem_canon,List.mem_map]
theorem merge_sp {p:Int × Int} {es:List Ed} {i x j:Int}:Sp (mergeE p es) i x j↔∃ u v,foldV p u=i∧foldV p v=j∧Sp es u x v:=by
 constructor
 ·rintro (⟨h1,h2⟩ | ⟨h1,h2⟩)
  ·obtain ⟨e,he,h3⟩:=mem_mergeE.1 h2
   injection h3 with h3 h4 h5
   exact ⟨e.a,e.b,h3,h5,.inl ⟨h1,by rw [← h4];exact he⟩⟩
  ·obtain ⟨e,he,h3⟩:=mem_mergeE.1 h2
   injection h3 with h3 h4 h5
   exact ⟨e.b,e.a,h5,h3,.inr ⟨h1,by rw [← h4];exact he⟩⟩
 ·rintro ⟨u,v,rfl,rfl,(⟨h1,h2⟩ | ⟨h1,h2⟩)⟩
  ·exact .inl ⟨h1,mem_mergeE.2 ⟨_,h2,rfl⟩⟩
  ·exact .inr ⟨h1,mem_mergeE.2 ⟨_,h2,rfl⟩⟩
theorem merge_pa {p:Int × Int} {es:List Ed}:∀ {w:List Int} {u v:Int},Pa es u w v→Pa (mergeE p es) (foldV p u) w (foldV p v)
 | [],_,_,h=>by cases h;rfl
 | _ :: _,_,_,⟨t,h1,h2⟩=>⟨foldV p t,merge_sp.2 ⟨_,_,rfl,rfl,h1⟩,merge_pa h2⟩
def Apex (es:List Ed) (p:Int × Int):Prop:=∃ c x,Sp es c x p.1∧Sp es c x p.2
theorem apex_AB {r s:Int} {es:List Ed} (hg:∀ e∈es,InG r s e) {e f:Ed} (he:e∈es) (hf:f∈es) {p:Int × Int} (h:p∈foldsAB e f):Apex es p:=by
 have h1:=hg e he;have h2:=hg f hf;simp only [InG] at h1 h2;have se:=sp_edge he (by omega);have sf:=sp_edge hf (by omega);unfold foldsAB at h;split at h
 ·rename_i hl
  rcases List.mem_append.1 h with h | h
  ·split at h
   ·rename_i ha
    rw [List.mem_singleton] at h;subst h;rw [← hl,← ha] at sf;rcases Int.le_total e.b f.b with hm | hm
    ·refine ⟨e.a,e.l,?_,?_⟩
     ·rw [Int.min_eq_left hm];exact se
     ·rw [Int.max_eq_right hm];exact sf
    ·refine ⟨e.a,e.l,?_,?_⟩
     ·rw [Int.min_eq_right hm];exact sf
     ·rw [Int.max_eq_left hm];exact se
   ·cases h
  ·split at h
   ·rename_i hb
    rw [List.mem_singleton] at h;subst h;rw [← hl,← hb] at sf;rcases Int.le_total e.a f.a with hm | hm
    ·refine ⟨e.b, -e.l,?_,?_⟩
     ·rw [Int.min_eq_left hm];exact se.neg
     ·rw [Int.max_eq_right hm];exact sf.neg
    ·refine ⟨e.b, -e.l,?_,?_⟩
     ·rw [Int.min_eq_right hm];exact sf.neg
     ·rw [Int.max_eq_left hm];exact se.neg
   ·cases h
 ·cases h
theorem apex_mem {r s:Int} {es:List Ed} (hg:∀ e∈es,InG r s e) {p:Int × Int}:∀ {fs:List Ed},(∀ e∈fs,e∈es)→p∈folds fs→Apex es p
 | [],_,h=>by cases h
 | e :: t,hs,h=>by
  rcases List.mem_append.1 h with h | h
  ·obtain ⟨f,hf,h⟩:=List.mem_flatMap.1 h
   exact apex_AB hg (hs e List.mem_cons_self) (hs f (List.mem_cons_of_mem _ hf)) h
  ·exact apex_mem hg (fun x hx=>hs x (List.mem_cons_of_mem _ hx)) h
theorem foldV_inj {p:Int × Int} (hp:p.1 < p.2) {u v:Int} (h:foldV p u=foldV p v):u=v ∨ (u=p.1∧v=p.2) ∨ (u=p.2∧v=p.1):=by
 unfold foldV at h;split at h <;> split at h <;> (try split at h) <;> (try split at h) <;> omega
theorem foldV_zero {p:Int × Int} (h0:0≤p.1) (hp:p.1 < p.2):foldV p 0=0:=by
 unfold foldV;rw [if_neg (by omega),if_neg (by omega)]
theorem Apex.jump {r s:Int} {es:List Ed} (hg:IsGr r s es) {p:Int × Int} (ha:Apex es p) (hp:p.1 < p.2) {u v:Int} (h:foldV p u=foldV p v) :
  ∃ j,Pa es u j v∧∀ (out b:List Int),Rd out→LtW out→red out (j++b)=red out b:=by
 obtain ⟨c,x,h1,h2⟩:=ha;have hx:=(h1.lt3 hg).neg;have hr:∀ (out b:List Int),Rd out→LtW out→red out ([-x,x]++b)=red out b:=fun out b ho hl=>by
  have:=red_pair b ho hl hx
  rwa [Int.neg_neg] at this
 rcases foldV_inj hp h with rfl | ⟨rfl,rfl⟩ | ⟨rfl,rfl⟩
 ·exact ⟨[],rfl,fun _ _ _ _=>rfl⟩
 ·exact ⟨[-x,x],⟨c,h1.neg,_,h2,rfl⟩,hr⟩
 ·exact ⟨[-x,x],⟨c,h2.neg,_,h1,rfl⟩,hr⟩
theorem fold_lift {r s:Int} {es:List Ed} (hg:IsGr r s es) {p:Int × Int} (ha:Apex es p) (hp:p.1 < p.2):∀ {w:List Int} {u t:Int},Pa (mergeE p es) (foldV p u) w t →
  ∃ w2 v,foldV p v=t∧Pa es u w2 v∧∀ out,Rd out→LtW out→red out w2=red out w
 | [],u,t,h=>⟨[],u,h,rfl,fun _ _ _=>rfl⟩
 | x :: w,u,t,⟨q,h1,h2⟩=>by
  obtain ⟨u',q',hu',rfl,hs⟩:=merge_sp.1 h1;obtain ⟨j,hj,hjr⟩:=ha.jump hg hp hu'.symm;obtain ⟨w2,v,hv,hw2,hr⟩:=fold_lift hg ha hp h2;refine ⟨j++x :: w2,v,hv,hj.app ⟨q',hs,hw2⟩,fun out ho hl=>?_⟩;have hx:=hs.lt3 hg;rw [hjr out _ ho hl,red_cons,red_cons,hr _ (ho.step hl hx) (LtW.red (w:=[x]) hl (LtW.one hx))]
theorem merge_lang {r s:Int} {es:List Ed} (hg:IsGr r s es) {p:Int × Int} (ha:Apex es p) (h0:0≤p.1) (hp:p.1 < p.2) (w:List Int):GenL (mergeE p es) w↔GenL es w:=by
 have hz:=foldV_zero h0 hp;constructor
 ·rintro ⟨w2,l2,e,h⟩
  rw [← hz] at h;obtain ⟨w3,v,hv,h3,hr⟩:=fold_lift hg ha hp h;obtain ⟨j,hj,hjr⟩:=ha.jump hg hp (u:=v) (v:=0) (by rw [hv]);have h4:=h3.app hj;refine ⟨w3++j,h4.lt hg,e.trans ?_,h4⟩;unfold Eqv;have h5:=hjr (red [] w3) [] (rd_red (h3.lt hg)) (lt_red (h3.lt hg));rw [List.append_nil] at h5;rw [red_append,h5,red_nil,hr [] Rd.nil LtW.nil]
 ·rintro ⟨w2,l2,e,h⟩
  have:=merge_pa (p:=p) h;rw [hz] at this;exact ⟨w2,l2,e,this⟩
theorem foldA_lang {r:Int} (w:List Int):∀ (n:Nat) {g:Int × List Ed},IsGr r g.1 g.2→(GenL (foldA n g).2 w↔GenL g.2 w)
 | 0,g,_=>Iff.rfl
 | n+1,g,h=>by
  cases hf:folds g.2 with
  | nil=>rw [foldA_nil hf]
  | cons p t =>
   rw [foldA_cons hf];have hm:p∈folds g.2:=by rw [hf];exact List.mem_cons_self
   obtain ⟨h1,h2,h3⟩:=mem_folds h.all h.asc hm;exact (foldA_lang w n (mergeE_gr h h1 h2 h3)).trans (merge_lang h (apex_mem h.all (fun e he=>he) hm) h1 h2 w)
theorem deg_one {es:List Ed} {e:Ed} (he:e∈es) (v:Int):degE v e≤deg es v:=by
 induction es with
 | nil=>cases he
 | cons a t ih =>
  have h:deg (a :: t) v=degE v a+deg t v:=by simp [deg]
  rcases List.mem_cons.1 he with rfl | he
  ·omega
  ·have:=ih he
   omega
theorem deg_two {es:List Ed} {e f:Ed} (he:e∈es) (hf:f∈es) (hne:e≠f) (v:Int):degE v e+degE v f≤deg es v:=by
 induction es with
 | nil=>cases he
 | cons a t ih =>
  have h:deg (a :: t) v=degE v a+deg t v:=by simp [deg]
  rcases List.mem_cons.1 he with h1 | h1 <;> rcases List.mem_cons.1 hf with h2 | h2
  ·exact absurd (h1.trans h2.symm) hne
  ·have:=deg_one h2 v
   rw [h1];omega
  ·have:=deg_one h1 v
   rw [h2];omega
  ·have:=ih h1 h2
   omega
theorem Sp.degE {es:List Ed} {v y t:Int} (h:Sp es v y t):∃ e∈es,1≤degE v e∧((0 < y∧e.a=v∧e.l=y∧e.b=t) ∨ (y < 0∧e.b=v∧e.l = -y∧e.a=t)):=by
 rcases h with ⟨h1,h2⟩ | ⟨h1,h2⟩
 ·exact ⟨_,h2,by simp [Go.Proofs.YthampgpcajmopaaGreat.degE],.inl ⟨h1,rfl,rfl,rfl⟩⟩
 ·exact ⟨_,h2,by simp [Go.Proofs.YthampgpcajmopaaGreat.degE],.inr ⟨h1,rfl,rfl,rfl⟩⟩
def Two (es:List Ed) (v:Int):Prop:=∃ y z t t',y≠z∧Sp es v y t∧Sp es v z t'
theorem Two.deg {es:List Ed} {v:Int} (h:Two es v):2≤deg es v:=by
 obtain ⟨y,z,t,t',hne,h1,h2⟩:=h;obtain ⟨e,he,d1,c1⟩:=h1.degE;obtain ⟨f,hf,d2,c2⟩:=h2.degE;by_cases hef:e=f
 ·subst hef
  have:degE v e=2:=by
   unfold Go.Proofs.YthampgpcajmopaaGreat.degE;rcases c1 with ⟨a1,a2,a3,a4⟩ | ⟨a1,a2,a3,a4⟩ <;> rcases c2 with ⟨b1,b2,b3,b4⟩ | ⟨b1,b2,b3,b4⟩
   ·omega
   ·rw [if_pos a2,if_pos b2]
   ·rw [if_pos b2,if_pos a2]
   ·omega
  have:=deg_one he v;omega
 ·have:=deg_two he hf hef v
  omega
theorem two_of_deg {r s:Int} {es:List Ed} (h:IsFol r s es) {v:Int} (hd:2≤deg es v):Two es v:=by
 have key:∀ fs:List Ed,(∀ e∈fs,e∈es)→Asc fs→1≤deg fs v→∃ e∈fs,1≤degE v e:=by
  intro fs
  induction fs with
  | nil=>intro _ _ h;simp [Go.Proofs.YthampgpcajmopaaGreat.deg] at h
  | cons a t ih =>
   intro hs ha hd;have h1:deg (a :: t) v=degE v a+deg t v:=by simp [Go.Proofs.YthampgpcajmopaaGreat.deg]
   by_cases h2:1≤degE v a
   ·exact ⟨a,List.mem_cons_self,h2⟩
   ·obtain ⟨e,he,h3⟩:=ih (fun e he=>hs e (List.mem_cons_of_mem _ he)) (List.pairwise_cons.1 ha).2 (by omega)
    exact ⟨e,List.mem_cons_of_mem _ he,h3⟩
 have key2:∀ fs:List Ed,(∀ e∈fs,e∈es)→Asc fs→2≤deg fs v→(∃ e∈fs,degE v e=2) ∨ ∃ e∈fs,∃ f∈fs,e≠f∧1≤degE v e∧1≤degE v f:=by
  intro fs
  induction fs with
  | nil=>intro _ _ h;simp [Go.Proofs.YthampgpcajmopaaGreat.deg] at h
  | cons a t ih =>
   intro hs ha hd;have h1:deg (a :: t) v=degE v a+deg t v:=by simp [Go.Proofs.YthampgpcajmopaaGreat.deg]
   have hle:degE v a≤2:=by unfold Go.Proofs.YthampgpcajmopaaGreat.degE;split <;> split <;> omega
   obtain ⟨hlt,hasc⟩:=List.pairwise_cons.1 ha;by_cases h2:degE v a=2
   ·exact .inl ⟨a,List.mem_cons_self,h2⟩
   ·by_cases h3:1≤degE v a
    ·obtain ⟨e,he,h4⟩:=key t (fun e he=>hs e (List.mem_cons_of_mem _ he)) hasc (by omega)
     exact .inr ⟨a,List.mem_cons_self,e,List.mem_cons_of_mem _ he,(hlt e he).ne,h3,h4⟩
    ·rcases ih (fun e he=>hs e (List.mem_cons_of_mem _ he)) hasc (by omega) with ⟨e,he,h4⟩ | ⟨e,he,f,hf,h4⟩
     ·exact .inl ⟨e,List.mem_cons_of_mem _ he,h4⟩
     ·exact .inr ⟨e,List.mem_cons_of_mem _ he,f,List.mem_cons_of_mem _ hf,h4⟩
 have way:∀ e∈es,1≤degE v e→(e.a=v∧Sp es v e.l e.b) ∨ (e.b=v∧Sp es v (-e.l) e.a):=by
  intro e he h1;have hl:=h.gr.all e he;simp only [InG] at hl;have hs:=sp_edge he (by omega);unfold Go.Proofs.YthampgpcajmopaaGreat.degE at h1;by_cases ha:e.a=v
  ·exact .inl ⟨ha,by rw [← ha];exact hs⟩
  ·by_cases hb:e.b=v
   ·exact .inr ⟨hb,by rw [← hb];exact hs.neg⟩
   ·rw [if_neg ha,if_neg hb] at h1
    omega
 rcases key2 es (fun e he=>he) h.gr.asc hd with ⟨e,he,h2⟩ | ⟨e,he,f,hf,hne,h1,h2⟩
 ·have hl:=h.gr.all e he
  simp only [InG] at hl;have hs:=sp_edge he (by omega);unfold Go.Proofs.YthampgpcajmopaaGreat.degE at h2;have ha:e.a=v:=by
   apply Classical.byContradiction;intro hc;rw [if_neg hc] at h2;split at h2 <;> omega
  have hb:e.b=v:=by
   apply Classical.byContradiction;intro hc;rw [if_neg hc] at h2;split at h2 <;> omega
  refine ⟨e.l, -e.l,e.b,e.a,by omega,by rw [← ha];exact hs,?_⟩;rw [← hb];exact hs.neg
 ·have le:=h.gr.all e he
  have lf:=h.gr.all f hf;simp only [InG] at le lf;rcases way e he h1 with ⟨a1,s1⟩ | ⟨a1,s1⟩ <;> rcases way f hf h2 with ⟨a2,s2⟩ | ⟨a2,s2⟩
  ·exact ⟨_,_,_,_,fun e1=>hne (h.key e he f hf ⟨e1,.inl (a1.trans a2.symm)⟩),s1,s2⟩
  ·exact ⟨_,_,_,_,by omega,s1,s2⟩
  ·exact ⟨_,_,_,_,by omega,s1,s2⟩
  ·exact ⟨_,_,_,_,fun e1=>hne (h.key e he f hf ⟨by omega,.inr (a1.trans a2.symm)⟩),s1,s2⟩
theorem conn_pa {r s:Int} {es:List Ed} (hg:∀ e∈es,InG r s e) {v u:Int}:Conn es v u↔∃ w,Pa es v w u:=by
 constructor
 ·intro h
  induction h with
  | here=>exact ⟨[],rfl⟩
  | @out e he _ ih =>
   obtain ⟨w,hw⟩:=ih;have hl:=hg e he;simp only [InG] at hl;exact ⟨_,hw.snoc (sp_edge he (by omega))⟩
  | @inn e he _ ih =>
   obtain ⟨w,hw⟩:=ih;have hl:=hg e he;simp only [InG] at hl;exact ⟨_,hw.snoc (sp_edge he (by omega)).neg⟩
 ·rintro ⟨w,hw⟩
  have key:∀ (w:List Int) (t:Int),Conn es v t→Pa es t w u→Conn es v u:=by
   intro w
   induction w with
   | nil=>intro t ht h;cases h;exact ht
   | cons x w ih =>
    rintro t ht ⟨q,h1,h2⟩;refine ih q ?_ h2;rcases h1 with ⟨_,h1⟩ | ⟨_,h1⟩
    ·exact Conn.out h1 ht
    ·exact Conn.inn h1 ht
  exact key w v Conn.here hw
theorem leaf_none_iff {r s:Int} {es:List Ed} (h:IsFol r s es):leaf s es=none↔∀ v,1≤v→v < s→Two es v∧∃ w,Pa es 0 w v:=by
 constructor
 ·intro hl v h1 h2
  rcases leaf_cases s es with ⟨_,hall⟩ | ⟨u,hu,_⟩
  ·have:=hall v.toNat (by omega) (by omega)
   rw [Int.toNat_of_nonneg (by omega)] at this;unfold Bad at this;refine ⟨two_of_deg h (by omega),(conn_pa h.gr.all).1 (Classical.byContradiction fun hc=>this (.inr hc))⟩
  ·rw [hl] at hu
   cases hu
 ·intro hall
  refine leaf_none fun u h1 h2 hb=>?_;obtain ⟨h3,h4⟩:=hall u (by omega) h2;rcases hb with hb | hb
  ·have:=h3.deg
   omega
  ·exact hb ((conn_pa h.gr.all).2 h4)
theorem leaf_avoid {r s:Int} {es:List Ed} (h:IsFol r s es) {v:Int} (hv:v≠0) (hb:Bad es v) {w a b:List Int} (hr:Rd w) (e:w=a++b) (h1:Pa es 0 a v) (h2:Pa es v b 0):False:=by
 rcases hb with hb | hb
 ·rcases snoc_cases a with rfl | ⟨a',x,rfl⟩
  ·cases h1
   exact hv rfl
  ·cases b with
   | nil=>cases h2;exact hv rfl
   | cons y b' =>
    obtain ⟨t,h3,h4⟩:=pa_app.1 h1;have h4:=(pa_one.1 h4).neg;obtain ⟨t',h5,h6⟩:=h2;by_cases hxy:y = -x
    ·subst hxy
     exact hr a' b' x (by rw [e];simp)
    ·have:=Two.deg (es:=es) (v:=v) ⟨y, -x,t',t,hxy,h5,h4⟩
     omega
 ·exact hb ((conn_pa h.gr.all).2 ⟨a,h1⟩)
theorem mem_butV {v:Nat} {n:Nat} {x:Int}:x∈but v n↔0≤x∧x < n∧x≠v:=by
 rw [mem_but];constructor
 ·rintro ⟨u,h1,h2,rfl⟩
  omega
 ·rintro ⟨h1,h2,h3⟩
  exact ⟨x.toNat,by omega,by omega,by omega⟩
theorem but_zero {v n:Nat} (hv:1≤v) (hn:v < n):idxI (but v n) 0=0:=by
 refine idxI_at (but_nodup v n) (k:=0) ?_;obtain ⟨m,rfl⟩:∃ m,n=m+1:=⟨n - 1,by omega⟩
 unfold but;have:List.range (m+1)=0 :: (List.range m).map Nat.succ:=List.range_succ_eq_map;rw [this,List.filter_cons,if_pos (by simp;omega)]
 rfl
theorem cut_fol {r:Int} {g:Int × List Ed} {v:Nat} (h:IsFol r g.1 g.2) (h1:1≤v) (h2:(v:Int) < g.1):IsFol r (cutV g v).1 (cutV g v).2:=by
 have hs:=h.gr.size;have hl:=but_len v (show v < g.1.toNat by omega);refine part_fol h (fun e=>?_) (by omega);rw [e] at hl;simp at hl;omega
theorem cut_lang {r:Int} {g:Int × List Ed} {v:Nat} (h:IsFol r g.1 g.2) (h1:1≤v) (h2:(v:Int) < g.1) (hb:Bad g.2 v) {w:List Int} (hw:LtW w):InS (cutV g v).2 w↔InS g.2 w:=by
 have hz:=but_zero h1 (show v < g.1.toNat by omega);have hs:=h.gr.size;unfold InS;constructor
 ·intro hp
  obtain ⟨u,hu,hi,hp2⟩:=part_pa_to (ord:=but v g.1.toNat) (es:=g.2) hp 0 (mem_butV.2 (by omega)) hz;have:=idxI_inj (mem_butV.2 (by omega)) hu (hz.trans hi.symm);subst this;exact hp2
 ·intro hp
  have:=part_pa_of (ord:=but v g.1.toNat) hp fun a b t e h3=>by
   have ht:=h3.rng h.gr.all (by omega);refine mem_butV.2 ⟨ht.1,by omega,fun e2=>?_⟩;have h4:Pa g.2 t b 0:=by
    rw [e] at hp;obtain ⟨t',h5,h6⟩:=pa_app.1 hp
    rwa [h3.det h h5]
   rw [e2] at h3 h4;exact leaf_avoid h (by omega) hb (rd_red hw) e h3 h4
  rwa [hz] at this
theorem trimA_lang {r:Int} {w:List Int} (hw:LtW w):∀ (n:Nat) {g:Int × List Ed},IsFol r g.1 g.2→IsFol r (trimA n g).1 (trimA n g).2∧(InS (trimA n g).2 w↔InS g.2 w)
 | 0,g,h=>⟨h,Iff.rfl⟩
 | n+1,g,h=>by
  cases hf:leaf g.1 g.2 with
  | none=>rw [trimA_none hf];exact ⟨h,Iff.rfl⟩
  | some v =>
   rw [trimA_some hf];obtain ⟨h1,h2,h3⟩:=leaf_spec hf;have h4:=trimA_lang hw n (cut_fol h h1 h2);exact ⟨h4.1,h4.2.trans (cut_lang h h1 h2 h3 hw)⟩
theorem trimA_fol {r:Int} (n:Nat) {g:Int × List Ed} (h:IsFol r g.1 g.2):IsFol r (trimA n g).1 (trimA n g).2:=(trimA_lang LtW.nil n h).1
theorem trimA_leaf:∀ (n:Nat) {g:Int × List Ed},g.1≤n→leaf (trimA n g).1 (trimA n g).2=none
 | 0,g,h=>by
  cases hf:leaf g.1 g.2 with
  | none=>rw [trimA_none hf];exact hf
  | some v =>
   obtain ⟨h1,h2,h3⟩:=leaf_spec hf;omega
 | n+1,g,h=>by
  cases hf:leaf g.1 g.2 with
  | none=>rw [trimA_none hf];exact hf
  | some v =>
   rw [trimA_some hf];obtain ⟨h1,h2,h3⟩:=leaf_spec hf;exact trimA_leaf n (by rw [cutV_size h2];omega)
theorem ordE_zero {r s:Int} {es:List Ed} (h:IsFol r s es):idxI (ordE r es 0) 0=0:=idxI_at (ordE_len h.gr (Int.le_refl _) (by have:=h.gr.size;omega)).2.2.1 (k:=0) (ordE_head r es 0)
theorem canonG_val {r:Int} {g:Int × List Ed} (h:IsFol r g.1 g.2):canonG r g=(((ordE r g.2 0).length:Int),partE (ordE r g.2 0) g.2):=by
 unfold canonG;rw [if_pos h]
theorem canonG_isfol {r:Int} {g:Int × List Ed} (h:IsFol r g.1 g.2):IsFol r (canonG r g).1 (canonG r g).2:=by
 rw [canonG_val h];have hs:=h.gr.size;have hl:=ordE_len h.gr (v:=0) (Int.le_refl _) (by omega);exact part_fol h (fun e=>by rw [e] at hl;simp at hl) (by omega)
theorem canonG_lang {r:Int} {g:Int × List Ed} (h:IsFol r g.1 g.2) {w:List Int}:InS (canonG r g).2 w↔InS g.2 w:=by
 have hz:=ordE_zero h;have hs:=h.gr.size;rw [canonG_val h];unfold InS;constructor
 ·intro hp
  obtain ⟨u,hu,hi,hp2⟩:=part_pa_to (ord:=ordE r g.2 0) (es:=g.2) hp 0 (ordE_self r g.2 0) hz;have:=idxI_inj (ordE_self r g.2 0) hu (hz.trans hi.symm);subst this;exact hp2
 ·intro hp
  have:=part_pa_of (ord:=ordE r g.2 0) hp fun a b t e h3=>bfs_reach h (Int.le_refl _) (by omega) (ordE_self r g.2 0) h3
  rwa [hz] at this
theorem canonG_two {r:Int} {g:Int × List Ed} (h:IsFol r g.1 g.2) (hl:leaf g.1 g.2=none):leaf (canonG r g).1 (canonG r g).2=none:=by
 have hf:=canonG_isfol h;refine (leaf_none_iff hf).2 fun i h1 h2=>?_;rw [canonG_val h] at h2 ⊢;have hs:=h.gr.size;have hnd:=(ordE_len h.gr (v:=0) (Int.le_refl _) (by omega)).2.2;obtain ⟨k,rfl⟩:=Int.eq_ofNat_of_zero_le (by omega:0≤i);have hk:k < (ordE r g.2 0).length:=by simp only at h2;omega
 have hm:(ordE r g.2 0)[k]∈ordE r g.2 0:=List.getElem_mem hk;have hi:idxI (ordE r g.2 0) ((ordE r g.2 0)[k])=k:=idxI_at hnd.1 (List.getElem?_eq_getElem hk);generalize (ordE r g.2 0)[k]=u at hm hi;have hur:=hnd.2 u hm;have hu0:u≠0:=fun e=>by
  rw [e,ordE_zero h] at hi;omega
 obtain ⟨⟨y,z,t,t',hyz,s1,s2⟩,w,hw⟩:=(leaf_none_iff h).1 hl u (by omega) hur.2;have ht:=bfs_reach h (Int.le_refl _) (by omega) hm (pa_one.2 s1);have ht':=bfs_reach h (Int.le_refl _) (by omega) hm (pa_one.2 s2);refine ⟨⟨y,z,_,_,hyz,part_sp.2 ⟨u,t,hm,ht,hi,rfl,s1⟩,part_sp.2 ⟨u,t',hm,ht',hi,rfl,s2⟩⟩,w,?_⟩;have:=part_pa_of (ord:=ordE r g.2 0) hw fun a b q e h3=>bfs_reach h (Int.le_refl _) (by omega) (ordE_self r g.2 0) h3;rw [ordE_zero h,hi] at this;exact this
theorem map_idx {ord:List Int} (hn:ord.Nodup):ord.map (idxI ord)=(List.range ord.length).map fun (k:Nat)=>(k:Int):=by
 refine List.ext_getElem (by simp) fun k h1 h2=>?_;simp only [List.getElem_map,List.getElem_range];exact idxI_at hn (List.getElem?_eq_getElem (by simpa using h1))
theorem part_upto {r:Int} {n:Nat} {es:List Ed} (hg:∀ e∈es,InG r n e) (ha:Asc es):partE ((List.range n).map fun (k:Nat)=>(k:Int)) es=es:=by
 have hm:∀ v:Int,0≤v→v < n→v∈((List.range n).map fun (k:Nat)=>(k:Int))∧idxI ((List.range n).map fun (k:Nat)=>(k:Int)) v=v:=fun v h1 h2=>by
  have hnd:((List.range n).map fun (k:Nat)=>(k:Int)).Nodup:=by
   unfold List.Nodup;rw [List.pairwise_map];exact (List.pairwise_lt_range (n:=n)).imp fun h=>by omega
  obtain ⟨k,rfl⟩:=Int.eq_ofNat_of_zero_le h1;have hk:((List.range n).map fun (k:Nat)=>(k:Int))[k]?=some (k:Int):=by
   rw [List.getElem?_map,List.getElem?_range (by omega)]
   rfl
  exact ⟨List.mem_of_getElem? hk,idxI_at hnd hk⟩
 refine asc_ext (asc_canon _) ha fun f=>?_;rw [mem_partE];constructor
 ·rintro ⟨e,he,h1,h2,rfl⟩
  have hi:=hg e he;simp only [InG] at hi;rw [(hm e.a (by omega) (by omega)).2,(hm e.b (by omega) (by omega)).2];exact he
 ·intro he
  have hi:=hg f he;simp only [InG] at hi;refine ⟨f,he,(hm f.a (by omega) (by omega)).1,(hm f.b (by omega) (by omega)).1,?_⟩;rw [(hm f.a (by omega) (by omega)).2,(hm f.b (by omega) (by omega)).2]
theorem ordE_def (r:Int) (es:List Ed) (v:Int):ordE r es v=(bfs es (lets r.toNat) v).map Prod.fst:=rfl
theorem bfs_part {r s:Int} {es:List Ed} (h:IsFol r s es):bfs (partE (ordE r es 0) es) (lets r.toNat) 0=(bfs es (lets r.toNat) 0).map fun p=>(idxI (ordE r es 0) p.1,p.2):=by
 have hs:=h.gr.size;have hz:=ordE_zero h;have hord:=ordE_len h.gr (v:=0) (Int.le_refl _) (by omega);have hf2:IsFol r (ordE r es 0).length (partE (ordE r es 0) es):=part_fol h (fun e=>by rw [e] at hord;simp at hord) (by omega);have hre:∀ {u t x:Int},u∈ordE r es 0→Sp es u x t→t∈ordE r es 0:=fun hu hs2=>bfs_reach h (Int.le_refl _) (by omega) hu (pa_one.2 hs2);have h0:=ordE_self r es 0;generalize ordE r es 0=ord at hz hf2 hre h0 ⊢;have:=bfs_iso (es:=es) (es':=partE ord es) (L:=lets r.toNat) (v:=0) (f:=idxI ord) (R:=fun u=>u∈ord) h0
  (fun u hu x hx hn=>hre hu (sp_nextV hn))
  (fun u hu x hx hn=>by
   apply Classical.byContradiction;intro hc;obtain ⟨u',t',hu',ht',e1,e2,hsp⟩:=part_sp.1 (sp_nextV (by omega:0≤nextV (partE ord es) (idxI ord u) x));have:=idxI_inj hu' hu e1;subst this;exact nextV_no hn h.gr.nn _ hsp)
  (fun u hu x hx hn=>by
   have ht:=hre hu (sp_nextV hn);exact ⟨nextV_sp hf2 (part_sp.2 ⟨u,_,hu,ht,rfl,rfl,sp_nextV hn⟩),idxI_mem.2 ht⟩)
  (fun u t hu ht e=>idxI_inj hu ht e)
 rwa [hz] at this
theorem map_fst_idx (st:BS) (ord:List Int):(st.map fun p=>(idxI ord p.1,p.2)).map Prod.fst=(st.map Prod.fst).map (idxI ord):=by
 rw [List.map_map,List.map_map];exact List.map_congr_left fun p _=>rfl
theorem ordE_part {r s:Int} {es:List Ed} (h:IsFol r s es):ordE r (partE (ordE r es 0) es) 0=(List.range (ordE r es 0).length).map fun (k:Nat)=>(k:Int):=by
 have hs:=h.gr.size;have hord:=ordE_len h.gr (v:=0) (Int.le_refl _) (by omega);have hb:=bfs_part h;rw [ordE_def r (partE (ordE r es 0) es) 0,hb,map_fst_idx,← ordE_def r es 0,map_idx hord.2.2.1]
theorem canonG_idem {r:Int} {g:Int × List Ed} (h:IsFol r g.1 g.2):canonG r (canonG r g)=canonG r g:=by
 have hf:=canonG_isfol h;rw [canonG_val hf];rw [canonG_val h] at hf ⊢;simp only at hf ⊢;rw [ordE_part h,part_upto hf.gr.all hf.gr.asc];simp
theorem foldA_isFol {r s:Int} {es:List Ed} (h:IsGr r s es):IsFol r (foldA 40 (s,es)).1 (foldA 40 (s,es)).2:=⟨foldA_gr 40 (g:=(s,es)) h,folds_nil.1 (foldA_fol 40 (g:=(s,es)) h h.size.2)⟩
theorem core_cor {r s:Int} {es:List Ed} (h:IsGr r s es):IsCor r (coreA r (s,es)).1 (coreA r (s,es)).2:=by
 have hf:=foldA_isFol h;have ht:=trimA_fol 40 hf;have hs:=hf.gr.size;have hl:=trimA_leaf 40 (g:=foldA 40 (s,es)) (by omega);unfold coreA;generalize trimA 40 (foldA 40 (s,es))=g at ht hl ⊢;exact ⟨canonG_isfol ht,canonG_two ht hl,canonG_idem ht⟩
theorem core_lang {r s:Int} {es:List Ed} (h:IsGr r s es) {w:List Int} (hw:LtW w):InS (coreA r (s,es)).2 w↔GenL es w:=by
 have hf:=foldA_isFol h;have ht:=trimA_lang hw 40 hf;have h3:=(genL_inS hf hw).symm.trans (foldA_lang w 40 (g:=(s,es)) h);unfold coreA;generalize foldA 40 (s,es)=g2 at hf ht h3 ⊢;generalize trimA 40 g2=g at ht ⊢;exact (canonG_lang ht.1).trans (ht.2.trans h3)
theorem Rd.cons {y:Int} {t:List Int} (h:Rd t) (hh:∀ z s,t=z :: s→z≠-y):Rd (y :: t):=by
 intro c d z e;cases c with
 | nil =>
  injection e with e1 e2
  subst e1;exact hh _ _ e2 rfl
 | cons q c =>
  injection e with e1 e2
  exact h c d z e2
theorem Rd.join:∀ {a:List Int} {x:Int} {b:List Int},Rd (a++[x])→Rd (x :: b)→Rd (a++x :: b)
 | [],_,_,_,h=>h
 | y :: a,x,b,h1,h2=>by
  refine Rd.cons (Rd.join (a:=a) (Rd.right (a:=[y]) h1) h2) fun z s e=>?_;cases a with
  | nil =>
   injection e with e1 e2
   subst e1;intro e3;exact h1 [] [] y (by rw [e3];rfl)
  | cons q a =>
   injection e with e1 e2
   subst e1;intro e3;exact h1 [] (a++[x]) y (by rw [e3];rfl)
theorem stepE_inj {u x v u' x' v':Int} (hx:x≠0) (hx':x'≠0) (h:stepE u x v=stepE u' x' v'):(u=u'∧x=x'∧v=v') ∨ (u=v'∧x = -x'∧v=u'):=by
 unfold stepE at h;split at h <;> split at h <;> (injection h with h1 h2 h3;omega)
theorem sp_stepE {es:List Ed} {u x v:Int}:Sp es u x v↔x≠0∧stepE u x v∈es:=by
 unfold Sp stepE;constructor
 ·rintro (⟨h1,h2⟩ | ⟨h1,h2⟩)
  ·exact ⟨by omega,by rw [if_neg (by omega)];exact h2⟩
  ·exact ⟨by omega,by rw [if_pos h1];exact h2⟩
 ·rintro ⟨h1,h2⟩
  by_cases h:x < 0
  ·rw [if_pos h] at h2
   exact .inr ⟨h,h2⟩
  ·rw [if_neg h] at h2
   exact .inl ⟨by omega,h2⟩
theorem nd_uniq {st:BS} (hn:(st.map Prod.fst).Nodup) {p q:Int × List Int} (hp:p∈st) (hq:q∈st) (h:p.1=q.1):p=q:=by
 obtain ⟨i,hi,rfl⟩:=List.getElem_of_mem hp;obtain ⟨j,hj,rfl⟩:=List.getElem_of_mem hq;have hpw:=List.pairwise_iff_getElem.1 hn;rcases Nat.lt_trichotomy i j with hl | rfl | hl
 ·exact absurd (by rw [List.getElem_map,List.getElem_map];exact h) (hpw i j (by simpa using hi) (by simpa using hj) hl)
 ·rfl
 ·exact absurd (by rw [List.getElem_map,List.getElem_map];exact h.symm) (hpw j i (by simpa using hj) (by simpa using hi) hl)
theorem bfs_uniq {r s v:Int} {es:List Ed} {L:List Int} (hg:∀ e∈es,InG r s e) (h0:0≤v) (h1:v < s) {p q:Int × List Int} (hp:p∈bfs es L v) (hq:q∈bfs es L v) (h:p.1=q.1):p=q :=
 nd_uniq (bfs_ok (L:=L) hg h0 h1).nd hp hq h
theorem bfs_cases {es:List Ed} {L:List Int} {v:Int} {q:Int × List Int} (h:q∈bfs es L v):q=(v,[]) ∨ ∃ p∈bfs es L v,∃ x∈L,q=(nextV es p.1 x,p.2++[x])∧0≤nextV es p.1 x∧q∈(bfs es L v).tail:=by
 have hp:=bfs_par es L v;have h1:=bfsSt_pre' es L v 0 41;rw [Nat.zero_add] at h1;have h2:(bfs es L v)[0]?=some (v,[]):=prefix_get h1 (by simp [bfsSt]);generalize bfs es L v=st at h hp h2;cases st with
 | nil=>cases h
 | cons a t =>
  simp at h2;rcases List.mem_cons.1 h with rfl | h
  ·exact .inl h2
  ·obtain ⟨p,hp1,x,hx,e,hn⟩:=hp.par q h
   exact .inr ⟨p,hp1,x,hx,e,hn,h⟩
theorem bfs_rd {r s v:Int} {es:List Ed} {L:List Int} (hf:IsFol r s es) (h0:0≤v) (h1:v < s):∀ (n:Nat) (q:Int × List Int),q∈bfs es L v→q.2.length≤n→Rd q.2:=by
 intro n
 induction n with
 | zero =>
  intro q _ hl;have e:q.2=[]:=List.eq_nil_of_length_eq_zero (by omega);rw [e];exact Rd.nil
 | succ n ih =>
  intro q hq hl;rcases bfs_cases hq with rfl | ⟨p,hp,x,hx,e,hn, -⟩
  ·exact Rd.nil
  ·have hp2:=ih p hp (by rw [e] at hl;simp at hl;omega)
   have e2:q.2=p.2++[x]:=by rw [e]
   rw [e2];refine hp2.snoc fun t a ha hax=>?_;rcases bfs_cases hp with rfl | ⟨p',hp',y,hy,e',hn', -⟩
   ·simp at ha
   ·have e3:p.2=p'.2++[y]:=by rw [e']
    obtain ⟨rfl,rfl⟩:=snoc_inj (ha.symm.trans e3);have s1:=sp_nextV hn';have s2:=sp_nextV hn;have e4:p.1=nextV es p'.1 a:=by rw [e']
    rw [← e4] at s1;have s3:=s1.neg;rw [hax,Int.neg_neg] at s3;have e5:q.1=p'.1:=by
     have:q.1=nextV es p.1 x:=by rw [e]
     rw [this];exact hf.det s2 s3
    have e6:=bfs_uniq hf.gr.all h0 h1 hq hp' e5;have:q.2=p'.2:=by rw [e6]
    rw [e2,e3] at this;have:=congrArg List.length this;simp at this
theorem wordV_pa {r n:Nat} {es:List Ed} (h:IsCor r n es) {v:Nat} (hv:v < n):Pa es 0 (wordV r es v) v:=bfs_pa es (lets r) 0 _ (wordV_mem h hv)
theorem wordV_rd {r n:Nat} {es:List Ed} (h:IsCor r n es) {v:Nat} (hv:v < n):Rd (wordV r es v):=bfs_rd h.fol (Int.le_refl _) (by omega) _ _ (wordV_mem h hv) (Nat.le_refl _)
theorem wordV_zero {r n:Nat} {es:List Ed} (h:IsCor r n es):wordV r es 0=[]:=by
 have h1:=bfsSt_pre' es (lets r) 0 0 41;rw [Nat.zero_add] at h1;exact wordV_eq h.gr (h1.subset (by simp [bfsSt]))
theorem wordV_last {r n:Nat} {es:List Ed} (h:IsCor r n es) {v:Nat} (hv:v < n) (h0:v≠0):∃ (p:Nat) (x:Int),p < n∧wordV r es v=wordV r es p++[x]∧Sp es p x v∧stepE p x v∈treeE es (bfs es (lets r) 0):=by
 have hm:=wordV_mem h hv;rcases bfs_cases hm with e | ⟨p,hp,x,hx,e,hn,ht⟩
 ·injection e with e1 e2
  omega
 ·have hr:=(bfs_ok (L:=lets r) h.gr.all (Int.le_refl 0) (by omega:(0:Int) < n)).rng p hp
  obtain ⟨k,hk⟩:=Int.eq_ofNat_of_zero_le hr.1;injection e with e1 e2
  have hsp:=sp_nextV hn;rw [← e1,hk] at hsp;have e3:wordV r es (k:Int)=p.2:=wordV_eq h.gr (by rw [← hk];exact hp);refine ⟨k,x,by omega,by rw [e2,e3],hsp,?_⟩;unfold treeE;refine List.mem_map.2 ⟨_,ht,?_⟩;rw [e2];have:(v:Int)=nextV es p.1 x:=e1;rw [this,edgeOf_new h.fol hn,hk]
theorem treeE_word {r n:Nat} {es:List Ed} (h:IsCor r n es) {e:Ed} (he:e∈treeE es (bfs es (lets r) 0)):∃ (p q:Nat) (x:Int),p < n∧q < n∧e=stepE p x q∧Sp es p x q∧wordV r es q=wordV r es p++[x]:=by
 unfold treeE at he;obtain ⟨q,hq,rfl⟩:=List.mem_map.1 he;obtain ⟨p,hp,x,hx,e,hn⟩:=(bfs_par es (lets r) 0).par q hq;have hb:=bfs_ok (L:=lets r) h.gr.all (Int.le_refl 0) (by have:=h.gr.size;omega:(0:Int) < n);have hr:=hb.rng p hp;have hqm:=List.mem_of_mem_tail hq;have hr2:=hb.rng q hqm;obtain ⟨k,hk⟩:=Int.eq_ofNat_of_zero_le hr.1;obtain ⟨j,hj⟩:=Int.eq_ofNat_of_zero_le hr2.1;have e1:q.1=nextV es p.1 x:=by rw [e]
 have e2:q.2=p.2++[x]:=by rw [e]
 have hsp:=sp_nextV hn;rw [← e1,hk,hj] at hsp;refine ⟨k,j,x,by omega,by omega,?_,hsp,?_⟩
 ·rw [e,edgeOf_new h.fol hn,← e1,hk,hj]
 ·rw [wordV_eq h.gr (v:=(j:Int)) (w:=q.2) (by rw [← hj];exact hqm),wordV_eq h.gr (v:=(k:Int)) (w:=p.2) (by rw [← hk];exact hp),e2]
theorem mem_extraE {r:Nat} {es:List Ed} {e:Ed}:e∈extraE r es↔e∈es∧e ∉ treeE es (bfs es (lets r) 0):=by
 unfold extraE;rw [List.mem_filter];simp
theorem loop_rd {r n:Nat} {es:List Ed} (h:IsCor r n es) {a b:Nat} {l:Int} (he:(⟨a,l,b⟩:Ed)∈extraE r es):Rd (wordV r es a++l :: invW (wordV r es b)):=by
 obtain ⟨hm,hx⟩:=mem_extraE.1 he;have hi:=h.gr.all _ hm;simp only [InG] at hi;have hs:Sp es a l b:=sp_edge hm (by simp only;omega);have hn:a < n∧b < n:=by omega
 have hlb:=(wordV_pa h hn.2).lt h.gr;refine Rd.join ?_ ?_
 ·refine (wordV_rd h hn.1).snoc fun t y e hy=>hx ?_
  by_cases ha:a=0
  ·subst ha
   rw [show ((0:Nat):Int)=0 from rfl,wordV_zero h] at e;simp at e
  ·obtain ⟨p,x,hp,ew,hsp,ht⟩:=wordV_last h hn.1 ha
   obtain ⟨-,rfl⟩:=snoc_inj (ew.symm.trans e);have h3:=hsp.neg;rw [hy,Int.neg_neg] at h3;have h4:=h.fol.det hs h3;rw [hy,← h4] at ht;unfold stepE at ht;rw [if_pos (by omega),Int.neg_neg] at ht;exact ht
 ·refine Rd.cons ((wordV_rd h hn.2).inv hlb) fun z s e hz=>hx ?_
  by_cases hb:b=0
  ·subst hb
   rw [show ((0:Nat):Int)=0 from rfl,wordV_zero h,invW_nil] at e;cases e
  ·obtain ⟨p,x,hp,ew,hsp,ht⟩:=wordV_last h hn.2 hb
   rw [ew] at e hlb;rw [invW_app] at e;have e2:invW [x]=[-x]:=by simp [invW,(hsp.lt3 h.gr).negI]
   rw [e2,List.singleton_append] at e;have e3:-x=z:=(List.cons.inj e).1;have e5:x=l:=by omega
   subst e5;have h4:=Pa.det' h.fol (pa_one.2 hs) (pa_one.2 hsp);rw [← h4] at ht;unfold stepE at ht;rw [if_neg (by omega)] at ht;exact ht
theorem basis_pa {r n:Nat} {es:List Ed} (h:IsCor r n es) {a b:Nat} {l:Int} (he:(⟨a,l,b⟩:Ed)∈es):Pa es 0 (wordV r es a++l :: invW (wordV r es b)) 0:=by
 have hi:=h.gr.all _ he;simp only [InG] at hi;exact (wordV_pa h (by omega)).app ⟨_,sp_edge he (by simp only;omega),(wordV_pa h (by omega)).inv h.gr⟩
theorem edge_nat {r n:Nat} {es:List Ed} (h:IsGr r n es) {e:Ed} (he:e∈es):∃ (a b:Nat),e=⟨(a:Int),e.l,(b:Int)⟩∧a < n∧b < n∧1≤e.l∧e.l≤r:=by
 have hi:=h.all e he;simp only [InG] at hi;exact ⟨e.a.toNat,e.b.toNat,Ed.ext' (by simp only;omega) rfl (by simp only;omega),by omega,by omega,by omega,by omega⟩
theorem basisW_eq {r n:Nat} {es:List Ed} (h:IsCor r n es) {a b:Nat} {l:Int} (he:(⟨a,l,b⟩:Ed)∈extraE r es):basisW r es ⟨a,l,b⟩=wordV r es a++l :: invW (wordV r es b):=by
 unfold basisW;have:=red_self (loop_rd h he) ((basis_pa h (extraE_mem he)).lt h.gr)
 simpa using this
theorem basisG_inS {r n:Nat} {es:List Ed} (h:IsCor r n es) {w:List Int} (hw:w∈basisG r es):LtW w∧InS es w:=by
 unfold basisG at hw;obtain ⟨e,he,rfl⟩:=List.mem_map.1 hw;obtain ⟨a,b,e2, -⟩:=edge_nat h.gr (extraE_mem he);rw [e2] at he ⊢;rw [basisW_eq h he];exact ⟨(basis_pa h (extraE_mem he)).lt h.gr,InS.mk h.fol (basis_pa h (extraE_mem he))⟩
theorem extra_above {r n:Nat} {es:List Ed} (h:IsCor r n es) {v:Nat} (hv:v < n) (h0:v≠0):∃ e∈extraE r es,∃ u:Nat,u < n∧(∃ t,wordV r es u=wordV r es v++t)∧((u:Int)=e.a ∨ (u:Int)=e.b):=by
 -- the longest word that goes on
 have key:∀ (k:Nat) (u:Nat),u < n→(∃ t,wordV r es u=wordV r es v++t)→41 - (wordV r es u).length≤k→∃ e∈extraE r es,∃ u:Nat,u < n∧(∃ t,wordV r es u=wordV r es v++t)∧((u:Int)=e.a ∨ (u:Int)=e.b):=by
  intro k
  induction k with
  | zero =>
   intro u hu _ hk;have:=(wordV_ok h hu).1;omega
  | succ k ih =>
   intro u hu ⟨t,ht⟩ hk;have hu0:u≠0:=fun e=>by
    subst e;rw [show ((0:Nat):Int)=0 from rfl,wordV_zero h] at ht;obtain ⟨p,x, -,ew, -⟩:=wordV_last h hv h0;rw [ew] at ht;simp at ht
   obtain ⟨p,x,hp,ew,hsp, -⟩:=wordV_last h hu hu0;obtain ⟨⟨y,z,t1,t2,hyz,s1,s2⟩, -⟩:=(leaf_none_iff h.fol).1 h.leaf u (by omega) (by omega);obtain ⟨y,t1,hy,s1⟩:∃ y t1,y≠-x∧Sp es u y t1:=by
    by_cases hy:y = -x
    ·exact ⟨z,t2,fun hz=>hyz (hy.trans hz.symm),s2⟩
    ·exact ⟨y,t1,hy,s1⟩
   obtain ⟨hy0,he⟩:=sp_stepE.1 s1;have hr:=s1.rng h.gr.all;obtain ⟨j,rfl⟩:=Int.eq_ofNat_of_zero_le hr.2.1.1;by_cases htr:stepE (u:Int) y (j:Int)∈treeE es (bfs es (lets r) 0)
   ·obtain ⟨p',q',x',hp',hq',e,hs',ew'⟩:=treeE_word h htr
    have hx':=(hs'.rng h.gr.all).2.2.1;rcases stepE_inj hy0 hx' e with ⟨e1,e2,e3⟩ | ⟨e1,e2,e3⟩
    ·obtain rfl:u=p':=by omega
     refine ih q' hq' ⟨t++[x'],by rw [ew',ht];simp⟩ ?_;have:=(wordV_ok h hq').1;rw [ew',List.length_append] at this ⊢;simp at this ⊢;omega
    ·obtain rfl:u=q':=by omega
     obtain ⟨-,e4⟩:=snoc_inj (ew.symm.trans ew');exact absurd (by omega) hy
   ·refine ⟨_,mem_extraE.2 ⟨he,htr⟩,u,hu,⟨t,ht⟩,?_⟩
    unfold stepE;split
    ·exact .inr rfl
    ·exact .inl rfl
 exact key 41 v hv ⟨[],by simp⟩ (by omega)
def Hom (n:Nat) (es es':List Ed) (f:Int→Int):Prop:=f 0=0∧∀ u x t,Sp es u x t→Sp es' (f u) x (f t)
theorem Hom.pa {n:Nat} {es es':List Ed} {f:Int→Int} (h:Hom n es es' f):∀ {w:List Int} {u v:Int},Pa es u w v→Pa es' (f u) w (f v)
 | [],_,_,h1=>by cases h1;rfl
 | _ :: _,_,_,⟨t,h1,h2⟩=>⟨f t,h.2 _ _ _ h1,h.pa h2⟩
theorem Hom.inS {n:Nat} {es es':List Ed} {f:Int→Int} (h:Hom n es es' f) {w:List Int} (hw:InS es w):InS es' w:=by
 have:=h.pa hw;unfold InS
 rwa [h.1] at this
theorem hom_of_basis {r n:Nat} {es:List Ed} {r' s':Int} {es':List Ed} (h:IsCor r n es) (h':IsFol r' s' es') (hb:∀ w∈basisG r es,InS es' w):∃ f,Hom n es es' f:=by
 have loop:∀ {a b:Nat} {l:Int},(⟨a,l,b⟩:Ed)∈extraE r es→Pa es' 0 (wordV r es a++l :: invW (wordV r es b)) 0:=by
  intro a b l he;have h1:=hb (basisW r es ⟨a,l,b⟩) (List.mem_map.2 ⟨_,he,rfl⟩);rw [basisW_eq h he] at h1;unfold InS at h1
  rwa [red_self (loop_rd h he) ((basis_pa h (extraE_mem he)).lt h.gr)] at h1
 have rd:∀ v:Nat,v < n→∃ t,Pa es' 0 (wordV r es v) t:=by
  intro v hv;by_cases h0:v=0
  ·subst h0
   rw [show ((0:Nat):Int)=0 from rfl,wordV_zero h];exact ⟨0,rfl⟩
  ·obtain ⟨e,he,u,hu,⟨t,ht⟩,hue⟩:=extra_above h hv h0
   obtain ⟨a,b,e2,ha,hb2, -⟩:=edge_nat h.gr (extraE_mem he);rw [e2] at he hue;have hl:=loop he;have:∃ q,Pa es' 0 (wordV r es u) q:=by
    rcases hue with hue | hue
    ·obtain rfl:u=a:=by simp only at hue;omega
     obtain ⟨q,h1, -⟩:=pa_app.1 hl;exact ⟨q,h1⟩
    ·obtain rfl:u=b:=by simp only at hue;omega
     obtain ⟨q, -,q2,h1,h2⟩:=pa_app.1 hl;have h3:=h2.inv h'.gr;rw [invW_invW ((wordV_pa h hu).lt h.gr)] at h3;exact ⟨q2,h3⟩
   obtain ⟨q,hq⟩:=this;rw [ht] at hq;obtain ⟨q2,h1, -⟩:=pa_app.1 hq;exact ⟨q2,h1⟩
 have hf:∀ v:Nat,v < n→Pa es' 0 (wordV r es v) (rdA es' 0 (wordV r es v)).1:=by
  intro v hv;obtain ⟨t,ht⟩:=rd v hv;rw [rdA_full h' ht];exact ht
 have edge:∀ e∈es,Sp es' (rdA es' 0 (wordV r es e.a)).1 e.l (rdA es' 0 (wordV r es e.b)).1:=by
  intro e he;obtain ⟨a,b,e2,ha,hb2,hl, -⟩:=edge_nat h.gr he;have ea:e.a=(a:Int):=by rw [e2]
  have eb:e.b=(b:Int):=by rw [e2]
  by_cases ht:e∈treeE es (bfs es (lets r) 0)
  ·obtain ⟨p,q,x,hp,hq,e3,hs,ew⟩:=treeE_word h ht
   have h1:=hf q hq;rw [ew] at h1;obtain ⟨t,h2,h3⟩:=pa_app.1 h1;have h3:=pa_one.1 h3;rw [← ew,(hf p hp).det h' h2 |>.symm] at h3;have hx:=(hs.rng h.gr.all).2.2.1;rw [e3];unfold stepE;split
   ·exact h3.neg
   ·exact h3
  ·have hm:=mem_extraE.2 ⟨he,ht⟩
   rw [e2] at hm;obtain ⟨t,h1,t2,h2,h3⟩:=pa_app.1 (loop hm);have h4:=h3.inv h'.gr;rw [invW_invW ((wordV_pa h hb2).lt h.gr)] at h4;rw [ea,eb,(hf a ha).det h' h1,(hf b hb2).det h' h4];exact h2
 refine ⟨fun v=>(rdA es' 0 (wordV r es v)).1,?_,?_⟩
 ·show (rdA es' 0 (wordV r es 0)).1=0
  rw [wordV_zero h]
  rfl
 ·rintro u x t (⟨h1,h2⟩ | ⟨h1,h2⟩)
  ·exact edge _ h2
  ·have:=(edge _ h2).neg
   simpa using this
theorem inside_iff {r n:Nat} {es:List Ed} {r' s':Int} {es':List Ed} (h:IsCor r n es) (h':IsFol r' s' es'):(∀ w∈basisG r es,InS es' w)↔∀ w,LtW w→InS es w→InS es' w:=by
 constructor
 ·intro hb w _ hw
  obtain ⟨f,hf⟩:=hom_of_basis h h' hb;exact hf.inS hw
 ·exact fun hall w hw=>hall w (basisG_inS h hw).1 (basisG_inS h hw).2
theorem core_ord {r s:Int} {es:List Ed} (h:IsCor r s es):((ordE r es 0).length:Int)=s∧ordE r es 0=(List.range (ordE r es 0).length).map fun (k:Nat)=>(k:Int):=by
 have hc:=h.canon;rw [canonG_val (g:=(s,es)) h.fol] at hc;injection hc with h1 h2
 refine ⟨h1,?_⟩;have:=ordE_part h.fol
 rwa [h2] at this
theorem core_uniq {r n n':Nat} {es es':List Ed} (h:IsCor r n es) (h':IsCor r n' es') (hl:∀ w,LtW w→(InS es w↔InS es' w)):n=n'∧es=es':=by
 obtain ⟨f,hf⟩:=hom_of_basis h h'.fol fun w hw=>(hl w (basisG_inS h hw).1).1 (basisG_inS h hw).2;obtain ⟨g,hg⟩:=hom_of_basis h' h.fol fun w hw=>(hl w (basisG_inS h' hw).1).2 (basisG_inS h' hw).2;have gf:∀ v:Int,0≤v→v < n→g (f v)=v:=by
  intro v h0 h1;obtain ⟨k,rfl⟩:=Int.eq_ofNat_of_zero_le h0;have hw:=wordV_pa h (show k < n by omega);have h2:=hg.pa (hf.pa hw);rw [hf.1,hg.1] at h2;exact h2.det h.fol hw
 have hn0:=h.gr.size;have hb:bfs es' (lets r) (f 0)=(bfs es (lets r) 0).map fun p=>(f p.1,p.2) :=
  bfs_iso (R:=fun u=>0≤u∧u < (n:Int)) (by omega) (fun u hu x hx hn=>((sp_nextV hn).rng h.gr.all).2.1)
   (fun u hu x hx hn=>by
    apply Classical.byContradiction;intro hc;have h1:=hg.2 _ _ _ (sp_nextV (by omega:0≤nextV es' (f u) x));rw [gf u hu.1 hu.2] at h1;exact nextV_no hn h.gr.nn _ h1)
   (fun u hu x hx hn=>by
    have h1:=hf.2 _ _ _ (sp_nextV hn);exact ⟨nextV_sp h'.fol h1,(h1.rng h'.gr.all).2.1.1⟩)
   (fun u t hu ht e=>by rw [← gf u hu.1 hu.2,e,gf t ht.1 ht.2])
 rw [hf.1] at hb;have ho:ordE r es' 0=(ordE r es 0).map f:=by
  rw [ordE_def r es' 0,ordE_def r es 0,Int.toNat_natCast,hb,List.map_map,List.map_map];exact List.map_congr_left fun p _=>rfl
 obtain ⟨l1,o1⟩:=core_ord h;obtain ⟨l2,o2⟩:=core_ord h';have hnn:n=n':=by
  have:=congrArg List.length ho;rw [List.length_map] at this;omega
 subst hnn;have hid:∀ v:Int,0≤v→v < n→f v=v:=by
  intro v h0 h1;obtain ⟨k,rfl⟩:=Int.eq_ofNat_of_zero_le h0;have e1:(ordE r es 0)[k]?=some (k:Int):=by
   rw [o1,List.getElem?_map,List.getElem?_range (by omega)]
   rfl
  have e2:(ordE r es' 0)[k]?=some (k:Int):=by
   rw [o2,List.getElem?_map,List.getElem?_range (by omega)]
   rfl
  rw [ho,List.getElem?_map,e1] at e2
  simpa using e2
 have hgd:∀ v:Int,0≤v→v < n→g v=v:=fun v h0 h1=>by
  have:=gf v h0 h1
  rwa [hid v h0 h1] at this
 refine ⟨rfl,asc_ext h.gr.asc h'.gr.asc fun e=>?_⟩;constructor
 ·intro he
  have hi:=h.gr.all e he;simp only [InG] at hi;have h1:=hf.2 _ _ _ (sp_edge he (by omega));rw [hid e.a (by omega) (by omega),hid e.b (by omega) (by omega)] at h1;have h2:=(sp_stepE.1 h1).2;unfold stepE at h2
  rwa [if_neg (by omega)] at h2
 ·intro he
  have hi:=h'.gr.all e he;simp only [InG] at hi;have h1:=hg.2 _ _ _ (sp_edge he (by omega));rw [hgd e.a (by omega) (by omega),hgd e.b (by omega) (by omega)] at h1;have h2:=(sp_stepE.1 h1).2;unfold stepE at h2
  rwa [if_neg (by omega)] at h2
theorem take_snocL {α:Type} {l:List α} {k:Nat} {x:α} (h:l[k]?=some x):l.take (k+1)=l.take k++[x]:=by
 obtain ⟨h1,h2⟩:=List.getElem?_eq_some_iff.1 h;rw [List.take_succ_eq_append_getElem h1,h2]
theorem red_word {r:Int} {w:List Int} (h:WordP r w):red [] w=w:=by
 have hk:∀ k,k≤w.length→red [] (w.take k)=w.take k:=by
  intro k
  induction k with
  | zero=>intro _;simp [red]
  | succ k ih =>
   intro hle;have hx:w[k]?=some w[k]:=List.getElem?_eq_getElem (by omega);have ht:w.take (k+1)=w.take k++[w[k]]:=List.take_succ_eq_append_getElem (by omega);rw [red_step w hx,ih (by omega),ht];cases k with
   | zero=>simp [redStep]
   | succ j =>
    have ha:w[j]?=some w[j]:=List.getElem?_eq_getElem (by omega);have ht2:w.take (j+1)=w.take j++[w[j]]:=List.take_succ_eq_append_getElem (by omega);have hne:=h.2 j _ _ ha hx;rw [ht2,redStep_push (by unfold invB;simp;omega)]
 have:=hk w.length (Nat.le_refl _)
 rwa [List.take_length] at this
def LoopP (es:List Ed) (w:List Int):Prop:=(rdA es 0 w).2=w.length∧(rdA es 0 w).1=0
theorem nodup_sub_len {α:Type} [DecidableEq α]:∀ (l m:List α),l.Nodup→(∀ x∈l,x∈m)→l.length≤m.length:=by
 intro l
 induction l with
 | nil=>intro m _ _;simp
 | cons a t ih =>
  intro m hn hs;rw [List.nodup_cons] at hn;have ha:=hs a List.mem_cons_self;have h:=ih (m.erase a) hn.2 (fun x hx=>by
   have hne:x≠a:=fun e=>hn.1 (e ▸ hx);exact (List.mem_erase_of_ne hne).2 (hs x (List.mem_cons_of_mem _ hx)))
  rw [List.length_erase_of_mem ha] at h;have:=List.length_pos_of_mem ha;simp only [List.length_cons];omega
def Rch (s:Int) (es:List Ed):Prop:=∀ v,0≤v→v < s→∃ w,Pa es 0 w v
theorem nodup_at {α:Type} {l:List α} (h:l.Nodup) {i j:Nat} {a:α} (hi:l[i]?=some a) (hj:l[j]?=some a):i=j:=by
 obtain ⟨hi,e1⟩:=List.getElem?_eq_some_iff.1 hi;obtain ⟨hj,e2⟩:=List.getElem?_eq_some_iff.1 hj;have hp:=List.pairwise_iff_getElem.1 h;rcases Nat.lt_trichotomy i j with hl | e | hl
 ·exact absurd (e1.trans e2.symm) (hp i j hi hj hl)
 ·exact e
 ·exact absurd (e2.trans e1.symm) (hp j i hj hi hl)
theorem IsCor.rch {r s:Int} {es:List Ed} (h:IsCor r s es):Rch s es:=fun v h0 h1=>by
 rcases Int.lt_or_le 0 v with hv | hv
 ·exact ((leaf_none_iff h.fol).1 h.leaf v (by omega) h1).2
 ·exact ⟨[],by show (0:Int)=v;omega⟩
theorem rch_ord {r s:Int} {es:List Ed} (hf:IsFol r s es) (hr:Rch s es):((ordE r es 0).length:Int)=s∧∀ v,0≤v→v < s→v∈ordE r es 0:=by
 have hs:=hf.gr.size;have ho:=ordE_len hf.gr (v:=0) (Int.le_refl _) (by omega);have hall:∀ v,0≤v→v < s→v∈ordE r es 0:=fun v h0 h1=>by
  obtain ⟨w,hw⟩:=hr v h0 h1;exact bfs_reach hf (Int.le_refl _) (by omega) (ordE_self r es 0) hw
 refine ⟨?_,hall⟩;have h1:((List.range s.toNat).map fun (k:Nat)=>(k:Int)).length≤(ordE r es 0).length:=by
  have hnd:((List.range s.toNat).map fun (k:Nat)=>(k:Int)).Nodup:=by
   unfold List.Nodup;rw [List.pairwise_map];exact (List.pairwise_lt_range (n:=s.toNat)).imp fun h=>by omega
  refine nodup_sub_len _ _ hnd fun x hx=>?_;obtain ⟨k,hk,rfl⟩:=List.mem_map.1 hx;have:=List.mem_range.1 hk;exact hall k (by omega) (by omega)
 simp only [List.length_map,List.length_range] at h1;have:=ho.2.1;omega
section
theorem sp_app {es fs:List Ed} {a y b:Int}:Sp (es++fs) a y b↔Sp es a y b ∨ Sp fs a y b:=by
 unfold Sp;simp only [List.mem_append];constructor
 ·rintro (⟨h,h1 | h1⟩ | ⟨h,h1 | h1⟩)
  ·exact .inl (.inl ⟨h,h1⟩)
  ·exact .inr (.inl ⟨h,h1⟩)
  ·exact .inl (.inr ⟨h,h1⟩)
  ·exact .inr (.inr ⟨h,h1⟩)
 ·rintro ((⟨h,h1⟩ | ⟨h,h1⟩) | (⟨h,h1⟩ | ⟨h,h1⟩))
  ·exact .inl ⟨h,.inl h1⟩
  ·exact .inr ⟨h,.inl h1⟩
  ·exact .inl ⟨h,.inr h1⟩
  ·exact .inr ⟨h,.inr h1⟩
theorem sp_canon {es:List Ed} {a y b:Int}:Sp (canon es) a y b↔Sp es a y b:=by
 unfold Sp;simp only [mem_canon]
theorem pa_canon {es:List Ed} {w:List Int} {a b:Int}:Pa (canon es) a w b↔Pa es a w b:=⟨Pa.mono fun e he=>mem_canon.1 he,Pa.mono fun e he=>mem_canon.2 he⟩
section
variable {r s:Int} {es:List Ed} {u:Int} {w:List Int}
end
end
theorem foldsAB_same {e f:Ed} {p:Int × Int} (h:p∈foldsAB e f):foldE p e=foldE p f:=by
 have hb:∀ a b:Int,foldV (min a b,max a b) a=foldV (min a b,max a b) b:=fun a b=>by
  unfold foldV;simp only;rcases Int.le_total a b with h | h
  ·rw [Int.min_eq_left h,Int.max_eq_right h]
   split <;> split <;> (try split) <;> omega
  ·rw [Int.min_eq_right h,Int.max_eq_left h]
   split <;> split <;> (try split) <;> omega
 unfold foldsAB at h;split at h
 ·rename_i hl
  rcases List.mem_append.1 h with h | h
  ·split at h
   ·rename_i ha
    rw [List.mem_singleton] at h;subst h;unfold foldE;rw [ha,hl,hb]
   ·cases h
  ·split at h
   ·rename_i hc
    rw [List.mem_singleton] at h;subst h;unfold foldE;rw [hc,hl,hb]
   ·cases h
 ·cases h
theorem folds_two {es:List Ed} (ha:Asc es) {p:Int × Int}:∀ {fs:List Ed},Asc fs→(∀ e∈fs,e∈es)→p∈folds fs→∃ e∈es,∃ f∈es,e≠f∧foldE p e=foldE p f
 | [],_,_,h=>by cases h
 | e :: t,hs,hm,h=>by
  obtain ⟨h1,h2⟩:=List.pairwise_cons.1 hs;rcases List.mem_append.1 h with h | h
  ·obtain ⟨f,hf,h⟩:=List.mem_flatMap.1 h
   exact ⟨e,hm e List.mem_cons_self,f,hm f (List.mem_cons_of_mem _ hf),(h1 f hf).ne,foldsAB_same h⟩
  ·exact folds_two ha h2 (fun x hx=>hm x (List.mem_cons_of_mem _ hx)) h
theorem merge_len {es:List Ed} (ha:Asc es) {p:Int × Int} (h:p∈folds es):(mergeE p es).length+1≤es.length:=by
 obtain ⟨e,he,f,hf,hne,heq⟩:=folds_two ha ha (fun x hx=>hx) h;have h1:mergeE p es=canon ((es.erase f).map (foldE p)):=canon_congr fun x=>by
  rw [List.mem_map,List.mem_map];constructor
  ·rintro ⟨y,hy,rfl⟩
   by_cases hyf:y=f
   ·exact ⟨e,(List.mem_erase_of_ne hne).2 he,by rw [heq,hyf]⟩
   ·exact ⟨y,(List.mem_erase_of_ne hyf).2 hy,rfl⟩
  ·rintro ⟨y,hy,rfl⟩
   exact ⟨y,List.mem_of_mem_erase hy,rfl⟩
 rw [h1];have h2:=canon_len ((es.erase f).map (foldE p));rw [List.length_map,List.length_erase_of_mem hf] at h2;have:=List.length_pos_of_mem hf;omega
def chi (g:Int × List Ed):Int:=(g.2.length:Int) - g.1
theorem merge_rch {s:Int} {es:List Ed} {p:Int × Int} (h0:0≤p.1) (h1:p.1 < p.2) (h2:p.2 < s) (h:Rch s es):Rch (s - 1) (mergeE p es):=fun v a b=>by
 obtain ⟨u,hu,hv⟩:∃ u,(0≤u∧u < s)∧foldV p u=v:=by
  by_cases hc:v < p.2
  ·exact ⟨v,by omega,by unfold foldV;rw [if_neg (by omega),if_neg (by omega)]⟩
  ·exact ⟨v+1,by omega,by unfold foldV;rw [if_neg (by omega),if_pos (by omega)];omega⟩
 obtain ⟨w,hw⟩:=h u hu.1 hu.2;have:=merge_pa (p:=p) hw;rw [foldV_zero h0 h1,hv] at this;exact ⟨w,this⟩
theorem foldA_chi {r:Int}:∀ (n:Nat) {g:Int × List Ed},IsGr r g.1 g.2→Rch g.1 g.2→chi (foldA n g)≤chi g∧Rch (foldA n g).1 (foldA n g).2
 | 0,g,_,hr=>⟨Int.le_refl _,hr⟩
 | n+1,g,h,hr=>by
  cases hf:folds g.2 with
  | nil=>rw [foldA_nil hf];exact ⟨Int.le_refl _,hr⟩
  | cons p t =>
   rw [foldA_cons hf];have hm:p∈folds g.2:=by rw [hf];exact List.mem_cons_self
   obtain ⟨h1,h2,h3⟩:=mem_folds h.all h.asc hm;have h4:=foldA_chi n (g:=(g.1 - 1,mergeE p g.2)) (mergeE_gr h h1 h2 h3) (merge_rch h1 h2 h3 hr);have h5:=merge_len h.asc hm;refine ⟨Int.le_trans h4.1 ?_,h4.2⟩;unfold chi;simp only;omega
theorem nodup_len_eq {α:Type} [DecidableEq α] {l m:List α} (hl:l.Nodup) (hm:m.Nodup) (h:∀ x,x∈l↔x∈m):l.length=m.length :=
 Nat.le_antisymm (nodup_sub_len l m hl fun x hx=>(h x).1 hx) (nodup_sub_len m l hm fun x hx=>(h x).2 hx)
theorem asc_nodup {es:List Ed} (h:Asc es):es.Nodup:=h.imp fun h=>h.ne
theorem part_len {es:List Ed} (ha:Asc es) (ord:List Int):(partE ord es).length=(es.filter fun e=>decide (e.a∈ord∧e.b∈ord)).length:=by
 have h1:((es.filter fun e=>decide (e.a∈ord∧e.b∈ord)).map fun e=>(⟨idxI ord e.a,e.l,idxI ord e.b⟩:Ed)).Nodup:=by
  unfold List.Nodup;rw [List.pairwise_map];refine List.Pairwise.imp_of_mem ?_ ((asc_nodup ha).filter _);intro e f he hf hne heq;have he2:=(List.mem_filter.1 he).2;have hf2:=(List.mem_filter.1 hf).2;simp only [decide_eq_true_eq] at he2 hf2;injection heq with e1 e2 e3
  exact hne (Ed.ext' (idxI_inj he2.1 hf2.1 e1) e2 (idxI_inj he2.2 hf2.2 e3))
 have h2:=nodup_len_eq (asc_nodup (show Asc (partE ord es) from asc_canon _)) h1 fun x=>by
  rw [mem_partE,List.mem_map];constructor
  ·rintro ⟨e,he,a,b,rfl⟩
   exact ⟨e,List.mem_filter.2 ⟨he,by simpa using ⟨a,b⟩⟩,rfl⟩
  ·rintro ⟨e,he,rfl⟩
   obtain ⟨h3,h4⟩:=List.mem_filter.1 he;simp only [decide_eq_true_eq] at h4;exact ⟨e,h3,h4.1,h4.2,rfl⟩
 rw [h2,List.length_map]
theorem filt_split (p:Ed→Bool):∀ l:List Ed,(l.filter p).length+(l.filter fun e=>!p e).length=l.length
 | []=>rfl
 | e :: t=>by
  have:=filt_split p t;cases h:p e <;> simp [List.filter_cons,h] <;> omega
theorem touch_le (v:Int):∀ es:List Ed,(es.filter fun e=>decide (e.a=v ∨ e.b=v)).length≤deg es v
 | []=>by simp
 | e :: t=>by
  have h:=touch_le v t;have h1:deg (e :: t) v=degE v e+deg t v:=by simp [deg]
  rw [List.filter_cons];by_cases hc:e.a=v ∨ e.b=v
  ·rw [if_pos (by simpa using hc),List.length_cons]
   have:1≤degE v e:=by
    unfold degE;rcases hc with hc | hc
    ·rw [if_pos hc];omega
    ·rw [if_pos hc];omega
   omega
  ·rw [if_neg (by simpa using hc)]
   omega
theorem cut_chi {r:Int} {g:Int × List Ed} {v:Nat} (h:IsFol r g.1 g.2) (hr:Rch g.1 g.2) (h1:1≤v) (h2:(v:Int) < g.1) (hb:Bad g.2 v):chi (cutV g v)=chi g∧Rch (cutV g v).1 (cutV g v).2:=by
 have hs:=h.gr.size;have hd:deg g.2 v < 2:=by
  rcases hb with hb | hb
  ·exact hb
  ·exact absurd ((conn_pa h.gr.all).2 (hr v (by omega) h2)) hb
 have hin:∃ e∈g.2,e.a=(v:Int) ∨ e.b=(v:Int):=by
  obtain ⟨w,hw⟩:=hr v (by omega) h2;rcases snoc_cases w with rfl | ⟨t,x,rfl⟩
  ·have:(0:Int)=v:=hw
   omega
  ·obtain ⟨q, -,hq⟩:=pa_app.1 hw
   rcases pa_one.1 hq with ⟨_,hq⟩ | ⟨_,hq⟩
   ·exact ⟨_,hq,.inr rfl⟩
   ·exact ⟨_,hq,.inl rfl⟩
 have ht:(g.2.filter fun e=>decide (e.a=(v:Int) ∨ e.b=(v:Int))).length=1:=by
  have h3:=touch_le v g.2;obtain ⟨e,he,hc⟩:=hin;have:=List.length_pos_of_mem (List.mem_filter.2 ⟨he,by simpa using hc⟩:e∈g.2.filter fun e=>decide (e.a=(v:Int) ∨ e.b=(v:Int)));omega
 have hlen:(cutV g v).2.length+1=g.2.length:=by
  have h3:=filt_split (fun e=>decide (e.a=(v:Int) ∨ e.b=(v:Int))) g.2;have h4:=part_len h.gr.asc (but v g.1.toNat);have h5:(g.2.filter fun e=>decide (e.a∈but v g.1.toNat∧e.b∈but v g.1.toNat))=g.2.filter fun e=>!decide (e.a=(v:Int) ∨ e.b=(v:Int)):=List.filter_congr fun e he=>by
   have hi:=h.gr.all e he;simp only [InG] at hi;have ha:=mem_butV (v:=v) (n:=g.1.toNat) (x:=e.a);have hbm:=mem_butV (v:=v) (n:=g.1.toNat) (x:=e.b);rw [← decide_not];refine decide_eq_decide.2 ?_;rw [ha,hbm];omega
  rw [h5] at h4
  show (partE (but v g.1.toNat) g.2).length+1=_
  omega
 constructor
 ·unfold chi
  rw [cutV_size h2];omega
 ·intro i h3 h4
  rw [cutV_size h2] at h4;have hbl:=but_len v (show v < g.1.toNat by omega);obtain ⟨k,rfl⟩:=Int.eq_ofNat_of_zero_le h3;have hk:k < (but v g.1.toNat).length:=by omega
  have hm:(but v g.1.toNat)[k]∈but v g.1.toNat:=List.getElem_mem hk;have hid:idxI (but v g.1.toNat) ((but v g.1.toNat)[k])=k:=idxI_at (but_nodup _ _) (List.getElem?_eq_getElem hk);generalize (but v g.1.toNat)[k]=u at hm hid;have hu:=mem_butV.1 hm;obtain ⟨w,hw⟩:=hr u hu.1 (by omega);have hw2:=hw.red h;have lw:=hw.lt h.gr;have hrd:=rd_red lw;refine ⟨red [] w,?_⟩;have:=part_pa_of (ord:=but v g.1.toNat) hw2 fun a b t e hp=>by
   have htr:=hp.rng h.gr.all (by omega);refine mem_butV.2 ⟨htr.1,by omega,fun e2=>?_⟩;subst e2;have hp2:Pa g.2 (v:Int) b u:=by
    rw [e] at hw2;obtain ⟨t',h5,h6⟩:=pa_app.1 hw2
    rwa [hp.det h h5]
   rcases snoc_cases a with rfl | ⟨a',x,rfl⟩
   ·have:(0:Int)=v:=hp
    omega
   ·cases b with
    | nil=>exact hu.2.2 (by have:(v:Int)=u:=hp2;omega)
    | cons y b' =>
     obtain ⟨t1,h5,h6⟩:=pa_app.1 hp;have h6:=(pa_one.1 h6).neg;obtain ⟨t2,h7,h8⟩:=hp2;by_cases hxy:y = -x
     ·subst hxy
      exact hrd a' b' x (by rw [e];simp)
     ·have:=Two.deg (es:=g.2) (v:=v) ⟨y, -x,t2,t1,hxy,h7,h6⟩
      omega
  rw [but_zero h1 (by omega),hid] at this;exact this
theorem trimA_chi {r:Int}:∀ (n:Nat) {g:Int × List Ed},IsFol r g.1 g.2→Rch g.1 g.2→chi (trimA n g)=chi g∧Rch (trimA n g).1 (trimA n g).2
 | 0,g,_,hr=>⟨rfl,hr⟩
 | n+1,g,h,hr=>by
  cases hf:leaf g.1 g.2 with
  | none=>rw [trimA_none hf];exact ⟨rfl,hr⟩
  | some v =>
   rw [trimA_some hf];obtain ⟨h1,h2,h3⟩:=leaf_spec hf;have h4:=cut_chi h hr h1 h2 h3;have h5:=trimA_chi n (cut_fol h h1 h2) h4.2;exact ⟨h5.1.trans h4.1,h5.2⟩
theorem canonG_chi {r:Int} {g:Int × List Ed} (h:IsFol r g.1 g.2) (hr:Rch g.1 g.2):chi (canonG r g)=chi g∧(canonG r g).1=g.1:=by
 obtain ⟨h1,h2⟩:=rch_ord h hr;rw [canonG_val h];refine ⟨?_,h1⟩;unfold chi;simp only;rw [h1,part_len h.gr.asc,List.filter_eq_self.2 fun e he=>by
  have hi:=h.gr.all e he;simp only [InG] at hi
  simpa using ⟨h2 e.a (by omega) (by omega),h2 e.b (by omega) (by omega)⟩]
theorem core_chi {r s:Int} {es:List Ed} (h:IsGr r s es) (hr:Rch s es):chi (coreA r (s,es))≤chi (s,es):=by
 have hf:=foldA_isFol h;have h1:=foldA_chi 40 (g:=(s,es)) h hr;have h2:=trimA_chi 40 hf h1.2;have h3:=trimA_fol 40 hf;unfold coreA;generalize foldA 40 (s,es)=g2 at hf h1 h2 h3 ⊢;generalize trimA 40 g2=g at h2 h3 ⊢;rw [(canonG_chi h3 h2.2).1,h2.1];exact h1.1
section
theorem hom_edges {r s:Int} {es es':List Ed} {f:Int→Int} (hg:∀ e∈es,InG r s e) (h0:f 0=0) (h:∀ e∈es,Sp es' (f e.a) e.l (f e.b)):Hom 0 es es' f:=by
 refine ⟨h0,?_⟩;rintro u x t (⟨h1,h2⟩ | ⟨h1,h2⟩)
 ·exact h _ h2
 ·have:=(h _ h2).neg
  simpa using this
theorem core_hom {r s:Int} {es:List Ed} (h:IsGr r s es) {r' s':Int} {es':List Ed} (h':IsFol r' s' es') {f:Int→Int} (hf:Hom 0 es es' f) {w:List Int} (lw:LtW w) (hw:InS (coreA r (s,es)).2 w):InS es' w:=by
 obtain ⟨w2,l2,e,hp⟩:=(core_lang h lw).1 hw;have:=hf.pa hp;rw [hf.1] at this;exact (InS.eqv e).2 (InS.mk h' this)
theorem core_in {r s:Int} {es:List Ed} (h:IsGr r s es) {es0:List Ed} {f:Int→Int} (hf:Hom 0 es0 es f) {w:List Int} (lw:LtW w) (hw:InS es0 w):InS (coreA r (s,es)).2 w:=by
 have:=hf.pa hw;rw [hf.1] at this;exact (core_lang h lw).2 ⟨red [] w,lt_red lw,(Eqv.toRed lw).symm,this⟩
theorem hom_id {es fs:List Ed} (h:∀ e∈es,e∈fs):Hom 0 es fs id:=⟨rfl,fun u x t hs=>hs.mono h⟩
theorem path_readG {u S v:Int} {w:List Int} (hw:∀ x∈w,x≠0):∀ k,k≤w.length→Pa (pathE u S w v w.length) u (w.take k) (pathV u S w.length v k):=by
 intro k
 induction k with
 | zero =>
  intro _
  show u=_
  simp [pathV]
 | succ k ih =>
  intro hk;obtain ⟨x,hx⟩:∃ x,w[k]?=some x:=⟨_,List.getElem?_eq_getElem (by omega)⟩
  rw [take_snocL hx];refine (ih (by omega)).snoc (sp_stepE.2 ⟨hw x (List.mem_of_getElem? hx),?_⟩);unfold pathE;refine List.mem_map.2 ⟨k,List.mem_range.2 hk,?_⟩;rw [List.getD_eq_getElem?_getD,hx]
  rfl
theorem petal_loop {s:Int} {es:List Ed} {w:List Int} (hw:∀ x∈w,x≠0) (hne:w≠[]):Pa (canon (es++pathE 0 s w 0 w.length)) 0 w 0:=by
 have h:=path_readG (u:=0) (S:=s) (v:=0) hw w.length (Nat.le_refl _);have hl:=List.length_pos_iff.2 hne;have e:pathV 0 s w.length 0 w.length=0:=by
  unfold pathV;rw [if_neg (by omega),if_neg (by omega)]
 rw [List.take_length,e] at h;exact pa_canon.2 (h.mono fun e he=>List.mem_append_right _ he)
theorem petal_hom {r s:Int} {es:List Ed} (hg:∀ e∈es,InG r s e) (hs:1≤s) {r' s':Int} {es':List Ed} (h':IsFol r' s' es') {f:Int→Int} (hf:Hom 0 es es' f) {w:List Int} (hw:∀ x∈w,x≠0) (hp:Pa es' 0 w 0) :
  ∃ f',Hom 0 (canon (es++pathE 0 s w 0 w.length)) es' f':=by
 have hpre:∀ k,k≤w.length→Pa es' 0 (w.take k) (rdA es' 0 (w.take k)).1:=fun k hk=>by
  have h1:Pa es' 0 (w.take k++w.drop k) 0:=by rw [List.take_append_drop];exact hp
  obtain ⟨t,h2, -⟩:=pa_app.1 h1;rw [rdA_full h' h2];exact h2
 obtain ⟨f',hf'⟩:∃ f':Int→Int,f'=fun v=>if v < s then f v else (rdA es' 0 (w.take (v - s+1).toNat)).1:=⟨_,rfl⟩
 have e0:f' 0=0:=by rw [hf'];simp only;rw [if_pos (by omega)];exact hf.1
 have ev:∀ i,i≤w.length→f' (pathV 0 s w.length 0 i)=(rdA es' 0 (w.take i)).1:=by
  intro i hi;unfold pathV;by_cases h0:i=0
  ·subst h0
   rw [if_pos rfl,e0]
   rfl
  ·rw [if_neg h0]
   by_cases hn:i < w.length
   ·rw [if_pos hn,hf']
    simp only;rw [if_neg (by omega),show (s+(i:Int) - 1 - s+1).toNat=i by omega]
   ·rw [if_neg hn,e0]
    obtain rfl:i=w.length:=by omega
    rw [List.take_length,rdA_full h' hp]
 refine ⟨f',e0,?_⟩;intro u x t hst;rcases sp_app.1 (sp_canon.1 hst) with h1 | h1
 ·have hr:=h1.rng hg
  rw [hf'];simp only;rw [if_pos hr.1.2,if_pos hr.2.1.2];exact hf.2 _ _ _ h1
 ·have key:∀ (y a b:Int),stepE a y b∈pathE 0 s w 0 w.length→y≠0→Sp es' (f' a) y (f' b):=by
   intro y a b hm hy;unfold pathE at hm;obtain ⟨i,hi,e⟩:=List.mem_map.1 hm;have hi:=List.mem_range.1 hi;obtain ⟨z,hz⟩:∃ z,w[i]?=some z:=⟨_,List.getElem?_eq_getElem hi⟩
   have hz0:=hw z (List.mem_of_getElem? hz);rw [List.getD_eq_getElem?_getD,hz] at e;have h2:=hpre (i+1) hi;rw [take_snocL hz] at h2;obtain ⟨q,h3,h4⟩:=pa_app.1 h2;have h4:=pa_one.1 h4;rw [h3.det h' (hpre i (by omega))] at h4;rw [← ev i (by omega),← take_snocL hz,← ev (i+1) hi] at h4;rcases stepE_inj (x:=(some z).getD 0) hz0 hy e with ⟨e1,e2,e3⟩ | ⟨e1,e2,e3⟩
   ·have e2:z=y:=e2
    rw [← e1,← e2,← e3];exact h4
   ·have e2:z = -y:=e2
    rw [e1,e2,e3] at h4;have:=h4.neg
    rwa [Int.neg_neg] at this
  obtain ⟨hx,hm⟩:=sp_stepE.1 h1;exact key x u t hm hx
theorem petal_rch {r s:Int} {es:List Ed} (hr:Rch s es) {w:List Int} (hw:∀ x∈w,x≠0):Rch (s+(w.length:Int) - 1) (canon (es++pathE 0 s w 0 w.length)):=fun v h0 h1=>by
 rcases Int.lt_or_le v s with hlt | hge
 ·obtain ⟨q,hq⟩:=hr v h0 hlt
  exact ⟨q,pa_canon.2 (hq.mono fun e he=>List.mem_append_left _ he)⟩
 ·have h4:=path_readG (u:=0) (S:=s) (v:=0) hw (v - s+1).toNat (by omega)
  have e:pathV 0 s w.length 0 (v - s+1).toNat=v:=by
   unfold pathV;rw [if_neg (by omega),if_pos (by omega)];omega
  rw [e] at h4;exact ⟨_,pa_canon.2 (h4.mono fun e he=>List.mem_append_right _ he)⟩
section
variable {r s s':Int} {ea eb:List Ed}
theorem pairs_head (ea eb:List Ed) (L:List Int) (p0:Int × Int):(pairsOf ea eb L p0)[0]?=some p0:=by
 have h1:=pbSt_pre' ea eb L p0 0 1601;rw [Nat.zero_add] at h1;exact prefix_get h1 (by simp [pbSt])
theorem mem_pbAll {r:Nat} {P:PS}:∀ {n:Nat} {e:Ed},n≤P.length→(e∈pbAll ea eb r P n↔∃ i p x,i < n∧P[i]?=some p∧1≤x∧x≤(r:Int)∧0≤nextV ea p.1 x∧0≤nextV eb p.2 x∧e=⟨i,x,(P.idxOf (pbNext ea eb p x):Nat)⟩)
 | 0,e,_=>by simp [pbAll]
 | n+1,e,hn=>by
  have hp:P[n]?=some P[n]:=List.getElem?_eq_getElem (by omega);rw [pbAll_succ hp,List.mem_append,mem_pbAll (n:=n) (by omega)];have hE:e∈pbEs ea eb P n P[n] r↔∃ x,1≤x∧x≤(r:Int)∧0≤nextV ea P[n].1 x∧0≤nextV eb P[n].2 x∧e=⟨n,x,(P.idxOf (pbNext ea eb P[n] x):Nat)⟩:=by
   unfold pbEs;rw [List.mem_filterMap];constructor
   ·rintro ⟨j,hj,h⟩
    have hj:=List.mem_range.1 hj;unfold pbEd at h;split at h
    ·cases h
    ·rename_i hc
     exact ⟨(j:Int)+1,by omega,by omega,by omega,by omega,(Option.some.inj h).symm⟩
   ·rintro ⟨x,h1,h2,h3,h4,rfl⟩
    refine ⟨x.toNat - 1,List.mem_range.2 (by omega),?_⟩;have e:((x.toNat - 1:Nat):Int)+1=x:=by omega
    unfold pbEd;rw [e,if_neg (by omega)]
  rw [hE];constructor
  ·rintro (⟨i,p,x,h1,h2⟩ | ⟨x,h2⟩)
   ·exact ⟨i,p,x,by omega,h2⟩
   ·exact ⟨n,P[n],x,by omega,hp,h2⟩
  ·rintro ⟨i,p,x,h1,h2,h3⟩
   by_cases hi:i=n
   ·subst hi
    rw [hp] at h2;obtain rfl:=Option.some.inj h2;exact .inr ⟨x,h3⟩
   ·exact .inl ⟨i,p,x,by omega,h2,h3⟩
theorem nat_idx {P:PS} (hn:P.Nodup) {i:Nat} {p:Int × Int} (h:P[i]?=some p):P.idxOf p=i:=by
 obtain ⟨hi,rfl⟩:=List.getElem?_eq_some_iff.1 h;exact hn.idxOf_getElem i hi
theorem pull_sp {u v:Int} (ha:IsFol r s ea) (hb:IsFol r s' eb) (h0:PIn s s' (u,v)) {i x j:Int} :
  Sp (pullE r ea eb u v) i x j↔∃ (a b:Nat) (p q:Int × Int),i=a∧j=b∧(pairsOf ea eb (lets r.toNat) (u,v))[a]?=some p∧(pairsOf ea eb (lets r.toNat) (u,v))[b]?=some q∧Sp ea p.1 x q.1∧Sp eb p.2 x q.2:=by
 have hok:=pairs_ok (lets r.toNat) ha.gr.all hb.gr.all h0;have hcl:=pairs_closed (lets r.toNat) ha.gr hb.gr h0;have hrk:=ha.gr.rank;unfold pullE;generalize pairsOf ea eb (lets r.toNat) (u,v)=P at hok hcl ⊢;have hedge:∀ e:Ed,e∈canon (pbAll ea eb r.toNat P P.length)↔∃ (a b:Nat) (p q:Int × Int),0 < e.l∧e.a=a∧e.b=b∧P[a]?=some p∧P[b]?=some q∧Sp ea p.1 e.l q.1∧Sp eb p.2 e.l q.2:=by
  intro e;rw [mem_canon,mem_pbAll (Nat.le_refl _)];constructor
  ·rintro ⟨i,p,x,h1,h2,h3,h4,h5,h6,rfl⟩
   have hm:=hcl p (List.mem_of_getElem? h2) x (mem_lets.2 (by omega)) (by omega) (by omega);have hq:P[P.idxOf (pbNext ea eb p x)]?=some (pbNext ea eb p x):=by
    have hl:=List.idxOf_lt_length_iff.2 hm;rw [List.getElem?_eq_getElem hl,List.getElem_idxOf hl]
   exact ⟨i,_,p,_,by simp only;omega,rfl,rfl,h2,hq,sp_nextV h5,sp_nextV h6⟩
  ·rintro ⟨a,b,p,q,h1,h2,h3,h4,h5,h6,h7⟩
   have r1:=h6.rng ha.gr.all;have r2:=h7.rng hb.gr.all;have n1:=nextV_sp ha h6;have n2:=nextV_sp hb h7;refine ⟨a,p,e.l,(List.getElem?_eq_some_iff.1 h4).1,h4,by omega,by omega,by omega,by omega,?_⟩;have e1:pbNext ea eb p e.l=q:=by
    unfold pbNext;rw [n1,n2]
   rw [e1,nat_idx hok.nd h5];exact Ed.ext' h2 rfl h3
 constructor
 ·rintro (⟨h1,h2⟩ | ⟨h1,h2⟩)
  ·obtain ⟨a,b,p,q,h3,h4,h5,h6,h7,h8,h9⟩:=(hedge _).1 h2
   exact ⟨a,b,p,q,h4,h5,h6,h7,h8,h9⟩
  ·obtain ⟨a,b,p,q,h3,h4,h5,h6,h7,h8,h9⟩:=(hedge _).1 h2
   refine ⟨b,a,q,p,h5,h4,h7,h6,?_,?_⟩
   ·have:=h8.neg
    simpa using this
   ·have:=h9.neg
    simpa using this
 ·rintro ⟨a,b,p,q,rfl,rfl,h3,h4,h5,h6⟩
  have hx:=(h5.rng ha.gr.all).2.2.1;rcases Int.lt_or_gt_of_ne hx with hneg | hpos
  ·exact .inr ⟨hneg,(hedge _).2 ⟨b,a,q,p,by simp only;omega,rfl,rfl,h4,h3,h5.neg,h6.neg⟩⟩
  ·exact .inl ⟨hpos,(hedge _).2 ⟨a,b,p,q,hpos,rfl,rfl,h3,h4,h5,h6⟩⟩
theorem pull_fol {u v:Int} (ha:IsFol r s ea) (hb:IsFol r s' eb) (hp:PullOk r s ea r s' eb u v):IsFol r ((pairsOf ea eb (lets r.toNat) (u,v)).length:Int) (pullE r ea eb u v):=by
 have h0:=hp.pin;have hg:=pull_gr hp;have hok:=pairs_ok (lets r.toNat) ha.gr.all hb.gr.all h0;refine IsFol.mk' hg fun e he f hf hc=>?_;have he1:=hg.all e he;have hf1:=hg.all f hf;simp only [InG] at he1 hf1;obtain ⟨a,b,p,q,e1,e2,e3,e4,e5,e6⟩:=(pull_sp ha hb h0).1 (sp_edge he (by omega));obtain ⟨a',b',p',q',f1,f2,f3,f4,f5,f6⟩:=(pull_sp ha hb h0).1 (sp_edge hf (by omega));rw [← hc.1] at f5 f6;rcases hc.2 with h | h
 ·obtain rfl:a=a':=by omega
  rw [e3] at f3;obtain rfl:=Option.some.inj f3;have hq:q=q':=Prod.ext (ha.det e5 f5) (hb.det e6 f6);rw [← hq] at f4;have:=nodup_at hok.nd e4 f4;exact Ed.ext' h hc.1 (by omega)
 ·obtain rfl:b=b':=by omega
  rw [e4] at f4;obtain rfl:=Option.some.inj f4;have hq:p=p':=Prod.ext (ha.det e5.neg f5.neg) (hb.det e6.neg f6.neg);rw [← hq] at f3;have:=nodup_at hok.nd e3 f3;exact Ed.ext' (by omega) hc.1 h
def PSp (ea eb E:List Ed) (P:PS):Prop:=∀ i x j,Sp E i x j↔∃ (a b:Nat) (p q:Int × Int),i=a∧j=b∧P[a]?=some p∧P[b]?=some q∧Sp ea p.1 x q.1∧Sp eb p.2 x q.2
theorem PSp.to {E:List Ed} {P:PS} (h:PSp ea eb E P):∀ {w:List Int} {a:Nat} {p:Int × Int} {j:Int},P[a]?=some p→Pa E a w j→∃ (b:Nat) (q:Int × Int),j=b∧P[b]?=some q∧Pa ea p.1 w q.1∧Pa eb p.2 w q.2:=by
 intro w
 induction w with
 | nil=>exact fun {a p j} hp hpa=>⟨a,p,Eq.symm hpa,hp,rfl,rfl⟩
 | cons x w ih =>
  rintro a p j hp ⟨t,h1,h2⟩;obtain ⟨a',b',p',q',e1,rfl,e3,e4,e5,e6⟩:=(h _ _ _).1 h1;obtain rfl:a=a':=by omega
  rw [hp] at e3;obtain rfl:=Option.some.inj e3;obtain ⟨c,q,f1,f2,f3,f4⟩:=ih e4 h2;exact ⟨c,q,f1,f2,⟨_,e5,f3⟩,⟨_,e6,f4⟩⟩
theorem PSp.of {E:List Ed} {P:PS} (h:PSp ea eb E P) (hcl:∀ p∈P,∀ x t1 t2,Sp ea p.1 x t1→Sp eb p.2 x t2→(t1,t2)∈P):∀ {w:List Int} {a:Nat} {p:Int × Int} {y z:Int},P[a]?=some p→Pa ea p.1 w y→Pa eb p.2 w z→∃ b:Nat,P[b]?=some (y,z)∧Pa E a w b:=by
 intro w
 induction w with
 | nil=>exact fun {a p y z} hp h1 h2=>⟨a,by cases h1;cases h2;exact hp,rfl⟩
 | cons x w ih =>
  rintro a p y z hp ⟨t1,h1,h3⟩ ⟨t2,h2,h4⟩;have hm:=hcl p (List.mem_of_getElem? hp) x t1 t2 h1 h2;obtain ⟨c,hc⟩:=List.mem_iff_getElem?.1 hm;obtain ⟨b,h5,h6⟩:=ih hc h3 h4;exact ⟨b,h5,⟨(c:Int),(h _ _ _).2 ⟨a,c,p,(t1,t2),rfl,rfl,hp,hc,h1,h2⟩,h6⟩⟩
theorem PSp.inS {E:List Ed} {P:PS} (h:PSp ea eb E P) (hcl:∀ p∈P,∀ x t1 t2,Sp ea p.1 x t1→Sp eb p.2 x t2→(t1,t2)∈P) (hn:P.Nodup) (hh:P[0]?=some (0,0)) (w:List Int):InS E w↔InS ea w∧InS eb w:=by
 unfold InS;constructor
 ·intro hp
  obtain ⟨b,q,e1,e2,e3,e4⟩:=h.to (a:=0) hh hp;obtain rfl:b=0:=by omega
  rw [hh] at e2;obtain rfl:=Option.some.inj e2;exact ⟨e3,e4⟩
 ·rintro ⟨h1,h2⟩
  obtain ⟨b,e1,e2⟩:=h.of hcl (a:=0) hh h1 h2;have:=nodup_at hn hh e1;subst this;exact e2
theorem pairs_step {u v:Int} (ha:IsFol r s ea) (hb:IsFol r s' eb) (h0:PIn s s' (u,v)):∀ p∈pairsOf ea eb (lets r.toNat) (u,v),∀ x t1 t2,Sp ea p.1 x t1→Sp eb p.2 x t2→(t1,t2)∈pairsOf ea eb (lets r.toNat) (u,v):=by
 intro p hp x t1 t2 h1 h2;have hcl:=pairs_closed (lets r.toNat) ha.gr hb.gr h0;have hr:=h1.rng ha.gr.all;have hr2:=h2.rng hb.gr.all;have n1:=nextV_sp ha h1;have n2:=nextV_sp hb h2;have hm:=hcl p hp x (mem_lets.2 (by have:=ha.gr.rank;omega)) (by omega) (by omega);have e1:pbNext ea eb p x=(t1,t2):=by
  unfold pbNext;rw [n1,n2]
 rwa [e1] at hm
theorem pull_inS (ha:IsFol r s ea) (hb:IsFol r s' eb) (h0:PIn s s' (0,0)) (w:List Int):InS (pullE r ea eb 0 0) w↔InS ea w∧InS eb w :=
 PSp.inS (fun i x j=>pull_sp ha hb h0) (pairs_step ha hb h0) (pairs_ok (lets r.toNat) ha.gr.all hb.gr.all h0).nd (pairs_head ea eb (lets r.toNat) (0,0)) w
end
theorem core_uniqI {r s s':Int} {es es':List Ed} (h:IsCor r s es) (h':IsCor r s' es') (hl:∀ w,LtW w→(InS es w↔InS es' w)):s=s'∧es=es':=by
 have hr:=h.gr.rank;have hs0:=h.gr.size;have hs:=h'.gr.size;obtain ⟨a,rfl⟩:=Int.eq_ofNat_of_zero_le (show 0≤r by omega);obtain ⟨n,rfl⟩:=Int.eq_ofNat_of_zero_le (show 0≤s by omega);obtain ⟨n',rfl⟩:=Int.eq_ofNat_of_zero_le (show 0≤s' by omega);obtain ⟨h1,h2⟩:=core_uniq h h' hl;exact ⟨by rw [h1],h2⟩
end
end Go.Proofs.YthampgpcajmopaaGreat
namespace Go.Proofs
open Go.Shelf
def Tryz.lays215_ren:Go.Shelf.Ren:=⟨fun | 215=>267 | n=>n,fun | 3=>3 | 4=>4 | n=>n,fun | n=>n⟩
theorem Tryz.lays215:Go.Proofs.Lays.n215 Tryz.prog Tryz.lays215_ren:={
 mixed:=by kernel_rfl
 f215:=Tryz.func267.trans (congrArg some (by kernel_rfl))
 t3:=Tryz.underlying3
 a3:=Tryz.isAgg3
 z3:=Tryz.sizeOf3
 v3:=Tryz.zeroValue3
 t4:=Tryz.underlying4
 a4:=Tryz.isAgg4
 z4:=Tryz.sizeOf4
 v4:=Tryz.zeroValue4 }
def Tryz.lays189_ren:Go.Shelf.Ren:=⟨fun | 189=>219 | 125=>210 | 257=>242 | 128=>240 | 129=>241 | 294=>253 | 295=>254 | 296=>255 | 297=>256 | 298=>257 | 299=>258 | 216=>259 | 300=>260 | 301=>261 | 328=>264 | 329=>249 | 330=>250 | 331=>265 | 332=>266 | 215=>267 | 343=>269 | n=>n,fun | 28=>34 | 3=>3 | 46=>135 | 0=>0 | 51=>157 | 53=>159 | 4=>4 | 183=>151 | 182=>150 | 131=>75 | 5=>5 | 9=>9 | 218=>163 | 222=>167 | 228=>175 | 229=>97 | n=>n,fun | n=>n⟩
theorem Tryz.lays189:Go.Proofs.Lays.n189 Tryz.prog Tryz.lays189_ren:={
 mixed:=by kernel_rfl
 f125:=Tryz.func210.trans (congrArg some (by kernel_rfl))
 f128:=Tryz.func240.trans (congrArg some (by kernel_rfl))
 f129:=Tryz.func241.trans (congrArg some (by kernel_rfl))
 f189:=Tryz.func219.trans (congrArg some (by kernel_rfl))
 f215:=Tryz.func267.trans (congrArg some (by kernel_rfl))
 f216:=Tryz.func259.trans (congrArg some (by kernel_rfl))
 f257:=Tryz.func242.trans (congrArg some (by kernel_rfl))
 f294:=Tryz.func253.trans (congrArg some (by kernel_rfl))
 f295:=Tryz.func254.trans (congrArg some (by kernel_rfl))
 f296:=Tryz.func255.trans (congrArg some (by kernel_rfl))
 f297:=Tryz.func256.trans (congrArg some (by kernel_rfl))
 f298:=Tryz.func257.trans (congrArg some (by kernel_rfl))
 f299:=Tryz.func258.trans (congrArg some (by kernel_rfl))
 f300:=Tryz.func260.trans (congrArg some (by kernel_rfl))
 f301:=Tryz.func261.trans (congrArg some (by kernel_rfl))
 f328:=Tryz.func264.trans (congrArg some (by kernel_rfl))
 f329:=Tryz.func249.trans (congrArg some (by kernel_rfl))
 f330:=Tryz.func250.trans (congrArg some (by kernel_rfl))
 f331:=Tryz.func265.trans (congrArg some (by kernel_rfl))
 f332:=Tryz.func266.trans (congrArg some (by kernel_rfl))
 f343:=Tryz.func269.trans (congrArg some (by kernel_rfl))
 t0:=Tryz.underlying0
 a0:=Tryz.isAgg0
 z0:=Tryz.sizeOf0
 v0:=Tryz.zeroValue0
 t3:=Tryz.underlying3
 a3:=Tryz.isAgg3
 z3:=Tryz.sizeOf3
 v3:=Tryz.zeroValue3
 t4:=Tryz.underlying4
 a4:=Tryz.isAgg4
 z4:=Tryz.sizeOf4
 v4:=Tryz.zeroValue4
 t5:=Tryz.underlying5
 a5:=Tryz.isAgg5
 z5:=Tryz.sizeOf5
 v5:=Tryz.zeroValue5
 t9:=Tryz.underlying9
 a9:=Tryz.isAgg9
 z9:=Tryz.sizeOf9
 v9:=Tryz.zeroValue9
 t28:=Tryz.underlying34
 a28:=Tryz.isAgg34
 z28:=Tryz.sizeOf34
 v28:=Tryz.zeroValue34
 t46:=Tryz.underlying135
 a46:=Tryz.isAgg135
 z46:=Tryz.sizeOf135
 v46:=Tryz.zeroValue135
 t51:=Tryz.underlying157
 a51:=Tryz.isAgg157
 z51:=Tryz.sizeOf157
 v51:=Tryz.zeroValue157
 t53:=Tryz.underlying159
 a53:=Tryz.isAgg159
 z53:=Tryz.sizeOf159
 v53:=Tryz.zeroValue159
 t131:=Tryz.underlying75
 a131:=Tryz.isAgg75
 z131:=Tryz.sizeOf75
 v131:=Tryz.zeroValue75
 t182:=Tryz.underlying150
 a182:=Tryz.isAgg150
 z182:=Tryz.sizeOf150
 v182:=Tryz.zeroValue150
 t183:=Tryz.underlying151
 a183:=Tryz.isAgg151
 z183:=Tryz.sizeOf151
 v183:=Tryz.zeroValue151
 t218:=Tryz.underlying163
 a218:=Tryz.isAgg163
 z218:=Tryz.sizeOf163
 v218:=Tryz.zeroValue163
 t222:=Tryz.underlying167
 a222:=Tryz.isAgg167
 z222:=Tryz.sizeOf167
 v222:=Tryz.zeroValue167
 t228:=Tryz.underlying175
 a228:=Tryz.isAgg175
 z228:=Tryz.sizeOf175
 v228:=Tryz.zeroValue175
 t229:=Tryz.underlying97
 a229:=Tryz.isAgg97
 z229:=Tryz.sizeOf97
 v229:=Tryz.zeroValue97 }
open Go.Sort Go.RowKit in
theorem Tryz.slices_Sort_int (blk off cap:Nat) (zs:List Int) (w:World) (hH:Holds (Value.int .i64) w blk off zs.toArray) (hblk:blk < w.heap.size) (hsz:zs.length < 4611686018427387904) :
  Calls Tryz.prog 219 #[.slice (some ⟨blk,off,none⟩) zs.length cap] w fun e w' =>
   e=.returned (.tuple #[])∧∃ n os,w'=grow (putRow (Value.int .i64) (Sort.ahead w n) blk off (zs.mergeSort fun x y=>decide (x≤y)).toArray) os:=Any.slices_Sort_int Tryz.lays189 blk off cap zs w hH hblk hsz
def Tryz.lays112_ren:Go.Shelf.Ren:=⟨fun | 112=>223 | n=>n,fun | 28=>34 | 3=>3 | 4=>4 | 0=>0 | n=>n,fun | n=>n⟩
theorem Tryz.lays112:Go.Proofs.Lays.n112 Tryz.prog Tryz.lays112_ren:={
 mixed:=by kernel_rfl
 f112:=Tryz.func223.trans (congrArg some (by kernel_rfl))
 t0:=Tryz.underlying0
 a0:=Tryz.isAgg0
 z0:=Tryz.sizeOf0
 v0:=Tryz.zeroValue0
 t3:=Tryz.underlying3
 a3:=Tryz.isAgg3
 z3:=Tryz.sizeOf3
 v3:=Tryz.zeroValue3
 t4:=Tryz.underlying4
 a4:=Tryz.isAgg4
 z4:=Tryz.sizeOf4
 v4:=Tryz.zeroValue4
 t28:=Tryz.underlying34
 a28:=Tryz.isAgg34
 z28:=Tryz.sizeOf34
 v28:=Tryz.zeroValue34 }
open Go.RowKit Go.Lib Go.Sort in
theorem Tryz.slices_Reverse_int_arr (blk off cap:Nat) (d:Array Int) (w:World) (hH:Holds encI w blk off d) (hsz:d.size≤9223372036854775807) :
  Calls Tryz.prog 223 #[.slice (some ⟨blk,off,none⟩) d.size cap] w fun e w'=>e=.returned (.tuple #[])∧∃ n,w'=putRow encI (Sort.ahead w n) blk off d.reverse:=Any.slices_Reverse_int_arr Tryz.lays112 blk off cap d w hH hsz
open Go.RowKit Go.Lib Go.Sort in
theorem Tryz.slices_Reverse_int (blk off cap:Nat) (zs:List Int) (w:World) (hH:Holds (Value.int .i64) w blk off zs.toArray) (hsz:zs.length≤9223372036854775807) :
  Calls Tryz.prog 223 #[.slice (some ⟨blk,off,none⟩) zs.length cap] w fun e w'=>e=.returned (.tuple #[])∧∃ n,w'=putRow (Value.int .i64) (Sort.ahead w n) blk off zs.reverse.toArray:=Any.slices_Reverse_int Tryz.lays112 blk off cap zs w hH hsz
open Go.RowKit Go.Lib Go.Sort in
theorem Tryz.slices_Reverse_int_empty (a:Option Addr) (cap:Nat) (w:World) :
  Calls Tryz.prog 223 #[.slice a 0 cap] w fun e w'=>e=.returned (.tuple #[])∧w'=w:=Any.slices_Reverse_int_empty Tryz.lays112 a cap w
def Tryz.laysNm220_ren:Go.Shelf.Ren:=⟨fun | 20=>220 | n=>n,fun | 22=>34 | 3=>3 | 4=>4 | 0=>0 | n=>n,fun | n=>n⟩
theorem Tryz.laysNm220:Go.Proofs.Lays2.n20 Tryz.prog Tryz.laysNm220_ren:={
 mixed:=by kernel_rfl
 f20:=Tryz.func220.trans (congrArg some (by kernel_rfl))
 t0:=Tryz.underlying0
 a0:=Tryz.isAgg0
 z0:=Tryz.sizeOf0
 v0:=Tryz.zeroValue0
 t3:=Tryz.underlying3
 a3:=Tryz.isAgg3
 z3:=Tryz.sizeOf3
 v3:=Tryz.zeroValue3
 t4:=Tryz.underlying4
 a4:=Tryz.isAgg4
 z4:=Tryz.sizeOf4
 v4:=Tryz.zeroValue4
 t22:=Tryz.underlying34
 a22:=Tryz.isAgg34
 z22:=Tryz.sizeOf34
 v22:=Tryz.zeroValue34
 i3:=by kernel_rfl }
open Go.RowKit Go.Lib Go.Sort in
theorem Tryz.slices_Compact_int_arr (blk off cap:Nat) (d:Array Int) (w:World) (hH:Holds encI w blk off d) (hsz:d.size≤9223372036854775807) (hcap:d.size≤cap) :
  Calls Tryz.prog 220 #[.slice (some ⟨blk,off,none⟩) d.size cap] w fun e w'=>e=.returned (.slice (some ⟨blk,off,none⟩) (compactUpTo d d.size).length cap)∧∃ q,w'=putRow encI (Sort.ahead w q) blk off (compactUpTo d d.size++List.replicate (d.size - (compactUpTo d d.size).length) 0).toArray:=Any.slices_Compact_int_arr Tryz.laysNm220 blk off cap d w hH hsz hcap
open Go.RowKit Go.Lib Go.Sort in
theorem Tryz.slices_Compact_int (blk off cap:Nat) (zs:List Int) (w:World) (hH:Holds (Value.int .i64) w blk off zs.toArray) (hsz:zs.length≤9223372036854775807) (hcap:zs.length≤cap) :
  Calls Tryz.prog 220 #[.slice (some ⟨blk,off,none⟩) zs.length cap] w fun e w'=>e=.returned (.slice (some ⟨blk,off,none⟩) (Lib.compact zs).length cap)∧∃ q,w'=putRow (Value.int .i64) (Sort.ahead w q) blk off (Lib.compact zs++List.replicate (zs.length - (Lib.compact zs).length) 0).toArray:=Any.slices_Compact_int Tryz.laysNm220 blk off cap zs w hH hsz hcap
open Go.RowKit Go.Lib Go.Sort in
theorem Tryz.slices_Compact_int_empty (a:Option Addr) (cap:Nat) (w:World) :
  Calls Tryz.prog 220 #[.slice a 0 cap] w fun e w'=>e=.returned (.slice a 0 cap)∧w'=w:=Any.slices_Compact_int_empty Tryz.laysNm220 a cap w
open Go.RowKit Go.Lib Go.Sort in
theorem Tryz.slices_Reverse_int_cells (b off n c:Nat) (zs:List Int) (w:World) (hz:n≤zs.length) (hbig:n≤9223372036854775807) (hc:∀ j,j < zs.length→w.cell? ⟨b,off+j,none⟩=some (.int .i64 (zs.getD j 0))) (hf:∀ j,j < n→w.frozen? ⟨b,off+j,none⟩=false) :
  Calls Tryz.prog 223 #[.slice (some ⟨b,off,none⟩) n c] w fun e w'=>e=.returned (.tuple #[])∧∃ q,w'=(w.drewN q).setCells b off ((zs.take n).reverse.map (Value.int .i64)):=Any.slices_Reverse_int_cells Tryz.lays112 b off n c zs w hz hbig hc hf
open Go.RowKit Go.Lib Go.Sort in
theorem Tryz.slices_Compact_int_cells (b off n c:Nat) (zs:List Int) (w:World) (hz:n≤zs.length) (hbig:n≤9223372036854775807) (hcap:n≤c) (hc:∀ j,j < zs.length→w.cell? ⟨b,off+j,none⟩=some (.int .i64 (zs.getD j 0))) (hf:∀ j,j < n→w.frozen? ⟨b,off+j,none⟩=false) :
  Calls Tryz.prog 220 #[.slice (some ⟨b,off,none⟩) n c] w fun e w'=>e=.returned (.slice (some ⟨b,off,none⟩) (Lib.compact (zs.take n)).length c)∧∃ q,w'=(w.drewN q).setCells b off ((Lib.compact (zs.take n)++List.replicate (n - (Lib.compact (zs.take n)).length) 0).map (Value.int .i64)):=Any.slices_Compact_int_cells Tryz.laysNm220 b off n c zs w hz hbig hcap hc hf
open Go.RowKit Go.Sort in
theorem Tryz.slices_Sort_int_none (p:Option Addr) (cap:Nat) (w:World) :
  Calls Tryz.prog 219 #[.slice p 0 cap] w fun e w'=>e=.returned (.tuple #[])∧w'=w:=Any.slices_Sort_int_none Tryz.lays189 p cap w
end Go.Proofs
namespace Go.Proofs.YthampgpcajmopaaGreat
set_option linter.unusedVariables false
set_option linter.unusedSimpArgs false
set_option maxHeartbeats 40000000
set_option maxRecDepth 100000
section
open Go.RowKit Go.Sort
theorem put_mid {w:World} {g n:Nat} {d:Array Int} {os:Array Obj}:w.grownBy (grow (putRow (Value.int .i64) (Sort.ahead w n) g 0 d) os) (some g):=by
 refine ⟨rfl,rfl,rfl,by simp,fun k hk hne=>?_⟩;rw [heap_grow_old _ _ (by simpa using hk)];have:g≠k:=fun e=>hne (by rw [e]);simp [putRow,mapBlock,Sort.ahead,Array.getElem?_modify,this]
theorem owns_grow {w:World} {base:Nat} {e:TypeId} {size:Nat} {v:Value} {n:Nat} {xs:List Value} (h:w.ownsRow base e size v n xs) (os:Array Obj):(grow w os).ownsRow base e size v n xs:=by
 refine ⟨h.1,?_⟩;rcases h.2 with hn | ⟨g,cap,cur,rfl,hb,hh,rest⟩
 ·exact .inl hn
 ·refine .inr ⟨g,cap,cur,rfl,hb,?_,rest⟩
  rw [heap_grow_old _ _ (Array.getElem?_eq_some_iff.1 hh).1];exact hh
abbrev Turned (w:World) (lo hi:Nat) (A:Option Addr) (c:Nat) (ys:List Int) (e:Ending) (w':World):Prop :=
 e=.returned (.tuple #[])∧w'.ownsRow lo 3 1 (.slice A ys.length c) ys.length (ints ys)∧w.grownBy w' (Value.ownBlock (.slice A ys.length c))
theorem sortI (A:Option Addr) (xs:List Int) (c:Nat) (w:World) (lo:Nat) (ho:w.ownsRow lo 3 1 (.slice A xs.length c) xs.length (ints xs)) (hl:xs.length≤1048576) :
  Calls Tryz.prog 219 #[.slice A xs.length c] w (Turned w lo 0 A c (xs.mergeSort fun x y=>decide (x≤y))):=by
 by_cases hv:Value.slice A xs.length c=.slice none 0 0
 ·injection hv with h1 h2 h3
  obtain rfl:=List.eq_nil_of_length_eq_zero h2;subst h1 h3;exact (Tryz.slices_Sort_int_none none 0 w).mono fun e w' ⟨he,hw⟩=>by
   refine ⟨he,?_⟩
   first
    | (subst hw;exact ⟨by simpa using ho,World.grownBy.refl _ _⟩)
    | (obtain ⟨n,rfl⟩:=hw;exact ⟨by simpa using ho,World.grownBy.refl _ _⟩)
 ·obtain ⟨g,cap,he,hb,hg,hn,hm,hz,hH⟩:=Lib.holds_of_ownsRow (enc:=Value.int .i64) (zs:=xs) ho hv
  injection he with h1 _ h3
  subst h1 h3;refine (Tryz.slices_Sort_int g 0 c xs w hH hg (by omega)).mono ?_;rintro e w' ⟨he,n,os,rfl⟩;have hlen:(xs.mergeSort fun x y=>decide (x≤y)).length=xs.length:=List.length_mergeSort _;have h2:=Lib.ownsRow_putRow (enc:=Value.int .i64) (q:=n) (k:=xs.length) (ys:=xs.mergeSort fun x y=>decide (x≤y)) ho hlen (Nat.le_refl _);rw [List.take_of_length_le (by omega)] at h2;refine ⟨he,?_,?_⟩
  ·rw [hlen]
   exact owns_grow h2 os
  ·rw [hlen]
   exact put_mid
end
end Go.Proofs.YthampgpcajmopaaGreat
namespace Go.Proofs
open Go.Shelf
def Tryz.sortEd_ren:Go.Shelf.Ren:=⟨fun | 6=>172 | 15=>210 | 14=>209 | 28=>240 | 29=>241 | 20=>232 | 21=>233 | 22=>234 | 23=>235 | 24=>236 | 25=>237 | 26=>238 | 27=>239 | 46=>248 | 47=>249 | 48=>250 | 49=>251 | 50=>252 | 57=>263 | n=>n,fun | 22=>24 | 24=>68 | 25=>107 | 3=>3 | 39=>135 | 0=>0 | 53=>157 | 55=>159 | 4=>4 | 46=>151 | 45=>150 | 50=>75 | 5=>5 | 9=>9 | 66=>163 | 70=>167 | 76=>175 | 77=>97 | n=>n,fun | n=>n⟩
theorem Tryz.sortEd:Go.Proofs.SlLaysF0.n6 Tryz.prog Tryz.sortEd_ren:={
 mixed:=by kernel_rfl
 f6:=⟨Tryz.f172.name,by decide,Tryz.func172.trans (congrArg some (by kernel_rfl))⟩
 f14:=⟨Tryz.f209.name,by decide,Tryz.func209.trans (congrArg some (by kernel_rfl))⟩
 f15:=Tryz.func210.trans (congrArg some (by kernel_rfl))
 f20:=⟨Tryz.f232.name,by decide,Tryz.func232.trans (congrArg some (by kernel_rfl))⟩
 f21:=⟨Tryz.f233.name,by decide,Tryz.func233.trans (congrArg some (by kernel_rfl))⟩
 f22:=⟨Tryz.f234.name,by decide,Tryz.func234.trans (congrArg some (by kernel_rfl))⟩
 f23:=⟨Tryz.f235.name,by decide,Tryz.func235.trans (congrArg some (by kernel_rfl))⟩
 f24:=⟨Tryz.f236.name,by decide,Tryz.func236.trans (congrArg some (by kernel_rfl))⟩
 f25:=⟨Tryz.f237.name,by decide,Tryz.func237.trans (congrArg some (by kernel_rfl))⟩
 f26:=⟨Tryz.f238.name,by decide,Tryz.func238.trans (congrArg some (by kernel_rfl))⟩
 f27:=⟨Tryz.f239.name,by decide,Tryz.func239.trans (congrArg some (by kernel_rfl))⟩
 f28:=Tryz.func240.trans (congrArg some (by kernel_rfl))
 f29:=Tryz.func241.trans (congrArg some (by kernel_rfl))
 f46:=⟨Tryz.f248.name,by decide,Tryz.func248.trans (congrArg some (by kernel_rfl))⟩
 f47:=Tryz.func249.trans (congrArg some (by kernel_rfl))
 f48:=Tryz.func250.trans (congrArg some (by kernel_rfl))
 f49:=⟨Tryz.f251.name,by decide,Tryz.func251.trans (congrArg some (by kernel_rfl))⟩
 f50:=⟨Tryz.f252.name,by decide,Tryz.func252.trans (congrArg some (by kernel_rfl))⟩
 f57:=⟨Tryz.f263.name,by decide,Tryz.func263.trans (congrArg some (by kernel_rfl))⟩
 t0:=Tryz.underlying0
 a0:=Tryz.isAgg0
 z0:=Tryz.sizeOf0
 v0:=Tryz.zeroValue0
 t3:=Tryz.underlying3
 a3:=Tryz.isAgg3
 z3:=Tryz.sizeOf3
 v3:=Tryz.zeroValue3
 t4:=Tryz.underlying4
 a4:=Tryz.isAgg4
 z4:=Tryz.sizeOf4
 v4:=Tryz.zeroValue4
 t5:=Tryz.underlying5
 a5:=Tryz.isAgg5
 z5:=Tryz.sizeOf5
 v5:=Tryz.zeroValue5
 t9:=Tryz.underlying9
 a9:=Tryz.isAgg9
 z9:=Tryz.sizeOf9
 v9:=Tryz.zeroValue9
 t22:=Tryz.underlying24
 a22:=Tryz.isAgg24
 z22:=Tryz.sizeOf24
 v22:=Tryz.zeroValue24
 t25:=Tryz.underlying107
 a25:=Tryz.isAgg107
 z25:=Tryz.sizeOf107
 v25:=Tryz.zeroValue107
 t39:=Tryz.underlying135
 a39:=Tryz.isAgg135
 z39:=Tryz.sizeOf135
 v39:=Tryz.zeroValue135
 t45:=Tryz.underlying150
 a45:=Tryz.isAgg150
 z45:=Tryz.sizeOf150
 v45:=Tryz.zeroValue150
 t46:=Tryz.underlying151
 a46:=Tryz.isAgg151
 z46:=Tryz.sizeOf151
 v46:=Tryz.zeroValue151
 t50:=Tryz.underlying75
 a50:=Tryz.isAgg75
 z50:=Tryz.sizeOf75
 v50:=Tryz.zeroValue75
 t53:=Tryz.underlying157
 a53:=Tryz.isAgg157
 z53:=Tryz.sizeOf157
 v53:=Tryz.zeroValue157
 t55:=Tryz.underlying159
 a55:=Tryz.isAgg159
 z55:=Tryz.sizeOf159
 v55:=Tryz.zeroValue159
 t66:=Tryz.underlying163
 a66:=Tryz.isAgg163
 z66:=Tryz.sizeOf163
 v66:=Tryz.zeroValue163
 t70:=Tryz.underlying167
 a70:=Tryz.isAgg167
 z70:=Tryz.sizeOf167
 v70:=Tryz.zeroValue167
 t76:=Tryz.underlying175
 a76:=Tryz.isAgg175
 z76:=Tryz.sizeOf175
 v76:=Tryz.zeroValue175
 t77:=Tryz.underlying97
 a77:=Tryz.isAgg97
 z77:=Tryz.sizeOf97
 v77:=Tryz.zeroValue97 }
def Tryz.indexEd_ren:Go.Shelf.Ren:=⟨fun | 6=>196 | n=>n,fun | 22=>24 | 24=>68 | 3=>3 | 0=>0 | 4=>4 | n=>n,fun | n=>n⟩
theorem Tryz.indexEd:Go.Proofs.SlLaysQ.n6 Tryz.prog Tryz.indexEd_ren:={
 mixed:=by kernel_rfl
 f6:=⟨Tryz.f196.name,by decide,Tryz.func196.trans (congrArg some (by kernel_rfl))⟩
 t0:=Tryz.underlying0
 a0:=Tryz.isAgg0
 z0:=Tryz.sizeOf0
 v0:=Tryz.zeroValue0
 t3:=Tryz.underlying3
 a3:=Tryz.isAgg3
 z3:=Tryz.sizeOf3
 v3:=Tryz.zeroValue3
 t4:=Tryz.underlying4
 a4:=Tryz.isAgg4
 z4:=Tryz.sizeOf4
 v4:=Tryz.zeroValue4
 t22:=Tryz.underlying24
 a22:=Tryz.isAgg24
 z22:=Tryz.sizeOf24
 v22:=Tryz.zeroValue24 }
def Tryz.containsEd_ren:Go.Shelf.Ren:=⟨fun | 7=>141 | 6=>196 | n=>n,fun | 22=>24 | 24=>68 | 4=>4 | 0=>0 | 3=>3 | n=>n,fun | n=>n⟩
theorem Tryz.containsEd:Go.Proofs.SlLaysQ.n7 Tryz.prog Tryz.containsEd_ren:={
 mixed:=by kernel_rfl
 f6:=⟨Tryz.f196.name,by decide,Tryz.func196.trans (congrArg some (by kernel_rfl))⟩
 f7:=⟨Tryz.f141.name,by decide,Tryz.func141.trans (congrArg some (by kernel_rfl))⟩
 t0:=Tryz.underlying0
 a0:=Tryz.isAgg0
 z0:=Tryz.sizeOf0
 v0:=Tryz.zeroValue0
 t3:=Tryz.underlying3
 a3:=Tryz.isAgg3
 z3:=Tryz.sizeOf3
 v3:=Tryz.zeroValue3
 t4:=Tryz.underlying4
 a4:=Tryz.isAgg4
 z4:=Tryz.sizeOf4
 v4:=Tryz.zeroValue4
 t22:=Tryz.underlying24
 a22:=Tryz.isAgg24
 z22:=Tryz.sizeOf24
 v22:=Tryz.zeroValue24 }
def Tryz.equalEd_ren:Go.Shelf.Ren:=⟨fun | 8=>188 | n=>n,fun | 22=>24 | 24=>68 | 4=>4 | 3=>3 | 0=>0 | n=>n,fun | n=>n⟩
theorem Tryz.equalEd:Go.Proofs.SlLaysQ.n8 Tryz.prog Tryz.equalEd_ren:={
 mixed:=by kernel_rfl
 f8:=⟨Tryz.f188.name,by decide,Tryz.func188.trans (congrArg some (by kernel_rfl))⟩
 t0:=Tryz.underlying0
 a0:=Tryz.isAgg0
 z0:=Tryz.sizeOf0
 v0:=Tryz.zeroValue0
 t3:=Tryz.underlying3
 a3:=Tryz.isAgg3
 z3:=Tryz.sizeOf3
 v3:=Tryz.zeroValue3
 t4:=Tryz.underlying4
 a4:=Tryz.isAgg4
 z4:=Tryz.sizeOf4
 v4:=Tryz.zeroValue4
 t22:=Tryz.underlying24
 a22:=Tryz.isAgg24
 z22:=Tryz.sizeOf24
 v22:=Tryz.zeroValue24 }
end Go.Proofs
namespace Go.Proofs.YthampgpcajmopaaGreat
set_option linter.unusedVariables false
set_option linter.unusedSimpArgs false
set_option maxHeartbeats 40000000
set_option maxRecDepth 100000
section
open Go.RowKit
theorem cell_keep {w w':World} {lo hi b i:Nat} {u:Value} (m:Mid lo hi w w') (hb:b < w.heap.size) (hd:b < lo ∨ hi≤b) (hc:w.cell? ⟨b,i,none⟩=some u):w'.cell? ⟨b,i,none⟩=some u :=
 (World.cell?_of_block (m.block b hb (by omega))).trans hc
section
variable {P:Program} {w:World}
theorem run_cat (base:Nat) (t ty e:TypeId) (z:Value) (size bytes:Nat) (ht:P.underlying t=some (.slice e)) (hinfo:(P.info? e).map (fun i=>(i.zero,i.size,i.bytes))=some (some z,size,bytes))
  (hzs:z.cells.size=size) (hsz:0 < size)
  (v:Value) (n:Nat) (xs:List Value) (hown:w.ownsRow base e size v n xs)
  (A:Option Addr) (m c B:Nat) (news:List Value) (hr:Rs w B A news) (hl:news.length=m * size) (h1:∀ u∈news,u.oneCell'=true)
  (h63:n+m≤maxLen) (hbytes:(n+m) * bytes≤140737488355328) (hbase:base≤w.heap.size) :
  ∃ v' w',(Builtin.append_ #[t,t] ty #[v,.slice A m c]).run P w=.ok v' w'∧w'.ownsRow base e size v' (n+m) (xs++news)∧w.grownBy w' v.ownBlock ∧
   (v'.ownBlock=v.ownBlock ∨ v'.ownBlock=some w.heap.size):=by
 obtain ⟨i,hi,hz,hsize,hby⟩:=info_parts hinfo;rcases A with _ | ad
 ·have hn:news=[]:=by
   cases hne:news with
   | nil=>rfl
   | cons u r =>
    obtain ⟨b,off,he,_⟩:=hr (by rw [hne];simp);cases he
  subst hn;have hm:m=0:=by
   rcases Nat.eq_zero_or_pos m with h0 | h0
   ·exact h0
   ·have:=Nat.mul_pos h0 hsz
    simp at hl;omega
  subst hm;exact ⟨v,w,run_append_none base t ty e i size ht hi v n xs hown c,by simpa using hown,World.grownBy.refl w _,.inl rfl⟩
 ·have hcells:∀ j u,news[j]?=some u→w.cell? (ad.add j)=some u:=by
   intro j u hu;obtain ⟨b,off,he,_,hc⟩:=hr (by intro h0;subst h0;simp at hu);injection he with he
   subst he;rw [Addr.add_lit];exact hc j u hu
  obtain ⟨v',w',hrun,h2,h3,_,h5⟩:=run_append_own_at (P:=P) w base t ty e i z size bytes ht hi hz hsize hby hzs hsz v n xs hown ad m c news hl hcells h1 h63 hbytes hbase;exact ⟨v',w',hrun,h2,h3,h5⟩
theorem wp_cat {o:Oper} {a:Act} {K:Act→World→Prop} {Q:Exit→Act→World→Prop} (s x:Operand) (t:TypeId)
  (ho:o.op=.call { callee:=.builtin .append,args:=#[s,x],argTypes:=#[t,t] })
  (base:Nat) (e:TypeId) (z:Value) (size bytes:Nat) (ht:P.underlying t=some (.slice e)) (hinfo:(P.info? e).map (fun i=>(i.zero,i.size,i.bytes))=some (some z,size,bytes))
  (hzs:z.cells.size=size) (hsz:0 < size)
  (v:Value) (n:Nat) (xs:List Value) (hs:a.eval s=v) (hown:w.ownsRow base e size v n xs)
  (A:Option Addr) (m c B:Nat) (news:List Value) (hx:a.eval x=.slice A m c) (hr:Rs w B A news) (hl:news.length=m * size) (h1:∀ u∈news,u.oneCell'=true)
  (h63:n+m≤maxLen) (hbytes:(n+m) * bytes≤140737488355328) (hbase:base≤w.heap.size)
  (h:∀ v' w',w'.ownsRow base e size v' (n+m) (xs++news)→w.grownBy w' v.ownBlock→(v'.ownBlock=v.ownBlock ∨ v'.ownBlock=some w.heap.size)→K (a.put o.dst v') w'):o.wp P a w K Q:=by
 obtain ⟨v',w',hrun,h2,h3,h4⟩:=run_cat (P:=P) base t o.type e z size bytes ht hinfo hzs hsz v n xs hown A m c B news hr hl h1 h63 hbytes hbase;unfold Oper.wp execOp;simp only [ho,resolve,invoke,builtin,Sem.run_bind,Sem.run_pure,Result.andThen_ok,List.map_toArray,List.map_cons,List.map_nil,hs,hx,hrun];exact h v' w' h2 h3 h4
theorem step_cat {ops:Array Oper} {o:Oper} {a:Act} {K:Act→World→Prop} {Q:Exit→Act→World→Prop} {E:Prop} (hgd:o.guard=none) (s x:Operand) (t:TypeId)
  (ho:o.op=.call { callee:=.builtin .append,args:=#[s,x],argTypes:=#[t,t] })
  (base:Nat) (e:TypeId) (z:Value) (size bytes:Nat) (ht:P.underlying t=some (.slice e)) (hinfo:(P.info? e).map (fun i=>(i.zero,i.size,i.bytes))=some (some z,size,bytes))
  (hzs:z.cells.size=size) (hsz:0 < size)
  (v:Value) (n:Nat) (xs:List Value) (hs:a.eval s=v) (hown:w.ownsRow base e size v n xs)
  (A:Option Addr) (m c B:Nat) (news:List Value) (hx:a.eval x=.slice A m c) (hr:Rs w B A news) (hl:news.length=m * size) (h1:∀ u∈news,u.oneCell'=true)
  (h63:n+m≤maxLen) (hbytes:(n+m) * bytes≤140737488355328) (hbase:base≤w.heap.size)
  (h:∀ v' w',w'.ownsRow base e size v' (n+m) (xs++news)→w.grownBy w' v.ownBlock→(v'.ownBlock=v.ownBlock ∨ v'.ownBlock=some w.heap.size)→K (a.put o.dst v') w') :
  if Region.wanted o (yielded ops a.tmps)=true then Oper.wp P o a w K Q else E:=by
 have hw:Region.wanted o (yielded ops a.tmps)=true:=by simp [Region.wanted,hgd]
 rw [if_pos hw];exact wp_cat s x t ho base e z size bytes ht hinfo hzs hsz v n xs hs hown A m c B news hx hr hl h1 h63 hbytes hbase h
end
end
section
open Go.RowKit
def wg (w:World) (m:Nat) (os:Array Obj):World:={ w with heap:=w.heap++os,drawn:=m }
structure GB where
 n:Nat
 os:Array Obj
 deriving Inhabited
theorem Mid.ofWg (w:World) (m:Nat) (os:Array Obj):Mid 0 0 w (wg w m os) :=
 ⟨rfl,rfl,rfl,by simp [wg],fun k hk _=>by simp [wg,Array.getElem?_append,hk]⟩
theorem Mid.toWg {w w':World} (h:Mid 0 0 w w'):∃ p:GB,w'=wg w p.n p.os:=by
 refine ⟨⟨w'.drawn,w'.heap.extract w.heap.size w'.heap.size⟩,?_⟩;have hh:w'.heap=w.heap++w'.heap.extract w.heap.size w'.heap.size:=by
  apply Array.ext_getElem?;intro k;by_cases hk:k < w.heap.size
  ·rw [Array.getElem?_append_left hk]
   exact h.block k hk (by omega)
  ·rw [Array.getElem?_append_right (by omega),Array.getElem?_extract]
   have hs:=h.size;by_cases hk2:k < w'.heap.size
   ·rw [if_pos (by omega),show w.heap.size+(k - w.heap.size)=k by omega]
   ·rw [if_neg (by omega),Array.getElem?_eq_none (by omega)]
 have h1:=h.os;have h2:=h.tape;have h3:=h.output;cases w'
 cases w
 simp only [wg] at *;subst h1 h2 h3
 congr 1
theorem wg_cell {w:World} {a:Addr} {v:Value} (hb:a.block < w.heap.size) (h:w.cell? a=some v) (n:Nat) (os:Array Obj):(wg w n os).cell? a=some v :=
 (World.cell?_of_block ((Mid.ofWg w n os).block a.block hb (by omega))).trans h
theorem wg_size (w:World) (n:Nat) (os:Array Obj):(wg w n os).heap.size=w.heap.size+os.size:=by simp [wg]
theorem wp_region_quiet_wg {P:Program} {id:Nat} {Q:Exit→Act→World→Prop} {a:Act} {w:World} {l:List Oper} (hm:P.follows .mixedOrders=true) (hB:Region.lexB .any l.toArray=true)
  (h:wpQuiet P l.toArray (fun w'=>∃ p:GB,w'=wg w p.n p.os) (fun a'=>∀ w',(∃ p:GB,w'=wg w p.n p.os)→Q .normal a' w') l a):(Code.region id l.toArray true).wp P Q a w :=
 wp_region_quiet (C:=fun w'=>∃ p:GB,w'=wg w p.n p.os) hm hB (Mid.drew1 w).toWg (by simpa using h)
theorem Calls.wg_of {P:Program} {f:FuncId} {args:Array Value} {w:World} {n:Nat} {os:Array Obj} {v:Value}
  (h:Calls P f args (wg w n os) fun e w'=>e=.returned v∧Mid 0 0 (wg w n os) w'):Calls P f args (wg w n os) fun e w''=>e=.returned v∧∃ p:GB,w''=wg w p.n p.os :=
 h.mono fun _ _ ⟨he,hm⟩=>⟨he,((Mid.ofWg w n os).trans hm).toWg⟩
theorem Calls.wg_same {P:Program} {f:FuncId} {args:Array Value} {w:World} {n:Nat} {os:Array Obj} {v:Value}
  (h:Calls P f args (wg w n os) fun e w'=>e=.returned v∧wg w n os=w'):Calls P f args (wg w n os) fun e w''=>e=.returned v∧∃ p:GB,w''=wg w p.n p.os :=
 h.mono fun _ _ ⟨he,hm⟩=>⟨he,⟨n,os⟩,hm.symm⟩
end
section
open Go.RowKit
abbrev Ed.v (e:Ed):Value:=.agg #[.int .i64 e.a,.int .i64 e.l,.int .i64 e.b]
def edB (r s:Int) (e:Ed):Bool:=inB e.a 0 (wrap64 (s - 1)) && inB e.b 0 (wrap64 (s - 1)) && inB e.l 1 r
theorem RV.ed {w:World} {lo hi:Nat} {A:Option Addr} {es:List Ed} {k:Nat} (h:RV w lo hi A (ints (edI es))) (hk:k < es.length) :
  ∃ b off e,A=some ⟨b,off,none⟩∧lo≤b∧b < hi∧es[k]?=some e∧w.cell? ⟨b,off+k * 3,none⟩=some (.int .i64 e.a)∧w.cell? ⟨b,off+k * 3+1,none⟩=some (.int .i64 e.l)∧w.cell? ⟨b,off+k * 3+2,none⟩=some (.int .i64 e.b):=by
 obtain ⟨e,he⟩:=get_of_lt es hk;obtain ⟨g0,g1,g2⟩:=edI_at he;obtain ⟨b,off,hA,h1,h2,hc⟩:=h.2 (by intro h0;have:=congrArg List.length h0;rw [ints_len,edI_len] at this;simp at this;omega);exact ⟨b,off,e,hA,h1,h2,he,hc (k * 3) _ (by rw [ints_get,g0];rfl),hc (k * 3+1) _ (by rw [ints_get,g1];rfl),hc (k * 3+2) _ (by rw [ints_get,g2];rfl)⟩
theorem impl_has (r s:Int) (A:Option Addr) (n c:Nat) (x:Int) (w:World) (b:Bool) (hb:inB x 0 (wrap64 (s - 1))=b) :
  Calls Tryz.prog 128 #[.agg #[.int .i64 r,.int .i64 s,.slice A n c],.int .i64 x] w fun e w'=>e=.returned (.bool b)∧Mid 0 0 w w':=by
 subst hb;go_enter Tryz.func128,Tryz.ntmps128
 go_wp2_with fail;with_reducible refine (within_any _ _ _ _).mono ?_
 rintro e w' ⟨rfl,rfl⟩;go_wp2_with fail;go_ret;exact ⟨rfl,Mid.alloc _ _⟩
theorem impl_accepts (r s:Int) (A:Option Addr) (n c:Nat) (e:Ed) (w:World) :
  Calls Tryz.prog 170 #[.agg #[.int .i64 r,.int .i64 s,.slice A n c],e.v] w fun en w'=>en=.returned (.bool (edB r s e))∧Mid 0 0 w w':=by
 obtain ⟨a,l,b⟩:=e;have hm0:Mid 0 0 w ((w.alloc (.cells #[.int .i64 r,.int .i64 s,.slice A n c] 26)).alloc (.cells #[.int .i64 a,.int .i64 l,.int .i64 b] 68)):=(Mid.alloc _ _).trans (Mid.alloc _ _);have B0:=(Box.new w #[.int .i64 r,.int .i64 s,.slice A n c] 26).mid (Mid.alloc _ (.cells #[.int .i64 a,.int .i64 l,.int .i64 b] 68)) oZr;have B1:=Box.new (w.alloc (.cells #[.int .i64 r,.int .i64 s,.slice A n c] 26)) #[.int .i64 a,.int .i64 l,.int .i64 b] 68;cases h1:inB a 0 (wrap64 (s - 1)) with
 | false =>
  have hv:edB r s ⟨a,l,b⟩=false:=by simp [edB,h1]
  rw [hv];clear hv B0 B1;go_enter Tryz.func170,Tryz.ntmps170
  go_wp2_with fail;with_reducible refine (impl_has _ _ _ _ _ _ _ _ h1).mono ?_
  rintro en w1 ⟨rfl,hm1⟩;go_wp2_with fail;go_ret;exact ⟨rfl,hm0.trans hm1⟩
 | true =>
  cases h2:inB b 0 (wrap64 (s - 1)) with
  | false =>
   have hv:edB r s ⟨a,l,b⟩=false:=by simp [edB,h2]
   rw [hv];clear hv;go_enter Tryz.func170,Tryz.ntmps170
   go_wp2_with fail;with_reducible refine (impl_has _ _ _ _ _ _ _ _ h1).mono ?_
   rintro en w1 ⟨rfl,hm1⟩;have C0:=B0.mid hm1 oZr;have C1:=B1.mid hm1 oZr;have c00:=C0.cell 0 rfl;have c01:=C0.cell 1 rfl;have c02:=C0.cell 2 rfl;have c10:=C1.cell 0 rfl;have c11:=C1.cell 1 rfl;have c12:=C1.cell 2 rfl;simp only [World.size_alloc] at c10 c11 c12;go_wp2_with fail;with_reducible refine (impl_has _ _ _ _ _ _ _ _ h2).mono ?_
   rintro en w2 ⟨rfl,hm2⟩;go_wp2_with fail;go_ret;exact ⟨rfl,(hm0.trans hm1).trans hm2⟩
  | true =>
   have hv:edB r s ⟨a,l,b⟩=inB l 1 r:=by simp [edB,h1,h2]
   rw [hv];clear hv;go_enter Tryz.func170,Tryz.ntmps170
   go_wp2_with fail;with_reducible refine (impl_has _ _ _ _ _ _ _ _ h1).mono ?_
   rintro en w1 ⟨rfl,hm1⟩;have C0:=B0.mid hm1 oZr;have C1:=B1.mid hm1 oZr;have c00:=C0.cell 0 rfl;have c01:=C0.cell 1 rfl;have c02:=C0.cell 2 rfl;have c10:=C1.cell 0 rfl;have c11:=C1.cell 1 rfl;have c12:=C1.cell 2 rfl;simp only [World.size_alloc] at c10 c11 c12;go_wp2_with fail;with_reducible refine (impl_has _ _ _ _ _ _ _ _ h2).mono ?_
   rintro en w2 ⟨rfl,hm2⟩;have D0:=C0.mid hm2 oZr;have D1:=C1.mid hm2 oZr;have d00:=D0.cell 0 rfl;have d11:=D1.cell 1 rfl;simp only [World.size_alloc] at d11;go_wp2_with fail;with_reducible refine (within_any _ _ _ _).mono ?_
   rintro en w3 ⟨rfl,rfl⟩;go_wp2_with fail;go_ret;exact ⟨rfl,(hm0.trans hm1).trans hm2⟩
theorem spec_l4Edge (r s:Int) (A:Option Addr) (n c:Nat) (e:Ed) (w:World) :
  Calls Tryz.prog 174 #[.agg #[.int .i64 r,.int .i64 s,.slice A n c],e.v] w fun en w'=>en=.returned (.bool (edB r s e))∧Mid 0 0 w w':=by
 obtain ⟨a,l,b⟩:=e;have hm0:Mid 0 0 w ((w.alloc (.cells #[.int .i64 r,.int .i64 s,.slice A n c] 26)).alloc (.cells #[.int .i64 a,.int .i64 l,.int .i64 b] 68)):=(Mid.alloc _ _).trans (Mid.alloc _ _);have hL:∀ x lo hi (W:World) (b:Bool),inB x lo hi=b→Calls Tryz.prog 131 #[.int .i64 x,.int .i64 lo,.int .i64 hi] W fun e w'=>e=.returned (.bool b)∧W=w':=fun x lo hi W b h=>h ▸ l1In_any x lo hi W;cases h1:inB a 0 (wrap64 (s - 1)) with
 | false =>
  have hv:edB r s ⟨a,l,b⟩=false:=by simp [edB,h1]
  rw [hv];clear hv;go_enter Tryz.func174,Tryz.ntmps174
  go_wp2_with fail;with_reducible refine (hL _ _ _ _ _ h1).mono ?_
  rintro en w1 ⟨rfl,rfl⟩;go_wp2_with fail;go_ret;exact ⟨rfl,hm0⟩
 | true =>
  cases h2:inB b 0 (wrap64 (s - 1)) with
  | false =>
   have hv:edB r s ⟨a,l,b⟩=false:=by simp [edB,h2]
   rw [hv];clear hv;go_enter Tryz.func174,Tryz.ntmps174
   go_wp2_with fail;with_reducible refine (hL _ _ _ _ _ h1).mono ?_
   rintro en w1 ⟨rfl,rfl⟩;go_wp2_with fail;with_reducible refine (hL _ _ _ _ _ h2).mono ?_
   rintro en w1 ⟨rfl,rfl⟩;go_wp2_with fail;go_ret;exact ⟨rfl,hm0⟩
  | true =>
   have hv:edB r s ⟨a,l,b⟩=inB l 1 r:=by simp [edB,h1,h2]
   rw [hv];clear hv;go_enter Tryz.func174,Tryz.ntmps174
   go_wp2_with fail;with_reducible refine (hL _ _ _ _ _ h1).mono ?_
   rintro en w1 ⟨rfl,rfl⟩;go_wp2_with fail;with_reducible refine (hL _ _ _ _ _ h2).mono ?_
   rintro en w1 ⟨rfl,rfl⟩;go_wp2_with fail;with_reducible refine (l1In_any _ _ _ _).mono ?_
   rintro en w1 ⟨rfl,rfl⟩;go_wp2_with fail;go_ret;exact ⟨rfl,hm0⟩
theorem impl_CompareEdgesW (e f:Ed) (w:World) :
  Calls Tryz.prog 171 #[e.v,f.v] w fun en w'=>en=.returned (.int .i64 (cmpE e f))∧((w.alloc (.cells #[.int .i64 e.a,.int .i64 e.l,.int .i64 e.b] 68)).alloc (.cells #[.int .i64 f.a,.int .i64 f.l,.int .i64 f.b] 68))=w':=by
 obtain ⟨a,l,b⟩:=e;obtain ⟨a',l',b'⟩:=f;have hC:∀ x y (W:World) (v:Int),cmpI x y=v→Calls Tryz.prog 208 #[.int .i64 x,.int .i64 y] W fun e w'=>e=.returned (.int .i64 v)∧W=w':=fun x y W v h=>h ▸ impl_compareInts x y W;obtain ⟨u,hu⟩:∃ u,cmpI a a'=u:=⟨_,rfl⟩
 obtain ⟨v,hv⟩:∃ v,cmpI l l'=v:=⟨_,rfl⟩
 have he:cmpE ⟨a,l,b⟩ ⟨a',l',b'⟩=if u≠0 then u else if v≠0 then v else cmpI b b':=by simp [cmpE,hu,hv]
 rw [he];clear he;by_cases h1:u=0
 ·by_cases h2:v=0
  ·rw [if_neg (by simpa using h1),if_neg (by simpa using h2)]
   subst h1;subst h2;go_enter Tryz.func171,Tryz.ntmps171
   go_wp2_with fail;with_reducible refine (hC _ _ _ _ hu).mono ?_
   rintro en w1 ⟨rfl,rfl⟩;go_wp2_with fail;with_reducible refine (hC _ _ _ _ hv).mono ?_
   rintro en w1 ⟨rfl,rfl⟩;go_wp2_with fail;with_reducible refine (impl_compareInts _ _ _).mono ?_
   rintro en w1 ⟨rfl,rfl⟩;go_wp2_with fail;go_ret;exact ⟨rfl,rfl⟩
  ·rw [if_neg (by simpa using h1),if_pos (by simpa using h2)]
   subst h1;have hn:(v != 0)=true:=by simpa using h2
   go_enter Tryz.func171,Tryz.ntmps171
   go_wp2_with fail;with_reducible refine (hC _ _ _ _ hu).mono ?_
   rintro en w1 ⟨rfl,rfl⟩;go_wp2_with fail;with_reducible refine (hC _ _ _ _ hv).mono ?_
   rintro en w1 ⟨rfl,rfl⟩;go_wp2_with fail;go_ret;exact ⟨rfl,rfl⟩
 ·rw [if_pos (by simpa using h1)]
  have hn:(u != 0)=true:=by simpa using h1
  go_enter Tryz.func171,Tryz.ntmps171
  go_wp2_with fail;with_reducible refine (hC _ _ _ _ hu).mono ?_
  rintro en w1 ⟨rfl,rfl⟩;go_wp2_with fail;go_ret;exact ⟨rfl,rfl⟩
theorem impl_CompareEdges (e f:Ed) (w:World) :
  Calls Tryz.prog 171 #[e.v,f.v] w fun en w'=>en=.returned (.int .i64 (cmpE e f))∧Mid 0 0 w w' :=
 (impl_CompareEdgesW e f w).mono fun _ _ ⟨h,hw⟩=>⟨h,hw ▸ (Mid.alloc _ _).trans (Mid.alloc _ _)⟩
end
section
open Go.RowKit
theorem cmpI_lt {a b:Int} (h:a < b):cmpI a b = -1:=by simp [cmpI,h]
theorem cmpI_gt {a b:Int} (h:b < a):cmpI a b=1:=by simp [cmpI,h,show ¬ a < b from by omega]
theorem cmpE_first {e f:Ed} {v:Int} (h:cmpI e.a f.a=v) (h0:v≠0):cmpE e f=v:=by simp [cmpE,h,h0]
theorem cmpE_second {e f:Ed} {v:Int} (h1:e.a=f.a) (h:cmpI e.l f.l=v) (h0:v≠0):cmpE e f=v:=by simp [cmpE,cmpI_zero.2 h1,h,h0]
theorem cmpE_third {e f:Ed} {v:Int} (h1:e.a=f.a) (h2:e.l=f.l) (h:cmpI e.b f.b=v):cmpE e f=v:=by simp [cmpE,cmpI_zero.2 h1,cmpI_zero.2 h2,h]
theorem spec_CompareEdges (e f:Ed) (w:World) :
  Calls Tryz.prog 175 #[e.v,f.v] w fun en w'=>en=.returned (.int .i64 (cmpE e f))∧Mid 0 0 w w':=by
 obtain ⟨a,l,b⟩:=e;obtain ⟨a',l',b'⟩:=f;obtain ⟨u,hu⟩:∃ u,cmpE ⟨a,l,b⟩ ⟨a',l',b'⟩=u:=⟨_,rfl⟩
 rw [hu];have HU:=Lib.hid hu;clear hu;go_enter Tryz.func175,Tryz.ntmps175
 go_wp2_with fail;go_loopw [4,7] (fun _ i wr=>∃ k:Nat,i=.int .i64 k∧k≤3∧Mid 0 0 w wr∧(0 < k→a=a')∧(1 < k→l=l')∧(2 < k→b=b') ∧
   wr.cell? ⟨w.heap.size+1+1,0,none⟩=some (.int .i64 a)∧wr.cell? ⟨w.heap.size+1+1,1,none⟩=some (.int .i64 l)∧wr.cell? ⟨w.heap.size+1+1,2,none⟩=some (.int .i64 b) ∧
   wr.cell? ⟨w.heap.size+1+1+1,0,none⟩=some (.int .i64 a')∧wr.cell? ⟨w.heap.size+1+1+1,1,none⟩=some (.int .i64 l')∧wr.cell? ⟨w.heap.size+1+1+1,2,none⟩=some (.int .i64 b')) (fun _ i _=>4 - (intOf i).toNat)
 case atStart =>
  refine ⟨0,rfl,by omega,?_,by simp,by simp,by simp,?_,?_,?_,?_,?_,?_⟩
  ·exact (((Mid.alloc _ _).trans (Mid.alloc _ _)).trans (Mid.alloc _ _)).trans (Mid.alloc _ _)
  all_goals simp [World.cell?_alloc_at,World.cell?_alloc_past]
 case round =>
  obtain ⟨k,rfl,hk,hm,e0,e1,e2,c0,c1,c2,d0,d1,d2⟩:=hrel;by_cases h3:3≤k
  ·go_wp2_with fail
   go_ret;obtain rfl:u=0:=by rw [← HU.out];exact cmpE_third (e0 (by omega)) (e1 (by omega)) (cmpI_zero.2 (e2 (by omega)))
   exact ⟨rfl,hm⟩
  ·have step:∀ (x y:Int),wr.cell? ⟨w.heap.size+1+1,k,none⟩=some (.int .i64 x)→wr.cell? ⟨w.heap.size+1+1+1,k,none⟩=some (.int .i64 y)→True:=fun _ _ _ _=>trivial
   obtain ⟨x,y,cx,cy,hxy⟩:∃ x y,wr.cell? ⟨w.heap.size+1+1,k,none⟩=some (.int .i64 x)∧wr.cell? ⟨w.heap.size+1+1+1,k,none⟩=some (.int .i64 y)∧(x≠y→u=cmpI x y)∧(k=0→x=a∧y=a')∧(k=1→x=l∧y=l')∧(k=2→x=b∧y=b'):=by
    rcases (by omega:k=0 ∨ k=1 ∨ k=2) with rfl | rfl | rfl
    ·exact ⟨a,a',c0,d0,fun h=>by rw [← HU.out];exact cmpE_first rfl (fun h0=>h (cmpI_zero.1 h0)),by simp,by simp,by simp⟩
    ·exact ⟨l,l',c1,d1,fun h=>by rw [← HU.out];exact cmpE_second (e0 (by omega)) rfl (fun h0=>h (cmpI_zero.1 h0)),by simp,by simp,by simp⟩
    ·exact ⟨b,b',c2,d2,fun h=>by rw [← HU.out];exact cmpE_third (e0 (by omega)) (e1 (by omega)) rfl,by simp,by simp,by simp⟩
   have hk2:k < 3:=by omega
   have HE:=Lib.hid (And.intro e0 (And.intro e1 e2));have HC:=Lib.hid (And.intro c0 (And.intro c1 (And.intro c2 (And.intro d0 (And.intro d1 d2)))));have HX:=Lib.hid hxy;clear e0 e1 e2 c0 c1 c2 d0 d1 d2 hxy step h3 hk;by_cases hlt:x < y
   ·have hv:=HX.out.1 (by omega)
    rw [cmpI_lt hlt] at hv;subst hv;go_wp2_with fail;go_quiet (fail)
    go_wp2_with fail;go_ret;exact ⟨rfl,hm.drewN _⟩
   ·by_cases hgt:y < x
    ·have hv:=HX.out.1 (by omega)
     rw [cmpI_gt hgt] at hv;subst hv;go_wp2_with fail;go_quiet (fail)
     go_wp2_with fail;go_quiet (fail)
     go_wp2_with fail;go_ret;exact ⟨rfl,by first | exact (hm.drewN _).drewN _ | exact hm.drewN _⟩
    ·have hq:x=y:=by omega
     clear hlt hgt;subst hq;go_wp2_with fail;go_quiet (fail)
     go_wp2_with fail;go_quiet (fail)
     go_wp2_with fail;go_roundw
     case rel =>
      obtain ⟨e0,e1,e2⟩:=HE.out;obtain ⟨c0,c1,c2,d0,d1,d2⟩:=HC.out;obtain ⟨-,q0,q1,q2⟩:=HX.out;refine ⟨k+1,by go_num,by omega,by first | exact (hm.drewN _).drewN _ | exact hm.drewN _,fun h=>?_,fun h=>?_,fun h=>?_,c0,c1,c2,d0,d1,d2⟩
      ·rcases (by omega:k=0 ∨ 0 < k) with h5 | h5
       ·rw [← (q0 h5).1,← (q0 h5).2]
       ·exact e0 h5
      ·rcases (by omega:k=1 ∨ 1 < k) with h5 | h5
       ·rw [← (q1 h5).1,← (q1 h5).2]
       ·exact e1 h5
      ·rcases (by omega:k=2 ∨ 2 < k) with h5 | h5
       ·rw [← (q2 h5).1,← (q2 h5).2]
       ·exact e2 h5
     case measure=>simp [intOf];omega
end
section
open Go.RowKit
def UpTo (r s:Int) (es:List Ed) (k:Nat):Prop:=∀ j e,j < k→es[j]?=some e→edB r s e=true∧∀ f,0 < j→es[j - 1]?=some f→cmpE f e < 0
theorem UpTo.zero (r s:Int) (es:List Ed):UpTo r s es 0:=fun j e h=>absurd h (Nat.not_lt_zero _)
theorem UpTo.succ {r s:Int} {es:List Ed} {k:Nat} {e:Ed} (h:UpTo r s es k) (he:es[k]?=some e) (h1:edB r s e=true) (h2:∀ f,0 < k→es[k - 1]?=some f→cmpE f e < 0):UpTo r s es (k+1):=by
 intro j e' hj he';rcases Nat.lt_succ_iff_lt_or_eq.1 hj with h3 | rfl
 ·exact h j e' h3 he'
 ·rw [he] at he'
  injection he' with he'
  subst he';exact ⟨h1,h2⟩
abbrev graV (r s:Int) (A:Option Addr) (n c:Nat):Value:=.agg #[.int .i64 r,.int .i64 s,.slice A n c]
theorem edB_iff {r s:Int} {e:Ed} (h1:1≤s) (h2:s≤40):edB r s e=true↔InG r s e:=by
 unfold edB InG inB;rw [IntWalk.wrap64_in (s - 1) (by omega)];simp;omega
theorem asc_at {es:List Ed}:Asc es↔∀ (j:Nat) (e f:Ed),0 < j→es[j - 1]?=some f→es[j]?=some e→LtE f e:=by
 constructor
 ·intro h j e f hj hf he
  obtain ⟨h1,h1'⟩:=List.getElem?_eq_some_iff.1 hf;obtain ⟨h2,h2'⟩:=List.getElem?_eq_some_iff.1 he;have:=List.pairwise_iff_getElem.1 h (j - 1) j h1 h2 (by omega);rw [h1',h2'] at this;exact this
 ·intro h
  refine List.pairwise_iff_getElem.2 fun i j hi hj hij=>?_;obtain ⟨d,rfl⟩:∃ d,j=i+1+d:=⟨j - i - 1,by omega⟩
  clear hij
  induction d with
  | zero=>exact h (i+1) _ _ (by omega) (by rw [Nat.add_sub_cancel];exact List.getElem?_eq_getElem hi) (List.getElem?_eq_getElem hj)
  | succ d ih=>exact (ih (by omega)).trans (h (i+1+(d+1)) _ _ (by omega) (List.getElem?_eq_getElem (by omega)) (List.getElem?_eq_getElem hj))
theorem upTo_all {r s:Int} {es:List Ed} (h1:1≤s) (h2:s≤40):UpTo r s es es.length↔(∀ e∈es,InG r s e)∧Asc es:=by
 constructor
 ·intro h
  refine ⟨fun e he=>?_,asc_at.2 fun j e f hj hf he=>?_⟩
  ·obtain ⟨j,hj⟩:=List.mem_iff_getElem?.1 he
   exact (edB_iff h1 h2).1 (h j e (List.getElem?_eq_some_iff.1 hj).1 hj).1
  ·exact cmpE_neg.1 ((h j e (List.getElem?_eq_some_iff.1 he).1 he).2 f hj hf)
 ·rintro ⟨h3,h4⟩ j e hj he
  exact ⟨(edB_iff h1 h2).2 (h3 e (List.mem_of_getElem? he)),fun f h0 hf=>cmpE_neg.2 (asc_at.1 h4 j e f h0 hf he)⟩
structure GrT (r s:Int) (es:List Ed):Prop where
 rank:inB r 1 3=true
 size:inB s 1 40=true
 len:es.length≤120
 up:UpTo r s es es.length
theorem grT_iff {r s:Int} {es:List Ed}:GrT r s es↔IsGr r s es:=by
 constructor
 ·rintro ⟨h1,h2,h3,h4⟩
  have h1:1≤r∧r≤3:=by simpa [inB] using h1
  have h2:1≤s∧s≤40:=by simpa [inB] using h2
  obtain ⟨h5,h6⟩:=(upTo_all h2.1 h2.2).1 h4;exact ⟨h1,h2,h3,h5,h6⟩
 ·rintro ⟨h1,h2,h3,h4,h5⟩
  exact ⟨by simpa [inB] using h1,by simpa [inB] using h2,h3,(upTo_all h2.1 h2.2).2 ⟨h4,h5⟩⟩
theorem within_at {x lo hi:Int} {b:Bool} (h:inB x lo hi=b) (W:World):Calls Tryz.prog 154 #[.int .i64 x,.int .i64 lo,.int .i64 hi] W fun e w'=>e=.returned (.bool b)∧W=w':=h ▸ within_any x lo hi W
theorem l1In_at {x lo hi:Int} {b:Bool} (h:inB x lo hi=b) (W:World):Calls Tryz.prog 131 #[.int .i64 x,.int .i64 lo,.int .i64 hi] W fun e w'=>e=.returned (.bool b)∧W=w':=h ▸ l1In_any x lo hi W
theorem impl_IsGraph (r s:Int) (A:Option Addr) (es:List Ed) (c:Nat) (w:World) (lo hi:Nat) (hr:RV w lo hi A (ints (edI es))) (hl:es.length≤1048576) (b:Bool) (hb:b=true↔IsGr r s es) :
  Calls Tryz.prog 92 #[graV r s A es.length c] w fun e w'=>e=.returned (.bool b)∧Mid 0 0 w w':=by
 have HB:=Lib.hid (hb.trans grT_iff.symm);clear hb;have bx0:=Box.new w #[.int .i64 r,.int .i64 s,.slice A es.length c] 26;have hm0:=Mid.alloc w (.cells #[.int .i64 r,.int .i64 s,.slice A es.length c] 26);cases h1:inB r 1 3 with
 | false =>
  obtain rfl:b=false:=by cases b with | false=>rfl | true=>have:=(HB.out.1 rfl).rank;rw [h1] at this;cases this
  clear HB;go_enter Tryz.func92,Tryz.ntmps92
  go_wp2_with fail;with_reducible refine (within_at h1 _).mono ?_
  rintro en w1 ⟨rfl,rfl⟩;go_wp2_with fail;go_ret;exact ⟨rfl,hm0⟩
 | true =>
 have H1:=Lib.hid h1;go_enter Tryz.func92,Tryz.ntmps92
 go_wp2_with fail;with_reducible refine (within_at h1 _).mono ?_
 rintro en w1 ⟨rfl,rfl⟩;clear h1;cases h2:inB s 1 40 with
 | false =>
  obtain rfl:b=false:=by cases b with | false=>rfl | true=>have:=(HB.out.1 rfl).size;rw [h2] at this;cases this
  clear HB;go_wp2_with fail;with_reducible refine (within_at h2 _).mono ?_
  rintro en w1 ⟨rfl,rfl⟩;go_wp2_with fail;go_ret;exact ⟨rfl,hm0⟩
 | true =>
 have H2:=Lib.hid h2;go_wp2_with fail;with_reducible refine (within_at h2 _).mono ?_
 rintro en w1 ⟨rfl,rfl⟩;clear h2;by_cases h3:120 < es.length
 ·obtain rfl:b=false:=by cases b with | false=>rfl | true=>have:=(HB.out.1 rfl).len;omega
  clear HB;go_wp2_with fail;go_ret;exact ⟨rfl,hm0⟩
 have HL:=Lib.hid (show es.length≤120 by omega);go_wp2_with fail;go_loopw [2,24] (fun _ i wr=>∃ k:Nat,k≤es.length∧i=.int .i64 k∧Box wr w.heap.size [.int .i64 r,.int .i64 s,.slice A es.length c]∧UpTo r s es k∧Mid 0 0 w wr) (fun _ i _=>es.length - (intOf i).toNat)
 case atStart=>exact ⟨0,Nat.zero_le _,rfl,bx0,UpTo.zero _ _ _,hm0⟩
 case round =>
  obtain ⟨k,hk,rfl,bx,hup,hm⟩:=hrel;by_cases hlt:k < es.length
  ·obtain ⟨B,off,e,rfl, -,hbh,he,c0,c1,c2⟩:=(hr.mid hm oZl).ed hlt
   have hk0:(0:Int)≤(k:Int):=by omega
   have hkn:(k:Int) < (es.length:Int):=by omega
   have HUP:=Lib.hid hup;have HEK:=Lib.hid he;have hal:=Mid.alloc wr (.cells #[.int .i64 e.a,.int .i64 e.l,.int .i64 e.b] 68);have by1:=bx.mid hal oZr;have by2:=Box.new wr #[.int .i64 e.a,.int .i64 e.l,.int .i64 e.b] 68;have hrm:=(hr.mid hm oZl).mid hal oZl;have zp:=Nat.lt_of_lt_of_le hbh hrm.1;have g0:=wg_cell by1.1 (by1.cell 0 rfl);have g1:=wg_cell by1.1 (by1.cell 1 rfl);have g2:=wg_cell by1.1 (by1.cell 2 rfl);have e0:=wg_cell by2.1 (by2.cell 0 rfl);have e1:=wg_cell by2.1 (by2.cell 1 rfl);have e2:=wg_cell by2.1 (by2.cell 2 rfl);cases hA0:edB r s e with
   | false =>
    obtain rfl:b=false:=by cases b with | false=>rfl | true=>have:=((HB.out.1 rfl).up k e hlt he).1;rw [hA0] at this;cases this
    have hA:=fun W=>impl_accepts r s (some ⟨B,off,none⟩) es.length c e W;rw [hA0] at hA;clear hup he hA0;go_wp2_with fail;refine wp_region_quiet_wg (by kernel_rfl) (by kernel_rfl) ?_;repeat
     (with_reducible refine wpQuiet_step (fun K hK=>?_))
     go_simp
     first
      | ((with_reducible refine hK _ ?_);clear hK K)
      | (rw [if_neg (by decide)];(with_reducible refine hK _ ?_);clear hK K)
      | (apply Exists.intro;refine ⟨fun _=>?_,hK _ ?_⟩;((go_at_call 170;exact Calls.wg_of (hA _)));clear hK K)
    with_reducible refine wpQuiet_nil ?_
    intro _ hw';obtain ⟨⟨nq,osq⟩,hw''⟩:=hw';subst hw'';go_wp2_with fail;go_ret;exact ⟨rfl,(hm.trans hal).trans (Mid.ofWg _ _ _)⟩
   | true =>
    have hA:=fun W=>impl_accepts r s (some ⟨B,off,none⟩) es.length c e W;rw [hA0] at hA;have HA0:=Lib.hid hA0;by_cases hkz:k=0
    ·have hkz2:decide ((0:Int) < (k:Int))=false:=by simp;omega
     have hkz3:(0 < k)=False:=eq_false (by omega);have HKZ:=Lib.hid hkz;clear hup he hA0 hkz;go_wp2_with fail;refine wp_region_quiet_wg (by kernel_rfl) (by kernel_rfl) ?_;repeat
      (with_reducible refine wpQuiet_step (fun K hK=>?_))
      go_simp
      first
       | ((with_reducible refine hK _ ?_);clear hK K)
       | (rw [if_neg (by decide)];(with_reducible refine hK _ ?_);clear hK K)
       | (apply Exists.intro;refine ⟨fun _=>?_,hK _ ?_⟩;((go_at_call 170;exact Calls.wg_of (hA _)));clear hK K)
     with_reducible refine wpQuiet_nil ?_
     intro _ hw';obtain ⟨⟨nq,osq⟩,hw''⟩:=hw';subst hw'';go_wp2_with fail;go_roundw
     case rel=>exact ⟨k+1,by omega,by go_num,by1.mid (Mid.ofWg _ _ _) oZr,HUP.out.succ HEK.out HA0.out (fun f h=>absurd h (by have:=HKZ.out;omega)),(hm.trans hal).trans (Mid.ofWg _ _ _)⟩
     case measure=>simp [intOf];omega
    ·obtain ⟨m,hm1⟩:∃ m,k=m+1:=⟨k - 1,by omega⟩
     obtain ⟨B',off',f,hA1, -, -,hf,p0,p1,p2⟩:=hrm.ed (show m < es.length by omega);injection hA1 with hA1
     injection hA1 with hA2 hA3
     subst hA2;subst hA3;have hkm:(k:Int) - 1=(m:Int):=by omega
     have hkp:(0:Int) < (k:Int):=by omega
     have hkp3:0 < k:=by omega
     have hwm:IntKind.i64.wrap (m:Int)=(m:Int):=IntWalk.i64_in _ (by omega);have hm0':(0:Int)≤(m:Int):=by omega
     have hmn:(m:Int) < (es.length:Int):=by omega
     have p0:=wg_cell zp p0;have p1:=wg_cell zp p1;have p2:=wg_cell zp p2;obtain ⟨v,hv⟩:∃ v,cmpE f e=v:=⟨_,rfl⟩
     have hQ:=fun W=>impl_CompareEdges f e W;rw [hv] at hQ;have HF:=Lib.hid hf;have HKM:=Lib.hid hm1;by_cases hv0:0≤v
     ·obtain rfl:b=false:=by
       cases b with
       | false=>rfl
       | true =>
        have:=((HB.out.1 rfl).up k e hlt he).2 f (by omega) (by rw [hm1];exact hf);omega
      clear hup he hA0 hf hm1 hv;go_wp2_with fail;refine wp_region_quiet_wg (by kernel_rfl) (by kernel_rfl) ?_;repeat
       (with_reducible refine wpQuiet_step (fun K hK=>?_))
       go_simp
       first
        | ((with_reducible refine hK _ ?_);clear hK K)
        | (rw [if_neg (by decide)];(with_reducible refine hK _ ?_);clear hK K)
        | (apply Exists.intro;refine ⟨fun _=>?_,hK _ ?_⟩;((first | (go_at_call 170;exact Calls.wg_of (hA _)) | (go_at_call 171;exact Calls.wg_of (hQ _))));clear hK K)
      with_reducible refine wpQuiet_nil ?_
      intro _ hw';obtain ⟨⟨nq,osq⟩,hw''⟩:=hw';subst hw'';go_wp2_with fail;go_ret;exact ⟨rfl,(hm.trans hal).trans (Mid.ofWg _ _ _)⟩
     ·have HV:=Lib.hid (show cmpE f e < 0 by omega)
      clear hup he hA0 hf hm1 hv;go_wp2_with fail;refine wp_region_quiet_wg (by kernel_rfl) (by kernel_rfl) ?_;repeat
       (with_reducible refine wpQuiet_step (fun K hK=>?_))
       go_simp
       first
        | ((with_reducible refine hK _ ?_);clear hK K)
        | (rw [if_neg (by decide)];(with_reducible refine hK _ ?_);clear hK K)
        | (apply Exists.intro;refine ⟨fun _=>?_,hK _ ?_⟩;((first | (go_at_call 170;exact Calls.wg_of (hA _)) | (go_at_call 171;exact Calls.wg_of (hQ _))));clear hK K)
      with_reducible refine wpQuiet_nil ?_
      intro _ hw';obtain ⟨⟨nq,osq⟩,hw''⟩:=hw';subst hw'';go_wp2_with fail;go_roundw
      case rel =>
       refine ⟨k+1,by omega,by go_num,by1.mid (Mid.ofWg _ _ _) oZr,HUP.out.succ HEK.out HA0.out (fun f' h h'=>?_),(hm.trans hal).trans (Mid.ofWg _ _ _)⟩;rw [HKM.out,Nat.add_sub_cancel,HF.out] at h';injection h' with h'
       subst h';exact HV.out
      case measure=>simp [intOf];omega
  ·obtain rfl:k=es.length:=by omega
   obtain rfl:b=true:=HB.out.2 ⟨H1.out,H2.out,HL.out,hup⟩;go_wp2_with fail;go_ret;exact ⟨rfl,hm⟩
end
section
open Go.RowKit
theorem spec_IsGraph (r s:Int) (A:Option Addr) (es:List Ed) (c:Nat) (w:World) (lo hi:Nat) (hr:RV w lo hi A (ints (edI es))) (hl:es.length≤1048576) (b:Bool) (hb:b=true↔IsGr r s es) :
  Calls Tryz.prog 96 #[graV r s A es.length c] w fun e w'=>e=.returned (.bool b)∧Mid 0 0 w w':=by
 have HB:=Lib.hid (hb.trans grT_iff.symm);clear hb;have bx0:=Box.new w #[.int .i64 r,.int .i64 s,.slice A es.length c] 26;have hm0:=Mid.alloc w (.cells #[.int .i64 r,.int .i64 s,.slice A es.length c] 26);go_enter Tryz.func96,Tryz.ntmps96
 go_wp2_with fail;go_loopw [2,3] (fun _ i wr=>∃ k:Nat,k≤es.length∧i=.int .i64 k∧Box wr w.heap.size [.int .i64 r,.int .i64 s,.slice A es.length c]∧UpTo r s es k∧Mid 0 0 w wr) (fun _ i _=>es.length - (intOf i).toNat)
 case atStart=>exact ⟨0,Nat.zero_le _,rfl,bx0,UpTo.zero _ _ _,hm0⟩
 case round =>
  obtain ⟨k,hk,rfl,bx,hup,hm⟩:=hrel;have G0:=bx.cell 0 rfl;have G1:=bx.cell 1 rfl;have G2:=bx.cell 2 rfl;by_cases hlt:k < es.length
  ·have hrm:=hr.mid hm oZl
   obtain ⟨B,off,e,rfl, -,hbh,he,e0,e1,e2⟩:=hrm.ed hlt;have hk0:(0:Int)≤(k:Int):=by omega
   have hkn:(k:Int) < (es.length:Int):=by omega
   have HUP:=Lib.hid hup;have HEK:=Lib.hid he;have zp:=Nat.lt_of_lt_of_le hbh hrm.1;have g0:=wg_cell bx.1 G0;have g1:=wg_cell bx.1 G1;have g2:=wg_cell bx.1 G2;have e0:=wg_cell zp e0;have e1:=wg_cell zp e1;have e2:=wg_cell zp e2;have hA:=fun W=>spec_l4Edge r s (some ⟨B,off,none⟩) es.length c e W;cases hA0:edB r s e with
   | false =>
    obtain rfl:b=false:=by cases b with | false=>rfl | true=>have:=((HB.out.1 rfl).up k e hlt he).1;rw [hA0] at this;cases this
    rw [hA0] at hA;clear hup he hA0;go_wp2_with fail;refine wp_region_quiet_wg (by kernel_rfl) (by kernel_rfl) ?_;repeat
     (with_reducible refine wpQuiet_step (fun K hK=>?_))
     go_simp
     first
      | ((with_reducible refine hK _ ?_);clear hK K)
      | (rw [if_neg (by decide)];(with_reducible refine hK _ ?_);clear hK K)
      | (apply Exists.intro;refine ⟨fun _=>?_,hK _ ?_⟩;((go_at_call 174;exact Calls.wg_of (hA _)));clear hK K)
    with_reducible refine wpQuiet_nil ?_
    intro _ hw';obtain ⟨⟨nq,osq⟩,hw''⟩:=hw';subst hw'';go_wp2_with fail;go_ret;exact ⟨rfl,hm.trans (Mid.ofWg _ _ _)⟩
   | true =>
    rw [hA0] at hA;have HA0:=Lib.hid hA0;by_cases hkz:k=0
    ·have hkz2:decide ((0:Int) < (k:Int))=false:=by simp;omega
     have hkz3:(0 < k)=False:=eq_false (by omega);have HKZ:=Lib.hid hkz;clear hup he hA0 hkz;go_wp2_with fail;refine wp_region_quiet_wg (by kernel_rfl) (by kernel_rfl) ?_;repeat
      (with_reducible refine wpQuiet_step (fun K hK=>?_))
      go_simp
      first
       | ((with_reducible refine hK _ ?_);clear hK K)
       | (rw [if_neg (by decide)];(with_reducible refine hK _ ?_);clear hK K)
       | (apply Exists.intro;refine ⟨fun _=>?_,hK _ ?_⟩;((go_at_call 174;exact Calls.wg_of (hA _)));clear hK K)
     with_reducible refine wpQuiet_nil ?_
     intro _ hw';obtain ⟨⟨nq,osq⟩,hw''⟩:=hw';subst hw'';go_wp2_with fail;go_roundw
     case rel=>exact ⟨k+1,by omega,by go_num,bx.mid (Mid.ofWg _ _ _) oZr,HUP.out.succ HEK.out HA0.out (fun f h=>absurd h (by have:=HKZ.out;omega)),hm.trans (Mid.ofWg _ _ _)⟩
     case measure=>simp [intOf];omega
    ·obtain ⟨m,hm1⟩:∃ m,k=m+1:=⟨k - 1,by omega⟩
     obtain ⟨B',off',f,hA1, -, -,hf,p0,p1,p2⟩:=hrm.ed (show m < es.length by omega);injection hA1 with hA1
     injection hA1 with hA2 hA3
     subst hA2;subst hA3;have hkm:(k:Int) - 1=(m:Int):=by omega
     have hkp:(0:Int) < (k:Int):=by omega
     have hkp3:0 < k:=by omega
     have hwm:IntKind.i64.wrap (m:Int)=(m:Int):=IntWalk.i64_in _ (by omega);have hm0':(0:Int)≤(m:Int):=by omega
     have hmn:(m:Int) < (es.length:Int):=by omega
     have p0:=wg_cell zp p0;have p1:=wg_cell zp p1;have p2:=wg_cell zp p2;obtain ⟨v,hv⟩:∃ v,cmpE f e=v:=⟨_,rfl⟩
     have hQ:=fun W=>spec_CompareEdges f e W;rw [hv] at hQ;have HF:=Lib.hid hf;have HKM:=Lib.hid hm1;by_cases hv0:0≤v
     ·obtain rfl:b=false:=by
       cases b with
       | false=>rfl
       | true =>
        have:=((HB.out.1 rfl).up k e hlt he).2 f (by omega) (by rw [hm1];exact hf);omega
      clear hup he hA0 hf hm1 hv;go_wp2_with fail;refine wp_region_quiet_wg (by kernel_rfl) (by kernel_rfl) ?_;repeat
       (with_reducible refine wpQuiet_step (fun K hK=>?_))
       go_simp
       first
        | ((with_reducible refine hK _ ?_);clear hK K)
        | (rw [if_neg (by decide)];(with_reducible refine hK _ ?_);clear hK K)
        | (apply Exists.intro;refine ⟨fun _=>?_,hK _ ?_⟩;((first | (go_at_call 174;exact Calls.wg_of (hA _)) | (go_at_call 175;exact Calls.wg_of (hQ _))));clear hK K)
      with_reducible refine wpQuiet_nil ?_
      intro _ hw';obtain ⟨⟨nq,osq⟩,hw''⟩:=hw';subst hw'';go_wp2_with fail;go_ret;exact ⟨rfl,hm.trans (Mid.ofWg _ _ _)⟩
     ·have HV:=Lib.hid (show cmpE f e < 0 by omega)
      clear hup he hA0 hf hm1 hv;go_wp2_with fail;refine wp_region_quiet_wg (by kernel_rfl) (by kernel_rfl) ?_;repeat
       (with_reducible refine wpQuiet_step (fun K hK=>?_))
       go_simp
       first
        | ((with_reducible refine hK _ ?_);clear hK K)
        | (rw [if_neg (by decide)];(with_reducible refine hK _ ?_);clear hK K)
        | (apply Exists.intro;refine ⟨fun _=>?_,hK _ ?_⟩;((first | (go_at_call 174;exact Calls.wg_of (hA _)) | (go_at_call 175;exact Calls.wg_of (hQ _))));clear hK K)
      with_reducible refine wpQuiet_nil ?_
      intro _ hw';obtain ⟨⟨nq,osq⟩,hw''⟩:=hw';subst hw'';go_wp2_with fail;go_roundw
      case rel =>
       refine ⟨k+1,by omega,by go_num,bx.mid (Mid.ofWg _ _ _) oZr,HUP.out.succ HEK.out HA0.out (fun f' h h'=>?_),hm.trans (Mid.ofWg _ _ _)⟩;rw [HKM.out,Nat.add_sub_cancel,HF.out] at h';injection h' with h'
       subst h';exact HV.out
      case measure=>simp [intOf];omega
  ·obtain rfl:k=es.length:=by omega
   cases h1:inB r 1 3 with
   | false =>
    obtain rfl:b=false:=by cases b with | false=>rfl | true=>have:=(HB.out.1 rfl).rank;rw [h1] at this;cases this
    go_wp2_with fail;with_reducible refine (l1In_at h1 _).mono ?_
    rintro en w1 ⟨rfl,rfl⟩;go_wp2_with fail;go_ret;exact ⟨rfl,hm⟩
   | true =>
   go_wp2_with fail;with_reducible refine (l1In_at h1 _).mono ?_
   rintro en w1 ⟨rfl,rfl⟩;cases h2:inB s 1 40 with
   | false =>
    obtain rfl:b=false:=by cases b with | false=>rfl | true=>have:=(HB.out.1 rfl).size;rw [h2] at this;cases this
    go_wp2_with fail;with_reducible refine (l1In_at h2 _).mono ?_
    rintro en w1 ⟨rfl,rfl⟩;go_wp2_with fail;go_ret;exact ⟨rfl,hm⟩
   | true =>
   obtain rfl:b=decide (es.length≤120):=by
    rw [Bool.eq_iff_iff,HB.out,decide_eq_true_iff];exact ⟨fun h=>h.len,fun h=>⟨h1,h2,h,hup⟩⟩
   go_wp2_with fail;with_reducible refine (l1In_at h2 _).mono ?_
   rintro en w1 ⟨rfl,rfl⟩;go_wp2_with fail;go_ret;have hd:decide ((es.length:Int)≤120)=decide (es.length≤120):=decide_eq_decide.2 (by omega);refine ⟨?_,hm⟩
   first
    | rfl
    | exact congrArg (fun x=>Ending.returned (Value.bool x)) hd
end
section
open Go.RowKit
theorem Mid.stored {lo hi:Nat} {a w:World} {p:Addr} (h:Mid lo hi a w) (u:Value) (h1:lo≤p.block) (h2:p.block < hi):Mid lo hi a (w.setCell p u):=h.trans (Mid.setCell w u h1 h2)
end
section
open Go.ChangeShapes Go.WideShapes Go.ChangeAt Go.RowKit
open Go.Joins
section
variable {H:Type} {enc:TypeId × Value→H} {P:Program} {W:World} {T E:TypeId}
def OkSS (xss:List (List Int)):Prop:=(xss.length≤9223372036854775807∧∀ xs∈xss,xs.length≤9223372036854775807)∧∀ xs∈xss,OkI xs
end
end
section
open Go.RowKit
def RI (w:World) (lo hi:Nat) (A:Option Addr) (xs:List Int):Prop:=RV w lo hi A (ints xs)
def OI (w:World) (lo hi:Nat) (A:Option Addr) (c:Nat) (xs:List Int):Prop:=OV w lo hi 3 1 A c xs.length (ints xs)
theorem RI.mid {w w':World} {lo hi a b:Nat} {A:Option Addr} {xs:List Int} (h:RI w lo hi A xs) (m:Mid a b w w') (hd:b≤lo ∨ hi≤a):RI w' lo hi A xs:=RV.mid h m hd
theorem OI.mid {w w':World} {lo hi a b:Nat} {A:Option Addr} {c:Nat} {xs:List Int} (h:OI w lo hi A c xs) (m:Mid a b w w') (hd:b≤lo ∨ hi≤a):OI w' lo hi A c xs:=OV.mid h m hd
theorem OI.ri {w:World} {lo hi:Nat} {A:Option Addr} {c:Nat} {xs:List Int} (h:OI w lo hi A c xs):RI w lo hi A xs:=OV.rv h
theorem OI.size {w:World} {lo hi:Nat} {A:Option Addr} {c:Nat} {xs:List Int} (h:OI w lo hi A c xs):hi≤w.heap.size:=h.1
theorem RI.rs {w:World} {lo hi:Nat} {A:Option Addr} {xs:List Int} (h:RI w lo hi A xs):Rs w w.heap.size A (ints xs):=(RV.rs h).more h.1
end
section
open Go.RowKit
end
section
open Go.RowKit
theorem owns_setK {w:World} {base:Nat} {e:TypeId} {size g n cap:Nat} {xs ys:List Value} (h:w.ownsRow base e size (.slice (some ⟨g,0,none⟩) n cap) n xs) (j:Nat) (u:Value) (hy:xs.set j u=ys) :
  (w.setCell ⟨g,j,none⟩ u).ownsRow base e size (.slice (some ⟨g,0,none⟩) n cap) n ys:=by
 subst hy;exact (h.stored j u).1
end
section
open Go.RowKit
theorem infoE:(Tryz.prog.info? 68).map (fun i=>(i.zero,i.size,i.bytes))=some (some (.agg #[.int .i64 0,.int .i64 0,.int .i64 0]),3,24):=by kernel_rfl
theorem undSE:Tryz.prog.underlying 24=some (.slice 68):=by kernel_rfl
def RG (w:World) (lo hi:Nat) (A:Option Addr) (es:List Ed):Prop:=RV w lo hi A (ints (edI es))
def OG (w:World) (lo hi:Nat) (A:Option Addr) (c:Nat) (es:List Ed):Prop:=OV w lo hi 68 3 A c es.length (ints (edI es))
section
variable {w w':World} {lo hi a b:Nat} {A:Option Addr} {c:Nat} {es:List Ed}
theorem RG.rv (h:RG w lo hi A es):RV w lo hi A (ints (edI es)):=h
theorem RV.rg (h:RV w lo hi A (ints (edI es))):RG w lo hi A es:=h
theorem OG.ov (h:OG w lo hi A c es):OV w lo hi 68 3 A c es.length (ints (edI es)):=h
theorem RG.mid (h:RG w lo hi A es) (m:Mid a b w w') (hd:b≤lo ∨ hi≤a):RG w' lo hi A es:=RV.mid h m hd
theorem OG.mid (h:OG w lo hi A c es) (m:Mid a b w w') (hd:b≤lo ∨ hi≤a):OG w' lo hi A c es:=OV.mid h m hd
theorem OG.rg (h:OG w lo hi A c es):RG w lo hi A es:=OV.rv h
theorem OG.size (h:OG w lo hi A c es):hi≤w.heap.size:=h.1
theorem OG.wide {lo' hi':Nat} (h:OG w lo hi A c es) (h1:lo'≤lo) (h2:hi≤hi') (h3:hi'≤w.heap.size):OG w lo' hi' A c es:=OV.wide h h1 h2 h3
theorem RG.wide {lo' hi':Nat} (h:RG w lo hi A es) (h1:lo'≤lo) (h2:hi≤hi') (h3:hi'≤w.heap.size):RG w lo' hi' A es:=RV.wide h h1 h2 h3
theorem RG.ed {k:Nat} (h:RG w lo hi A es) (hk:k < es.length) :
  ∃ b off e,A=some ⟨b,off,none⟩∧lo≤b∧b < hi∧es[k]?=some e∧w.cell? ⟨b,off+k * 3,none⟩=some (.int .i64 e.a)∧w.cell? ⟨b,off+k * 3+1,none⟩=some (.int .i64 e.l)∧w.cell? ⟨b,off+k * 3+2,none⟩=some (.int .i64 e.b):=RV.ed h hk
theorem OG.nil:OG w lo w.heap.size none 0 []:=⟨Nat.le_refl _,⟨rfl,.inl ⟨rfl,rfl⟩⟩,fun g hg=>by simp [Value.ownBlock] at hg⟩
theorem OG.mk' {v:Value} {n base:Nat} (h:w.ownsRow base 68 3 v n (ints (edI es))):∃ A c,v=.slice A es.length c∧n=es.length∧OG w base w.heap.size A c es:=by
 obtain ⟨A,c,rfl, -, -⟩:=owns_shape h;have hn:n=es.length:=by have:=h.1;rw [ints_len,edI_len] at this;omega
 subst hn;exact ⟨A,c,rfl,rfl,Nat.le_refl _,h,fun g hg=>(h.lt g hg).2⟩
end
theorem oneInts (xs:List Int):∀ u∈ints xs,u.oneCell'=true:=by
 intro u hu;obtain ⟨x, -,rfl⟩:=List.mem_map.1 hu
 rfl
theorem edI_fill (es:List Ed) {k:Nat} {e:Ed} (he:es[k]?=some e) (zs:List Value) (hz:zs.length=es.length * 3) :
  (((ints (edI (es.take k))++zs.drop (k * 3)).set (k * 3) (.int .i64 e.a)).set (k * 3+1) (.int .i64 e.l)).set (k * 3+2) (.int .i64 e.b)=ints (edI (es.take (k+1)))++zs.drop ((k+1) * 3):=by
 obtain ⟨hk,rfl⟩:=List.getElem?_eq_some_iff.1 he;have hl:(ints (edI (es.take k))).length=k * 3:=by rw [ints_len,edI_len,List.length_take,Nat.min_eq_left (by omega)]
 obtain ⟨z0,z1,z2,rest,hd⟩:∃ z0 z1 z2 rest,zs.drop (k * 3)=z0 :: z1 :: z2 :: rest:=by
  refine ⟨zs[k * 3],zs[k * 3+1],zs[k * 3+2],zs.drop (k * 3+3),?_⟩;rw [List.drop_eq_getElem_cons (by omega),List.drop_eq_getElem_cons (by omega),List.drop_eq_getElem_cons (by omega)]
 have hd3:zs.drop ((k+1) * 3)=rest:=by
  rw [show (k+1) * 3=k * 3+3 by omega,← List.drop_drop,hd]
  rfl
 rw [hd3,hd,List.take_succ_eq_append_getElem hk,edI_append,ints_append,edI_one];rw [List.set_append_right _ _ (by omega),List.set_append_right _ _ (by omega),List.set_append_right _ _ (by omega),hl];simp [ints]
end
end Go.Proofs.YthampgpcajmopaaGreat
