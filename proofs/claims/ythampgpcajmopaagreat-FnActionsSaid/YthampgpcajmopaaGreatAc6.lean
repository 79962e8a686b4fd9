/- Contracts and lemmas of this seat, many texts in one: see the words ahead of each. No condition beyond those typed in each lemma. -/
import Derived.Test.YthampgpcajmopaaGreatAc5
import Derived.Test.YthampgpcajmopaaGreatAc4
import Derived.Test.YthampgpcajmopaaGreatAc1

namespace Go.Proofs.YthampgpcajmopaaGreat
set_option linter.unusedVariables false
set_option linter.unusedSimpArgs false
set_option maxHeartbeats 40000000
set_option maxRecDepth 100000
def GenL (es:List Ed) (w:List Int):Prop:=∃ w2,LtW w2∧Eqv w w2∧Pa es 0 w2 0
theorem genL_inS {r s:Int} {es:List Ed} (h:IsFol r s es) {w:List Int} (hw:LtW w):GenL es w↔InS es w:=by
 constructor
 ·rintro ⟨w2,l2,e,p⟩
  exact (InS.eqv e).2 (InS.mk h p)
 ·exact fun h2=>⟨Go.Proofs.YthampgpcajmopaaGreat.red [] w,lt_red hw,(Eqv.toRed hw).symm,h2⟩
theorem mem_mergeE {p:Int × Int} {es:List Ed} {f:Ed}:f∈mergeE p es↔∃ e∈es,foldE p e=f:=by
 unfold mergeE;rw [mem_canon,List.mem_map]
theorem merge_sp {p:Int × Int} {es:List Ed} {i x j:Int}:Sp (mergeE p es) i x j↔∃ u v,foldV p u=i∧foldV p v=j∧Sp es u x v:=by
 constructor
 ·rintro (⟨h1,h2⟩ | ⟨h1,h2⟩)
  ·obtain ⟨e,he,h3⟩:=mem_mergeE.1 h2
   injection h3 with h3 h4 h5
   exact ⟨e.a,e.b,h3,h5,.inl ⟨h1,by rw [← h4];exact he⟩⟩
  ·obtain ⟨e,he,h3⟩:=mem_mergeE.1 h2
   injection h3 with h3 h4 h5
   exact ⟨e.b,e.a,h5,h3,.inr ⟨h1,by rw [← h4];exact he⟩⟩
 ·rintro ⟨u,v,rfl,rfl,(⟨h1,h2⟩ | ⟨h1,h2⟩)⟩
  ·exact .inl ⟨h1,mem_mergeE.2 ⟨_,h2,rfl⟩⟩
  ·exact .inr ⟨h1,mem_mergeE.2 ⟨_,h2,rfl⟩⟩
theorem merge_pa {p:Int × Int} {es:List Ed}:∀ {w:List Int} {u v:Int},Pa es u w v→Pa (mergeE p es) (foldV p u) w (foldV p v)
 | [],_,_,h=>by cases h;rfl
 | _ :: _,_,_,⟨t,h1,h2⟩=>⟨foldV p t,merge_sp.2 ⟨_,_,rfl,rfl,h1⟩,merge_pa h2⟩
def Apex (es:List Ed) (p:Int × Int):Prop:=∃ c x,Sp es c x p.1∧Sp es c x p.2
theorem apex_AB {r s:Int} {es:List Ed} (hg:∀ e∈es,InG r s e) {e f:Ed} (he:e∈es) (hf:f∈es) {p:Int × Int} (h:p∈foldsAB e f):Apex es p:=by
 have h1:=hg e he;have h2:=hg f hf;simp only [InG] at h1 h2;have se:=sp_edge he (by omega);have sf:=sp_edge hf (by omega);unfold foldsAB at h;split at h
 ·rename_i hl
  rcases List.mem_append.1 h with h | h
  ·split at h
   ·rename_i ha
    rw [List.mem_singleton] at h;subst h;rw [← hl,← ha] at sf;rcases Int.le_total e.b f.b with hm | hm
    ·refine ⟨e.a,e.l,?_,?_⟩
     ·rw [Int.min_eq_left hm];exact se
     ·rw [Int.max_eq_right hm];exact sf
    ·refine ⟨e.a,e.l,?_,?_⟩
     ·rw [Int.min_eq_right hm];exact sf
     ·rw [Int.max_eq_left hm];exact se
   ·cases h
  ·split at h
   ·rename_i hb
    rw [List.mem_singleton] at h;subst h;rw [← hl,← hb] at sf;rcases Int.le_total e.a f.a with hm | hm
    ·refine ⟨e.b, -e.l,?_,?_⟩
     ·rw [Int.min_eq_left hm];exact se.neg
     ·rw [Int.max_eq_right hm];exact sf.neg
    ·refine ⟨e.b, -e.l,?_,?_⟩
     ·rw [Int.min_eq_right hm];exact sf.neg
     ·rw [Int.max_eq_left hm];exact se.neg
   ·cases h
 ·cases h
theorem apex_mem {r s:Int} {es:List Ed} (hg:∀ e∈es,InG r s e) {p:Int × Int}:∀ {fs:List Ed},(∀ e∈fs,e∈es)→p∈folds fs→Apex es p
 | [],_,h=>by cases h
 | e :: t,hs,h=>by
  rcases List.mem_append.1 h with h | h
  ·obtain ⟨f,hf,h⟩:=List.mem_flatMap.1 h
   exact apex_AB hg (hs e List.mem_cons_self) (hs f (List.mem_cons_of_mem _ hf)) h
  ·exact apex_mem hg (fun x hx=>hs x (List.mem_cons_of_mem _ hx)) h
theorem foldV_inj {p:Int × Int} (hp:p.1 < p.2) {u v:Int} (h:foldV p u=foldV p v):u=v ∨ (u=p.1∧v=p.2) ∨ (u=p.2∧v=p.1):=by
 unfold foldV at h;split at h <;> split at h <;> (try split at h) <;> (try split at h) <;> omega
theorem foldV_zero {p:Int × Int} (h0:0≤p.1) (hp:p.1 < p.2):foldV p 0=0:=by
 unfold foldV;rw [if_neg (by omega),if_neg (by omega)]
theorem Apex.jump {r s:Int} {es:List Ed} (hg:IsGr r s es) {p:Int × Int} (ha:Apex es p) (hp:p.1 < p.2) {u v:Int} (h:foldV p u=foldV p v) :
  ∃ j,Pa es u j v∧∀ (out b:List Int),Rd out→LtW out→red out (j++b)=red out b:=by
 obtain ⟨c,x,h1,h2⟩:=ha;have hx:=(h1.lt3 hg).neg;have hr:∀ (out b:List Int),Rd out→LtW out→red out ([-x,x]++b)=red out b:=fun out b ho hl=>by
  have:=red_pair b ho hl hx
  rwa [Int.neg_neg] at this
 rcases foldV_inj hp h with rfl | ⟨rfl,rfl⟩ | ⟨rfl,rfl⟩
 ·exact ⟨[],rfl,fun _ _ _ _=>rfl⟩
 ·exact ⟨[-x,x],⟨c,h1.neg,_,h2,rfl⟩,hr⟩
 ·exact ⟨[-x,x],⟨c,h2.neg,_,h1,rfl⟩,hr⟩
theorem fold_lift {r s:Int} {es:List Ed} (hg:IsGr r s es) {p:Int × Int} (ha:Apex es p) (hp:p.1 < p.2):∀ {w:List Int} {u t:Int},Pa (mergeE p es) (foldV p u) w t →
  ∃ w2 v,foldV p v=t∧Pa es u w2 v∧∀ out,Rd out→LtW out→red out w2=red out w
 | [],u,t,h=>⟨[],u,h,rfl,fun _ _ _=>rfl⟩
 | x :: w,u,t,⟨q,h1,h2⟩=>by
  obtain ⟨u',q',hu',rfl,hs⟩:=merge_sp.1 h1;obtain ⟨j,hj,hjr⟩:=ha.jump hg hp hu'.symm;obtain ⟨w2,v,hv,hw2,hr⟩:=fold_lift hg ha hp h2;refine ⟨j++x :: w2,v,hv,hj.app ⟨q',hs,hw2⟩,fun out ho hl=>?_⟩;have hx:=hs.lt3 hg;rw [hjr out _ ho hl,red_cons,red_cons,hr _ (ho.step hl hx) (LtW.red (w:=[x]) hl (LtW.one hx))]
theorem merge_lang {r s:Int} {es:List Ed} (hg:IsGr r s es) {p:Int × Int} (ha:Apex es p) (h0:0≤p.1) (hp:p.1 < p.2) (w:List Int):GenL (mergeE p es) w↔GenL es w:=by
 have hz:=foldV_zero h0 hp;constructor
 ·rintro ⟨w2,l2,e,h⟩
  rw [← hz] at h;obtain ⟨w3,v,hv,h3,hr⟩:=fold_lift hg ha hp h;obtain ⟨j,hj,hjr⟩:=ha.jump hg hp (u:=v) (v:=0) (by rw [hv]);have h4:=h3.app hj;refine ⟨w3++j,h4.lt hg,e.trans ?_,h4⟩;unfold Eqv;have h5:=hjr (red [] w3) [] (rd_red (h3.lt hg)) (lt_red (h3.lt hg));rw [List.append_nil] at h5;rw [red_append,h5,red_nil,hr [] Rd.nil LtW.nil]
 ·rintro ⟨w2,l2,e,h⟩
  have:=merge_pa (p:=p) h;rw [hz] at this;exact ⟨w2,l2,e,this⟩
theorem foldA_lang {r:Int} (w:List Int):∀ (n:Nat) {g:Int × List Ed},IsGr r g.1 g.2→(GenL (foldA n g).2 w↔GenL g.2 w)
 | 0,g,_=>Iff.rfl
 | n+1,g,h=>by
  cases hf:folds g.2 with
  | nil=>rw [foldA_nil hf]
  | cons p t =>
   rw [foldA_cons hf];have hm:p∈folds g.2:=by rw [hf];exact List.mem_cons_self
   obtain ⟨h1,h2,h3⟩:=mem_folds h.all h.asc hm;exact (foldA_lang w n (mergeE_gr h h1 h2 h3)).trans (merge_lang h (apex_mem h.all (fun e he=>he) hm) h1 h2 w)
theorem deg_one {es:List Ed} {e:Ed} (he:e∈es) (v:Int):degE v e≤deg es v:=by
 induction es with
 | nil=>cases he
 | cons a t ih =>
  have h:deg (a :: t) v=degE v a+deg t v:=by simp [deg]
  rcases List.mem_cons.1 he with rfl | he
  ·omega
  ·have:=ih he
   omega
theorem deg_two {es:List Ed} {e f:Ed} (he:e∈es) (hf:f∈es) (hne:e≠f) (v:Int):degE v e+degE v f≤deg es v:=by
 induction es with
 | nil=>cases he
 | cons a t ih =>
  have h:deg (a :: t) v=degE v a+deg t v:=by simp [deg]
  rcases List.mem_cons.1 he with h1 | h1 <;> rcases List.mem_cons.1 hf with h2 | h2
  ·exact absurd (h1.trans h2.symm) hne
  ·have:=deg_one h2 v
   rw [h1];omega
  ·have:=deg_one h1 v
   rw [h2];omega
  ·have:=ih h1 h2
   omega
theorem Sp.degE {es:List Ed} {v y t:Int} (h:Sp es v y t):∃ e∈es,1≤degE v e∧((0 < y∧e.a=v∧e.l=y∧e.b=t) ∨ (y < 0∧e.b=v∧e.l = -y∧e.a=t)):=by
 rcases h with ⟨h1,h2⟩ | ⟨h1,h2⟩
 ·exact ⟨_,h2,by simp [Go.Proofs.YthampgpcajmopaaGreat.degE],.inl ⟨h1,rfl,rfl,rfl⟩⟩
 ·exact ⟨_,h2,by simp [Go.Proofs.YthampgpcajmopaaGreat.degE],.inr ⟨h1,rfl,rfl,rfl⟩⟩
def Two (es:List Ed) (v:Int):Prop:=∃ y z t t',y≠z∧Sp es v y t∧Sp es v z t'
theorem Two.deg {es:List Ed} {v:Int} (h:Two es v):2≤deg es v:=by
 obtain ⟨y,z,t,t',hne,h1,h2⟩:=h;obtain ⟨e,he,d1,c1⟩:=h1.degE;obtain ⟨f,hf,d2,c2⟩:=h2.degE;by_cases hef:e=f
 ·subst hef
  have:degE v e=2:=by
   unfold Go.Proofs.YthampgpcajmopaaGreat.degE;rcases c1 with ⟨a1,a2,a3,a4⟩ | ⟨a1,a2,a3,a4⟩ <;> rcases c2 with ⟨b1,b2,b3,b4⟩ | ⟨b1,b2,b3,b4⟩
   ·omega
   ·rw [if_pos a2,if_pos b2]
   ·rw [if_pos b2,if_pos a2]
   ·omega
  have:=deg_one he v;omega
 ·have:=deg_two he hf hef v
  omega
theorem two_of_deg {r s:Int} {es:List Ed} (h:IsFol r s es) {v:Int} (hd:2≤deg es v):Two es v:=by
 have key:∀ fs:List Ed,(∀ e∈fs,e∈es)→Asc fs→1≤deg fs v→∃ e∈fs,1≤degE v e:=by
  intro fs
  induction fs with
  | nil=>intro _ _ h;simp [Go.Proofs.YthampgpcajmopaaGreat.deg] at h
  | cons a t ih =>
   intro hs ha hd;have h1:deg (a :: t) v=degE v a+deg t v:=by simp [Go.Proofs.YthampgpcajmopaaGreat.deg]
   by_cases h2:1≤degE v a
   ·exact ⟨a,List.mem_cons_self,h2⟩
   ·obtain ⟨e,he,h3⟩:=ih (fun e he=>hs e (List.mem_cons_of_mem _ he)) (List.pairwise_cons.1 ha).2 (by omega)
    exact ⟨e,List.mem_cons_of_mem _ he,h3⟩
 have key2:∀ fs:List Ed,(∀ e∈fs,e∈es)→Asc fs→2≤deg fs v→(∃ e∈fs,degE v e=2) ∨ ∃ e∈fs,∃ f∈fs,e≠f∧1≤degE v e∧1≤degE v f:=by
  intro fs
  induction fs with
  | nil=>intro _ _ h;simp [Go.Proofs.YthampgpcajmopaaGreat.deg] at h
  | cons a t ih =>
   intro hs ha hd;have h1:deg (a :: t) v=degE v a+deg t v:=by simp [Go.Proofs.YthampgpcajmopaaGreat.deg]
   have hle:degE v a≤2:=by unfold Go.Proofs.YthampgpcajmopaaGreat.degE;split <;> split <;> omega
   obtain ⟨hlt,hasc⟩:=List.pairwise_cons.1 ha;by_cases h2:degE v a=2
   ·exact .inl ⟨a,List.mem_cons_self,h2⟩
   ·by_cases h3:1≤degE v a
    ·obtain ⟨e,he,h4⟩:=key t (fun e he=>hs e (List.mem_cons_of_mem _ he)) hasc (by omega)
     exact .inr ⟨a,List.mem_cons_self,e,List.mem_cons_of_mem _ he,(hlt e he).ne,h3,h4⟩
    ·rcases ih (fun e he=>hs e (List.mem_cons_of_mem _ he)) hasc (by omega) with ⟨e,he,h4⟩ | ⟨e,he,f,hf,h4⟩
     ·exact .inl ⟨e,List.mem_cons_of_mem _ he,h4⟩
     ·exact .inr ⟨e,List.mem_cons_of_mem _ he,f,List.mem_cons_of_mem _ hf,h4⟩
 have way:∀ e∈es,1≤degE v e→(e.a=v∧Sp es v e.l e.b) ∨ (e.b=v∧Sp es v (-e.l) e.a):=by
  intro e he h1;have hl:=h.gr.all e he;simp only [InG] at hl;have hs:=sp_edge he (by omega);unfold Go.Proofs.YthampgpcajmopaaGreat.degE at h1;by_cases ha:e.a=v
  ·exact .inl ⟨ha,by rw [← ha];exact hs⟩
  ·by_cases hb:e.b=v
   ·exact .inr ⟨hb,by rw [← hb];exact hs.neg⟩
   ·rw [if_neg ha,if_neg hb] at h1
    omega
 rcases key2 es (fun e he=>he) h.gr.asc hd with ⟨e,he,h2⟩ | ⟨e,he,f,hf,hne,h1,h2⟩
 ·have hl:=h.gr.all e he
  simp only [InG] at hl;have hs:=sp_edge he (by omega);unfold Go.Proofs.YthampgpcajmopaaGreat.degE at h2;have ha:e.a=v:=by
   apply Classical.byContradiction;intro hc;rw [if_neg hc] at h2;split at h2 <;> omega
  have hb:e.b=v:=by
   apply Classical.byContradiction;intro hc;rw [if_neg hc] at h2;split at h2 <;> omega
  refine ⟨e.l, -e.l,e.b,e.a,by omega,by rw [← ha];exact hs,?_⟩;rw [← hb];exact hs.neg
 ·have le:=h.gr.all e he
  have lf:=h.gr.all f hf;simp only [InG] at le lf;rcases way e he h1 with ⟨a1,s1⟩ | ⟨a1,s1⟩ <;> rcases way f hf h2 with ⟨a2,s2⟩ | ⟨a2,s2⟩
  ·exact ⟨_,_,_,_,fun e1=>hne (h.key e he f hf ⟨e1,.inl (a1.trans a2.symm)⟩),s1,s2⟩
  ·exact ⟨_,_,_,_,by omega,s1,s2⟩
  ·exact ⟨_,_,_,_,by omega,s1,s2⟩
  ·exact ⟨_,_,_,_,fun e1=>hne (h.key e he f hf ⟨by omega,.inr (a1.trans a2.symm)⟩),s1,s2⟩
theorem conn_pa {r s:Int} {es:List Ed} (hg:∀ e∈es,InG r s e) {v u:Int}:Conn es v u↔∃ w,Pa es v w u:=by
 constructor
 ·intro h
  induction h with
  | here=>exact ⟨[],rfl⟩
  | @out e he _ ih =>
   obtain ⟨w,hw⟩:=ih;have hl:=hg e he;simp only [InG] at hl;exact ⟨_,hw.snoc (sp_edge he (by omega))⟩
  | @inn e he _ ih =>
   obtain ⟨w,hw⟩:=ih;have hl:=hg e he;simp only [InG] at hl;exact ⟨_,hw.snoc (sp_edge he (by omega)).neg⟩
 ·rintro ⟨w,hw⟩
  have key:∀ (w:List Int) (t:Int),Conn es v t→Pa es t w u→Conn es v u:=by
   intro w
   induction w with
   | nil=>intro t ht h;cases h;exact ht
   | cons x w ih =>
    rintro t ht ⟨q,h1,h2⟩;refine ih q ?_ h2;rcases h1 with ⟨_,h1⟩ | ⟨_,h1⟩
    ·exact Conn.out h1 ht
    ·exact Conn.inn h1 ht
  exact key w v Conn.here hw
theorem leaf_none_iff {r s:Int} {es:List Ed} (h:IsFol r s es):leaf s es=none↔∀ v,1≤v→v < s→Two es v∧∃ w,Pa es 0 w v:=by
 constructor
 ·intro hl v h1 h2
  rcases leaf_cases s es with ⟨_,hall⟩ | ⟨u,hu,_⟩
  ·have:=hall v.toNat (by omega) (by omega)
   rw [Int.toNat_of_nonneg (by omega)] at this;unfold Bad at this;refine ⟨two_of_deg h (by omega),(conn_pa h.gr.all).1 (Classical.byContradiction fun hc=>this (.inr hc))⟩
  ·rw [hl] at hu
   cases hu
 ·intro hall
  refine leaf_none fun u h1 h2 hb=>?_;obtain ⟨h3,h4⟩:=hall u (by omega) h2;rcases hb with hb | hb
  ·have:=h3.deg
   omega
  ·exact hb ((conn_pa h.gr.all).2 h4)
theorem leaf_avoid {r s:Int} {es:List Ed} (h:IsFol r s es) {v:Int} (hv:v≠0) (hb:Bad es v) {w a b:List Int} (hr:Rd w) (e:w=a++b) (h1:Pa es 0 a v) (h2:Pa es v b 0):False:=by
 rcases hb with hb | hb
 ·rcases snoc_cases a with rfl | ⟨a',x,rfl⟩
  ·cases h1
   exact hv rfl
  ·cases b with
   | nil=>cases h2;exact hv rfl
   | cons y b' =>
    obtain ⟨t,h3,h4⟩:=pa_app.1 h1;have h4:=(pa_one.1 h4).neg;obtain ⟨t',h5,h6⟩:=h2;by_cases hxy:y = -x
    ·subst hxy
     exact hr a' b' x (by rw [e];simp)
    ·have:=Two.deg (es:=es) (v:=v) ⟨y, -x,t',t,hxy,h5,h4⟩
     omega
 ·exact hb ((conn_pa h.gr.all).2 ⟨a,h1⟩)
theorem mem_butV {v:Nat} {n:Nat} {x:Int}:x∈but v n↔0≤x∧x < n∧x≠v:=by
 rw [mem_but];constructor
 ·rintro ⟨u,h1,h2,rfl⟩
  omega
 ·rintro ⟨h1,h2,h3⟩
  exact ⟨x.toNat,by omega,by omega,by omega⟩
theorem but_zero {v n:Nat} (hv:1≤v) (hn:v < n):idxI (but v n) 0=0:=by
 refine idxI_at (but_nodup v n) (k:=0) ?_;obtain ⟨m,rfl⟩:∃ m,n=m+1:=⟨n - 1,by omega⟩
 unfold but;have:List.range (m+1)=0 :: (List.range m).map Nat.succ:=List.range_succ_eq_map;rw [this,List.filter_cons,if_pos (by simp;omega)]
 rfl
theorem cut_fol {r:Int} {g:Int × List Ed} {v:Nat} (h:IsFol r g.1 g.2) (h1:1≤v) (h2:(v:Int) < g.1):IsFol r (cutV g v).1 (cutV g v).2:=by
 have hs:=h.gr.size;have hl:=but_len v (show v < g.1.toNat by omega);refine part_fol h (fun e=>?_) (by omega);rw [e] at hl;simp at hl;omega
theorem cut_lang {r:Int} {g:Int × List Ed} {v:Nat} (h:IsFol r g.1 g.2) (h1:1≤v) (h2:(v:Int) < g.1) (hb:Bad g.2 v) {w:List Int} (hw:LtW w):InS (cutV g v).2 w↔InS g.2 w:=by
 have hz:=but_zero h1 (show v < g.1.toNat by omega);have hs:=h.gr.size;unfold InS;constructor
 ·intro hp
  obtain ⟨u,hu,hi,hp2⟩:=part_pa_to (ord:=but v g.1.toNat) (es:=g.2) hp 0 (mem_butV.2 (by omega)) hz;have:=idxI_inj (mem_butV.2 (by omega)) hu (hz.trans hi.symm);subst this;exact hp2
 ·intro hp
  have:=part_pa_of (ord:=but v g.1.toNat) hp fun a b t e h3=>by
   have ht:=h3.rng h.gr.all (by omega);refine mem_butV.2 ⟨ht.1,by omega,fun e2=>?_⟩;have h4:Pa g.2 t b 0:=by
    rw [e] at hp;obtain ⟨t',h5,h6⟩:=pa_app.1 hp
    rwa [h3.det h h5]
   rw [e2] at h3 h4;exact leaf_avoid h (by omega) hb (rd_red hw) e h3 h4
  rwa [hz] at this
theorem trimA_lang {r:Int} {w:List Int} (hw:LtW w):∀ (n:Nat) {g:Int × List Ed},IsFol r g.1 g.2→IsFol r (trimA n g).1 (trimA n g).2∧(InS (trimA n g).2 w↔InS g.2 w)
 | 0,g,h=>⟨h,Iff.rfl⟩
 | n+1,g,h=>by
  cases hf:leaf g.1 g.2 with
  | none=>rw [trimA_none hf];exact ⟨h,Iff.rfl⟩
  | some v =>
   rw [trimA_some hf];obtain ⟨h1,h2,h3⟩:=leaf_spec hf;have h4:=trimA_lang hw n (cut_fol h h1 h2);exact ⟨h4.1,h4.2.trans (cut_lang h h1 h2 h3 hw)⟩
theorem trimA_fol {r:Int} (n:Nat) {g:Int × List Ed} (h:IsFol r g.1 g.2):IsFol r (trimA n g).1 (trimA n g).2:=(trimA_lang LtW.nil n h).1
theorem trimA_leaf:∀ (n:Nat) {g:Int × List Ed},g.1≤n→leaf (trimA n g).1 (trimA n g).2=none
 | 0,g,h=>by
  cases hf:leaf g.1 g.2 with
  | none=>rw [trimA_none hf];exact hf
  | some v =>
   obtain ⟨h1,h2,h3⟩:=leaf_spec hf;omega
 | n+1,g,h=>by
  cases hf:leaf g.1 g.2 with
  | none=>rw [trimA_none hf];exact hf
  | some v =>
   rw [trimA_some hf];obtain ⟨h1,h2,h3⟩:=leaf_spec hf;exact trimA_leaf n (by rw [cutV_size h2];omega)
theorem ordE_zero {r s:Int} {es:List Ed} (h:IsFol r s es):idxI (ordE r es 0) 0=0:=idxI_at (ordE_len h.gr (Int.le_refl _) (by have:=h.gr.size;omega)).2.2.1 (k:=0) (ordE_head r es 0)
theorem canonG_val {r:Int} {g:Int × List Ed} (h:IsFol r g.1 g.2):canonG r g=(((ordE r g.2 0).length:Int),partE (ordE r g.2 0) g.2):=by
 unfold canonG;rw [if_pos h]
theorem canonG_isfol {r:Int} {g:Int × List Ed} (h:IsFol r g.1 g.2):IsFol r (canonG r g).1 (canonG r g).2:=by
 rw [canonG_val h];have hs:=h.gr.size;have hl:=ordE_len h.gr (v:=0) (Int.le_refl _) (by omega);exact part_fol h (fun e=>by rw [e] at hl;simp at hl) (by omega)
theorem canonG_lang {r:Int} {g:Int × List Ed} (h:IsFol r g.1 g.2) {w:List Int}:InS (canonG r g).2 w↔InS g.2 w:=by
 have hz:=ordE_zero h;have hs:=h.gr.size;rw [canonG_val h];unfold InS;constructor
 ·intro hp
  obtain ⟨u,hu,hi,hp2⟩:=part_pa_to (ord:=ordE r g.2 0) (es:=g.2) hp 0 (ordE_self r g.2 0) hz;have:=idxI_inj (ordE_self r g.2 0) hu (hz.trans hi.symm);subst this;exact hp2
 ·intro hp
  have:=part_pa_of (ord:=ordE r g.2 0) hp fun a b t e h3=>bfs_reach h (Int.le_refl _) (by omega) (ordE_self r g.2 0) h3
  rwa [hz] at this
theorem canonG_two {r:Int} {g:Int × List Ed} (h:IsFol r g.1 g.2) (hl:leaf g.1 g.2=none):leaf (canonG r g).1 (canonG r g).2=none:=by
 have hf:=canonG_isfol h;refine (leaf_none_iff hf).2 fun i h1 h2=>?_;rw [canonG_val h] at h2 ⊢;have hs:=h.gr.size;have hnd:=(ordE_len h.gr (v:=0) (Int.le_refl _) (by omega)).2.2;obtain ⟨k,rfl⟩:=Int.eq_ofNat_of_zero_le (by omega:0≤i);have hk:k < (ordE r g.2 0).length:=by simp only at h2;omega
 have hm:(ordE r g.2 0)[k]∈ordE r g.2 0:=List.getElem_mem hk;have hi:idxI (ordE r g.2 0) ((ordE r g.2 0)[k])=k:=idxI_at hnd.1 (List.getElem?_eq_getElem hk);generalize (ordE r g.2 0)[k]=u at hm hi;have hur:=hnd.2 u hm;have hu0:u≠0:=fun e=>by
  rw [e,ordE_zero h] at hi;omega
 obtain ⟨⟨y,z,t,t',hyz,s1,s2⟩,w,hw⟩:=(leaf_none_iff h).1 hl u (by omega) hur.2;have ht:=bfs_reach h (Int.le_refl _) (by omega) hm (pa_one.2 s1);have ht':=bfs_reach h (Int.le_refl _) (by omega) hm (pa_one.2 s2);refine ⟨⟨y,z,_,_,hyz,part_sp.2 ⟨u,t,hm,ht,hi,rfl,s1⟩,part_sp.2 ⟨u,t',hm,ht',hi,rfl,s2⟩⟩,w,?_⟩;have:=part_pa_of (ord:=ordE r g.2 0) hw fun a b q e h3=>bfs_reach h (Int.le_refl _) (by omega) (ordE_self r g.2 0) h3;rw [ordE_zero h,hi] at this;exact this
theorem map_idx {ord:List Int} (hn:ord.Nodup):ord.map (idxI ord)=(List.range ord.length).map fun (k:Nat)=>(k:Int):=by
 refine List.ext_getElem (by simp) fun k h1 h2=>?_;simp only [List.getElem_map,List.getElem_range];exact idxI_at hn (List.getElem?_eq_getElem (by simpa using h1))
theorem part_upto {r:Int} {n:Nat} {es:List Ed} (hg:∀ e∈es,InG r n e) (ha:Asc es):partE ((List.range n).map fun (k:Nat)=>(k:Int)) es=es:=by
 have hm:∀ v:Int,0≤v→v < n→v∈((List.range n).map fun (k:Nat)=>(k:Int))∧idxI ((List.range n).map fun (k:Nat)=>(k:Int)) v=v:=fun v h1 h2=>by
  have hnd:((List.range n).map fun (k:Nat)=>(k:Int)).Nodup:=by
   unfold List.Nodup;rw [List.pairwise_map];exact (List.pairwise_lt_range (n:=n)).imp fun h=>by omega
  obtain ⟨k,rfl⟩:=Int.eq_ofNat_of_zero_le h1;have hk:((List.range n).map fun (k:Nat)=>(k:Int))[k]?=some (k:Int):=by
   rw [List.getElem?_map,List.getElem?_range (by omega)]
   rfl
  exact ⟨List.mem_of_getElem? hk,idxI_at hnd hk⟩
 refine asc_ext (asc_canon _) ha fun f=>?_;rw [mem_partE];constructor
 ·rintro ⟨e,he,h1,h2,rfl⟩
  have hi:=hg e he;simp only [InG] at hi;rw [(hm e.a (by omega) (by omega)).2,(hm e.b (by omega) (by omega)).2];exact he
 ·intro he
  have hi:=hg f he;simp only [InG] at hi;refine ⟨f,he,(hm f.a (by omega) (by omega)).1,(hm f.b (by omega) (by omega)).1,?_⟩;rw [(hm f.a (by omega) (by omega)).2,(hm f.b (by omega) (by omega)).2]
theorem ordE_def (r:Int) (es:List Ed) (v:Int):ordE r es v=(bfs es (lets r.toNat) v).map Prod.fst:=rfl
theorem bfs_part {r s:Int} {es:List Ed} (h:IsFol r s es):bfs (partE (ordE r es 0) es) (lets r.toNat) 0=(bfs es (lets r.toNat) 0).map fun p=>(idxI (ordE r es 0) p.1,p.2):=by
 have hs:=h.gr.size;have hz:=ordE_zero h;have hord:=ordE_len h.gr (v:=0) (Int.le_refl _) (by omega);have hf2:IsFol r (ordE r es 0).length (partE (ordE r es 0) es):=part_fol h (fun e=>by rw [e] at hord;simp at hord) (by omega);have hre:∀ {u t x:Int},u∈ordE r es 0→Sp es u x t→t∈ordE r es 0:=fun hu hs2=>bfs_reach h (Int.le_refl _) (by omega) hu (pa_one.2 hs2);have h0:=ordE_self r es 0;generalize ordE r es 0=ord at hz hf2 hre h0 ⊢;have:=bfs_iso (es:=es) (es':=partE ord es) (L:=lets r.toNat) (v:=0) (f:=idxI ord) (R:=fun u=>u∈ord) h0
  (fun u hu x hx hn=>hre hu (sp_nextV hn))
  (fun u hu x hx hn=>by
   apply Classical.byContradiction;intro hc;obtain ⟨u',t',hu',ht',e1,e2,hsp⟩:=part_sp.1 (sp_nextV (by omega:0≤nextV (partE ord es) (idxI ord u) x));have:=idxI_inj hu' hu e1;subst this;exact nextV_no hn h.gr.nn _ hsp)
  (fun u hu x hx hn=>by
   have ht:=hre hu (sp_nextV hn);exact ⟨nextV_sp hf2 (part_sp.2 ⟨u,_,hu,ht,rfl,rfl,sp_nextV hn⟩),idxI_mem.2 ht⟩)
  (fun u t hu ht e=>idxI_inj hu ht e)
 rwa [hz] at this
theorem map_fst_idx (st:BS) (ord:List Int):(st.map fun p=>(idxI ord p.1,p.2)).map Prod.fst=(st.map Prod.fst).map (idxI ord):=by
 rw [List.map_map,List.map_map];exact List.map_congr_left fun p _=>rfl
theorem ordE_part {r s:Int} {es:List Ed} (h:IsFol r s es):ordE r (partE (ordE r es 0) es) 0=(List.range (ordE r es 0).length).map fun (k:Nat)=>(k:Int):=by
 have hs:=h.gr.size;have hord:=ordE_len h.gr (v:=0) (Int.le_refl _) (by omega);have hb:=bfs_part h;rw [ordE_def r (partE (ordE r es 0) es) 0,hb,map_fst_idx,← ordE_def r es 0,map_idx hord.2.2.1]
theorem canonG_idem {r:Int} {g:Int × List Ed} (h:IsFol r g.1 g.2):canonG r (canonG r g)=canonG r g:=by
 have hf:=canonG_isfol h;rw [canonG_val hf];rw [canonG_val h] at hf ⊢;simp only at hf ⊢;rw [ordE_part h,part_upto hf.gr.all hf.gr.asc];simp
theorem foldA_isFol {r s:Int} {es:List Ed} (h:IsGr r s es):IsFol r (foldA 40 (s,es)).1 (foldA 40 (s,es)).2:=⟨foldA_gr 40 (g:=(s,es)) h,folds_nil.1 (foldA_fol 40 (g:=(s,es)) h h.size.2)⟩
theorem core_cor {r s:Int} {es:List Ed} (h:IsGr r s es):IsCor r (coreA r (s,es)).1 (coreA r (s,es)).2:=by
 have hf:=foldA_isFol h;have ht:=trimA_fol 40 hf;have hs:=hf.gr.size;have hl:=trimA_leaf 40 (g:=foldA 40 (s,es)) (by omega);unfold coreA;generalize trimA 40 (foldA 40 (s,es))=g at ht hl ⊢;exact ⟨canonG_isfol ht,canonG_two ht hl,canonG_idem ht⟩
theorem core_lang {r s:Int} {es:List Ed} (h:IsGr r s es) {w:List Int} (hw:LtW w):InS (coreA r (s,es)).2 w↔GenL es w:=by
 have hf:=foldA_isFol h;have ht:=trimA_lang hw 40 hf;have h3:=(genL_inS hf hw).symm.trans (foldA_lang w 40 (g:=(s,es)) h);unfold coreA;generalize foldA 40 (s,es)=g2 at hf ht h3 ⊢;generalize trimA 40 g2=g at ht ⊢;exact (canonG_lang ht.1).trans (ht.2.trans h3)
theorem core_self {r s:Int} {es:List Ed} (h:IsCor r s es):coreA r (s,es)=(s,es):=by
 unfold coreA;rw [foldA_nil (g:=(s,es)) (folds_nil.2 h.fol.fol),trimA_none (g:=(s,es)) h.leaf];exact h.canon
theorem Rd.cons {y:Int} {t:List Int} (h:Rd t) (hh:∀ z s,t=z :: s→z≠-y):Rd (y :: t):=by
 intro c d z e;cases c with
 | nil =>
  injection e with e1 e2
  subst e1;exact hh _ _ e2 rfl
 | cons q c =>
  injection e with e1 e2
  exact h c d z e2
theorem Rd.join:∀ {a:List Int} {x:Int} {b:List Int},Rd (a++[x])→Rd (x :: b)→Rd (a++x :: b)
 | [],_,_,_,h=>h
 | y :: a,x,b,h1,h2=>by
  refine Rd.cons (Rd.join (a:=a) (Rd.right (a:=[y]) h1) h2) fun z s e=>?_;cases a with
  | nil =>
   injection e with e1 e2
   subst e1;intro e3;exact h1 [] [] y (by rw [e3];rfl)
  | cons q a =>
   injection e with e1 e2
   subst e1;intro e3;exact h1 [] (a++[x]) y (by rw [e3];rfl)
theorem stepE_inj {u x v u' x' v':Int} (hx:x≠0) (hx':x'≠0) (h:stepE u x v=stepE u' x' v'):(u=u'∧x=x'∧v=v') ∨ (u=v'∧x = -x'∧v=u'):=by
 unfold stepE at h;split at h <;> split at h <;> (injection h with h1 h2 h3;omega)
theorem sp_stepE {es:List Ed} {u x v:Int}:Sp es u x v↔x≠0∧stepE u x v∈es:=by
 unfold Sp stepE;constructor
 ·rintro (⟨h1,h2⟩ | ⟨h1,h2⟩)
  ·exact ⟨by omega,by rw [if_neg (by omega)];exact h2⟩
  ·exact ⟨by omega,by rw [if_pos h1];exact h2⟩
 ·rintro ⟨h1,h2⟩
  by_cases h:x < 0
  ·rw [if_pos h] at h2
   exact .inr ⟨h,h2⟩
  ·rw [if_neg h] at h2
   exact .inl ⟨by omega,h2⟩
theorem nd_uniq {st:BS} (hn:(st.map Prod.fst).Nodup) {p q:Int × List Int} (hp:p∈st) (hq:q∈st) (h:p.1=q.1):p=q:=by
 obtain ⟨i,hi,rfl⟩:=List.getElem_of_mem hp;obtain ⟨j,hj,rfl⟩:=List.getElem_of_mem hq;have hpw:=List.pairwise_iff_getElem.1 hn;rcases Nat.lt_trichotomy i j with hl | rfl | hl
 ·exact absurd (by rw [List.getElem_map,List.getElem_map];exact h) (hpw i j (by simpa using hi) (by simpa using hj) hl)
 ·rfl
 ·exact absurd (by rw [List.getElem_map,List.getElem_map];exact h.symm) (hpw j i (by simpa using hj) (by simpa using hi) hl)
theorem bfs_uniq {r s v:Int} {es:List Ed} {L:List Int} (hg:∀ e∈es,InG r s e) (h0:0≤v) (h1:v < s) {p q:Int × List Int} (hp:p∈bfs es L v) (hq:q∈bfs es L v) (h:p.1=q.1):p=q :=
 nd_uniq (bfs_ok (L:=L) hg h0 h1).nd hp hq h
theorem bfs_cases {es:List Ed} {L:List Int} {v:Int} {q:Int × List Int} (h:q∈bfs es L v):q=(v,[]) ∨ ∃ p∈bfs es L v,∃ x∈L,q=(nextV es p.1 x,p.2++[x])∧0≤nextV es p.1 x∧q∈(bfs es L v).tail:=by
 have hp:=bfs_par es L v;have h1:=bfsSt_pre' es L v 0 41;rw [Nat.zero_add] at h1;have h2:(bfs es L v)[0]?=some (v,[]):=prefix_get h1 (by simp [bfsSt]);generalize bfs es L v=st at h hp h2;cases st with
 | nil=>cases h
 | cons a t =>
  simp at h2;rcases List.mem_cons.1 h with rfl | h
  ·exact .inl h2
  ·obtain ⟨p,hp1,x,hx,e,hn⟩:=hp.par q h
   exact .inr ⟨p,hp1,x,hx,e,hn,h⟩
theorem bfs_rd {r s v:Int} {es:List Ed} {L:List Int} (hf:IsFol r s es) (h0:0≤v) (h1:v < s):∀ (n:Nat) (q:Int × List Int),q∈bfs es L v→q.2.length≤n→Rd q.2:=by
 intro n
 induction n with
 | zero =>
  intro q _ hl;have e:q.2=[]:=List.eq_nil_of_length_eq_zero (by omega);rw [e];exact Rd.nil
 | succ n ih =>
  intro q hq hl;rcases bfs_cases hq with rfl | ⟨p,hp,x,hx,e,hn, -⟩
  ·exact Rd.nil
  ·have hp2:=ih p hp (by rw [e] at hl;simp at hl;omega)
   have e2:q.2=p.2++[x]:=by rw [e]
   rw [e2];refine hp2.snoc fun t a ha hax=>?_;rcases bfs_cases hp with rfl | ⟨p',hp',y,hy,e',hn', -⟩
   ·simp at ha
   ·have e3:p.2=p'.2++[y]:=by rw [e']
    obtain ⟨rfl,rfl⟩:=snoc_inj (ha.symm.trans e3);have s1:=sp_nextV hn';have s2:=sp_nextV hn;have e4:p.1=nextV es p'.1 a:=by rw [e']
    rw [← e4] at s1;have s3:=s1.neg;rw [hax,Int.neg_neg] at s3;have e5:q.1=p'.1:=by
     have:q.1=nextV es p.1 x:=by rw [e]
     rw [this];exact hf.det s2 s3
    have e6:=bfs_uniq hf.gr.all h0 h1 hq hp' e5;have:q.2=p'.2:=by rw [e6]
    rw [e2,e3] at this;have:=congrArg List.length this;simp at this
theorem wordV_pa {r n:Nat} {es:List Ed} (h:IsCor r n es) {v:Nat} (hv:v < n):Pa es 0 (wordV r es v) v:=bfs_pa es (lets r) 0 _ (wordV_mem h hv)
theorem wordV_rd {r n:Nat} {es:List Ed} (h:IsCor r n es) {v:Nat} (hv:v < n):Rd (wordV r es v):=bfs_rd h.fol (Int.le_refl _) (by omega) _ _ (wordV_mem h hv) (Nat.le_refl _)
theorem wordV_zero {r n:Nat} {es:List Ed} (h:IsCor r n es):wordV r es 0=[]:=by
 have h1:=bfsSt_pre' es (lets r) 0 0 41;rw [Nat.zero_add] at h1;exact wordV_eq h.gr (h1.subset (by simp [bfsSt]))
theorem wordV_last {r n:Nat} {es:List Ed} (h:IsCor r n es) {v:Nat} (hv:v < n) (h0:v≠0):∃ (p:Nat) (x:Int),p < n∧wordV r es v=wordV r es p++[x]∧Sp es p x v∧stepE p x v∈treeE es (bfs es (lets r) 0):=by
 have hm:=wordV_mem h hv;rcases bfs_cases hm with e | ⟨p,hp,x,hx,e,hn,ht⟩
 ·injection e with e1 e2
  omega
 ·have hr:=(bfs_ok (L:=lets r) h.gr.all (Int.le_refl 0) (by omega:(0:Int) < n)).rng p hp
  obtain ⟨k,hk⟩:=Int.eq_ofNat_of_zero_le hr.1;injection e with e1 e2
  have hsp:=sp_nextV hn;rw [← e1,hk] at hsp;have e3:wordV r es (k:Int)=p.2:=wordV_eq h.gr (by rw [← hk];exact hp);refine ⟨k,x,by omega,by rw [e2,e3],hsp,?_⟩;unfold treeE;refine List.mem_map.2 ⟨_,ht,?_⟩;rw [e2];have:(v:Int)=nextV es p.1 x:=e1;rw [this,edgeOf_new h.fol hn,hk]
theorem treeE_word {r n:Nat} {es:List Ed} (h:IsCor r n es) {e:Ed} (he:e∈treeE es (bfs es (lets r) 0)):∃ (p q:Nat) (x:Int),p < n∧q < n∧e=stepE p x q∧Sp es p x q∧wordV r es q=wordV r es p++[x]:=by
 unfold treeE at he;obtain ⟨q,hq,rfl⟩:=List.mem_map.1 he;obtain ⟨p,hp,x,hx,e,hn⟩:=(bfs_par es (lets r) 0).par q hq;have hb:=bfs_ok (L:=lets r) h.gr.all (Int.le_refl 0) (by have:=h.gr.size;omega:(0:Int) < n);have hr:=hb.rng p hp;have hqm:=List.mem_of_mem_tail hq;have hr2:=hb.rng q hqm;obtain ⟨k,hk⟩:=Int.eq_ofNat_of_zero_le hr.1;obtain ⟨j,hj⟩:=Int.eq_ofNat_of_zero_le hr2.1;have e1:q.1=nextV es p.1 x:=by rw [e]
 have e2:q.2=p.2++[x]:=by rw [e]
 have hsp:=sp_nextV hn;rw [← e1,hk,hj] at hsp;refine ⟨k,j,x,by omega,by omega,?_,hsp,?_⟩
 ·rw [e,edgeOf_new h.fol hn,← e1,hk,hj]
 ·rw [wordV_eq h.gr (v:=(j:Int)) (w:=q.2) (by rw [← hj];exact hqm),wordV_eq h.gr (v:=(k:Int)) (w:=p.2) (by rw [← hk];exact hp),e2]
theorem mem_extraE {r:Nat} {es:List Ed} {e:Ed}:e∈extraE r es↔e∈es∧e ∉ treeE es (bfs es (lets r) 0):=by
 unfold extraE;rw [List.mem_filter];simp
theorem loop_rd {r n:Nat} {es:List Ed} (h:IsCor r n es) {a b:Nat} {l:Int} (he:(⟨a,l,b⟩:Ed)∈extraE r es):Rd (wordV r es a++l :: invW (wordV r es b)):=by
 obtain ⟨hm,hx⟩:=mem_extraE.1 he;have hi:=h.gr.all _ hm;simp only [InG] at hi;have hs:Sp es a l b:=sp_edge hm (by simp only;omega);have hn:a < n∧b < n:=by omega
 have hlb:=(wordV_pa h hn.2).lt h.gr;refine Rd.join ?_ ?_
 ·refine (wordV_rd h hn.1).snoc fun t y e hy=>hx ?_
  by_cases ha:a=0
  ·subst ha
   rw [show ((0:Nat):Int)=0 from rfl,wordV_zero h] at e;simp at e
  ·obtain ⟨p,x,hp,ew,hsp,ht⟩:=wordV_last h hn.1 ha
   obtain ⟨-,rfl⟩:=snoc_inj (ew.symm.trans e);have h3:=hsp.neg;rw [hy,Int.neg_neg] at h3;have h4:=h.fol.det hs h3;rw [hy,← h4] at ht;unfold stepE at ht;rw [if_pos (by omega),Int.neg_neg] at ht;exact ht
 ·refine Rd.cons ((wordV_rd h hn.2).inv hlb) fun z s e hz=>hx ?_
  by_cases hb:b=0
  ·subst hb
   rw [show ((0:Nat):Int)=0 from rfl,wordV_zero h,invW_nil] at e;cases e
  ·obtain ⟨p,x,hp,ew,hsp,ht⟩:=wordV_last h hn.2 hb
   rw [ew] at e hlb;rw [invW_app] at e;have e2:invW [x]=[-x]:=by simp [invW,(hsp.lt3 h.gr).negI]
   rw [e2,List.singleton_append] at e;have e3:-x=z:=(List.cons.inj e).1;have e5:x=l:=by omega
   subst e5;have h4:=Pa.det' h.fol (pa_one.2 hs) (pa_one.2 hsp);rw [← h4] at ht;unfold stepE at ht;rw [if_neg (by omega)] at ht;exact ht
theorem basis_pa {r n:Nat} {es:List Ed} (h:IsCor r n es) {a b:Nat} {l:Int} (he:(⟨a,l,b⟩:Ed)∈es):Pa es 0 (wordV r es a++l :: invW (wordV r es b)) 0:=by
 have hi:=h.gr.all _ he;simp only [InG] at hi;exact (wordV_pa h (by omega)).app ⟨_,sp_edge he (by simp only;omega),(wordV_pa h (by omega)).inv h.gr⟩
theorem edge_nat {r n:Nat} {es:List Ed} (h:IsGr r n es) {e:Ed} (he:e∈es):∃ (a b:Nat),e=⟨(a:Int),e.l,(b:Int)⟩∧a < n∧b < n∧1≤e.l∧e.l≤r:=by
 have hi:=h.all e he;simp only [InG] at hi;exact ⟨e.a.toNat,e.b.toNat,Ed.ext' (by simp only;omega) rfl (by simp only;omega),by omega,by omega,by omega,by omega⟩
theorem basisW_eq {r n:Nat} {es:List Ed} (h:IsCor r n es) {a b:Nat} {l:Int} (he:(⟨a,l,b⟩:Ed)∈extraE r es):basisW r es ⟨a,l,b⟩=wordV r es a++l :: invW (wordV r es b):=by
 unfold basisW;have:=red_self (loop_rd h he) ((basis_pa h (extraE_mem he)).lt h.gr)
 simpa using this
theorem basisG_inS {r n:Nat} {es:List Ed} (h:IsCor r n es) {w:List Int} (hw:w∈basisG r es):LtW w∧InS es w:=by
 unfold basisG at hw;obtain ⟨e,he,rfl⟩:=List.mem_map.1 hw;obtain ⟨a,b,e2, -⟩:=edge_nat h.gr (extraE_mem he);rw [e2] at he ⊢;rw [basisW_eq h he];exact ⟨(basis_pa h (extraE_mem he)).lt h.gr,InS.mk h.fol (basis_pa h (extraE_mem he))⟩
theorem extra_above {r n:Nat} {es:List Ed} (h:IsCor r n es) {v:Nat} (hv:v < n) (h0:v≠0):∃ e∈extraE r es,∃ u:Nat,u < n∧(∃ t,wordV r es u=wordV r es v++t)∧((u:Int)=e.a ∨ (u:Int)=e.b):=by
 -- the longest word that goes on
 have key:∀ (k:Nat) (u:Nat),u < n→(∃ t,wordV r es u=wordV r es v++t)→41 - (wordV r es u).length≤k→∃ e∈extraE r es,∃ u:Nat,u < n∧(∃ t,wordV r es u=wordV r es v++t)∧((u:Int)=e.a ∨ (u:Int)=e.b):=by
  intro k
  induction k with
  | zero =>
   intro u hu _ hk;have:=(wordV_ok h hu).1;omega
  | succ k ih =>
   intro u hu ⟨t,ht⟩ hk;have hu0:u≠0:=fun e=>by
    subst e;rw [show ((0:Nat):Int)=0 from rfl,wordV_zero h] at ht;obtain ⟨p,x, -,ew, -⟩:=wordV_last h hv h0;rw [ew] at ht;simp at ht
   obtain ⟨p,x,hp,ew,hsp, -⟩:=wordV_last h hu hu0;obtain ⟨⟨y,z,t1,t2,hyz,s1,s2⟩, -⟩:=(leaf_none_iff h.fol).1 h.leaf u (by omega) (by omega);obtain ⟨y,t1,hy,s1⟩:∃ y t1,y≠-x∧Sp es u y t1:=by
    by_cases hy:y = -x
    ·exact ⟨z,t2,fun hz=>hyz (hy.trans hz.symm),s2⟩
    ·exact ⟨y,t1,hy,s1⟩
   obtain ⟨hy0,he⟩:=sp_stepE.1 s1;have hr:=s1.rng h.gr.all;obtain ⟨j,rfl⟩:=Int.eq_ofNat_of_zero_le hr.2.1.1;by_cases htr:stepE (u:Int) y (j:Int)∈treeE es (bfs es (lets r) 0)
   ·obtain ⟨p',q',x',hp',hq',e,hs',ew'⟩:=treeE_word h htr
    have hx':=(hs'.rng h.gr.all).2.2.1;rcases stepE_inj hy0 hx' e with ⟨e1,e2,e3⟩ | ⟨e1,e2,e3⟩
    ·obtain rfl:u=p':=by omega
     refine ih q' hq' ⟨t++[x'],by rw [ew',ht];simp⟩ ?_;have:=(wordV_ok h hq').1;rw [ew',List.length_append] at this ⊢;simp at this ⊢;omega
    ·obtain rfl:u=q':=by omega
     obtain ⟨-,e4⟩:=snoc_inj (ew.symm.trans ew');exact absurd (by omega) hy
   ·refine ⟨_,mem_extraE.2 ⟨he,htr⟩,u,hu,⟨t,ht⟩,?_⟩
    unfold stepE;split
    ·exact .inr rfl
    ·exact .inl rfl
 exact key 41 v hv ⟨[],by simp⟩ (by omega)
def Hom (n:Nat) (es es':List Ed) (f:Int→Int):Prop:=f 0=0∧∀ u x t,Sp es u x t→Sp es' (f u) x (f t)
theorem Hom.pa {n:Nat} {es es':List Ed} {f:Int→Int} (h:Hom n es es' f):∀ {w:List Int} {u v:Int},Pa es u w v→Pa es' (f u) w (f v)
 | [],_,_,h1=>by cases h1;rfl
 | _ :: _,_,_,⟨t,h1,h2⟩=>⟨f t,h.2 _ _ _ h1,h.pa h2⟩
theorem hom_of_basis {r n:Nat} {es:List Ed} {r' s':Int} {es':List Ed} (h:IsCor r n es) (h':IsFol r' s' es') (hb:∀ w∈basisG r es,InS es' w):∃ f,Hom n es es' f:=by
 have loop:∀ {a b:Nat} {l:Int},(⟨a,l,b⟩:Ed)∈extraE r es→Pa es' 0 (wordV r es a++l :: invW (wordV r es b)) 0:=by
  intro a b l he;have h1:=hb (basisW r es ⟨a,l,b⟩) (List.mem_map.2 ⟨_,he,rfl⟩);rw [basisW_eq h he] at h1;unfold InS at h1
  rwa [red_self (loop_rd h he) ((basis_pa h (extraE_mem he)).lt h.gr)] at h1
 have rd:∀ v:Nat,v < n→∃ t,Pa es' 0 (wordV r es v) t:=by
  intro v hv;by_cases h0:v=0
  ·subst h0
   rw [show ((0:Nat):Int)=0 from rfl,wordV_zero h];exact ⟨0,rfl⟩
  ·obtain ⟨e,he,u,hu,⟨t,ht⟩,hue⟩:=extra_above h hv h0
   obtain ⟨a,b,e2,ha,hb2, -⟩:=edge_nat h.gr (extraE_mem he);rw [e2] at he hue;have hl:=loop he;have:∃ q,Pa es' 0 (wordV r es u) q:=by
    rcases hue with hue | hue
    ·obtain rfl:u=a:=by simp only at hue;omega
     obtain ⟨q,h1, -⟩:=pa_app.1 hl;exact ⟨q,h1⟩
    ·obtain rfl:u=b:=by simp only at hue;omega
     obtain ⟨q, -,q2,h1,h2⟩:=pa_app.1 hl;have h3:=h2.inv h'.gr;rw [invW_invW ((wordV_pa h hu).lt h.gr)] at h3;exact ⟨q2,h3⟩
   obtain ⟨q,hq⟩:=this;rw [ht] at hq;obtain ⟨q2,h1, -⟩:=pa_app.1 hq;exact ⟨q2,h1⟩
 have hf:∀ v:Nat,v < n→Pa es' 0 (wordV r es v) (rdA es' 0 (wordV r es v)).1:=by
  intro v hv;obtain ⟨t,ht⟩:=rd v hv;rw [rdA_full h' ht];exact ht
 have edge:∀ e∈es,Sp es' (rdA es' 0 (wordV r es e.a)).1 e.l (rdA es' 0 (wordV r es e.b)).1:=by
  intro e he;obtain ⟨a,b,e2,ha,hb2,hl, -⟩:=edge_nat h.gr he;have ea:e.a=(a:Int):=by rw [e2]
  have eb:e.b=(b:Int):=by rw [e2]
  by_cases ht:e∈treeE es (bfs es (lets r) 0)
  ·obtain ⟨p,q,x,hp,hq,e3,hs,ew⟩:=treeE_word h ht
   have h1:=hf q hq;rw [ew] at h1;obtain ⟨t,h2,h3⟩:=pa_app.1 h1;have h3:=pa_one.1 h3;rw [← ew,(hf p hp).det h' h2 |>.symm] at h3;have hx:=(hs.rng h.gr.all).2.2.1;rw [e3];unfold stepE;split
   ·exact h3.neg
   ·exact h3
  ·have hm:=mem_extraE.2 ⟨he,ht⟩
   rw [e2] at hm;obtain ⟨t,h1,t2,h2,h3⟩:=pa_app.1 (loop hm);have h4:=h3.inv h'.gr;rw [invW_invW ((wordV_pa h hb2).lt h.gr)] at h4;rw [ea,eb,(hf a ha).det h' h1,(hf b hb2).det h' h4];exact h2
 refine ⟨fun v=>(rdA es' 0 (wordV r es v)).1,?_,?_⟩
 ·show (rdA es' 0 (wordV r es 0)).1=0
  rw [wordV_zero h]
  rfl
 ·rintro u x t (⟨h1,h2⟩ | ⟨h1,h2⟩)
  ·exact edge _ h2
  ·have:=(edge _ h2).neg
   simpa using this
theorem core_ord {r s:Int} {es:List Ed} (h:IsCor r s es):((ordE r es 0).length:Int)=s∧ordE r es 0=(List.range (ordE r es 0).length).map fun (k:Nat)=>(k:Int):=by
 have hc:=h.canon;rw [canonG_val (g:=(s,es)) h.fol] at hc;injection hc with h1 h2
 refine ⟨h1,?_⟩;have:=ordE_part h.fol
 rwa [h2] at this
theorem core_uniq {r n n':Nat} {es es':List Ed} (h:IsCor r n es) (h':IsCor r n' es') (hl:∀ w,LtW w→(InS es w↔InS es' w)):n=n'∧es=es':=by
 obtain ⟨f,hf⟩:=hom_of_basis h h'.fol fun w hw=>(hl w (basisG_inS h hw).1).1 (basisG_inS h hw).2;obtain ⟨g,hg⟩:=hom_of_basis h' h.fol fun w hw=>(hl w (basisG_inS h' hw).1).2 (basisG_inS h' hw).2;have gf:∀ v:Int,0≤v→v < n→g (f v)=v:=by
  intro v h0 h1;obtain ⟨k,rfl⟩:=Int.eq_ofNat_of_zero_le h0;have hw:=wordV_pa h (show k < n by omega);have h2:=hg.pa (hf.pa hw);rw [hf.1,hg.1] at h2;exact h2.det h.fol hw
 have hn0:=h.gr.size;have hb:bfs es' (lets r) (f 0)=(bfs es (lets r) 0).map fun p=>(f p.1,p.2) :=
  bfs_iso (R:=fun u=>0≤u∧u < (n:Int)) (by omega) (fun u hu x hx hn=>((sp_nextV hn).rng h.gr.all).2.1)
   (fun u hu x hx hn=>by
    apply Classical.byContradiction;intro hc;have h1:=hg.2 _ _ _ (sp_nextV (by omega:0≤nextV es' (f u) x));rw [gf u hu.1 hu.2] at h1;exact nextV_no hn h.gr.nn _ h1)
   (fun u hu x hx hn=>by
    have h1:=hf.2 _ _ _ (sp_nextV hn);exact ⟨nextV_sp h'.fol h1,(h1.rng h'.gr.all).2.1.1⟩)
   (fun u t hu ht e=>by rw [← gf u hu.1 hu.2,e,gf t ht.1 ht.2])
 rw [hf.1] at hb;have ho:ordE r es' 0=(ordE r es 0).map f:=by
  rw [ordE_def r es' 0,ordE_def r es 0,Int.toNat_natCast,hb,List.map_map,List.map_map];exact List.map_congr_left fun p _=>rfl
 obtain ⟨l1,o1⟩:=core_ord h;obtain ⟨l2,o2⟩:=core_ord h';have hnn:n=n':=by
  have:=congrArg List.length ho;rw [List.length_map] at this;omega
 subst hnn;have hid:∀ v:Int,0≤v→v < n→f v=v:=by
  intro v h0 h1;obtain ⟨k,rfl⟩:=Int.eq_ofNat_of_zero_le h0;have e1:(ordE r es 0)[k]?=some (k:Int):=by
   rw [o1,List.getElem?_map,List.getElem?_range (by omega)]
   rfl
  have e2:(ordE r es' 0)[k]?=some (k:Int):=by
   rw [o2,List.getElem?_map,List.getElem?_range (by omega)]
   rfl
  rw [ho,List.getElem?_map,e1] at e2
  simpa using e2
 have hgd:∀ v:Int,0≤v→v < n→g v=v:=fun v h0 h1=>by
  have:=gf v h0 h1
  rwa [hid v h0 h1] at this
 refine ⟨rfl,asc_ext h.gr.asc h'.gr.asc fun e=>?_⟩;constructor
 ·intro he
  have hi:=h.gr.all e he;simp only [InG] at hi;have h1:=hf.2 _ _ _ (sp_edge he (by omega));rw [hid e.a (by omega) (by omega),hid e.b (by omega) (by omega)] at h1;have h2:=(sp_stepE.1 h1).2;unfold stepE at h2
  rwa [if_neg (by omega)] at h2
 ·intro he
  have hi:=h'.gr.all e he;simp only [InG] at hi;have h1:=hg.2 _ _ _ (sp_edge he (by omega));rw [hgd e.a (by omega) (by omega),hgd e.b (by omega) (by omega)] at h1;have h2:=(sp_stepE.1 h1).2;unfold stepE at h2
  rwa [if_neg (by omega)] at h2
def LoopP (es:List Ed) (w:List Int):Prop:=(rdA es 0 w).2=w.length∧(rdA es 0 w).1=0
def Tot (r s:Int) (es:List Ed):Prop:=∀ v,0≤v→v < s→∀ x,x≠0→-r≤x→x≤r→∃ t,Sp es v x t
def Rch (s:Int) (es:List Ed):Prop:=∀ v,0≤v→v < s→∃ w,Pa es 0 w v
theorem Tot.full {r s:Int} {es:List Ed} (h:Tot r s es) (hf:IsFol r s es):∀ v:Int,0≤v→v < s→∀ x,x≠0→-r≤x→x≤r→0≤nextV es v x:=fun v h0 h1 x hx hx1 hx2=>by
 obtain ⟨t,ht⟩:=h v h0 h1 x hx hx1 hx2;rw [nextV_sp hf ht];exact (ht.rng hf.gr.all).2.1.1
theorem IsCor.rch {r s:Int} {es:List Ed} (h:IsCor r s es):Rch s es:=fun v h0 h1=>by
 rcases Int.lt_or_le 0 v with hv | hv
 ·exact ((leaf_none_iff h.fol).1 h.leaf v (by omega) h1).2
 ·exact ⟨[],by show (0:Int)=v;omega⟩
section
section
variable {r s:Int} {es:List Ed} {u:Int} {w:List Int}
end
end
theorem asc_nodup {es:List Ed} (h:Asc es):es.Nodup:=h.imp fun h=>h.ne
section
theorem mv_fol {r s:Int} {es:List Ed} {v:Int} (h:IsFol r s es) (hv:0≤v∧v < s):IsFol r s (partE (mvOrd s v) es):=by
 have hs:=h.gr.size;have ho:=mvOrd_ok hv;have:=part_fol (ord:=mvOrd s v) h (by unfold mvOrd;simp) (by omega)
 rwa [ho.1,Int.toNat_of_nonneg (by omega)] at this
theorem mv_mem {s v u:Int} (hv:0≤v∧v < s) (hu:0≤u∧u < s):u∈mvOrd s v:=by
 unfold mvOrd;by_cases e:u=v
 ·rw [e];exact List.mem_cons_self
 ·exact List.mem_cons_of_mem _ (mem_butV.2 (by omega))
theorem mv_zero {s v:Int} (hv:0≤v∧v < s):idxI (mvOrd s v) v=0:=idxI_at (mvOrd_ok hv).2.1 (k:=0) (by unfold mvOrd;rfl)
theorem mv_pa {r s:Int} {es:List Ed} {v:Int} (h:IsFol r s es) (hv:0≤v∧v < s) {w:List Int}:Pa (partE (mvOrd s v) es) 0 w 0↔Pa es v w v:=by
 constructor
 ·intro hp
  obtain ⟨u,hu,hi,hp2⟩:=part_pa_to hp v (mv_mem hv hv) (mv_zero hv);have:=idxI_inj (mv_mem hv hv) hu ((mv_zero hv).trans hi.symm);subst this;exact hp2
 ·intro hp
  have:=part_pa_of (ord:=mvOrd s v) hp fun a b t e hp2=>mv_mem hv (hp2.rng h.gr.all hv)
  rwa [mv_zero hv] at this
theorem moveA_lang {r s:Int} {es:List Ed} {v:Int} (h:IsFol r s es) (hv:0≤v∧v < s) {u:List Int} (lu:LtW u):InS (moveA r s es v).2 u↔Pa es v (red [] u) v:=by
 have hf:=mv_fol h hv;unfold moveA;rw [core_lang hf.gr lu,genL_inS hf lu];exact mv_pa h hv
section
variable {r s s':Int} {ea eb:List Ed}
end
theorem core_uniqI {r s s':Int} {es es':List Ed} (h:IsCor r s es) (h':IsCor r s' es') (hl:∀ w,LtW w→(InS es w↔InS es' w)):s=s'∧es=es':=by
 have hr:=h.gr.rank;have hs0:=h.gr.size;have hs:=h'.gr.size;obtain ⟨a,rfl⟩:=Int.eq_ofNat_of_zero_le (show 0≤r by omega);obtain ⟨n,rfl⟩:=Int.eq_ofNat_of_zero_le (show 0≤s by omega);obtain ⟨n',rfl⟩:=Int.eq_ofNat_of_zero_le (show 0≤s' by omega);obtain ⟨h1,h2⟩:=core_uniq h h' hl;exact ⟨by rw [h1],h2⟩
end
section
open Go.RowKit
theorem spec_IsWord (rank:Int) (A:Option Addr) (xs:List Int) (c:Nat) (w:World) (B:Nat) (hr:Rs w B A (ints xs)) (hok:OkI xs) (hl:xs.length≤4194304) (r:Bool) (hres:r=true↔IsW rank xs) :
  Calls Tryz.prog 74 #[.int .i64 rank,.slice A xs.length c] w fun e w'=>e=.returned (.bool r)∧∃ n,w'=w.drewN n:=by
 have HOK:=Lib.hid hok;have hR2:r=true↔(RawTo rank xs xs.length∧inB rank 1 3=true∧xs.length≤24):=hres.trans ⟨fun h=>⟨(rawTo_all h.1 h.2.1).2 h.2.2.2,by simp [inB];exact ⟨h.1,h.2.1⟩,h.2.2.1⟩,fun h=>by
  have h13:1≤rank∧rank≤3:=by simpa [inB] using h.2.1
  exact ⟨h13.1,h13.2,h.2.2,(rawTo_all h13.1 h13.2).1 h.1⟩⟩
 have HR:=Lib.hid hR2;clear hok hres hR2;obtain ⟨nr,hnr⟩:∃ nr,wrap64 (-rank)=nr:=⟨_,rfl⟩
 go_enter Tryz.func74,Tryz.ntmps74
 go_wp2_with fail;go_loopw [5] (fun i wr=>∃ k:Nat,k≤xs.length∧i=.int .i64 k∧(∃ n,wr=w.drewN n)∧RawTo rank xs k) (fun i _=>xs.length - (intOf i).toNat)
 case atStart=>exact ⟨0,Nat.zero_le _,rfl,⟨0,rfl⟩,RawTo.zero _ _⟩
 case round =>
  obtain ⟨k,hk,rfl,⟨nd,rfl⟩,hto⟩:=hrel;have HT:=Lib.hid hto;clear hto;by_cases hlt:k < xs.length
  ·obtain ⟨b,off,x,rfl, -,hx,hc⟩:=hr.int hlt
   have HX:=Lib.hid hx;clear hx;have hlt3:(k:Int) < (xs.length:Int):=by omega
   have hno:∀ (P:Prop),(RawAt rank xs k x→P)→r=true→P:=fun P h hr1=>h ((HR.out.1 hr1).1 k x hlt HX.out);have HNO:=Lib.hid hno;clear hno;by_cases hx0:(x == 0)=true
   ·have hf:r=false:=by
     cases r with
     | false=>rfl
     | true =>
      refine (HNO.out False (fun h=>?_) rfl).elim;rw [h.1] at hx0;cases hx0
    subst hf;go_wp2_with fail;go_quiet (fail)
    go_wp2_with fail;go_ret;exact ⟨rfl,_,by first | rfl | exact dn _ _ _⟩
   ·have hx0':(x == 0)=false:=by simpa using hx0
    clear hx0;have hC:=fun n:Nat=>pq (l1In_any x nr rank (w.drewN n));by_cases hi:inB x nr rank=false
    ·have hf:r=false:=by
      cases r with
      | false=>rfl
      | true =>
       refine (HNO.out False (fun h=>?_) rfl).elim;have h2:=h.2.1;rw [hnr,hi] at h2;cases h2
     subst hf;rw [hi] at hC;have HC:=Lib.hid hC;clear hC hi;go_wp2_with fail;go_quiet ((go_at_call 131;first | exact qz0 (HC.out _) | exact qz1 (HC.out _)))
     go_wp2_with fail;go_ret;exact ⟨rfl,_,by first | rfl | exact dn _ _ _⟩
    ·have hi':inB x nr rank=true:=by simpa using hi
     rw [hi'] at hC;have HC:=Lib.hid hC;have HI:=Lib.hid hi';clear hC hi hi';cases k with
     | zero =>
      have hc0:w.cell? ⟨b,off,none⟩=some (.int .i64 x):=hc;go_wp2_with fail;go_quiet ((go_at_call 131;first | exact qz0 (HC.out _) | exact qz1 (HC.out _)))
      go_wp2_with fail;go_roundw
      case rel=>exact ⟨1,by omega,by go_num,⟨_,by first | rfl | exact dn _ _ _⟩,HT.out.succ HX.out ⟨hx0',by rw [hnr];exact HI.out,fun y h=>absurd h (Nat.lt_irrefl 0)⟩⟩
      case measure=>simp [intOf];omega
     | succ m =>
      obtain ⟨b',off',y,he, -,hy,hcy⟩:=hr.int (show m < xs.length by omega);injection he with he
      injection he with he1 he2 _
      subst he1 he2;have HY:=Lib.hid hy;clear hy;have hlm3:(m:Int) < (xs.length:Int):=by omega
      have hm0:(0:Int) < (m:Int)+1:=by omega
      have hp1:(m:Int)+1 - 1=(m:Int):=by omega
      obtain ⟨ny,hny⟩:∃ ny,wrap64 (-y)=ny:=⟨_,rfl⟩
      by_cases hxy:(x == ny)=true
      ·have hf:r=false:=by
        cases r with
        | false=>rfl
        | true =>
         refine (HNO.out False (fun h=>?_) rfl).elim;have h2:=h.2.2 y (Nat.succ_pos m) HY.out;rw [hny,hxy] at h2;cases h2
       subst hf;go_wp2_with fail;go_quiet ((go_at_call 131;first | exact qz0 (HC.out _) | exact qz1 (HC.out _)))
       go_wp2_with fail;go_ret;exact ⟨rfl,_,by first | rfl | exact dn _ _ _⟩
      ·have hxy':(x == ny)=false:=by simpa using hxy
       clear hxy;go_wp2_with fail;go_quiet ((go_at_call 131;first | exact qz0 (HC.out _) | exact qz1 (HC.out _)))
       go_wp2_with fail;go_roundw
       case rel =>
        refine ⟨m+1+1,by omega,by go_num,⟨_,by first | rfl | exact dn _ _ _⟩,HT.out.succ HX.out ⟨hx0',by rw [hnr];exact HI.out,fun z _ hz=>?_⟩⟩;rw [Nat.add_sub_cancel,HY.out] at hz;obtain rfl:=Option.some.inj hz;rw [hny];exact hxy'
       case measure=>simp [intOf];omega
  ·obtain rfl:k=xs.length:=by omega
   have hrv:r=(inB rank 1 3 && decide ((xs.length:Int)≤24)):=by
    rw [Bool.eq_iff_iff,HR.out];simp only [Bool.and_eq_true,decide_eq_true_eq];exact ⟨fun h=>⟨h.2.1,by omega⟩,fun h=>⟨HT.out,h.1,by omega⟩⟩
   by_cases hib:inB rank 1 3=false
   ·rw [hib] at hrv
    have HI:=Lib.hid hib;clear hib;simp only [Bool.false_and] at hrv;subst hrv;go_wp2_with fail;refine (l1In_any _ _ _ _).mono ?_;rintro e w' ⟨rfl,rfl⟩;rw [HI.out];go_wp2_with fail;go_ret;exact ⟨rfl,_,rfl⟩
   ·have hib':inB rank 1 3=true:=by simpa using hib
    rw [hib'] at hrv;have HI:=Lib.hid hib';simp only [Bool.true_and] at hrv;clear hib hib';subst hrv;go_wp2_with fail;refine (l1In_any _ _ _ _).mono ?_;rintro e w' ⟨rfl,rfl⟩;rw [HI.out];go_wp2_with fail;go_ret;exact ⟨rfl,_,rfl⟩
end
section
open Go.RowKit
theorem spec_AddPath (r s:Int) (A:Option Addr) (es:List Ed) (c:Nat) (u:Int) (Aw:Option Addr) (wd:List Int) (cw:Nat) (v:Int) (w:World) (lo hi lo' hi':Nat)
  (hr:RG w lo hi A es) (hw:RV w lo' hi' Aw (ints wd)) (hl:es.length≤1048576) (hwl:wd.length≤1048576) (hok:OkI wd) (rs:Int) (res:List Ed) (b:Bool) (hres:PathIs r s es u wd v rs res b) :
  Calls Tryz.prog 116 #[graV r s A es.length c,.int .i64 u,.slice Aw wd.length cw,.int .i64 v] w fun e w'=>∃ A1 c1,e=.returned (.tuple #[graV r rs A1 res.length c1,.bool b])∧OG w' w.heap.size w'.heap.size A1 c1 res∧Mid 0 0 w w':=by
 have HR:=Lib.hid hres;have HOK:=Lib.hid hok;clear hres hok;obtain ⟨b1,hb1⟩:=bool_of (IsGr r s es);obtain ⟨b2,hb2⟩:=bool_of (0≤u∧u < s);obtain ⟨b3,hb3⟩:=bool_of (0≤v∧v < s);obtain ⟨b4,hb4⟩:=bool_of (IsW r wd);have H1:=Lib.hid hb1;have H2:=Lib.hid hb2;have H3:=Lib.hid hb3;have H4:=Lib.hid hb4;clear hb1 hb2 hb3 hb4;have hm0:Mid 0 0 w ((w.alloc (.cells #[.int .i64 r,.int .i64 s,.slice A es.length c] 26)).alloc (.cells #[.int .i64 0,.int .i64 0,.slice none 0 0] 26)):=(Mid.alloc _ _).trans (Mid.alloc _ _);have B0:=(Box.new w #[.int .i64 r,.int .i64 s,.slice A es.length c] 26).mid (Mid.alloc _ (.cells #[.int .i64 0,.int .i64 0,.slice none 0 0] 26)) oZr;have B2:=Box.new (w.alloc (.cells #[.int .i64 r,.int .i64 s,.slice A es.length c] 26)) #[.int .i64 0,.int .i64 0,.slice none 0 0] 26;simp only [World.size_alloc] at B2;go_enter Tryz.func116,Tryz.ntmps116
 go_wp2_with fail;generalize hw1:((w.alloc (.cells #[.int .i64 r,.int .i64 s,.slice A es.length c] 26)).alloc (.cells #[.int .i64 0,.int .i64 0,.slice none 0 0] 26))=w1 at hm0 B0 B2 ⊢;have hs1:w1.heap.size=w.heap.size+1+1:=by rw [← hw1];simp
 have HS:=Lib.hid hs1;clear hw1 hs1;with_reducible refine (spec_l4Copy r s A es c _ _ _ (hr.mid hm0 oZl) hl).mono ?_
 rintro en w2 ⟨A1,c1,rfl,ho2,hm2⟩;have hal:=Mid.alloc w2 (.cells #[.int .i64 r,.int .i64 s,.slice A1 es.length c1] 26);have Y3:=Box.new w2 #[.int .i64 r,.int .i64 s,.slice A1 es.length c1] 26;replace B0:=B0.mid hm2 oZr;replace B2:=B2.mid hm2 oZr;replace hm0:=hm0.trans hm2;replace B0:=B0.mid hal oZr;replace B2:=B2.mid hal oZr;replace hm0:=hm0.trans hal;have hG2:w.heap.size+1 < w2.heap.size:=by have:=HS.out;have:=hm2.size;omega
 have ho5:=(ho2.mid hal oZl)
 have hlt2:=ho2.ov.2.2;have hb2k:Value.ownBlock (.slice A1 es.length c1)≠some w2.heap.size:=fun h=>by have:=hlt2 _ h;omega
 have p0:=B0.cell 0 rfl;have p1:=B0.cell 1 rfl;have p2:=B0.cell 2 rfl;go_wp2_with fail;generalize w2.alloc (.cells #[.int .i64 r,.int .i64 s,.slice A1 es.length c1] 26)=w3 at hm0 B0 B2 Y3 ho5 p0 p1 p2 ⊢;have hG3:w2.heap.size < w3.heap.size:=Y3.1;have HOW:=Lib.hid ho5.ov.2.1;have HBK:=Lib.hid hb2k;have ho6:=ho5.wide (Nat.le_refl _) (Nat.le_refl _) (Nat.le_of_lt hG3);generalize hG:w2.heap.size=G at Y3 hG2 hG3 ho5 HBK ⊢;have HGW:=Lib.hid (show w1.heap.size≤G by rw [← hG];exact hm2.size);clear hG hal hm2 hlt2 hb2k ho2 ho6;with_reducible refine (spec_IsGraph r s A es c _ _ _ (hr.mid hm0 oZl).rv hl b1 H1.out).mono ?_
 rintro en w4 ⟨rfl,hm4⟩;replace B0:=B0.mid hm4 oZr;replace B2:=B2.mid hm4 oZr;replace Y3:=Y3.mid hm4 oZr;replace ho5:=ho5.mid hm4 oZl;replace hm0:=hm0.trans hm4;replace HOW:=Lib.hid (owns_mid HOW.out hm4 oZl);clear hm4;cases b1 with
 | false =>
  have hno:¬ PathOk r s es u wd v:=fun h=>by have:=H1.out.2 h.gr;cases this
  clear p0 p1 p2;obtain ⟨rfl,rfl,rfl⟩:=HR.out.no hno;have a0:=B2.cell 0 rfl;have a1:=B2.cell 1 rfl;have a2:=B2.cell 2 rfl;have q0:=Y3.cell 0 rfl;have q1:=Y3.cell 1 rfl;have q2:=Y3.cell 2 rfl;have af:=B2.2.2;go_wp2_with fail;refine bodyPost_ret (v:=.tuple #[.agg #[.int .i64 r,.int .i64 rs,.slice A1 res.length c1],.bool false]) (by simp [results,Tryz.results116,go_sem,a0,a1,a2,af,q0,q1,q2]) rfl ⟨A1,c1,rfl,?_,?_⟩
  ·refine OG.wide (OG.mid ho5 (a:=w.heap.size) (b:=w.heap.size+2) ?_ (Or.inl (by have:=HS.out;omega))) (by have:=HS.out;omega) (by have:=ho5.size;simp;omega) (Nat.le_refl _)
   repeat (first | exact Mid.refl _ _ _ | refine Mid.stored ?_ _ (by simp;try omega) (by simp;try omega))
  ·repeat (first | exact hm0 | refine Mid.storeNew ?_ (by simp;try omega) _)
 | true =>
 have hgr:=H1.out.1 rfl;have hsz:=hgr.size;have hln:=hgr.len;have hrk:=hgr.rank;have GR:=Lib.hid hgr;clear hgr H1;have hwsub:IntKind.i64.wrap (s - 1)=s - 1:=IntWalk.i64_in _ (by omega);clear p0 p1 p2;have p0:=B0.cell 0 rfl;have p1:=B0.cell 1 rfl;have p2:=B0.cell 2 rfl;go_wp2_with fail;with_reducible refine (l1In_at (has_bool hsz.1 hsz.2 H2.out).2 _).mono ?_
 rintro en w5 ⟨rfl,rfl⟩;cases b2 with
 | false =>
  have hno:¬ PathOk r s es u wd v:=fun h=>by have:=H2.out.2 h.u0;cases this
  clear p0 p1 p2;obtain ⟨rfl,rfl,rfl⟩:=HR.out.no hno;have a0:=B2.cell 0 rfl;have a1:=B2.cell 1 rfl;have a2:=B2.cell 2 rfl;have q0:=Y3.cell 0 rfl;have q1:=Y3.cell 1 rfl;have q2:=Y3.cell 2 rfl;have af:=B2.2.2;go_wp2_with fail;refine bodyPost_ret (v:=.tuple #[.agg #[.int .i64 r,.int .i64 rs,.slice A1 res.length c1],.bool false]) (by simp [results,Tryz.results116,go_sem,a0,a1,a2,af,q0,q1,q2]) rfl ⟨A1,c1,rfl,?_,?_⟩
  ·refine OG.wide (OG.mid ho5 (a:=w.heap.size) (b:=w.heap.size+2) ?_ (Or.inl (by have:=HS.out;omega))) (by have:=HS.out;omega) (by have:=ho5.size;simp;omega) (Nat.le_refl _)
   repeat (first | exact Mid.refl _ _ _ | refine Mid.stored ?_ _ (by simp;try omega) (by simp;try omega))
  ·repeat (first | exact hm0 | refine Mid.storeNew ?_ (by simp;try omega) _)
 | true =>
 have hxu:=H2.out.1 rfl;clear H2;clear p0 p1 p2;have p0:=B0.cell 0 rfl;have p1:=B0.cell 1 rfl;have p2:=B0.cell 2 rfl;go_wp2_with fail;with_reducible refine (l1In_at (has_bool hsz.1 hsz.2 H3.out).2 _).mono ?_
 rintro en w6 ⟨rfl,rfl⟩;cases b3 with
 | false =>
  have hno:¬ PathOk r s es u wd v:=fun h=>by have:=H3.out.2 h.v0;cases this
  clear p0 p1 p2;obtain ⟨rfl,rfl,rfl⟩:=HR.out.no hno;have a0:=B2.cell 0 rfl;have a1:=B2.cell 1 rfl;have a2:=B2.cell 2 rfl;have q0:=Y3.cell 0 rfl;have q1:=Y3.cell 1 rfl;have q2:=Y3.cell 2 rfl;have af:=B2.2.2;go_wp2_with fail;refine bodyPost_ret (v:=.tuple #[.agg #[.int .i64 r,.int .i64 rs,.slice A1 res.length c1],.bool false]) (by simp [results,Tryz.results116,go_sem,a0,a1,a2,af,q0,q1,q2]) rfl ⟨A1,c1,rfl,?_,?_⟩
  ·refine OG.wide (OG.mid ho5 (a:=w.heap.size) (b:=w.heap.size+2) ?_ (Or.inl (by have:=HS.out;omega))) (by have:=HS.out;omega) (by have:=ho5.size;simp;omega) (Nat.le_refl _)
   repeat (first | exact Mid.refl _ _ _ | refine Mid.stored ?_ _ (by simp;try omega) (by simp;try omega))
  ·repeat (first | exact hm0 | refine Mid.storeNew ?_ (by simp;try omega) _)
 | true =>
 have hxv:=H3.out.1 rfl;clear H3;clear p0 p1 p2;have p0:=B0.cell 0 rfl;have p1:=B0.cell 1 rfl;have p2:=B0.cell 2 rfl;go_wp2_with fail;with_reducible refine (spec_IsWord r Aw wd cw _ _ ((hw.mid hm0 oZl).rs) HOK.out (by omega) b4 H4.out).mono ?_
 rintro en w7 ⟨rfl,nd,hwd7⟩;have hm7:Mid 0 0 w4 w7:=by rw [hwd7];exact (Mid.refl 0 0 w4).drewN nd
 clear hwd7;replace B0:=B0.mid hm7 oZr;replace B2:=B2.mid hm7 oZr;replace Y3:=Y3.mid hm7 oZr;replace ho5:=ho5.mid hm7 oZl;replace hm0:=hm0.trans hm7;replace HOW:=Lib.hid (owns_mid HOW.out hm7 oZl);clear hm7;cases b4 with
 | false =>
  have hno:¬ PathOk r s es u wd v:=fun h=>by have:=H4.out.2 h.word;cases this
  clear p0 p1 p2;obtain ⟨rfl,rfl,rfl⟩:=HR.out.no hno;have a0:=B2.cell 0 rfl;have a1:=B2.cell 1 rfl;have a2:=B2.cell 2 rfl;have q0:=Y3.cell 0 rfl;have q1:=Y3.cell 1 rfl;have q2:=Y3.cell 2 rfl;have af:=B2.2.2;go_wp2_with fail;refine bodyPost_ret (v:=.tuple #[.agg #[.int .i64 r,.int .i64 rs,.slice A1 res.length c1],.bool false]) (by simp [results,Tryz.results116,go_sem,a0,a1,a2,af,q0,q1,q2]) rfl ⟨A1,c1,rfl,?_,?_⟩
  ·refine OG.wide (OG.mid ho5 (a:=w.heap.size) (b:=w.heap.size+2) ?_ (Or.inl (by have:=HS.out;omega))) (by have:=HS.out;omega) (by have:=ho5.size;simp;omega) (Nat.le_refl _)
   repeat (first | exact Mid.refl _ _ _ | refine Mid.stored ?_ _ (by simp;try omega) (by simp;try omega))
  ·repeat (first | exact hm0 | refine Mid.storeNew ?_ (by simp;try omega) _)
 | true =>
 have hwd:=H4.out.1 rfl;have hwd24:=hwd.2.2.1;have HWD:=Lib.hid hwd;clear hwd H4;clear p0 p1 p2;have p0:=B0.cell 0 rfl;have p1:=B0.cell 1 rfl;have p2:=B0.cell 2 rfl;by_cases hne:wd=[]
 ·subst hne
  have hno:¬ PathOk r s es u [] v:=fun h=>h.ne rfl;clear p0 p1 p2;obtain ⟨rfl,rfl,rfl⟩:=HR.out.no hno;have a0:=B2.cell 0 rfl;have a1:=B2.cell 1 rfl;have a2:=B2.cell 2 rfl;have q0:=Y3.cell 0 rfl;have q1:=Y3.cell 1 rfl;have q2:=Y3.cell 2 rfl;have af:=B2.2.2;go_wp2_with fail;refine bodyPost_ret (v:=.tuple #[.agg #[.int .i64 r,.int .i64 rs,.slice A1 res.length c1],.bool false]) (by simp [results,Tryz.results116,go_sem,a0,a1,a2,af,q0,q1,q2]) rfl ⟨A1,c1,rfl,?_,?_⟩
  ·refine OG.wide (OG.mid ho5 (a:=w.heap.size) (b:=w.heap.size+2) ?_ (Or.inl (by have:=HS.out;omega))) (by have:=HS.out;omega) (by have:=ho5.size;simp;omega) (Nat.le_refl _)
   repeat (first | exact Mid.refl _ _ _ | refine Mid.stored ?_ _ (by simp;try omega) (by simp;try omega))
  ·repeat (first | exact hm0 | refine Mid.storeNew ?_ (by simp;try omega) _)
 have hpos:0 < wd.length:=List.length_pos_iff.2 hne;have d4:((wd.length:Int) == 0)=false:=by simp only [beq_eq_false_iff_ne];omega
 have HNE:=Lib.hid hne;clear hne;clear p0 p1 p2;have p0:=B0.cell 0 rfl;have p1:=B0.cell 1 rfl;have p2:=B0.cell 2 rfl;have d5':IntKind.i64.wrap (s+(wd.length:Int))=s+(wd.length:Int):=IntWalk.i64_in _ (by omega);have d5'':IntKind.i64.wrap (s+(wd.length:Int) - 1)=s+(wd.length:Int) - 1:=IntWalk.i64_in _ (by omega);by_cases hsl:40 < s+(wd.length:Int) - 1
 ·have hno:¬ PathOk r s es u wd v:=fun h=>by have:=h.sz;omega
  have d5:decide (40 < s+(wd.length:Int) - 1)=true:=by simpa using hsl
  clear p1;clear p0 p2;have p0:=B0.cell 0 rfl;have p1:=B0.cell 1 rfl;have p2:=B0.cell 2 rfl;obtain ⟨rfl,rfl,rfl⟩:=HR.out.no hno;have a0:=B2.cell 0 rfl;have a1:=B2.cell 1 rfl;have a2:=B2.cell 2 rfl;have q0:=Y3.cell 0 rfl;have q1:=Y3.cell 1 rfl;have q2:=Y3.cell 2 rfl;have af:=B2.2.2;go_wp2_with fail;refine bodyPost_ret (v:=.tuple #[.agg #[.int .i64 r,.int .i64 rs,.slice A1 res.length c1],.bool false]) (by simp [results,Tryz.results116,go_sem,a0,a1,a2,af,q0,q1,q2]) rfl ⟨A1,c1,rfl,?_,?_⟩
  ·refine OG.wide (OG.mid ho5 (a:=w.heap.size) (b:=w.heap.size+2) ?_ (Or.inl (by have:=HS.out;omega))) (by have:=HS.out;omega) (by have:=ho5.size;simp;omega) (Nat.le_refl _)
   repeat (first | exact Mid.refl _ _ _ | refine Mid.stored ?_ _ (by simp;try omega) (by simp;try omega))
  ·repeat (first | exact hm0 | refine Mid.storeNew ?_ (by simp;try omega) _)
 have d5:decide (40 < s+(wd.length:Int) - 1)=false:=by simpa using hsl
 by_cases hll:120 < es.length+wd.length
 ·have hno:¬ PathOk r s es u wd v:=fun h=>by have:=h.ln;omega
  have d6:decide (120 < (es.length:Int)+(wd.length:Int))=true:=by simp;omega
  obtain ⟨rfl,rfl,rfl⟩:=HR.out.no hno;have a0:=B2.cell 0 rfl;have a1:=B2.cell 1 rfl;have a2:=B2.cell 2 rfl;have q0:=Y3.cell 0 rfl;have q1:=Y3.cell 1 rfl;have q2:=Y3.cell 2 rfl;have af:=B2.2.2;go_wp2_with fail;refine bodyPost_ret (v:=.tuple #[.agg #[.int .i64 r,.int .i64 rs,.slice A1 res.length c1],.bool false]) (by simp [results,Tryz.results116,go_sem,a0,a1,a2,af,q0,q1,q2]) rfl ⟨A1,c1,rfl,?_,?_⟩
  ·refine OG.wide (OG.mid ho5 (a:=w.heap.size) (b:=w.heap.size+2) ?_ (Or.inl (by have:=HS.out;omega))) (by have:=HS.out;omega) (by have:=ho5.size;simp;omega) (Nat.le_refl _)
   repeat (first | exact Mid.refl _ _ _ | refine Mid.stored ?_ _ (by simp;try omega) (by simp;try omega))
  ·repeat (first | exact hm0 | refine Mid.storeNew ?_ (by simp;try omega) _)
 have d6:decide (120 < (es.length:Int)+(wd.length:Int))=false:=by simp;omega
 obtain ⟨rfl,hrs,hre⟩:=HR.out.yes ⟨GR.out,hxu,hxv,HWD.out,HNE.out,by omega,by omega⟩;have HRS:=Lib.hid hrs;have HRE:=Lib.hid hre;have hasc:=Lib.hid GR.out.asc;clear hrs hre HR;have hwn:IntKind.i64.wrap ((wd.length:Int) - 1)=(wd.length:Int) - 1:=IntWalk.i64_in _ (by omega);have hletb:=Lib.hid HWD.out.2.2.2.1;have q0:=Y3.cell 0 rfl;have q1:=Y3.cell 1 rfl;have q2:=Y3.cell 2 rfl;go_wp2_with fail;clear p0 p1 p2 q0 q1 q2;go_loopw [11,12] (fun at_ i wr=>∃ (k:Nat) (A2:Option Addr) (c2 lo2 hi2:Nat) (xs:List Ed) (sz:Int),k≤wd.length∧i=.int .i64 k∧at_=.int .i64 (pathV u s wd.length v k)∧Hid (sz=s+((min k (wd.length - 1):Nat):Int))∧Hid (xs=putAll es (pathE u s wd v k)) ∧
  OG wr lo2 hi2 A2 c2 xs∧(hi2≤G ∨ G+1≤lo2)∧w1.heap.size≤lo2 ∧
  Box wr w.heap.size [.int .i64 r,.int .i64 s,.slice A es.length c]∧Box wr (w.heap.size+1) [.int .i64 0,.int .i64 0,.slice none 0 0] ∧
  Box wr G [.int .i64 r,.int .i64 sz,.slice A2 xs.length c2]∧Mid 0 0 w wr) (fun _ i _=>wd.length - (intOf i).toNat)
 case atStart=>exact ⟨0,A1,c1,_,_,es,s,Nat.zero_le _,rfl,rfl,Lib.hid (by simp),Lib.hid (by simp [pathE,putAll]),ho5,.inl (Nat.le_refl _),Nat.le_refl _,B0,B2,Y3,hm0⟩
 case round =>
  clear B0 B2 Y3 hm0 ho5 HOW HBK hG3;obtain ⟨k,A2,c2,lo2,hi2,xs,sz,hk,rfl,rfl,HSZ,HX,hown,hdis,hlo2,Z0,Z2,Z3,hmr⟩:=hrel;have hszv:=HSZ.out;have hxl:xs.length≤1000:=by
   have h1:=putAll_len es (pathE u s wd v k);rw [← HX.out,pathE_len] at h1;omega
  by_cases hlt:k < wd.length
  ·obtain ⟨B,off,x,rfl,hbh,hx,hcx⟩:=(hw.mid hmr oZl).at hlt
   have hxb:=hletb.out x (List.mem_of_getElem? hx);have hkn:(k:Int) < (wd.length:Int):=by omega
   have hk0:(0:Int)≤(k:Int):=by omega
   have hpe:=pathE_succ (u:=u) (s:=s) (v:=v) hx;have HPE:=Lib.hid hpe;have hGr:G < wr.heap.size:=Z3.1;have hBw:B < wr.heap.size:=by have:=hw.1;have:=hmr.size;omega
   have hBG:B < G:=by have:=hw.1;omega
   have hw1r:w1.heap.size≤wr.heap.size:=by have:=HGW.out;omega
   clear hx hpe;generalize hat:pathV u s wd.length v k=at0 at HPE ⊢;clear hat;rcases (by omega:0 < x ∨ x < 0) with hx0 | hx0
   ·have dx:decide (0 < x)=true:=by simpa using hx0
    have hst0:∀ t,stepE at0 x t=⟨at0,x,t⟩:=fun t=>by rw [stepE,if_neg (by omega)]
    rw [hst0] at HPE;clear hst0;by_cases hlast:k+1 < wd.length
    ·have hmin:((min k (wd.length - 1):Nat):Int)=(k:Int):=by rw [Nat.min_eq_left (by omega)]
     have hmin2:((min (k+1) (wd.length - 1):Nat):Int)=(k:Int)+1:=by rw [Nat.min_eq_left (by omega)];rfl
     rw [hmin] at hszv;subst hszv;have hto:pathV u s wd.length v (k+1)=s+(k:Int):=by
      rw [pathV,if_neg (by omega),if_pos hlast];omega
     rw [hto] at HPE;have dk:decide ((k:Int)+1 < (wd.length:Int))=true:=by simp;omega
     have hws:IntKind.i64.wrap (s+(k:Int)+1)=s+(k:Int)+1:=IntWalk.i64_in _ (by omega);have q1:=Z3.cell 1 rfl;have qf:=Z3.2.2;have hst:=Mid.setCell wr (lo:=G) (hi:=G+1) (p:=⟨G,1,none⟩) (.int .i64 (s+(k:Int)+1)) (Nat.le_refl _) (Nat.lt_succ_self _);have V0:=Z0.mid hst (Or.inl (by omega));have V2:=Z2.mid hst (Or.inl (by omega));have V3:=Z3.set 1 (.int .i64 (s+(k:Int)+1)) (by simp) rfl;have hownV:=hown.mid hst (by omega);have hcV:=cell_keep hst hBw (Or.inl hBG) hcx;have hmv:=hmr.storeNew (p:=⟨G,1,none⟩) (by show w.heap.size≤G;omega) (.int .i64 (s+(k:Int)+1));have hsV:(wr.setCell ⟨G,1,none⟩ (.int .i64 (s+(k:Int)+1))).heap.size=wr.heap.size:=by simp
     go_wp2_with fail;clear dk dx;generalize wr.setCell ⟨G,1,none⟩ (.int .i64 (s+(k:Int)+1))=wx at V0 V2 V3 hownV hmv hsV hcV ⊢;have hnsz:Hid (s+(k:Int)+1=s+((min (k+1) (wd.length - 1):Nat):Int)):=Lib.hid (by rw [hmin2];omega);clear Z0 Z2 Z3 hown hmr q1 qf hst hcx hmin hmin2 HSZ;simp only [List.set_cons_succ,List.set_cons_zero] at V3;generalize s+(k:Int)+1=sz' at V3 hnsz;generalize s+(k:Int)=to at HPE hto ⊢;have hGx:G < wx.heap.size:=V3.1;have hmd:=Mid.drew1 wx;have U0:=V0.mid hmd oZr;have U2:=V2.mid hmd oZr;have U3:=V3.mid hmd oZr;have hownU:=hownV.mid hmd oZl;have hmu:=hmv.trans hmd;have g2:=U3.cell 2 rfl;have f0:=cell_keep hmd (by omega) oZr hcV;clear V0 V2 V3 hownV hmv hmd hcV;refine wp_region_T (S:=(fun w'=>w'.cell? ⟨G,2,none⟩=some (.slice A2 xs.length c2)∧w'.cell? ⟨B,off+k,none⟩=some (.int .i64 x))) 11 (by kernel_rfl) ⟨g2,f0⟩ ?_;generalize World.drew wx=wz at U0 U2 U3 hownU hmu f0 g2 ⊢;have hS:wz.cell? ⟨G,2,none⟩=some (.slice A2 xs.length c2)∧wz.cell? ⟨B,off+k,none⟩=some (.int .i64 x):=⟨g2,f0⟩
     refine tkT 0 rfl hS ?_;try simp only [Act.put,zs1,zs2,zs3,zs4,zs5,zs6]
     refine tkT 1 rfl hS ?_;try simp only [Act.put,zs1,zs2,zs3,zs4,zs5,zs6]
     refine tkT 2 rfl hS ?_;try simp only [Act.put,zs1,zs2,zs3,zs4,zs5,zs6]
     refine tkT 3 rfl hS ?_;try simp only [Act.put,zs1,zs2,zs3,zs4,zs5,zs6]
     refine tkT 4 rfl hS ?_;try simp only [Act.put,zs1,zs2,zs3,zs4,zs5,zs6]
     refine tkT 5 rfl hS ?_;try simp only [Act.put,zs1,zs2,zs3,zs4,zs5,zs6]
     refine tkT 6 rfl hS ?_;try simp only [Act.put,zs1,zs2,zs3,zs4,zs5,zs6]
     refine tkT 7 rfl hS ?_;try simp only [Act.put,zs1,zs2,zs3,zs4,zs5,zs6]
     refine tkT 8 rfl hS ?_;try simp only [Act.put,zs1,zs2,zs3,zs4,zs5,zs6]
     have hP:=spec_l4Put A2 xs c2 ⟨at0,x,to⟩ wz _ _ hownU.rg (by omega);refine rdT 9 rfl (fun K hK=>?_)
     (go_simp;(with_reducible refine hP.mono ?_);rintro en w9 ⟨A9,c9,rfl,ho9,hm9⟩;have T0':=U0.mid hm9 oZr;have T2':=U2.mid hm9 oZr;have T3':=U3.mid hm9 oZr;have f0':=cell_keep hm9 (by have:=U3.1;omega) oZr f0;go_wp2_with fail)
     refine hK.out _ _ (Or.inr ⟨T3'.cell 2 rfl,f0'⟩) (fun _=>?_);clear hK K;try simp only [Act.put,zs1,zs2,zs3,zs4,zs5,zs6]
     have hmr9:=hmu.trans hm9;have hGz:G < wz.heap.size:=U3.1;have hS3:=And.intro (T3'.cell 2 rfl) f0';have hr2:=T3'.cell 2 rfl;have hrf:=T3'.2.2;clear hS U0 U2 U3 hmu hP;refine tkT 10 rfl hS3 ?_;try simp only [Act.put,zs1,zs2,zs3,zs4,zs5,zs6]
     refine rdT 11 rfl (fun K hK=>?_)
     (go_simp)
     refine hK.out _ _ (Or.inl rfl) (fun _=>?_);clear hK K;try simp only [Act.put,zs1,zs2,zs3,zs4,zs5,zs6]
     refine wpAnyT_done (by kernel_rfl) ?_ _;go_wp2_with fail;go_roundw
     case rel =>
      have hst:=Mid.setCell w9 (lo:=G) (hi:=G+1) (p:=⟨G,2,none⟩) (.slice A9 (putE ⟨at0,x,to⟩ xs).length c9) (Nat.le_refl _) (Nat.lt_succ_self _);refine ⟨k+1,A9,c9,_,_,putE ⟨at0,x,to⟩ xs,sz',by omega,by go_num,by rw [hto],hnsz,Lib.hid ?_,ho9.mid hst (Or.inl (by omega)),.inr (by omega),by have:=HGW.out;omega,T0'.mid hst (Or.inl (by omega)),T2'.mid hst (Or.inl (by omega)),T3'.set 2 _ (by simp) rfl,hmr9.storeNew (by show w.heap.size≤G;omega) _⟩;rw [HPE.out,putAll_snoc,← HX.out]
     case measure=>simp [intOf];omega
    ·have hkl:k+1=wd.length:=by omega
     have hmin:min k (wd.length - 1)=min (k+1) (wd.length - 1):=by omega
     have hnsz:Hid (sz=s+((min (k+1) (wd.length - 1):Nat):Int)):=Lib.hid (by rw [hszv,hmin]);have hto:pathV u s wd.length v (k+1)=v:=by
      rw [pathV,if_neg (by omega),if_neg (by omega)]
     rw [hto] at HPE;have dk:decide ((k:Int)+1 < (wd.length:Int))=false:=by simp;omega
     clear hszv hmin HSZ;generalize sz=sz' at Z3 hnsz;go_wp2_with fail;clear dk dx;have V0:=Z0;have V2:=Z2;have V3:=Z3;have hownV:=hown;have hmv:=hmr;have hcV:=hcx;obtain ⟨wx,hwx⟩:∃ wx,wr=wx:=⟨_,rfl⟩
     have hsV:wx.heap.size=wr.heap.size:=by rw [hwx]
     rw [hwx] at V0 V2 V3 hownV hmv hcV ⊢;clear Z0 Z2 Z3 hown hmr hcx;have hGx:G < wx.heap.size:=V3.1;have hmd:=Mid.drew1 wx;have U0:=V0.mid hmd oZr;have U2:=V2.mid hmd oZr;have U3:=V3.mid hmd oZr;have hownU:=hownV.mid hmd oZl;have hmu:=hmv.trans hmd;have g2:=U3.cell 2 rfl;have f0:=cell_keep hmd (by omega) oZr hcV;clear V0 V2 V3 hownV hmv hmd hcV;refine wp_region_T (S:=(fun w'=>w'.cell? ⟨G,2,none⟩=some (.slice A2 xs.length c2)∧w'.cell? ⟨B,off+k,none⟩=some (.int .i64 x))) 11 (by kernel_rfl) ⟨g2,f0⟩ ?_;generalize World.drew wx=wz at U0 U2 U3 hownU hmu f0 g2 ⊢;have hS:wz.cell? ⟨G,2,none⟩=some (.slice A2 xs.length c2)∧wz.cell? ⟨B,off+k,none⟩=some (.int .i64 x):=⟨g2,f0⟩
     refine tkT 0 rfl hS ?_;try simp only [Act.put,zs1,zs2,zs3,zs4,zs5,zs6]
     refine tkT 1 rfl hS ?_;try simp only [Act.put,zs1,zs2,zs3,zs4,zs5,zs6]
     refine tkT 2 rfl hS ?_;try simp only [Act.put,zs1,zs2,zs3,zs4,zs5,zs6]
     refine tkT 3 rfl hS ?_;try simp only [Act.put,zs1,zs2,zs3,zs4,zs5,zs6]
     refine tkT 4 rfl hS ?_;try simp only [Act.put,zs1,zs2,zs3,zs4,zs5,zs6]
     refine tkT 5 rfl hS ?_;try simp only [Act.put,zs1,zs2,zs3,zs4,zs5,zs6]
     refine tkT 6 rfl hS ?_;try simp only [Act.put,zs1,zs2,zs3,zs4,zs5,zs6]
     refine tkT 7 rfl hS ?_;try simp only [Act.put,zs1,zs2,zs3,zs4,zs5,zs6]
     refine tkT 8 rfl hS ?_;try simp only [Act.put,zs1,zs2,zs3,zs4,zs5,zs6]
     have hP:=spec_l4Put A2 xs c2 ⟨at0,x,v⟩ wz _ _ hownU.rg (by omega);refine rdT 9 rfl (fun K hK=>?_)
     (go_simp;(with_reducible refine hP.mono ?_);rintro en w9 ⟨A9,c9,rfl,ho9,hm9⟩;have T0':=U0.mid hm9 oZr;have T2':=U2.mid hm9 oZr;have T3':=U3.mid hm9 oZr;have f0':=cell_keep hm9 (by have:=U3.1;omega) oZr f0;go_wp2_with fail)
     refine hK.out _ _ (Or.inr ⟨T3'.cell 2 rfl,f0'⟩) (fun _=>?_);clear hK K;try simp only [Act.put,zs1,zs2,zs3,zs4,zs5,zs6]
     have hmr9:=hmu.trans hm9;have hGz:G < wz.heap.size:=U3.1;have hS3:=And.intro (T3'.cell 2 rfl) f0';have hr2:=T3'.cell 2 rfl;have hrf:=T3'.2.2;clear hS U0 U2 U3 hmu hP;refine tkT 10 rfl hS3 ?_;try simp only [Act.put,zs1,zs2,zs3,zs4,zs5,zs6]
     refine rdT 11 rfl (fun K hK=>?_)
     (go_simp)
     refine hK.out _ _ (Or.inl rfl) (fun _=>?_);clear hK K;try simp only [Act.put,zs1,zs2,zs3,zs4,zs5,zs6]
     refine wpAnyT_done (by kernel_rfl) ?_ _;go_wp2_with fail;go_roundw
     case rel =>
      have hst:=Mid.setCell w9 (lo:=G) (hi:=G+1) (p:=⟨G,2,none⟩) (.slice A9 (putE ⟨at0,x,v⟩ xs).length c9) (Nat.le_refl _) (Nat.lt_succ_self _);refine ⟨k+1,A9,c9,_,_,putE ⟨at0,x,v⟩ xs,sz',by omega,by go_num,by rw [hto],hnsz,Lib.hid ?_,ho9.mid hst (Or.inl (by omega)),.inr (by omega),by have:=HGW.out;omega,T0'.mid hst (Or.inl (by omega)),T2'.mid hst (Or.inl (by omega)),T3'.set 2 _ (by simp) rfl,hmr9.storeNew (by show w.heap.size≤G;omega) _⟩;rw [HPE.out,putAll_snoc,← HX.out]
     case measure=>simp [intOf];omega
   ·have dx:decide (0 < x)=false:=by simp;omega
    have hst0:∀ t,stepE at0 x t=⟨t, -x,at0⟩:=fun t=>by rw [stepE,if_pos hx0]
    have hwx1:IntKind.i64.wrap (-x) = -x:=IntWalk.i64_in _ (by omega);have hwx2:wrap64 (-x) = -x:=by unfold wrap64;omega
    rw [hst0] at HPE;clear hst0;by_cases hlast:k+1 < wd.length
    ·have hmin:((min k (wd.length - 1):Nat):Int)=(k:Int):=by rw [Nat.min_eq_left (by omega)]
     have hmin2:((min (k+1) (wd.length - 1):Nat):Int)=(k:Int)+1:=by rw [Nat.min_eq_left (by omega)];rfl
     rw [hmin] at hszv;subst hszv;have hto:pathV u s wd.length v (k+1)=s+(k:Int):=by
      rw [pathV,if_neg (by omega),if_pos hlast];omega
     rw [hto] at HPE;have dk:decide ((k:Int)+1 < (wd.length:Int))=true:=by simp;omega
     have hws:IntKind.i64.wrap (s+(k:Int)+1)=s+(k:Int)+1:=IntWalk.i64_in _ (by omega);have q1:=Z3.cell 1 rfl;have qf:=Z3.2.2;have hst:=Mid.setCell wr (lo:=G) (hi:=G+1) (p:=⟨G,1,none⟩) (.int .i64 (s+(k:Int)+1)) (Nat.le_refl _) (Nat.lt_succ_self _);have V0:=Z0.mid hst (Or.inl (by omega));have V2:=Z2.mid hst (Or.inl (by omega));have V3:=Z3.set 1 (.int .i64 (s+(k:Int)+1)) (by simp) rfl;have hownV:=hown.mid hst (by omega);have hcV:=cell_keep hst hBw (Or.inl hBG) hcx;have hmv:=hmr.storeNew (p:=⟨G,1,none⟩) (by show w.heap.size≤G;omega) (.int .i64 (s+(k:Int)+1));have hsV:(wr.setCell ⟨G,1,none⟩ (.int .i64 (s+(k:Int)+1))).heap.size=wr.heap.size:=by simp
     go_wp2_with fail;clear dk dx;generalize wr.setCell ⟨G,1,none⟩ (.int .i64 (s+(k:Int)+1))=wx at V0 V2 V3 hownV hmv hsV hcV ⊢;have hnsz:Hid (s+(k:Int)+1=s+((min (k+1) (wd.length - 1):Nat):Int)):=Lib.hid (by rw [hmin2];omega);clear Z0 Z2 Z3 hown hmr q1 qf hst hcx hmin hmin2 HSZ;simp only [List.set_cons_succ,List.set_cons_zero] at V3;generalize s+(k:Int)+1=sz' at V3 hnsz;generalize s+(k:Int)=to at HPE hto ⊢;have hGx:G < wx.heap.size:=V3.1;have hmd:=Mid.drew1 wx;have U0:=V0.mid hmd oZr;have U2:=V2.mid hmd oZr;have U3:=V3.mid hmd oZr;have hownU:=hownV.mid hmd oZl;have hmu:=hmv.trans hmd;have g2:=U3.cell 2 rfl;have f0:=cell_keep hmd (by omega) oZr hcV;clear V0 V2 V3 hownV hmv hmd hcV;refine wp_region_T (S:=(fun w'=>w'.cell? ⟨G,2,none⟩=some (.slice A2 xs.length c2)∧w'.cell? ⟨B,off+k,none⟩=some (.int .i64 x))) 12 (by kernel_rfl) ⟨g2,f0⟩ ?_;generalize World.drew wx=wz at U0 U2 U3 hownU hmu f0 g2 ⊢;have hS:wz.cell? ⟨G,2,none⟩=some (.slice A2 xs.length c2)∧wz.cell? ⟨B,off+k,none⟩=some (.int .i64 x):=⟨g2,f0⟩
     refine tkT 0 rfl hS ?_;try simp only [Act.put,zs1,zs2,zs3,zs4,zs5,zs6]
     refine tkT 1 rfl hS ?_;try simp only [Act.put,zs1,zs2,zs3,zs4,zs5,zs6]
     refine tkT 2 rfl hS ?_;try simp only [Act.put,zs1,zs2,zs3,zs4,zs5,zs6]
     refine tkT 3 rfl hS ?_;try simp only [Act.put,zs1,zs2,zs3,zs4,zs5,zs6]
     refine tkT 4 rfl hS ?_;try simp only [Act.put,zs1,zs2,zs3,zs4,zs5,zs6]
     refine tkT 5 rfl hS ?_;try simp only [Act.put,zs1,zs2,zs3,zs4,zs5,zs6]
     refine tkT 6 rfl hS ?_;try simp only [Act.put,zs1,zs2,zs3,zs4,zs5,zs6]
     refine tkT 7 rfl hS ?_;try simp only [Act.put,zs1,zs2,zs3,zs4,zs5,zs6]
     refine tkT 8 rfl hS ?_;try simp only [Act.put,zs1,zs2,zs3,zs4,zs5,zs6]
     refine tkT 9 rfl hS ?_;try simp only [Act.put,zs1,zs2,zs3,zs4,zs5,zs6]
     have hP:=spec_l4Put A2 xs c2 ⟨to, -x,at0⟩ wz _ _ hownU.rg (by omega);refine rdT 10 rfl (fun K hK=>?_)
     (go_simp;(try simp only [hwx1,hwx2]);(with_reducible refine hP.mono ?_);rintro en w9 ⟨A9,c9,rfl,ho9,hm9⟩;have T0':=U0.mid hm9 oZr;have T2':=U2.mid hm9 oZr;have T3':=U3.mid hm9 oZr;have f0':=cell_keep hm9 (by have:=U3.1;omega) oZr f0;go_wp2_with fail)
     refine hK.out _ _ (Or.inr ⟨T3'.cell 2 rfl,f0'⟩) (fun _=>?_);clear hK K;try simp only [Act.put,zs1,zs2,zs3,zs4,zs5,zs6]
     have hmr9:=hmu.trans hm9;have hGz:G < wz.heap.size:=U3.1;have hS3:=And.intro (T3'.cell 2 rfl) f0';have hr2:=T3'.cell 2 rfl;have hrf:=T3'.2.2;clear hS U0 U2 U3 hmu hP;refine tkT 11 rfl hS3 ?_;try simp only [Act.put,zs1,zs2,zs3,zs4,zs5,zs6]
     refine rdT 12 rfl (fun K hK=>?_)
     (go_simp)
     refine hK.out _ _ (Or.inl rfl) (fun _=>?_);clear hK K;try simp only [Act.put,zs1,zs2,zs3,zs4,zs5,zs6]
     refine wpAnyT_done (by kernel_rfl) ?_ _;go_wp2_with fail;go_roundw
     case rel =>
      have hst:=Mid.setCell w9 (lo:=G) (hi:=G+1) (p:=⟨G,2,none⟩) (.slice A9 (putE ⟨to, -x,at0⟩ xs).length c9) (Nat.le_refl _) (Nat.lt_succ_self _);refine ⟨k+1,A9,c9,_,_,putE ⟨to, -x,at0⟩ xs,sz',by omega,by go_num,by rw [hto],hnsz,Lib.hid ?_,ho9.mid hst (Or.inl (by omega)),.inr (by omega),by have:=HGW.out;omega,T0'.mid hst (Or.inl (by omega)),T2'.mid hst (Or.inl (by omega)),T3'.set 2 _ (by simp) rfl,hmr9.storeNew (by show w.heap.size≤G;omega) _⟩;rw [HPE.out,putAll_snoc,← HX.out]
     case measure=>simp [intOf];omega
    ·have hkl:k+1=wd.length:=by omega
     have hmin:min k (wd.length - 1)=min (k+1) (wd.length - 1):=by omega
     have hnsz:Hid (sz=s+((min (k+1) (wd.length - 1):Nat):Int)):=Lib.hid (by rw [hszv,hmin]);have hto:pathV u s wd.length v (k+1)=v:=by
      rw [pathV,if_neg (by omega),if_neg (by omega)]
     rw [hto] at HPE;have dk:decide ((k:Int)+1 < (wd.length:Int))=false:=by simp;omega
     clear hszv hmin HSZ;generalize sz=sz' at Z3 hnsz;go_wp2_with fail;clear dk dx;have V0:=Z0;have V2:=Z2;have V3:=Z3;have hownV:=hown;have hmv:=hmr;have hcV:=hcx;obtain ⟨wx,hwx⟩:∃ wx,wr=wx:=⟨_,rfl⟩
     have hsV:wx.heap.size=wr.heap.size:=by rw [hwx]
     rw [hwx] at V0 V2 V3 hownV hmv hcV ⊢;clear Z0 Z2 Z3 hown hmr hcx;have hGx:G < wx.heap.size:=V3.1;have hmd:=Mid.drew1 wx;have U0:=V0.mid hmd oZr;have U2:=V2.mid hmd oZr;have U3:=V3.mid hmd oZr;have hownU:=hownV.mid hmd oZl;have hmu:=hmv.trans hmd;have g2:=U3.cell 2 rfl;have f0:=cell_keep hmd (by omega) oZr hcV;clear V0 V2 V3 hownV hmv hmd hcV;refine wp_region_T (S:=(fun w'=>w'.cell? ⟨G,2,none⟩=some (.slice A2 xs.length c2)∧w'.cell? ⟨B,off+k,none⟩=some (.int .i64 x))) 12 (by kernel_rfl) ⟨g2,f0⟩ ?_;generalize World.drew wx=wz at U0 U2 U3 hownU hmu f0 g2 ⊢;have hS:wz.cell? ⟨G,2,none⟩=some (.slice A2 xs.length c2)∧wz.cell? ⟨B,off+k,none⟩=some (.int .i64 x):=⟨g2,f0⟩
     refine tkT 0 rfl hS ?_;try simp only [Act.put,zs1,zs2,zs3,zs4,zs5,zs6]
     refine tkT 1 rfl hS ?_;try simp only [Act.put,zs1,zs2,zs3,zs4,zs5,zs6]
     refine tkT 2 rfl hS ?_;try simp only [Act.put,zs1,zs2,zs3,zs4,zs5,zs6]
     refine tkT 3 rfl hS ?_;try simp only [Act.put,zs1,zs2,zs3,zs4,zs5,zs6]
     refine tkT 4 rfl hS ?_;try simp only [Act.put,zs1,zs2,zs3,zs4,zs5,zs6]
     refine tkT 5 rfl hS ?_;try simp only [Act.put,zs1,zs2,zs3,zs4,zs5,zs6]
     refine tkT 6 rfl hS ?_;try simp only [Act.put,zs1,zs2,zs3,zs4,zs5,zs6]
     refine tkT 7 rfl hS ?_;try simp only [Act.put,zs1,zs2,zs3,zs4,zs5,zs6]
     refine tkT 8 rfl hS ?_;try simp only [Act.put,zs1,zs2,zs3,zs4,zs5,zs6]
     refine tkT 9 rfl hS ?_;try simp only [Act.put,zs1,zs2,zs3,zs4,zs5,zs6]
     have hP:=spec_l4Put A2 xs c2 ⟨v, -x,at0⟩ wz _ _ hownU.rg (by omega);refine rdT 10 rfl (fun K hK=>?_)
     (go_simp;(try simp only [hwx1,hwx2]);(with_reducible refine hP.mono ?_);rintro en w9 ⟨A9,c9,rfl,ho9,hm9⟩;have T0':=U0.mid hm9 oZr;have T2':=U2.mid hm9 oZr;have T3':=U3.mid hm9 oZr;have f0':=cell_keep hm9 (by have:=U3.1;omega) oZr f0;go_wp2_with fail)
     refine hK.out _ _ (Or.inr ⟨T3'.cell 2 rfl,f0'⟩) (fun _=>?_);clear hK K;try simp only [Act.put,zs1,zs2,zs3,zs4,zs5,zs6]
     have hmr9:=hmu.trans hm9;have hGz:G < wz.heap.size:=U3.1;have hS3:=And.intro (T3'.cell 2 rfl) f0';have hr2:=T3'.cell 2 rfl;have hrf:=T3'.2.2;clear hS U0 U2 U3 hmu hP;refine tkT 11 rfl hS3 ?_;try simp only [Act.put,zs1,zs2,zs3,zs4,zs5,zs6]
     refine rdT 12 rfl (fun K hK=>?_)
     (go_simp)
     refine hK.out _ _ (Or.inl rfl) (fun _=>?_);clear hK K;try simp only [Act.put,zs1,zs2,zs3,zs4,zs5,zs6]
     refine wpAnyT_done (by kernel_rfl) ?_ _;go_wp2_with fail;go_roundw
     case rel =>
      have hst:=Mid.setCell w9 (lo:=G) (hi:=G+1) (p:=⟨G,2,none⟩) (.slice A9 (putE ⟨v, -x,at0⟩ xs).length c9) (Nat.le_refl _) (Nat.lt_succ_self _);refine ⟨k+1,A9,c9,_,_,putE ⟨v, -x,at0⟩ xs,sz',by omega,by go_num,by rw [hto],hnsz,Lib.hid ?_,ho9.mid hst (Or.inl (by omega)),.inr (by omega),by have:=HGW.out;omega,T0'.mid hst (Or.inl (by omega)),T2'.mid hst (Or.inl (by omega)),T3'.set 2 _ (by simp) rfl,hmr9.storeNew (by show w.heap.size≤G;omega) _⟩;rw [HPE.out,putAll_snoc,← HX.out]
     case measure=>simp [intOf];omega
  ·obtain rfl:k=wd.length:=by omega
   have hszf:sz=s+(wd.length:Int) - 1:=by rw [hszv,Nat.min_eq_right (by omega)];omega
   subst hszf;have hxx:=HX.out;rw [putAll_canon hasc.out] at hxx;have hGr:G < wr.heap.size:=Z3.1;have HXX:=Lib.hid hxx;clear hszv hxx;have a0:=Z2.cell 0 rfl;have a1:=Z2.cell 1 rfl;have a2:=Z2.cell 2 rfl;have b0:=Z3.cell 0 rfl;have b1:=Z3.cell 1 rfl;have b2:=Z3.cell 2 rfl;have af:=Z2.2.2;have bf:=Z3.2.2;go_wp2_with fail;have hcl:(w.heap.size+1 == G)=false:=by simp;omega
   refine bodyPost_ret (v:=.tuple #[.agg #[.int .i64 r,.int .i64 (s+(wd.length:Int) - 1),.slice A2 xs.length c2],.bool true]) (by simp [results,Tryz.results116,go_sem,a0,a1,a2,b0,b1,b2,af,bf]) rfl ⟨A2,c2,?_,?_,?_⟩
   ·rw [HRS.out,HRE.out,HXX.out]
   ·rw [HRE.out,← HXX.out]
    refine OG.wide (OG.mid hown (a:=w.heap.size) (b:=w.heap.size+2) ?_ (Or.inl (by have:=HS.out;omega))) (by have:=HS.out;omega) (by have:=hown.size;simp;omega) (Nat.le_refl _);repeat (first | exact Mid.refl _ _ _ | refine Mid.stored ?_ _ (by simp;try omega) (by simp;try omega))
   ·repeat (first | exact hmr | refine Mid.storeNew ?_ (by simp;try omega) _)
end
section
open Go.RowKit
def rowL (n:Nat) (es:List Ed) (x:Int):List Int:=(List.range n).map fun (v:Nat)=>nextV es (v:Int) x
def actL (n:Nat) (es:List Ed) (k:Nat):List (List Int):=(List.range k).map fun (i:Nat)=>rowL n es ((i:Int)+1)
theorem rowL_len (n:Nat) (es:List Ed) (x:Int):(rowL n es x).length=n:=by simp [rowL]
theorem rowL_succ (n:Nat) (es:List Ed) (x:Int):rowL (n+1) es x=rowL n es x++[nextV es (n:Int) x]:=by simp [rowL,List.range_succ]
theorem actL_len (n:Nat) (es:List Ed) (k:Nat):(actL n es k).length=k:=by simp [actL]
theorem actL_succ (n:Nat) (es:List Ed) (k:Nat):actL n es (k+1)=actL n es k++[rowL n es ((k:Int)+1)]:=by simp [actL,List.range_succ]
theorem actL_sum (n:Nat) (es:List Ed) (k:Nat):sumL (actL n es k)=k * n:=by
 induction k with
 | zero=>simp [actL,sumL]
 | succ k ih=>rw [actL_succ,sumL_append,ih,sumL_one,rowL_len,Nat.succ_mul]
theorem impl_ActionOf_fin (r n:Nat) (A:Option Addr) (es:List Ed) (c:Nat) (w:World) (lo hi:Nat) (hr:RG w lo hi A es) (hcl:es.length≤c) (hf:IsFin r n es) :
  Calls Tryz.prog 68 #[graV r n A es.length c] w fun e w'=>∃ A1 c1,e=.returned (.slice A1 (actL n es r).length c1)∧OSS w' w.heap.size w'.heap.size 34 3 A1 c1 (actL n es r)∧Mid 0 0 w w':=by
 have hg:=hf.cor.gr;have hn40:n≤40:=by have:=hg.size;omega
 have hr3:r≤3:=by have:=hg.rank;omega
 have hl:=hg.len;have HGL:=Lib.hid (show ∀ e∈es,1≤e.l∧e.l≤3 from fun e he=>by have:=hg.all e he;unfold InG at this;omega);have HF:=Lib.hid hf;have hm0:Mid 0 0 w ((w.alloc (.cells #[.int .i64 r,.int .i64 n,.slice A es.length c] 26)).alloc (.cells #[] 34)):=(Mid.alloc _ _).trans (Mid.alloc _ _);have b0:=(Box.new w #[.int .i64 r,.int .i64 n,.slice A es.length c] 26).mid (Mid.alloc _ (.cells #[] 34)) oZr;have O0:=owns_empty (w.alloc (.cells #[.int .i64 r,.int .i64 n,.slice A es.length c] 26)) 34 1;rw [World.size_alloc] at O0;clear hf hg;go_enter Tryz.func68,Tryz.ntmps68
 go_wp2_with fail;with_reducible refine (impl_IsFiniteIndex r n A es c _ _ _ (hr.mid hm0 oZl) (by omega) hcl true (iff_of_true rfl HF.out)).mono ?_
 rintro en w1 ⟨rfl,hm1⟩;replace b0:=b0.mid hm1 oZr;replace O0:=owns_mid O0 hm1 oZl;replace hm0:=hm0.trans hm1;clear hm1;go_wp2_with fail;go_loopw [3,4] (fun out x wr=>∃ (k:Nat) (rows:List Row) (A1:Option Addr) (c1:Nat),k≤r∧x=.int .i64 ((k:Int)+1)∧out=.slice A1 k c1∧Hid (rowsD rows=actL n es k)∧wr.ownsRow (w.heap.size+1) 34 1 (.slice A1 k c1) k (rowsV rows)∧OwnRows wr (w.heap.size+1) wr.heap.size 3 rows ∧
   Box wr w.heap.size [.int .i64 r,.int .i64 n,.slice A es.length c]∧Mid 0 0 w wr) (fun _ x _=>(r+1 - intOf x).toNat)
 case atStart=>exact ⟨0,[],_,0,Nat.zero_le _,rfl,rfl,Lib.hid rfl,O0,OwnRows.nil,b0,hm0⟩
 case round =>
  clear O0 b0 hm0;obtain ⟨wo,hwo⟩:∃ wo,wo=wr:=⟨_,rfl⟩
  subst hwo;obtain ⟨k,rows,A1,c1,hk,rfl,rfl,HD,hout,hrows,b0,hm⟩:=hrel;have p0:=b0.cell 0 rfl;have p1:=b0.cell 1 rfl;have p2:=b0.cell 2 rfl;by_cases hlt:k < r
  ·have hk1:(k:Int)+1≤r:=by omega
   have hk0:(0:Int)≤(k:Int):=by omega
   have O1:=owns_empty wo 3 1;have hal:=Mid.alloc wo (.cells #[] 3);have hwo1:w.heap.size+1≤wo.heap.size:=b0.1;go_wp2_with fail;clear p0 p1 p2;go_loopw [5,6] (fun pv vv wr=>∃ (j:Nat) (Ap:Option Addr) (cp np:Nat),j≤n∧vv=.int .i64 j∧pv=.slice Ap np cp∧Hid ((rowL j es ((k:Int)+1)).length=np)∧wr.ownsRow wo.heap.size 3 1 (.slice Ap np cp) np (ints (rowL j es ((k:Int)+1)))∧Mid 0 0 wo wr) (fun _ v _=>n - (intOf v).toNat)
   case atStart=>exact ⟨0,_,0,0,Nat.zero_le _,rfl,rfl,Lib.hid rfl,O1,hal⟩
   case round =>
    clear O1 hal;obtain ⟨j,Ap,cp,np,hj,rfl,rfl,HN,hp,hmx⟩:=hrel;have hnp:np=j:=by rw [← HN.out,rowL_len]
    have b1:=b0.mid hmx oZr;have p0:=b1.cell 0 rfl;have p1:=b1.cell 1 rfl;have p2:=b1.cell 2 rfl;have hm1:=hm.trans hmx;by_cases hlt2:j < n
    ·have hj1:(j:Int) < n:=by omega
     have hj0:(0:Int)≤(j:Int):=by omega
     go_wp2_with fail;with_reducible refine (impl_NextVertex r n A es c j ((k:Int)+1) _ lo hi (hr.mid hm1 oZl) (by omega) HGL.out (by omega) (by omega)).mono ?_
     rintro en w6 ⟨rfl,hm6⟩;have HS:=Lib.hid (rowL_succ j es ((k:Int)+1));generalize nextV es (j:Int) ((k:Int)+1)=t at HS ⊢;have HP:=Lib.hid (owns_mid hp hm6 oZl);have hsz:=(hmx.trans hm6).size;have hmx6:=hmx.trans hm6;clear hp p0 p1 p2 hm6 hnp;have hnp2:np≤1000:=by have:=HN.out;rw [rowL_len] at this;omega
     go_wp2_with (at_builtin;refine wpList_pushI rfl _ _ rfl wo.heap.size Ap np cp _ rfl HP.out t rfl (by omega) hsz ?_;intro A9 c9 w9 ho9 hm9)
     go_roundw
     case rel=>exact ⟨j+1,A9,c9,np+1,by omega,by go_num,rfl,Lib.hid (by rw [HS.out,List.length_append,HN.out];rfl),by rw [HS.out];exact ho9,hmx6.transNew hm9 (Or.inl (Nat.le_refl _))⟩
     case measure=>simp [intOf];omega
    ·obtain rfl:j=n:=by omega
     obtain rfl:j=np:=hnp.symm;have hout1:=owns_mid hout hmx oZl;have hrows1:=hrows.mid hmx oZl;have hsz:=hmx.size;have hpl:=hp;have HPL:=Lib.hid hpl;have HOU:=Lib.hid hout1;clear hpl hp hout1;go_wp2_with (at_builtin;refine wpList_push rfl _ _ 41 rfl (w.heap.size+1) 34 (.slice none 0 0) 1 24 undSSI infoSI rfl (by decide) _ _ _ rfl HOU.out 1 [.slice Ap j cp] rfl rfl ?c1 ?c2 ?c3 (by omega) ?next)
     case c1=>simp [Value.oneCell']
     case c2=>unfold maxLen;omega
     case c3=>omega
     case next =>
      intro v' w9 hown9 hgr9 _;have hm9:=Mid.of_grownRow HOU.out hgr9;obtain ⟨A9,c9,rfl, -, -⟩:=owns_shape hown9;have hrl:(rowL j es ((k:Int)+1)).length=j:=rowL_len _ _ _;have hpr:=hrows1.push (r:=⟨Ap,cp,rowL j es ((k:Int)+1)⟩) (base:=wo.heap.size) (hi':=wr.heap.size) (by simp only [Row.v,hrl];exact HPL.out) (Nat.le_refl _) (by omega) hsz (Nat.le_refl _) (by intro g hg;simp only [Row.v,hrl] at hg;exact (HPL.out.lt g hg).2);have hpr9:=(hpr.grown HOU.out (by decide) hgr9).wide (Nat.le_refl _) hm9.size (Nat.le_refl _);go_wp2_with fail;go_roundw
      case rel =>
       refine ⟨k+1,rows++[⟨Ap,cp,rowL j es ((k:Int)+1)⟩],A9,c9,by omega,by go_num,rfl,Lib.hid ?_,?_,hpr9,b1.mid hm9 (Or.inl (by omega)),hm1.transNew hm9 (Or.inl (by omega))⟩
       ·rw [rowsD_append,HD.out,actL_succ]
        rfl
       ·rw [rowsV_append]
        have:rowsV [⟨Ap,cp,rowL j es ((k:Int)+1)⟩]=[.slice Ap j cp]:=by simp [rowsV,Row.v,hrl]
        rw [this];exact hown9
      case measure=>simp [intOf];omega
  ·obtain rfl:k=r:=by omega
   have hal:(actL n es k).length=k:=actL_len _ _ _;have HAL:=Lib.hid hal;have hoss:=OSS.mk' hout hrows HD.out;have hs1:=b0.1;clear hal;go_wp2_with fail;go_ret;exact ⟨A1,c1,by rw [HAL.out];rfl,hoss.wide (Nat.le_succ _) (Nat.le_refl _) (Nat.le_refl _),hm⟩
theorem spec_ActionOf_fin (r n:Nat) (A:Option Addr) (es:List Ed) (c:Nat) (w:World) (lo hi:Nat) (hr:RG w lo hi A es) (hf:IsFin r n es) :
  Calls Tryz.prog 69 #[graV r n A es.length c] w fun e w'=>∃ A1 c1,e=.returned (.slice A1 (actL n es r).length c1)∧OSS w' w.heap.size w'.heap.size 34 3 A1 c1 (actL n es r)∧Mid 0 0 w w':=by
 have hg:=hf.cor.gr;have hn40:n≤40:=by have:=hg.size;omega
 have hr3:r≤3:=by have:=hg.rank;omega
 have hl:=hg.len;have HGL:=Lib.hid (show ∀ e∈es,1≤e.l∧e.l≤3 from fun e he=>by have:=hg.all e he;unfold InG at this;omega);have HF:=Lib.hid hf;have hm0:Mid 0 0 w ((w.alloc (.cells #[.int .i64 r,.int .i64 n,.slice A es.length c] 26)).alloc (.cells #[] 34)):=(Mid.alloc _ _).trans (Mid.alloc _ _);have b0:=(Box.new w #[.int .i64 r,.int .i64 n,.slice A es.length c] 26).mid (Mid.alloc _ (.cells #[] 34)) oZr;have O0:=owns_empty (w.alloc (.cells #[.int .i64 r,.int .i64 n,.slice A es.length c] 26)) 34 1;rw [World.size_alloc] at O0;clear hf hg;go_enter Tryz.func69,Tryz.ntmps69
 go_wp2_with fail;go_loopw [3,4] (fun out x wr=>∃ (k:Nat) (rows:List Row) (A1:Option Addr) (c1:Nat),k≤r∧x=.int .i64 ((k:Int)+1)∧out=.slice A1 k c1∧Hid (rowsD rows=actL n es k)∧wr.ownsRow (w.heap.size+1) 34 1 (.slice A1 k c1) k (rowsV rows)∧OwnRows wr (w.heap.size+1) wr.heap.size 3 rows ∧
   Box wr w.heap.size [.int .i64 r,.int .i64 n,.slice A es.length c]∧Mid 0 0 w wr) (fun _ x _=>(r+1 - intOf x).toNat)
 case atStart=>exact ⟨0,[],_,0,Nat.zero_le _,rfl,rfl,Lib.hid rfl,O0,OwnRows.nil,b0,hm0⟩
 case round =>
  clear O0 b0 hm0;obtain ⟨wo,hwo⟩:∃ wo,wo=wr:=⟨_,rfl⟩
  subst hwo;obtain ⟨k,rows,A1,c1,hk,rfl,rfl,HD,hout,hrows,b0,hm⟩:=hrel;have p0:=b0.cell 0 rfl;have p1:=b0.cell 1 rfl;have p2:=b0.cell 2 rfl;by_cases hlt:k < r
  ·have hk1:(k:Int)+1≤r:=by omega
   have hk0:(0:Int)≤(k:Int):=by omega
   go_wp2_with fail;with_reducible refine (spec_IsFiniteIndex r n A es c _ _ _ (hr.mid hm oZl) (by omega) true (iff_of_true rfl HF.out)).mono ?_
   rintro en w1 ⟨rfl,hm1⟩;have hrows1:=hrows.mid hm1 oZl;have hrows2:=hrows1.wide (Nat.le_refl _) hm1.size (Nat.le_refl _);replace b0:=b0.mid hm1 oZr;replace hout:=owns_mid hout hm1 oZl;replace hm:=hm.trans hm1;clear p0 p1 p2 hrows hrows1 hm1;obtain ⟨wo,hwo⟩:∃ wo,wo=w1:=⟨_,rfl⟩
   subst hwo;have hrows:=hrows2;clear hrows2;have p0:=b0.cell 0 rfl;have p1:=b0.cell 1 rfl;have p2:=b0.cell 2 rfl;have O1:=owns_empty wo 3 1;have hal:=Mid.alloc wo (.cells #[] 3);have hwo1:w.heap.size+1≤wo.heap.size:=b0.1;go_wp2_with fail;clear p0 p1 p2;go_loopw [5,6] (fun pv vv wr=>∃ (j:Nat) (Ap:Option Addr) (cp np:Nat),j≤n∧vv=.int .i64 j∧pv=.slice Ap np cp∧Hid ((rowL j es ((k:Int)+1)).length=np)∧wr.ownsRow wo.heap.size 3 1 (.slice Ap np cp) np (ints (rowL j es ((k:Int)+1)))∧Mid 0 0 wo wr) (fun _ v _=>n - (intOf v).toNat)
   case atStart=>exact ⟨0,_,0,0,Nat.zero_le _,rfl,rfl,Lib.hid rfl,O1,hal⟩
   case round =>
    clear O1 hal;obtain ⟨j,Ap,cp,np,hj,rfl,rfl,HN,hp,hmx⟩:=hrel;have hnp:np=j:=by rw [← HN.out,rowL_len]
    have b1:=b0.mid hmx oZr;have p0:=b1.cell 0 rfl;have p1:=b1.cell 1 rfl;have p2:=b1.cell 2 rfl;have hm1:=hm.trans hmx;by_cases hlt2:j < n
    ·have hj1:(j:Int) < n:=by omega
     have hj0:(0:Int)≤(j:Int):=by omega
     go_wp2_with fail;with_reducible refine (spec_NextVertex r n A es c j ((k:Int)+1) _ lo hi (hr.mid hm1 oZl) (by omega) HGL.out (by omega) (by omega)).mono ?_
     rintro en w6 ⟨rfl,hm6⟩;have HS:=Lib.hid (rowL_succ j es ((k:Int)+1));generalize nextV es (j:Int) ((k:Int)+1)=t at HS ⊢;have HP:=Lib.hid (owns_mid hp hm6 oZl);have hsz:=(hmx.trans hm6).size;have hmx6:=hmx.trans hm6;clear hp p0 p1 p2 hm6 hnp;have hnp2:np≤1000:=by have:=HN.out;rw [rowL_len] at this;omega
     go_wp2_with (at_builtin;refine wpList_pushI rfl _ _ rfl wo.heap.size Ap np cp _ rfl HP.out t rfl (by omega) hsz ?_;intro A9 c9 w9 ho9 hm9)
     go_roundw
     case rel=>exact ⟨j+1,A9,c9,np+1,by omega,by go_num,rfl,Lib.hid (by rw [HS.out,List.length_append,HN.out];rfl),by rw [HS.out];exact ho9,hmx6.transNew hm9 (Or.inl (Nat.le_refl _))⟩
     case measure=>simp [intOf];omega
    ·obtain rfl:j=n:=by omega
     obtain rfl:j=np:=hnp.symm;have hout1:=owns_mid hout hmx oZl;have hrows1:=hrows.mid hmx oZl;have hsz:=hmx.size;have hpl:=hp;have HPL:=Lib.hid hpl;have HOU:=Lib.hid hout1;clear hpl hp hout1;go_wp2_with (at_builtin;refine wpList_push rfl _ _ 41 rfl (w.heap.size+1) 34 (.slice none 0 0) 1 24 undSSI infoSI rfl (by decide) _ _ _ rfl HOU.out 1 [.slice Ap j cp] rfl rfl ?c1 ?c2 ?c3 (by omega) ?next)
     case c1=>simp [Value.oneCell']
     case c2=>unfold maxLen;omega
     case c3=>omega
     case next =>
      intro v' w9 hown9 hgr9 _;have hm9:=Mid.of_grownRow HOU.out hgr9;obtain ⟨A9,c9,rfl, -, -⟩:=owns_shape hown9;have hrl:(rowL j es ((k:Int)+1)).length=j:=rowL_len _ _ _;have hpr:=hrows1.push (r:=⟨Ap,cp,rowL j es ((k:Int)+1)⟩) (base:=wo.heap.size) (hi':=wr.heap.size) (by simp only [Row.v,hrl];exact HPL.out) (Nat.le_refl _) (by omega) hsz (Nat.le_refl _) (by intro g hg;simp only [Row.v,hrl] at hg;exact (HPL.out.lt g hg).2);have hpr9:=(hpr.grown HOU.out (by decide) hgr9).wide (Nat.le_refl _) hm9.size (Nat.le_refl _);go_wp2_with fail;go_roundw
      case rel =>
       refine ⟨k+1,rows++[⟨Ap,cp,rowL j es ((k:Int)+1)⟩],A9,c9,by omega,by go_num,rfl,Lib.hid ?_,?_,hpr9,b1.mid hm9 (Or.inl (by omega)),hm1.transNew hm9 (Or.inl (by omega))⟩
       ·rw [rowsD_append,HD.out,actL_succ]
        rfl
       ·rw [rowsV_append]
        have:rowsV [⟨Ap,cp,rowL j es ((k:Int)+1)⟩]=[.slice Ap j cp]:=by simp [rowsV,Row.v,hrl]
        rw [this];exact hown9
      case measure=>simp [intOf];omega
  ·obtain rfl:k=r:=by omega
   have hal:(actL n es k).length=k:=actL_len _ _ _;have HAL:=Lib.hid hal;have hoss:=OSS.mk' hout hrows HD.out;have hs1:=b0.1;clear hal;go_wp2_with fail;go_ret;exact ⟨A1,c1,by rw [HAL.out];rfl,hoss.wide (Nat.le_succ _) (Nat.le_refl _) (Nat.le_refl _),hm⟩
theorem impl_ActionOf_no (r s:Int) (A:Option Addr) (es:List Ed) (c:Nat) (w:World) (lo hi:Nat) (hr:RG w lo hi A es) (hl:es.length≤1048576) (hcl:es.length≤c) (hf:¬ IsFin r s es) :
  Calls Tryz.prog 68 #[graV r s A es.length c] w fun e w'=>∃ A1 c1,e=.returned (.slice A1 0 c1)∧OSS w' w.heap.size w'.heap.size 34 3 A1 c1 []∧Mid 0 0 w w':=by
 have hm0:Mid 0 0 w ((w.alloc (.cells #[.int .i64 r,.int .i64 s,.slice A es.length c] 26)).alloc (.cells #[] 34)):=(Mid.alloc _ _).trans (Mid.alloc _ _);have O0:=owns_empty (w.alloc (.cells #[.int .i64 r,.int .i64 s,.slice A es.length c] 26)) 34 1;rw [World.size_alloc] at O0;have HF:=Lib.hid hf;clear hf;go_enter Tryz.func68,Tryz.ntmps68
 go_wp2_with fail;with_reducible refine (impl_IsFiniteIndex r s A es c _ _ _ (hr.mid hm0 oZl) hl hcl false (iff_of_false Bool.false_ne_true HF.out)).mono ?_
 rintro en w1 ⟨rfl,hm1⟩;replace O0:=owns_mid O0 hm1 oZl;replace hm0:=hm0.trans hm1;have hoss:=(OSS.mk' (tI:=3) (rows:=[]) (xss:=[]) O0 OwnRows.nil rfl).wide (lo':=w.heap.size) (Nat.le_succ _) (Nat.le_refl _) (Nat.le_refl _);go_wp2_with fail;go_ret;exact ⟨_,_,rfl,hoss,hm0⟩
theorem spec_ActionOf_no (r s:Int) (A:Option Addr) (es:List Ed) (c:Nat) (w:World) (lo hi:Nat) (hr:RG w lo hi A es) (hl:es.length≤1048576) (hf:¬ IsFin r s es) :
  Calls Tryz.prog 69 #[graV r s A es.length c] w fun e w'=>∃ A1 c1,e=.returned (.slice A1 0 c1)∧OSS w' w.heap.size w'.heap.size 34 3 A1 c1 []∧Mid 0 0 w w':=by
 have hm0:Mid 0 0 w ((w.alloc (.cells #[.int .i64 r,.int .i64 s,.slice A es.length c] 26)).alloc (.cells #[] 34)):=(Mid.alloc _ _).trans (Mid.alloc _ _);have b0:=(Box.new w #[.int .i64 r,.int .i64 s,.slice A es.length c] 26).mid (Mid.alloc _ (.cells #[] 34)) oZr;have O0:=owns_empty (w.alloc (.cells #[.int .i64 r,.int .i64 s,.slice A es.length c] 26)) 34 1;rw [World.size_alloc] at O0;have HF:=Lib.hid hf;clear hf;go_enter Tryz.func69,Tryz.ntmps69
 go_wp2_with fail;go_loopw [3,4] (fun out x wr=>out=.slice (some ⟨w.heap.size+1,0,none⟩) 0 0∧x=.int .i64 1∧wr.ownsRow (w.heap.size+1) 34 1 (.slice (some ⟨w.heap.size+1,0,none⟩) 0 0) 0 []∧Box wr w.heap.size [.int .i64 r,.int .i64 s,.slice A es.length c]∧Mid 0 0 w wr) (fun _ _ _=>0)
 case atStart=>exact ⟨rfl,rfl,O0,b0,hm0⟩
 case round =>
  clear O0 b0 hm0;obtain ⟨rfl,rfl,O0,b0,hm0⟩:=hrel;have p0:=b0.cell 0 rfl;have p1:=b0.cell 1 rfl;have p2:=b0.cell 2 rfl;by_cases h1:1≤r
  ·have d1:decide (1≤r)=true:=by simpa using h1
   go_wp2_with fail;with_reducible refine (spec_IsFiniteIndex r s A es c _ _ _ (hr.mid hm0 oZl) hl false (iff_of_false Bool.false_ne_true HF.out)).mono ?_
   rintro en w1 ⟨rfl,hm1⟩;replace O0:=owns_mid O0 hm1 oZl;replace hm0:=hm0.trans hm1;have hoss:=(OSS.mk' (tI:=3) (rows:=[]) (xss:=[]) O0 OwnRows.nil rfl).wide (lo':=w.heap.size) (Nat.le_succ _) (Nat.le_refl _) (Nat.le_refl _);go_wp2_with fail;go_ret;exact ⟨_,_,rfl,hoss,hm0⟩
  ·have d1:decide (1≤r)=false:=by simpa using h1
   have hoss:=(OSS.mk' (tI:=3) (rows:=[]) (xss:=[]) O0 OwnRows.nil rfl).wide (lo':=w.heap.size) (Nat.le_succ _) (Nat.le_refl _) (Nat.le_refl _);go_wp2_with fail;go_ret;exact ⟨_,_,rfl,hoss,hm0⟩
open Classical in
noncomputable def actI (r s:Int) (es:List Ed):List (List Int):=if IsFin r s es then actL s.toNat es r.toNat else []
def ActionOfIs (r0 s0:Int) (d0:List Ed) (res0:List (List Int)):Prop:=res0=actI r0 s0 d0
theorem ActionOfIs_ex (r0 s0:Int) (d0:List Ed) (hl0:d0.length≤1048576):∃ res0,ActionOfIs r0 s0 d0 res0:=⟨_,rfl⟩
theorem ActionOfIs_len {r0 s0:Int} {d0:List Ed} {res0:List (List Int)} (h:ActionOfIs r0 s0 d0 res0) (hl0:d0.length≤1048576):res0.length+sumL res0≤1048576:=by
 obtain rfl:res0=_:=h;unfold actI;split
 ·rename_i h
  have h1:=h.cor.gr.rank;have h2:=h.cor.gr.size;have h3:=actL_sum s0.toNat d0 r0.toNat;have h4:r0.toNat * s0.toNat≤3 * 40:=Nat.mul_le_mul (by omega) (by omega);rw [actL_len];omega
 ·simp [sumL]
theorem sspec_ActionOf (r0 s0:Int) (A0:Option Addr) (d0:List Ed) (c0:Nat) (w:World) (lo0 hi0:Nat) (h0:OG w lo0 hi0 A0 c0 d0) (hl0:d0.length≤1048576) (res0:List (List Int)) (h:ActionOfIs r0 s0 d0 res0) :
  Calls Tryz.prog 69 #[.agg #[.int .i64 r0,.int .i64 s0,.slice A0 d0.length c0]] w fun e w'=>∃ (A:Option Addr) (c:Nat),e=.returned (.slice A res0.length c)∧OSS w' w.heap.size w'.heap.size 34 3 A c res0∧Mid 0 0 w w':=by
 obtain rfl:res0=_:=h;unfold actI;split
 ·rename_i h
  obtain ⟨r,n,rfl,rfl⟩:=h.cor.gr.nat;exact spec_ActionOf_fin r n A0 d0 c0 w lo0 hi0 h0.rg h
 ·rename_i h
  exact spec_ActionOf_no r0 s0 A0 d0 c0 w lo0 hi0 h0.rg hl0 h
theorem simpl_ActionOf (r0 s0:Int) (A0:Option Addr) (d0:List Ed) (c0:Nat) (w:World) (lo0 hi0:Nat) (h0:OG w lo0 hi0 A0 c0 d0) (hl0:d0.length≤1048576) (res0:List (List Int)) (h:ActionOfIs r0 s0 d0 res0) :
  Calls Tryz.prog 68 #[.agg #[.int .i64 r0,.int .i64 s0,.slice A0 d0.length c0]] w fun e w'=>∃ (A:Option Addr) (c:Nat),e=.returned (.slice A res0.length c)∧OSS w' w.heap.size w'.heap.size 34 3 A c res0∧Mid 0 0 w w':=by
 obtain rfl:res0=_:=h;unfold actI;split
 ·rename_i h
  obtain ⟨r,n,rfl,rfl⟩:=h.cor.gr.nat;exact impl_ActionOf_fin r n A0 d0 c0 w lo0 hi0 h0.rg h0.cnt.1 h
 ·rename_i h
  exact impl_ActionOf_no r0 s0 A0 d0 c0 w lo0 hi0 h0.rg hl0 h0.cnt.1 h
end
end Go.Proofs.YthampgpcajmopaaGreat
