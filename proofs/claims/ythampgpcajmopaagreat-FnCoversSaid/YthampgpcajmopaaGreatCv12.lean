/- Contracts and lemmas of this seat, many texts in one: see the words ahead of each. No condition beyond those typed in each lemma. -/
import Derived.Test.YthampgpcajmopaaGreatCv11
import Derived.Test.YthampgpcajmopaaGreatCv7
import Derived.Test.YthampgpcajmopaaGreatCv9
import Derived.Test.YthampgpcajmopaaGreatCv4
import Derived.Test.YthampgpcajmopaaGreatCv6
import Derived.Test.YthampgpcajmopaaGreatCv2
import Derived.Test.YthampgpcajmopaaGreatCv5
import Derived.Test.YthampgpcajmopaaGreatCv3
import Derived.Test.YthampgpcajmopaaGreatCv10

namespace Go.Proofs.YthampgpcajmopaaGreat
set_option linter.unusedVariables false
set_option linter.unusedSimpArgs false
set_option maxHeartbeats 40000000
set_option maxRecDepth 100000
section
open Go.RowKit
theorem CoverIs.lens {r s:Int} {es:List Ed} {rr rs:Int} {res:List Ed} {b:Bool} (h:CoverIs r s es rr rs res b):res.length≤120:=by
 rcases h with ⟨-,h, -, -,rfl⟩ | ⟨-, -, -, -,rfl⟩
 ·exact (coreA_gr (g:=(s,canon (es++addLs s es r.toNat))) (complete_gr h.fol)).len
 ·simp
noncomputable def dropI (r s:Int) (es:List Ed) (r' s':Int) (es':List Ed) (rr rs:Int) (res:List Ed) (b:Bool):Int:=if b=true then rankI r s es+rankI r' s' es' - rankI rr rs res else -1
noncomputable def extraI (r s:Int) (es:List Ed) (rr rs:Int) (res:List Ed) (b:Bool):Int:=if b=true then rankI rr rs res - rankI r s es else -1
theorem spec_ExtraRank (r s:Int) (A:Option Addr) (es:List Ed) (c:Nat) (w:World) (lo hi:Nat) (hr:RG w lo hi A es) (hl:es.length≤1048576) (rr rs:Int) (res:List Ed) (b:Bool) (hres:CoverIs r s es rr rs res b) :
  Calls Tryz.prog 49 #[graV r s A es.length c] w fun e w'=>e=.returned (.int .i64 (extraI r s es rr rs res b))∧Mid 0 0 w w':=by
 have hm0:Mid 0 0 w (w.alloc (.cells #[.int .i64 r,.int .i64 s,.slice A es.length c] 26)):=Mid.alloc _ _;have b0:=Box.new w #[.int .i64 r,.int .i64 s,.slice A es.length c] 26;have hl2:=hres.lens;have hl3:res.length≤1048576:=by omega
 obtain ⟨k1,k2⟩:=rankI_bnd (r:=r) (s:=s) hl;obtain ⟨k5,k6⟩:=rankI_bnd (r:=rr) (s:=rs) hl3;have HR:=Lib.hid hres;have hJ:=fun W hh=>spec_CoverOf r s A es c W lo hi hh hl rr rs res b HR.out;have h1:=fun W hh=>spec_RankOf r s A es c W lo hi hh hl;have h3:=fun A c W lo hi hh=>spec_RankOf rr rs A res c W lo hi hh hl3;have hdr:extraI r s es rr rs res b=if b=true then rankI rr rs res - rankI r s es else -1:=rfl
 generalize extraI r s es rr rs res b=dd at hdr ⊢;generalize rankI r s es=x1 at k1 k2 h1 hdr;generalize rankI rr rs res=x3 at k5 k6 h3 hdr;have HJ:=Lib.hid hJ;have H1:=Lib.hid h1;have H3:=Lib.hid h3;have HD:=Lib.hid hdr;clear hJ h1 h3 hdr hres HR;go_enter Tryz.func49,Tryz.ntmps49
 go_wp2_with fail;generalize (w.alloc (.cells #[.int .i64 r,.int .i64 s,.slice A es.length c] 26))=w1 at hm0 b0 ⊢;with_reducible refine (HJ.out w1 (hr.mid hm0 oZl)).mono ?_
 rintro en w2 ⟨A2,c2,rfl,ho2,hm2⟩;have hcl2:=ho2.cnt.1;have ha2:=Mid.alloc w2 (.cells #[.int .i64 rr,.int .i64 rs,.slice A2 res.length c2] 26);have Y2:=Box.new w2 #[.int .i64 rr,.int .i64 rs,.slice A2 res.length c2] 26;replace b0:=b0.mid hm2 oZr;replace hm0:=hm0.trans hm2;replace b0:=b0.mid ha2 oZr;replace ho2:=ho2.mid ha2 oZl;replace hm0:=hm0.trans ha2;clear hm2 HJ;cases b with
 | false =>
  go_wp2_with fail;go_ret;exact ⟨by rw [HD.out];rfl,hm0⟩
 | true =>
  have hdd:dd=x3 - x1:=by rw [HD.out];rfl
  subst hdd;have hw2:IntKind.i64.wrap (x3 - x1)=x3 - x1:=IntWalk.i64_in _ (by omega);go_wp2_with fail;generalize w2.alloc (.cells #[.int .i64 rr,.int .i64 rs,.slice A2 res.length c2] 26)=w3 at hm0 b0 ho2 Y2 ha2 ⊢;have u0:=wg_cell b0.1 (b0.cell 0 rfl);have u1:=wg_cell b0.1 (b0.cell 1 rfl);have u2:=wg_cell b0.1 (b0.cell 2 rfl);have y0:=wg_cell Y2.1 (Y2.cell 0 rfl);have y1:=wg_cell Y2.1 (Y2.cell 1 rfl);have y2:=wg_cell Y2.1 (Y2.cell 2 rfl);have hA1:=fun m os=>H1.out (wg w3 m os) (hr.mid (hm0.trans (Mid.ofWg w3 m os)) oZl);have hA3:=fun m os=>H3.out A2 c2 (wg w3 m os) _ _ (ho2.rg.mid (Mid.ofWg w3 m os) oZl);refine wp_region_quiet_wg (by kernel_rfl) (by kernel_rfl) ?_;repeat
   (with_reducible refine wpQuiet_step (fun K hK=>?_))
   go_simp
   first
    | ((with_reducible refine hK _ ?_);clear hK K)
    | (rw [if_neg (by decide)];(with_reducible refine hK _ ?_);clear hK K)
    | (apply Exists.intro;refine ⟨fun _=>?_,hK _ ?_⟩;((first | (go_at_call 19;with_reducible exact Calls.wg_of (hA1 _ _)) | (go_at_call 19;with_reducible exact Calls.wg_of (hA3 _ _))));clear hK K)
  with_reducible refine wpQuiet_nil ?_
  intro _ hw';obtain ⟨⟨nq,osq⟩,hw''⟩:=hw';subst hw'';go_wp2_with fail;go_ret;exact ⟨by first | rfl | (rw [hw2]) | (congr 1),hm0.trans (Mid.ofWg w3 nq osq)⟩
theorem impl_ExtraRank (r s:Int) (A:Option Addr) (es:List Ed) (c:Nat) (w:World) (lo hi:Nat) (hr:RG w lo hi A es) (hl:es.length≤1048576) (hcl:es.length≤c) (rr rs:Int) (res:List Ed) (b:Bool) (hres:CoverIs r s es rr rs res b) :
  Calls Tryz.prog 48 #[graV r s A es.length c] w fun e w'=>e=.returned (.int .i64 (extraI r s es rr rs res b))∧Mid 0 0 w w':=by
 have hm0:Mid 0 0 w (w.alloc (.cells #[.int .i64 r,.int .i64 s,.slice A es.length c] 26)):=Mid.alloc _ _;have b0:=Box.new w #[.int .i64 r,.int .i64 s,.slice A es.length c] 26;have hl2:=hres.lens;have hl3:res.length≤1048576:=by omega
 obtain ⟨k1,k2⟩:=rankI_bnd (r:=r) (s:=s) hl;obtain ⟨k5,k6⟩:=rankI_bnd (r:=rr) (s:=rs) hl3;have HR:=Lib.hid hres;have hJ:=fun W hh=>impl_CoverOf r s A es c W lo hi hh hl hcl rr rs res b HR.out;have h1:=fun W hh=>impl_RankOf r s A es c W lo hi hh hl hcl;have h3:=fun A c W lo hi hh hc=>impl_RankOf rr rs A res c W lo hi hh hl3 hc;have hdr:extraI r s es rr rs res b=if b=true then rankI rr rs res - rankI r s es else -1:=rfl
 generalize extraI r s es rr rs res b=dd at hdr ⊢;generalize rankI r s es=x1 at k1 k2 h1 hdr;generalize rankI rr rs res=x3 at k5 k6 h3 hdr;have HJ:=Lib.hid hJ;have H1:=Lib.hid h1;have H3:=Lib.hid h3;have HD:=Lib.hid hdr;clear hJ h1 h3 hdr hres HR;go_enter Tryz.func48,Tryz.ntmps48
 go_wp2_with fail;generalize (w.alloc (.cells #[.int .i64 r,.int .i64 s,.slice A es.length c] 26))=w1 at hm0 b0 ⊢;with_reducible refine (HJ.out w1 (hr.mid hm0 oZl)).mono ?_
 rintro en w2 ⟨A2,c2,rfl,ho2,hm2⟩;have hcl2:=ho2.cnt.1;have ha2:=Mid.alloc w2 (.cells #[.int .i64 rr,.int .i64 rs,.slice A2 res.length c2] 26);have Y2:=Box.new w2 #[.int .i64 rr,.int .i64 rs,.slice A2 res.length c2] 26;replace b0:=b0.mid hm2 oZr;replace hm0:=hm0.trans hm2;replace b0:=b0.mid ha2 oZr;replace ho2:=ho2.mid ha2 oZl;replace hm0:=hm0.trans ha2;clear hm2 HJ;cases b with
 | false =>
  go_wp2_with fail;go_ret;exact ⟨by rw [HD.out];rfl,hm0⟩
 | true =>
  have hdd:dd=x3 - x1:=by rw [HD.out];rfl
  subst hdd;have hw2:IntKind.i64.wrap (x3 - x1)=x3 - x1:=IntWalk.i64_in _ (by omega);go_wp2_with fail;generalize w2.alloc (.cells #[.int .i64 rr,.int .i64 rs,.slice A2 res.length c2] 26)=w3 at hm0 b0 ho2 Y2 ha2 ⊢;have u0:=wg_cell b0.1 (b0.cell 0 rfl);have u1:=wg_cell b0.1 (b0.cell 1 rfl);have u2:=wg_cell b0.1 (b0.cell 2 rfl);have y0:=wg_cell Y2.1 (Y2.cell 0 rfl);have y1:=wg_cell Y2.1 (Y2.cell 1 rfl);have y2:=wg_cell Y2.1 (Y2.cell 2 rfl);have hA1:=fun m os=>H1.out (wg w3 m os) (hr.mid (hm0.trans (Mid.ofWg w3 m os)) oZl);have hA3:=fun m os=>H3.out A2 c2 (wg w3 m os) _ _ (ho2.rg.mid (Mid.ofWg w3 m os) oZl) hcl2;refine wp_region_quiet_wg (by kernel_rfl) (by kernel_rfl) ?_;repeat
   (with_reducible refine wpQuiet_step (fun K hK=>?_))
   go_simp
   first
    | ((with_reducible refine hK _ ?_);clear hK K)
    | (rw [if_neg (by decide)];(with_reducible refine hK _ ?_);clear hK K)
    | (apply Exists.intro;refine ⟨fun _=>?_,hK _ ?_⟩;((first | (go_at_call 18;with_reducible exact Calls.wg_of (hA1 _ _)) | (go_at_call 18;with_reducible exact Calls.wg_of (hA3 _ _))));clear hK K)
  with_reducible refine wpQuiet_nil ?_
  intro _ hw';obtain ⟨⟨nq,osq⟩,hw''⟩:=hw';subst hw'';go_wp2_with fail;go_ret;exact ⟨by first | rfl | (rw [hw2]) | (congr 1),hm0.trans (Mid.ofWg w3 nq osq)⟩
end
section
theorem sp_app {es fs:List Ed} {a y b:Int}:Sp (es++fs) a y b↔Sp es a y b ∨ Sp fs a y b:=by
 unfold Sp;simp only [List.mem_append];constructor
 ·rintro (⟨h,h1 | h1⟩ | ⟨h,h1 | h1⟩)
  ·exact .inl (.inl ⟨h,h1⟩)
  ·exact .inr (.inl ⟨h,h1⟩)
  ·exact .inl (.inr ⟨h,h1⟩)
  ·exact .inr (.inr ⟨h,h1⟩)
 ·rintro ((⟨h,h1⟩ | ⟨h,h1⟩) | (⟨h,h1⟩ | ⟨h,h1⟩))
  ·exact .inl ⟨h,.inl h1⟩
  ·exact .inr ⟨h,.inl h1⟩
  ·exact .inl ⟨h,.inr h1⟩
  ·exact .inr ⟨h,.inr h1⟩
theorem pa_canon {es:List Ed} {w:List Int} {a b:Int}:Pa (canon es) a w b↔Pa es a w b:=⟨Pa.mono fun e he=>mem_canon.1 he,Pa.mono fun e he=>mem_canon.2 he⟩
theorem sp_single {u x v a y b:Int} (hx:x≠0):Sp [stepE u x v] a y b↔(a=u∧y=x∧b=v) ∨ (a=v∧y = -x∧b=u):=by
 rw [sp_stepE,List.mem_singleton];constructor
 ·rintro ⟨h1,h2⟩
  rcases stepE_inj h1 hx h2 with ⟨e1,e2,e3⟩ | ⟨e1,e2,e3⟩
  ·exact .inl ⟨e1,e2,e3⟩
  ·exact .inr ⟨e1,e2,e3⟩
 ·rintro (⟨rfl,rfl,rfl⟩ | ⟨rfl,rfl,rfl⟩)
  ·exact ⟨hx,rfl⟩
  ·refine ⟨by omega,?_⟩
   unfold stepE;by_cases h:x < 0
   ·rw [if_neg (by omega),if_pos h]
   ·rw [if_pos (by omega),if_neg h,Int.neg_neg]
section
variable {r s:Int} {es:List Ed} {u:Int} {w:List Int}
theorem path_sp (hw:∀ x∈w,x≠0) {k:Nat} (hk:k≤w.length) {a y b:Int}:Sp (pathE u (s+1) w s k) a y b→∃ i,i < k∧((a=pathV u (s+1) w.length s i∧b=pathV u (s+1) w.length s (i+1)) ∨ (a=pathV u (s+1) w.length s (i+1)∧b=pathV u (s+1) w.length s i)):=by
 induction k with
 | zero =>
  intro h;unfold pathE at h;rcases h with ⟨_,h⟩ | ⟨_,h⟩ <;> cases h
 | succ k ih =>
  intro h;obtain ⟨x,hx⟩:∃ x,w[k]?=some x:=⟨_,List.getElem?_eq_getElem (by omega)⟩
  rw [pathE_succ hx] at h;rcases sp_app.1 h with h | h
  ·obtain ⟨i,hi,h⟩:=ih (by omega) h
   exact ⟨i,by omega,h⟩
  ·rcases (sp_single (hw x (List.mem_of_getElem? hx))).1 h with ⟨h1, -,h3⟩ | ⟨h1, -,h3⟩
   ·exact ⟨k,by omega,.inl ⟨h1,h3⟩⟩
   ·exact ⟨k,by omega,.inr ⟨h1,h3⟩⟩
theorem path_read (hw:∀ x∈w,x≠0):∀ k,k≤w.length→Pa (pathE u (s+1) w s w.length) u (w.take k) (pathV u (s+1) w.length s k):=by
 intro k
 induction k with
 | zero =>
  intro _
  show u=_
  simp [pathV]
 | succ k ih =>
  intro hk;obtain ⟨x,hx⟩:∃ x,w[k]?=some x:=⟨_,List.getElem?_eq_getElem (by omega)⟩
  rw [take_snocL hx];refine (ih (by omega)).snoc (sp_stepE.2 ⟨hw x (List.mem_of_getElem? hx),?_⟩);unfold pathE;refine List.mem_map.2 ⟨k,List.mem_range.2 hk,?_⟩;rw [List.getD_eq_getElem?_getD,hx]
  rfl
theorem path_loop (hg:∀ e∈es,InG r s e) (hu:0≤u∧u < s) (hw:∀ x∈w,x≠0):∀ k,k≤w.length→∀ {v:List Int} {a b:Int},Rd v→Pa (es++pathE u (s+1) w s k) a v b→a < s→b < s→Pa es a v b:=by
 intro k
 induction k with
 | zero =>
  intro _ v a b _ h _ _;refine h.mono fun e he=>?_;rcases List.mem_append.1 he with he | he
  ·exact he
  ·unfold pathE at he
   cases he
 | succ k ih =>
  intro hk v a b hr h ha hb;obtain ⟨x,hx⟩:∃ x,w[k]?=some x:=⟨_,List.getElem?_eq_getElem (by omega)⟩
  have hx0:=hw x (List.mem_of_getElem? hx);have hz:=pathV_new (u:=u) (s:=s) (n:=w.length) (i:=k+1) (by omega);have hinj:∀ i,i≤k→pathV u (s+1) w.length s i≠pathV u (s+1) w.length s (k+1):=fun i hi e=>by
   have:=pathV_inj hu.2 (by omega) hk e;omega
  refine ih (by omega) hr (pend_loop (u:=pathV u (s+1) w.length s k) (x:=x) (z:=pathV u (s+1) w.length s (k+1)) (fs:=es++pathE u (s+1) w s (k+1)) ?_ ?_ (fun e=>hinj k (Nat.le_refl _) e.symm) hr h (by omega) (by omega)) ha hb
  ·intro a y b h
   rw [pathE_succ hx,← List.append_assoc] at h;rcases sp_app.1 h with h | h
   ·exact .inl h
   ·exact .inr ((sp_single hx0).1 h)
  ·intro a y
   constructor
   ·intro h
    rcases sp_app.1 h with h | h
    ·have:=(h.rng hg).2.1
     omega
    ·obtain ⟨i,hi,⟨-,h2⟩ | ⟨-,h2⟩⟩:=path_sp hw (by omega) h
     ·exact hinj (i+1) (by omega) h2.symm
     ·exact hinj i (by omega) h2.symm
   ·intro h
    rcases sp_app.1 h with h | h
    ·have:=(h.rng hg).1
     omega
    ·obtain ⟨i,hi,⟨h2, -⟩ | ⟨h2, -⟩⟩:=path_sp hw (by omega) h
     ·exact hinj i (by omega) h2.symm
     ·exact hinj (i+1) (by omega) h2.symm
end
structure ExtFacts (r s:Int) (es:List Ed) (w:List Int) (s2:Int) (es2:List Ed) (x:Int):Prop where
 sub:∀ e∈es,e∈es2
 read:Pa es2 0 w x
 rch:Rch s es→Rch s2 es2
 lang:∀ u,LtW u→(InS es2 u↔InS es u)
 end':x=0→Pa es 0 w 0
 size:s≤s2
theorem ExtIs.facts {r s:Int} {es:List Ed} {w:List Int} {s2:Int} {es2:List Ed} {x:Int} (h:ExtIs r s es w true s2 es2 x) (hf:IsFol r s es):ExtFacts r s es w s2 es2 x:=by
 rcases h with ⟨-,h1,rfl,rfl,rfl⟩ | ⟨-,h1,h2,h3,rfl,rfl,rfl⟩ | ⟨h, -⟩
 ·have hp:=rdA_pa (es:=es2) (u:=0) h1
  exact ⟨fun e he=>he,hp,fun h=>h,fun u _=>Iff.rfl,fun e=>by rw [e] at hp;exact hp,Int.le_refl _⟩
 ·have hs:=hf.gr.size
  have hu:=rdA_in hf.gr.all w (v:=0) (by omega);have hrd:Pa es 0 (w.take (rdA es 0 w).2) (rdA es 0 w).1:=by
   have key:∀ (w:List Int) (v:Int),Pa es v (w.take (rdA es v w).2) (rdA es v w).1:=by
    intro w
    induction w with
    | nil=>intro v;rfl
    | cons y t ih =>
     intro v;rw [rdA];by_cases hn:nextV es v y < 0
     ·rw [if_pos hn];rfl
     ·rw [if_neg hn]
      exact ⟨_,sp_nextV (by omega),ih _⟩
   exact key w 0
  have hw:∀ y∈w.drop (rdA es 0 w).2,y≠0:=fun y hy=>(h3.word.2.2.2.1 y hy).1;generalize hn:(rdA es 0 w).2=n at *;generalize (rdA es 0 w).1=u at *;have hread:=path_read (u:=u) (s:=x) (w:=w.drop n) hw (w.drop n).length (Nat.le_refl _);have hpos:0 < (w.drop n).length:=by rw [List.length_drop];omega
  rw [List.take_length] at hread;have hend:pathV u (x+1) (w.drop n).length x (w.drop n).length=x:=by
   unfold pathV;rw [if_neg (by omega),if_neg (by omega)]
  rw [hend] at hread;refine ⟨fun e he=>mem_canon.2 (List.mem_append_left _ he),?_,?_,?_,fun e=>by omega,by omega⟩
  ·have:=(hrd.mono (fs:=es++pathE u (x+1) (w.drop n) x (w.drop n).length) fun e he=>List.mem_append_left _ he).app (hread.mono fun e he=>List.mem_append_right _ he)
   rw [List.take_append_drop] at this;exact pa_canon.2 this
  ·intro hr v h0 hv
   rcases Int.lt_or_le v x with hlt | hge
   ·obtain ⟨q,hq⟩:=hr v h0 hlt
    exact ⟨q,pa_canon.2 (hq.mono fun e he=>List.mem_append_left _ he)⟩
   ·obtain ⟨i,hi,hiv⟩:∃ i,i≤(w.drop n).length∧pathV u (x+1) (w.drop n).length x i=v:=by
     by_cases hx:v=x
     ·exact ⟨_,Nat.le_refl _,by rw [hend,hx]⟩
     ·refine ⟨(v - x).toNat,by omega,?_⟩
      unfold pathV;rw [if_neg (by omega),if_pos (by omega)];omega
    have h4:=path_read (u:=u) (s:=x) (w:=w.drop n) hw i hi;rw [hiv] at h4;exact ⟨_,pa_canon.2 ((hrd.mono fun e he=>List.mem_append_left _ he).app (h4.mono fun e he=>List.mem_append_right _ he))⟩
  ·intro v lv
   unfold InS;rw [pa_canon];exact ⟨fun h=>path_loop hf.gr.all hu hw _ (Nat.le_refl _) (rd_red lv) h (by omega) (by omega),fun h=>h.mono fun e he=>List.mem_append_left _ he⟩
 ·cases h
theorem ExtsIs.facts {r:Int}:∀ {l:List (List Int)} {s:Int} {es:List Ed} {s2:Int} {es2:List Ed},ExtsIs r s es l true s2 es2→IsFol r s es→Rch s es→(∀ w∈l,LtW w∧Rd w∧¬ InS es w) →
  (∀ e∈es,e∈es2)∧Rch s2 es2∧(∀ u,LtW u→(InS es2 u↔InS es u))∧∀ w∈l,∃ x,x≠0∧Pa es2 0 w x
 | [],s,es,s2,es2,h,hf,hr,_=>by
  obtain ⟨-,rfl,rfl⟩:=h;exact ⟨fun e he=>he,hr,fun _ _=>Iff.rfl,by simp⟩
 | w :: t,s,es,s2,es2,h,hf,hr,hl=>by
  obtain ⟨b1,s1,es1,x,h1,⟨-,h2⟩ | ⟨rfl,h2⟩⟩:=h
  ·cases h2
  ·have f1:=h1.facts hf
   have hl1:∀ w'∈t,LtW w'∧Rd w'∧¬ InS es1 w':=fun w' hw'=>by
    obtain ⟨a,b,c⟩:=hl w' (List.mem_cons_of_mem _ hw');exact ⟨a,b,fun h=>c ((f1.lang w' a).1 h)⟩
   obtain ⟨g1,g2,g3,g4⟩:=h2.facts (h1.fol hf) (f1.rch hr) hl1;refine ⟨fun e he=>g1 e (f1.sub e he),g2,fun u lu=>(g3 u lu).trans (f1.lang u lu),fun w' hw'=>?_⟩;rcases List.mem_cons.1 hw' with rfl | hw'
   ·obtain ⟨a,b,c⟩:=hl w' List.mem_cons_self
    refine ⟨x,fun e=>c ?_,f1.read.mono g1⟩;exact InS.mk hf (f1.end' e)
   ·exact g4 w' hw'
end
section
open Go.RowKit
def WordsAt (w:World) (H B:Nat) (vals:List Value) (st:BS):Prop:=∀ p∈st,p.2≠[]→∃ b cw,vals[p.1.toNat]?=some (.slice (some ⟨b,0,none⟩) p.2.length cw)∧b < H∧b≠B∧b < w.heap.size∧∀ j u,(ints p.2)[j]?=some u→w.cell? ⟨b,j,none⟩=some u
theorem WordsAt.mid {w w':World} {H B:Nat} {vals:List Value} {st:BS} (h:WordsAt w H B vals st) (m:Mid 0 0 w w'):WordsAt w' H B vals st:=fun p hp hn=>by
 obtain ⟨b,cw,h1,h2,h3,h4,h5⟩:=h p hp hn;exact ⟨b,cw,h1,h2,h3,Nat.lt_of_lt_of_le h4 m.size,fun j u hu=>cell_keep m h4 oZr (h5 j u hu)⟩
theorem WordsAt.grown {w w':World} {H B:Nat} {vals:List Value} {st:BS} {row:Option Nat} (h:WordsAt w H B vals st) (hg:w.grownBy w' row) (hd:∀ g,row=some g→g=B ∨ H≤g):WordsAt w' H B vals st:=fun p hp hn=>by
 obtain ⟨b,cw,h1,h2,h3,h4,h5⟩:=h p hp hn;refine ⟨b,cw,h1,h2,h3,Nat.lt_of_lt_of_le h4 hg.size,fun j u hu=>(World.cell?_of_block (hg.block b h4 (fun e=>?_))).trans (h5 j u hu)⟩;rcases hd b e.symm with h0 | h0
 ·exact h3 h0
 ·omega
theorem TreeSt.wordsAt {w w1:World} {g n:Nat} {oB:Option Nat} {vals:List Value} {st:BS} {B:Nat} {e:TypeId} {size:Nat} {v:Value} (h:TreeSt w g oB n vals st) (hB:∀ j,w.cell? ⟨B,j,none⟩=none):WordsAt w w.heap.size B vals st:=fun p hp hn=>by
 obtain ⟨b,c,h1,h2,h3,h4,h5⟩:=h.on p hp;refine ⟨b,c,h1,h5,?_,h5,h2⟩;intro hb;subst hb;have hl:0 < p.2.length:=List.length_pos_iff.2 hn;have:=h2 0 (.int .i64 p.2[0]) (by rw [ints_get,List.getElem?_eq_getElem hl];rfl);rw [hB] at this;cases this
theorem ob_oneT {b g n c:Nat} (h:Value.ownBlock (.slice (some ⟨b,0,none⟩) n c)=some g):g=b:=(Option.some.inj (show some b=some g from h)).symm
theorem rv_get0 {w:World} {lo hi b j:Nat} {cs:List Value} {u:Value} (h:RV w lo hi (some ⟨b,0,none⟩) cs) (hu:cs[j]?=some u):w.cell? ⟨b,j,none⟩=some u:=by
 obtain ⟨b',off,e, -, -,hc⟩:=h.2 (by intro h0;subst h0;simp at hu);injection e with e
 injection e with e1 e2
 subst e1 e2;have:=hc j u hu;rw [Nat.zero_add] at this;exact this
theorem impl_treeEdges (r n:Nat) (A:Option Addr) (es:List Ed) (c:Nat) (w:World) (lo hi:Nat) (hr:RG w lo hi A es) (hf:IsFol r n es) :
  Calls Tryz.prog 212 #[graV r n A es.length c] w fun e w'=>∃ A1 c1,e=.returned (.slice A1 (canon (treeE es (bfs es (lets r) 0))).length c1)∧OG w' w.heap.size w'.heap.size A1 c1 (canon (treeE es (bfs es (lets r) 0)))∧Mid 0 0 w w':=by
 have hg:=hf.gr;have hn1:0 < n:=by have:=hg.size;omega
 have hn40:n≤40:=by have:=hg.size;omega
 have hl:=hg.len;have hgl:∀ e∈es,1≤e.l∧e.l≤3:=fun e he=>by have:=hg.all e he;have:=hg.rank;unfold InG at *;omega
 have hr3:r≤3:=by have:=hg.rank;omega
 have hbok:=bfs_ok (L:=lets r) (v:=0) hg.all (Int.le_refl _) (show (0:Int) < (n:Int) by omega);have hpar:=bfs_par es (lets r) 0;have hm0:Mid 0 0 w ((w.alloc (.cells #[.int .i64 r,.int .i64 n,.slice A es.length c] 26)).alloc (.cells #[] 68)):=(Mid.alloc _ _).trans (Mid.alloc _ _);have B0:=(Box.new w #[.int .i64 r,.int .i64 n,.slice A es.length c] 26).mid (Mid.alloc _ (.cells #[] 68)) oZr;have O0:=owns_empty (w.alloc (.cells #[.int .i64 r,.int .i64 n,.slice A es.length c] 26)) 68 3;have hB:∀ j,((w.alloc (.cells #[.int .i64 r,.int .i64 n,.slice A es.length c] 26)).alloc (.cells #[] 68)).cell? ⟨w.heap.size+1,j,none⟩=none:=fun j=>by
  have h:=World.cell?_alloc_new (w.alloc (.cells #[.int .i64 r,.int .i64 n,.slice A es.length c] 26)) #[] 68 j;rw [World.size_alloc] at h;rw [h]
  rfl
 simp only [World.size_alloc] at O0;have p0:=B0.cell 0 rfl;have p1:=B0.cell 1 rfl;have p2:=B0.cell 2 rfl;go_enter Tryz.func212,Tryz.ntmps212
 go_wp2_with fail;generalize (w.alloc (.cells #[.int .i64 r,.int .i64 n,.slice A es.length c] 26)).alloc (.cells #[] 68)=w1 at hm0 B0 O0 hB p0 p1 p2 ⊢;have hs1:w.heap.size+1 < w1.heap.size:=(O0.lt _ rfl).2;have hrg1:=hr.mid hm0 oZl;have hT:=impl_tree r n 0 A es c w1 lo hi hrg1 hg hn1;have h00:((0:Nat):Int)=0:=rfl;rw [h00] at hT;have hor:ordE r es 0=(bfs es (lets r) 0).map Prod.fst:=by unfold ordE;rw [Int.toNat_natCast]
 rw [hor] at hT;generalize hST:bfs es (lets r) 0=ST at hT hbok hpar ⊢;have HTL:=Lib.hid hT;have HSTE:=Lib.hid hST;clear hT h00 hor hST;with_reducible refine HTL.out.mono ?_
 rintro en w2 ⟨A1,c1,rfl,hm2,hord,vals,hval,hts⟩;have hlen:(ST.map Prod.fst).length=ST.length:=List.length_map ..;rw [hlen] at hord hts ⊢;have hM1:0 < ST.length:=List.length_pos_iff.2 hpar.ne;have hM40:ST.length≤n:=by have:=hbok.len (by omega);omega
 obtain ⟨m,hm⟩:∃ m,ST.length=m+1:=⟨ST.length - 1,by omega⟩
 have HM:=Lib.hid hm;rw [hm] at hord hts ⊢;obtain ⟨g1,rfl,hg11,hg12⟩:=owns_addr hord (Nat.succ_pos m);have hcap:=owns_cap hord;have hs2:=hm2.size;have hWD:=hts.wordsAt (w1:=w2) (e:=68) (size:=3) (v:=undef) (B:=w.heap.size+1) (fun j=>(World.cell?_of_block (hm2.block _ (by simpa using hs1) (by omega))).trans (hB j));have hRO:=(owns_rv hord).wide (lo':=w.heap.size+2) (hi':=w2.heap.size) (by omega) (Nat.le_refl _) (Nat.le_refl _);have hRV:=(owns_rv hval).wide (lo':=w.heap.size+2) (hi':=w2.heap.size) (by omega) (Nat.le_refl _) (Nat.le_refl _);clear p0 p1 p2 hord hval hts hlen hB HTL;replace B0:=B0.mid hm2 oZr;replace O0:=owns_mid O0 hm2 oZl;replace hm0:=hm0.trans hm2;have HO0:Hid (w2.ownsRow (w.heap.size+1) 68 3 (.slice (some ⟨w.heap.size+1,0,none⟩) 0 0) 0 (ints (edI ((treeE es ST).take 0)))):=Lib.hid O0;have HD0:Hid (∀ g,Value.ownBlock (.slice (some (⟨w.heap.size+1,0,none⟩:Addr)) 0 0)=some g→g=w.heap.size+1 ∨ w2.heap.size≤g):=Lib.hid (fun g hg=>.inl (ob_oneT hg));have HRO:=Lib.hid hRO;have HRV:=Lib.hid hRV;have HWD:=Lib.hid hWD;have hH2:w.heap.size+2≤w2.heap.size:=by omega
 clear O0 hRO hRV hWD hm2;generalize (some (⟨w.heap.size+1,0,none⟩:Addr))=A0 at HO0 HD0 ⊢;generalize hH:w2.heap.size=H2 at HRO HRV HWD HD0 hH2 hg12;generalize w1.heap.size+1=gv at HRV ⊢;have hsz2:H2≤w2.heap.size:=Nat.le_of_eq hH.symm;clear hH;by_cases hc1:c1=1
 ·subst hc1
  obtain rfl:m=0:=by omega
  have hT0:treeE es ST=[]:=by
   cases hST:ST with
   | nil=>rfl
   | cons p t =>
    have:=HM.out;rw [hST,List.length_cons] at this;have:t=[]:=List.eq_nil_of_length_eq_zero (by omega);subst this
    rfl
  have hnil:=HO0.out;rw [hT0] at hnil;have HT0:=Lib.hid hT0;clear hT0;go_wp2_with fail;go_loopw [3,20] (fun ov kv wr=>ov=.slice A0 0 0∧kv=.int .i64 0∧wr=w2) (fun _ _ _=>0)
  case atStart=>exact ⟨rfl,rfl,rfl⟩
  case round =>
   obtain ⟨rfl,rfl,rfl⟩:=hrel;have hrg:RG wr w.heap.size wr.heap.size A0 []:=(RV.wide (owns_rv hnil) (Nat.le_succ _) (Nat.le_refl _) (Nat.le_refl _))
   have HS:=Lib.hid (impl_sortedN A0 [] 0 0 wr _ _ rfl hrg (by omega));clear hrg hnil;go_wp2_with fail;with_reducible refine HS.out.mono ?_
   rintro en w5 ⟨A5,c5,rfl,hO5,hm5⟩;go_wp2_with fail;go_ret;rw [HSTE.out,HT0.out];exact ⟨A5,c5,rfl,hO5.wide hm0.size (Nat.le_refl _) (Nat.le_refl _),hm0.trans hm5⟩
 ·go_wp2_with fail
  go_loopw [3,20] (fun ov kv wr=>∃ (k:Nat) (A2:Option Addr) (c2:Nat),kv=.int .i64 k∧ov=.slice A2 k c2∧k≤m∧Hid (wr.ownsRow (w.heap.size+1) 68 3 (.slice A2 k c2) k (ints (edI ((treeE es ST).take k))))∧Hid (∀ g,Value.ownBlock (.slice A2 k c2)=some g→g=w.heap.size+1 ∨ H2≤g)∧Hid (RV wr (w.heap.size+2) H2 (some ⟨g1,0,none⟩) (ints (ST.map Prod.fst)))∧Hid (RV wr (w.heap.size+2) H2 (some ⟨gv,0,none⟩) vals)∧Hid (WordsAt wr H2 (w.heap.size+1) vals ST)∧Box wr w.heap.size [.int .i64 r,.int .i64 n,.slice A es.length c]∧H2≤wr.heap.size∧Mid 0 0 w wr) (fun _ kv _=>m - (intOf kv).toNat)
  case atStart=>exact ⟨0,A0,0,rfl,rfl,Nat.zero_le _,HO0,HD0,HRO,HRV,HWD,B0,hsz2,hm0⟩
  case round =>
   clear HO0 HD0 HRO HRV HWD B0 hsz2 hm0 hrg1;obtain ⟨wo,hwo⟩:∃ wo,wo=wr:=⟨_,rfl⟩
   subst hwo;obtain ⟨k,A2,c2,rfl,rfl,hk,HO,HD,HRO,HRV,HWD,B0,hsz,hm0⟩:=hrel;by_cases hlt:k < m
   ·obtain ⟨p,hp⟩:=get_of_lt ST (show k+1 < ST.length by rw [HM.out];omega)
    have hpm:=List.mem_of_getElem? hp;have hpt:p∈ST.tail:=by
     have h:ST.tail[k]?=some p:=by
      cases hST:ST with
      | nil=>rw [hST] at hp;simp at hp
      | cons a t=>rw [hST] at hp;simpa using hp
     exact List.mem_of_getElem? h
    have hed:(treeE es ST)[k]?=some (edgeOf es p):=by
     unfold treeE;cases hST:ST with
     | nil=>rw [hST] at hp;simp at hp
     | cons a t=>rw [hST] at hp;simp at hp;simp [hp]
    obtain ⟨p', -,x,hxL,hpe, -⟩:=hpar.par p hpt;have hx3:=mem_lets.1 hxL;have hp2:p.2=p'.2++[x]:=by rw [hpe]
    have hrng:=hbok.rng p hpm;obtain ⟨pv,hpv⟩:∃ n:Nat,p.1=n:=⟨p.1.toNat,by omega⟩
    obtain ⟨bw,cw,hvw,hbwH,hbwB,hbws,hcw⟩:=HWD.out p hpm (by rw [hp2];simp);obtain ⟨q,hq⟩:∃ q,p'.2.length=q:=⟨_,rfl⟩
    have hpl:p.2.length=q+1:=by rw [hp2,List.length_append,hq];rfl
    have hcx:=hcw q (.int .i64 x) (by rw [ints_get,hp2,List.getElem?_append_right (by omega),hq];simp);rw [hpv,Int.toNat_natCast,hpl] at hvw;have hcv:=rv_get0 HRV.out hvw;have hco:=rv_get0 HRO.out (show (ints (ST.map Prod.fst))[k+1]?=some (.int .i64 (pv:Int)) by rw [ints_get,List.getElem?_map,hp,← hpv];rfl);have heo:edgeOf es p=stepE (nextV es (pv:Int) (-x)) x (pv:Int):=by unfold edgeOf;rw [hp2,lastL_snoc,hpv]
    have hql:q≤100:=by
     have h1:=hbok.wl (k+1) p hp;have h2:=HM.out;omega
    have hwq:IntKind.i64.wrap (((q+1:Nat):Int) - 1)=(q:Int):=by rw [IntWalk.i64_in _ (by omega)];omega
    have hwn:IntKind.i64.wrap (-x) = -x:=IntWalk.i64_in _ (by omega);have hgvs:gv < wo.heap.size:=by obtain ⟨_,_,e, -,h, -⟩:=HRV.out.2 (by intro h0;rw [h0] at hvw;simp at hvw);injection e with e;injection e with e;have:=HRV.out.1;omega
    have hg1s:g1 < wo.heap.size:=by omega
    have hpvn:(pv:Int) < (n:Int):=by omega
    have hpv0:(0:Int)≤(pv:Int):=by omega
    have hk0:(0:Int)≤(k:Int):=by omega
    have hkm:(k:Int) < (m:Int):=by omega
    have hq0:(0:Int)≤(q:Int):=by omega
    have hqq:(q:Int) < (((q+1:Nat)):Int):=by omega
    rw [show k+1=1+k by omega] at hco;have HED:=Lib.hid hed;have HEO:=Lib.hid heo;have hNV:=impl_NextVertex r n A es c pv (-x) wo lo hi (hr.mid hm0 oZl) (by omega) hgl (by omega) (by omega);have hbb:w.heap.size < wo.heap.size:=B0.1;obtain ⟨u,hu⟩:∃ u,nextV es (pv:Int) (-x)=u:=⟨_,rfl⟩
    rw [hu] at hNV;have HNU:=Lib.hid hu;have z0:=B0.cell 0 rfl;have z1:=B0.cell 1 rfl;have z2:=B0.cell 2 rfl;clear hp hpm hpt hed hpe hp2 hpv hcw hvw hpl heo hq hu;go_wp2_with fail;with_reducible refine hNV.mono ?_
    rintro en w3 ⟨rfl,hm3⟩;have hST:=impl_step u x (pv:Int) w3 (by omega) (by omega);have HO3:=Lib.hid (owns_mid HO.out hm3 oZl);have HRO3:=Lib.hid (HRO.out.mid hm3 oZl);have HRV3:=Lib.hid (HRV.out.mid hm3 oZl);have HWD3:=Lib.hid (HWD.out.mid hm3);have B3:=B0.mid hm3 oZr;have hs3:=hm3.size;have hm03:=hm0.trans hm3;clear HO HRO HRV HWD B0 hm0 hm3 z0 z1 z2 hcx hcv hco hNV;go_wp2_with fail;with_reducible refine hST.mono ?_
    rintro en w4 ⟨rfl,hm4⟩;have HO4:=Lib.hid (owns_mid HO3.out hm4 oZl);have HRO4:=Lib.hid (HRO3.out.mid hm4 oZl);have HRV4:=Lib.hid (HRV3.out.mid hm4 oZl);have HWD4:=Lib.hid (HWD3.out.mid hm4);have B4:=B3.mid hm4 oZr;have hs4:=hm4.size;have hm04:=hm03.trans hm4;have HED2:Hid ((treeE es ST)[k]?=some (stepE u x (pv:Int))):=Lib.hid (by rw [HED.out,HEO.out,HNU.out]);clear HO3 HRO3 HRV3 HWD3 B3 hm03 hm4 hST HED HEO HNU;generalize stepE u x (pv:Int)=ed at HED2 ⊢;go_wp2_with (at_builtin;refine MarkerX.to ?_)
    unfold MarkerX;refine wpList_pushE2 rfl _ _ rfl (w.heap.size+1) A2 k c2 _ rfl HO4.out ed rfl (by omega) (by omega) ?_;intro A6 c6 w6 ho6 hgr6 hat6;have HO6:Hid (w6.ownsRow (w.heap.size+1) 68 3 (.slice A6 (k+1) c6) (k+1) (ints (edI ((treeE es ST).take (k+1))))):=Lib.hid (by
     obtain ⟨h1,h2⟩:=List.getElem?_eq_some_iff.1 HED2.out;rw [List.take_succ_eq_append_getElem h1,h2];exact ho6)
    have HRO6:=Lib.hid (HRO4.out.grown hgr6 (fun g hg=>by rcases HD.out g hg with h | h <;> omega));have HRV6:=Lib.hid (HRV4.out.grown hgr6 (fun g hg=>by rcases HD.out g hg with h | h <;> omega));have HWD6:=Lib.hid (HWD4.out.grown hgr6 HD.out);have B6:=B4.grown hgr6 (by intro h0;have:=HD.out _ h0;omega);have hm06:=hm04.grownNew hgr6 (fun g hg=>by have:=(HO4.out.lt g hg).1;omega);have hs6:=hgr6.size;have HD6:Hid (∀ g,Value.ownBlock (.slice A6 (k+1) c6)=some g→g=w.heap.size+1 ∨ H2≤g):=Lib.hid (by
     intro g hg;rcases hat6 with h | h
     ·exact HD.out g (h ▸ hg)
     ·rw [h] at hg
      injection hg with hg
      omega)
    clear ho6 hgr6 hat6 HO4 HRO4 HRV4 HWD4 B4 hm04 HD HED2;go_wp2_with fail;go_roundw
    case rel=>exact ⟨k+1,A6,c6,by go_num,rfl,by omega,HO6,HD6,HRO6,HRV6,HWD6,B6,by omega,hm06⟩
    case measure=>simp [intOf];omega
   ·obtain rfl:k=m:=by omega
    have htl:(treeE es ST).length=k:=by unfold treeE;rw [List.length_map,List.length_tail,HM.out];rfl
    have ho:=HO.out;rw [List.take_of_length_le (by omega)] at ho;have hrg:RG wo w.heap.size wo.heap.size A2 (treeE es ST):=(RV.wide (owns_rv ho) (Nat.le_succ _) (Nat.le_refl _) (Nat.le_refl _))
    have HS:=Lib.hid (impl_sortedN A2 (treeE es ST) k c2 wo _ _ htl hrg (by omega));clear hrg ho htl HO HD HRO HRV HWD B0;go_wp2_with fail;with_reducible refine HS.out.mono ?_
    rintro en w5 ⟨A5,c5,rfl,hO5,hm5⟩;go_wp2_with fail;go_ret;rw [HSTE.out];exact ⟨A5,c5,rfl,hO5.wide hm0.size (Nat.le_refl _) (Nat.le_refl _),hm0.trans hm5⟩
end
section
open Go.RowKit
def notIn (T es:List Ed):List Ed:=es.filter fun e=>decide (e ∉ T)
theorem notIn_take {T es:List Ed} {k:Nat} {e:Ed} (h:es[k]?=some e):notIn T (es.take (k+1))=notIn T (es.take k)++(if e ∉ T then [e] else []):=by
 obtain ⟨hk,h'⟩:=List.getElem?_eq_some_iff.1 h;unfold notIn;rw [List.take_succ_eq_append_getElem hk,h',List.filter_append];by_cases h2:e ∉ T
 ·simp [h2]
 ·simp [h2]
theorem notIn_canon (T es:List Ed):notIn (canon T) es=notIn T es:=by
 unfold notIn
 congr 1
 funext e
 rw [decide_eq_decide,mem_canon]
theorem notIn_len (T es:List Ed):(notIn T es).length≤es.length:=List.length_filter_le _ _
theorem impl_ExtraEdges (r n:Nat) (A:Option Addr) (es:List Ed) (c:Nat) (w:World) (lo hi:Nat) (hr:RG w lo hi A es) (hcl:es.length≤c) (hf:IsFol r n es) (T:List Ed) (hTl:T.length≤1000000)
  (hT:∀ W,RG W lo hi A es→Calls Tryz.prog 212 #[graV r n A es.length c] W fun e w'=>∃ A1 c1,e=.returned (.slice A1 (canon T).length c1)∧OG w' W.heap.size w'.heap.size A1 c1 (canon T)∧Mid 0 0 W w') :
  Calls Tryz.prog 179 #[graV r n A es.length c] w fun e w'=>∃ A1 c1,e=.returned (.slice A1 (notIn T es).length c1)∧OG w' w.heap.size w'.heap.size A1 c1 (notIn T es)∧Mid 0 0 w w':=by
 have hl:=hf.gr.len;have HF:=Lib.hid hf;have HT:=Lib.hid hT;clear hf hT;rw [← notIn_canon];have hcT:(canon T).length≤1048576:=by have:=putAll_len [] T;unfold canon;simp at this;omega
 obtain ⟨TT,hTT⟩:∃ TT,canon T=TT:=⟨_,rfl⟩
 rw [hTT] at HT hcT ⊢;clear hTT hTl;have hm0:Mid 0 0 w ((w.alloc (.cells #[.int .i64 r,.int .i64 n,.slice A es.length c] 26)).alloc (.cells #[] 68)):=(Mid.alloc _ _).trans (Mid.alloc _ _);have B0:=(Box.new w #[.int .i64 r,.int .i64 n,.slice A es.length c] 26).mid (Mid.alloc _ (.cells #[] 68)) oZr;have O0:=owns_empty (w.alloc (.cells #[.int .i64 r,.int .i64 n,.slice A es.length c] 26)) 68 3;simp only [World.size_alloc] at O0;have p0:=B0.cell 0 rfl;have p1:=B0.cell 1 rfl;have p2:=B0.cell 2 rfl;go_enter Tryz.func179,Tryz.ntmps179
 go_wp2_with fail;generalize (w.alloc (.cells #[.int .i64 r,.int .i64 n,.slice A es.length c] 26)).alloc (.cells #[] 68)=w1 at hm0 B0 O0 p0 p1 p2 ⊢;have hs1:w.heap.size+1 < w1.heap.size:=(O0.lt _ rfl).2;with_reducible refine (impl_IsFolded r n A es c w1 lo hi (hr.mid hm0 oZl) (by omega) hcl true (iff_of_true rfl HF.out)).mono ?_
 rintro en w2 ⟨rfl,hm2⟩;have hs2:=hm2.size;clear p0 p1 p2;replace B0:=B0.mid hm2 oZr;replace O0:=owns_mid O0 hm2 oZl;replace hm0:=hm0.trans hm2;have p0:=B0.cell 0 rfl;have p1:=B0.cell 1 rfl;have p2:=B0.cell 2 rfl;clear hm2;go_wp2_with fail;with_reducible refine (HT.out w2 (hr.mid hm0 oZl)).mono ?_
 rintro en w3 ⟨AT,cT,rfl,hOT,hm3⟩;have hs3:=hm3.size;clear p0 p1 p2 HT;replace B0:=B0.mid hm3 oZr;replace O0:=owns_mid O0 hm3 oZl;replace hm0:=hm0.trans hm3;have p0:=B0.cell 0 rfl;have p1:=B0.cell 1 rfl;have p2:=B0.cell 2 rfl;clear hm3;have hRT:=hOT.rg;have HRT:=Lib.hid hRT;have HO0:Hid (w3.ownsRow (w.heap.size+1) 68 3 (.slice (some ⟨w.heap.size+1,0,none⟩) 0 0) 0 (ints (edI (notIn TT (es.take 0))))):=Lib.hid O0;have HN0:Hid ((notIn TT (es.take 0)).length=0):=Lib.hid rfl;have HD0:Hid (∀ g,Value.ownBlock (.slice (some (⟨w.heap.size+1,0,none⟩:Addr)) 0 0)=some g→g=w.heap.size+1 ∨ w3.heap.size≤g):=Lib.hid (fun g hg=>.inl (by injection hg with hg;exact hg.symm));have hL2:w.heap.size+2≤w2.heap.size:=by omega
 clear hOT hRT O0;generalize (some (⟨w.heap.size+1,0,none⟩:Addr))=A0 at HO0 HD0 ⊢;generalize w2.heap.size=L2 at HRT hL2 hs3;generalize hH:w3.heap.size=H3 at HRT HD0 hs3;have hsz3:H3≤w3.heap.size:=Nat.le_of_eq hH.symm;clear hH hs2;go_wp2_with fail;clear p0 p1 p2 B0;go_loopw [3,17] (fun ov kv wr=>∃ (k n2:Nat) (A2:Option Addr) (c2:Nat),kv=.int .i64 k∧ov=.slice A2 n2 c2∧k≤es.length∧Hid ((notIn TT (es.take k)).length=n2)∧Hid (wr.ownsRow (w.heap.size+1) 68 3 (.slice A2 n2 c2) n2 (ints (edI (notIn TT (es.take k)))))∧Hid (∀ g,Value.ownBlock (.slice A2 n2 c2)=some g→g=w.heap.size+1 ∨ H3≤g)∧Hid (RG wr L2 H3 AT TT)∧H3≤wr.heap.size∧Mid 0 0 w wr) (fun _ kv _=>es.length - (intOf kv).toNat)
 case atStart=>exact ⟨0,0,A0,0,rfl,rfl,Nat.zero_le _,HN0,HO0,HD0,HRT,hsz3,hm0⟩
 case round =>
  clear HN0 HO0 HD0 HRT hsz3 hm0;obtain ⟨wo,hwo⟩:∃ wo,wo=wr:=⟨_,rfl⟩
  subst hwo;obtain ⟨k,n2,A2,c2,rfl,rfl,hk,HN,HO,HD,HRT,hsz,hm0⟩:=hrel;have hn2:n2≤120:=by have h1:=notIn_len TT (es.take k);have h2:=HN.out;rw [List.length_take] at h1;omega
  by_cases hlt:k < es.length
  ·obtain ⟨b,off,e,hA, -,hbh,he,c0,c1,c2'⟩:=(hr.mid hm0 oZl).ed hlt
   subst hA;have hbs:b < wo.heap.size:=Nat.lt_of_lt_of_le hbh (Nat.le_trans hr.1 hm0.size);have hk0:(0:Int)≤(k:Int):=by omega
   have hkm:(k:Int) < (es.length:Int):=by omega
   have hal:=Mid.alloc wo (.cells #[.int .i64 e.a,.int .i64 e.l,.int .i64 e.b] 68);have B1:=Box.new wo #[.int .i64 e.a,.int .i64 e.l,.int .i64 e.b] 68;have HO1:=Lib.hid (owns_mid HO.out hal oZl);have HRT1:=Lib.hid (HRT.out.mid hal oZl);have hm1:=hm0.trans hal;have HE:=Lib.hid he;have hsal:=hal.size;have q0:=B1.cell 0 rfl;have q1:=B1.cell 1 rfl;have q2:=B1.cell 2 rfl;clear HO HRT hm0 he;go_wp2_with fail;generalize wo.alloc (.cells #[.int .i64 e.a,.int .i64 e.l,.int .i64 e.b] 68)=w4 at hal B1 HO1 HRT1 hm1 q0 q1 q2 hsal ⊢;with_reducible refine (containsE AT TT cT e w4 _ _ HRT1.out hcT).mono ?_
   rintro en w5 ⟨rfl,hm5⟩;have HO5:=Lib.hid (owns_mid HO1.out hm5 oZl);have HRT5:=Lib.hid (HRT1.out.mid hm5 oZl);have B5:=B1.mid hm5 oZr;have hs5:=hm5.size;have hm6:=hm1.trans hm5;clear HO1 HRT1 B1 hm1 hm5 q0 q1 q2 hal;have q0:=B5.cell 0 rfl;have q1:=B5.cell 1 rfl;have q2:=B5.cell 2 rfl;by_cases hin:e∈TT
   ·have din:decide (e∈TT)=true:=by simpa using hin
    have HN2:Hid ((notIn TT (es.take (k+1))).length=n2):=Lib.hid (by rw [notIn_take HE.out,if_neg (by simpa using hin),List.append_nil];exact HN.out);have HO6:Hid (w5.ownsRow (w.heap.size+1) 68 3 (.slice A2 n2 c2) n2 (ints (edI (notIn TT (es.take (k+1)))))):=Lib.hid (by rw [notIn_take HE.out,if_neg (by simpa using hin),List.append_nil];exact HO5.out);clear HN HO5;go_wp2_with fail;go_roundw
    case rel=>exact ⟨k+1,n2,A2,c2,by go_num,rfl,by omega,HN2,HO6,HD,HRT5,by omega,hm6⟩
    case measure=>simp [intOf];omega
   ·have din:decide (e∈TT)=false:=by simpa using hin
    go_wp2_with (at_builtin;refine MarkerX.to ?_)
    unfold MarkerX;refine wpList_pushE2 rfl _ _ rfl (w.heap.size+1) A2 n2 c2 _ rfl HO5.out e rfl (by omega) (by omega) ?_;intro A6 c6 w6 ho6 hgr6 hat6;have HN2:Hid ((notIn TT (es.take (k+1))).length=n2+1):=Lib.hid (by rw [notIn_take HE.out,if_pos hin,List.length_append,HN.out];rfl);have HO6:Hid (w6.ownsRow (w.heap.size+1) 68 3 (.slice A6 (n2+1) c6) (n2+1) (ints (edI (notIn TT (es.take (k+1)))))):=Lib.hid (by rw [notIn_take HE.out,if_pos hin];exact ho6);have HRT6:=Lib.hid (RV.grown HRT5.out hgr6 (fun g hg=>by rcases HD.out g hg with h | h <;> omega));have hm7:=hm6.grownNew hgr6 (fun g hg=>by have:=(HO5.out.lt g hg).1;omega);have hs6:=hgr6.size;have HD6:Hid (∀ g,Value.ownBlock (.slice A6 (n2+1) c6)=some g→g=w.heap.size+1 ∨ H3≤g):=Lib.hid (by
     intro g hg;rcases hat6 with h | h
     ·exact HD.out g (h ▸ hg)
     ·rw [h] at hg
      injection hg with hg
      omega)
    clear ho6 hgr6 hat6 HN HO5 HRT5 B5 hm6 HD q0 q1 q2;go_wp2_with fail;go_roundw
    case rel=>exact ⟨k+1,n2+1,A6,c6,by go_num,rfl,by omega,HN2,HO6,HD6,HRT6,by omega,hm7⟩
    case measure=>simp [intOf];omega
  ·obtain rfl:k=es.length:=by omega
   have hN:=HN.out;have hO:=HO.out;rw [List.take_length] at hN hO;subst hN;have hOG:OG wo w.heap.size wo.heap.size A2 c2 (notIn TT es):=⟨Nat.le_refl _,owns_base hO (Nat.le_succ _),fun g hg=>(hO.lt g hg).2⟩
   have HOG:=Lib.hid hOG;clear hO HO hOG HRT HN HD;go_wp2_with fail;go_ret;exact ⟨A2,c2,rfl,HOG.out,hm0⟩
end
section
open Go.RowKit
def WordsR (w:World) (H B:Nat) (vals:List Value) (st:BS):Prop:=∀ p∈st,∃ Aw cw,vals[p.1.toNat]?=some (.slice Aw p.2.length cw)∧(p.2≠[]→∃ b,Aw=some ⟨b,0,none⟩∧b < H∧b≠B∧b < w.heap.size∧∀ j u,(ints p.2)[j]?=some u→w.cell? ⟨b,j,none⟩=some u)
theorem WordsR.mid {w w':World} {H B:Nat} {vals:List Value} {st:BS} (h:WordsR w H B vals st) (m:Mid 0 0 w w'):WordsR w' H B vals st:=fun p hp=>by
 obtain ⟨Aw,cw,h1,h2⟩:=h p hp;refine ⟨Aw,cw,h1,fun hn=>?_⟩;obtain ⟨b,hA,h3,h4,h5,h6⟩:=h2 hn;exact ⟨b,hA,h3,h4,Nat.lt_of_lt_of_le h5 m.size,fun j u hu=>cell_keep m h5 oZr (h6 j u hu)⟩
theorem WordsR.grown {w w':World} {H B:Nat} {vals:List Value} {st:BS} {row:Option Nat} (h:WordsR w H B vals st) (hg:w.grownBy w' row) (hd:∀ g,row=some g→g=B ∨ H≤g):WordsR w' H B vals st:=fun p hp=>by
 obtain ⟨Aw,cw,h1,h2⟩:=h p hp;refine ⟨Aw,cw,h1,fun hn=>?_⟩;obtain ⟨b,hA,h3,h4,h5,h6⟩:=h2 hn;refine ⟨b,hA,h3,h4,Nat.lt_of_lt_of_le h5 hg.size,fun j u hu=>(World.cell?_of_block (hg.block b h5 (fun e=>?_))).trans (h6 j u hu)⟩;rcases hd b e.symm with h0 | h0
 ·exact h4 h0
 ·omega
theorem TreeSt.wordsR {w:World} {g n:Nat} {oB:Option Nat} {vals:List Value} {st:BS} {B:Nat} (h:TreeSt w g oB n vals st) (hB:∀ j,w.cell? ⟨B,j,none⟩=none):WordsR w w.heap.size B vals st:=fun p hp=>by
 obtain ⟨b,c,h1,h2,h3,h4,h5⟩:=h.on p hp;refine ⟨_,c,h1,fun hn=>⟨b,rfl,h5,?_,h5,h2⟩⟩;intro hb;subst hb;have hl:0 < p.2.length:=List.length_pos_iff.2 hn;have:=h2 0 (.int .i64 p.2[0]) (by rw [ints_get,List.getElem?_eq_getElem hl];rfl);rw [hB] at this;cases this
theorem WordsR.rv {w:World} {H B:Nat} {vals:List Value} {st:BS} (h:WordsR w H B vals st) (hH:H≤w.heap.size) {p:Int × List Int} (hp:p∈st):∃ Aw cw,vals[p.1.toNat]?=some (.slice Aw p.2.length cw)∧RV w 0 H Aw (ints p.2):=by
 obtain ⟨Aw,cw,h1,h2⟩:=h p hp;refine ⟨Aw,cw,h1,hH,fun hn=>?_⟩;obtain ⟨b,hA,h3,h4,h5,h6⟩:=h2 (by intro h0;rw [h0] at hn;exact hn rfl);exact ⟨b,0,hA,Nat.zero_le _,h3,fun j u hu=>by rw [Nat.zero_add];exact h6 j u hu⟩
theorem ob_oneB {b g n c:Nat} (h:Value.ownBlock (.slice (some ⟨b,0,none⟩) n c)=some g):g=b:=(Option.some.inj (show some b=some g from h)).symm
theorem rv_get0' {w:World} {lo hi b j:Nat} {cs:List Value} {u:Value} (h:RV w lo hi (some ⟨b,0,none⟩) cs) (hu:cs[j]?=some u):b < hi∧w.cell? ⟨b,j,none⟩=some u:=by
 obtain ⟨b',off,e, -,h2,hc⟩:=h.2 (by intro h0;subst h0;simp at hu);injection e with e
 injection e with e1 e2
 subst e1 e2;have:=hc j u hu;rw [Nat.zero_add] at this;exact ⟨h2,this⟩
theorem rss_lit3 {w:World} (A1 A2 A3:Option Addr) (c1 c2 c3:Nat) (x1 x2 x3:List Int) (h1:Rs w w.heap.size A1 (ints x1)) (h2:Rs w w.heap.size A2 (ints x2)) (h3:Rs w w.heap.size A3 (ints x3)) :
  RSS (w.alloc (.cells #[.slice A1 x1.length c1,.slice A2 x2.length c2,.slice A3 x3.length c3] 34)) 0 (w.heap.size+1) (some ⟨w.heap.size,0,none⟩) [x1,x2,x3]:=by
 have hk:∀ {A:Option Addr} {x:List Int},Rs w w.heap.size A (ints x)→RV (w.alloc (.cells #[.slice A1 x1.length c1,.slice A2 x2.length c2,.slice A3 x3.length c3] 34)) 0 (w.heap.size+1) A (ints x):=fun h=>by
  refine ⟨by simp,fun hn=>?_⟩;obtain ⟨b,off,e,hb,hc⟩:=(h.alloc (Nat.le_refl _) (.cells #[.slice A1 x1.length c1,.slice A2 x2.length c2,.slice A3 x3.length c3] 34)) hn;exact ⟨b,off,e,Nat.zero_le _,by omega,hc⟩
 refine ⟨[⟨A1,c1,x1⟩,⟨A2,c2,x2⟩,⟨A3,c3,x3⟩],rfl,⟨by simp,fun _=>⟨w.heap.size,0,rfl,Nat.zero_le _,Nat.lt_succ_self _,fun j u hu=>?_⟩⟩,fun r hr=>?_⟩
 ·rw [Nat.zero_add,World.cell?_alloc_new]
  simpa [rowsV,Row.v] using hu
 ·simp at hr
  rcases hr with rfl | rfl | rfl
  ·exact hk h1
  ·exact hk h2
  ·exact hk h3
theorem impl_BasisOf (r n:Nat) (A:Option Addr) (es:List Ed) (c:Nat) (w:World) (lo hi:Nat) (hr:RG w lo hi A es) (hcl:es.length≤c) (hco:IsCor r n es) (X:List Ed) (hX:∀ e∈X,e∈es) (hXl:X.length≤120)
  (hE:∀ W,RG W lo hi A es→Calls Tryz.prog 179 #[graV r n A es.length c] W fun e w'=>∃ A1 c1,e=.returned (.slice A1 X.length c1)∧OG w' W.heap.size w'.heap.size A1 c1 X∧Mid 0 0 W w') :
  Calls Tryz.prog 101 #[graV r n A es.length c] w fun e w'=>∃ A1 c1,e=.returned (.slice A1 (X.map (basisW r es)).length c1)∧OSS w' w.heap.size w'.heap.size 34 3 A1 c1 (X.map (basisW r es))∧Mid 0 0 w w':=by
 have hg:=hco.gr;have hn1:0 < n:=by have:=hg.size;omega
 have hn40:n≤40:=by have:=hg.size;omega
 have hl:=hg.len;have hr3:r≤3:=by have:=hg.rank;omega
 have HCO:=Lib.hid hco;have HE:=Lib.hid hE;have HX:=Lib.hid hX;clear hco hE hX;have hm0:Mid 0 0 w ((w.alloc (.cells #[.int .i64 r,.int .i64 n,.slice A es.length c] 26)).alloc (.cells #[] 34)):=(Mid.alloc _ _).trans (Mid.alloc _ _);have B0:=(Box.new w #[.int .i64 r,.int .i64 n,.slice A es.length c] 26).mid (Mid.alloc _ (.cells #[] 34)) oZr;have O0:=Own1.empty (w.alloc (.cells #[.int .i64 r,.int .i64 n,.slice A es.length c] 26));have hB:∀ j,((w.alloc (.cells #[.int .i64 r,.int .i64 n,.slice A es.length c] 26)).alloc (.cells #[] 34)).cell? ⟨w.heap.size+1,j,none⟩=none:=fun j=>by
  have h:=World.cell?_alloc_new (w.alloc (.cells #[.int .i64 r,.int .i64 n,.slice A es.length c] 26)) #[] 34 j;rw [World.size_alloc] at h;rw [h]
  rfl
 simp only [World.size_alloc] at O0;have p0:=B0.cell 0 rfl;have p1:=B0.cell 1 rfl;have p2:=B0.cell 2 rfl;go_enter Tryz.func101,Tryz.ntmps101
 go_wp2_with fail;generalize (w.alloc (.cells #[.int .i64 r,.int .i64 n,.slice A es.length c] 26)).alloc (.cells #[] 34)=w1 at hm0 B0 O0 hB p0 p1 p2 ⊢;have hs1:w.heap.size+1 < w1.heap.size:=(O0.lt rfl).2;with_reducible refine (impl_IsCore r n A es c w1 lo hi (hr.mid hm0 oZl) (by omega) hcl true (iff_of_true rfl HCO.out)).mono ?_
 rintro en w2 ⟨rfl,hm2⟩;have hs2:=hm2.size;have hB2:∀ j,w2.cell? ⟨w.heap.size+1,j,none⟩=none:=fun j=>(World.cell?_of_block (hm2.block _ (by simpa using hs1) (by omega))).trans (hB j);clear p0 p1 p2 hB;replace O0:=O0.mid hm2;replace B0:=B0.mid hm2 oZr;replace hm0:=hm0.trans hm2;have p0:=B0.cell 0 rfl;have p1:=B0.cell 1 rfl;have p2:=B0.cell 2 rfl;clear hm2;have hT:=impl_tree r n 0 A es c w2 lo hi (hr.mid hm0 oZl) hg hn1;have h00:((0:Nat):Int)=0:=rfl;rw [h00] at hT;have hor:ordE r es 0=(bfs es (lets r) 0).map Prod.fst:=by unfold ordE;rw [Int.toNat_natCast]
 rw [hor] at hT;obtain ⟨ST,hST⟩:∃ ST,bfs es (lets r) 0=ST:=⟨_,rfl⟩
 rw [hST] at hT;have HSTE:=Lib.hid hST;have HTL:=Lib.hid hT;clear hT h00 hor hST;go_wp2_with fail;with_reducible refine HTL.out.mono ?_
 rintro en w3 ⟨A1,c1,rfl,hm3, -,vals,hval,hts⟩;have hs3:=hm3.size;have hWR:=hts.wordsR (B:=w.heap.size+1) (fun j=>(World.cell?_of_block (hm3.block _ (show w.heap.size+1 < w2.heap.size by omega) (by omega))).trans (hB2 j));have hRV:=(owns_rv hval).wide (lo':=w.heap.size+2) (hi':=w3.heap.size) (by omega) (Nat.le_refl _) (Nat.le_refl _);clear p0 p1 p2 hval hts hB2 HTL;replace O0:=O0.mid hm3;replace B0:=B0.mid hm3 oZr;replace hm0:=hm0.trans hm3;have p0:=B0.cell 0 rfl;have p1:=B0.cell 1 rfl;have p2:=B0.cell 2 rfl;clear hm3;have HWR:=Lib.hid hWR;have HRV:=Lib.hid hRV;have HO:=Lib.hid O0;clear hWR hRV O0;go_wp2_with fail;with_reducible refine (HE.out w3 (hr.mid hm0 oZl)).mono ?_
 rintro en w4 ⟨AX,cX,rfl,hOX,hm4⟩;have hs4:=hm4.size;have HWR4:=Lib.hid (HWR.out.mid hm4);have HRV4:=Lib.hid (HRV.out.mid hm4 oZl);have HO4:=Lib.hid (HO.out.mid hm4);have HRX:=Lib.hid (hOX.rg.wide (lo':=w.heap.size+2) (hi':=w4.heap.size) (by omega) (Nat.le_refl _) (Nat.le_refl _));have HRV4':=Lib.hid (HRV4.out.wide (lo':=w.heap.size+2) (hi':=w4.heap.size) (Nat.le_refl _) hs4 (Nat.le_refl _));have hm05:=hm0.trans hm4;have HWR4':Hid (WordsR w4 w4.heap.size (w.heap.size+1) vals ST):=Lib.hid (fun p hp=>by
  obtain ⟨Aw,cw,h1,h2⟩:=HWR4.out p hp;refine ⟨Aw,cw,h1,fun hn=>?_⟩;obtain ⟨b,hA,h3,h4,h5,h6⟩:=h2 hn;exact ⟨b,hA,by omega,h4,h5,h6⟩)
 have HD0:Hid (∀ g,obS (some (⟨w.heap.size+1,0,none⟩:Addr)) 0 0=some g→g=w.heap.size+1 ∨ w4.heap.size≤g):=Lib.hid (fun g hg=>.inl (ob_oneB hg));have HN0:Hid (rowsD ([]:List Row)=(X.take 0).map (basisW r es)):=Lib.hid rfl;clear HWR HRV HO HWR4 HRV4 hOX B0 p0 p1 p2 hm0 hm4 HE;generalize (some (⟨w.heap.size+1,0,none⟩:Addr))=A0 at HO4 HD0 ⊢;generalize hH:w4.heap.size=H4 at HRX HRV4' HWR4' HD0;have hsz4:H4≤w4.heap.size:=Nat.le_of_eq hH.symm;have hw4:w.heap.size+2≤H4:=by omega
 generalize w2.heap.size+1=gv at HRV4' ⊢;clear hH;go_wp2_with fail;go_loopw [3,21] (fun ov kv wr=>∃ (k:Nat) (rows:List Row) (A2:Option Addr) (c2:Nat),kv=.int .i64 k∧ov=.slice A2 k c2∧k≤X.length∧Hid (rowsD rows=(X.take k).map (basisW r es))∧Hid (Own1 wr (w.heap.size+1) A2 k c2 rows)∧Hid (∀ g,obS A2 k c2=some g→g=w.heap.size+1 ∨ H4≤g)∧Hid (RG wr (w.heap.size+2) H4 AX X)∧Hid (RV wr (w.heap.size+2) H4 (some ⟨gv,0,none⟩) vals)∧Hid (WordsR wr H4 (w.heap.size+1) vals ST)∧H4≤wr.heap.size∧Mid 0 0 w wr) (fun _ kv _=>X.length - (intOf kv).toNat)
 case atStart=>exact ⟨0,[],A0,0,rfl,rfl,Nat.zero_le _,HN0,HO4,HD0,HRX,HRV4',HWR4',hsz4,hm05⟩
 case round =>
  clear HN0 HO4 HD0 HRX HRV4' HWR4' hsz4 hm05;obtain ⟨wo,hwo⟩:∃ wo,wo=wr:=⟨_,rfl⟩
  subst hwo;obtain ⟨k,rows,A2,c2,rfl,rfl,hk,HN,HO,HD,HRX,HRV,HWR,hsz,hm0⟩:=hrel;by_cases hlt:k < X.length
  ·obtain ⟨b,off,⟨ea,el,ebb⟩,hA, -,hbh,he,x0,x1,x2⟩:=(HRX.out).ed hlt
   simp only at x0 x1 x2;subst hA;have hbs:b < wo.heap.size:=Nat.lt_of_lt_of_le hbh hsz;have hk0:(0:Int)≤(k:Int):=by omega
   have hkm:(k:Int) < (X.length:Int):=by omega
   have hin:=hg.all _ (HX.out _ (List.mem_of_getElem? he));unfold InG at hin;simp only at hin;obtain ⟨pa,rfl⟩:∃ m:Nat,ea=m:=⟨ea.toNat,by omega⟩
   obtain ⟨pb,rfl⟩:∃ m:Nat,ebb=m:=⟨ebb.toNat,by omega⟩
   have hpan:pa < n:=by omega
   have hpbn:pb < n:=by omega
   have hwa:=wordV_mem HCO.out hpan;have hwb:=wordV_mem HCO.out hpbn;obtain ⟨hla,hlla⟩:=wordV_ok HCO.out hpan;obtain ⟨hlb,hllb⟩:=wordV_ok HCO.out hpbn;have hbas:basisW r es ⟨(pa:Int),el,(pb:Int)⟩=red [] (wordV r es (pa:Int)++[el]++invW (wordV r es (pb:Int))):=rfl;rw [HSTE.out] at hwa hwb;generalize wordV r es (pa:Int)=wa at hwa hla hlla hbas;generalize wordV r es (pb:Int)=wb at hwb hlb hllb hbas;obtain ⟨Aa,ca,hva,hra⟩:=HWR.out.rv hsz hwa;obtain ⟨Ab,cb,hvb,hrb⟩:=HWR.out.rv hsz hwb;simp only [Int.toNat_natCast] at hva hvb;obtain ⟨hgvH,hca⟩:=rv_get0' HRV.out hva;have hcb:=(rv_get0' HRV.out hvb).2;have hal:=Mid.alloc wo (.cells #[.int .i64 (pa:Int),.int .i64 el,.int .i64 (pb:Int)] 68);have B1:=Box.new wo #[.int .i64 (pa:Int),.int .i64 el,.int .i64 (pb:Int)] 68;have hgvo:gv < wo.heap.size:=by omega
   have HEK:=Lib.hid he;have HBAS:=Lib.hid hbas;have hel:-3≤el∧el≤3:=by omega
   have hoka:OkI wa:=fun x hx=>by have:=mem_lets.1 (hlla x hx);omega
   have hokb:OkI wb:=fun x hx=>by have:=mem_lets.1 (hllb x hx);omega
   have HOKA:=Lib.hid hoka;have HOKB:=Lib.hid hokb;have hpa0:(0:Int)≤(pa:Int):=by omega
   have hpan':(pa:Int) < (n:Int):=by omega
   have hpb0:(0:Int)≤(pb:Int):=by omega
   have hpbn':(pb:Int) < (n:Int):=by omega
   clear he hbas hva hvb hwa hwb hlla hllb hoka hokb hin;go_wp2_with fail;generalize wo.alloc (.cells #[.int .i64 (pa:Int),.int .i64 el,.int .i64 (pb:Int)] 68)=wbx at hal B1 ⊢;clear x0 x1 x2;have hmz:=hal.trans (Mid.drew1 wbx);have HO1:=Lib.hid (HO.out.mid hmz);have HRX1:=Lib.hid (HRX.out.mid hmz oZl);have HRV1:=Lib.hid (HRV.out.mid hmz oZl);have HWR1:=Lib.hid (HWR.out.mid hmz);have hra1:=hra.mid hmz oZl;have hrb1:=hrb.mid hmz oZl;have hca1:=cell_keep hmz hgvo oZr hca;have hcb1:=cell_keep hmz hgvo oZr hcb;have hgv1:gv < (World.drew wbx).heap.size:=Nat.lt_of_lt_of_le hgvo hmz.size;have hmt:=hm0.trans hmz;have B2:=B1.mid (Mid.drew1 wbx) oZr;have hsal:=hmz.size;have hbb:wo.heap.size < (World.drew wbx).heap.size:=B2.1;have q0:=B2.cell 0 rfl;have q1:=B2.cell 1 rfl;have q2:=B2.cell 2 rfl;clear hca hcb hra hrb hal B1 HO HRX HRV HWR hm0;refine wp_region_Z (S:=(fun w'=>w'.cell? ⟨wo.heap.size,0,none⟩=some (.int .i64 (pa:Int))∧w'.cell? ⟨wo.heap.size,1,none⟩=some (.int .i64 el)∧w'.cell? ⟨wo.heap.size,2,none⟩=some (.int .i64 (pb:Int))∧w'.cell? ⟨gv,pa,none⟩=some (.slice Aa wa.length ca)∧w'.cell? ⟨gv,pb,none⟩=some (.slice Ab wb.length cb))) [18,19] (by kernel_rfl) ⟨q0,q1,q2,hca1,hcb1⟩ ?_;generalize World.drew wbx=wz at HO1 HRX1 HRV1 HWR1 hra1 hrb1 hca1 hcb1 hgv1 hmt B2 hsal hbb q0 q1 q2 hmz ⊢;have hS:wz.cell? ⟨wo.heap.size,0,none⟩=some (.int .i64 (pa:Int))∧wz.cell? ⟨wo.heap.size,1,none⟩=some (.int .i64 el)∧wz.cell? ⟨wo.heap.size,2,none⟩=some (.int .i64 (pb:Int))∧wz.cell? ⟨gv,pa,none⟩=some (.slice Aa wa.length ca)∧wz.cell? ⟨gv,pb,none⟩=some (.slice Ab wb.length cb):=⟨q0,q1,q2,hca1,hcb1⟩
   refine tkZ [18,19] 0 rfl hS ?_;try simp only [Act.put,zs1,zs2,zs3,zs4,zs5,zs6]
   refine tkZ [4,5,15,16,17,18,19] 1 rfl hS ?_;try simp only [Act.put,zs1,zs2,zs3,zs4,zs5,zs6]
   refine tkZ [3,4,5,15,16,17,18,19] 2 rfl hS ?_;try simp only [Act.put,zs1,zs2,zs3,zs4,zs5,zs6]
   refine tkZ [4,5,15,16,17,18,19] 3 rfl hS ?_;try simp only [Act.put,zs1,zs2,zs3,zs4,zs5,zs6]
   refine tkZ [5,15,16,17,18,19] 4 rfl hS ?_;try simp only [Act.put,zs1,zs2,zs3,zs4,zs5,zs6]
   refine tkZ [15,16,17,18,19] 5 rfl hS ?_;try simp only [Act.put,zs1,zs2,zs3,zs4,zs5,zs6]
   refine tkZ [7,8,15,16,17,18,19] 6 rfl hS ?_;try simp only [Act.put,zs1,zs2,zs3,zs4,zs5,zs6]
   refine tkZ [8,15,16,17,18,19] 7 rfl hS ?_;try simp only [Act.put,zs1,zs2,zs3,zs4,zs5,zs6]
   refine tkZ [12,13,14,15,16,17,18,19] 9 rfl hS ?_;try simp only [Act.put,zs1,zs2,zs3,zs4,zs5,zs6]
   refine tkZ [11,12,13,14,15,16,17,18,19] 10 rfl hS ?_;try simp only [Act.put,zs1,zs2,zs3,zs4,zs5,zs6]
   refine tkZ [12,13,14,15,16,17,18,19] 11 rfl hS ?_;try simp only [Act.put,zs1,zs2,zs3,zs4,zs5,zs6]
   refine tkZ [13,14,15,16,17,18,19] 12 rfl hS ?_;try simp only [Act.put,zs1,zs2,zs3,zs4,zs5,zs6]
   refine tkZ [14,15,16,17,18,19] 13 rfl hS ?_;try simp only [Act.put,zs1,zs2,zs3,zs4,zs5,zs6]
   have q0z:=q0;have q1z:=q1;have q2z:=q2;have vaz:=hca1;have vbz:=hcb1;have hbbz:=hbb;have hgvz:=hgv1;have hHz:H4≤wz.heap.size:=by omega
   have hIz:=impl_InvertWord Ab wb cb H4 wz hrb1.rs hHz HOKB.out (by omega);clear q0 q1 q2 hca1 hcb1 hbb hgv1 B2 hmz hS;refine wpAnyZ_ready (rs:=[8,14]) (by kernel_rfl) (by simp) (AllReadyZ.cons rfl (fun K hK=>?_) (AllReadyZ.cons rfl (fun K hK=>?_) AllReadyZ.nil))
   ·go_simp
    refine hK.out _ _ (Or.inr ⟨cell_keep (Mid.alloc wz (.cells #[.int .i64 el] 3)) hbbz oZr q0z,cell_keep (Mid.alloc wz (.cells #[.int .i64 el] 3)) hbbz oZr q1z,cell_keep (Mid.alloc wz (.cells #[.int .i64 el] 3)) hbbz oZr q2z,cell_keep (Mid.alloc wz (.cells #[.int .i64 el] 3)) hgvz oZr vaz,cell_keep (Mid.alloc wz (.cells #[.int .i64 el] 3)) hgvz oZr vbz⟩) (fun _=>?_);clear hK K;try simp only [Act.put,zs1,zs2,zs3,zs4,zs5,zs6]
    have ha8:=Mid.alloc wz (.cells #[.int .i64 el] 3);have q08:=cell_keep ha8 hbbz oZr q0z;have q18:=cell_keep ha8 hbbz oZr q1z;have q28:=cell_keep ha8 hbbz oZr q2z;have va8:=cell_keep ha8 hgvz oZr vaz;have vb8:=cell_keep ha8 hgvz oZr vbz;have hbb8:wo.heap.size < (wz.alloc (.cells #[.int .i64 el] 3)).heap.size:=Nat.lt_of_lt_of_le hbbz ha8.size;have hgv8:gv < (wz.alloc (.cells #[.int .i64 el] 3)).heap.size:=Nat.lt_of_lt_of_le hgvz ha8.size;have hon8:(wz.alloc (.cells #[.int .i64 el] 3)).cell? ⟨wz.heap.size,0,none⟩=some (.int .i64 el):=World.cell?_alloc_at _ _ _ _ rfl;have hs8:wz.heap.size < (wz.alloc (.cells #[.int .i64 el] 3)).heap.size:=by simp
    generalize wz.alloc (.cells #[.int .i64 el] 3)=w8 at ha8 q08 q18 q28 va8 vb8 hbb8 hgv8 hon8 hs8 ⊢;have hrbA:=hrb1.mid ha8 oZl;have hH8:H4≤w8.heap.size:=by omega
    have hI8:=impl_InvertWord Ab wb cb H4 w8 hrbA.rs hH8 HOKB.out (by omega);clear hIz;refine rdZ 14 rfl (fun K hK=>?_)
    (go_simp;(with_reducible refine hI8.mono ?_);intro en w14 hq14;obtain ⟨A7,c7,rfl,ho14,hm14⟩:=RetI.get hq14;go_wp2_with fail)
    refine hK.out _ _ (Or.inr ⟨cell_keep hm14 hbb8 oZr q08,cell_keep hm14 hbb8 oZr q18,cell_keep hm14 hbb8 oZr q28,cell_keep hm14 hgv8 oZr va8,cell_keep hm14 hgv8 oZr vb8⟩) (fun _=>?_);clear hK K;try simp only [Act.put,zs1,zs2,zs3,zs4,zs5,zs6]
    have q0C:=cell_keep hm14 hbb8 oZr q08;have q1C:=cell_keep hm14 hbb8 oZr q18;have q2C:=cell_keep hm14 hbb8 oZr q28;have vaC:=cell_keep hm14 hgv8 oZr va8;have vbC:=cell_keep hm14 hgv8 oZr vb8;have hbbC:wo.heap.size < w14.heap.size:=Nat.lt_of_lt_of_le hbb8 hm14.size;have hgvC:gv < w14.heap.size:=Nat.lt_of_lt_of_le hgv8 hm14.size;have hmc:=ha8.trans hm14;have honeC:Rs w14 w14.heap.size (some ⟨wz.heap.size,0,none⟩) (ints [el]):=(rs_one (cell_keep hm14 hs8 oZr hon8)).more (by have:=hm14.size;omega);have hinvC:Rs w14 w14.heap.size A7 (ints (invW wb)):=(owns_rv ho14).rsS;clear ha8 hon8 hrbA hI8 hq14 ho14 hm14 q08 q18 q28 va8 vb8 q0z q1z q2z vaz vbz;generalize w14=wc at hmc honeC hinvC q0C q1C q2C vaC vbC hbbC hgvC ⊢
    -- both are made: at world wc;hmc:Mid 0 0 wz wc;the letter's block wz.heap.size;the inverse (A7,c7)
    have hraC:=hra1.mid hmc oZl;have hal15:=Mid.alloc wc (.cells #[.slice Aa wa.length ca,.slice (some ⟨wz.heap.size,0,none⟩) 1 1,.slice A7 (invW wb).length c7] 34);have q0D:=cell_keep hal15 hbbC oZr q0C;have q1D:=cell_keep hal15 hbbC oZr q1C;have q2D:=cell_keep hal15 hbbC oZr q2C;have vaD:=cell_keep hal15 hgvC oZr vaC;have vbD:=cell_keep hal15 hgvC oZr vbC;have hbbD:wo.heap.size < (wc.alloc (.cells #[.slice Aa wa.length ca,.slice (some ⟨wz.heap.size,0,none⟩) 1 1,.slice A7 (invW wb).length c7] 34)).heap.size:=Nat.lt_of_lt_of_le hbbC hal15.size;have hgvD:gv < (wc.alloc (.cells #[.slice Aa wa.length ca,.slice (some ⟨wz.heap.size,0,none⟩) 1 1,.slice A7 (invW wb).length c7] 34)).heap.size:=Nat.lt_of_lt_of_le hgvC hal15.size;have hrss:=rss_lit3 (w:=wc) Aa (some ⟨wz.heap.size,0,none⟩) A7 ca 1 c7 wa [el] (invW wb) hraC.rsS honeC hinvC;have hmd15:=hmc.trans hal15;refine rdZ 15 rfl (fun K hK=>?_);go_simp;refine hK.out _ _ (Or.inr ⟨cell_keep hal15 hbbC oZr q0C,cell_keep hal15 hbbC oZr q1C,cell_keep hal15 hbbC oZr q2C,cell_keep hal15 hgvC oZr vaC,cell_keep hal15 hgvC oZr vbC⟩) (fun _=>?_);clear hK K;try simp only [Act.put,zs1,zs2,zs3,zs4,zs5,zs6]
    have hsz15:(wc.alloc (.cells #[.slice Aa wa.length ca,.slice (some ⟨wz.heap.size,0,none⟩) 1 1,.slice A7 (invW wb).length c7] 34)).heap.size=wc.heap.size+1:=by simp
    generalize wc.alloc (.cells #[.slice Aa wa.length ca,.slice (some ⟨wz.heap.size,0,none⟩) 1 1,.slice A7 (invW wb).length c7] 34)=w15 at hal15 q0D q1D q2D vaD vbD hbbD hgvD hrss hmd15 hsz15 ⊢;have hokP:∀ xs∈[wa,[el],invW wb],OkI xs:=by
     intro xs hx;simp at hx;rcases hx with rfl | rfl | rfl
     ·exact HOKA.out
     ·intro y hy
      simp at hy;subst hy;omega
     ·exact okI_invW HOKB.out
    have hP:=impl_product (some ⟨wc.heap.size,0,none⟩) [wa,[el],invW wb] 3 w15 0 (wc.heap.size+1) hrss hokP (by simp) (by simp only [sumL,List.map_cons,List.map_nil,List.sum_cons,List.sum_nil,List.length_cons,List.length_nil,invW_len];omega);have hfl:([wa,[el],invW wb]:List (List Int)).flatten=wa++[el]++invW wb:=by simp
    rw [hfl,← HBAS.out] at hP;have hP':Calls Tryz.prog 122 #[.slice (some ⟨wc.heap.size,0,none⟩) 3 3] w15 fun e' w'=>RetI 3 (basisW r es ⟨(pa:Int),el,(pb:Int)⟩) w15 e' w':=hP;have HP:=Lib.hid hP';clear hP hfl hrss hP';refine rdZ 16 rfl (fun K hK=>?_)
    (go_simp;(with_reducible refine HP.out.mono ?_);intro en w16 hq16;obtain ⟨A16,c16,rfl,ho16,hm16⟩:=RetI.get hq16;go_wp2_with fail)
    refine hK.out _ _ (Or.inr ⟨cell_keep hm16 hbbD oZr q0D,cell_keep hm16 hbbD oZr q1D,cell_keep hm16 hbbD oZr q2D,cell_keep hm16 hgvD oZr vaD,cell_keep hm16 hgvD oZr vbD⟩) (fun _=>?_);clear hK K;try simp only [Act.put,zs1,zs2,zs3,zs4,zs5,zs6]
    have q0E:=cell_keep hm16 hbbD oZr q0D;have q1E:=cell_keep hm16 hbbD oZr q1D;have q2E:=cell_keep hm16 hbbD oZr q2D;have vaE:=cell_keep hm16 hgvD oZr vaD;have vbE:=cell_keep hm16 hgvD oZr vbD;have hbbE:wo.heap.size < w16.heap.size:=Nat.lt_of_lt_of_le hbbD hm16.size;have hgvE:gv < w16.heap.size:=Nat.lt_of_lt_of_le hgvD hm16.size;have hmd16:=hmd15.trans hm16;have hrow:w16.ownsRow wz.heap.size 3 1 (Row.v ⟨A16,c16,basisW r es ⟨(pa:Int),el,(pb:Int)⟩⟩) (basisW r es ⟨(pa:Int),el,(pb:Int)⟩).length (ints (basisW r es ⟨(pa:Int),el,(pb:Int)⟩)):=owns_base ho16 hmd15.size;have hszz:=hmd16.size;refine rdZ 17 rfl (fun K hK=>?_);go_simp;refine hK.out _ _ (Or.inr ⟨cell_keep (Mid.alloc w16 (.cells #[.slice A16 (basisW r es ⟨(pa:Int),el,(pb:Int)⟩).length c16] 34)) hbbE oZr q0E,cell_keep (Mid.alloc w16 (.cells #[.slice A16 (basisW r es ⟨(pa:Int),el,(pb:Int)⟩).length c16] 34)) hbbE oZr q1E,cell_keep (Mid.alloc w16 (.cells #[.slice A16 (basisW r es ⟨(pa:Int),el,(pb:Int)⟩).length c16] 34)) hbbE oZr q2E,cell_keep (Mid.alloc w16 (.cells #[.slice A16 (basisW r es ⟨(pa:Int),el,(pb:Int)⟩).length c16] 34)) hgvE oZr vaE,cell_keep (Mid.alloc w16 (.cells #[.slice A16 (basisW r es ⟨(pa:Int),el,(pb:Int)⟩).length c16] 34)) hgvE oZr vbE⟩) (fun _=>?_);clear hK K;try simp only [Act.put,zs1,zs2,zs3,zs4,zs5,zs6]
    refine rdZ 18 rfl (fun K hK=>?_)
    (refine step_push1 (by rfl) (.tmp 25) (.tmp 42) (by rfl) (by rfl) HO1.out hmd16 ⟨A16,c16,basisW r es ⟨(pa:Int),el,(pb:Int)⟩⟩ (.slice A16 (basisW r es ⟨(pa:Int),el,(pb:Int)⟩).length c16) rfl hrow (by rfl) (by omega) (by omega) ?_;intro A18 c18 w18 hO18 hgr18 hat18)
    refine hK.out _ _ (Or.inl (by simp)) (fun _=>?_);clear hK K;try simp only [Act.put,zs1,zs2,zs3,zs4,zs5,zs6]
    have HO18:=Lib.hid hO18;have HN18:Hid (rowsD (rows++[(⟨A16,c16,basisW r es ⟨(pa:Int),el,(pb:Int)⟩⟩:Row)])=(X.take (k+1)).map (basisW r es)):=Lib.hid (by
     obtain ⟨h1,h2⟩:=List.getElem?_eq_some_iff.1 HEK.out;rw [rowsD_append,HN.out,List.take_succ_eq_append_getElem h1,h2,List.map_append]
     rfl)
    have HRX18:=Lib.hid (RV.grown (HRX1.out.mid hmd16 oZl) hgr18 (fun g hg=>by rcases HD.out g hg with h | h <;> omega));have HRV18:=Lib.hid ((HRV1.out.mid hmd16 oZl).grown hgr18 (fun g hg=>by rcases HD.out g hg with h | h <;> omega));have HWR18:=Lib.hid ((HWR1.out.mid hmd16).grown hgr18 HD.out);have hm18:=(hmt.trans hmd16).grownNew hgr18 (fun g hg=>by have:=(HO1.out.lt hg).1;omega);have hs18:=hgr18.size;have HD18:Hid (∀ g,obS A18 (k+1) c18=some g→g=w.heap.size+1 ∨ H4≤g):=Lib.hid (by
     intro g hg;rcases hat18 with h | h
     ·exact HD.out g (h ▸ hg)
     ·rw [h] at hg
      have hg':=Option.some.inj hg;omega)
    clear hO18 hgr18 hat18 HO1 HRX1 HRV1 HWR1 hmt hmd16 hm16 ho16 hrow HD HN HP hmd15 hal15 hmc hraC honeC hinvC hra1 hrb1 q0C q1C q2C vaC vbC q0D q1D q2D vaD vbD q0E q1E q2E vaE vbE;refine rdZ 19 rfl (fun K hK=>?_);go_simp;refine hK.out _ _ (Or.inl (by simp)) (fun _=>?_);clear hK K;try simp only [Act.put,zs1,zs2,zs3,zs4,zs5,zs6]
    refine wpAnyZ_done (by kernel_rfl) ?_ _;go_wp2_with fail;go_roundw
    case rel=>exact ⟨k+1,_,A18,c18,by go_num,rfl,by omega,HN18,HO18,HD18,HRX18,HRV18,HWR18,by omega,hm18⟩
    case measure=>simp [intOf];omega
   ·(go_simp;(with_reducible refine hIz.mono ?_);intro en w14 hq14;obtain ⟨A7,c7,rfl,ho14,hm14⟩:=RetI.get hq14;go_wp2_with fail)
    refine hK.out _ _ (Or.inr ⟨cell_keep hm14 hbbz oZr q0z,cell_keep hm14 hbbz oZr q1z,cell_keep hm14 hbbz oZr q2z,cell_keep hm14 hgvz oZr vaz,cell_keep hm14 hgvz oZr vbz⟩) (fun _=>?_);clear hK K;try simp only [Act.put,zs1,zs2,zs3,zs4,zs5,zs6]
    have q04:=cell_keep hm14 hbbz oZr q0z;have q14:=cell_keep hm14 hbbz oZr q1z;have q24:=cell_keep hm14 hbbz oZr q2z;have va4:=cell_keep hm14 hgvz oZr vaz;have vb4:=cell_keep hm14 hgvz oZr vbz;have hbb4:wo.heap.size < w14.heap.size:=Nat.lt_of_lt_of_le hbbz hm14.size;have hgv4:gv < w14.heap.size:=Nat.lt_of_lt_of_le hgvz hm14.size;have hon14:w14.heap.size < (w14.alloc (.cells #[.int .i64 el] 3)).heap.size:=by simp
    refine rdZ 8 rfl (fun K hK=>?_);go_simp;refine hK.out _ _ (Or.inr ⟨cell_keep (Mid.alloc w14 (.cells #[.int .i64 el] 3)) hbb4 oZr q04,cell_keep (Mid.alloc w14 (.cells #[.int .i64 el] 3)) hbb4 oZr q14,cell_keep (Mid.alloc w14 (.cells #[.int .i64 el] 3)) hbb4 oZr q24,cell_keep (Mid.alloc w14 (.cells #[.int .i64 el] 3)) hgv4 oZr va4,cell_keep (Mid.alloc w14 (.cells #[.int .i64 el] 3)) hgv4 oZr vb4⟩) (fun _=>?_);clear hK K;try simp only [Act.put,zs1,zs2,zs3,zs4,zs5,zs6]
    have ha8:=Mid.alloc w14 (.cells #[.int .i64 el] 3);have q0C:=cell_keep ha8 hbb4 oZr q04;have q1C:=cell_keep ha8 hbb4 oZr q14;have q2C:=cell_keep ha8 hbb4 oZr q24;have vaC:=cell_keep ha8 hgv4 oZr va4;have vbC:=cell_keep ha8 hgv4 oZr vb4;have hbbC:wo.heap.size < (w14.alloc (.cells #[.int .i64 el] 3)).heap.size:=Nat.lt_of_lt_of_le hbb4 ha8.size;have hgvC:gv < (w14.alloc (.cells #[.int .i64 el] 3)).heap.size:=Nat.lt_of_lt_of_le hgv4 ha8.size;have hmc:=hm14.trans ha8;have honeC:Rs (w14.alloc (.cells #[.int .i64 el] 3)) (w14.alloc (.cells #[.int .i64 el] 3)).heap.size (some ⟨w14.heap.size,0,none⟩) (ints [el]):=(rs_one (World.cell?_alloc_at _ _ _ _ rfl)).more (by simp);have hinvC:Rs (w14.alloc (.cells #[.int .i64 el] 3)) (w14.alloc (.cells #[.int .i64 el] 3)).heap.size A7 (ints (invW wb)):=(owns_rv (owns_mid ho14 ha8 oZl)).rsS;generalize w14.alloc (.cells #[.int .i64 el] 3)=wc at ha8 hmc honeC hinvC q0C q1C q2C vaC vbC hbbC hgvC hon14 ⊢;clear ha8 hq14 ho14 hm14 hIz q04 q14 q24 va4 vb4 q0z q1z q2z vaz vbz
    -- both are made: at world wc;hmc:Mid 0 0 wz wc;the letter's block w14.heap.size;the inverse (A7,c7)
    have hraC:=hra1.mid hmc oZl;have hal15:=Mid.alloc wc (.cells #[.slice Aa wa.length ca,.slice (some ⟨w14.heap.size,0,none⟩) 1 1,.slice A7 (invW wb).length c7] 34);have q0D:=cell_keep hal15 hbbC oZr q0C;have q1D:=cell_keep hal15 hbbC oZr q1C;have q2D:=cell_keep hal15 hbbC oZr q2C;have vaD:=cell_keep hal15 hgvC oZr vaC;have vbD:=cell_keep hal15 hgvC oZr vbC;have hbbD:wo.heap.size < (wc.alloc (.cells #[.slice Aa wa.length ca,.slice (some ⟨w14.heap.size,0,none⟩) 1 1,.slice A7 (invW wb).length c7] 34)).heap.size:=Nat.lt_of_lt_of_le hbbC hal15.size;have hgvD:gv < (wc.alloc (.cells #[.slice Aa wa.length ca,.slice (some ⟨w14.heap.size,0,none⟩) 1 1,.slice A7 (invW wb).length c7] 34)).heap.size:=Nat.lt_of_lt_of_le hgvC hal15.size;have hrss:=rss_lit3 (w:=wc) Aa (some ⟨w14.heap.size,0,none⟩) A7 ca 1 c7 wa [el] (invW wb) hraC.rsS honeC hinvC;have hmd15:=hmc.trans hal15;refine rdZ 15 rfl (fun K hK=>?_);go_simp;refine hK.out _ _ (Or.inr ⟨cell_keep hal15 hbbC oZr q0C,cell_keep hal15 hbbC oZr q1C,cell_keep hal15 hbbC oZr q2C,cell_keep hal15 hgvC oZr vaC,cell_keep hal15 hgvC oZr vbC⟩) (fun _=>?_);clear hK K;try simp only [Act.put,zs1,zs2,zs3,zs4,zs5,zs6]
    have hsz15:(wc.alloc (.cells #[.slice Aa wa.length ca,.slice (some ⟨w14.heap.size,0,none⟩) 1 1,.slice A7 (invW wb).length c7] 34)).heap.size=wc.heap.size+1:=by simp
    generalize wc.alloc (.cells #[.slice Aa wa.length ca,.slice (some ⟨w14.heap.size,0,none⟩) 1 1,.slice A7 (invW wb).length c7] 34)=w15 at hal15 q0D q1D q2D vaD vbD hbbD hgvD hrss hmd15 hsz15 ⊢;have hokP:∀ xs∈[wa,[el],invW wb],OkI xs:=by
     intro xs hx;simp at hx;rcases hx with rfl | rfl | rfl
     ·exact HOKA.out
     ·intro y hy
      simp at hy;subst hy;omega
     ·exact okI_invW HOKB.out
    have hP:=impl_product (some ⟨wc.heap.size,0,none⟩) [wa,[el],invW wb] 3 w15 0 (wc.heap.size+1) hrss hokP (by simp) (by simp only [sumL,List.map_cons,List.map_nil,List.sum_cons,List.sum_nil,List.length_cons,List.length_nil,invW_len];omega);have hfl:([wa,[el],invW wb]:List (List Int)).flatten=wa++[el]++invW wb:=by simp
    rw [hfl,← HBAS.out] at hP;have hP':Calls Tryz.prog 122 #[.slice (some ⟨wc.heap.size,0,none⟩) 3 3] w15 fun e' w'=>RetI 3 (basisW r es ⟨(pa:Int),el,(pb:Int)⟩) w15 e' w':=hP;have HP:=Lib.hid hP';clear hP hfl hrss hP';refine rdZ 16 rfl (fun K hK=>?_)
    (go_simp;(with_reducible refine HP.out.mono ?_);intro en w16 hq16;obtain ⟨A16,c16,rfl,ho16,hm16⟩:=RetI.get hq16;go_wp2_with fail)
    refine hK.out _ _ (Or.inr ⟨cell_keep hm16 hbbD oZr q0D,cell_keep hm16 hbbD oZr q1D,cell_keep hm16 hbbD oZr q2D,cell_keep hm16 hgvD oZr vaD,cell_keep hm16 hgvD oZr vbD⟩) (fun _=>?_);clear hK K;try simp only [Act.put,zs1,zs2,zs3,zs4,zs5,zs6]
    have q0E:=cell_keep hm16 hbbD oZr q0D;have q1E:=cell_keep hm16 hbbD oZr q1D;have q2E:=cell_keep hm16 hbbD oZr q2D;have vaE:=cell_keep hm16 hgvD oZr vaD;have vbE:=cell_keep hm16 hgvD oZr vbD;have hbbE:wo.heap.size < w16.heap.size:=Nat.lt_of_lt_of_le hbbD hm16.size;have hgvE:gv < w16.heap.size:=Nat.lt_of_lt_of_le hgvD hm16.size;have hmd16:=hmd15.trans hm16;have hrow:w16.ownsRow wz.heap.size 3 1 (Row.v ⟨A16,c16,basisW r es ⟨(pa:Int),el,(pb:Int)⟩⟩) (basisW r es ⟨(pa:Int),el,(pb:Int)⟩).length (ints (basisW r es ⟨(pa:Int),el,(pb:Int)⟩)):=owns_base ho16 hmd15.size;have hszz:=hmd16.size;refine rdZ 17 rfl (fun K hK=>?_);go_simp;refine hK.out _ _ (Or.inr ⟨cell_keep (Mid.alloc w16 (.cells #[.slice A16 (basisW r es ⟨(pa:Int),el,(pb:Int)⟩).length c16] 34)) hbbE oZr q0E,cell_keep (Mid.alloc w16 (.cells #[.slice A16 (basisW r es ⟨(pa:Int),el,(pb:Int)⟩).length c16] 34)) hbbE oZr q1E,cell_keep (Mid.alloc w16 (.cells #[.slice A16 (basisW r es ⟨(pa:Int),el,(pb:Int)⟩).length c16] 34)) hbbE oZr q2E,cell_keep (Mid.alloc w16 (.cells #[.slice A16 (basisW r es ⟨(pa:Int),el,(pb:Int)⟩).length c16] 34)) hgvE oZr vaE,cell_keep (Mid.alloc w16 (.cells #[.slice A16 (basisW r es ⟨(pa:Int),el,(pb:Int)⟩).length c16] 34)) hgvE oZr vbE⟩) (fun _=>?_);clear hK K;try simp only [Act.put,zs1,zs2,zs3,zs4,zs5,zs6]
    refine rdZ 18 rfl (fun K hK=>?_)
    (refine step_push1 (by rfl) (.tmp 25) (.tmp 42) (by rfl) (by rfl) HO1.out hmd16 ⟨A16,c16,basisW r es ⟨(pa:Int),el,(pb:Int)⟩⟩ (.slice A16 (basisW r es ⟨(pa:Int),el,(pb:Int)⟩).length c16) rfl hrow (by rfl) (by omega) (by omega) ?_;intro A18 c18 w18 hO18 hgr18 hat18)
    refine hK.out _ _ (Or.inl (by simp)) (fun _=>?_);clear hK K;try simp only [Act.put,zs1,zs2,zs3,zs4,zs5,zs6]
    have HO18:=Lib.hid hO18;have HN18:Hid (rowsD (rows++[(⟨A16,c16,basisW r es ⟨(pa:Int),el,(pb:Int)⟩⟩:Row)])=(X.take (k+1)).map (basisW r es)):=Lib.hid (by
     obtain ⟨h1,h2⟩:=List.getElem?_eq_some_iff.1 HEK.out;rw [rowsD_append,HN.out,List.take_succ_eq_append_getElem h1,h2,List.map_append]
     rfl)
    have HRX18:=Lib.hid (RV.grown (HRX1.out.mid hmd16 oZl) hgr18 (fun g hg=>by rcases HD.out g hg with h | h <;> omega));have HRV18:=Lib.hid ((HRV1.out.mid hmd16 oZl).grown hgr18 (fun g hg=>by rcases HD.out g hg with h | h <;> omega));have HWR18:=Lib.hid ((HWR1.out.mid hmd16).grown hgr18 HD.out);have hm18:=(hmt.trans hmd16).grownNew hgr18 (fun g hg=>by have:=(HO1.out.lt hg).1;omega);have hs18:=hgr18.size;have HD18:Hid (∀ g,obS A18 (k+1) c18=some g→g=w.heap.size+1 ∨ H4≤g):=Lib.hid (by
     intro g hg;rcases hat18 with h | h
     ·exact HD.out g (h ▸ hg)
     ·rw [h] at hg
      have hg':=Option.some.inj hg;omega)
    clear hO18 hgr18 hat18 HO1 HRX1 HRV1 HWR1 hmt hmd16 hm16 ho16 hrow HD HN HP hmd15 hal15 hmc hraC honeC hinvC hra1 hrb1 q0C q1C q2C vaC vbC q0D q1D q2D vaD vbD q0E q1E q2E vaE vbE;refine rdZ 19 rfl (fun K hK=>?_);go_simp;refine hK.out _ _ (Or.inl (by simp)) (fun _=>?_);clear hK K;try simp only [Act.put,zs1,zs2,zs3,zs4,zs5,zs6]
    refine wpAnyZ_done (by kernel_rfl) ?_ _;go_wp2_with fail;go_roundw
    case rel=>exact ⟨k+1,_,A18,c18,by go_num,rfl,by omega,HN18,HO18,HD18,HRX18,HRV18,HWR18,by omega,hm18⟩
    case measure=>simp [intOf];omega
  ·obtain rfl:k=X.length:=by omega
   have hN:=HN.out;rw [List.take_length] at hN;have hlen:(X.map (basisW r es)).length=X.length:=List.length_map ..;have HQ:Hid (OSS wo w.heap.size wo.heap.size 34 3 A2 c2 (X.map (basisW r es))):=Lib.hid ((HO.out.base (Nat.le_succ _)).oss hN);have HLN:=Lib.hid hlen;clear hN hlen HN HO HD HRX HRV HWR;go_wp2_with fail;go_ret;exact ⟨A2,c2,by rw [HLN.out];rfl,HQ.out,hm0⟩
end
section
open Go.RowKit
end
section
open Go.RowKit
end
section
open Go.RowKit
end
end Go.Proofs.YthampgpcajmopaaGreat
