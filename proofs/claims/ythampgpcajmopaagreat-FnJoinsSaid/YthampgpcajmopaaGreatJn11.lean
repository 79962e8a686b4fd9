/- Contracts and lemmas of this seat, many texts in one: see the words ahead of each. No condition beyond those typed in each lemma. -/
import Derived.Test.YthampgpcajmopaaGreatJn10
import Derived.Test.YthampgpcajmopaaGreatJn6
import Derived.Test.YthampgpcajmopaaGreatJn2
import Derived.Test.YthampgpcajmopaaGreatJn8
import Derived.Test.YthampgpcajmopaaGreatJn1
import Derived.Laws.Bits128
import Derived.IntWalk
import Derived.Test.YthampgpcajmopaaGreatJn7
import Derived.Test.YthampgpcajmopaaGreatJn3
import Derived.Test.YthampgpcajmopaaGreatJn9

namespace Go.Proofs.YthampgpcajmopaaGreat
set_option linter.unusedVariables false
set_option linter.unusedSimpArgs false
set_option maxHeartbeats 40000000
set_option maxRecDepth 100000
section
open Go.RowKit
def IntOk (r s:Int) (es:List Ed) (r' s':Int) (es':List Ed):Prop:=IsCor r s es∧IsCor r' s' es'∧PullOk r s es r' s' es' 0 0
def pullG (r:Int) (es es':List Ed):Int × List Ed:=(((pairsOf es es' (lets r.toNat) (0,0)).length:Int),pullE r es es' 0 0)
def IntIs (r s:Int) (es:List Ed) (r' s':Int) (es':List Ed) (rr rs:Int) (res:List Ed) (b:Bool):Prop :=
 (b=true∧IntOk r s es r' s' es'∧rr=r∧rs=(coreA r (pullG r es es')).1∧res=(coreA r (pullG r es es')).2) ∨ (b=false∧¬ IntOk r s es r' s' es'∧rr=0∧rs=0∧res=[])
theorem IntIs_ex (r s:Int) (es:List Ed) (r' s':Int) (es':List Ed):∃ rr rs res b,IntIs r s es r' s' es' rr rs res b:=by
 by_cases h:IntOk r s es r' s' es'
 ·exact ⟨_,_,_,_,.inl ⟨rfl,h,rfl,rfl,rfl⟩⟩
 ·exact ⟨_,_,_,_,.inr ⟨rfl,h,rfl,rfl,rfl⟩⟩
theorem IntIs.no {r s:Int} {es:List Ed} {r' s':Int} {es':List Ed} {rr rs:Int} {res:List Ed} {b:Bool} (h:IntIs r s es r' s' es' rr rs res b) (hn:¬ IntOk r s es r' s' es'):b=false∧rr=0∧rs=0∧res=[]:=by
 rcases h with ⟨-,h, -⟩ | ⟨h1, -,h2⟩
 ·exact absurd h hn
 ·exact ⟨h1,h2⟩
theorem IntIs.yes {r s:Int} {es:List Ed} {r' s':Int} {es':List Ed} {rr rs:Int} {res:List Ed} {b:Bool} (h:IntIs r s es r' s' es' rr rs res b) (hn:IntOk r s es r' s' es'):b=true∧r=rr∧rs=(coreA r (pullG r es es')).1∧res=(coreA r (pullG r es es')).2:=by
 rcases h with ⟨h1, -,h2,h3⟩ | ⟨-,h, -⟩
 ·exact ⟨h1,h2.symm,h3⟩
 ·exact absurd hn h
theorem pullG_gr {r s:Int} {es:List Ed} {r' s':Int} {es':List Ed} (h:PullOk r s es r' s' es' 0 0):IsGr r (pullG r es es').1 (pullG r es es').2:=by
 unfold pullG;dsimp only;exact pull_gr h
theorem IntIs.lens {r s:Int} {es:List Ed} {r' s':Int} {es':List Ed} {rr rs:Int} {res:List Ed} {b:Bool} (h:IntIs r s es r' s' es' rr rs res b):res.length≤120:=by
 rcases h with ⟨-,h, -, -,e⟩ | ⟨-, -, -, -,e⟩
 ·rw [e]
  exact (coreA_gr (pullG_gr h.2.2)).len
 ·rw [e]
  simp
theorem spec_IntersectionOf (r s:Int) (A:Option Addr) (es:List Ed) (c:Nat) (r' s':Int) (B:Option Addr) (es':List Ed) (d:Nat) (w:World) (lo hi lo2 hi2:Nat) (hr:RG w lo hi A es) (hr2:RG w lo2 hi2 B es') (hl:es.length≤1048576) (hl2:es'.length≤1048576) (rr rs:Int) (res:List Ed) (b:Bool) (hres:IntIs r s es r' s' es' rr rs res b) :
  Calls Tryz.prog 16 #[graV r s A es.length c,graV r' s' B es'.length d] w fun e w'=>∃ A1 c1,e=.returned (.tuple #[graV rr rs A1 res.length c1,.bool b])∧OG w' w.heap.size w'.heap.size A1 c1 res∧Mid 0 0 w w':=by
 have hm0:Mid 0 0 w (((w.alloc (.cells #[.int .i64 r,.int .i64 s,.slice A es.length c] 26)).alloc (.cells #[.int .i64 r',.int .i64 s',.slice B es'.length d] 26)).alloc (.cells #[.int .i64 0,.int .i64 0,.slice none 0 0] 26)):=((Mid.alloc _ _).trans (Mid.alloc _ _)).trans (Mid.alloc _ _);have B0:=((Box.new w #[.int .i64 r,.int .i64 s,.slice A es.length c] 26).mid (Mid.alloc _ (.cells #[.int .i64 r',.int .i64 s',.slice B es'.length d] 26)) oZr).mid (Mid.alloc _ (.cells #[.int .i64 0,.int .i64 0,.slice none 0 0] 26)) oZr;have B1:=(Box.new (w.alloc (.cells #[.int .i64 r,.int .i64 s,.slice A es.length c] 26)) #[.int .i64 r',.int .i64 s',.slice B es'.length d] 26).mid (Mid.alloc _ (.cells #[.int .i64 0,.int .i64 0,.slice none 0 0] 26)) oZr;have B2:=Box.new ((w.alloc (.cells #[.int .i64 r,.int .i64 s,.slice A es.length c] 26)).alloc (.cells #[.int .i64 r',.int .i64 s',.slice B es'.length d] 26)) #[.int .i64 0,.int .i64 0,.slice none 0 0] 26;simp only [World.size_alloc] at B1 B2;have HR:=Lib.hid hres;clear hres;go_enter Tryz.func16,Tryz.ntmps16
 go_wp2_with fail;generalize ((w.alloc (.cells #[.int .i64 r,.int .i64 s,.slice A es.length c] 26)).alloc (.cells #[.int .i64 r',.int .i64 s',.slice B es'.length d] 26)).alloc (.cells #[.int .i64 0,.int .i64 0,.slice none 0 0] 26)=w1 at hm0 B0 B1 B2 ⊢;have hs1:w.heap.size+1+1 < w1.heap.size:=B2.1;obtain ⟨b1,hb1⟩:=bool_of (IsCor r s es);have H1:=Lib.hid hb1;obtain ⟨b2,hb2⟩:=bool_of (IsCor r' s' es');have H2:=Lib.hid hb2;clear hb1 hb2;with_reducible refine (spec_IsSubgroup r s A es c _ _ _ (hr.mid hm0 oZl) hl b1 H1.out).mono ?_
 rintro en w2 ⟨rfl,hm2⟩;replace B0:=B0.mid hm2 oZr;replace B1:=B1.mid hm2 oZr;replace B2:=B2.mid hm2 oZr;replace hm0:=hm0.trans hm2;have hs2:=hm2.size;have p0:=B0.cell 0 rfl;have p1:=B0.cell 1 rfl;have p2:=B0.cell 2 rfl;have k0:=B1.cell 0 rfl;have k1:=B1.cell 1 rfl;have k2:=B1.cell 2 rfl;cases b1 with
 | false =>
  have hno:¬ IntOk r s es r' s' es':=fun h=>by have:=H1.out.2 h.1;cases this
  obtain ⟨rfl,rfl,rfl,rfl⟩:=HR.out.no hno;have z0:=B2.cell 0 rfl;have z1:=B2.cell 1 rfl;have z2:=B2.cell 2 rfl;have zf:=B2.2.2;clear p0 p1 p2 k0 k1 k2;go_wp2_with fail;refine bodyPost_ret (v:=.tuple #[.agg #[.int .i64 0,.int .i64 0,.slice none 0 0],.bool false]) (by simp [results,Tryz.results16,go_sem,z0,z1,z2,zf]) rfl ⟨none,0,rfl,OG.nil,?_⟩;repeat (first | exact hm0 | refine Mid.trans ?_ (Mid.alloc _ _) | refine Mid.storeNew ?_ (by simp;try omega) _)
 | true =>
 have C1:=Lib.hid (H1.out.1 rfl);clear H1;go_wp2_with fail;with_reducible refine (spec_IsSubgroup r' s' B es' d _ _ _ (hr2.mid hm0 oZl) hl2 b2 H2.out).mono ?_
 rintro en w3 ⟨rfl,hm3⟩;replace B0:=B0.mid hm3 oZr;replace B1:=B1.mid hm3 oZr;replace B2:=B2.mid hm3 oZr;replace hm0:=hm0.trans hm3;have hs3:=hm3.size;clear p0 p1 p2 k0 k1 k2;have p0:=B0.cell 0 rfl;have p1:=B0.cell 1 rfl;have p2:=B0.cell 2 rfl;have k0:=B1.cell 0 rfl;have k1:=B1.cell 1 rfl;have k2:=B1.cell 2 rfl;cases b2 with
 | false =>
  have hno:¬ IntOk r s es r' s' es':=fun h=>by have:=H2.out.2 h.2.1;cases this
  obtain ⟨rfl,rfl,rfl,rfl⟩:=HR.out.no hno;have z0:=B2.cell 0 rfl;have z1:=B2.cell 1 rfl;have z2:=B2.cell 2 rfl;have zf:=B2.2.2;clear p0 p1 p2 k0 k1 k2;go_wp2_with fail;refine bodyPost_ret (v:=.tuple #[.agg #[.int .i64 0,.int .i64 0,.slice none 0 0],.bool false]) (by simp [results,Tryz.results16,go_sem,z0,z1,z2,zf]) rfl ⟨none,0,rfl,OG.nil,?_⟩;repeat (first | exact hm0 | refine Mid.trans ?_ (Mid.alloc _ _) | refine Mid.storeNew ?_ (by simp;try omega) _)
 | true =>
 have C2:=Lib.hid (H2.out.1 rfl);clear H2;by_cases hp:PullOk r s es r' s' es' 0 0
 ·obtain ⟨hb,hrr,hrs,hre⟩:=HR.out.yes ⟨C1.out,C2.out,hp⟩
  have hgp:=pull_gr hp;have hPI:PullIs r s es r' s' es' 0 0 r ((pairsOf es es' (lets r.toNat) (0,0)).length:Int) (pullE r es es' 0 0) true:=.inl ⟨rfl,hp,rfl,rfl,rfl⟩;unfold pullG at hrs hre;obtain ⟨n,hn⟩:∃ n:Nat,(pairsOf es es' (lets r.toNat) (0,0)).length=n:=⟨_,rfl⟩
  obtain ⟨ms,hms⟩:∃ ms,pullE r es es' 0 0=ms:=⟨_,rfl⟩
  rw [hn,hms] at hgp hPI hrs hre;have HPI:=Lib.hid hPI;have HGP:=Lib.hid hgp;obtain ⟨rn,rfl⟩:∃ rn:Nat,r=rn:=⟨r.toNat,by have:=hgp.rank;omega⟩
  obtain ⟨q,qs,hQ, -⟩:=nat_gr (coreA_gr (g:=((n:Int),ms)) hgp);have hP:=fun W lo hi A c h=>spec_CoreGraph rn n A ms c W lo hi h HGP.out;have hml:=hgp.len;rw [hQ] at hP hrs hre;dsimp only at hP hrs hre;have HP:=Lib.hid hP;have HALL:=Lib.hid (And.intro hb (And.intro hrr (And.intro hrs hre)));clear hP hQ hb hrr hrs hre hp hgp hn hms hPI HR;go_wp2_with fail;with_reducible refine (spec_PullbackAt rn s A es c r' s' B es' d 0 0 _ _ _ _ _ (hr.mid hm0 oZl) (hr2.mid hm0 oZl) hl hl2 rn n ms true HPI.out).mono ?_
  rintro en w4 ⟨A4,c4,rfl,ho4,hm4⟩;have hs4:=hm4.size;have ha4:=Mid.alloc w4 (.cells #[.int .i64 rn,.int .i64 n,.slice A4 ms.length c4] 26);have Y4:=Box.new w4 #[.int .i64 rn,.int .i64 n,.slice A4 ms.length c4] 26;replace B2:=B2.mid hm4 oZr;replace hm0:=hm0.trans hm4;replace B2:=B2.mid ha4 oZr;replace ho4:=ho4.mid ha4 oZl;replace hm0:=hm0.trans ha4;clear p0 p1 p2 k0 k1 k2;have y0:=Y4.cell 0 rfl;have y1:=Y4.cell 1 rfl;have y2:=Y4.cell 2 rfl;go_wp2_with fail;with_reducible refine (HP.out _ _ _ _ _ (OG.rg ho4)).mono ?_
  rintro en w5 ⟨A5,c5,rfl,ho5,hm5⟩;clear HP y0 y1 y2;have hs5:=hm5.size;replace B2:=B2.mid hm5 oZr;replace hm0:=hm0.trans hm5;have hb5:=B2.1;have z0:=B2.cell 0 rfl;have z1:=B2.cell 1 rfl;have z2:=B2.cell 2 rfl;have zf:=B2.2.2;go_wp2_with fail;refine bodyPost_ret (v:=.tuple #[.agg #[.int .i64 rn,.int .i64 q,.slice A5 qs.length c5],.bool true]) (by simp [results,Tryz.results16,go_sem,z0,z1,z2,zf]) rfl ⟨A5,c5,by rw [HALL.out.1,← HALL.out.2.1,HALL.out.2.2.1,HALL.out.2.2.2],?_,?_⟩
  ·rw [HALL.out.2.2.2]
   refine OG.wide (OG.mid ho5 (a:=w.heap.size+2) (b:=w.heap.size+3) ?_ (Or.inl (by simp;omega))) (by simp;omega) (by simp) (Nat.le_refl _);repeat (first | exact Mid.refl _ _ _ | refine Mid.stored ?_ _ (by simp;try omega) (by simp;try omega))
  ·repeat (first | exact hm0 | refine Mid.storeNew ?_ (by simp;try omega) _)
 ·have hno:¬ IntOk r s es r' s' es':=fun h=>hp h.2.2
  obtain ⟨rfl,rfl,rfl,rfl⟩:=HR.out.no hno;have HPI:Hid (PullIs r s es r' s' es' 0 0 0 0 [] false):=Lib.hid (.inr ⟨rfl,hp,rfl,rfl,rfl⟩);clear hno hp HR;go_wp2_with fail;with_reducible refine (spec_PullbackAt r s A es c r' s' B es' d 0 0 _ _ _ _ _ (hr.mid hm0 oZl) (hr2.mid hm0 oZl) hl hl2 0 0 [] false HPI.out).mono ?_
  rintro en w4 ⟨A4,c4,rfl,ho4,hm4⟩;replace B2:=B2.mid hm4 oZr;replace hm0:=hm0.trans hm4;have hb22:w.heap.size+1+1 < w4.heap.size:=B2.1;have z0:=B2.cell 0 rfl;have z1:=B2.cell 1 rfl;have z2:=B2.cell 2 rfl;have zf:=B2.2.2;clear p0 p1 p2 k0 k1 k2;go_wp2_with fail;refine bodyPost_ret (v:=.tuple #[.agg #[.int .i64 0,.int .i64 0,.slice none 0 0],.bool false]) (by simp [results,Tryz.results16,go_sem,z0,z1,z2,zf,hb22,World.cell?_alloc_lt]) rfl ⟨none,0,rfl,OG.nil,?_⟩;repeat (first | exact hm0 | refine Mid.trans ?_ (Mid.alloc _ _) | refine Mid.storeNew ?_ (by simp;try omega) _)
end
section
open Go.RowKit
theorem glue_homL {s:Int} {es es':List Ed}:Hom 0 es (canon (es++glueE s es')) id:=hom_id fun e he=>mem_canon.2 (List.mem_append_left _ he)
theorem glue_homR {r s s':Int} {es es':List Ed} (hg:∀ e∈es',InG r s' e):Hom 0 es' (canon (es++glueE s es')) (glueV s):=by
 refine hom_edges hg rfl fun e he=>?_;have hi:=hg e he;unfold InG at hi;have hm:glueF s e∈canon (es++glueE s es'):=mem_canon.2 (List.mem_append_right _ (List.mem_map.2 ⟨e,he,rfl⟩));have:=sp_edge hm (by simp only [glueF];omega)
 simpa [glueF] using this
theorem glue_hom {r s:Int} {es:List Ed} {r' s':Int} {es':List Ed} (h:GlueOk r s es r' s' es') {fs:List Ed} {f f':Int→Int} (hf:Hom 0 es fs f) (hf':Hom 0 es' fs f') :
  Hom 0 (canon (es++glueE s es')) fs (fun v=>if v < s then f v else f' (v - s+1)):=by
 have hs:=h.g1.size;refine hom_edges (glue_gr h).all (by rw [if_pos (by omega)];exact hf.1) fun e he=>?_;rcases List.mem_append.1 (mem_canon.1 he) with h1 | h1
 ·have hi:=h.g1.all e h1
  unfold InG at hi;rw [if_pos (by omega),if_pos (by omega)];exact hf.2 _ _ _ (sp_edge h1 (by omega))
 ·obtain ⟨e',he',rfl⟩:=List.mem_map.1 h1
  have hi:=h.g2.all e' he';unfold InG at hi;have key:∀ v,0≤v→(if glueV s v < s then f (glueV s v) else f' (glueV s v - s+1))=f' v:=by
   intro v hv;unfold glueV;by_cases h0:v=0
   ·subst h0
    rw [if_pos rfl,if_pos (by omega),hf.1,hf'.1]
   ·rw [if_neg h0,if_neg (by omega)]
    congr 1
    omega
  show Sp fs (if glueV s e'.a < s then f (glueV s e'.a) else f' (glueV s e'.a - s+1)) e'.l (if glueV s e'.b < s then f (glueV s e'.b) else f' (glueV s e'.b - s+1))
  rw [key e'.a (by omega),key e'.b (by omega)];exact hf'.2 _ _ _ (sp_edge he' (by omega))
theorem glue_rch {r s:Int} {es:List Ed} {r' s':Int} {es':List Ed} (h:GlueOk r s es r' s' es') (hr:Rch s es) (hr':Rch s' es'):Rch (s+s' - 1) (canon (es++glueE s es')):=fun v h0 h1=>by
 rcases Int.lt_or_le v s with hlt | hge
 ·obtain ⟨q,hq⟩:=hr v h0 hlt
  exact ⟨q,glue_homL.pa hq⟩
 ·obtain ⟨q,hq⟩:=hr' (v - s+1) (by omega) (by omega)
  have hp:=(glue_homR (s:=s) (es:=es) h.g2.all).pa hq;have hs:=h.g1.size;rw [show glueV s 0=0 from rfl,show glueV s (v - s+1)=v by unfold glueV;rw [if_neg (by omega)];omega] at hp;exact ⟨q,hp⟩
structure JoinFacts (r s:Int) (es:List Ed) (r' s':Int) (es':List Ed) (rr rs:Int) (res:List Ed):Prop where
 c1:IsCor r s es
 c2:IsCor r' s' es'
 rk:r'=r
 rr':rr=r
 cor:IsCor r rs res
 in1:∀ w,LtW w→InS es w→InS res w
 in2:∀ w,LtW w→InS es' w→InS res w
 least:∀ {q t:Int} {fs:List Ed},IsFol q t fs→(∀ w,LtW w→InS es w→InS fs w)→(∀ w,LtW w→InS es' w→InS fs w)→∀ w,LtW w→InS res w→InS fs w
 rank:rankI r rs res≤rankI r s es+rankI r' s' es'
theorem inside_hom {r s:Int} {es:List Ed} {r' s':Int} {es':List Ed} (h:IsCor r s es) (h':IsFol r' s' es') (hi:∀ w,LtW w→InS es w→InS es' w):∃ f,Hom 0 es es' f:=by
 obtain ⟨a,n,rfl,rfl⟩:=h.gr.nat;obtain ⟨f,hf⟩:=hom_of_basis h h' ((inside_iff h h').2 hi);exact ⟨f,hf.1,hf.2⟩
theorem join_facts {r s:Int} {es:List Ed} {r' s':Int} {es':List Ed} {rr rs:Int} {res:List Ed} (h:JoinIs r s es r' s' es' rr rs res true):JoinFacts r s es r' s' es' rr rs res:=by
 rcases h with ⟨-,⟨hg,hc,hc'⟩,rfl,rfl,rfl⟩ | ⟨h, -⟩
 ·have hgr:=glue_gr hg
  have hcor:=core_cor hgr;have hrc:=glue_rch hg hc.rch hc'.rch;refine ⟨hc,hc',hg.rk.symm,rfl,hcor,fun w lw hw=>core_in hgr glue_homL lw hw,fun w lw hw=>core_in hgr (glue_homR hg.g2.all) lw hw,?_,?_⟩
  ·intro q t fs hfs h1 h2 w lw hw
   obtain ⟨f,hf⟩:=inside_hom hc hfs h1;obtain ⟨f',hf'⟩:=inside_hom hc' hfs h2;exact core_hom hgr hfs (glue_hom hg hf hf') lw hw
  ·have h1:=core_chi hgr hrc
   have h2:=canon_len (es++glueE s es');unfold glueE at h2;rw [List.length_append,List.length_map] at h2;rw [rankI_cor hcor,rankI_cor hc,rankI_cor hc'];unfold chi at h1;unfold glueE at h1 ⊢;simp only at h1;omega
 ·cases h
theorem join_inside {r s:Int} {es:List Ed} {r' s':Int} {es':List Ed} {rr rs:Int} {res:List Ed} (h:JoinFacts r s es r' s' es' rr rs res):Inside r s es r' s' es'↔rr=r'∧rs=s'∧res=es':=by
 obtain ⟨c1,c2,rfl,rfl,cor,in1,in2,least,rank⟩:=h;constructor
 ·intro hi
  obtain ⟨h1,h2⟩:=core_uniqI cor c2 fun w lw=>⟨least c2.fol (inside_lang hi) (fun _ _ hw=>hw) w lw,in2 w lw⟩
  exact ⟨rfl,h1,h2⟩
 ·rintro ⟨-,rfl,rfl⟩
  exact inside_of c1 c2 in1
theorem join_in {r s:Int} {es:List Ed} {r' s':Int} {es':List Ed} {rr rs:Int} {res:List Ed} (h:JoinFacts r s es r' s' es' rr rs res):Inside r s es rr rs res∧Inside r' s' es' rr rs res:=by
 obtain ⟨c1,c2,rfl,rfl,cor,in1,in2,least,rank⟩:=h;exact ⟨inside_of c1 cor in1,inside_of c2 cor in2⟩
structure MeetFacts (r s:Int) (es:List Ed) (r' s':Int) (es':List Ed) (rr rs:Int) (res:List Ed):Prop where
 c1:IsCor r s es
 c2:IsCor r' s' es'
 rk:r'=r
 rr':rr=r
 cor:IsCor r rs res
 lang:∀ w,LtW w→(InS res w↔InS es w∧InS es' w)
theorem meet_facts {r s:Int} {es:List Ed} {r' s':Int} {es':List Ed} {rr rs:Int} {res:List Ed} (h:IntIs r s es r' s' es' rr rs res true):MeetFacts r s es r' s' es' rr rs res:=by
 rcases h with ⟨-,⟨hc,hc',hp⟩,e1,e2,e3⟩ | ⟨h, -⟩
 ·have hrk:=hp.rk
  subst hrk;have hg:=pullG_gr hp;have hf:IsFol r (pullG r es es').1 (pullG r es es').2:=by
   unfold pullG;dsimp only;exact pull_fol hp.f1 hp.f2 hp
  have hpi:=fun w=>pull_inS hp.f1 hp.f2 hp.pin w;have e0:(pullG r es es').2=pullE r es es' 0 0:=by
   unfold pullG;dsimp only
  rw [← e0] at hpi;have hcr:=core_cor hg;have hcl:=fun w (lw:LtW w)=>core_lang hg lw;generalize pullG r es es'=G at hg hf hpi hcr hcl e2 e3;obtain ⟨gs,ge⟩:=G;simp only at hg hf hpi hcr hcl;rw [← e2,← e3] at hcr;rw [← e3] at hcl;exact ⟨hc,hc',rfl,e1,hcr,fun w lw=>(hcl w lw).trans ((genL_inS hf lw).trans (hpi w))⟩
 ·cases h
theorem meet_inside {r s:Int} {es:List Ed} {r' s':Int} {es':List Ed} {rr rs:Int} {res:List Ed} (h:MeetFacts r s es r' s' es' rr rs res):Inside r s es r' s' es'↔rr=r∧rs=s∧res=es:=by
 obtain ⟨c1,c2,rfl,rfl,cor,lang⟩:=h;constructor
 ·intro hi
  obtain ⟨h1,h2⟩:=core_uniqI cor c1 fun w lw=>(lang w lw).trans ⟨fun h=>h.1,fun h=>⟨h,inside_lang hi w lw h⟩⟩;exact ⟨rfl,h1,h2⟩
 ·rintro ⟨-,rfl,rfl⟩
  exact inside_of c1 c2 fun w lw hw=>((lang w lw).1 hw).2
structure WordFacts (r s:Int) (es:List Ed) (wd:List Int) (rr rs:Int) (res:List Ed):Prop where
 c1:IsCor r s es
 wd':IsW r wd
 rr':rr=r
 cor:IsCor r rs res
 in1:∀ w,LtW w→InS es w→InS res w
 inw:InS res wd
 same:InS es wd→rs=s∧res=es
 rank:rankI r rs res≤rankI r s es+1
theorem word_facts {r s:Int} {es:List Ed} {wd:List Int} {rr rs:Int} {res:List Ed} (h:JwIs r s es wd rr rs res true):WordFacts r s es wd rr rs res:=by
 rcases h with ⟨-,h,rfl⟩ | ⟨h, -⟩
 ·unfold jwA at h
  split at h
  ·rename_i hc
   obtain ⟨hc,hw⟩:=hc;obtain ⟨lw,rw'⟩:=isW_lt hw;split at h
   ·rename_i h0
    subst h0;injection h with h
    injection h with h1 h2
    subst h1 h2;exact ⟨hc,hw,rfl,hc,fun _ _ h=>h,InS.nil _,fun _=>⟨rfl,rfl⟩,by omega⟩
   ·rename_i hne
    split at h
    ·rename_i hp
     injection h with h
     have e1:rs=(coreA rr (s+(wd.length:Int) - 1,canon (es++pathE 0 s wd 0 wd.length))).1:=by rw [h]
     have e2:res=(coreA rr (s+(wd.length:Int) - 1,canon (es++pathE 0 s wd 0 wd.length))).2:=by rw [h]
     have hz:∀ x∈wd,x≠0:=fun x hx=>(lw x hx).1;have hgr:=path_gr hp;have hcor:=core_cor hgr;rw [← e1,← e2] at hcor;have i1:∀ w,LtW w→InS es w→InS res w:=fun w l hw=>by
      rw [e2];exact core_in hgr (hom_id fun e he=>mem_canon.2 (List.mem_append_left _ he)) l hw
     refine ⟨hc,hw,rfl,hcor,i1,?_,?_,?_⟩
     ·rw [e2]
      exact (core_lang hgr lw).2 ⟨wd,lw,rfl,petal_loop hz hne⟩
     ·intro hin
      refine core_uniqI hcor hc fun w l=>⟨fun hw=>?_,i1 w l⟩
      have hp2:Pa es 0 wd 0:=by
       unfold InS at hin
       rwa [red_self rw' lw] at hin
      obtain ⟨f',hf'⟩:=petal_hom hc.gr.all hc.gr.size.1 hc.fol (hom_id (es:=es) (fs:=es) fun e he=>he) hz hp2;rw [e2] at hw;exact core_hom hgr hc.fol hf' l hw
     ·have h1:=core_chi hgr (petal_rch (r:=rr) hc.rch hz)
      have h2:=canon_len (es++pathE 0 s wd 0 wd.length);rw [List.length_append,pathE_len] at h2;rw [rankI_cor hcor,rankI_cor hc];unfold chi at h1;rw [← e1,← e2] at h1;simp only at h1;omega
    ·cases h
  ·cases h
 ·cases h
theorem word_same {r s:Int} {es:List Ed} {wd:List Int} {rr rs:Int} {res:List Ed} (h:WordFacts r s es wd rr rs res):(rr=r∧rs=s∧res=es)↔InS es wd:=by
 constructor
 ·rintro ⟨-,rfl,rfl⟩
  exact h.inw
 ·intro hi
  exact ⟨h.rr',h.same hi⟩
theorem word_in {r s:Int} {es:List Ed} {wd:List Int} {rr rs:Int} {res:List Ed} (h:WordFacts r s es wd rr rs res):Inside r s es rr rs res:=by
 obtain ⟨c1,hw,rfl,cor,in1,inw,same,rank⟩:=h;exact inside_of c1 cor in1
theorem ext_le {r s:Int} {es:List Ed} {wd:List Int} {rr rs:Int} {res:List Ed} {b:Bool} (h:JwIs r s es wd rr rs res b):seI r s es rr rs res b≤1:=by
 unfold seI;split
 ·rename_i hb
  subst hb;have hf:=word_facts h;have h1:=hf.rank;rw [hf.rr'];omega
 ·omega
end
section
open Go.RowKit
theorem and255 (n:Int):bits .and .i64 n 255=n % 256:=by
 have h255:(BitVec.ofInt 64 255).toNat=2 ^ 8 - 1:=by decide
 have key:(BitVec.ofInt 64 n &&& BitVec.ofInt 64 255).toNat=(n % ((2 ^ 64:Nat):Int)).toNat % 2 ^ 8:=by
  rw [BitVec.toNat_and,BitVec.toNat_ofInt,h255,Nat.and_two_pow_sub_one_eq_mod]
 show IntKind.i64.wrap ((BitVec.ofInt 64 n &&& BitVec.ofInt 64 255).toNat:Nat)=n % 256
 rw [key,IntKind.wrap_i64];omega
theorem and30 (n:Int):bits .and .i64 n 1073741823=n % 1073741824:=by
 have h30:(BitVec.ofInt 64 1073741823).toNat=2 ^ 30 - 1:=by decide
 have key:(BitVec.ofInt 64 n &&& BitVec.ofInt 64 1073741823).toNat=(n % ((2 ^ 64:Nat):Int)).toNat % 2 ^ 30:=by
  rw [BitVec.toNat_and,BitVec.toNat_ofInt,h30,Nat.and_two_pow_sub_one_eq_mod]
 show IntKind.i64.wrap ((BitVec.ofInt 64 n &&& BitVec.ofInt 64 1073741823).toNat:Nat)=n % 1073741824
 rw [key,IntKind.wrap_i64];omega
def byts (xs:List Int):List Value:=xs.map (Value.int .u8)
theorem byts_len (xs:List Int):(byts xs).length=xs.length:=by simp [byts]
def OkB (xs:List Int):Prop:=∀ x∈xs,0≤x∧x≤255
theorem Rs.byte {w:World} {B:Nat} {A:Option Addr} {xs:List Int} (h:Rs w B A (byts xs)) {k:Nat} (hk:k < xs.length) :
  ∃ b off x,A=some ⟨b,off,none⟩∧b < B∧xs[k]?=some x∧w.cell? ⟨b,off+k,none⟩=some (.int .u8 x):=by
 obtain ⟨b,off,u,e,hb,hu,hc⟩:=h.at (j:=k) (by rw [byts_len];exact hk);obtain ⟨x,hx⟩:=get_of_lt xs hk;unfold byts at hu;rw [List.getElem?_map,hx] at hu;simp at hu;subst hu;exact ⟨b,off,x,e,hb,hx,hc⟩
def Cur (w:World) (p:Nat) (A:Option Addr) (bs:List Int) (c:Nat):Prop :=
 ∃ (i:Nat) (h:Int),i≤bs.length∧(-9223372036854775808≤h∧h≤9223372036854775807)∧Box w p [.slice A bs.length c,.int .i64 i,.int .i64 h]∧RV w 0 p A (byts bs)
theorem Cur.mid {w w':World} {p:Nat} {A:Option Addr} {bs:List Int} {c a b:Nat} (h:Cur w p A bs c) (m:Mid a b w w') (hd:p < a ∨ b=0):Cur w' p A bs c:=by
 obtain ⟨i,x,h1,h2,h3,h4⟩:=h;exact ⟨i,x,h1,h2,h3.mid m (by omega),h4.mid m (by omega)⟩
theorem Cur.lt {w:World} {p:Nat} {A:Option Addr} {bs:List Int} {c:Nat} (h:Cur w p A bs c):p < w.heap.size:=by
 obtain ⟨i,x,h1,h2,h3,h4⟩:=h;exact h3.1
theorem l1Byte_any (p:Nat) (A:Option Addr) (bs:List Int) (c:Nat) (w:World) (hb:OkB bs) (hl:bs.length≤1048576) (h:Cur w p A bs c) :
  Calls Tryz.prog 191 #[.pointer (some ⟨p,0,none⟩)] w fun e w'=>∃ x:Nat,e=.returned (.int .i64 x)∧x < 256∧Cur w' p A bs c∧Mid p (p+1) w w':=by
 obtain ⟨i,s,hi,hs,hbox,hrv⟩:=h;have cc0:=hbox.cell 0 rfl;have cc1:=hbox.cell 1 rfl;have cc2:=hbox.cell 2 rfl;have hfz:=hbox.2.2;have hpw:=hbox.1;go_enter Tryz.func191,Tryz.ntmps191
 go_wp2_with fail;obtain ⟨s2,hs2⟩:∃ x,wrap64 (wrap64 (s * 6364136223846793005)+1442695040888963407)=x:=⟨_,rfl⟩
 have hs2b:-9223372036854775808≤s2∧s2≤9223372036854775807:=by rw [← hs2];unfold wrap64;omega
 rw [hs2];clear hs2;have hbox1:=hbox.set 2 (.int .i64 s2) (by simp) rfl;have hm1:Mid p (p+1) w (w.setCell ⟨p,2,none⟩ (.int .i64 s2)):=Mid.setCell w _ (Nat.le_refl _) (Nat.lt_succ_self _);have hrv1:=hrv.mid hm1 (Or.inr (Nat.le_refl _));generalize w.setCell ⟨p,2,none⟩ (.int .i64 s2)=w1 at hbox1 hm1 hrv1 ⊢;clear cc0 cc1 cc2 hbox hrv hpw hfz;have cc0:=hbox1.cell 0 rfl;have cc1:=hbox1.cell 1 rfl;have cc2:=hbox1.cell 2 rfl;have hfz:=hbox1.2.2;have hpw:=hbox1.1;go_quiet (fail)
 go_wp2_with fail;obtain ⟨x1,hx1⟩:∃ x:Nat,bits BinOp.and IntKind.i64 (bits BinOp.xor IntKind.i64 (s2 / 8589934592) (s2 / 35184372088832)) 255=x:=⟨_,(Int.toNat_of_nonneg (by rw [and255];omega)).symm⟩
 have hx1b:x1 < 256:=by rw [and255] at hx1;omega
 rw [hx1];clear hx1;have hm2:=hm1.drewN nq;have hbox2:=hbox1.drewN nq;have hrv2:RV (w1.drewN nq) 0 p A (byts bs):=hrv1;generalize w1.drewN nq=w2 at hbox2 hm2 hrv2 ⊢;clear cc0 cc1 cc2 hbox1 hrv1 hpw hfz hm1;have cc0:=hbox2.cell 0 rfl;have cc1:=hbox2.cell 1 rfl;have cc2:=hbox2.cell 2 rfl;have hfz:=hbox2.2.2;have hpw:=hbox2.1;by_cases hlt:i < bs.length
 ·go_quiet (fail)
  have hm3:=hm2.drewN nq;have hbox3:=hbox2.drewN nq;have hrv3:RV (w2.drewN nq) 0 p A (byts bs):=hrv2;generalize w2.drewN nq=w3 at hbox3 hm3 hrv3 ⊢;clear cc0 cc1 cc2 hbox2 hrv2 hpw hfz hm2;have cc0:=hbox3.cell 0 rfl;have cc1:=hbox3.cell 1 rfl;have cc2:=hbox3.cell 2 rfl;have hfz:=hbox3.2.2;have hpw:=hbox3.1;go_wp2_with fail;obtain ⟨B,off,y,rfl,hB,hy,hcy⟩:=hrv3.rs.byte hlt;have hyb:=hb y (List.mem_of_getElem? hy);clear hy;go_quiet (fail)
  go_wp2_with fail;obtain ⟨x2,hx2⟩:∃ x:Nat,bits BinOp.and IntKind.i64 ((x1:Int)+y) 255=x:=⟨_,(Int.toNat_of_nonneg (by rw [and255];omega)).symm⟩
  have hx2b:x2 < 256:=by rw [and255] at hx2;omega
  rw [hx2];go_ret;have hm4:=(hm3.drewN nq).trans (Mid.setCell (w3.drewN nq) (p:=⟨p,1,none⟩) (.int .i64 ((i:Int)+1)) (Nat.le_refl _) (Nat.lt_succ_self _));refine ⟨x2,rfl,hx2b,⟨i+1,s2,by omega,hs2b,?_,?_⟩,hm4⟩
  ·simpa using (hbox3.drewN nq).set 1 (.int .i64 ((i:Int)+1)) (by simp) rfl
  ·exact RV.mid (w:=w3.drewN nq) hrv3 (Mid.setCell (w3.drewN nq) (p:=⟨p,1,none⟩) (.int .i64 ((i:Int)+1)) (Nat.le_refl _) (Nat.lt_succ_self _)) (Or.inr (Nat.le_refl _))
 ·go_quiet (fail)
  go_wp2_with fail;go_ret;exact ⟨x1,rfl,hx1b,⟨i,s2,hi,hs2b,hbox2.drewN _,hrv2⟩,hm2.drewN _⟩
theorem l1Below_pos (n:Nat) (hn:0 < n) (hn2:n≤1048576) (p:Nat) (A:Option Addr) (bs:List Int) (c:Nat) (w:World) (hb:OkB bs) (hl:bs.length≤1048576) (h:Cur w p A bs c) :
  Calls Tryz.prog 127 #[.pointer (some ⟨p,0,none⟩),.int .i64 n] w fun e w'=>∃ x:Nat,e=.returned (.int .i64 x)∧x < n∧Cur w' p A bs c∧Mid p (p+1) w w':=by
 have hn0:¬ n=0:=by omega
 by_cases hs:n≤256
 ·go_enter Tryz.func127,Tryz.ntmps127
  go_wp2_with fail;with_reducible refine (l1Byte_any p A bs c _ hb hl h).mono ?_
  rintro e w1 ⟨x,rfl,hx,h1,m1⟩;go_wp2_with fail;go_ret;exact ⟨x % n,rfl,Nat.mod_lt _ hn,h1,m1⟩
 ·go_enter Tryz.func127,Tryz.ntmps127
  go_wp2_with fail;with_reducible refine (l1Byte_any p A bs c _ hb hl h).mono ?_
  rintro e w1 ⟨x,rfl,hx,h1,m1⟩;go_wp2_with fail;with_reducible refine (l1Byte_any p A bs c _ hb hl h1).mono ?_
  rintro e w2 ⟨y,rfl,hy,h2,m2⟩;go_wp2_with fail;with_reducible refine (l1Byte_any p A bs c _ hb hl h2).mono ?_
  rintro e w3 ⟨z,rfl,hz,h3,m3⟩;go_wp2_with fail;with_reducible refine (l1Byte_any p A bs c _ hb hl h3).mono ?_
  rintro e w4 ⟨t,rfl,ht,h4,m4⟩;go_wp2_with fail;go_ret;exact ⟨(x * 16777216+y * 65536+z * 256+t) % n,by simp,Nat.mod_lt _ hn,h4,((m1.trans m2).trans m3).trans m4⟩
theorem l1Once_any (n:Nat) (hn:0 < n) (hn2:n≤1048576) (p:Nat) (A:Option Addr) (bs:List Int) (c:Nat) (w:World) (hb:OkB bs) (hl:bs.length≤1048576) (h:Cur w p A bs c) :
  Calls Tryz.prog 125 #[.pointer (some ⟨p,0,none⟩),.int .i64 n] w fun e w'=>∃ x:Bool,e=.returned (.bool x)∧Cur w' p A bs c∧Mid p (p+1) w w':=by
 go_enter Tryz.func125,Tryz.ntmps125
 go_wp2_with fail;with_reducible refine (l1Below_pos n hn hn2 p A bs c _ hb hl h).mono ?_
 rintro e w1 ⟨x,rfl,hx,h1,m1⟩;go_wp2_with fail;all_goals
  go_ret;exact ⟨_,rfl,h1,m1⟩
theorem l1PickInt_any (B:Option Addr) (xs:List Int) (d:Nat) (hne:0 < xs.length) (hln:xs.length≤1048576) (p:Nat) (A:Option Addr) (bs:List Int) (c:Nat) (w:World) (lo hi:Nat) (hx:RI w lo hi B xs) (hp:p < lo ∨ hi≤p) (hb:OkB bs) (hl:bs.length≤1048576) (h:Cur w p A bs c) :
  Calls Tryz.prog 216 #[.pointer (some ⟨p,0,none⟩),.slice B xs.length d] w fun e w'=>∃ x:Int,e=.returned (.int .i64 x)∧x∈xs∧Cur w' p A bs c∧Mid p (p+1) w w':=by
 go_enter Tryz.func216,Tryz.ntmps216
 go_wp2_with fail;with_reducible refine (l1Below_pos xs.length hne hln p A bs c _ hb hl h).mono ?_
 rintro e w1 ⟨k,rfl,hk,h1,m1⟩;have hx1:=hx.mid m1 (by omega);obtain ⟨b,off,x,rfl, -,hxx,hcx⟩:=hx1.rs.int hk;have hmem:=List.mem_of_getElem? hxx;clear hxx;go_wp2_with fail;go_ret;exact ⟨x,rfl,hmem,h1,m1⟩
theorem l1BelowI (n:Int) (hn:0 < n) (hn2:n≤1048576) (p:Nat) (A:Option Addr) (bs:List Int) (c:Nat) (w:World) (hb:OkB bs) (hl:bs.length≤1048576) (h:Cur w p A bs c) :
  Calls Tryz.prog 127 #[.pointer (some ⟨p,0,none⟩),.int .i64 n] w fun e w'=>∃ x:Nat,e=.returned (.int .i64 x)∧(x:Int) < n∧Cur w' p A bs c∧Mid p (p+1) w w':=by
 obtain ⟨m,rfl⟩:=Int.eq_ofNat_of_zero_le (by omega:0≤n);exact (l1Below_pos m (by omega) (by omega) p A bs c w hb hl h).mono fun _ _ ⟨x,he,hx,h⟩=>⟨x,he,by omega,h⟩
theorem l1OnceI (n:Int) (hn:0 < n) (hn2:n≤1048576) (p:Nat) (A:Option Addr) (bs:List Int) (c:Nat) (w:World) (hb:OkB bs) (hl:bs.length≤1048576) (h:Cur w p A bs c) :
  Calls Tryz.prog 125 #[.pointer (some ⟨p,0,none⟩),.int .i64 n] w fun e w'=>∃ x:Bool,e=.returned (.bool x)∧Cur w' p A bs c∧Mid p (p+1) w w':=by
 obtain ⟨m,rfl⟩:=Int.eq_ofNat_of_zero_le (by omega:0≤n);exact l1Once_any m (by omega) (by omega) p A bs c w hb hl h
theorem l1PickIntN (B:Option Addr) (xs:List Int) (n d:Nat) (hxn:xs.length=n) (hne:0 < n) (hln:n≤1048576) (p:Nat) (A:Option Addr) (bs:List Int) (c:Nat) (w:World) (lo hi:Nat) (hx:RI w lo hi B xs) (hp:p < lo ∨ hi≤p) (hb:OkB bs) (hl:bs.length≤1048576) (h:Cur w p A bs c) :
  Calls Tryz.prog 216 #[.pointer (some ⟨p,0,none⟩),.slice B n d] w fun e w'=>∃ x:Int,e=.returned (.int .i64 x)∧x∈xs∧Cur w' p A bs c∧Mid p (p+1) w w':=by
 subst hxn;exact l1PickInt_any B xs d hne hln p A bs c w lo hi hx hp hb hl h
theorem l1New_any (A:Option Addr) (bs:List Int) (c:Nat) (w:World) (hi:Nat) (hb:OkB bs) (hl:bs.length≤1048576) (hr:RV w 0 hi A (byts bs)) :
  Calls Tryz.prog 110 #[.slice A bs.length c] w fun e w'=>∃ p,e=.returned (.pointer (some ⟨p,0,none⟩))∧w.heap.size≤p∧Cur w' p A bs c∧Mid 0 0 w w':=by
 have hfin:∀ x:Int,(0≤x∧x≤1073741824)→Cur (w.alloc (.cells #[.slice A bs.length c,.int .i64 0,.int .i64 x] 117)) w.heap.size A bs c:=fun x hx =>
  ⟨0,x,Nat.zero_le _,by omega,by simpa using Box.new w #[.slice A bs.length c,.int .i64 0,.int .i64 x] 117,(hr.mid (Mid.alloc w _) oZl).wide (Nat.zero_le _) hr.1 (by simp)⟩
 have hfin:=Lib.hid hfin;go_enter Tryz.func110,Tryz.ntmps110
 go_wp2_with fail;go_loop [3,4] (fun hv i=>∃ (k:Nat) (x:Int),k≤bs.length∧i=.int .i64 k∧hv=.int .i64 x∧(0≤x∧x≤1073741824)) (fun _ i=>bs.length - (intOf i).toNat)
 case atStart=>exact ⟨0,_,Nat.zero_le _,rfl,rfl,by omega,by omega⟩
 case round =>
  obtain ⟨k,x,hk,rfl,rfl,hx⟩:=hrel;by_cases hlt:k < bs.length
  ·obtain ⟨K,hK⟩:∃ x:Bool,decide ((k:Int) < 4000)=x:=⟨_,rfl⟩
   cases K
   ·go_wp2_with fail
    go_ret;exact ⟨w.heap.size,rfl,Nat.le_refl _,hfin.out x hx,Mid.alloc _ _⟩
   ·obtain ⟨b,off,y,rfl, -,hy,hcy⟩:=hr.rs.byte hlt
    have hyb:=hb y (List.mem_of_getElem? hy);clear hy;go_wp2_with fail;obtain ⟨x2,hx2⟩:∃ z,bits BinOp.and IntKind.i64 (x * 131+y+7) 1073741823=z:=⟨_,rfl⟩
    have hx2b:0≤x2∧x2≤1073741824:=by rw [and30] at hx2;omega
    rw [hx2];go_round
    case rel=>exact ⟨k+1,x2,by omega,by go_num,rfl,hx2b⟩
    case measure=>simp [intOf];omega
  ·go_wp2_with fail
   go_ret;exact ⟨w.heap.size,rfl,Nat.le_refl _,hfin.out x hx,Mid.alloc _ _⟩
end
section
open Go.RowKit
theorem LtW.ok {w:List Int} (h:LtW w):OkI w:=fun x hx=>by
 have:=h x hx;unfold Lt3 at this;omega
def natV:Value→Nat
 | .int _ n=>n.toNat
 | _=>0
theorem l2Of_any (r:Int) (hr1:1≤r) (hr3:r≤3) (m:Int) (hm0:0≤m) (hm2:m≤24) (p:Nat) (A:Option Addr) (bs:List Int) (c:Nat) (w:World) (hb:OkB bs) (hl:bs.length≤1048576) (h:Cur w p A bs c) :
  Calls Tryz.prog 112 #[.pointer (some ⟨p,0,none⟩),.int .i64 r,.int .i64 m] w fun e w'=>∃ A' c' xs,e=.returned (.slice A' (List.length xs) c')∧(((xs.length:Nat):Int)≤m∧LtW xs∧Rd xs)∧OI w' w.heap.size w'.heap.size A' c' xs∧Cur w' p A bs c∧Mid p (p+1) w w':=by
 have hpw:=h.lt;have hal:=Mid.alloc w (.cells #[] 3);have ho:=owns_empty w 3 1;have h0:=h.mid hal (Or.inr rfl);go_enter Tryz.func112,Tryz.ntmps112
 go_wp2_with fail;with_reducible refine (l1BelowI (m+1) (by omega) (by omega) p A bs c _ hb hl h0).mono ?_
 rintro e w1 ⟨n0,rfl,hn0,h1,m1⟩;have ho1:=owns_mid ho m1 (Or.inl (by omega));have hm1:=hal.zero.trans m1;have hs1:=hm1.size;clear h0 hal m1 ho;go_wp2_with fail;go_loopw [7,8] (fun wv nv wr=>∃ (xs:List Int) (n:Nat) (Ax:Option Addr) (cx L:Nat),nv=.int .i64 n∧wv=.slice Ax L cx∧Hid (xs.length=L)∧(L:Int)+(n:Int)≤m∧Hid (LtW xs)∧wr.ownsRow w.heap.size 3 1 (.slice Ax L cx) L (ints xs)∧Cur wr p A bs c∧Mid p (p+1) w wr)
  (fun _ nv _=>natV nv)
 case atStart=>exact ⟨[],n0,_,_,0,rfl,rfl,Lib.hid rfl,by omega,Lib.hid LtW.nil,by simpa [ints] using ho1,h1,hm1⟩
 case round =>
  obtain ⟨xs,n,Ax,cx,L,rfl,rfl,HL,hLm,HW,ho,hc,hm⟩:=hrel;have hs:=hm.size;by_cases hlt:0 < n
  ·go_wp2_with fail
   with_reducible refine (l1BelowI r (by omega) (by omega) p A bs c _ hb hl hc).mono ?_
   rintro e w2 ⟨x,rfl,hx,hc2,m2⟩;have ho2:=owns_mid ho m2 (Or.inl hpw);have hm2:=hm.trans m2;have ew1:IntKind.i64.wrap (1+(x:Int))=1+(x:Int):=IntWalk.i64_in _ (by omega);clear ho hc m2;go_wp2_with fail;with_reducible refine (l1OnceI 2 (by decide) (by decide) p A bs c _ hb hl hc2).mono ?_
   rintro e w3 ⟨b,rfl,hc3,m3⟩;have ho3:=owns_mid ho2 m3 (Or.inl hpw);have hm3:=hm2.trans m3;have hs3:=hm3.size;clear ho2 hc2 m3 hm2 hm;have key:∀ y:Int,(y=1+(x:Int) ∨ y = -(1+(x:Int)))→Lt3 y:=fun y hy=>by
    unfold Lt3;omega
   have KEY:=Lib.hid key;clear key;cases b
   ·go_wp2_with (at_builtin;refine wpList_push rfl _ _ 34 rfl w.heap.size 3 (.int .i64 0) 1 8 undSI infoI rfl (by decide) _ _ _ rfl ho3 1 [.int .i64 (1+(x:Int))] rfl rfl ?c1 ?c2 ?c3 hs3 ?next)
    case c1=>exact one_of_ints [1+(x:Int)]
    case c2=>unfold maxLen;omega
    case c3=>omega
    case next =>
     intro v4 w4 ho4 hgr4 hat4;obtain ⟨A4,c4,rfl, -, -⟩:=owns_shape ho4;have m4:Mid w.heap.size w3.heap.size w3 w4:=Mid.of_grownRow ho3 hgr4;go_wp2_with fail;go_roundw
     case rel =>
      refine ⟨xs++[1+(x:Int)],n - 1,A4,c4,L+1,by go_num,rfl,Lib.hid (by simp [HL.out]),by omega,Lib.hid (HW.out.app (LtW.one (KEY.out _ (.inl rfl)))),by rw [ints_append];exact ho4,hc3.mid m4 (Or.inl hpw),hm3.transNew m4 (Or.inl (Nat.le_refl _))⟩
     case measure=>simp [natV];omega
   ·go_wp2_with (at_builtin;refine wpList_push rfl _ _ 34 rfl w.heap.size 3 (.int .i64 0) 1 8 undSI infoI rfl (by decide) _ _ _ rfl ho3 1 [.int .i64 (-(1+(x:Int)))] rfl rfl ?c1 ?c2 ?c3 hs3 ?next)
    case c1=>exact one_of_ints [-(1+(x:Int))]
    case c2=>unfold maxLen;omega
    case c3=>omega
    case next =>
     intro v4 w4 ho4 hgr4 hat4;obtain ⟨A4,c4,rfl, -, -⟩:=owns_shape ho4;have m4:Mid w.heap.size w3.heap.size w3 w4:=Mid.of_grownRow ho3 hgr4;go_wp2_with fail;go_roundw
     case rel =>
      refine ⟨xs++[-(1+(x:Int))],n - 1,A4,c4,L+1,by go_num,rfl,Lib.hid (by simp [HL.out]),by omega,Lib.hid (HW.out.app (LtW.one (KEY.out _ (.inr rfl)))),by rw [ints_append];exact ho4,hc3.mid m4 (Or.inl hpw),hm3.transNew m4 (Or.inl (Nat.le_refl _))⟩
     case measure=>simp [natV];omega
  ·have hok:=HW.out.ok
   have hxl:=HL.out;have hrs:=Rs.of_own ho;have hc5:Calls Tryz.prog 109 #[.slice Ax L cx] wr fun e w'=>RetI 3 (red [] xs) wr e w':=by
    have:=spec_ReduceLetters Ax xs cx wr wr.heap.size hrs (Nat.le_refl _) hok (by omega)
    rwa [hxl] at this
   clear hok hxl hrs;go_wp2_with fail;with_reducible refine hc5.mono ?_
   rintro e w5 ⟨A5,c5,rfl,ho5,hb5⟩;go_wp2_with fail;go_ret;have hlen:=red_nil_len xs;have hL:=HL.out;have m5:Mid 0 0 wr w5:=Mid.of_below hb5;exact ⟨A5,c5,red [] xs,rfl,⟨by omega,lt_red HW.out,rd_red HW.out⟩,(OV.new ho5).wide hs (Nat.le_refl _) (Nat.le_refl _),hc.mid m5 (Or.inr rfl),hm.trans m5.zero⟩
end
section
open Go.RowKit
end
section
open Go.RowKit
theorem spec_AddEdgeB (r s:Int) (A:Option Addr) (es:List Ed) (c:Nat) (e:Ed) (w:World) (lo hi:Nat) (hr:RG w lo hi A es) (hg:IsGr r s es) (he:edB r s e=true) (hl:es.length < 120) (bb:Bool) (hne:decide ((es.length:Int) < ((putE e es).length:Int))=bb) :
  Calls Tryz.prog 222 #[graV r s A es.length c,e.v] w fun en w'=>∃ A1 c1,en=.returned (.tuple #[graV r s A1 (putE e es).length c1,.bool bb])∧OG w' w.heap.size w'.heap.size A1 c1 (putE e es)∧Mid 0 0 w w':=by
 have hm0:Mid 0 0 w (((w.alloc (.cells #[.int .i64 r,.int .i64 s,.slice A es.length c] 26)).alloc (.cells #[.int .i64 e.a,.int .i64 e.l,.int .i64 e.b] 68)).alloc (.cells #[.int .i64 0,.int .i64 0,.slice none 0 0] 26)):=((Mid.alloc _ _).trans (Mid.alloc _ _)).trans (Mid.alloc _ _);have B0:=((Box.new w #[.int .i64 r,.int .i64 s,.slice A es.length c] 26).mid (Mid.alloc _ (.cells #[.int .i64 e.a,.int .i64 e.l,.int .i64 e.b] 68)) oZr).mid (Mid.alloc _ (.cells #[.int .i64 0,.int .i64 0,.slice none 0 0] 26)) oZr;have B1:=(Box.new (w.alloc (.cells #[.int .i64 r,.int .i64 s,.slice A es.length c] 26)) #[.int .i64 e.a,.int .i64 e.l,.int .i64 e.b] 68).mid (Mid.alloc _ (.cells #[.int .i64 0,.int .i64 0,.slice none 0 0] 26)) oZr;have B2:=Box.new ((w.alloc (.cells #[.int .i64 r,.int .i64 s,.slice A es.length c] 26)).alloc (.cells #[.int .i64 e.a,.int .i64 e.l,.int .i64 e.b] 68)) #[.int .i64 0,.int .i64 0,.slice none 0 0] 26;simp only [World.size_alloc] at B1 B2;have HG:=Lib.hid hg;clear hg;go_enter Tryz.func222,Tryz.ntmps222
 go_wp2_with fail;generalize ((w.alloc (.cells #[.int .i64 r,.int .i64 s,.slice A es.length c] 26)).alloc (.cells #[.int .i64 e.a,.int .i64 e.l,.int .i64 e.b] 68)).alloc (.cells #[.int .i64 0,.int .i64 0,.slice none 0 0] 26)=w1 at hm0 B0 B1 B2 ⊢;have hs1:w.heap.size+1+1 < w1.heap.size:=B2.1;with_reducible refine (spec_l4Copy r s A es c _ _ _ (hr.mid hm0 oZl) (by omega)).mono ?_
 rintro en w2 ⟨A1,c1,rfl,ho2,hm2⟩;have hal:=Mid.alloc w2 (.cells #[.int .i64 r,.int .i64 s,.slice A1 es.length c1] 26);have Y3:=Box.new w2 #[.int .i64 r,.int .i64 s,.slice A1 es.length c1] 26;have hs2:=hm2.size;replace B0:=B0.mid hm2 oZr;replace B1:=B1.mid hm2 oZr;replace B2:=B2.mid hm2 oZr;replace hm0:=hm0.trans hm2;replace B0:=B0.mid hal oZr;replace B1:=B1.mid hal oZr;replace B2:=B2.mid hal oZr;replace hm0:=hm0.trans hal;have p0:=B0.cell 0 rfl;have p1:=B0.cell 1 rfl;have p2:=B0.cell 2 rfl;go_wp2_with fail;generalize w2.alloc (.cells #[.int .i64 r,.int .i64 s,.slice A1 es.length c1] 26)=w3 at hm0 B0 B1 B2 Y3 p0 p1 p2 ⊢;have hG3:w2.heap.size < w3.heap.size:=Y3.1;with_reducible refine (spec_IsGraph r s A es c _ _ _ (hr.mid hm0 oZl).rv (by omega) true (iff_of_true rfl HG.out)).mono ?_
 rintro en w4 ⟨rfl,hm4⟩;replace B0:=B0.mid hm4 oZr;replace B1:=B1.mid hm4 oZr;replace B2:=B2.mid hm4 oZr;replace Y3:=Y3.mid hm4 oZr;replace hm0:=hm0.trans hm4;have hs4:=hm4.size;clear p0 p1 p2 hm4 ho2 hal;have p0:=B0.cell 0 rfl;have p1:=B0.cell 1 rfl;have p2:=B0.cell 2 rfl;have k0:=B1.cell 0 rfl;have k1:=B1.cell 1 rfl;have k2:=B1.cell 2 rfl;go_wp2_with fail;have hEd:=spec_l4Edge r s A es.length c e w4;rw [he] at hEd;with_reducible refine hEd.mono ?_
 rintro en w5 ⟨rfl,hm5⟩;replace B0:=B0.mid hm5 oZr;replace B1:=B1.mid hm5 oZr;replace B2:=B2.mid hm5 oZr;replace Y3:=Y3.mid hm5 oZr;replace hm0:=hm0.trans hm5;have hs5:=hm5.size;clear p0 p1 p2 k0 k1 k2 hm5 hEd;have p0:=B0.cell 0 rfl;have p1:=B0.cell 1 rfl;have p2:=B0.cell 2 rfl;have k0:=B1.cell 0 rfl;have k1:=B1.cell 1 rfl;have k2:=B1.cell 2 rfl;have d1:decide ((120:Int)≤(es.length:Int))=false:=by simp;omega
 go_wp2_with fail;with_reducible refine (spec_l4Put A es c e w5 _ _ (hr.mid hm0 oZl) (by omega)).mono ?_
 rintro en w6 ⟨A6,c6,rfl,ho6,hm6⟩;replace B0:=B0.mid hm6 oZr;replace B1:=B1.mid hm6 oZr;replace B2:=B2.mid hm6 oZr;replace Y3:=Y3.mid hm6 oZr;replace hm0:=hm0.trans hm6;have hs6:=hm6.size;clear p0 p1 p2 k0 k1 k2 hm6;obtain ⟨P,hP⟩:∃ P,putE e es=P:=⟨_,rfl⟩
 rw [hP] at hne ho6 ⊢;have hst:=Mid.setCell w6 (lo:=w2.heap.size) (hi:=w2.heap.size+1) (p:=⟨w2.heap.size,2,none⟩) (.slice A6 P.length c6) (Nat.le_refl _) (Nat.lt_succ_self _);have qf:=Y3.2.2;have q2:=Y3.cell 2 rfl;have hG6:w2.heap.size < w6.heap.size:=Y3.1;have Y4:=Y3.set 2 (.slice A6 P.length c6) (by simp) rfl;simp only [List.set_cons_succ,List.set_cons_zero] at Y4;have B0s:=B0.mid hst (Or.inl (by omega));have B2s:=B2.mid hst (Or.inl (by omega));have hm9:=hm0.storeNew (p:=⟨w2.heap.size,2,none⟩) (by show w.heap.size≤w2.heap.size;omega) (.slice A6 P.length c6);have ho9:=ho6.mid hst (Or.inl (by omega));have hs9:=hst.size;go_wp2_with fail;generalize w6.setCell ⟨w2.heap.size,2,none⟩ (.slice A6 P.length c6)=w9 at Y4 B0s B2s hm9 ho9 hs9 ⊢;have hmd:=Mid.drew1 w9;clear B0 B2 Y3 hm0 ho6 hst B1;have hsd:w9.heap.size≤w9.drew.heap.size:=Nat.le_refl _;replace B0s:=B0s.mid hmd oZr;replace B2s:=B2s.mid hmd oZr;replace Y4:=Y4.mid hmd oZr;replace ho9:=ho9.mid hmd oZl;replace hm9:=hm9.trans hmd;have p0:=B0s.cell 0 rfl;have p1:=B0s.cell 1 rfl;have p2:=B0s.cell 2 rfl;have q0:=Y4.cell 0 rfl;have q1:=Y4.cell 1 rfl;have q2:=Y4.cell 2 rfl;have d2:=hne;have d2n:decide (es.length < P.length)=bb:=by rw [← hne];exact decide_eq_decide.2 (by omega)
 clear qf q2;have hb2:w.heap.size+1+1 < w2.heap.size:=by omega
 clear q0 q1 q2 p0 p1 p2;have q0:=Y4.cell 0 rfl;have q1:=Y4.cell 1 rfl;have q2:=Y4.cell 2 rfl;have p0:=B0s.cell 0 rfl;have p1:=B0s.cell 1 rfl;have p2:=B0s.cell 2 rfl;refine wp_region_Z (S:=(fun w'=>(w'.cell? ⟨w2.heap.size,0,none⟩=some (.int .i64 r)∧w'.cell? ⟨w2.heap.size,1,none⟩=some (.int .i64 s)∧w'.cell? ⟨w2.heap.size,2,none⟩=some (.slice A6 P.length c6))∧w'.cell? ⟨w.heap.size,2,none⟩=some (.slice A es.length c))) [] (by kernel_rfl) ⟨⟨q0,q1,q2⟩,p2⟩ ?_;generalize World.drew w9=wz at Y4 B0s B2s hm9 ho9 hsd q0 q1 q2 p2 ⊢;have hS:(wz.cell? ⟨w2.heap.size,0,none⟩=some (.int .i64 r)∧wz.cell? ⟨w2.heap.size,1,none⟩=some (.int .i64 s)∧wz.cell? ⟨w2.heap.size,2,none⟩=some (.slice A6 P.length c6))∧wz.cell? ⟨w.heap.size,2,none⟩=some (.slice A es.length c):=⟨⟨q0,q1,q2⟩,p2⟩
 refine tkZ [] 0 rfl hS ?_;try simp only [Act.put,zs1,zs2,zs3,zs4,zs5,zs6]
 refine tkZ [] 1 rfl hS ?_;try simp only [Act.put,zs1,zs2,zs3,zs4,zs5,zs6]
 refine tkZ [] 2 rfl hS ?_;try simp only [Act.put,zs1,zs2,zs3,zs4,zs5,zs6]
 refine tkZ [] 3 rfl hS ?_;try simp only [Act.put,zs1,zs2,zs3,zs4,zs5,zs6]
 refine tkZ [] 4 rfl hS ?_;try simp only [Act.put,zs1,zs2,zs3,zs4,zs5,zs6]
 refine tkZ [] 5 rfl hS ?_;try simp only [Act.put,zs1,zs2,zs3,zs4,zs5,zs6]
 refine tkZ [] 6 rfl hS ?_;try simp only [Act.put,zs1,zs2,zs3,zs4,zs5,zs6]
 refine tkZ [] 7 rfl hS ?_;try simp only [Act.put,zs1,zs2,zs3,zs4,zs5,zs6]
 have hst:=((Mid.setCell wz (lo:=w.heap.size+1+1) (hi:=w.heap.size+1+1+1) (p:=⟨w.heap.size+1+1,0,none⟩) (.int .i64 r) (Nat.le_refl _) (Nat.lt_succ_self _)).trans (Mid.setCell _ (lo:=w.heap.size+1+1) (hi:=w.heap.size+1+1+1) (p:=⟨w.heap.size+1+1,1,none⟩) (.int .i64 s) (Nat.le_refl _) (Nat.lt_succ_self _))).trans (Mid.setCell _ (lo:=w.heap.size+1+1) (hi:=w.heap.size+1+1+1) (p:=⟨w.heap.size+1+1,2,none⟩) (.slice A6 P.length c6) (Nat.le_refl _) (Nat.lt_succ_self _));have Y5:=Y4.mid hst (Or.inr (by omega));have B5:=B0s.mid hst (Or.inl (by omega));have V2:=((B2s.set 0 (.int .i64 r) (by simp) rfl).set 1 (.int .i64 s) (by simp) rfl).set 2 (.slice A6 P.length c6) (by simp) rfl;simp only [List.set_cons_succ,List.set_cons_zero] at V2;have ho10:=ho9.mid hst (Or.inl (by omega));have hm10:=((hm9.storeNew (p:=⟨w.heap.size+1+1,0,none⟩) (by show w.heap.size≤w.heap.size+1+1;omega) (.int .i64 r)).storeNew (p:=⟨w.heap.size+1+1,1,none⟩) (by show w.heap.size≤w.heap.size+1+1;omega) (.int .i64 s)).storeNew (p:=⟨w.heap.size+1+1,2,none⟩) (by show w.heap.size≤w.heap.size+1+1;omega) (.slice A6 P.length c6);have hsz:=hst.size;have a0:=B2s.cell 0 rfl;have a1:=B2s.cell 1 rfl;have a2:=B2s.cell 2 rfl;have af:=B2s.2.2;have hbz:w.heap.size+1+1 < wz.heap.size:=B2s.1;refine rdZ 8 rfl (fun K hK=>?_);go_simp;refine hK.out _ _ (Or.inr ⟨⟨Y5.cell 0 rfl,Y5.cell 1 rfl,Y5.cell 2 rfl⟩,B5.cell 2 rfl⟩) (fun _=>?_);clear hK K;try simp only [Act.put,zs1,zs2,zs3,zs4,zs5,zs6]
 refine rdZ 9 rfl (fun K hK=>?_);go_simp;refine hK.out _ _ (Or.inr ⟨⟨Y5.cell 0 rfl,Y5.cell 1 rfl,Y5.cell 2 rfl⟩,B5.cell 2 rfl⟩) (fun _=>?_);clear hK K;try simp only [Act.put,zs1,zs2,zs3,zs4,zs5,zs6]
 refine wpAnyZ_done (by kernel_rfl) ?_ _;clear hS q0 q1 q2 p0 p1 p2 a0 a1 a2 af hst Y4 B0s B2s ho9 hm9;generalize ((wz.setCell ⟨w.heap.size+1+1,0,none⟩ (.int .i64 r)).setCell ⟨w.heap.size+1+1,1,none⟩ (.int .i64 s)).setCell ⟨w.heap.size+1+1,2,none⟩ (.slice A6 P.length c6)=w11 at V2 Y5 B5 ho10 hm10 hsz ⊢;have a0:=V2.cell 0 rfl;have a1:=V2.cell 1 rfl;have a2:=V2.cell 2 rfl;have af:=V2.2.2;subst hP;go_wp2_with fail;refine bodyPost_ret (v:=.tuple #[.agg #[.int .i64 r,.int .i64 s,.slice A6 (putE e es).length c6],.bool bb]) (by simp [results,Tryz.results222,go_sem,a0,a1,a2,af,d2n]) rfl ⟨A6,c6,rfl,?_,?_⟩
 ·exact OG.wide ho10 (by omega) (by omega) (Nat.le_refl _)
 ·exact hm10
structure DrG (r s:Int) (es:List Ed):Prop where
 rk:-10≤r∧r≤10
 sz:-10≤s∧s≤100
 len:es.length≤121
 all:∀ e∈es,(-100≤e.a∧e.a≤100)∧(-100≤e.l∧e.l≤100)∧(-100≤e.b∧e.b≤100)
theorem DrG.of_gr {r s:Int} {es:List Ed} (h:IsGr r s es):DrG r s es:=⟨by have:=h.rank;omega,by have:=h.size;omega,by have:=h.len;omega,fun e he=>by
 have h1:=h.all e he;have h2:=h.rank;have h3:=h.size;simp only [InG] at h1;omega⟩
theorem DrG.zero:DrG 0 0 []:=⟨by omega,by omega,by simp,by simp⟩
theorem putE_gr {r s:Int} {es:List Ed} {e:Ed} (h:IsGr r s es) (he:InG r s e) (hl:es.length < 120):IsGr r s (putE e es):=⟨h.rank,h.size,by have:=putE_len e es;omega,fun x hx=>by
 rcases mem_putE.1 hx with rfl | hx
 ·exact he
 ·exact h.all x hx,asc_putE h.asc⟩
theorem edB_of {r s:Int} {e:Ed} (h:InG r s e) (hs:1≤s∧s≤40):edB r s e=true:=by
 simp only [InG] at h;unfold edB;have e1:wrap64 (s - 1)=s - 1:=by unfold wrap64;omega
 rw [e1];simp [inB];omega
theorem l4Graph_any (p:Nat) (A:Option Addr) (bs:List Int) (c:Nat) (w:World) (hb:OkB bs) (hl:bs.length≤1048576) (h:Cur w p A bs c) :
  Calls Tryz.prog 195 #[.pointer (some ⟨p,0,none⟩)] w fun e w'=>∃ r n A' c' es,e=.returned (graV (r:Nat) (n:Nat) A' (List.length es) c')∧(IsGr (r:Nat) (n:Nat) es∧n≤5∧es.length≤8)∧OG w' w.heap.size w'.heap.size A' c' es∧Cur w' p A bs c∧Mid p (p+1) w w':=by
 have hpw:=h.lt;have hal:=Mid.alloc w (.cells #[.int .i64 0,.int .i64 0,.slice none 0 0] 26);have B2:=Box.new w #[.int .i64 0,.int .i64 0,.slice none 0 0] 26;have h0:=h.mid hal (Or.inr rfl);go_enter Tryz.func195,Tryz.ntmps195
 have hal2:=Mid.alloc (w.alloc (.cells #[.int .i64 0,.int .i64 0,.slice none 0 0] 26)) (.cells #[.int .i64 1,.int .i64 2,.int .i64 2,.int .i64 2,.int .i64 3] 3);have hbx:=Box.new (w.alloc (.cells #[.int .i64 0,.int .i64 0,.slice none 0 0] 26)) #[.int .i64 1,.int .i64 2,.int .i64 2,.int .i64 2,.int .i64 3] 3;rw [World.size_alloc] at hbx;replace B2:=B2.mid hal2 oZr;replace h0:=h0.mid hal2 (Or.inr rfl);have hm0:=hal.trans hal2;go_wp2_with fail;generalize (w.alloc (.cells #[.int .i64 0,.int .i64 0,.slice none 0 0] 26)).alloc (.cells #[.int .i64 1,.int .i64 2,.int .i64 2,.int .i64 2,.int .i64 3] 3)=w1 at hbx B2 h0 hm0 ⊢;have hs1:w.heap.size+1 < w1.heap.size:=hbx.1;have hri:RI w1 (w.heap.size+1) (w.heap.size+1+1) (some ⟨w.heap.size+1,0,none⟩) [1,2,2,2,3] :=
  ⟨hs1,fun _=>⟨w.heap.size+1,0,rfl,Nat.le_refl _,Nat.lt_succ_self _,fun j u hu=>by rw [Nat.zero_add];exact hbx.2.1 j u (by simpa [ints] using hu)⟩⟩
 with_reducible refine (l1PickIntN (some ⟨w.heap.size+1,0,none⟩) [1,2,2,2,3] 5 5 rfl (by decide) (by decide) p A bs c _ (w.heap.size+1) _ hri (Or.inl (by omega)) hb hl h0).mono ?_
 rintro e w2 ⟨r,rfl,hrm,h2,m2⟩;have hr:1≤r∧r≤3:=by simp at hrm;omega
 have B2b:=B2.mid m2 (Or.inr (by omega));have hm2:=hm0.zero.trans m2;clear hri hbx hrm h0 B2 hm0 hal hal2 m2;go_wp2_with fail;with_reducible refine (l1BelowI 5 (by decide) (by decide) p A bs c _ hb hl h2).mono ?_
 rintro e w3 ⟨k,rfl,hk,h3,m3⟩;have B2c:=B2b.mid m3 (Or.inr (by omega));have hm3:=hm2.trans m3;have hs3:=hm3.size;have ek:IntKind.i64.wrap (1+(k:Int))=1+(k:Int):=IntWalk.i64_in _ (by omega);clear h2 B2b hm2 m3;go_wp2_with fail;have hal3:=Mid.alloc w3 (.cells #[.int .i64 r,.int .i64 (1+(k:Int)),.slice none 0 0] 26);have G0:=Box.new w3 #[.int .i64 r,.int .i64 (1+(k:Int)),.slice none 0 0] 26;have B2d:=B2c.mid hal3 oZr;have h4:=h3.mid hal3 (Or.inr rfl);have hm4:=hm3.trans hal3.zero;obtain ⟨gb,hgb⟩:∃ g,w3.heap.size=g:=⟨_,rfl⟩
 have hgw:w.heap.size < gb:=by have:=B2c.1;omega
 obtain ⟨rn,hrn⟩:=Int.eq_ofNat_of_zero_le (by omega:0≤r);obtain ⟨n,hn⟩:∃ n:Nat,1+(k:Int)=n:=⟨1+k,by omega⟩
 rw [hn,hgb,hrn] at G0 ⊢;rw [hn,hrn] at B2d h4 hm4;generalize w3.alloc (.cells #[.int .i64 (rn:Int),.int .i64 (n:Int),.slice none 0 0] 26)=w4 at G0 B2d h4 hm4 ⊢;have hrn3:1≤(rn:Int)∧(rn:Int)≤3:=by omega
 have hn5:1≤(n:Int)∧(n:Int)≤5:=by omega
 have hg4:gb < w4.heap.size:=G0.1;clear h3 B2c hal3 hm3 ek hn hrn hk hr hgb;with_reducible refine (l1BelowI 9 (by decide) (by decide) p A bs c _ hb hl h4).mono ?_
 rintro e w5 ⟨m0,rfl,hm0,h5,m5⟩;replace G0:=G0.mid m5 (Or.inr (by omega));replace B2d:=B2d.mid m5 (Or.inr (by omega));have hm5:=hm4.trans m5;have hog:OG w5 (gb+1) w5.heap.size none 0 []:=OG.nil;clear h4 m5 hm4;go_wp2_with fail;go_loopw [4] (fun nv wr=>∃ (m:Nat) (es:List Ed) (Ae:Option Addr) (ce L:Nat),nv=.int .i64 m∧Hid (es.length=L)∧L+m≤8∧Hid (IsGr rn n es)∧Box wr gb [.int .i64 rn,.int .i64 n,.slice Ae L ce]∧OG wr (gb+1) wr.heap.size Ae ce es∧Box wr w.heap.size [.int .i64 0,.int .i64 0,.slice none 0 0]∧Cur wr p A bs c∧Mid p (p+1) w wr)
  (fun nv _=>natV nv)
 case atStart=>exact ⟨m0,[],none,0,0,rfl,Lib.hid rfl,by omega,Lib.hid ⟨hrn3,by omega,by simp,by simp,List.Pairwise.nil⟩,G0,hog,B2d,h5,hm5⟩
 case round =>
  obtain ⟨m,es,Ae,ce,L,rfl,HL,hLm,HG,hG,hO,hB,hC,hM⟩:=hrel;have hgr:gb < wr.heap.size:=hG.1;by_cases hlt:0 < m
  ·replace hG:=hG.mid (Mid.drew1 wr) oZr
   replace hO:=hO.mid (Mid.drew1 wr) oZl;replace hB:=hB.mid (Mid.drew1 wr) oZr;replace hC:=hC.mid (Mid.drew1 wr) (Or.inr rfl);replace hM:=hM.trans (Mid.drew1 wr).zero;have hsd:wr.heap.size≤wr.drew.heap.size:=Nat.le_refl _;have p0:=hG.cell 0 rfl;have p1:=hG.cell 1 rfl;go_wp2_with fail;refine wp_region_Z (S:=(fun w'=>w'.cell? ⟨gb,0,none⟩=some (.int .i64 (rn:Int))∧w'.cell? ⟨gb,1,none⟩=some (.int .i64 (n:Int)))) [] (by kernel_rfl) ⟨p0,p1⟩ ?_;generalize World.drew wr=wz at hG hO hB hC hM p0 p1 hsd ⊢;have hS:wz.cell? ⟨gb,0,none⟩=some (.int .i64 (rn:Int))∧wz.cell? ⟨gb,1,none⟩=some (.int .i64 (n:Int)):=⟨p0,p1⟩
   have hgz:gb < wz.heap.size:=hG.1;have hOz:OG wz (gb+1) wz.heap.size Ae ce es:=hO.wide (Nat.le_refl _) hO.size (Nat.le_refl _);clear hO;refine tkZ [] 0 rfl hS ?_;try simp only [Act.put,zs1,zs2,zs3,zs4,zs5,zs6]
   refine tkZ [] 1 rfl hS ?_;try simp only [Act.put,zs1,zs2,zs3,zs4,zs5,zs6]
   refine tkZ [] 2 rfl hS ?_;try simp only [Act.put,zs1,zs2,zs3,zs4,zs5,zs6]
   refine tkZ [] 4 rfl hS ?_;try simp only [Act.put,zs1,zs2,zs3,zs4,zs5,zs6]
   refine tkZ [] 5 rfl hS ?_;try simp only [Act.put,zs1,zs2,zs3,zs4,zs5,zs6]
   refine tkZ [] 6 rfl hS ?_;try simp only [Act.put,zs1,zs2,zs3,zs4,zs5,zs6]
   refine tkZ [] 9 rfl hS ?_;try simp only [Act.put,zs1,zs2,zs3,zs4,zs5,zs6]
   refine tkZ [] 10 rfl hS ?_;try simp only [Act.put,zs1,zs2,zs3,zs4,zs5,zs6]
   refine tkZ [] 11 rfl hS ?_;try simp only [Act.put,zs1,zs2,zs3,zs4,zs5,zs6]
   refine wpAnyZ_ready (rs:=[3,14]) (by kernel_rfl) (by simp) (AllReadyZ.cons rfl (fun K hK=>?_) (AllReadyZ.cons rfl (fun K hK=>?_) AllReadyZ.nil))
   ·(go_simp;(with_reducible refine (l1BelowI (n:Int) (by omega) (by omega) p A bs c _ hb hl hC).mono ?_);rintro en wc1 ⟨x1,rfl,hx1,hC1,m1⟩;have hG1:=hG.mid m1 (Or.inr (by omega));go_wp2_with fail)
    refine hK.out _ _ (Or.inr ⟨hG1.cell 0 rfl,hG1.cell 1 rfl⟩) (fun _=>?_);clear hK K;try simp only [Act.put,zs1,zs2,zs3,zs4,zs5,zs6]
    have hS1:=And.intro (hG1.cell 0 rfl) (hG1.cell 1 rfl);have hB1:=hB.mid m1 (Or.inr (by omega));have hO1:=hOz.mid m1 (Or.inl (by omega));have hM1:=hM.trans m1;have hz1:=m1.size;refine wpAnyZ_ready (rs:=[7,14]) (by kernel_rfl) (by simp) (AllReadyZ.cons rfl (fun K hK=>?_) (AllReadyZ.cons rfl (fun K hK=>?_) AllReadyZ.nil))
    ·(go_simp;(with_reducible refine (l1BelowI (rn:Int) (by omega) (by omega) p A bs c _ hb hl hC1).mono ?_);rintro en wc2 ⟨x2,rfl,hx2,hC2,m2⟩;have hG2:=hG1.mid m2 (Or.inr (by omega));go_wp2_with fail)
     refine hK.out _ _ (Or.inr ⟨hG2.cell 0 rfl,hG2.cell 1 rfl⟩) (fun _=>?_);clear hK K;try simp only [Act.put,zs1,zs2,zs3,zs4,zs5,zs6]
     have hS2:=And.intro (hG2.cell 0 rfl) (hG2.cell 1 rfl);have hB2:=hB1.mid m2 (Or.inr (by omega));have hO2:=hO1.mid m2 (Or.inl (by omega));have hM2:=hM1.trans m2;have hz2:=m2.size;have ew2:IntKind.i64.wrap (1+(x2:Int))=1+(x2:Int):=IntWalk.i64_in _ (by omega);refine tkZ [] 8 rfl hS2 ?_;try simp only [Act.put,zs1,zs2,zs3,zs4,zs5,zs6]
     refine wpAnyZ_ready (rs:=[12,14]) (by kernel_rfl) (by simp) (AllReadyZ.cons rfl (fun K hK=>?_) (AllReadyZ.cons rfl (fun K hK=>?_) AllReadyZ.nil))
     ·(go_simp;(with_reducible refine (l1BelowI (n:Int) (by omega) (by omega) p A bs c _ hb hl hC2).mono ?_);rintro en wc3 ⟨x3,rfl,hx3,hC3,m3⟩;have hG3:=hG2.mid m3 (Or.inr (by omega));go_wp2_with fail)
      refine hK.out _ _ (Or.inr ⟨hG3.cell 0 rfl,hG3.cell 1 rfl⟩) (fun _=>?_);clear hK K;try simp only [Act.put,zs1,zs2,zs3,zs4,zs5,zs6]
      have hS3:=And.intro (hG3.cell 0 rfl) (hG3.cell 1 rfl);have hB3:=hB2.mid m3 (Or.inr (by omega));have hO3:=hO2.mid m3 (Or.inl (by omega));have hM3:=hM2.trans m3;have hz3:=m3.size;refine tkZ [] 13 rfl hS3 ?_;try simp only [Act.put,zs1,zs2,zs3,zs4,zs5,zs6]
      refine rdZ 14 rfl (fun K hK=>?_);go_simp;refine hK.out _ _ (Or.inr ⟨cell_keep (Mid.alloc wc3 (.cells #[.int .i64 0,.int .i64 0,.int .i64 0] 68)) hG3.1 oZr (hG3.cell 0 rfl),cell_keep (Mid.alloc wc3 (.cells #[.int .i64 0,.int .i64 0,.int .i64 0] 68)) hG3.1 oZr (hG3.cell 1 rfl)⟩) (fun _=>?_);clear hK K;try simp only [Act.put,zs1,zs2,zs3,zs4,zs5,zs6]
      have al4:=Mid.alloc wc3 (.cells #[.int .i64 0,.int .i64 0,.int .i64 0] 68);have hE4:=Box.new wc3 #[.int .i64 0,.int .i64 0,.int .i64 0] 68;have hG4:=hG3.mid al4 oZr;have hB4:=hB3.mid al4 oZr;have hO4:=hO3.mid al4 oZl;have hC4:=hC3.mid al4 (Or.inr rfl);have hM4:=hM3.trans al4.zero;have hz4:=al4.size;have hgE4:=hG3.1;have hcE4:=hC3.lt;have hbE4:=hB3.1;generalize wc3.alloc (.cells #[.int .i64 0,.int .i64 0,.int .i64 0] 68)=wc4 at hE4 hG4 hB4 hO4 hC4 hM4 hz4 ⊢;clear al4;have hS4:=And.intro (hG4.cell 0 rfl) (hG4.cell 1 rfl);have hef:=hE4.2.2;have e0:=hE4.cell 0 rfl;have e1:=hE4.cell 1 rfl;have e2:=hE4.cell 2 rfl;have hel:=hE4.1;have hne:gb≠wc3.heap.size:=by omega
      have hst:=((Mid.setCell wc4 (lo:=wc3.heap.size) (hi:=wc3.heap.size+1) (p:=⟨wc3.heap.size,0,none⟩) (.int .i64 (x1:Int)) (Nat.le_refl _) (Nat.lt_succ_self _)).trans (Mid.setCell _ (lo:=wc3.heap.size) (hi:=wc3.heap.size+1) (p:=⟨wc3.heap.size,1,none⟩) (.int .i64 (1+(x2:Int))) (Nat.le_refl _) (Nat.lt_succ_self _))).trans (Mid.setCell _ (lo:=wc3.heap.size) (hi:=wc3.heap.size+1) (p:=⟨wc3.heap.size,2,none⟩) (.int .i64 (x3:Int)) (Nat.le_refl _) (Nat.lt_succ_self _));have V:=((hE4.set 0 (.int .i64 (x1:Int)) (by simp) rfl).set 1 (.int .i64 (1+(x2:Int))) (by simp) rfl).set 2 (.int .i64 (x3:Int)) (by simp) rfl;simp only [List.set_cons_succ,List.set_cons_zero] at V;have hcl:=hC4.lt;have G9:=hG4.mid hst (by omega);have B9:=hB4.mid hst (by omega);have O9:=hO4.mid hst (by omega);have C9:=hC4.mid hst (by omega);have M9:=hM4.transNew hst (by omega);refine rdZ 15 rfl (fun K hK=>?_);go_simp;refine hK.out _ _ (Or.inr ⟨G9.cell 0 rfl,G9.cell 1 rfl⟩) (fun _=>?_);clear hK K;try simp only [Act.put,zs1,zs2,zs3,zs4,zs5,zs6]
      refine wpAnyZ_done (by kernel_rfl) ?_ _;generalize ((wc4.setCell ⟨wc3.heap.size,0,none⟩ (.int .i64 (x1:Int))).setCell ⟨wc3.heap.size,1,none⟩ (.int .i64 (1+(x2:Int)))).setCell ⟨wc3.heap.size,2,none⟩ (.int .i64 (x3:Int))=w9 at V G9 B9 O9 C9 M9 ⊢;obtain ⟨P,hP⟩:∃ P,putE ⟨(x1:Int),1+(x2:Int),(x3:Int)⟩ es=P:=⟨_,rfl⟩
      have hin:InG rn n ⟨(x1:Int),1+(x2:Int),(x3:Int)⟩:=by simp only [InG];omega
      have hLe:=HL.out;have hgP:IsGr rn n P:=hP ▸ putE_gr HG.out hin (by omega);have hPl:P.length≤L+1:=by have:=putE_len ⟨(x1:Int),1+(x2:Int),(x3:Int)⟩ es;rw [hP] at this;omega
      obtain ⟨bb,hbb⟩:∃ b,decide ((es.length:Int) < (P.length:Int))=b:=⟨_,rfl⟩
      have hAE:=spec_AddEdgeB rn n Ae es ce ⟨(x1:Int),1+(x2:Int),(x3:Int)⟩ w9 _ _ O9.rg HG.out (edB_of hin (by omega)) (by omega) bb (by rw [hP];exact hbb);obtain ⟨L2,hL2⟩:∃ l,P.length=l:=⟨_,rfl⟩
      rw [hP,hLe,hL2] at hAE;have HAE:Hid (Calls Tryz.prog 222 #[.agg #[.int .i64 (rn:Int),.int .i64 (n:Int),.slice Ae L ce],.agg #[.int .i64 (x1:Int),.int .i64 (1+(x2:Int)),.int .i64 (x3:Int)]] w9 fun en w'=>∃ A1 c1,en=.returned (.tuple #[.agg #[.int .i64 (rn:Int),.int .i64 (n:Int),.slice A1 L2 c1],.bool bb])∧OG w' w9.heap.size w'.heap.size A1 c1 P∧Mid 0 0 w9 w'):=Lib.hid hAE;have HP:=Lib.hid hgP;have HL2:=Lib.hid hL2;have hL3:L2≤L+1:=by omega
      have g0:=G9.cell 0 rfl;have g1:=G9.cell 1 rfl;have g2:=G9.cell 2 rfl;have v0:=V.cell 0 rfl;have v1:=V.cell 1 rfl;have v2:=V.cell 2 rfl;have hg9:=G9.1;have hev:=V.1;clear hP hin hLe hgP hPl hbb hAE hL2 O9 hst hef e0 e1 e2 hel hne;go_wp2_with fail;with_reducible refine (HAE.out).mono ?_
      rintro en wf ⟨A1,c1,rfl,oP,mf⟩;have G10:=G9.mid mf oZr;have B10:=B9.mid mf oZr;have C10:=C9.mid mf (Or.inr rfl);have M10:=M9.trans mf.zero;have hzf:=mf.size;clear g0 g1 g2 v0 v1 v2 V G9 B9 C9 M9 mf HAE hev;have g0:=G10.cell 0 rfl;have g1:=G10.cell 1 rfl;have g2:=G10.cell 2 rfl;have gf:=G10.2.2;have gl:=G10.1;have hbl:=B10.1;have hcl2:=C10.lt;have hst:=((Mid.setCell wf (lo:=gb) (hi:=gb+1) (p:=⟨gb,0,none⟩) (.int .i64 (rn:Int)) (Nat.le_refl _) (Nat.lt_succ_self _)).trans (Mid.setCell _ (lo:=gb) (hi:=gb+1) (p:=⟨gb,1,none⟩) (.int .i64 (n:Int)) (Nat.le_refl _) (Nat.lt_succ_self _))).trans (Mid.setCell _ (lo:=gb) (hi:=gb+1) (p:=⟨gb,2,none⟩) (.slice A1 L2 c1) (Nat.le_refl _) (Nat.lt_succ_self _));have G11:=((G10.set 0 (.int .i64 (rn:Int)) (by simp) rfl).set 1 (.int .i64 (n:Int)) (by simp) rfl).set 2 (.slice A1 L2 c1) (by simp) rfl;simp only [List.set_cons_succ,List.set_cons_zero] at G11;have B11:=B10.mid hst (by omega);have O11:=(oP.mid hst (Or.inl (by omega))).wide (lo':=gb+1) (by omega) hst.size (Nat.le_refl _);have C11:=C10.mid hst (by omega);have M11:=M10.transNew hst (by omega);clear hst B10 C10 M10 oP;go_wp2_with fail;go_roundw
      case rel=>exact ⟨m - 1,P,A1,c1,L2,by go_num,HL2,by omega,HP,G11,O11,B11,C11,M11⟩
      case measure=>simp [natV];omega
     ·go_simp
      refine hK.out _ _ (Or.inr ⟨cell_keep (Mid.alloc wc2 (.cells #[.int .i64 0,.int .i64 0,.int .i64 0] 68)) hG2.1 oZr (hG2.cell 0 rfl),cell_keep (Mid.alloc wc2 (.cells #[.int .i64 0,.int .i64 0,.int .i64 0] 68)) hG2.1 oZr (hG2.cell 1 rfl)⟩) (fun _=>?_);clear hK K;try simp only [Act.put,zs1,zs2,zs3,zs4,zs5,zs6]
      have al6:=Mid.alloc wc2 (.cells #[.int .i64 0,.int .i64 0,.int .i64 0] 68);have hE6:=Box.new wc2 #[.int .i64 0,.int .i64 0,.int .i64 0] 68;have hG6:=hG2.mid al6 oZr;have hB6:=hB2.mid al6 oZr;have hO6:=hO2.mid al6 oZl;have hC6:=hC2.mid al6 (Or.inr rfl);have hM6:=hM2.trans al6.zero;have hz6:=al6.size;have hgE6:=hG2.1;have hcE6:=hC2.lt;have hbE6:=hB2.1;generalize wc2.alloc (.cells #[.int .i64 0,.int .i64 0,.int .i64 0] 68)=wc6 at hE6 hG6 hB6 hO6 hC6 hM6 hz6 ⊢;clear al6;have hS6:=And.intro (hG6.cell 0 rfl) (hG6.cell 1 rfl);refine rdZ 12 rfl (fun K hK=>?_)
      (go_simp;(with_reducible refine (l1BelowI (n:Int) (by omega) (by omega) p A bs c _ hb hl hC6).mono ?_);rintro en wc7 ⟨x7,rfl,hx7,hC7,m7⟩;have hG7:=hG6.mid m7 (Or.inr (by omega));go_wp2_with fail)
      refine hK.out _ _ (Or.inr ⟨hG7.cell 0 rfl,hG7.cell 1 rfl⟩) (fun _=>?_);clear hK K;try simp only [Act.put,zs1,zs2,zs3,zs4,zs5,zs6]
      have hS7:=And.intro (hG7.cell 0 rfl) (hG7.cell 1 rfl);have hB7:=hB6.mid m7 (Or.inr (by omega));have hO7:=hO6.mid m7 (Or.inl (by omega));have hM7:=hM6.trans m7;have hz7:=m7.size;have hE7:=hE6.mid m7 (Or.inr (by omega));refine tkZ [] 13 rfl hS7 ?_;try simp only [Act.put,zs1,zs2,zs3,zs4,zs5,zs6]
      have hef:=hE7.2.2;have e0:=hE7.cell 0 rfl;have e1:=hE7.cell 1 rfl;have e2:=hE7.cell 2 rfl;have hel:=hE7.1;have hne:gb≠wc2.heap.size:=by omega
      have hst:=((Mid.setCell wc7 (lo:=wc2.heap.size) (hi:=wc2.heap.size+1) (p:=⟨wc2.heap.size,0,none⟩) (.int .i64 (x1:Int)) (Nat.le_refl _) (Nat.lt_succ_self _)).trans (Mid.setCell _ (lo:=wc2.heap.size) (hi:=wc2.heap.size+1) (p:=⟨wc2.heap.size,1,none⟩) (.int .i64 (1+(x2:Int))) (Nat.le_refl _) (Nat.lt_succ_self _))).trans (Mid.setCell _ (lo:=wc2.heap.size) (hi:=wc2.heap.size+1) (p:=⟨wc2.heap.size,2,none⟩) (.int .i64 (x7:Int)) (Nat.le_refl _) (Nat.lt_succ_self _));have V:=((hE7.set 0 (.int .i64 (x1:Int)) (by simp) rfl).set 1 (.int .i64 (1+(x2:Int))) (by simp) rfl).set 2 (.int .i64 (x7:Int)) (by simp) rfl;simp only [List.set_cons_succ,List.set_cons_zero] at V;have hcl:=hC7.lt;have G9:=hG7.mid hst (by omega);have B9:=hB7.mid hst (by omega);have O9:=hO7.mid hst (by omega);have C9:=hC7.mid hst (by omega);have M9:=hM7.transNew hst (by omega);refine rdZ 15 rfl (fun K hK=>?_);go_simp;refine hK.out _ _ (Or.inr ⟨G9.cell 0 rfl,G9.cell 1 rfl⟩) (fun _=>?_);clear hK K;try simp only [Act.put,zs1,zs2,zs3,zs4,zs5,zs6]
      refine wpAnyZ_done (by kernel_rfl) ?_ _;generalize ((wc7.setCell ⟨wc2.heap.size,0,none⟩ (.int .i64 (x1:Int))).setCell ⟨wc2.heap.size,1,none⟩ (.int .i64 (1+(x2:Int)))).setCell ⟨wc2.heap.size,2,none⟩ (.int .i64 (x7:Int))=w9 at V G9 B9 O9 C9 M9 ⊢;obtain ⟨P,hP⟩:∃ P,putE ⟨(x1:Int),1+(x2:Int),(x7:Int)⟩ es=P:=⟨_,rfl⟩
      have hin:InG rn n ⟨(x1:Int),1+(x2:Int),(x7:Int)⟩:=by simp only [InG];omega
      have hLe:=HL.out;have hgP:IsGr rn n P:=hP ▸ putE_gr HG.out hin (by omega);have hPl:P.length≤L+1:=by have:=putE_len ⟨(x1:Int),1+(x2:Int),(x7:Int)⟩ es;rw [hP] at this;omega
      obtain ⟨bb,hbb⟩:∃ b,decide ((es.length:Int) < (P.length:Int))=b:=⟨_,rfl⟩
      have hAE:=spec_AddEdgeB rn n Ae es ce ⟨(x1:Int),1+(x2:Int),(x7:Int)⟩ w9 _ _ O9.rg HG.out (edB_of hin (by omega)) (by omega) bb (by rw [hP];exact hbb);obtain ⟨L2,hL2⟩:∃ l,P.length=l:=⟨_,rfl⟩
      rw [hP,hLe,hL2] at hAE;have HAE:Hid (Calls Tryz.prog 222 #[.agg #[.int .i64 (rn:Int),.int .i64 (n:Int),.slice Ae L ce],.agg #[.int .i64 (x1:Int),.int .i64 (1+(x2:Int)),.int .i64 (x7:Int)]] w9 fun en w'=>∃ A1 c1,en=.returned (.tuple #[.agg #[.int .i64 (rn:Int),.int .i64 (n:Int),.slice A1 L2 c1],.bool bb])∧OG w' w9.heap.size w'.heap.size A1 c1 P∧Mid 0 0 w9 w'):=Lib.hid hAE;have HP:=Lib.hid hgP;have HL2:=Lib.hid hL2;have hL3:L2≤L+1:=by omega
      have g0:=G9.cell 0 rfl;have g1:=G9.cell 1 rfl;have g2:=G9.cell 2 rfl;have v0:=V.cell 0 rfl;have v1:=V.cell 1 rfl;have v2:=V.cell 2 rfl;have hg9:=G9.1;have hev:=V.1;clear hP hin hLe hgP hPl hbb hAE hL2 O9 hst hef e0 e1 e2 hel hne;go_wp2_with fail;with_reducible refine (HAE.out).mono ?_
      rintro en wf ⟨A1,c1,rfl,oP,mf⟩;have G10:=G9.mid mf oZr;have B10:=B9.mid mf oZr;have C10:=C9.mid mf (Or.inr rfl);have M10:=M9.trans mf.zero;have hzf:=mf.size;clear g0 g1 g2 v0 v1 v2 V G9 B9 C9 M9 mf HAE hev;have g0:=G10.cell 0 rfl;have g1:=G10.cell 1 rfl;have g2:=G10.cell 2 rfl;have gf:=G10.2.2;have gl:=G10.1;have hbl:=B10.1;have hcl2:=C10.lt;have hst:=((Mid.setCell wf (lo:=gb) (hi:=gb+1) (p:=⟨gb,0,none⟩) (.int .i64 (rn:Int)) (Nat.le_refl _) (Nat.lt_succ_self _)).trans (Mid.setCell _ (lo:=gb) (hi:=gb+1) (p:=⟨gb,1,none⟩) (.int .i64 (n:Int)) (Nat.le_refl _) (Nat.lt_succ_self _))).trans (Mid.setCell _ (lo:=gb) (hi:=gb+1) (p:=⟨gb,2,none⟩) (.slice A1 L2 c1) (Nat.le_refl _) (Nat.lt_succ_self _));have G11:=((G10.set 0 (.int .i64 (rn:Int)) (by simp) rfl).set 1 (.int .i64 (n:Int)) (by simp) rfl).set 2 (.slice A1 L2 c1) (by simp) rfl;simp only [List.set_cons_succ,List.set_cons_zero] at G11;have B11:=B10.mid hst (by omega);have O11:=(oP.mid hst (Or.inl (by omega))).wide (lo':=gb+1) (by omega) hst.size (Nat.le_refl _);have C11:=C10.mid hst (by omega);have M11:=M10.transNew hst (by omega);clear hst B10 C10 M10 oP;go_wp2_with fail;go_roundw
      case rel=>exact ⟨m - 1,P,A1,c1,L2,by go_num,HL2,by omega,HP,G11,O11,B11,C11,M11⟩
      case measure=>simp [natV];omega
    ·go_simp
     refine hK.out _ _ (Or.inr ⟨cell_keep (Mid.alloc wc1 (.cells #[.int .i64 0,.int .i64 0,.int .i64 0] 68)) hG1.1 oZr (hG1.cell 0 rfl),cell_keep (Mid.alloc wc1 (.cells #[.int .i64 0,.int .i64 0,.int .i64 0] 68)) hG1.1 oZr (hG1.cell 1 rfl)⟩) (fun _=>?_);clear hK K;try simp only [Act.put,zs1,zs2,zs3,zs4,zs5,zs6]
     have al9:=Mid.alloc wc1 (.cells #[.int .i64 0,.int .i64 0,.int .i64 0] 68);have hE9:=Box.new wc1 #[.int .i64 0,.int .i64 0,.int .i64 0] 68;have hG9:=hG1.mid al9 oZr;have hB9:=hB1.mid al9 oZr;have hO9:=hO1.mid al9 oZl;have hC9:=hC1.mid al9 (Or.inr rfl);have hM9:=hM1.trans al9.zero;have hz9:=al9.size;have hgE9:=hG1.1;have hcE9:=hC1.lt;have hbE9:=hB1.1;generalize wc1.alloc (.cells #[.int .i64 0,.int .i64 0,.int .i64 0] 68)=wc9 at hE9 hG9 hB9 hO9 hC9 hM9 hz9 ⊢;clear al9;have hS9:=And.intro (hG9.cell 0 rfl) (hG9.cell 1 rfl);refine rdZ 7 rfl (fun K hK=>?_)
     (go_simp;(with_reducible refine (l1BelowI (rn:Int) (by omega) (by omega) p A bs c _ hb hl hC9).mono ?_);rintro en wc10 ⟨x10,rfl,hx10,hC10,m10⟩;have hG10:=hG9.mid m10 (Or.inr (by omega));go_wp2_with fail)
     refine hK.out _ _ (Or.inr ⟨hG10.cell 0 rfl,hG10.cell 1 rfl⟩) (fun _=>?_);clear hK K;try simp only [Act.put,zs1,zs2,zs3,zs4,zs5,zs6]
     have hS10:=And.intro (hG10.cell 0 rfl) (hG10.cell 1 rfl);have hB10:=hB9.mid m10 (Or.inr (by omega));have hO10:=hO9.mid m10 (Or.inl (by omega));have hM10:=hM9.trans m10;have hz10:=m10.size;have hE10:=hE9.mid m10 (Or.inr (by omega));have ew10:IntKind.i64.wrap (1+(x10:Int))=1+(x10:Int):=IntWalk.i64_in _ (by omega);refine tkZ [] 8 rfl hS10 ?_;try simp only [Act.put,zs1,zs2,zs3,zs4,zs5,zs6]
     refine rdZ 12 rfl (fun K hK=>?_)
     (go_simp;(with_reducible refine (l1BelowI (n:Int) (by omega) (by omega) p A bs c _ hb hl hC10).mono ?_);rintro en wc11 ⟨x11,rfl,hx11,hC11,m11⟩;have hG11:=hG10.mid m11 (Or.inr (by omega));go_wp2_with fail)
     refine hK.out _ _ (Or.inr ⟨hG11.cell 0 rfl,hG11.cell 1 rfl⟩) (fun _=>?_);clear hK K;try simp only [Act.put,zs1,zs2,zs3,zs4,zs5,zs6]
     have hS11:=And.intro (hG11.cell 0 rfl) (hG11.cell 1 rfl);have hB11:=hB10.mid m11 (Or.inr (by omega));have hO11:=hO10.mid m11 (Or.inl (by omega));have hM11:=hM10.trans m11;have hz11:=m11.size;have hE11:=hE10.mid m11 (Or.inr (by omega));refine tkZ [] 13 rfl hS11 ?_;try simp only [Act.put,zs1,zs2,zs3,zs4,zs5,zs6]
     have hef:=hE11.2.2;have e0:=hE11.cell 0 rfl;have e1:=hE11.cell 1 rfl;have e2:=hE11.cell 2 rfl;have hel:=hE11.1;have hne:gb≠wc1.heap.size:=by omega
     have hst:=((Mid.setCell wc11 (lo:=wc1.heap.size) (hi:=wc1.heap.size+1) (p:=⟨wc1.heap.size,0,none⟩) (.int .i64 (x1:Int)) (Nat.le_refl _) (Nat.lt_succ_self _)).trans (Mid.setCell _ (lo:=wc1.heap.size) (hi:=wc1.heap.size+1) (p:=⟨wc1.heap.size,1,none⟩) (.int .i64 (1+(x10:Int))) (Nat.le_refl _) (Nat.lt_succ_self _))).trans (Mid.setCell _ (lo:=wc1.heap.size) (hi:=wc1.heap.size+1) (p:=⟨wc1.heap.size,2,none⟩) (.int .i64 (x11:Int)) (Nat.le_refl _) (Nat.lt_succ_self _));have V:=((hE11.set 0 (.int .i64 (x1:Int)) (by simp) rfl).set 1 (.int .i64 (1+(x10:Int))) (by simp) rfl).set 2 (.int .i64 (x11:Int)) (by simp) rfl;simp only [List.set_cons_succ,List.set_cons_zero] at V;have hcl:=hC11.lt;have G9:=hG11.mid hst (by omega);have B9:=hB11.mid hst (by omega);have O9:=hO11.mid hst (by omega);have C9:=hC11.mid hst (by omega);have M9:=hM11.transNew hst (by omega);refine rdZ 15 rfl (fun K hK=>?_);go_simp;refine hK.out _ _ (Or.inr ⟨G9.cell 0 rfl,G9.cell 1 rfl⟩) (fun _=>?_);clear hK K;try simp only [Act.put,zs1,zs2,zs3,zs4,zs5,zs6]
     refine wpAnyZ_done (by kernel_rfl) ?_ _;generalize ((wc11.setCell ⟨wc1.heap.size,0,none⟩ (.int .i64 (x1:Int))).setCell ⟨wc1.heap.size,1,none⟩ (.int .i64 (1+(x10:Int)))).setCell ⟨wc1.heap.size,2,none⟩ (.int .i64 (x11:Int))=w9 at V G9 B9 O9 C9 M9 ⊢;obtain ⟨P,hP⟩:∃ P,putE ⟨(x1:Int),1+(x10:Int),(x11:Int)⟩ es=P:=⟨_,rfl⟩
     have hin:InG rn n ⟨(x1:Int),1+(x10:Int),(x11:Int)⟩:=by simp only [InG];omega
     have hLe:=HL.out;have hgP:IsGr rn n P:=hP ▸ putE_gr HG.out hin (by omega);have hPl:P.length≤L+1:=by have:=putE_len ⟨(x1:Int),1+(x10:Int),(x11:Int)⟩ es;rw [hP] at this;omega
     obtain ⟨bb,hbb⟩:∃ b,decide ((es.length:Int) < (P.length:Int))=b:=⟨_,rfl⟩
     have hAE:=spec_AddEdgeB rn n Ae es ce ⟨(x1:Int),1+(x10:Int),(x11:Int)⟩ w9 _ _ O9.rg HG.out (edB_of hin (by omega)) (by omega) bb (by rw [hP];exact hbb);obtain ⟨L2,hL2⟩:∃ l,P.length=l:=⟨_,rfl⟩
     rw [hP,hLe,hL2] at hAE;have HAE:Hid (Calls Tryz.prog 222 #[.agg #[.int .i64 (rn:Int),.int .i64 (n:Int),.slice Ae L ce],.agg #[.int .i64 (x1:Int),.int .i64 (1+(x10:Int)),.int .i64 (x11:Int)]] w9 fun en w'=>∃ A1 c1,en=.returned (.tuple #[.agg #[.int .i64 (rn:Int),.int .i64 (n:Int),.slice A1 L2 c1],.bool bb])∧OG w' w9.heap.size w'.heap.size A1 c1 P∧Mid 0 0 w9 w'):=Lib.hid hAE;have HP:=Lib.hid hgP;have HL2:=Lib.hid hL2;have hL3:L2≤L+1:=by omega
     have g0:=G9.cell 0 rfl;have g1:=G9.cell 1 rfl;have g2:=G9.cell 2 rfl;have v0:=V.cell 0 rfl;have v1:=V.cell 1 rfl;have v2:=V.cell 2 rfl;have hg9:=G9.1;have hev:=V.1;clear hP hin hLe hgP hPl hbb hAE hL2 O9 hst hef e0 e1 e2 hel hne;go_wp2_with fail;with_reducible refine (HAE.out).mono ?_
     rintro en wf ⟨A1,c1,rfl,oP,mf⟩;have G10:=G9.mid mf oZr;have B10:=B9.mid mf oZr;have C10:=C9.mid mf (Or.inr rfl);have M10:=M9.trans mf.zero;have hzf:=mf.size;clear g0 g1 g2 v0 v1 v2 V G9 B9 C9 M9 mf HAE hev;have g0:=G10.cell 0 rfl;have g1:=G10.cell 1 rfl;have g2:=G10.cell 2 rfl;have gf:=G10.2.2;have gl:=G10.1;have hbl:=B10.1;have hcl2:=C10.lt;have hst:=((Mid.setCell wf (lo:=gb) (hi:=gb+1) (p:=⟨gb,0,none⟩) (.int .i64 (rn:Int)) (Nat.le_refl _) (Nat.lt_succ_self _)).trans (Mid.setCell _ (lo:=gb) (hi:=gb+1) (p:=⟨gb,1,none⟩) (.int .i64 (n:Int)) (Nat.le_refl _) (Nat.lt_succ_self _))).trans (Mid.setCell _ (lo:=gb) (hi:=gb+1) (p:=⟨gb,2,none⟩) (.slice A1 L2 c1) (Nat.le_refl _) (Nat.lt_succ_self _));have G11:=((G10.set 0 (.int .i64 (rn:Int)) (by simp) rfl).set 1 (.int .i64 (n:Int)) (by simp) rfl).set 2 (.slice A1 L2 c1) (by simp) rfl;simp only [List.set_cons_succ,List.set_cons_zero] at G11;have B11:=B10.mid hst (by omega);have O11:=(oP.mid hst (Or.inl (by omega))).wide (lo':=gb+1) (by omega) hst.size (Nat.le_refl _);have C11:=C10.mid hst (by omega);have M11:=M10.transNew hst (by omega);clear hst B10 C10 M10 oP;go_wp2_with fail;go_roundw
     case rel=>exact ⟨m - 1,P,A1,c1,L2,by go_num,HL2,by omega,HP,G11,O11,B11,C11,M11⟩
     case measure=>simp [natV];omega
   ·go_simp
    refine hK.out _ _ (Or.inr ⟨cell_keep (Mid.alloc wz (.cells #[.int .i64 0,.int .i64 0,.int .i64 0] 68)) hG.1 oZr (hG.cell 0 rfl),cell_keep (Mid.alloc wz (.cells #[.int .i64 0,.int .i64 0,.int .i64 0] 68)) hG.1 oZr (hG.cell 1 rfl)⟩) (fun _=>?_);clear hK K;try simp only [Act.put,zs1,zs2,zs3,zs4,zs5,zs6]
    have al13:=Mid.alloc wz (.cells #[.int .i64 0,.int .i64 0,.int .i64 0] 68);have hE13:=Box.new wz #[.int .i64 0,.int .i64 0,.int .i64 0] 68;have hG13:=hG.mid al13 oZr;have hB13:=hB.mid al13 oZr;have hO13:=hOz.mid al13 oZl;have hC13:=hC.mid al13 (Or.inr rfl);have hM13:=hM.trans al13.zero;have hz13:=al13.size;have hgE13:=hG.1;have hcE13:=hC.lt;have hbE13:=hB.1;generalize wz.alloc (.cells #[.int .i64 0,.int .i64 0,.int .i64 0] 68)=wc13 at hE13 hG13 hB13 hO13 hC13 hM13 hz13 ⊢;clear al13;have hS13:=And.intro (hG13.cell 0 rfl) (hG13.cell 1 rfl);refine rdZ 3 rfl (fun K hK=>?_)
    (go_simp;(with_reducible refine (l1BelowI (n:Int) (by omega) (by omega) p A bs c _ hb hl hC13).mono ?_);rintro en wc14 ⟨x14,rfl,hx14,hC14,m14⟩;have hG14:=hG13.mid m14 (Or.inr (by omega));go_wp2_with fail)
    refine hK.out _ _ (Or.inr ⟨hG14.cell 0 rfl,hG14.cell 1 rfl⟩) (fun _=>?_);clear hK K;try simp only [Act.put,zs1,zs2,zs3,zs4,zs5,zs6]
    have hS14:=And.intro (hG14.cell 0 rfl) (hG14.cell 1 rfl);have hB14:=hB13.mid m14 (Or.inr (by omega));have hO14:=hO13.mid m14 (Or.inl (by omega));have hM14:=hM13.trans m14;have hz14:=m14.size;have hE14:=hE13.mid m14 (Or.inr (by omega));refine rdZ 7 rfl (fun K hK=>?_)
    (go_simp;(with_reducible refine (l1BelowI (rn:Int) (by omega) (by omega) p A bs c _ hb hl hC14).mono ?_);rintro en wc15 ⟨x15,rfl,hx15,hC15,m15⟩;have hG15:=hG14.mid m15 (Or.inr (by omega));go_wp2_with fail)
    refine hK.out _ _ (Or.inr ⟨hG15.cell 0 rfl,hG15.cell 1 rfl⟩) (fun _=>?_);clear hK K;try simp only [Act.put,zs1,zs2,zs3,zs4,zs5,zs6]
    have hS15:=And.intro (hG15.cell 0 rfl) (hG15.cell 1 rfl);have hB15:=hB14.mid m15 (Or.inr (by omega));have hO15:=hO14.mid m15 (Or.inl (by omega));have hM15:=hM14.trans m15;have hz15:=m15.size;have hE15:=hE14.mid m15 (Or.inr (by omega));have ew15:IntKind.i64.wrap (1+(x15:Int))=1+(x15:Int):=IntWalk.i64_in _ (by omega);refine tkZ [] 8 rfl hS15 ?_;try simp only [Act.put,zs1,zs2,zs3,zs4,zs5,zs6]
    refine rdZ 12 rfl (fun K hK=>?_)
    (go_simp;(with_reducible refine (l1BelowI (n:Int) (by omega) (by omega) p A bs c _ hb hl hC15).mono ?_);rintro en wc16 ⟨x16,rfl,hx16,hC16,m16⟩;have hG16:=hG15.mid m16 (Or.inr (by omega));go_wp2_with fail)
    refine hK.out _ _ (Or.inr ⟨hG16.cell 0 rfl,hG16.cell 1 rfl⟩) (fun _=>?_);clear hK K;try simp only [Act.put,zs1,zs2,zs3,zs4,zs5,zs6]
    have hS16:=And.intro (hG16.cell 0 rfl) (hG16.cell 1 rfl);have hB16:=hB15.mid m16 (Or.inr (by omega));have hO16:=hO15.mid m16 (Or.inl (by omega));have hM16:=hM15.trans m16;have hz16:=m16.size;have hE16:=hE15.mid m16 (Or.inr (by omega));refine tkZ [] 13 rfl hS16 ?_;try simp only [Act.put,zs1,zs2,zs3,zs4,zs5,zs6]
    have hef:=hE16.2.2;have e0:=hE16.cell 0 rfl;have e1:=hE16.cell 1 rfl;have e2:=hE16.cell 2 rfl;have hel:=hE16.1;have hne:gb≠wz.heap.size:=by omega
    have hst:=((Mid.setCell wc16 (lo:=wz.heap.size) (hi:=wz.heap.size+1) (p:=⟨wz.heap.size,0,none⟩) (.int .i64 (x14:Int)) (Nat.le_refl _) (Nat.lt_succ_self _)).trans (Mid.setCell _ (lo:=wz.heap.size) (hi:=wz.heap.size+1) (p:=⟨wz.heap.size,1,none⟩) (.int .i64 (1+(x15:Int))) (Nat.le_refl _) (Nat.lt_succ_self _))).trans (Mid.setCell _ (lo:=wz.heap.size) (hi:=wz.heap.size+1) (p:=⟨wz.heap.size,2,none⟩) (.int .i64 (x16:Int)) (Nat.le_refl _) (Nat.lt_succ_self _));have V:=((hE16.set 0 (.int .i64 (x14:Int)) (by simp) rfl).set 1 (.int .i64 (1+(x15:Int))) (by simp) rfl).set 2 (.int .i64 (x16:Int)) (by simp) rfl;simp only [List.set_cons_succ,List.set_cons_zero] at V;have hcl:=hC16.lt;have G9:=hG16.mid hst (by omega);have B9:=hB16.mid hst (by omega);have O9:=hO16.mid hst (by omega);have C9:=hC16.mid hst (by omega);have M9:=hM16.transNew hst (by omega);refine rdZ 15 rfl (fun K hK=>?_);go_simp;refine hK.out _ _ (Or.inr ⟨G9.cell 0 rfl,G9.cell 1 rfl⟩) (fun _=>?_);clear hK K;try simp only [Act.put,zs1,zs2,zs3,zs4,zs5,zs6]
    refine wpAnyZ_done (by kernel_rfl) ?_ _;generalize ((wc16.setCell ⟨wz.heap.size,0,none⟩ (.int .i64 (x14:Int))).setCell ⟨wz.heap.size,1,none⟩ (.int .i64 (1+(x15:Int)))).setCell ⟨wz.heap.size,2,none⟩ (.int .i64 (x16:Int))=w9 at V G9 B9 O9 C9 M9 ⊢;obtain ⟨P,hP⟩:∃ P,putE ⟨(x14:Int),1+(x15:Int),(x16:Int)⟩ es=P:=⟨_,rfl⟩
    have hin:InG rn n ⟨(x14:Int),1+(x15:Int),(x16:Int)⟩:=by simp only [InG];omega
    have hLe:=HL.out;have hgP:IsGr rn n P:=hP ▸ putE_gr HG.out hin (by omega);have hPl:P.length≤L+1:=by have:=putE_len ⟨(x14:Int),1+(x15:Int),(x16:Int)⟩ es;rw [hP] at this;omega
    obtain ⟨bb,hbb⟩:∃ b,decide ((es.length:Int) < (P.length:Int))=b:=⟨_,rfl⟩
    have hAE:=spec_AddEdgeB rn n Ae es ce ⟨(x14:Int),1+(x15:Int),(x16:Int)⟩ w9 _ _ O9.rg HG.out (edB_of hin (by omega)) (by omega) bb (by rw [hP];exact hbb);obtain ⟨L2,hL2⟩:∃ l,P.length=l:=⟨_,rfl⟩
    rw [hP,hLe,hL2] at hAE;have HAE:Hid (Calls Tryz.prog 222 #[.agg #[.int .i64 (rn:Int),.int .i64 (n:Int),.slice Ae L ce],.agg #[.int .i64 (x14:Int),.int .i64 (1+(x15:Int)),.int .i64 (x16:Int)]] w9 fun en w'=>∃ A1 c1,en=.returned (.tuple #[.agg #[.int .i64 (rn:Int),.int .i64 (n:Int),.slice A1 L2 c1],.bool bb])∧OG w' w9.heap.size w'.heap.size A1 c1 P∧Mid 0 0 w9 w'):=Lib.hid hAE;have HP:=Lib.hid hgP;have HL2:=Lib.hid hL2;have hL3:L2≤L+1:=by omega
    have g0:=G9.cell 0 rfl;have g1:=G9.cell 1 rfl;have g2:=G9.cell 2 rfl;have v0:=V.cell 0 rfl;have v1:=V.cell 1 rfl;have v2:=V.cell 2 rfl;have hg9:=G9.1;have hev:=V.1;clear hP hin hLe hgP hPl hbb hAE hL2 O9 hst hef e0 e1 e2 hel hne;go_wp2_with fail;with_reducible refine (HAE.out).mono ?_
    rintro en wf ⟨A1,c1,rfl,oP,mf⟩;have G10:=G9.mid mf oZr;have B10:=B9.mid mf oZr;have C10:=C9.mid mf (Or.inr rfl);have M10:=M9.trans mf.zero;have hzf:=mf.size;clear g0 g1 g2 v0 v1 v2 V G9 B9 C9 M9 mf HAE hev;have g0:=G10.cell 0 rfl;have g1:=G10.cell 1 rfl;have g2:=G10.cell 2 rfl;have gf:=G10.2.2;have gl:=G10.1;have hbl:=B10.1;have hcl2:=C10.lt;have hst:=((Mid.setCell wf (lo:=gb) (hi:=gb+1) (p:=⟨gb,0,none⟩) (.int .i64 (rn:Int)) (Nat.le_refl _) (Nat.lt_succ_self _)).trans (Mid.setCell _ (lo:=gb) (hi:=gb+1) (p:=⟨gb,1,none⟩) (.int .i64 (n:Int)) (Nat.le_refl _) (Nat.lt_succ_self _))).trans (Mid.setCell _ (lo:=gb) (hi:=gb+1) (p:=⟨gb,2,none⟩) (.slice A1 L2 c1) (Nat.le_refl _) (Nat.lt_succ_self _));have G11:=((G10.set 0 (.int .i64 (rn:Int)) (by simp) rfl).set 1 (.int .i64 (n:Int)) (by simp) rfl).set 2 (.slice A1 L2 c1) (by simp) rfl;simp only [List.set_cons_succ,List.set_cons_zero] at G11;have B11:=B10.mid hst (by omega);have O11:=(oP.mid hst (Or.inl (by omega))).wide (lo':=gb+1) (by omega) hst.size (Nat.le_refl _);have C11:=C10.mid hst (by omega);have M11:=M10.transNew hst (by omega);clear hst B10 C10 M10 oP;go_wp2_with fail;go_roundw
    case rel=>exact ⟨m - 1,P,A1,c1,L2,by go_num,HL2,by omega,HP,G11,O11,B11,C11,M11⟩
    case measure=>simp [natV];omega
  ·have q0:=hG.cell 0 rfl
   have q1:=hG.cell 1 rfl;have q2:=hG.cell 2 rfl;have p0:=hB.cell 0 rfl;have p1:=hB.cell 1 rfl;have p2:=hB.cell 2 rfl;have pf:=hB.2.2;have hbw:=hB.1;have hle:=HL.out;have hst:=((Mid.setCell wr (lo:=w.heap.size) (hi:=w.heap.size+1) (p:=⟨w.heap.size,0,none⟩) (.int .i64 (rn:Int)) (Nat.le_refl _) (Nat.lt_succ_self _)).trans (Mid.setCell _ (lo:=w.heap.size) (hi:=w.heap.size+1) (p:=⟨w.heap.size,1,none⟩) (.int .i64 (n:Int)) (Nat.le_refl _) (Nat.lt_succ_self _))).trans (Mid.setCell _ (lo:=w.heap.size) (hi:=w.heap.size+1) (p:=⟨w.heap.size,2,none⟩) (.slice Ae L ce) (Nat.le_refl _) (Nat.lt_succ_self _));have O9:=Lib.hid ((hO.mid hst (Or.inl (by omega))).wide (lo':=w.heap.size) (by omega) hst.size (Nat.le_refl _));have C9:=Lib.hid (hC.mid hst (Or.inl hpw));have M9:=Lib.hid (hM.transNew hst (Or.inl (Nat.le_refl _)));have HLE:=Lib.hid hle;clear hst hle hO hC hM;go_wp2_with fail;refine bodyPost_ret (v:=.agg #[.int .i64 (rn:Int),.int .i64 (n:Int),.slice Ae L ce]) (by simp [results,Tryz.results195,go_sem,p0,p1,p2,pf,q0,q1,q2]) rfl ⟨rn,n,Ae,ce,es,?_,⟨HG.out,by omega,by have:=HLE.out;omega⟩,O9.out,C9.out,M9.out⟩;rw [HLE.out]
end
section
open Go.RowKit
theorem DrG.size {r s t:Int} {es:List Ed} (h:DrG r s es) (ht:-10≤t∧t≤100):DrG r t es:=⟨h.rk,ht,h.len,h.all⟩
theorem DrG.rank {r s t:Int} {es:List Ed} (h:DrG r s es) (ht:-10≤t∧t≤10):DrG t s es:=⟨ht,h.sz,h.len,h.all⟩
theorem DrG.add {r s:Int} {es:List Ed} {e:Ed} (h:DrG r s es) (hl:es.length≤120) (he:(-100≤e.a∧e.a≤100)∧(-100≤e.l∧e.l≤100)∧(-100≤e.b∧e.b≤100)):DrG r s (es++[e]):=⟨h.rk,h.sz,by rw [List.length_append];simp;omega,fun x hx=>by
 rcases List.mem_append.1 hx with hx | hx
 ·exact h.all x hx
 ·simp at hx
  rw [hx];exact he⟩
theorem l4Any_any (p:Nat) (A:Option Addr) (bs:List Int) (c:Nat) (w:World) (hb:OkB bs) (hl:bs.length≤1048576) (h:Cur w p A bs c) :
  Calls Tryz.prog 194 #[.pointer (some ⟨p,0,none⟩)] w fun e w'=>∃ r s A' c' es,e=.returned (graV r s A' (List.length es) c')∧DrG r s es∧OG w' w.heap.size w'.heap.size A' c' es∧Cur w' p A bs c∧Mid p (p+1) w w':=by
 have hpw:=h.lt;have hal:=Mid.alloc w (.cells #[.int .i64 0,.int .i64 0,.slice none 0 0] 26);have B2:=Box.new w #[.int .i64 0,.int .i64 0,.slice none 0 0] 26;have h0:=h.mid hal (Or.inr rfl);go_enter Tryz.func194,Tryz.ntmps194
 go_wp2_with fail;generalize (w.alloc (.cells #[.int .i64 0,.int .i64 0,.slice none 0 0] 26))=w1 at B2 h0 hal ⊢;have hs1:w.heap.size < w1.heap.size:=B2.1;with_reducible refine (l4Graph_any p A bs c w1 hb hl h0).mono ?_
 rintro e w2 ⟨r,n,Ae,ce,es,rfl,⟨hg,hn5,he8⟩,hO,h2,m2⟩;replace B2:=B2.mid m2 (Or.inr (by omega));have hm2:=hal.zero.trans m2;have hs2:=m2.size;have HG:=Lib.hid (DrG.of_gr hg);obtain ⟨L,hL⟩:∃ l,es.length=l:=⟨_,rfl⟩
 have HL:=Lib.hid hL;have hL8:L≤8:=by omega
 rw [hL];have hal2:=Mid.alloc w2 (.cells #[.int .i64 (r:Int),.int .i64 (n:Int),.slice Ae L ce] 26);have G0:=Box.new w2 #[.int .i64 (r:Int),.int .i64 (n:Int),.slice Ae L ce] 26;obtain ⟨gb,hgb⟩:∃ g,w2.heap.size=g:=⟨_,rfl⟩
 clear hg hn5 he8 hal h0 m2 hL;go_wp2_with fail;rw [hgb] at G0;replace B2:=B2.mid hal2 oZr;replace h2:=h2.mid hal2 (Or.inr rfl);replace hm2:=hm2.trans hal2.zero;have hO3:=(hO.mid hal2 oZl).wide (lo':=w.heap.size+1) (hi':=gb) (by omega) (by omega) (by have:=G0.1;omega);generalize w2.alloc (.cells #[.int .i64 (r:Int),.int .i64 (n:Int),.slice Ae L ce] 26)=w3 at G0 B2 h2 hm2 hO3 ⊢;have hg3:gb < w3.heap.size:=G0.1;have hwg:w.heap.size < gb:=by omega
 clear hal2 hO hs1 hs2 hgb;with_reducible refine (l1BelowI 14 (by decide) (by decide) p A bs c _ hb hl h2).mono ?_
 rintro e w4 ⟨k,rfl,hk,h4,m4⟩;replace G0:=G0.mid m4 (Or.inr (by omega));replace B2:=B2.mid m4 (Or.inr (by omega));have hO4:=hO3.mid m4 (Or.inl (by omega));have hm4:=hm2.trans m4;clear h2 hO3 hm2 m4 hg3;rcases (by omega:k=0 ∨ k=1 ∨ k=2 ∨ 3≤k) with rfl | rfl | rfl | hk3
 ·have HD:=Lib.hid (HG.out)
  have al:=Mid.alloc w4 (.cells #[.int .i64 (-1),.int .i64 0,.int .i64 1,.int .i64 41] 3);have hbx:=Box.new w4 #[.int .i64 (-1),.int .i64 0,.int .i64 1,.int .i64 41] 3;go_wp2_with fail;replace G0:=G0.mid al oZr;replace B2:=B2.mid al oZr;have hO5:=hO4.mid al oZl;have h5:=h4.mid al (Or.inr rfl);have hm5:=hm4.trans al.zero;have hgl4:=G0.1;have hpl4:=h4.lt;have hri:RI (w4.alloc (.cells #[.int .i64 (-1),.int .i64 0,.int .i64 1,.int .i64 41] 3)) w4.heap.size (w4.heap.size+1) (some ⟨w4.heap.size,0,none⟩) [-1,0,1,41]:=⟨hbx.1,fun _=>⟨w4.heap.size,0,rfl,Nat.le_refl _,Nat.lt_succ_self _,fun j u hu=>by rw [Nat.zero_add];exact hbx.2.1 j u (by simpa [ints] using hu)⟩⟩
  generalize (w4.alloc (.cells #[.int .i64 (-1),.int .i64 0,.int .i64 1,.int .i64 41] 3))=w5 at G0 B2 hO5 h5 hm5 hri hgl4 ⊢;clear hO4 h4 hm4 al hbx;with_reducible refine (l1PickIntN (some ⟨w4.heap.size,0,none⟩) [-1,0,1,41] 4 4 rfl (by decide) (by decide) p A bs c _ _ _ hri (Or.inl hpl4) hb hl h5).mono ?_
  rintro e w6 ⟨t,rfl,htm,h6,m6⟩;have ht:-10≤t∧t≤100:=by simp at htm;omega
  replace G0:=G0.mid m6 (Or.inr (by omega));replace B2:=B2.mid m6 (Or.inr (by omega));have hO6:=hO5.mid m6 (Or.inl (by omega));have hm6:=hm5.trans m6;clear hO5 h5 hm5 m6 hri htm;have g0:=G0.cell 0 rfl;have g1:=G0.cell 1 rfl;have g2:=G0.cell 2 rfl;have gf:=G0.2.2;have gl:=G0.1;have hst:=Mid.setCell w6 (lo:=gb) (hi:=gb+1) (p:=⟨gb,1,none⟩) (.int .i64 t) (Nat.le_refl _) (Nat.lt_succ_self _);replace G0:=G0.set 1 (.int .i64 t) (by simp) rfl;simp only [List.set_cons_succ,List.set_cons_zero] at G0;replace B2:=B2.mid hst (Or.inl (by omega));replace hO6:=hO6.mid hst (Or.inr (Nat.le_refl _));replace h6:=h6.mid hst (Or.inl (by omega));replace hm6:=hm6.transNew hst (Or.inl (by omega));have ql:=B2.1;have gl2:=G0.1;have k0:=G0.cell 0 rfl;have k1:=G0.cell 1 rfl;have k2:=G0.cell 2 rfl;have q0:=B2.cell 0 rfl;have q1:=B2.cell 1 rfl;have q2:=B2.cell 2 rfl;have qf:=B2.2.2;obtain ⟨wT,hwT⟩:∃ x,w6.setCell ⟨gb,1,none⟩ (.int .i64 t)=x:=⟨_,rfl⟩
  rw [hwT] at G0 B2 hO6 h6 hm6 ql gl2 k0 k1 k2 q0 q1 q2 qf;clear hst;have hst:=((Mid.setCell wT (lo:=w.heap.size) (hi:=w.heap.size+1) (p:=⟨w.heap.size,0,none⟩) (.int .i64 (r:Int)) (Nat.le_refl _) (Nat.lt_succ_self _)).trans (Mid.setCell _ (lo:=w.heap.size) (hi:=w.heap.size+1) (p:=⟨w.heap.size,1,none⟩) (.int .i64 t) (Nat.le_refl _) (Nat.lt_succ_self _))).trans (Mid.setCell _ (lo:=w.heap.size) (hi:=w.heap.size+1) (p:=⟨w.heap.size,2,none⟩) (.slice Ae L ce) (Nat.le_refl _) (Nat.lt_succ_self _));have O9:=Lib.hid ((hO6.mid hst (Or.inl (by omega))).wide (lo':=w.heap.size) (hi':=_) (by omega) (by have:=hst.size;have:=hO6.size;exact Nat.le_trans hO6.size hst.size) (Nat.le_refl _));have C9:=Lib.hid (h6.mid hst (Or.inl hpw));have M9:=Lib.hid (hm6.transNew hst (Or.inl (Nat.le_refl _)));clear hst hO6 h6 hm6;go_wp2_with fail;refine bodyPost_ret (v:=.agg #[.int .i64 (r:Int),.int .i64 t,.slice Ae L ce]) (by simp [results,Tryz.results194,go_sem,q0,q1,q2,qf,k0,k1,k2]) rfl ⟨(r:Int),t,Ae,ce,es,?_,(HG.out.size ht),O9.out,C9.out,M9.out⟩;rw [HL.out]
 ·have HD:=Lib.hid (HG.out)
  have al:=Mid.alloc w4 (.cells #[.int .i64 0,.int .i64 1,.int .i64 4] 3);have hbx:=Box.new w4 #[.int .i64 0,.int .i64 1,.int .i64 4] 3;go_wp2_with fail;replace G0:=G0.mid al oZr;replace B2:=B2.mid al oZr;have hO5:=hO4.mid al oZl;have h5:=h4.mid al (Or.inr rfl);have hm5:=hm4.trans al.zero;have hgl4:=G0.1;have hpl4:=h4.lt;have hri:RI (w4.alloc (.cells #[.int .i64 0,.int .i64 1,.int .i64 4] 3)) w4.heap.size (w4.heap.size+1) (some ⟨w4.heap.size,0,none⟩) [0,1,4]:=⟨hbx.1,fun _=>⟨w4.heap.size,0,rfl,Nat.le_refl _,Nat.lt_succ_self _,fun j u hu=>by rw [Nat.zero_add];exact hbx.2.1 j u (by simpa [ints] using hu)⟩⟩
  generalize (w4.alloc (.cells #[.int .i64 0,.int .i64 1,.int .i64 4] 3))=w5 at G0 B2 hO5 h5 hm5 hri hgl4 ⊢;clear hO4 h4 hm4 al hbx;with_reducible refine (l1PickIntN (some ⟨w4.heap.size,0,none⟩) [0,1,4] 3 3 rfl (by decide) (by decide) p A bs c _ _ _ hri (Or.inl hpl4) hb hl h5).mono ?_
  rintro e w6 ⟨t,rfl,htm,h6,m6⟩;have ht:-10≤t∧t≤10:=by simp at htm;omega
  replace G0:=G0.mid m6 (Or.inr (by omega));replace B2:=B2.mid m6 (Or.inr (by omega));have hO6:=hO5.mid m6 (Or.inl (by omega));have hm6:=hm5.trans m6;clear hO5 h5 hm5 m6 hri htm;have g0:=G0.cell 0 rfl;have g1:=G0.cell 1 rfl;have g2:=G0.cell 2 rfl;have gf:=G0.2.2;have gl:=G0.1;have hst:=Mid.setCell w6 (lo:=gb) (hi:=gb+1) (p:=⟨gb,0,none⟩) (.int .i64 t) (Nat.le_refl _) (Nat.lt_succ_self _);replace G0:=G0.set 0 (.int .i64 t) (by simp) rfl;simp only [List.set_cons_succ,List.set_cons_zero] at G0;replace B2:=B2.mid hst (Or.inl (by omega));replace hO6:=hO6.mid hst (Or.inr (Nat.le_refl _));replace h6:=h6.mid hst (Or.inl (by omega));replace hm6:=hm6.transNew hst (Or.inl (by omega));have ql:=B2.1;have gl2:=G0.1;have k0:=G0.cell 0 rfl;have k1:=G0.cell 1 rfl;have k2:=G0.cell 2 rfl;have q0:=B2.cell 0 rfl;have q1:=B2.cell 1 rfl;have q2:=B2.cell 2 rfl;have qf:=B2.2.2;obtain ⟨wT,hwT⟩:∃ x,w6.setCell ⟨gb,0,none⟩ (.int .i64 t)=x:=⟨_,rfl⟩
  rw [hwT] at G0 B2 hO6 h6 hm6 ql gl2 k0 k1 k2 q0 q1 q2 qf;clear hst;have hst:=((Mid.setCell wT (lo:=w.heap.size) (hi:=w.heap.size+1) (p:=⟨w.heap.size,0,none⟩) (.int .i64 t) (Nat.le_refl _) (Nat.lt_succ_self _)).trans (Mid.setCell _ (lo:=w.heap.size) (hi:=w.heap.size+1) (p:=⟨w.heap.size,1,none⟩) (.int .i64 (n:Int)) (Nat.le_refl _) (Nat.lt_succ_self _))).trans (Mid.setCell _ (lo:=w.heap.size) (hi:=w.heap.size+1) (p:=⟨w.heap.size,2,none⟩) (.slice Ae L ce) (Nat.le_refl _) (Nat.lt_succ_self _));have O9:=Lib.hid ((hO6.mid hst (Or.inl (by omega))).wide (lo':=w.heap.size) (hi':=_) (by omega) (by have:=hst.size;have:=hO6.size;exact Nat.le_trans hO6.size hst.size) (Nat.le_refl _));have C9:=Lib.hid (h6.mid hst (Or.inl hpw));have M9:=Lib.hid (hm6.transNew hst (Or.inl (Nat.le_refl _)));clear hst hO6 h6 hm6;go_wp2_with fail;refine bodyPost_ret (v:=.agg #[.int .i64 t,.int .i64 (n:Int),.slice Ae L ce]) (by simp [results,Tryz.results194,go_sem,q0,q1,q2,qf,k0,k1,k2]) rfl ⟨t,(n:Int),Ae,ce,es,?_,(HG.out.rank ht),O9.out,C9.out,M9.out⟩;rw [HL.out]
 ·have hmd:=Mid.drew1 w4
  replace G0:=G0.mid hmd oZr;replace B2:=B2.mid hmd oZr;replace hO4:=hO4.mid hmd oZl;replace h4:=h4.mid hmd (Or.inr rfl);replace hm4:=hm4.trans hmd.zero;clear hmd;have g2:=G0.cell 2 rfl;go_wp2_with fail;refine wp_region_Z (S:=(fun w'=>w'.cell? ⟨gb,2,none⟩=some (.slice Ae L ce))) [8] (by kernel_rfl) g2 ?_;generalize World.drew w4=wz at G0 B2 hO4 h4 hm4 g2 ⊢;refine tkZ [8] 0 rfl g2 ?_;try simp only [Act.put,zs1,zs2,zs3,zs4,zs5,zs6]
  refine tkZ [8] 1 rfl g2 ?_;try simp only [Act.put,zs1,zs2,zs3,zs4,zs5,zs6]
  refine tkZ [8] 2 rfl g2 ?_;try simp only [Act.put,zs1,zs2,zs3,zs4,zs5,zs6]
  refine rdZ 3 rfl (fun K hK=>?_)
  (go_simp;(with_reducible refine (l1BelowI 4 (by decide) (by decide) p A bs c _ hb hl h4).mono ?_);rintro en w5 ⟨x,rfl,hx,h5,m5⟩;have G5:=G0.mid m5 (Or.inr (by omega));go_wp2_with fail)
  refine hK.out _ _ (Or.inr (G5.cell 2 rfl)) (fun _=>?_);clear hK K;try simp only [Act.put,zs1,zs2,zs3,zs4,zs5,zs6]
  have B5:=B2.mid m5 (Or.inr (by omega));have O5:=hO4.mid m5 (Or.inl (by omega));have hm5:=hm4.trans m5;clear g2 G0 B2 hO4 h4 hm4 m5;have k2:=G5.cell 2 rfl;refine tkZ [8] 4 rfl k2 ?_;try simp only [Act.put,zs1,zs2,zs3,zs4,zs5,zs6]
  have al:=Mid.alloc w5 (.cells #[.int .i64 (x:Int),.int .i64 1,.int .i64 0] 68);have G6:=G5.mid al oZr;have hrs:Rs (w5.alloc (.cells #[.int .i64 (x:Int),.int .i64 1,.int .i64 0] 68)) (w5.heap.size+1) (some ⟨w5.heap.size,0,none⟩) [.int .i64 (x:Int),.int .i64 1,.int .i64 0]:=fun _=>⟨w5.heap.size,0,rfl,Nat.lt_succ_self _,fun j u hu=>(World.cell?_alloc_at _ _ _ _ rfl).trans (by simpa using hu)⟩
  refine rdZ 5 rfl (fun K hK=>?_);go_simp;refine hK.out _ _ (Or.inr (G6.cell 2 rfl)) (fun _=>?_);clear hK K;try simp only [Act.put,zs1,zs2,zs3,zs4,zs5,zs6]
  have B6:=B5.mid al oZr;have O6:=O5.mid al oZl;have h6:=h5.mid al (Or.inr rfl);have hm6:=hm5.trans al.zero;have hg5:=G5.1;generalize w5.alloc (.cells #[.int .i64 (x:Int),.int .i64 1,.int .i64 0] 68)=w6 at G6 hrs B6 O6 h6 hm6 ⊢;clear al B5 O5 h5 hm5 k2 G5;have hown:=O6.2.1;rw [HL.out] at hown;have hone:∀ u∈[Value.int .i64 (x:Int),.int .i64 1,.int .i64 0],u.oneCell'=true:=by
   intro u hu;simp at hu;rcases hu with rfl | rfl | rfl <;> rfl
  have HO:=Lib.hid hone;have hmxl:L+1≤maxLen:=by unfold maxLen;omega
  have hbyt:(L+1) * 24≤140737488355328:=by omega
  have hg6:gb < w6.heap.size:=G6.1;have hbas:w.heap.size+1≤w6.heap.size:=by have:=G6.1;omega
  have hne:Value.ownBlock (.slice Ae L ce)≠some gb:=fun h=>by have:=O6.2.2 gb (by rw [HL.out];exact h);omega
  have hne2:Value.ownBlock (.slice Ae L ce)≠some w.heap.size:=fun h=>by have:=hown.lt _ h;omega
  have HN:=Lib.hid hne;clear hone hne;refine rdZ 6 rfl (fun K hK=>?_)
  (refine step_cat (by rfl) (.tmp 23) (.tmp 27) 24 (by rfl) (w.heap.size+1) 68 (.agg #[.int .i64 0,.int .i64 0,.int .i64 0]) 3 24 undSE infoE rfl (by decide) (.slice Ae L ce) L _ (by rfl) hown (some ⟨w5.heap.size,0,none⟩) 1 1 _ [.int .i64 (x:Int),.int .i64 1,.int .i64 0] (by rfl) hrs rfl HO.out hmxl hbyt hbas ?_;intro v9 w9 ho9 hgr9 hat9;obtain ⟨A9,c9,rfl, -, -⟩:=owns_shape ho9)
  refine hK.out _ _ (Or.inr ((G6.grown hgr9 HN.out).cell 2 rfl)) (fun _=>?_);clear hK K;try simp only [Act.put,zs1,zs2,zs3,zs4,zs5,zs6]
  have G9:=G6.grown hgr9 HN.out;have B9:=B6.grown hgr9 hne2;have m9:=Mid.of_grownRow hown hgr9;have h9:=h6.mid m9 (Or.inl (by omega));have hm9:=hm6.transNew m9 (Or.inl (by omega));clear hrs B6 O6 h6 hm6 G6 hown hbas hne2;have gf:=G9.2.2;have gl:=G9.1;have g0:=G9.cell 0 rfl;have g1:=G9.cell 1 rfl;have g2:=G9.cell 2 rfl;refine tkZ [8] 7 rfl g2 ?_;try simp only [Act.put,zs1,zs2,zs3,zs4,zs5,zs6]
  have hst0:=Mid.setCell w9 (lo:=gb) (hi:=gb+1) (p:=⟨gb,2,none⟩) (.slice A9 (L+1) c9) (Nat.le_refl _) (Nat.lt_succ_self _);have G10:=G9.set 2 (.slice A9 (L+1) c9) (by simp) rfl;simp only [List.set_cons_succ,List.set_cons_zero] at G10;have B10:=B9.mid hst0 (Or.inl (by omega));have h10:=h9.mid hst0 (Or.inl (by omega));have hm10:=hm9.transNew hst0 (Or.inl (by omega));have ho10:(w9.setCell ⟨gb,2,none⟩ (.slice A9 (L+1) c9)).ownsRow (w.heap.size+1) 68 3 (.slice A9 (L+1) c9) (L+1) (ints (edI (es++[⟨(x:Int),1,0⟩]))):=by
   rw [edI_append,ints_append,edI_one];refine ownsRow_setCell_other ho9 ?_ _;rcases hat9 with h | h
   ·rw [h]
    exact HN.out
   ·rw [h]
    intro e;have:=Option.some.inj e;have hh:w6.heap.size=gb:=this;omega
  refine rdZ 8 rfl (fun K hK=>?_);go_simp;refine hK.out _ _ (Or.inl (by simp)) (fun _=>?_);clear hK K;try simp only [Act.put,zs1,zs2,zs3,zs4,zs5,zs6]
  refine wpAnyZ_done (by kernel_rfl) ?_ _;have hl9:(es++[(⟨(x:Int),1,0⟩:Ed)]).length=L+1:=by rw [List.length_append,HL.out];rfl
  have HL9:=Lib.hid hl9;obtain ⟨A11,c11,hv11,hn11,hO11⟩:=OG.mk' ho10;rw [hl9] at hv11;injection hv11 with e1 e2 e3
  subst e1 e3;have HD9:Hid (DrG (r:Int) (n:Int) (es++[(⟨(x:Int),1,0⟩:Ed)])):=Lib.hid (DrG.add HG.out (by rw [HL.out];omega) (And.intro (show -100≤(x:Int)∧(x:Int)≤100 by omega) (And.intro (by simp) (by simp))));generalize w9.setCell ⟨gb,2,none⟩ (.slice A9 (L+1) c9)=wT at G10 B10 h10 hm10 hO11 ⊢;clear hst0 G9 B9 h9 hm9 gf gl g0 g1 g2 m9 ho9 ho10 hgr9 hat9 hl9 hn11;have g0:=G10.cell 0 rfl;have g1:=G10.cell 1 rfl;have g2:=G10.cell 2 rfl;have q0:=B10.cell 0 rfl;have q1:=B10.cell 1 rfl;have q2:=B10.cell 2 rfl;have qf:=B10.2.2;have ql:=B10.1;have gl:=G10.1;have hst:=((Mid.setCell wT (lo:=w.heap.size) (hi:=w.heap.size+1) (p:=⟨w.heap.size,0,none⟩) (.int .i64 (r:Int)) (Nat.le_refl _) (Nat.lt_succ_self _)).trans (Mid.setCell _ (lo:=w.heap.size) (hi:=w.heap.size+1) (p:=⟨w.heap.size,1,none⟩) (.int .i64 (n:Int)) (Nat.le_refl _) (Nat.lt_succ_self _))).trans (Mid.setCell _ (lo:=w.heap.size) (hi:=w.heap.size+1) (p:=⟨w.heap.size,2,none⟩) (.slice A9 (L+1) c9) (Nat.le_refl _) (Nat.lt_succ_self _));have O9:=Lib.hid ((hO11.mid hst (Or.inl (by omega))).wide (lo':=w.heap.size) (by omega) (by have:=hst.size;have:=hO11.size;omega) (Nat.le_refl _));have C9:=Lib.hid (h10.mid hst (Or.inl hpw));have M9:=Lib.hid (hm10.transNew hst (Or.inl (Nat.le_refl _)));clear hst hO11 h10 hm10;go_wp2_with fail;refine bodyPost_ret (v:=.agg #[.int .i64 (r:Int),.int .i64 (n:Int),.slice A9 (L+1) c9]) (by simp [results,Tryz.results194,go_sem,q0,q1,q2,qf,g0,g1,g2]) rfl ⟨(r:Int),(n:Int),A9,c9,(es++[(⟨(x:Int),1,0⟩:Ed)]),?_,HD9.out,O9.out,C9.out,M9.out⟩;rw [HL9.out]
 ·have e0:¬ ((k:Int)=0):=by omega
  have e1:¬ ((k:Int)=1):=by omega
  have e2:¬ ((k:Int)=2):=by omega
  generalize hwT:w4=wT at G0 B2 hO4 h4 hm4 ⊢;have g0:=G0.cell 0 rfl;have g1:=G0.cell 1 rfl;have g2:=G0.cell 2 rfl;have q0:=B2.cell 0 rfl;have q1:=B2.cell 1 rfl;have q2:=B2.cell 2 rfl;have qf:=B2.2.2;have ql:=B2.1;have gl:=G0.1;have hst:=((Mid.setCell wT (lo:=w.heap.size) (hi:=w.heap.size+1) (p:=⟨w.heap.size,0,none⟩) (.int .i64 (r:Int)) (Nat.le_refl _) (Nat.lt_succ_self _)).trans (Mid.setCell _ (lo:=w.heap.size) (hi:=w.heap.size+1) (p:=⟨w.heap.size,1,none⟩) (.int .i64 (n:Int)) (Nat.le_refl _) (Nat.lt_succ_self _))).trans (Mid.setCell _ (lo:=w.heap.size) (hi:=w.heap.size+1) (p:=⟨w.heap.size,2,none⟩) (.slice Ae L ce) (Nat.le_refl _) (Nat.lt_succ_self _));have O9:=Lib.hid ((hO4.mid hst (Or.inl (by omega))).wide (lo':=w.heap.size) (by omega) (by have:=hst.size;have:=hO4.size;omega) (Nat.le_refl _));have C9:=Lib.hid (h4.mid hst (Or.inl hpw));have M9:=Lib.hid (hm4.transNew hst (Or.inl (Nat.le_refl _)));clear hst hO4 h4 hm4;go_wp2_with fail;refine bodyPost_ret (v:=.agg #[.int .i64 (r:Int),.int .i64 (n:Int),.slice Ae L ce]) (by simp [results,Tryz.results194,go_sem,q0,q1,q2,qf,g0,g1,g2]) rfl ⟨(r:Int),(n:Int),Ae,ce,es,?_,HG.out,O9.out,C9.out,M9.out⟩;rw [HL.out]
end
section
open Go.RowKit
section
variable {w w' W W':World} {lo a b:Nat} {A A':Option Addr} {n c c':Nat} {rows:List Row} {r:Row}
theorem Own1.midB (h:Own1 w lo A n c rows) (m:Mid a b w w') (hd:b≤lo):Own1 w' lo A n c rows :=
 ⟨owns_mid h.out m (Or.inl hd),(h.rows.mid m (Or.inl hd)).wide (Nat.le_refl _) m.size (Nat.le_refl _)⟩
theorem Own1.pushB (h:Own1 w lo A n c rows) (m:Mid a b w W) (hd:b≤lo) (hl:lo≤w.heap.size) (hrow:W.ownsRow w.heap.size 3 1 r.v r.xs.length (ints r.xs))
  (h1:W'.ownsRow lo 34 1 (.slice A' (n+1) c') (n+1) (rowsV rows++[r.v])) (h2:W.grownBy W' (obS A n c)):Own1 W' lo A' (n+1) c' (rows++[r]):=by
 refine ⟨by rw [rowsV_append];exact h1,?_⟩;have k1:=(h.rows.mid m (Or.inl hd)).push (r:=r) (base:=w.heap.size) (hi':=W.heap.size) hrow (Nat.le_refl _) hl m.size (Nat.le_refl _) (fun g hg=>(hrow.lt g hg).2);exact (k1.grown (h.midB m hd).out (by decide) h2).wide (Nat.le_refl _) h2.size (Nat.le_refl _)
variable {ops:Array Oper} {rest:List Oper} {o:Oper} {ac:Act} {Q:Exit→Act→World→Prop}
theorem wpList_pushB (hgd:o.guard=none) (s x:Operand)
  (ho:o.op=.call { callee:=.builtin .append,args:=#[s,x],argTypes:=#[41,41] }) (hs:ac.eval s=.slice A n c)
  (h:Own1 w lo A n c rows) (m:Mid a b w W) (hd:b≤lo) (r:Row) (u:Value) (hu:r.v=u) (hrow:W.ownsRow w.heap.size 3 1 r.v r.xs.length (ints r.xs)) (hx:ac.eval x=.slice (some ⟨W.heap.size,0,none⟩) 1 1) (hn:n≤1048576) (hb:lo≤w.heap.size)
  (hk:∀ A' c' w',Own1 w' lo A' (n+1) c' (rows++[r])→W.grownBy w' (obS A n c)→wpList Tryz.prog ops Q rest (ac.put o.dst (.slice A' (n+1) c')) w') :
  wpList Tryz.prog ops Q (o :: rest) ac (W.alloc (.cells #[u] 34)):=by
 subst hu;have hms:=m.size;refine wpList_push (news:=[r.v]) hgd s x 41 ho lo 34 (.slice none 0 0) 1 24 undSSI infoSI rfl (by decide) (.slice A n c) n (rowsV rows) hs (h.midB m hd).out 1 hx rfl ?_ (by unfold maxLen;omega) (by omega) (by omega) ?_
 ·intro u hu
  simp at hu;subst hu
  rfl
 ·intro v' w' h1 h2 h3
  obtain ⟨A',c',rfl, -, -⟩:=owns_shape h1;exact hk A' c' w' (h.pushB m hd hb hrow h1 h2) h2
end
def DrWs (l:List (List Int)):Prop:=l.length≤5∧∀ w∈l,w.length≤5∧LtW w∧Rd w
theorem DrWs.len {l:List (List Int)} (h:DrWs l):∀ {k:Nat},sumL (l.take k)≤5 * k:=by
 intro k
 induction k with
 | zero=>simp [sumL]
 | succ k ih =>
  by_cases hk:k < l.length
  ·have e:=sumL_take_succ (List.getElem?_eq_getElem hk)
   have:=(h.2 _ (List.getElem_mem hk)).1;omega
  ·rw [List.take_of_length_le (by omega)] at ih ⊢
   omega
theorem DrWs.sum {l:List (List Int)} (h:DrWs l):sumL l≤25:=by
 have:=h.len (k:=l.length);rw [List.take_length] at this;have:=h.1;omega
theorem DrWs.ok {l:List (List Int)} (h:DrWs l):OkSS l:=⟨⟨by have:=h.1;omega,fun xs hx=>by have:=(h.2 xs hx).1;omega⟩,fun xs hx=>(h.2 xs hx).2.1.ok⟩
theorem l6Words_any (r:Int) (hr1:1≤r) (hr3:r≤3) (p:Nat) (A:Option Addr) (bs:List Int) (c:Nat) (w:World) (hb:OkB bs) (hl:bs.length≤1048576) (h:Cur w p A bs c) :
  Calls Tryz.prog 225 #[.pointer (some ⟨p,0,none⟩),.int .i64 r] w fun e w'=>∃ A' c' rows,e=.returned (.slice A' (List.length rows) c')∧((rowsD rows).length≤3∧DrWs (rowsD rows))∧Own1 w' w.heap.size A' rows.length c' rows∧Cur w' p A bs c∧Mid p (p+1) w w':=by
 have hpw:=h.lt;have hal:=Mid.alloc w (.cells #[] 34);have ho:=Own1.empty w;have h0:=h.mid hal (Or.inr rfl);go_enter Tryz.func225,Tryz.ntmps225
 go_wp2_with fail;with_reducible refine (l1BelowI 4 (by decide) (by decide) p A bs c _ hb hl h0).mono ?_
 rintro e w1 ⟨n0,rfl,hn0,h1,m1⟩;have ho1:=ho.midB m1 (by omega);have hm1:=hal.zero.trans m1;have hs1:=hm1.size;clear h0 hal m1 ho;go_wp2_with fail;go_loopw [5,6] (fun wv nv wr=>∃ (rows:List Row) (n:Nat) (Ax:Option Addr) (cx L:Nat),nv=.int .i64 n∧wv=.slice Ax L cx∧Hid (rows.length=L)∧L+n≤3∧Hid (DrWs (rowsD rows))∧Own1 wr w.heap.size Ax L cx rows∧Cur wr p A bs c∧Mid p (p+1) w wr)
  (fun _ nv _=>natV nv)
 case atStart=>exact ⟨[],n0,_,_,0,rfl,rfl,Lib.hid rfl,by omega,Lib.hid ⟨by simp [rowsD],by simp [rowsD]⟩,ho1,h1,hm1⟩
 case round =>
  obtain ⟨rows,n,Ax,cx,L,rfl,rfl,HL,hLm,HW,ho,hc,hm⟩:=hrel;have hs:=hm.size;by_cases hlt:0 < n
  ·go_wp2_with fail
   with_reducible refine (l2Of_any r hr1 hr3 5 (by decide) (by decide) p A bs c _ hb hl hc).mono ?_
   rintro e w2 ⟨Ay,cy,ys,rfl,⟨hyl,hyw,hyr⟩,oy,hc2,m2⟩;have hoy:=oy.2.1;have HY:=Lib.hid (show ys.length≤5∧LtW ys∧Rd ys from ⟨by omega,hyw,hyr⟩);have hm2:=hm.trans m2;have hs2:=hm2.size;clear hyl hyw hyr oy hc hm;go_wp2_with (at_builtin;refine wpList_pushB rfl _ _ rfl rfl ho m2 hpw ⟨Ay,cy,ys⟩ _ rfl hoy rfl (by omega) hs ?next)
   case next =>
    intro A3 c3 w3 ho3 hgr3;have m3:Mid w.heap.size w2.heap.size w2 w3:=Mid.of_grownRow (ho.midB m2 hpw).out hgr3;go_wp2_with fail;go_roundw
    case rel =>
     refine ⟨rows++[⟨Ay,cy,ys⟩],n - 1,A3,c3,L+1,by go_num,rfl,Lib.hid (by simp [HL.out]),by omega,Lib.hid ?_,ho3,hc2.mid m3 (Or.inl hpw),hm2.transNew m3 (Or.inl (Nat.le_refl _))⟩;have h1:=HW.out;have h2:=HL.out;rw [rowsD_append];refine ⟨by rw [List.length_append,rowsD_len];simp [rowsD];omega,fun x hx=>?_⟩;rcases List.mem_append.1 hx with hx | hx
     ·exact h1.2 x hx
     ·simp [rowsD] at hx
      rw [hx];exact HY.out
    case measure=>simp [natV];omega
  ·go_wp2_with fail
   go_ret;have hle:=HL.out;refine ⟨Ax,cx,rows,by rw [hle];rfl,⟨by rw [rowsD_len];omega,HW.out⟩,by rw [hle];exact ho,hc,hm⟩
end
section
open Go.RowKit
end
section
open Go.RowKit
theorem DrG.sub {rank:Int} {l:List (List Int)} {rr rs:Int} {res:List Ed} {b:Bool} (h:SubIs rank l rr rs res b):DrG rr rs res:=by
 rcases h with ⟨-,h,rfl,rfl,rfl⟩ | ⟨-, -,rfl,rfl,rfl⟩
 ·exact DrG.of_gr (coreA_gr (flow_gr h))
 ·exact DrG.zero
theorem l9Sub_any (p:Nat) (A:Option Addr) (bs:List Int) (c:Nat) (w:World) (hb:OkB bs) (hl:bs.length≤1048576) (h:Cur w p A bs c) :
  Calls Tryz.prog 213 #[.pointer (some ⟨p,0,none⟩)] w fun e w'=>∃ r s A' c' es,e=.returned (graV r s A' (List.length es) c')∧DrG r s es∧OG w' w.heap.size w'.heap.size A' c' es∧Cur w' p A bs c∧Mid p (p+1) w w':=by
 have hpw:=h.lt;have hal:=Mid.alloc w (.cells #[.int .i64 0,.int .i64 0,.slice none 0 0] 26);have B2:=Box.new w #[.int .i64 0,.int .i64 0,.slice none 0 0] 26;have h0:=h.mid hal (Or.inr rfl);go_enter Tryz.func213,Tryz.ntmps213
 have hal2:=Mid.alloc (w.alloc (.cells #[.int .i64 0,.int .i64 0,.slice none 0 0] 26)) (.cells #[.int .i64 1,.int .i64 2,.int .i64 2,.int .i64 2,.int .i64 2,.int .i64 3] 3);have hbx:=Box.new (w.alloc (.cells #[.int .i64 0,.int .i64 0,.slice none 0 0] 26)) #[.int .i64 1,.int .i64 2,.int .i64 2,.int .i64 2,.int .i64 2,.int .i64 3] 3;rw [World.size_alloc] at hbx;replace B2:=B2.mid hal2 oZr;replace h0:=h0.mid hal2 (Or.inr rfl);have hm0:=hal.trans hal2;go_wp2_with fail;generalize (w.alloc (.cells #[.int .i64 0,.int .i64 0,.slice none 0 0] 26)).alloc (.cells #[.int .i64 1,.int .i64 2,.int .i64 2,.int .i64 2,.int .i64 2,.int .i64 3] 3)=w1 at hbx B2 h0 hm0 ⊢;have hs1:w.heap.size+1 < w1.heap.size:=hbx.1;have hri:RI w1 (w.heap.size+1) (w.heap.size+1+1) (some ⟨w.heap.size+1,0,none⟩) [1,2,2,2,2,3] :=
  ⟨hs1,fun _=>⟨w.heap.size+1,0,rfl,Nat.le_refl _,Nat.lt_succ_self _,fun j u hu=>by rw [Nat.zero_add];exact hbx.2.1 j u (by simpa [ints] using hu)⟩⟩
 with_reducible refine (l1PickIntN (some ⟨w.heap.size+1,0,none⟩) [1,2,2,2,2,3] 6 6 rfl (by decide) (by decide) p A bs c _ (w.heap.size+1) _ hri (Or.inl (by omega)) hb hl h0).mono ?_
 rintro e w2 ⟨r,rfl,hrm,h2,m2⟩;have hr:1≤r∧r≤3:=by simp at hrm;omega
 replace B2:=B2.mid m2 (Or.inr (by omega));have hm2:=hm0.zero.trans m2;have hs2:=m2.size;clear hri hbx hrm h0 hm0 hal hal2 m2;go_wp2_with fail;with_reducible refine (l6Words_any r hr.1 hr.2 p A bs c _ hb hl h2).mono ?_
 rintro e w3 ⟨Al,cl,rows,rfl,⟨hl3,hw⟩,hL,h3,m3⟩;have hs3:=m3.size;replace B2:=B2.mid m3 (Or.inr (by omega));have hm3:=hm2.trans m3;obtain ⟨l,hrl⟩:∃ l,rowsD rows=l:=⟨_,rfl⟩
 have hll:rows.length=l.length:=by rw [← hrl,rowsD_len]
 have hoss:=hL.oss hrl;rw [hrl] at hw hl3;have hsu:=hw.sum;obtain ⟨rr,rs,res,b,hres⟩:=SubIs_ex r l;have hF:=spec_SubgroupOf r Al l cl w3 _ _ hoss.rss hw.ok.2 (by omega) rr rs res b hres;have HD:=Lib.hid (DrG.sub hres);obtain ⟨L,hLe⟩:∃ x,res.length=x:=⟨_,rfl⟩
 rw [hLe] at hF;have HL:=Lib.hid hLe;have HF:Hid (Calls Tryz.prog 226 #[.int .i64 r,.slice Al l.length cl] w3 fun e w'=>∃ A1 c1,e=.returned (.tuple #[.agg #[.int .i64 rr,.int .i64 rs,.slice A1 L c1],.bool b])∧OG w' w3.heap.size w'.heap.size A1 c1 res∧Mid 0 0 w3 w'):=Lib.hid hF;rw [hll];clear hF hres hLe hsu hoss hw hl3 hll hrl hL h2 hm2 m3;go_wp2_with fail;with_reducible refine (HF.out).mono ?_
 rintro e w4 ⟨A1,c1,rfl,hO4,m4⟩;have hs4:=m4.size;replace B2:=B2.mid m4 oZr;have hC:=h3.mid m4 (Or.inr rfl);have hM:=hm3.trans m4.zero;have al5:=Mid.alloc w4 (.cells #[.int .i64 rr,.int .i64 rs,.slice A1 L c1] 26);have G5:=Box.new w4 #[.int .i64 rr,.int .i64 rs,.slice A1 L c1] 26;replace B2:=B2.mid al5 oZr;replace hC:=hC.mid al5 (Or.inr rfl);replace hM:=hM.trans al5.zero;have hO5:=(hO4.mid al5 oZl)
 have hs5:=al5.size;obtain ⟨w5,hw5⟩:∃ x,w4.alloc (.cells #[.int .i64 rr,.int .i64 rs,.slice A1 L c1] 26)=x:=⟨_,rfl⟩
 rw [hw5] at B2 hC hM hO5 hs5 G5;clear h3 hm3 hO4 m4 al5 HF;have g0:=G5.cell 0 rfl;have g1:=G5.cell 1 rfl;have g2:=G5.cell 2 rfl;have gl:=G5.1;have q0:=B2.cell 0 rfl;have q1:=B2.cell 1 rfl;have q2:=B2.cell 2 rfl;have qf:=B2.2.2;have ql:=B2.1;have hst:=((Mid.setCell w5 (lo:=w.heap.size) (hi:=w.heap.size+1) (p:=⟨w.heap.size,0,none⟩) (.int .i64 rr) (Nat.le_refl _) (Nat.lt_succ_self _)).trans (Mid.setCell _ (lo:=w.heap.size) (hi:=w.heap.size+1) (p:=⟨w.heap.size,1,none⟩) (.int .i64 rs) (Nat.le_refl _) (Nat.lt_succ_self _))).trans (Mid.setCell _ (lo:=w.heap.size) (hi:=w.heap.size+1) (p:=⟨w.heap.size,2,none⟩) (.slice A1 L c1) (Nat.le_refl _) (Nat.lt_succ_self _));have O9:=Lib.hid ((hO5.mid hst (Or.inl (by omega))).wide (lo':=w.heap.size) (by omega) (Nat.le_trans hO5.size hst.size) (Nat.le_refl _));have C9:=Lib.hid (hC.mid hst (Or.inl hpw));have M9:=Lib.hid (hM.transNew hst (Or.inl (Nat.le_refl _)));clear hst hO5 hC hM;go_wp2_with fail;refine bodyPost_ret (v:=.agg #[.int .i64 rr,.int .i64 rs,.slice A1 L c1]) (by simp [results,Tryz.results213,go_sem,q0,q1,q2,qf]) rfl ⟨rr,rs,A1,c1,res,?_,HD.out,O9.out,C9.out,M9.out⟩;rw [HL.out]
theorem l9Any_any (p:Nat) (A:Option Addr) (bs:List Int) (c:Nat) (w:World) (hb:OkB bs) (hl:bs.length≤1048576) (h:Cur w p A bs c) :
  Calls Tryz.prog 180 #[.pointer (some ⟨p,0,none⟩)] w fun e w'=>∃ r s A' c' es,e=.returned (graV r s A' (List.length es) c')∧DrG r s es∧OG w' w.heap.size w'.heap.size A' c' es∧Cur w' p A bs c∧Mid p (p+1) w w':=by
 have hpw:=h.lt;have hal:=Mid.alloc w (.cells #[.int .i64 0,.int .i64 0,.slice none 0 0] 26);have B2:=Box.new w #[.int .i64 0,.int .i64 0,.slice none 0 0] 26;have h0:=h.mid hal (Or.inr rfl);go_enter Tryz.func180,Tryz.ntmps180
 go_wp2_with fail;generalize (w.alloc (.cells #[.int .i64 0,.int .i64 0,.slice none 0 0] 26))=w1 at B2 h0 hal ⊢;have hs1:w.heap.size < w1.heap.size:=B2.1;with_reducible refine (l1OnceI 8 (by decide) (by decide) p A bs c _ hb hl h0).mono ?_
 rintro e w2 ⟨q,rfl,h2,m2⟩;have hs2:=m2.size;replace B2:=B2.mid m2 (Or.inr (by omega));replace hal:=hal.zero.trans m2;clear h0 m2;cases q
 ·go_wp2_with fail
  with_reducible refine (l9Sub_any p A bs c _ hb hl h2).mono ?_
  rintro e w3 ⟨r,s,Ae,ce,es,rfl,hg,hO,hC,m3⟩;have hs3:=m3.size;replace B2:=B2.mid m3 (Or.inr (by omega));have hM:=hal.trans m3;have HG:=Lib.hid hg;obtain ⟨L,hL⟩:∃ l,es.length=l:=⟨_,rfl⟩
  have HL:=Lib.hid hL;rw [hL];clear hg hL hal h2 m3;have q0:=B2.cell 0 rfl;have q1:=B2.cell 1 rfl;have q2:=B2.cell 2 rfl;have qf:=B2.2.2;have ql:=B2.1;have hst:=((Mid.setCell w3 (lo:=w.heap.size) (hi:=w.heap.size+1) (p:=⟨w.heap.size,0,none⟩) (.int .i64 r) (Nat.le_refl _) (Nat.lt_succ_self _)).trans (Mid.setCell _ (lo:=w.heap.size) (hi:=w.heap.size+1) (p:=⟨w.heap.size,1,none⟩) (.int .i64 s) (Nat.le_refl _) (Nat.lt_succ_self _))).trans (Mid.setCell _ (lo:=w.heap.size) (hi:=w.heap.size+1) (p:=⟨w.heap.size,2,none⟩) (.slice Ae L ce) (Nat.le_refl _) (Nat.lt_succ_self _));have O9:=Lib.hid ((hO.mid hst (Or.inl (by omega))).wide (lo':=w.heap.size) (by omega) (Nat.le_trans hO.size hst.size) (Nat.le_refl _));have C9:=Lib.hid (hC.mid hst (Or.inl hpw));have M9:=Lib.hid (hM.transNew hst (Or.inl (Nat.le_refl _)));clear hst hO hC hM;go_wp2_with fail;refine bodyPost_ret (v:=.agg #[.int .i64 r,.int .i64 s,.slice Ae L ce]) (by simp [results,Tryz.results180,go_sem,q0,q1,q2,qf]) rfl ⟨r,s,Ae,ce,es,?_,HG.out,O9.out,C9.out,M9.out⟩;rw [HL.out]
 ·go_wp2_with fail
  with_reducible refine (l4Any_any p A bs c _ hb hl h2).mono ?_
  rintro e w3 ⟨r,s,Ae,ce,es,rfl,hg,hO,hC,m3⟩;have hs3:=m3.size;replace B2:=B2.mid m3 (Or.inr (by omega));have hM:=hal.trans m3;have HG:=Lib.hid hg;obtain ⟨L,hL⟩:∃ l,es.length=l:=⟨_,rfl⟩
  have HL:=Lib.hid hL;rw [hL];clear hg hL hal h2 m3;have q0:=B2.cell 0 rfl;have q1:=B2.cell 1 rfl;have q2:=B2.cell 2 rfl;have qf:=B2.2.2;have ql:=B2.1;have hst:=((Mid.setCell w3 (lo:=w.heap.size) (hi:=w.heap.size+1) (p:=⟨w.heap.size,0,none⟩) (.int .i64 r) (Nat.le_refl _) (Nat.lt_succ_self _)).trans (Mid.setCell _ (lo:=w.heap.size) (hi:=w.heap.size+1) (p:=⟨w.heap.size,1,none⟩) (.int .i64 s) (Nat.le_refl _) (Nat.lt_succ_self _))).trans (Mid.setCell _ (lo:=w.heap.size) (hi:=w.heap.size+1) (p:=⟨w.heap.size,2,none⟩) (.slice Ae L ce) (Nat.le_refl _) (Nat.lt_succ_self _));have O9:=Lib.hid ((hO.mid hst (Or.inl (by omega))).wide (lo':=w.heap.size) (by omega) (Nat.le_trans hO.size hst.size) (Nat.le_refl _));have C9:=Lib.hid (hC.mid hst (Or.inl hpw));have M9:=Lib.hid (hM.transNew hst (Or.inl (Nat.le_refl _)));clear hst hO hC hM;go_wp2_with fail;refine bodyPost_ret (v:=.agg #[.int .i64 r,.int .i64 s,.slice Ae L ce]) (by simp [results,Tryz.results180,go_sem,q0,q1,q2,qf]) rfl ⟨r,s,Ae,ce,es,?_,HG.out,O9.out,C9.out,M9.out⟩;rw [HL.out]
end
section
open Go.RowKit
end
section
open Go.RowKit
end
section
open Go.RowKit
theorem big_any (A:Option Addr) (n c:Nat) (w:World) :
  Calls Tryz.prog 7 #[.slice A n c] w fun e w'=>e=.returned (.bool (decide ((n:Int) > 1048576)))∧w=w':=by
 go_enter Tryz.func7,Tryz.ntmps7
 go_wp2_with fail;all_goals
  go_ret;exact ⟨rfl,rfl⟩
theorem dropAt_len {xs:List Int} {n k:Nat} (h:xs.length=n) (hk:k < n):(xs.take k++xs.drop (k+1)).length+1=n:=by
 rw [List.length_append,List.length_take,List.length_drop];omega
theorem dropAt_mem {xs:List Int} {k:Nat} {x:Int} (h:x∈xs.take k++xs.drop (k+1)):x∈xs:=by
 rcases List.mem_append.1 h with h | h
 ·exact List.mem_of_mem_take h
 ·exact List.mem_of_mem_drop h
theorem ints_takeD (xs:List Int) (k:Nat):(ints xs).take k=ints (xs.take k):=by simp [ints]
theorem ints_drop (xs:List Int) (k:Nat):(ints xs).drop k=ints (xs.drop k):=by simp [ints]
end
end Go.Proofs.YthampgpcajmopaaGreat
