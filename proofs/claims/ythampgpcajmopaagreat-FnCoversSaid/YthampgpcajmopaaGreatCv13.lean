/- Contracts and lemmas of this seat, many texts in one: see the words ahead of each. No condition beyond those typed in each lemma. -/
import Derived.Test.YthampgpcajmopaaGreatCv9
import Derived.Test.YthampgpcajmopaaGreatCv4
import Derived.Test.YthampgpcajmopaaGreatCv2
import Derived.Test.YthampgpcajmopaaGreatCv5
import Derived.Test.YthampgpcajmopaaGreatCv12
import Derived.Test.YthampgpcajmopaaGreatCv7
import Derived.Test.YthampgpcajmopaaGreatCv10
import Derived.Test.YthampgpcajmopaaGreatCv11
import Derived.Test.YthampgpcajmopaaGreatCv8
import Derived.Test.YthampgpcajmopaaGreatCv1

namespace Go.Proofs.YthampgpcajmopaaGreat
set_option linter.unusedVariables false
set_option linter.unusedSimpArgs false
set_option maxHeartbeats 40000000
set_option maxRecDepth 100000
section
open Go.RowKit
end
section
open Go.RowKit
end
section
open Go.RowKit
end
section
open Go.RowKit
noncomputable def basA (r:Int) (es:List Ed):List (List Int):=(notIn (treeE es (bfs es (lets r.toNat) 0)) es).map (basisW r.toNat es)
theorem basisW_ok {r n:Nat} {es:List Ed} (h:IsCor r n es) {e:Ed} (he:e∈es):(basisW r es e).length≤81∧OkI (basisW r es e):=by
 have hin:=h.gr.all e he;have hr:=h.gr.rank;have hn:=h.gr.size;unfold InG at hin;obtain ⟨a,l,b⟩:=e;simp only at hin;obtain ⟨pa,rfl⟩:∃ m:Nat,a=m:=⟨a.toNat,by omega⟩
 obtain ⟨pb,rfl⟩:∃ m:Nat,b=m:=⟨b.toNat,by omega⟩
 obtain ⟨h1,h2⟩:=wordV_ok h (v:=pa) (by omega);obtain ⟨h3,h4⟩:=wordV_ok h (v:=pb) (by omega);unfold basisW;simp only;refine ⟨?_,red_ok ?_⟩
 ·have h5:=red_nil_len (wordV r es (pa:Int)++[l]++invW (wordV r es (pb:Int)))
  rw [List.length_append,List.length_append,invW_len] at h5;simp only [List.length_cons,List.length_nil] at h5;omega
 ·intro x hx
  rcases List.mem_append.1 hx with hx | hx
  ·rcases List.mem_append.1 hx with hx | hx
   ·have:=mem_lets.1 (h2 x hx)
    omega
   ·simp at hx
    subst hx;omega
  ·exact okI_invW (fun y hy=>by have:=mem_lets.1 (h4 y hy);omega) x hx
theorem basA_len {r n:Nat} {es:List Ed} (h:IsCor r n es):(basA r es).length≤120:=by
 have h1:=notIn_len (treeE es (bfs es (lets r) 0)) es;have h2:=h.gr.len;unfold basA;rw [List.length_map,Int.toNat_natCast];omega
theorem basA_ok {r n:Nat} {es:List Ed} (h:IsCor r n es) {x:List Int} (hx:x∈basA r es):x.length≤81∧OkI x:=by
 unfold basA at hx;obtain ⟨e,he,rfl⟩:=List.mem_map.1 hx;rw [Int.toNat_natCast] at he ⊢;exact basisW_ok h (List.mem_filter.1 he).1
theorem impl_BasisA (r n:Nat) (A:Option Addr) (es:List Ed) (c:Nat) (w:World) (lo hi:Nat) (hr:RG w lo hi A es) (hcl:es.length≤c) (hco:IsCor r n es) :
  Calls Tryz.prog 101 #[graV r n A es.length c] w fun e w'=>∃ A1 c1,e=.returned (.slice A1 (basA r es).length c1)∧OSS w' w.heap.size w'.heap.size 34 3 A1 c1 (basA r es)∧Mid 0 0 w w':=by
 have hn40:=hco.gr.size;have hl:=hco.gr.len;have hT:(treeE es (bfs es (lets r) 0)).length≤1000000:=by
  unfold treeE;rw [List.length_map,List.length_tail,hco.found];omega
 have hX:=notIn_len (treeE es (bfs es (lets r) 0)) es;have h:=impl_BasisOf r n A es c w lo hi hr hcl hco (notIn (treeE es (bfs es (lets r) 0)) es) (fun e he=>(List.mem_filter.1 he).1) (by omega)
  (fun W hW=>impl_ExtraEdges r n A es c W lo hi hW hcl hco.fol _ hT fun W' hW'=>impl_treeEdges r n A es c W' lo hi hW' hco.fol)
 unfold basA;rw [Int.toNat_natCast];exact h
end
section
open Go.RowKit
theorem RSS.lit {w:World} (rows:List Row) (tSI:TypeId) (h:∀ r∈rows,Rs w w.heap.size r.A (ints r.xs)):RSS (w.alloc (.cells (rowsV rows).toArray tSI)) 0 (w.heap.size+1) (some ⟨w.heap.size,0,none⟩) (rowsD rows):=by
 refine ⟨rows,rfl,⟨by simp,fun _=>⟨w.heap.size,0,rfl,Nat.zero_le _,Nat.lt_succ_self _,fun j u hu=>?_⟩⟩,fun r hr=>⟨by simp,fun hn=>?_⟩⟩
 ·rw [Nat.zero_add,World.cell?_alloc_new]
  simpa using hu
 ·obtain ⟨b,off,e,hb,hc⟩:=(h r hr).alloc (Nat.le_refl _) (.cells (rowsV rows).toArray tSI) hn
  exact ⟨b,off,e,Nat.zero_le _,by omega,hc⟩
end
section
open Go.RowKit
theorem loop_inS {r s:Int} {es:List Ed} (h:IsFol r s es) {wd:List Int}:LoopP es (red [] wd)↔InS es wd:=by
 rw [inS_rdA h];unfold LoopP;constructor
 ·rintro ⟨h1,h2⟩
  exact Prod.ext h2 h1
 ·intro e
  rw [e];exact ⟨rfl,rfl⟩
theorem impl_ReduceLetters (A:Option Addr) (xs:List Int) (c:Nat) (w:World) (B:Nat) (hr:Rs w B A (ints xs)) (hB:B≤w.heap.size) (hok:OkI xs) (hl:xs.length≤268435456) :
  Calls Tryz.prog 107 #[.slice A xs.length c] w fun e w'=>∃ A2 c2,e=.returned (.slice A2 (red [] xs).length c2)∧w'.ownsRow w.heap.size 3 1 (.slice A2 (red [] xs).length c2) (red [] xs).length (ints (red [] xs))∧Mid 0 0 w w':=by
 have h:=RSS.lit (w:=w) [⟨A,c,xs⟩] 34 (by intro r hr2;simp at hr2;rcases hr2 with rfl;exact hr.more hB);have h2:=impl_product (some ⟨w.heap.size,0,none⟩) [xs] 1 _ _ _ h (by intro zs hz;simp at hz;rcases hz with rfl;exact hok) (by simp) (by simp [sumL];omega);have e:[xs].flatten=xs:=by simp
 rw [e] at h2;have H2:Hid (Calls Tryz.prog 122 #[.slice (some ⟨w.heap.size,0,none⟩) 1 1] (w.alloc (.cells #[.slice A xs.length c] 34)) fun e w'=>RetI 3 (red [] xs) (w.alloc (.cells #[.slice A xs.length c] 34)) e w'):=Lib.hid h2;have hal:=Mid.alloc w (.cells #[.slice A xs.length c] 34);have hsz:(w.alloc (.cells #[.slice A xs.length c] 34)).heap.size=w.heap.size+1:=by simp
 clear h h2 e hok;go_enter Tryz.func107,Tryz.ntmps107
 go_wp2_with fail;with_reducible refine H2.out.mono ?_
 rintro e w2 ⟨A2,c2,rfl,ho,hb⟩;go_wp2_with fail;go_ret;exact ⟨A2,c2,rfl,owns_base ho (by omega),hal.trans (Mid.of_below hb)⟩
theorem impl_Contains (r s:Int) (A:Option Addr) (es:List Ed) (c:Nat) (Aw:Option Addr) (wd:List Int) (cw:Nat) (w:World) (lo hi lo' hi':Nat) (hr:RG w lo hi A es) (hw:RV w lo' hi' Aw (ints wd)) (hl:es.length≤1048576) (hcl:es.length≤c) (hwl:wd.length≤1048576) (hok:OkI wd) (b:Bool) (hb:b=true↔IsCor r s es∧InS es wd) :
  Calls Tryz.prog 23 #[graV r s A es.length c,.slice Aw wd.length cw] w fun e w'=>e=.returned (.bool b)∧Mid 0 0 w w':=by
 have hm0:Mid 0 0 w (w.alloc (.cells #[.int .i64 r,.int .i64 s,.slice A es.length c] 26)):=Mid.alloc _ _;have b0:=Box.new w #[.int .i64 r,.int .i64 s,.slice A es.length c] 26;have HB:=Lib.hid hb;have HOK:=Lib.hid hok;have HRL:=Lib.hid (fun W (h:RV W lo' hi' Aw (ints wd))=>impl_ReduceLetters Aw wd cw W hi' h.rs h.1 hok (by omega));clear hb hok;by_cases h:IsCor r s es
 ·obtain ⟨r,n,rfl,rfl⟩:=h.gr.nat
  have HC:=Lib.hid h;clear h;have hrl:(red [] wd).length≤1048576:=by have:=red_nil_len wd;omega
  have HRO:=Lib.hid (red_ok HOK.out);obtain ⟨rw0,hrw⟩:∃ x,red [] wd=x:=⟨_,rfl⟩
  have hL:b=true↔LoopP es rw0:=by
   rw [← hrw,loop_inS HC.out.fol,HB.out];exact ⟨fun h=>h.2,fun h=>⟨HC.out,h⟩⟩
  have HL:=Lib.hid hL;rw [hrw] at HRL hrl HRO;clear HB hrw hL;go_enter Tryz.func23,Tryz.ntmps23
  go_wp2_with fail;generalize (w.alloc (.cells #[.int .i64 r,.int .i64 n,.slice A es.length c] 26))=w1 at hm0 b0 ⊢;have hmd:=Mid.drew1 w1;replace b0:=b0.mid hmd oZr;replace hm0:=hm0.trans hmd;have p0:=b0.cell 0 rfl;have p1:=b0.cell 1 rfl;have p2:=b0.cell 2 rfl;clear hmd;refine wp_region_Z (S:=(fun w'=>w'.cell? ⟨w.heap.size,0,none⟩=some (.int .i64 r)∧w'.cell? ⟨w.heap.size,1,none⟩=some (.int .i64 n)∧w'.cell? ⟨w.heap.size,2,none⟩=some (.slice A es.length c))) [] (by kernel_rfl) ⟨p0,p1,p2⟩ ?_;generalize World.drew w1=wz at b0 hm0 p0 p1 p2 ⊢;have hS:wz.cell? ⟨w.heap.size,0,none⟩=some (.int .i64 r)∧wz.cell? ⟨w.heap.size,1,none⟩=some (.int .i64 n)∧wz.cell? ⟨w.heap.size,2,none⟩=some (.slice A es.length c):=⟨p0,p1,p2⟩
  refine tkZ [] 0 rfl hS ?_;try simp only [Act.put,zs1,zs2,zs3,zs4,zs5,zs6]
  refine rdZ 1 rfl (fun K hK=>?_)
  (go_simp;(with_reducible refine (impl_IsCore r n A es c _ _ _ (hr.mid hm0 oZl) hl hcl true (iff_of_true rfl HC.out)).mono ?_);rintro en w4 ⟨rfl,hm4⟩;have b04:=b0.mid hm4 oZr;go_wp2_with fail)
  refine hK.out _ _ (Or.inr ⟨b04.cell 0 rfl,b04.cell 1 rfl,b04.cell 2 rfl⟩) (fun _=>?_);clear hK K;try simp only [Act.put,zs1,zs2,zs3,zs4,zs5,zs6]
  replace hm0:=hm0.trans hm4;clear hS p0 p1 p2 b0;have hS4:=And.intro (b04.cell 0 rfl) (And.intro (b04.cell 1 rfl) (b04.cell 2 rfl));refine tkZ [] 2 rfl hS4 ?_;try simp only [Act.put,zs1,zs2,zs3,zs4,zs5,zs6]
  refine tkZ [] 3 rfl hS4 ?_;try simp only [Act.put,zs1,zs2,zs3,zs4,zs5,zs6]
  refine tkZ [] 4 rfl hS4 ?_;try simp only [Act.put,zs1,zs2,zs3,zs4,zs5,zs6]
  clear hS4;refine rdZ 5 rfl (fun K hK=>?_)
  (go_simp;(with_reducible refine (HRL.out _ (hw.mid hm0 oZl)).mono ?_);rintro en w5 ⟨A5,c5,rfl,ho5,hm5⟩;have b05:=b04.mid hm5 oZr;go_wp2_with fail)
  refine hK.out _ _ (Or.inr ⟨b05.cell 0 rfl,b05.cell 1 rfl,b05.cell 2 rfl⟩) (fun _=>?_);clear hK K;try simp only [Act.put,zs1,zs2,zs3,zs4,zs5,zs6]
  replace hm0:=hm0.trans hm5;clear b04;refine rdZ 6 rfl (fun K hK=>?_)
  (go_simp;(with_reducible refine (impl_loops r n A es c A5 rw0 c5 _ _ _ _ _ (hr.mid hm0 oZl) (RV.of_rs (Rs.of_own ho5) (Nat.le_refl _)) HC.out.gr hrl HRO.out b HL.out).mono ?_);rintro en w6 ⟨rfl,hm6⟩;have b06:=b05.mid hm6 oZr;go_wp2_with fail)
  refine hK.out _ _ (Or.inr ⟨b06.cell 0 rfl,b06.cell 1 rfl,b06.cell 2 rfl⟩) (fun _=>?_);clear hK K;try simp only [Act.put,zs1,zs2,zs3,zs4,zs5,zs6]
  replace hm0:=hm0.trans hm6;clear b05 ho5;have hS6:=And.intro (b06.cell 0 rfl) (And.intro (b06.cell 1 rfl) (b06.cell 2 rfl));refine tkZ [] 7 rfl hS6 ?_;try simp only [Act.put,zs1,zs2,zs3,zs4,zs5,zs6]
  refine rdZ 8 rfl (fun K hK=>?_);go_simp;refine hK.out _ _ (Or.inr hS6) (fun _=>?_);clear hK K;try simp only [Act.put,zs1,zs2,zs3,zs4,zs5,zs6]
  refine wpAnyZ_done (by kernel_rfl) ?_ _;go_wp2_with fail;go_ret;exact ⟨rfl,hm0⟩
 ·have hbf:b=false:=by
   cases b
   ·rfl
   ·exact absurd (HB.out.mp rfl).1 h
  subst hbf;have HN:=Lib.hid h;clear h HB HRL HOK;go_enter Tryz.func23,Tryz.ntmps23
  go_wp2_with fail;generalize (w.alloc (.cells #[.int .i64 r,.int .i64 s,.slice A es.length c] 26))=w1 at hm0 b0 ⊢;have hmd:=Mid.drew1 w1;replace b0:=b0.mid hmd oZr;replace hm0:=hm0.trans hmd;have p0:=b0.cell 0 rfl;have p1:=b0.cell 1 rfl;have p2:=b0.cell 2 rfl;clear hmd;refine wp_region_Z (S:=(fun w'=>w'.cell? ⟨w.heap.size,0,none⟩=some (.int .i64 r)∧w'.cell? ⟨w.heap.size,1,none⟩=some (.int .i64 s)∧w'.cell? ⟨w.heap.size,2,none⟩=some (.slice A es.length c))) [] (by kernel_rfl) ⟨p0,p1,p2⟩ ?_;generalize World.drew w1=wz at b0 hm0 p0 p1 p2 ⊢;have hS:wz.cell? ⟨w.heap.size,0,none⟩=some (.int .i64 r)∧wz.cell? ⟨w.heap.size,1,none⟩=some (.int .i64 s)∧wz.cell? ⟨w.heap.size,2,none⟩=some (.slice A es.length c):=⟨p0,p1,p2⟩
  refine tkZ [] 0 rfl hS ?_;try simp only [Act.put,zs1,zs2,zs3,zs4,zs5,zs6]
  refine rdZ 1 rfl (fun K hK=>?_)
  (go_simp;(with_reducible refine (impl_IsCore r s A es c _ _ _ (hr.mid hm0 oZl) hl hcl false (iff_of_false (by simp) HN.out)).mono ?_);rintro en w4 ⟨rfl,hm4⟩;have b04:=b0.mid hm4 oZr;go_wp2_with fail)
  refine hK.out _ _ (Or.inr ⟨b04.cell 0 rfl,b04.cell 1 rfl,b04.cell 2 rfl⟩) (fun _=>?_);clear hK K;try simp only [Act.put,zs1,zs2,zs3,zs4,zs5,zs6]
  replace hm0:=hm0.trans hm4;clear hS p0 p1 p2 b0;have hS4:=And.intro (b04.cell 0 rfl) (And.intro (b04.cell 1 rfl) (b04.cell 2 rfl));refine tkZ [] 2 rfl hS4 ?_;try simp only [Act.put,zs1,zs2,zs3,zs4,zs5,zs6]
  refine wpAnyZ_takeC [] (i:=3) rfl (by kernel_rfl) (by kernel_rfl) (by kernel_rfl) (by kernel_rfl) (fun _ _ _ h=>h) (Or.inr ⟨by rfl,rfl⟩) hS4 ?_;try simp only [Act.put,zs1,zs2,zs3,zs4,zs5,zs6]
  refine wpAnyZ_takeC [] (i:=4) rfl (by kernel_rfl) (by kernel_rfl) (by kernel_rfl) (by kernel_rfl) (fun _ _ _ h=>h) (Or.inr ⟨by rfl,rfl⟩) hS4 ?_;try simp only [Act.put,zs1,zs2,zs3,zs4,zs5,zs6]
  refine rdZ 5 rfl (fun K hK=>?_);go_simp;refine hK.out _ _ (Or.inr hS4) (fun _=>?_);clear hK K;try simp only [Act.put,zs1,zs2,zs3,zs4,zs5,zs6]
  refine rdZ 6 rfl (fun K hK=>?_);go_simp;refine hK.out _ _ (Or.inr hS4) (fun _=>?_);clear hK K;try simp only [Act.put,zs1,zs2,zs3,zs4,zs5,zs6]
  refine tkZ [] 7 rfl hS4 ?_;try simp only [Act.put,zs1,zs2,zs3,zs4,zs5,zs6]
  refine rdZ 8 rfl (fun K hK=>?_);go_simp;refine hK.out _ _ (Or.inr hS4) (fun _=>?_);clear hK K;try simp only [Act.put,zs1,zs2,zs3,zs4,zs5,zs6]
  refine wpAnyZ_done (by kernel_rfl) ?_ _;go_wp2_with fail;go_ret;exact ⟨rfl,hm0⟩
end
section
open Go.RowKit
theorem isFin_of {r s:Int} {es:List Ed} (h:IsCor r s es) (ht:Tot r s es):IsFin r s es:=⟨h,fun v hv x hx=>by
 have hs:=h.gr.size;have hx2:=mem_lets.1 hx;exact ht.full h.fol v (by omega) (by omega) x hx2.1 (by omega) (by omega)⟩
theorem full_of {r n:Nat} {es:List Ed} (hf:IsFol r n es) (ht:Tot r n es):Full r n es:=fun v hv x hx=>by
 have hx2:=mem_lets.1 hx;exact ht.full hf v (by omega) (by omega) x hx2.1 (by omega) (by omega)
theorem comp_core {r s:Int} {es:List Ed} (hf:IsFol r s es) (hr:Rch s es) :
  (coreA r (s,canon (es++addLs s es r.toNat))).1=s∧IsFin r s (coreA r (s,canon (es++addLs s es r.toNat))).2∧(∀ w,LtW w→(InS (coreA r (s,canon (es++addLs s es r.toNat))).2 w↔InS (compG r s es) w)) ∧
   (coreA r (s,canon (es++addLs s es r.toNat))).2.length=r.toNat * s.toNat:=by
 have hf2:=comp_fol hf;have ht2:=comp_tot hf;have hr2:Rch s (compG r s es):=hr.mono (fun e he=>compG_sub e he);have h1:=core_tot hf2 ht2 hr2;have h2:=core_cor hf2.gr;have h3:∀ w,LtW w→(InS (coreA r (s,compG r s es)).2 w↔InS (compG r s es) w):=fun w lw=>(core_lang hf2.gr lw).trans (genL_inS hf2 lw);have e:(coreA r (s,compG r s es)).1=s:=h1.1;rw [e] at h2;exact ⟨e,isFin_of h2 h1.2,h3,tot_len h2.fol h1.2⟩
theorem InS.mono {es fs:List Ed} (h:∀ e∈es,e∈fs) {w:List Int} (hw:InS es w):InS fs w:=Pa.mono h hw
theorem rankI_cor {r s:Int} {es:List Ed} (h:IsCor r s es):rankI r s es=(es.length:Int) - s+1:=if_pos h
theorem cover_good {r s:Int} {es:List Ed} {rr rs:Int} {res:List Ed} (h:CoverIs r s es rr rs res true) :
  IsCor r s es∧rr=r∧rs=s∧IsFin r s res∧(∀ w,LtW w→InS es w→InS res w)∧0≤rankI r s res - rankI r s es:=by
 rcases h with ⟨-,hc,rfl,rfl,rfl⟩ | ⟨h, -⟩
 ·obtain ⟨h1,h2,h3,h4⟩:=comp_core hc.fol hc.rch
  refine ⟨hc,rfl,h1,h2,fun w lw hw=>(h3 w lw).2 (hw.mono compG_sub),?_⟩;have:=fol_len hc.fol;rw [rankI_cor h2.cor,rankI_cor hc,h4];omega
 ·cases h
theorem isW_lt {r:Int} {w:List Int} (h:IsW r w):LtW w∧Rd w:=by
 have h1:=h.2.2.2;have hl:LtW w:=fun x hx=>by
  have h2:=h1.1 x hx;have h3:=h.1;have h4:=h.2.1;unfold Lt3;omega
 refine ⟨hl,fun a b x e=>?_⟩;have e1:w[a.length]?=some x:=by rw [e];simp
 have e2:w[a.length+1]?=some (-x):=by
  rw [e,List.getElem?_append_right (by omega)];simp
 have:=h1.2 a.length x (-x) e1 e2;omega
theorem isW_loop {r s:Int} {es:List Ed} (hf:IsFol r s es) {w:List Int} (h:IsW r w):LoopP es w↔InS es w:=by
 obtain ⟨lw,hr⟩:=isW_lt h;rw [← loop_inS hf,red_self hr lw]
theorem sep_good {r s:Int} {es:List Ed} {l:List (List Int)} {rr rs:Int} {res:List Ed} (h:SepIs r s es l rr rs res true) :
  IsCor r s es∧rr=r∧IsFin r rs res∧(∀ w,LtW w→InS es w→InS res w)∧l.length≤6∧∀ w∈l,IsW r w∧¬ InS res w:=by
 rcases h with ⟨-,h, -⟩ | ⟨hok,b1,s2,es2,he,⟨-,h, -⟩ | ⟨rfl, -,rfl,rfl,rfl⟩⟩
 ·cases h
 ·cases h
 ·have hc:=hok.1
  have hf2:=he.fol hc.fol;have hws:∀ w∈l,LtW w∧Rd w∧¬ InS es w:=fun w hw=>by
   obtain ⟨a,b⟩:=hok.2.2 w hw;exact ⟨(isW_lt a).1,(isW_lt a).2,fun h=>b ((isW_loop hc.fol a).2 h)⟩
  obtain ⟨g1,g2,g3,g4⟩:=he.facts hc.fol hc.rch hws;obtain ⟨h1,h2,h3,h4⟩:=comp_core hf2 g2;rw [h1];refine ⟨hc,rfl,h2,fun w lw hw=>(h3 w lw).2 ((hw.mono g1).mono compG_sub),hok.2.1,fun w hw=>⟨(hok.2.2 w hw).1,fun h=>?_⟩⟩;obtain ⟨lw,hr, -⟩:=hws w hw;obtain ⟨x,hx,hp⟩:=g4 w hw;have h5:=(h3 w lw).1 h;unfold InS at h5;rw [red_self hr lw] at h5;exact hx ((hp.mono compG_sub).det (comp_fol hf2) h5)
theorem basA_eq {r:Int} {es:List Ed}:basA r es=basisG r.toNat es:=rfl
def Inside (r s:Int) (es:List Ed) (r' s':Int) (es':List Ed):Prop:=IsCor r s es∧IsCor r' s' es'∧r=r'∧∀ w∈basA r es,InS es' w
theorem inside_of {r s:Int} {es:List Ed} {s':Int} {es':List Ed} (h:IsCor r s es) (h':IsCor r s' es') (hi:∀ w,LtW w→InS es w→InS es' w):Inside r s es r s' es':=by
 refine ⟨h,h',rfl,fun w hw=>?_⟩;obtain ⟨a,n,rfl,rfl⟩:=h.gr.nat;rw [basA_eq,Int.toNat_natCast] at hw;exact hi w (basisG_inS h hw).1 (basisG_inS h hw).2
end
section
open Go.RowKit
def IsSubgraphIs (r0 s0:Int) (d0:List Ed) (r1 s1:Int) (d1:List Ed) (res0:Bool):Prop:=res0=true↔IsSub r0 s0 d0 r1 s1 d1
theorem IsSubgraphIs_ex (r0 s0:Int) (d0:List Ed) (r1 s1:Int) (d1:List Ed) (hl0:d0.length≤1048576) (hl1:d1.length≤1048576):∃ res0,IsSubgraphIs r0 s0 d0 r1 s1 d1 res0:=bool_of _
end
section
open Go.RowKit
def SeparateWordsIs (r0 s0:Int) (d0:List Ed) (d1:List (List Int)) (rr0 rs0:Int) (res0:List Ed) (res1:Bool):Prop:=SepIs r0 s0 d0 d1 rr0 rs0 res0 res1
theorem SeparateWordsIs_ex (r0 s0:Int) (d0:List Ed) (d1:List (List Int)) (hl0:d0.length≤1048576) (o1:OkSS d1) (hl1:d1.length+sumL d1≤1048576):∃ rr0 rs0 res0 res1,SeparateWordsIs r0 s0 d0 d1 rr0 rs0 res0 res1:=SepIs_ex r0 s0 d0 d1
theorem SeparateWordsIs_len {r0 s0:Int} {d0:List Ed} {d1:List (List Int)} {rr0 rs0:Int} {res0:List Ed} {res1:Bool} (h:SeparateWordsIs r0 s0 d0 d1 rr0 rs0 res0 res1) (hl0:d0.length≤1048576) (o1:OkSS d1) (hl1:d1.length+sumL d1≤1048576):res0.length≤1048576:=by
 have:=SepIs.lens h;omega
theorem sspec_SeparateWords (r0 s0:Int) (A0:Option Addr) (d0:List Ed) (c0:Nat) (A1:Option Addr) (d1:List (List Int)) (c1:Nat) (w:World) (lo0 hi0:Nat) (h0:OG w lo0 hi0 A0 c0 d0) (hl0:d0.length≤1048576) (lo1 hi1:Nat) (h1:OSS w lo1 hi1 34 3 A1 c1 d1) (o1:OkSS d1) (hl1:d1.length+sumL d1≤1048576) (rr0 rs0:Int) (res0:List Ed) (res1:Bool) (h:SeparateWordsIs r0 s0 d0 d1 rr0 rs0 res0 res1) :
  Calls Tryz.prog 61 #[.agg #[.int .i64 r0,.int .i64 s0,.slice A0 d0.length c0],.slice A1 d1.length c1] w fun e w'=>∃ (A:Option Addr) (c:Nat),e=.returned (.tuple #[.agg #[.int .i64 rr0,.int .i64 rs0,.slice A res0.length c],.bool res1])∧OG w' w.heap.size w'.heap.size A c res0∧Mid 0 0 w w' :=
 spec_SeparateWords r0 s0 A0 d0 c0 A1 d1 c1 w lo0 hi0 lo1 hi1 h0.rg h1.rsc hl0 h0.cnt.1 o1 (by omega) rr0 rs0 res0 res1 h
theorem simpl_SeparateWords (r0 s0:Int) (A0:Option Addr) (d0:List Ed) (c0:Nat) (A1:Option Addr) (d1:List (List Int)) (c1:Nat) (w:World) (lo0 hi0:Nat) (h0:OG w lo0 hi0 A0 c0 d0) (hl0:d0.length≤1048576) (lo1 hi1:Nat) (h1:OSS w lo1 hi1 34 3 A1 c1 d1) (o1:OkSS d1) (hl1:d1.length+sumL d1≤1048576) (rr0 rs0:Int) (res0:List Ed) (res1:Bool) (h:SeparateWordsIs r0 s0 d0 d1 rr0 rs0 res0 res1) :
  Calls Tryz.prog 60 #[.agg #[.int .i64 r0,.int .i64 s0,.slice A0 d0.length c0],.slice A1 d1.length c1] w fun e w'=>∃ (A:Option Addr) (c:Nat),e=.returned (.tuple #[.agg #[.int .i64 rr0,.int .i64 rs0,.slice A res0.length c],.bool res1])∧OG w' w.heap.size w'.heap.size A c res0∧Mid 0 0 w w' :=
 impl_SeparateWords r0 s0 A0 d0 c0 A1 d1 c1 w lo0 hi0 lo1 hi1 h0.rg h1.rsc hl0 h0.cnt.1 o1 (by omega) rr0 rs0 res0 res1 h
end
section
open Go.RowKit
theorem rsc_one {w:World} {lo hi:Nat} {Aw:Option Addr} {wd:List Int} {cw:Nat} (h:RV w lo hi Aw (ints wd)) (hc:wd.length≤cw):RSC (w.alloc (.cells #[.slice Aw wd.length cw] 34)) 0 (w.heap.size+1) (some ⟨w.heap.size,0,none⟩) [wd]:=by
 have hal:=Mid.alloc w (.cells #[.slice Aw wd.length cw] 34);have hs:=h.1;refine ⟨[⟨Aw,cw,wd⟩],rfl,⟨by simp,fun _=>⟨w.heap.size,0,rfl,Nat.zero_le _,Nat.lt_succ_self _,fun j u hu=>?_⟩⟩,fun r hr=>?_⟩
 ·refine (World.cell?_alloc_at _ _ _ _ rfl).trans ?_
  simpa [rowsV,Row.v] using hu
 ·rw [List.mem_singleton] at hr
  subst hr;exact ⟨(h.mid hal oZl).wide (Nat.zero_le _) (by omega) (by simp),hc⟩
theorem okss_one {wd:List Int} (h:OkI wd) (hl:wd.length≤1048576):OkSS [wd]:=by
 refine ⟨⟨by simp,fun xs hx=>?_⟩,fun xs hx=>?_⟩
 ·rw [List.mem_singleton] at hx
  subst hx;omega
 ·rw [List.mem_singleton] at hx
  subst hx;exact h
theorem impl_SeparateWord (r s:Int) (A:Option Addr) (es:List Ed) (c:Nat) (Aw:Option Addr) (wd:List Int) (cw:Nat) (w:World) (lo hi lo' hi':Nat) (hr:RG w lo hi A es) (hw:RV w lo' hi' Aw (ints wd)) (hl:es.length≤1048576) (hcl:es.length≤c) (hcw:wd.length≤cw) (hok:OkI wd) (hwl:wd.length≤1048576) (rr rs:Int) (res:List Ed) (b:Bool) (hres:SepIs r s es [wd] rr rs res b) :
  Calls Tryz.prog 57 #[graV r s A es.length c,.slice Aw wd.length cw] w fun e w'=>∃ A1 c1,e=.returned (.tuple #[graV rr rs A1 res.length c1,.bool b])∧OG w' w.heap.size w'.heap.size A1 c1 res∧Mid 0 0 w w':=by
 have hm0:Mid 0 0 w ((w.alloc (.cells #[.int .i64 r,.int .i64 s,.slice A es.length c] 26)).alloc (.cells #[.int .i64 0,.int .i64 0,.slice none 0 0] 26)):=(Mid.alloc _ _).trans (Mid.alloc _ _);have B0:=(Box.new w #[.int .i64 r,.int .i64 s,.slice A es.length c] 26).mid (Mid.alloc _ (.cells #[.int .i64 0,.int .i64 0,.slice none 0 0] 26)) oZr;have B2:=Box.new (w.alloc (.cells #[.int .i64 r,.int .i64 s,.slice A es.length c] 26)) #[.int .i64 0,.int .i64 0,.slice none 0 0] 26;simp only [World.size_alloc] at B2;have HR:=Lib.hid hres;have HOK:=Lib.hid (okss_one hok hwl);clear hres hok;have hsl:sumL [wd]≤1048576:=by simpa [sumL] using hwl
 go_enter Tryz.func57,Tryz.ntmps57
 have p0:=B0.cell 0 rfl;have p1:=B0.cell 1 rfl;have p2:=B0.cell 2 rfl;go_wp2_with fail;generalize hw1:(w.alloc (.cells #[.int .i64 r,.int .i64 s,.slice A es.length c] 26)).alloc (.cells #[.int .i64 0,.int .i64 0,.slice none 0 0] 26)=w1 at hm0 B0 B2 p0 p1 p2 ⊢;have hsz:w1.heap.size=w.heap.size+1+1:=by rw [← hw1];simp
 have hs1:w.heap.size+1 < w1.heap.size:=B2.1;have hsc:=rsc_one (hw.mid hm0 oZl) hcw;rw [hsz] at hsc;have hal:=Mid.alloc w1 (.cells #[.slice Aw wd.length cw] 34);replace B0:=B0.mid hal oZr;replace B2:=B2.mid hal oZr;replace hm0:=hm0.trans hal;generalize hw2:w1.alloc (.cells #[.slice Aw wd.length cw] 34)=w2 at hm0 B0 B2 hsc hal ⊢;have hs2:=hal.size;clear p0 p1 p2 hw1 hw2;have hcall:=impl_SeparateWords r s A es c (some ⟨w.heap.size+1+1,0,none⟩) [wd] 1 w2 _ _ _ _ (hr.mid hm0 oZl) hsc hl hcl HOK.out hsl rr rs res b HR.out;rw [List.length_singleton] at hcall;with_reducible refine hcall.mono ?_
 clear hcall;rintro en w5 ⟨A5,c5,rfl,ho5,hm5⟩;have hs5:=hm5.size;replace B2:=B2.mid hm5 oZr;replace hm0:=hm0.trans hm5;have hb5:w.heap.size+1 < w5.heap.size:=B2.1;have z0:=B2.cell 0 rfl;have z1:=B2.cell 1 rfl;have z2:=B2.cell 2 rfl;have zf:=B2.2.2;go_wp2_with fail;refine bodyPost_ret (v:=.tuple #[.agg #[.int .i64 rr,.int .i64 rs,.slice A5 res.length c5],.bool b]) (by simp [results,Tryz.results57,go_sem,z0,z1,z2,zf]) rfl ⟨A5,c5,rfl,?_,?_⟩
 ·refine OG.wide (OG.mid ho5 (a:=w.heap.size+1) (b:=w.heap.size+2) ?_ (Or.inl (by omega))) (by omega) (by simp) (Nat.le_refl _)
  repeat (first | exact Mid.refl _ _ _ | refine Mid.trans ?_ (Mid.zero (Mid.alloc _ _)) | refine Mid.stored ?_ _ (by simp;try omega) (by simp;try omega))
 ·repeat (first | exact hm0 | refine Mid.trans ?_ (Mid.alloc _ _) | refine Mid.storeNew ?_ (by simp;try omega) _)
theorem spec_SeparateWord (r s:Int) (A:Option Addr) (es:List Ed) (c:Nat) (Aw:Option Addr) (wd:List Int) (cw:Nat) (w:World) (lo hi lo' hi':Nat) (hr:RG w lo hi A es) (hw:RV w lo' hi' Aw (ints wd)) (hl:es.length≤1048576) (hcl:es.length≤c) (hcw:wd.length≤cw) (hok:OkI wd) (hwl:wd.length≤1048576) (rr rs:Int) (res:List Ed) (b:Bool) (hres:SepIs r s es [wd] rr rs res b) :
  Calls Tryz.prog 58 #[graV r s A es.length c,.slice Aw wd.length cw] w fun e w'=>∃ A1 c1,e=.returned (.tuple #[graV rr rs A1 res.length c1,.bool b])∧OG w' w.heap.size w'.heap.size A1 c1 res∧Mid 0 0 w w':=by
 have hm0:Mid 0 0 w ((w.alloc (.cells #[.int .i64 r,.int .i64 s,.slice A es.length c] 26)).alloc (.cells #[.int .i64 0,.int .i64 0,.slice none 0 0] 26)):=(Mid.alloc _ _).trans (Mid.alloc _ _);have B0:=(Box.new w #[.int .i64 r,.int .i64 s,.slice A es.length c] 26).mid (Mid.alloc _ (.cells #[.int .i64 0,.int .i64 0,.slice none 0 0] 26)) oZr;have B2:=Box.new (w.alloc (.cells #[.int .i64 r,.int .i64 s,.slice A es.length c] 26)) #[.int .i64 0,.int .i64 0,.slice none 0 0] 26;simp only [World.size_alloc] at B2;have HR:=Lib.hid hres;have HOK:=Lib.hid (okss_one hok hwl);clear hres hok;have hsl:sumL [wd]≤1048576:=by simpa [sumL] using hwl
 go_enter Tryz.func58,Tryz.ntmps58
 have p0:=B0.cell 0 rfl;have p1:=B0.cell 1 rfl;have p2:=B0.cell 2 rfl;go_wp2_with fail;generalize hw1:(w.alloc (.cells #[.int .i64 r,.int .i64 s,.slice A es.length c] 26)).alloc (.cells #[.int .i64 0,.int .i64 0,.slice none 0 0] 26)=w1 at hm0 B0 B2 p0 p1 p2 ⊢;have hsz:w1.heap.size=w.heap.size+1+1:=by rw [← hw1];simp
 have hs1:w.heap.size+1 < w1.heap.size:=B2.1;have hsc:=rsc_one (hw.mid hm0 oZl) hcw;rw [hsz] at hsc;have hal:=Mid.alloc w1 (.cells #[.slice Aw wd.length cw] 34);replace B0:=B0.mid hal oZr;replace B2:=B2.mid hal oZr;replace hm0:=hm0.trans hal;generalize hw2:w1.alloc (.cells #[.slice Aw wd.length cw] 34)=w2 at hm0 B0 B2 hsc hal ⊢;have hs2:=hal.size;clear p0 p1 p2 hw1 hw2;have hcall:=spec_SeparateWords r s A es c (some ⟨w.heap.size+1+1,0,none⟩) [wd] 1 w2 _ _ _ _ (hr.mid hm0 oZl) hsc hl hcl HOK.out hsl rr rs res b HR.out;rw [List.length_singleton] at hcall;with_reducible refine hcall.mono ?_
 clear hcall;rintro en w5 ⟨A5,c5,rfl,ho5,hm5⟩;have hs5:=hm5.size;replace B2:=B2.mid hm5 oZr;replace hm0:=hm0.trans hm5;have hb5:w.heap.size+1 < w5.heap.size:=B2.1;have z0:=B2.cell 0 rfl;have z1:=B2.cell 1 rfl;have z2:=B2.cell 2 rfl;have zf:=B2.2.2;have Y5:=Box.new w5 #[.int .i64 rr,.int .i64 rs,.slice A5 res.length c5] 26;have q0:=Y5.cell 0 rfl;have q1:=Y5.cell 1 rfl;have q2:=Y5.cell 2 rfl;go_wp2_with fail;refine bodyPost_ret (v:=.tuple #[.agg #[.int .i64 rr,.int .i64 rs,.slice A5 res.length c5],.bool b]) (by simp [results,Tryz.results58,go_sem,z0,z1,z2,zf,q0,q1,q2,hb5,World.cell?_alloc_lt]) rfl ⟨A5,c5,rfl,?_,?_⟩
 ·refine OG.wide (OG.mid ho5 (a:=w.heap.size+1) (b:=w.heap.size+2) ?_ (Or.inl (by omega))) (by omega) (by simp) (Nat.le_refl _)
  repeat (first | exact Mid.refl _ _ _ | refine Mid.trans ?_ (Mid.zero (Mid.alloc _ _)) | refine Mid.stored ?_ _ (by simp;try omega) (by simp;try omega))
 ·repeat (first | exact hm0 | refine Mid.trans ?_ (Mid.alloc _ _) | refine Mid.storeNew ?_ (by simp;try omega) _)
end
section
open Go.RowKit
theorem OI.capC {w:World} {lo hi:Nat} {A:Option Addr} {c:Nat} {xs:List Int} (h:OI w lo hi A c xs):xs.length≤c:=by
 obtain ⟨A',c',he,hn, -⟩:=owns_shape h.2.1;injection he with _ _ hc
 omega
end
section
open Go.RowKit
def SeparateWordIs (r0 s0:Int) (d0:List Ed) (d1:List Int) (rr0 rs0:Int) (res0:List Ed) (res1:Bool):Prop:=SepIs r0 s0 d0 [d1] rr0 rs0 res0 res1
theorem SeparateWordIs_ex (r0 s0:Int) (d0:List Ed) (d1:List Int) (hl0:d0.length≤1048576) (o1:OkI d1) (hl1:d1.length≤1048576):∃ rr0 rs0 res0 res1,SeparateWordIs r0 s0 d0 d1 rr0 rs0 res0 res1:=SepIs_ex r0 s0 d0 [d1]
theorem SeparateWordIs_len {r0 s0:Int} {d0:List Ed} {d1:List Int} {rr0 rs0:Int} {res0:List Ed} {res1:Bool} (h:SeparateWordIs r0 s0 d0 d1 rr0 rs0 res0 res1) (hl0:d0.length≤1048576) (o1:OkI d1) (hl1:d1.length≤1048576):res0.length≤1048576:=by
 have:=SepIs.lens h;omega
theorem sspec_SeparateWord (r0 s0:Int) (A0:Option Addr) (d0:List Ed) (c0:Nat) (A1:Option Addr) (d1:List Int) (c1:Nat) (w:World) (lo0 hi0:Nat) (h0:OG w lo0 hi0 A0 c0 d0) (hl0:d0.length≤1048576) (lo1 hi1:Nat) (h1:OI w lo1 hi1 A1 c1 d1) (o1:OkI d1) (hl1:d1.length≤1048576) (rr0 rs0:Int) (res0:List Ed) (res1:Bool) (h:SeparateWordIs r0 s0 d0 d1 rr0 rs0 res0 res1) :
  Calls Tryz.prog 58 #[.agg #[.int .i64 r0,.int .i64 s0,.slice A0 d0.length c0],.slice A1 d1.length c1] w fun e w'=>∃ (A:Option Addr) (c:Nat),e=.returned (.tuple #[.agg #[.int .i64 rr0,.int .i64 rs0,.slice A res0.length c],.bool res1])∧OG w' w.heap.size w'.heap.size A c res0∧Mid 0 0 w w' :=
 spec_SeparateWord r0 s0 A0 d0 c0 A1 d1 c1 w lo0 hi0 lo1 hi1 h0.rg h1.ri hl0 h0.cnt.1 h1.capC o1 hl1 rr0 rs0 res0 res1 h
theorem simpl_SeparateWord (r0 s0:Int) (A0:Option Addr) (d0:List Ed) (c0:Nat) (A1:Option Addr) (d1:List Int) (c1:Nat) (w:World) (lo0 hi0:Nat) (h0:OG w lo0 hi0 A0 c0 d0) (hl0:d0.length≤1048576) (lo1 hi1:Nat) (h1:OI w lo1 hi1 A1 c1 d1) (o1:OkI d1) (hl1:d1.length≤1048576) (rr0 rs0:Int) (res0:List Ed) (res1:Bool) (h:SeparateWordIs r0 s0 d0 d1 rr0 rs0 res0 res1) :
  Calls Tryz.prog 57 #[.agg #[.int .i64 r0,.int .i64 s0,.slice A0 d0.length c0],.slice A1 d1.length c1] w fun e w'=>∃ (A:Option Addr) (c:Nat),e=.returned (.tuple #[.agg #[.int .i64 rr0,.int .i64 rs0,.slice A res0.length c],.bool res1])∧OG w' w.heap.size w'.heap.size A c res0∧Mid 0 0 w w' :=
 impl_SeparateWord r0 s0 A0 d0 c0 A1 d1 c1 w lo0 hi0 lo1 hi1 h0.rg h1.ri hl0 h0.cnt.1 h1.capC o1 hl1 rr0 rs0 res0 res1 h
end
section
open Go.RowKit
def AllTo (es:List Ed) (l:List (List Int)) (k:Nat):Prop:=∀ x∈l.take k,InS es x
theorem AllTo.succ {es:List Ed} {l:List (List Int)} {k:Nat} {x:List Int} (h:AllTo es l k) (hx:l[k]?=some x) (hi:InS es x):AllTo es l (k+1):=fun y hy=>by
 rw [List.take_add_one,hx] at hy;rcases List.mem_append.1 hy with hy | hy
 ·exact h y hy
 ·simp at hy
  rw [hy];exact hi
theorem AllTo.all {es:List Ed} {l:List (List Int)} (h:AllTo es l l.length):∀ x∈l,InS es x:=fun x hx=>h x (by rw [List.take_length];exact hx)
theorem le_sumL:∀ {l:List (List Int)} {x:List Int},x∈l→x.length≤sumL l
 | a :: l,x,h=>by
  rcases List.mem_cons.1 h with rfl | h
  ·simp [sumL]
  ·have:=le_sumL h
   simp only [sumL] at this ⊢;simp;omega
theorem impl_ContainsAll (r s:Int) (A:Option Addr) (es:List Ed) (c:Nat) (Al:Option Addr) (l:List (List Int)) (cl:Nat) (w:World) (lo hi lo' hi':Nat) (hr:RG w lo hi A es) (hw:RSS w lo' hi' Al l) (hl:es.length≤1048576) (hcl:es.length≤c) (hll:l.length+sumL l≤1048576) (hok:∀ xs∈l,OkI xs) (b:Bool) (hb:b=true↔IsCor r s es∧∀ x∈l,InS es x) :
  Calls Tryz.prog 100 #[graV r s A es.length c,.slice Al l.length cl] w fun e w'=>e=.returned (.bool b)∧Mid 0 0 w w':=by
 have hm0:Mid 0 0 w (w.alloc (.cells #[.int .i64 r,.int .i64 s,.slice A es.length c] 26)):=Mid.alloc _ _;have b0:=Box.new w #[.int .i64 r,.int .i64 s,.slice A es.length c] 26;have HB:=Lib.hid hb;have HOK:=Lib.hid hok;clear hb hok;by_cases h:IsCor r s es
 ·obtain ⟨r,n,rfl,rfl⟩:=h.gr.nat
  have HC:=Lib.hid h;clear h;have hsl:=sumL l;go_enter Tryz.func100,Tryz.ntmps100
  go_wp2_with fail;with_reducible refine (impl_IsCore r n A es c _ _ _ (hr.mid hm0 oZl) hl hcl true (iff_of_true rfl HC.out)).mono ?_
  rintro e w1 ⟨rfl,hm1⟩;have b1:=b0.mid hm1 oZr;replace hm1:=hm0.trans hm1;clear hm0 b0;have p0:=b1.cell 0 rfl;have p1:=b1.cell 1 rfl;have p2:=b1.cell 2 rfl;go_wp2_with fail;go_loopw [6,12] (fun _ i wr=>∃ k:Nat,k≤l.length∧i=.int .i64 k∧Hid (AllTo es l k)∧Box wr w.heap.size [.int .i64 r,.int .i64 n,.slice A es.length c]∧Mid 0 0 w wr) (fun _ i _=>l.length - (intOf i).toNat)
  case atStart=>exact ⟨0,Nat.zero_le _,rfl,Lib.hid (by intro x hx;simp at hx),b1,hm1⟩
  case round =>
   obtain ⟨k,hk,rfl,HA,bx,hm⟩:=hrel;clear b1 hm1 p0 p1 p2;by_cases hlt:k < l.length
   ·obtain ⟨bq,off,A1,c1,xs,hAl, -, -,hx,hcx,hrx⟩:=(hw.mid hm oZl).row hlt
    have hlx:=row_le (List.mem_of_getElem? hx) hll;have HOX:=Lib.hid (HOK.out xs (List.mem_of_getElem? hx));have HX:=Lib.hid hx;clear hx;have HRL:=Lib.hid (fun W (h:RV W lo' hi' A1 (ints xs))=>impl_ReduceLetters A1 xs c1 W hi' h.rs h.1 HOX.out (by omega));have hrl:(red [] xs).length≤1048576:=by have:=red_nil_len xs;have:=le_sumL (List.mem_of_getElem? HX.out);omega
    have HRO:=Lib.hid (red_ok HOX.out);obtain ⟨rw0,hrw⟩:∃ x,red [] xs=x:=⟨_,rfl⟩
    obtain ⟨v,hv⟩:=bool_ofR (InS es xs);have hL:v=true↔LoopP es rw0:=by
     rw [← hrw,loop_inS HC.out.fol,hv]
    have HL:=Lib.hid hL;have HV:=Lib.hid hv;rw [hrw] at HRL hrl HRO;clear hrw hL hv;subst hAl;have p0:=bx.cell 0 rfl;have p1:=bx.cell 1 rfl;have p2:=bx.cell 2 rfl;go_wp2_with fail;have hmd:=Mid.drew1 wr;replace bx:=bx.mid hmd oZr;replace hrx:=hrx.mid hmd oZl;replace hm:=hm.trans hmd;clear hmd p0 p1 p2 hcx;have p0:=bx.cell 0 rfl;have p1:=bx.cell 1 rfl;have p2:=bx.cell 2 rfl;refine wp_region_Z (S:=(fun w'=>w'.cell? ⟨w.heap.size,0,none⟩=some (.int .i64 r)∧w'.cell? ⟨w.heap.size,1,none⟩=some (.int .i64 n)∧w'.cell? ⟨w.heap.size,2,none⟩=some (.slice A es.length c))) [] (by kernel_rfl) ⟨p0,p1,p2⟩ ?_;generalize World.drew wr=wz at bx hrx hm p0 p1 p2 ⊢;have hS:wz.cell? ⟨w.heap.size,0,none⟩=some (.int .i64 r)∧wz.cell? ⟨w.heap.size,1,none⟩=some (.int .i64 n)∧wz.cell? ⟨w.heap.size,2,none⟩=some (.slice A es.length c):=⟨p0,p1,p2⟩
    refine tkZ [] 0 rfl hS ?_;try simp only [Act.put,zs1,zs2,zs3,zs4,zs5,zs6]
    refine tkZ [] 1 rfl hS ?_;try simp only [Act.put,zs1,zs2,zs3,zs4,zs5,zs6]
    clear hS p0 p1 p2;refine rdZ 2 rfl (fun K hK=>?_)
    (go_simp;(with_reducible refine (HRL.out _ hrx).mono ?_);rintro en w5 ⟨A5,c5,rfl,ho5,hm5⟩;have b05:=bx.mid hm5 oZr;go_wp2_with fail)
    refine hK.out _ _ (Or.inr ⟨b05.cell 0 rfl,b05.cell 1 rfl,b05.cell 2 rfl⟩) (fun _=>?_);clear hK K;try simp only [Act.put,zs1,zs2,zs3,zs4,zs5,zs6]
    replace hm:=hm.trans hm5;clear bx hrx;refine rdZ 3 rfl (fun K hK=>?_)
    (go_simp;(with_reducible refine (impl_loops r n A es c A5 rw0 c5 _ _ _ _ _ (hr.mid hm oZl) (RV.of_rs (Rs.of_own ho5) (Nat.le_refl _)) HC.out.gr hrl HRO.out v HL.out).mono ?_);rintro en w6 ⟨rfl,hm6⟩;have b06:=b05.mid hm6 oZr;go_wp2_with fail)
    refine hK.out _ _ (Or.inr ⟨b06.cell 0 rfl,b06.cell 1 rfl,b06.cell 2 rfl⟩) (fun _=>?_);clear hK K;try simp only [Act.put,zs1,zs2,zs3,zs4,zs5,zs6]
    replace hm:=hm.trans hm6;clear b05 ho5;have hS6:=And.intro (b06.cell 0 rfl) (And.intro (b06.cell 1 rfl) (b06.cell 2 rfl));refine tkZ [] 4 rfl hS6 ?_;try simp only [Act.put,zs1,zs2,zs3,zs4,zs5,zs6]
    refine wpAnyZ_done (by kernel_rfl) ?_ _;clear hS6;cases v with
    | false =>
     obtain rfl:b=false:=bool_false HB.out (fun h=>by have:=HV.out.2 (h.2 xs (List.mem_of_getElem? HX.out));cases this);go_wp2_with fail;go_ret;exact ⟨rfl,hm⟩
    | true =>
     go_wp2_with fail;go_roundw
     case rel=>exact ⟨k+1,by omega,by go_num,Lib.hid (HA.out.succ HX.out (HV.out.1 rfl)),b06,hm⟩
     case measure=>simp [intOf];omega
   ·obtain rfl:k=l.length:=by omega
    obtain rfl:b=true:=HB.out.2 ⟨HC.out,HA.out.all⟩;go_wp2_with fail;go_ret;exact ⟨rfl,hm⟩
 ·obtain rfl:b=false:=bool_false HB.out (fun h2=>h h2.1)
  have HN:=Lib.hid h;clear h HB;go_enter Tryz.func100,Tryz.ntmps100
  go_wp2_with fail;with_reducible refine (impl_IsCore r s A es c _ _ _ (hr.mid hm0 oZl) hl hcl false (iff_of_false (by simp) HN.out)).mono ?_
  rintro e w1 ⟨rfl,hm1⟩;go_wp2_with fail;go_ret;exact ⟨rfl,hm0.trans hm1⟩
theorem sumL_leI {m:Nat}:∀ {l:List (List Int)},(∀ x∈l,x.length≤m)→sumL l≤m * l.length
 | [],_=>by simp [sumL]
 | a :: l,h=>by
  have h1:=sumL_leI (l:=l) (fun x hx=>h x (List.mem_cons_of_mem _ hx));have h2:=h a List.mem_cons_self;simp only [sumL] at h1 ⊢;rw [List.map_cons,List.sum_cons,List.length_cons,Nat.mul_succ];omega
theorem impl_IsInside (r s:Int) (A:Option Addr) (es:List Ed) (c:Nat) (r2 s2:Int) (A2:Option Addr) (es2:List Ed) (c2:Nat) (w:World) (lo hi lo' hi':Nat) (hr:RG w lo hi A es) (hr2:RG w lo' hi' A2 es2) (hl:es.length≤1048576) (hcl:es.length≤c) (hl2:es2.length≤1048576) (hcl2:es2.length≤c2) (b:Bool)
  (hb:b=true↔IsCor r s es∧IsCor r2 s2 es2∧r=r2∧∀ x∈basA r.toNat es,InS es2 x) :
  Calls Tryz.prog 17 #[graV r s A es.length c,graV r2 s2 A2 es2.length c2] w fun e w'=>e=.returned (.bool b)∧Mid 0 0 w w':=by
 have hm0:Mid 0 0 w (w.alloc (.cells #[.int .i64 r,.int .i64 s,.slice A es.length c] 26)):=Mid.alloc _ _;have b0:=Box.new w #[.int .i64 r,.int .i64 s,.slice A es.length c] 26;have hsz:(w.alloc (.cells #[.int .i64 r,.int .i64 s,.slice A es.length c] 26)).heap.size=w.heap.size+1:=by simp
 generalize hw1:(w.alloc (.cells #[.int .i64 r,.int .i64 s,.slice A es.length c] 26))=w1 at hm0 b0 hsz;have hm1:Mid 0 0 w1 (w1.alloc (.cells #[.int .i64 r2,.int .i64 s2,.slice A2 es2.length c2] 26)):=Mid.alloc _ _;have b1:=Box.new w1 #[.int .i64 r2,.int .i64 s2,.slice A2 es2.length c2] 26;rw [hsz] at b1;replace b0:=b0.mid hm1 oZr;replace hm0:=hm0.trans hm1;clear hm1;have HB:=Lib.hid hb;clear hb;by_cases h:IsCor r s es
 ·obtain ⟨r,n,rfl,rfl⟩:=h.gr.nat
  have HC:=Lib.hid h;clear h;by_cases h2:IsCor r2 s2 es2
  ·obtain ⟨r2,n2,rfl,rfl⟩:=h2.gr.nat
   have HC2:=Lib.hid h2;clear h2;by_cases he:r=r2
   ·subst he
    have HBL:=Lib.hid (show (basA r es).length+sumL (basA r es)≤1048576 by
     have h1:=basA_len HC.out;have h2:=sumL_leI (fun x hx=>(basA_ok HC.out (x:=x) hx).1);omega)
    have HBO:=Lib.hid (fun x hx=>(basA_ok HC.out (x:=x) hx).2);have HBB:=Lib.hid (show b=true↔IsCor r n2 es2∧∀ x∈basA r es,InS es2 x by
     rw [HB.out,Int.toNat_natCast];exact ⟨fun h=>⟨h.2.1,h.2.2.2⟩,fun h=>⟨HC.out,h.1,rfl,h.2⟩⟩)
    clear HB;go_enter Tryz.func17,Tryz.ntmps17
    go_wp2_with fail;generalize (w1.alloc (.cells #[.int .i64 r,.int .i64 n2,.slice A2 es2.length c2] 26))=w2 at hm0 b0 b1 ⊢;have hmd:=Mid.drew1 w2;replace b0:=b0.mid hmd oZr;replace b1:=b1.mid hmd oZr;replace hm0:=hm0.trans hmd;have p0:=b0.cell 0 rfl;have p1:=b0.cell 1 rfl;have p2:=b0.cell 2 rfl;have q0:=b1.cell 0 rfl;have q1:=b1.cell 1 rfl;have q2:=b1.cell 2 rfl;clear hmd hw1 hsz;refine wp_region_Z (S:=(fun w'=>(w'.cell? ⟨w.heap.size,0,none⟩=some (.int .i64 r)∧w'.cell? ⟨w.heap.size,1,none⟩=some (.int .i64 n)∧w'.cell? ⟨w.heap.size,2,none⟩=some (.slice A es.length c))∧w'.cell? ⟨w.heap.size+1,0,none⟩=some (.int .i64 r)∧w'.cell? ⟨w.heap.size+1,1,none⟩=some (.int .i64 n2)∧w'.cell? ⟨w.heap.size+1,2,none⟩=some (.slice A2 es2.length c2))) [] (by kernel_rfl) ⟨⟨p0,p1,p2⟩,q0,q1,q2⟩ ?_;generalize World.drew w2=wz at b0 b1 hm0 p0 p1 p2 q0 q1 q2 ⊢;have hS:(wz.cell? ⟨w.heap.size,0,none⟩=some (.int .i64 r)∧wz.cell? ⟨w.heap.size,1,none⟩=some (.int .i64 n)∧wz.cell? ⟨w.heap.size,2,none⟩=some (.slice A es.length c))∧wz.cell? ⟨w.heap.size+1,0,none⟩=some (.int .i64 r)∧wz.cell? ⟨w.heap.size+1,1,none⟩=some (.int .i64 n2)∧wz.cell? ⟨w.heap.size+1,2,none⟩=some (.slice A2 es2.length c2):=⟨⟨p0,p1,p2⟩,q0,q1,q2⟩
    refine tkZ [] 0 rfl hS ?_;try simp only [Act.put,zs1,zs2,zs3,zs4,zs5,zs6]
    clear hS p0 p1 p2 q0 q1 q2;refine rdZ 1 rfl (fun K hK=>?_)
    (go_simp;(with_reducible refine (impl_IsCore r n A es c _ _ _ (hr.mid hm0 oZl) hl hcl true (iff_of_true rfl HC.out)).mono ?_);rintro en w3 ⟨rfl,hm3⟩;replace b0:=b0.mid hm3 oZr;replace b1:=b1.mid hm3 oZr;replace hm0:=hm0.trans hm3;go_wp2_with fail)
    refine hK.out _ _ (Or.inr ⟨⟨b0.cell 0 rfl,b0.cell 1 rfl,b0.cell 2 rfl⟩,b1.cell 0 rfl,b1.cell 1 rfl,b1.cell 2 rfl⟩) (fun _=>?_);clear hK K;try simp only [Act.put,zs1,zs2,zs3,zs4,zs5,zs6]
    have hS:(w3.cell? ⟨w.heap.size,0,none⟩=some (.int .i64 r)∧w3.cell? ⟨w.heap.size,1,none⟩=some (.int .i64 n)∧w3.cell? ⟨w.heap.size,2,none⟩=some (.slice A es.length c))∧w3.cell? ⟨w.heap.size+1,0,none⟩=some (.int .i64 r)∧w3.cell? ⟨w.heap.size+1,1,none⟩=some (.int .i64 n2)∧w3.cell? ⟨w.heap.size+1,2,none⟩=some (.slice A2 es2.length c2):=⟨⟨b0.cell 0 rfl,b0.cell 1 rfl,b0.cell 2 rfl⟩,b1.cell 0 rfl,b1.cell 1 rfl,b1.cell 2 rfl⟩
    refine tkZ [] 2 rfl hS ?_;try simp only [Act.put,zs1,zs2,zs3,zs4,zs5,zs6]
    refine tkZ [] 3 rfl hS ?_;try simp only [Act.put,zs1,zs2,zs3,zs4,zs5,zs6]
    clear hS;refine rdZ 4 rfl (fun K hK=>?_)
    (go_simp;(with_reducible refine (impl_IsCore r n2 A2 es2 c2 _ _ _ (hr2.mid hm0 oZl) hl2 hcl2 true (iff_of_true rfl HC2.out)).mono ?_);rintro en w4 ⟨rfl,hm4⟩;replace b0:=b0.mid hm4 oZr;replace b1:=b1.mid hm4 oZr;replace hm0:=hm0.trans hm4;go_wp2_with fail)
    refine hK.out _ _ (Or.inr ⟨⟨b0.cell 0 rfl,b0.cell 1 rfl,b0.cell 2 rfl⟩,b1.cell 0 rfl,b1.cell 1 rfl,b1.cell 2 rfl⟩) (fun _=>?_);clear hK K;try simp only [Act.put,zs1,zs2,zs3,zs4,zs5,zs6]
    have hS:(w4.cell? ⟨w.heap.size,0,none⟩=some (.int .i64 r)∧w4.cell? ⟨w.heap.size,1,none⟩=some (.int .i64 n)∧w4.cell? ⟨w.heap.size,2,none⟩=some (.slice A es.length c))∧w4.cell? ⟨w.heap.size+1,0,none⟩=some (.int .i64 r)∧w4.cell? ⟨w.heap.size+1,1,none⟩=some (.int .i64 n2)∧w4.cell? ⟨w.heap.size+1,2,none⟩=some (.slice A2 es2.length c2):=⟨⟨b0.cell 0 rfl,b0.cell 1 rfl,b0.cell 2 rfl⟩,b1.cell 0 rfl,b1.cell 1 rfl,b1.cell 2 rfl⟩
    refine tkZ [] 5 rfl hS ?_;try simp only [Act.put,zs1,zs2,zs3,zs4,zs5,zs6]
    refine tkZ [] 6 rfl hS ?_;try simp only [Act.put,zs1,zs2,zs3,zs4,zs5,zs6]
    refine tkZ [] 7 rfl hS ?_;try simp only [Act.put,zs1,zs2,zs3,zs4,zs5,zs6]
    refine tkZ [] 8 rfl hS ?_;try simp only [Act.put,zs1,zs2,zs3,zs4,zs5,zs6]
    refine tkZ [] 9 rfl hS ?_;try simp only [Act.put,zs1,zs2,zs3,zs4,zs5,zs6]
    refine tkZ [] 10 rfl hS ?_;try simp only [Act.put,zs1,zs2,zs3,zs4,zs5,zs6]
    refine tkZ [] 11 rfl hS ?_;try simp only [Act.put,zs1,zs2,zs3,zs4,zs5,zs6]
    refine tkZ [] 12 rfl hS ?_;try simp only [Act.put,zs1,zs2,zs3,zs4,zs5,zs6]
    refine tkZ [] 13 rfl hS ?_;try simp only [Act.put,zs1,zs2,zs3,zs4,zs5,zs6]
    refine tkZ [] 14 rfl hS ?_;try simp only [Act.put,zs1,zs2,zs3,zs4,zs5,zs6]
    refine tkZ [] 15 rfl hS ?_;try simp only [Act.put,zs1,zs2,zs3,zs4,zs5,zs6]
    clear hS;refine rdZ 16 rfl (fun K hK=>?_)
    (go_simp;(with_reducible refine (impl_BasisA r n A es c _ _ _ (hr.mid hm0 oZl) hcl HC.out).mono ?_);rintro en w5 ⟨A1,c1,rfl,ho1,hm5⟩;replace b0:=b0.mid hm5 oZr;replace b1:=b1.mid hm5 oZr;replace hm0:=hm0.trans hm5;go_wp2_with fail)
    refine hK.out _ _ (Or.inr ⟨⟨b0.cell 0 rfl,b0.cell 1 rfl,b0.cell 2 rfl⟩,b1.cell 0 rfl,b1.cell 1 rfl,b1.cell 2 rfl⟩) (fun _=>?_);clear hK K;try simp only [Act.put,zs1,zs2,zs3,zs4,zs5,zs6]
    refine rdZ 17 rfl (fun K hK=>?_)
    (go_simp;(with_reducible refine (impl_ContainsAll r n2 A2 es2 c2 A1 (basA r es) c1 _ _ _ _ _ (hr2.mid hm0 oZl) (ho1.rss) hl2 hcl2 HBL.out HBO.out b HBB.out).mono ?_);rintro en w6 ⟨rfl,hm6⟩;replace b0:=b0.mid hm6 oZr;replace b1:=b1.mid hm6 oZr;replace hm0:=hm0.trans hm6;go_wp2_with fail)
    refine hK.out _ _ (Or.inr ⟨⟨b0.cell 0 rfl,b0.cell 1 rfl,b0.cell 2 rfl⟩,b1.cell 0 rfl,b1.cell 1 rfl,b1.cell 2 rfl⟩) (fun _=>?_);clear hK K;try simp only [Act.put,zs1,zs2,zs3,zs4,zs5,zs6]
    clear ho1;have hS:(w6.cell? ⟨w.heap.size,0,none⟩=some (.int .i64 r)∧w6.cell? ⟨w.heap.size,1,none⟩=some (.int .i64 n)∧w6.cell? ⟨w.heap.size,2,none⟩=some (.slice A es.length c))∧w6.cell? ⟨w.heap.size+1,0,none⟩=some (.int .i64 r)∧w6.cell? ⟨w.heap.size+1,1,none⟩=some (.int .i64 n2)∧w6.cell? ⟨w.heap.size+1,2,none⟩=some (.slice A2 es2.length c2):=⟨⟨b0.cell 0 rfl,b0.cell 1 rfl,b0.cell 2 rfl⟩,b1.cell 0 rfl,b1.cell 1 rfl,b1.cell 2 rfl⟩
    refine tkZ [] 18 rfl hS ?_;try simp only [Act.put,zs1,zs2,zs3,zs4,zs5,zs6]
    refine rdZ 19 rfl (fun K hK=>?_);go_simp;refine hK.out _ _ (Or.inr hS) (fun _=>?_);clear hK K;try simp only [Act.put,zs1,zs2,zs3,zs4,zs5,zs6]
    refine wpAnyZ_done (by kernel_rfl) ?_ _;clear hS;go_wp2_with fail;go_ret;exact ⟨rfl,hm0⟩
   ·obtain rfl:b=false:=bool_false HB.out (fun h=>he (by have:=h.2.2.1;omega))
    have HE:=Lib.hid (show ¬ ((r:Int)=r2) by omega);clear HB he;go_enter Tryz.func17,Tryz.ntmps17
    go_wp2_with fail;generalize (w1.alloc (.cells #[.int .i64 r2,.int .i64 n2,.slice A2 es2.length c2] 26))=w2 at hm0 b0 b1 ⊢;have hmd:=Mid.drew1 w2;replace b0:=b0.mid hmd oZr;replace b1:=b1.mid hmd oZr;replace hm0:=hm0.trans hmd;have p0:=b0.cell 0 rfl;have p1:=b0.cell 1 rfl;have p2:=b0.cell 2 rfl;have q0:=b1.cell 0 rfl;have q1:=b1.cell 1 rfl;have q2:=b1.cell 2 rfl;clear hmd hw1 hsz;refine wp_region_Z (S:=(fun w'=>(w'.cell? ⟨w.heap.size,0,none⟩=some (.int .i64 r)∧w'.cell? ⟨w.heap.size,1,none⟩=some (.int .i64 n)∧w'.cell? ⟨w.heap.size,2,none⟩=some (.slice A es.length c))∧w'.cell? ⟨w.heap.size+1,0,none⟩=some (.int .i64 r2)∧w'.cell? ⟨w.heap.size+1,1,none⟩=some (.int .i64 n2)∧w'.cell? ⟨w.heap.size+1,2,none⟩=some (.slice A2 es2.length c2))) [] (by kernel_rfl) ⟨⟨p0,p1,p2⟩,q0,q1,q2⟩ ?_;generalize World.drew w2=wz at b0 b1 hm0 p0 p1 p2 q0 q1 q2 ⊢;have hS:(wz.cell? ⟨w.heap.size,0,none⟩=some (.int .i64 r)∧wz.cell? ⟨w.heap.size,1,none⟩=some (.int .i64 n)∧wz.cell? ⟨w.heap.size,2,none⟩=some (.slice A es.length c))∧wz.cell? ⟨w.heap.size+1,0,none⟩=some (.int .i64 r2)∧wz.cell? ⟨w.heap.size+1,1,none⟩=some (.int .i64 n2)∧wz.cell? ⟨w.heap.size+1,2,none⟩=some (.slice A2 es2.length c2):=⟨⟨p0,p1,p2⟩,q0,q1,q2⟩
    refine tkZ [] 0 rfl hS ?_;try simp only [Act.put,zs1,zs2,zs3,zs4,zs5,zs6]
    clear hS p0 p1 p2 q0 q1 q2;refine rdZ 1 rfl (fun K hK=>?_)
    (go_simp;(with_reducible refine (impl_IsCore r n A es c _ _ _ (hr.mid hm0 oZl) hl hcl true (iff_of_true rfl HC.out)).mono ?_);rintro en w3 ⟨rfl,hm3⟩;replace b0:=b0.mid hm3 oZr;replace b1:=b1.mid hm3 oZr;replace hm0:=hm0.trans hm3;go_wp2_with fail)
    refine hK.out _ _ (Or.inr ⟨⟨b0.cell 0 rfl,b0.cell 1 rfl,b0.cell 2 rfl⟩,b1.cell 0 rfl,b1.cell 1 rfl,b1.cell 2 rfl⟩) (fun _=>?_);clear hK K;try simp only [Act.put,zs1,zs2,zs3,zs4,zs5,zs6]
    have hS:(w3.cell? ⟨w.heap.size,0,none⟩=some (.int .i64 r)∧w3.cell? ⟨w.heap.size,1,none⟩=some (.int .i64 n)∧w3.cell? ⟨w.heap.size,2,none⟩=some (.slice A es.length c))∧w3.cell? ⟨w.heap.size+1,0,none⟩=some (.int .i64 r2)∧w3.cell? ⟨w.heap.size+1,1,none⟩=some (.int .i64 n2)∧w3.cell? ⟨w.heap.size+1,2,none⟩=some (.slice A2 es2.length c2):=⟨⟨b0.cell 0 rfl,b0.cell 1 rfl,b0.cell 2 rfl⟩,b1.cell 0 rfl,b1.cell 1 rfl,b1.cell 2 rfl⟩
    refine tkZ [] 2 rfl hS ?_;try simp only [Act.put,zs1,zs2,zs3,zs4,zs5,zs6]
    refine tkZ [] 3 rfl hS ?_;try simp only [Act.put,zs1,zs2,zs3,zs4,zs5,zs6]
    clear hS;refine rdZ 4 rfl (fun K hK=>?_)
    (go_simp;(with_reducible refine (impl_IsCore r2 n2 A2 es2 c2 _ _ _ (hr2.mid hm0 oZl) hl2 hcl2 true (iff_of_true rfl HC2.out)).mono ?_);rintro en w4 ⟨rfl,hm4⟩;replace b0:=b0.mid hm4 oZr;replace b1:=b1.mid hm4 oZr;replace hm0:=hm0.trans hm4;go_wp2_with fail)
    refine hK.out _ _ (Or.inr ⟨⟨b0.cell 0 rfl,b0.cell 1 rfl,b0.cell 2 rfl⟩,b1.cell 0 rfl,b1.cell 1 rfl,b1.cell 2 rfl⟩) (fun _=>?_);clear hK K;try simp only [Act.put,zs1,zs2,zs3,zs4,zs5,zs6]
    have hS:(w4.cell? ⟨w.heap.size,0,none⟩=some (.int .i64 r)∧w4.cell? ⟨w.heap.size,1,none⟩=some (.int .i64 n)∧w4.cell? ⟨w.heap.size,2,none⟩=some (.slice A es.length c))∧w4.cell? ⟨w.heap.size+1,0,none⟩=some (.int .i64 r2)∧w4.cell? ⟨w.heap.size+1,1,none⟩=some (.int .i64 n2)∧w4.cell? ⟨w.heap.size+1,2,none⟩=some (.slice A2 es2.length c2):=⟨⟨b0.cell 0 rfl,b0.cell 1 rfl,b0.cell 2 rfl⟩,b1.cell 0 rfl,b1.cell 1 rfl,b1.cell 2 rfl⟩
    refine tkZ [] 5 rfl hS ?_;try simp only [Act.put,zs1,zs2,zs3,zs4,zs5,zs6]
    refine tkZ [] 6 rfl hS ?_;try simp only [Act.put,zs1,zs2,zs3,zs4,zs5,zs6]
    refine tkZ [] 7 rfl hS ?_;try simp only [Act.put,zs1,zs2,zs3,zs4,zs5,zs6]
    refine tkZ [] 8 rfl hS ?_;try simp only [Act.put,zs1,zs2,zs3,zs4,zs5,zs6]
    refine tkZ [] 9 rfl hS ?_;try simp only [Act.put,zs1,zs2,zs3,zs4,zs5,zs6]
    refine tkZ [] 10 rfl hS ?_;try simp only [Act.put,zs1,zs2,zs3,zs4,zs5,zs6]
    refine wpAnyZ_takeC [] (i:=11) (v:=.bool false) rfl (by kernel_rfl) (by kernel_rfl) (by kernel_rfl) (by kernel_rfl) (fun _ _ _ h=>h) (Or.inl ⟨by rfl,?_⟩) hS ?_;focus (intro w hSw;(try dsimp only at hSw);go_simp;have hE:=HE.out;first | rw [decide_eq_false hE] | rw [beq_false_of_ne hE] | simp [hE])
    try simp only [Act.put,zs1,zs2,zs3,zs4,zs5,zs6]
    refine tkZ [] 12 rfl hS ?_;try simp only [Act.put,zs1,zs2,zs3,zs4,zs5,zs6]
    refine tkZ [] 13 rfl hS ?_;try simp only [Act.put,zs1,zs2,zs3,zs4,zs5,zs6]
    refine wpAnyZ_takeC [] (i:=14) rfl (by kernel_rfl) (by kernel_rfl) (by kernel_rfl) (by kernel_rfl) (fun _ _ _ h=>h) (Or.inr ⟨by rfl,rfl⟩) hS ?_;try simp only [Act.put,zs1,zs2,zs3,zs4,zs5,zs6]
    refine wpAnyZ_takeC [] (i:=15) rfl (by kernel_rfl) (by kernel_rfl) (by kernel_rfl) (by kernel_rfl) (fun _ _ _ h=>h) (Or.inr ⟨by rfl,rfl⟩) hS ?_;try simp only [Act.put,zs1,zs2,zs3,zs4,zs5,zs6]
    refine rdZ 16 rfl (fun K hK=>?_);go_simp;refine hK.out _ _ (Or.inr hS) (fun _=>?_);clear hK K;try simp only [Act.put,zs1,zs2,zs3,zs4,zs5,zs6]
    refine rdZ 17 rfl (fun K hK=>?_);go_simp;refine hK.out _ _ (Or.inr hS) (fun _=>?_);clear hK K;try simp only [Act.put,zs1,zs2,zs3,zs4,zs5,zs6]
    refine tkZ [] 18 rfl hS ?_;try simp only [Act.put,zs1,zs2,zs3,zs4,zs5,zs6]
    refine rdZ 19 rfl (fun K hK=>?_);go_simp;refine hK.out _ _ (Or.inr hS) (fun _=>?_);clear hK K;try simp only [Act.put,zs1,zs2,zs3,zs4,zs5,zs6]
    refine wpAnyZ_done (by kernel_rfl) ?_ _;clear hS;go_wp2_with fail;go_ret;exact ⟨rfl,hm0⟩
  ·obtain rfl:b=false:=bool_false HB.out (fun h=>h2 h.2.1)
   have HN2:=Lib.hid h2;clear HB h2;go_enter Tryz.func17,Tryz.ntmps17
   go_wp2_with fail;generalize (w1.alloc (.cells #[.int .i64 r2,.int .i64 s2,.slice A2 es2.length c2] 26))=w2 at hm0 b0 b1 ⊢;have hmd:=Mid.drew1 w2;replace b0:=b0.mid hmd oZr;replace b1:=b1.mid hmd oZr;replace hm0:=hm0.trans hmd;have p0:=b0.cell 0 rfl;have p1:=b0.cell 1 rfl;have p2:=b0.cell 2 rfl;have q0:=b1.cell 0 rfl;have q1:=b1.cell 1 rfl;have q2:=b1.cell 2 rfl;clear hmd hw1 hsz;refine wp_region_Z (S:=(fun w'=>(w'.cell? ⟨w.heap.size,0,none⟩=some (.int .i64 r)∧w'.cell? ⟨w.heap.size,1,none⟩=some (.int .i64 n)∧w'.cell? ⟨w.heap.size,2,none⟩=some (.slice A es.length c))∧w'.cell? ⟨w.heap.size+1,0,none⟩=some (.int .i64 r2)∧w'.cell? ⟨w.heap.size+1,1,none⟩=some (.int .i64 s2)∧w'.cell? ⟨w.heap.size+1,2,none⟩=some (.slice A2 es2.length c2))) [] (by kernel_rfl) ⟨⟨p0,p1,p2⟩,q0,q1,q2⟩ ?_;generalize World.drew w2=wz at b0 b1 hm0 p0 p1 p2 q0 q1 q2 ⊢;have hS:(wz.cell? ⟨w.heap.size,0,none⟩=some (.int .i64 r)∧wz.cell? ⟨w.heap.size,1,none⟩=some (.int .i64 n)∧wz.cell? ⟨w.heap.size,2,none⟩=some (.slice A es.length c))∧wz.cell? ⟨w.heap.size+1,0,none⟩=some (.int .i64 r2)∧wz.cell? ⟨w.heap.size+1,1,none⟩=some (.int .i64 s2)∧wz.cell? ⟨w.heap.size+1,2,none⟩=some (.slice A2 es2.length c2):=⟨⟨p0,p1,p2⟩,q0,q1,q2⟩
   refine tkZ [] 0 rfl hS ?_;try simp only [Act.put,zs1,zs2,zs3,zs4,zs5,zs6]
   clear hS p0 p1 p2 q0 q1 q2;refine rdZ 1 rfl (fun K hK=>?_)
   (go_simp;(with_reducible refine (impl_IsCore r n A es c _ _ _ (hr.mid hm0 oZl) hl hcl true (iff_of_true rfl HC.out)).mono ?_);rintro en w3 ⟨rfl,hm3⟩;replace b0:=b0.mid hm3 oZr;replace b1:=b1.mid hm3 oZr;replace hm0:=hm0.trans hm3;go_wp2_with fail)
   refine hK.out _ _ (Or.inr ⟨⟨b0.cell 0 rfl,b0.cell 1 rfl,b0.cell 2 rfl⟩,b1.cell 0 rfl,b1.cell 1 rfl,b1.cell 2 rfl⟩) (fun _=>?_);clear hK K;try simp only [Act.put,zs1,zs2,zs3,zs4,zs5,zs6]
   have hS:(w3.cell? ⟨w.heap.size,0,none⟩=some (.int .i64 r)∧w3.cell? ⟨w.heap.size,1,none⟩=some (.int .i64 n)∧w3.cell? ⟨w.heap.size,2,none⟩=some (.slice A es.length c))∧w3.cell? ⟨w.heap.size+1,0,none⟩=some (.int .i64 r2)∧w3.cell? ⟨w.heap.size+1,1,none⟩=some (.int .i64 s2)∧w3.cell? ⟨w.heap.size+1,2,none⟩=some (.slice A2 es2.length c2):=⟨⟨b0.cell 0 rfl,b0.cell 1 rfl,b0.cell 2 rfl⟩,b1.cell 0 rfl,b1.cell 1 rfl,b1.cell 2 rfl⟩
   refine tkZ [] 2 rfl hS ?_;try simp only [Act.put,zs1,zs2,zs3,zs4,zs5,zs6]
   refine tkZ [] 3 rfl hS ?_;try simp only [Act.put,zs1,zs2,zs3,zs4,zs5,zs6]
   clear hS;refine rdZ 4 rfl (fun K hK=>?_)
   (go_simp;(with_reducible refine (impl_IsCore r2 s2 A2 es2 c2 _ _ _ (hr2.mid hm0 oZl) hl2 hcl2 false (iff_of_false (by simp) HN2.out)).mono ?_);rintro en w4 ⟨rfl,hm4⟩;replace b0:=b0.mid hm4 oZr;replace b1:=b1.mid hm4 oZr;replace hm0:=hm0.trans hm4;go_wp2_with fail)
   refine hK.out _ _ (Or.inr ⟨⟨b0.cell 0 rfl,b0.cell 1 rfl,b0.cell 2 rfl⟩,b1.cell 0 rfl,b1.cell 1 rfl,b1.cell 2 rfl⟩) (fun _=>?_);clear hK K;try simp only [Act.put,zs1,zs2,zs3,zs4,zs5,zs6]
   have hS:(w4.cell? ⟨w.heap.size,0,none⟩=some (.int .i64 r)∧w4.cell? ⟨w.heap.size,1,none⟩=some (.int .i64 n)∧w4.cell? ⟨w.heap.size,2,none⟩=some (.slice A es.length c))∧w4.cell? ⟨w.heap.size+1,0,none⟩=some (.int .i64 r2)∧w4.cell? ⟨w.heap.size+1,1,none⟩=some (.int .i64 s2)∧w4.cell? ⟨w.heap.size+1,2,none⟩=some (.slice A2 es2.length c2):=⟨⟨b0.cell 0 rfl,b0.cell 1 rfl,b0.cell 2 rfl⟩,b1.cell 0 rfl,b1.cell 1 rfl,b1.cell 2 rfl⟩
   refine tkZ [] 5 rfl hS ?_;try simp only [Act.put,zs1,zs2,zs3,zs4,zs5,zs6]
   refine tkZ [] 6 rfl hS ?_;try simp only [Act.put,zs1,zs2,zs3,zs4,zs5,zs6]
   refine wpAnyZ_takeC [] (i:=7) rfl (by kernel_rfl) (by kernel_rfl) (by kernel_rfl) (by kernel_rfl) (fun _ _ _ h=>h) (Or.inr ⟨by rfl,rfl⟩) hS ?_;try simp only [Act.put,zs1,zs2,zs3,zs4,zs5,zs6]
   refine wpAnyZ_takeC [] (i:=8) rfl (by kernel_rfl) (by kernel_rfl) (by kernel_rfl) (by kernel_rfl) (fun _ _ _ h=>h) (Or.inr ⟨by rfl,rfl⟩) hS ?_;try simp only [Act.put,zs1,zs2,zs3,zs4,zs5,zs6]
   refine wpAnyZ_takeC [] (i:=9) rfl (by kernel_rfl) (by kernel_rfl) (by kernel_rfl) (by kernel_rfl) (fun _ _ _ h=>h) (Or.inr ⟨by rfl,rfl⟩) hS ?_;try simp only [Act.put,zs1,zs2,zs3,zs4,zs5,zs6]
   refine wpAnyZ_takeC [] (i:=10) rfl (by kernel_rfl) (by kernel_rfl) (by kernel_rfl) (by kernel_rfl) (fun _ _ _ h=>h) (Or.inr ⟨by rfl,rfl⟩) hS ?_;try simp only [Act.put,zs1,zs2,zs3,zs4,zs5,zs6]
   refine wpAnyZ_takeC [] (i:=11) rfl (by kernel_rfl) (by kernel_rfl) (by kernel_rfl) (by kernel_rfl) (fun _ _ _ h=>h) (Or.inr ⟨by rfl,rfl⟩) hS ?_;try simp only [Act.put,zs1,zs2,zs3,zs4,zs5,zs6]
   refine tkZ [] 12 rfl hS ?_;try simp only [Act.put,zs1,zs2,zs3,zs4,zs5,zs6]
   refine tkZ [] 13 rfl hS ?_;try simp only [Act.put,zs1,zs2,zs3,zs4,zs5,zs6]
   refine wpAnyZ_takeC [] (i:=14) rfl (by kernel_rfl) (by kernel_rfl) (by kernel_rfl) (by kernel_rfl) (fun _ _ _ h=>h) (Or.inr ⟨by rfl,rfl⟩) hS ?_;try simp only [Act.put,zs1,zs2,zs3,zs4,zs5,zs6]
   refine wpAnyZ_takeC [] (i:=15) rfl (by kernel_rfl) (by kernel_rfl) (by kernel_rfl) (by kernel_rfl) (fun _ _ _ h=>h) (Or.inr ⟨by rfl,rfl⟩) hS ?_;try simp only [Act.put,zs1,zs2,zs3,zs4,zs5,zs6]
   refine rdZ 16 rfl (fun K hK=>?_);go_simp;refine hK.out _ _ (Or.inr hS) (fun _=>?_);clear hK K;try simp only [Act.put,zs1,zs2,zs3,zs4,zs5,zs6]
   refine rdZ 17 rfl (fun K hK=>?_);go_simp;refine hK.out _ _ (Or.inr hS) (fun _=>?_);clear hK K;try simp only [Act.put,zs1,zs2,zs3,zs4,zs5,zs6]
   refine tkZ [] 18 rfl hS ?_;try simp only [Act.put,zs1,zs2,zs3,zs4,zs5,zs6]
   refine rdZ 19 rfl (fun K hK=>?_);go_simp;refine hK.out _ _ (Or.inr hS) (fun _=>?_);clear hK K;try simp only [Act.put,zs1,zs2,zs3,zs4,zs5,zs6]
   refine wpAnyZ_done (by kernel_rfl) ?_ _;clear hS;go_wp2_with fail;go_ret;exact ⟨rfl,hm0⟩
 ·obtain rfl:b=false:=bool_false HB.out (fun h2=>h h2.1)
  have HN:=Lib.hid h;clear HB h;go_enter Tryz.func17,Tryz.ntmps17
  go_wp2_with fail;generalize (w1.alloc (.cells #[.int .i64 r2,.int .i64 s2,.slice A2 es2.length c2] 26))=w2 at hm0 b0 b1 ⊢;have hmd:=Mid.drew1 w2;replace b0:=b0.mid hmd oZr;replace b1:=b1.mid hmd oZr;replace hm0:=hm0.trans hmd;have p0:=b0.cell 0 rfl;have p1:=b0.cell 1 rfl;have p2:=b0.cell 2 rfl;have q0:=b1.cell 0 rfl;have q1:=b1.cell 1 rfl;have q2:=b1.cell 2 rfl;clear hmd hw1 hsz;refine wp_region_Z (S:=(fun w'=>(w'.cell? ⟨w.heap.size,0,none⟩=some (.int .i64 r)∧w'.cell? ⟨w.heap.size,1,none⟩=some (.int .i64 s)∧w'.cell? ⟨w.heap.size,2,none⟩=some (.slice A es.length c))∧w'.cell? ⟨w.heap.size+1,0,none⟩=some (.int .i64 r2)∧w'.cell? ⟨w.heap.size+1,1,none⟩=some (.int .i64 s2)∧w'.cell? ⟨w.heap.size+1,2,none⟩=some (.slice A2 es2.length c2))) [] (by kernel_rfl) ⟨⟨p0,p1,p2⟩,q0,q1,q2⟩ ?_;generalize World.drew w2=wz at b0 b1 hm0 p0 p1 p2 q0 q1 q2 ⊢;have hS:(wz.cell? ⟨w.heap.size,0,none⟩=some (.int .i64 r)∧wz.cell? ⟨w.heap.size,1,none⟩=some (.int .i64 s)∧wz.cell? ⟨w.heap.size,2,none⟩=some (.slice A es.length c))∧wz.cell? ⟨w.heap.size+1,0,none⟩=some (.int .i64 r2)∧wz.cell? ⟨w.heap.size+1,1,none⟩=some (.int .i64 s2)∧wz.cell? ⟨w.heap.size+1,2,none⟩=some (.slice A2 es2.length c2):=⟨⟨p0,p1,p2⟩,q0,q1,q2⟩
  refine tkZ [] 0 rfl hS ?_;try simp only [Act.put,zs1,zs2,zs3,zs4,zs5,zs6]
  clear hS p0 p1 p2 q0 q1 q2;refine rdZ 1 rfl (fun K hK=>?_)
  (go_simp;(with_reducible refine (impl_IsCore r s A es c _ _ _ (hr.mid hm0 oZl) hl hcl false (iff_of_false (by simp) HN.out)).mono ?_);rintro en w3 ⟨rfl,hm3⟩;replace b0:=b0.mid hm3 oZr;replace b1:=b1.mid hm3 oZr;replace hm0:=hm0.trans hm3;go_wp2_with fail)
  refine hK.out _ _ (Or.inr ⟨⟨b0.cell 0 rfl,b0.cell 1 rfl,b0.cell 2 rfl⟩,b1.cell 0 rfl,b1.cell 1 rfl,b1.cell 2 rfl⟩) (fun _=>?_);clear hK K;try simp only [Act.put,zs1,zs2,zs3,zs4,zs5,zs6]
  have hS:(w3.cell? ⟨w.heap.size,0,none⟩=some (.int .i64 r)∧w3.cell? ⟨w.heap.size,1,none⟩=some (.int .i64 s)∧w3.cell? ⟨w.heap.size,2,none⟩=some (.slice A es.length c))∧w3.cell? ⟨w.heap.size+1,0,none⟩=some (.int .i64 r2)∧w3.cell? ⟨w.heap.size+1,1,none⟩=some (.int .i64 s2)∧w3.cell? ⟨w.heap.size+1,2,none⟩=some (.slice A2 es2.length c2):=⟨⟨b0.cell 0 rfl,b0.cell 1 rfl,b0.cell 2 rfl⟩,b1.cell 0 rfl,b1.cell 1 rfl,b1.cell 2 rfl⟩
  refine tkZ [] 2 rfl hS ?_;try simp only [Act.put,zs1,zs2,zs3,zs4,zs5,zs6]
  refine wpAnyZ_takeC [] (i:=3) rfl (by kernel_rfl) (by kernel_rfl) (by kernel_rfl) (by kernel_rfl) (fun _ _ _ h=>h) (Or.inr ⟨by rfl,rfl⟩) hS ?_;try simp only [Act.put,zs1,zs2,zs3,zs4,zs5,zs6]
  refine rdZ 4 rfl (fun K hK=>?_);go_simp;refine hK.out _ _ (Or.inr hS) (fun _=>?_);clear hK K;try simp only [Act.put,zs1,zs2,zs3,zs4,zs5,zs6]
  refine tkZ [] 5 rfl hS ?_;try simp only [Act.put,zs1,zs2,zs3,zs4,zs5,zs6]
  refine tkZ [] 6 rfl hS ?_;try simp only [Act.put,zs1,zs2,zs3,zs4,zs5,zs6]
  refine wpAnyZ_takeC [] (i:=7) rfl (by kernel_rfl) (by kernel_rfl) (by kernel_rfl) (by kernel_rfl) (fun _ _ _ h=>h) (Or.inr ⟨by rfl,rfl⟩) hS ?_;try simp only [Act.put,zs1,zs2,zs3,zs4,zs5,zs6]
  refine wpAnyZ_takeC [] (i:=8) rfl (by kernel_rfl) (by kernel_rfl) (by kernel_rfl) (by kernel_rfl) (fun _ _ _ h=>h) (Or.inr ⟨by rfl,rfl⟩) hS ?_;try simp only [Act.put,zs1,zs2,zs3,zs4,zs5,zs6]
  refine wpAnyZ_takeC [] (i:=9) rfl (by kernel_rfl) (by kernel_rfl) (by kernel_rfl) (by kernel_rfl) (fun _ _ _ h=>h) (Or.inr ⟨by rfl,rfl⟩) hS ?_;try simp only [Act.put,zs1,zs2,zs3,zs4,zs5,zs6]
  refine wpAnyZ_takeC [] (i:=10) rfl (by kernel_rfl) (by kernel_rfl) (by kernel_rfl) (by kernel_rfl) (fun _ _ _ h=>h) (Or.inr ⟨by rfl,rfl⟩) hS ?_;try simp only [Act.put,zs1,zs2,zs3,zs4,zs5,zs6]
  refine wpAnyZ_takeC [] (i:=11) rfl (by kernel_rfl) (by kernel_rfl) (by kernel_rfl) (by kernel_rfl) (fun _ _ _ h=>h) (Or.inr ⟨by rfl,rfl⟩) hS ?_;try simp only [Act.put,zs1,zs2,zs3,zs4,zs5,zs6]
  refine tkZ [] 12 rfl hS ?_;try simp only [Act.put,zs1,zs2,zs3,zs4,zs5,zs6]
  refine tkZ [] 13 rfl hS ?_;try simp only [Act.put,zs1,zs2,zs3,zs4,zs5,zs6]
  refine wpAnyZ_takeC [] (i:=14) rfl (by kernel_rfl) (by kernel_rfl) (by kernel_rfl) (by kernel_rfl) (fun _ _ _ h=>h) (Or.inr ⟨by rfl,rfl⟩) hS ?_;try simp only [Act.put,zs1,zs2,zs3,zs4,zs5,zs6]
  refine wpAnyZ_takeC [] (i:=15) rfl (by kernel_rfl) (by kernel_rfl) (by kernel_rfl) (by kernel_rfl) (fun _ _ _ h=>h) (Or.inr ⟨by rfl,rfl⟩) hS ?_;try simp only [Act.put,zs1,zs2,zs3,zs4,zs5,zs6]
  refine rdZ 16 rfl (fun K hK=>?_);go_simp;refine hK.out _ _ (Or.inr hS) (fun _=>?_);clear hK K;try simp only [Act.put,zs1,zs2,zs3,zs4,zs5,zs6]
  refine rdZ 17 rfl (fun K hK=>?_);go_simp;refine hK.out _ _ (Or.inr hS) (fun _=>?_);clear hK K;try simp only [Act.put,zs1,zs2,zs3,zs4,zs5,zs6]
  refine tkZ [] 18 rfl hS ?_;try simp only [Act.put,zs1,zs2,zs3,zs4,zs5,zs6]
  refine rdZ 19 rfl (fun K hK=>?_);go_simp;refine hK.out _ _ (Or.inr hS) (fun _=>?_);clear hK K;try simp only [Act.put,zs1,zs2,zs3,zs4,zs5,zs6]
  refine wpAnyZ_done (by kernel_rfl) ?_ _;clear hS;go_wp2_with fail;go_ret;exact ⟨rfl,hm0⟩
end
section
open Go.RowKit
theorem impl_IsInsideI (r s:Int) (A:Option Addr) (es:List Ed) (c:Nat) (r2 s2:Int) (A2:Option Addr) (es2:List Ed) (c2:Nat) (w:World) (lo hi lo' hi':Nat) (hr:RG w lo hi A es) (hr2:RG w lo' hi' A2 es2) (hl:es.length≤1048576) (hcl:es.length≤c) (hl2:es2.length≤1048576) (hcl2:es2.length≤c2) (b:Bool)
  (hb:b=true↔Inside r s es r2 s2 es2) :
  Calls Tryz.prog 17 #[graV r s A es.length c,graV r2 s2 A2 es2.length c2] w fun e w'=>e=.returned (.bool b)∧Mid 0 0 w w' :=
 impl_IsInside r s A es c r2 s2 A2 es2 c2 w lo hi lo' hi' hr hr2 hl hcl hl2 hcl2 b hb
end
section
open Go.ChangeShapes Go.WideShapes Go.ChangeAt Go.RowKit
open Go.Joins
theorem undSU:Tryz.prog.underlying 22=some (.slice 5):=by kernel_rfl
theorem undU:Tryz.prog.underlying 5=some (.int .u8):=by kernel_rfl
theorem cellsU:Tryz.prog.cellsOf 5=1:=by kernel_rfl
section
variable {H:Type} {enc:TypeId × Value→H} {P:Program} {W:World} {T E:TypeId}
theorem byts_of_cells (uT:P.underlying T=some (.slice E)) (uE:P.underlying E=some (.int .u8)) (cE:P.cellsOf E=1) {fuel:Nat} {A:Option Addr} {len c:Nat} {x:DataW H × List MemPlace}
  (h:DataW.trod enc P W 0 (fun _=>true) true fuel T [.slice A len c]=some x):∃ xs:List Int,len=xs.length∧RV W 0 W.heap.size A (byts xs)∧OkB xs∧xs.length≤9223372036854775807:=by
 rcases open_ints uT uE cE h with ⟨hcs,_⟩ | ⟨a,l,cc,zs,hcs,_,hl,hm,hz,_,hcell,hwz⟩
 ·simp at hcs
  obtain ⟨rfl,rfl,rfl⟩:=hcs;exact ⟨[],rfl,⟨Nat.le_refl _,fun hn=>absurd rfl hn⟩,fun x hx=>by simp at hx,by simp⟩
 ·simp at hcs
  obtain ⟨rfl,rfl,rfl⟩:=hcs;simp at hz;refine ⟨zs.take len,by simp;omega,⟨Nat.le_refl _,fun hn=>?_⟩,fun x hx=>bounds_u8 (hwz x (List.mem_of_mem_take hx)),by unfold maxLen at hm;simp;omega⟩;have hp:0 < zs.length:=by
   rcases Nat.eq_zero_or_pos zs.length with h0 | h0
   ·have:=List.eq_nil_of_length_eq_zero h0
    subst this;simp [byts] at hn
   ·exact h0
  obtain ⟨b,off,rfl,hc⟩:=ints_at hcell hp;refine ⟨b,off,rfl,Nat.zero_le _,World.block_lt_of_cell? _ _ (hc 0 hp),fun j u hu=>?_⟩;have hj:j < zs.length:=by
   have:=(List.getElem?_eq_some_iff.1 hu).1;simp [byts] at this;omega
  rw [hc j hj];unfold byts at hu;rw [List.getElem?_map,List.getElem?_take] at hu;split at hu
  ·rw [List.getElem?_eq_getElem hj] at hu
   simp at hu;rw [← hu];simp [List.getD,List.getElem?_eq_getElem hj]
  ·simp at hu
theorem open_byteS (uT:P.underlying T=some (.slice E)) (uE:P.underlying E=some (.int .u8)) (cE:P.cellsOf E=1) {r:Reach} {base:Nat} {v:Value} {d:DataW H} {ps:List MemPlace}
  (hok:Value.okWide P W r base T v) (h:DataW.Trod enc P W 0 (fun _=>true) true T v d ps):∃ A xs c,v=.slice A (List.length xs) c∧RV W 0 W.heap.size A (byts xs)∧OkB xs∧xs.length≤9223372036854775807:=by
 obtain ⟨A,len,c,rfl⟩:=okWide_slice uT hok;obtain ⟨fuel,hf⟩:=h;obtain ⟨xs,rfl,h1,h2⟩:=byts_of_cells (A:=A) (len:=len) (c:=c) uT uE cE (by simpa [Value.cells] using hf);exact ⟨A,xs,c,rfl,h1,h2⟩
end
end
end Go.Proofs.YthampgpcajmopaaGreat
