/- Contracts and lemmas of this seat, many texts in one: see the words ahead of each. No condition beyond those typed in each lemma. -/
import Derived.Test.YthampgpcajmopaaGreatAc3
import Derived.Test.YthampgpcajmopaaGreatAc1
import Derived.Test.YthampgpcajmopaaGreatAc2

namespace Go.Proofs.YthampgpcajmopaaGreat
set_option linter.unusedVariables false
set_option linter.unusedSimpArgs false
set_option maxHeartbeats 40000000
set_option maxRecDepth 100000
section
open Go.RowKit
theorem impl_CanonicalOrder (r n:Nat) (A:Option Addr) (es:List Ed) (c:Nat) (w:World) (lo hi:Nat) (hr:RG w lo hi A es) (hcl:es.length≤c) (hf:IsFol r n es) :
  Calls Tryz.prog 203 #[graV r n A es.length c] w fun e w'=>∃ A1 c1,e=.returned (.slice A1 (ordE r es 0).length c1)∧RV w' 0 w'.heap.size A1 (ints (ordE r es 0))∧Mid 0 0 w w':=by
 have hl:=hf.gr.len;have hn1:0 < n:=by have:=hf.gr.size;omega
 have hm0:Mid 0 0 w (w.alloc (.cells #[.int .i64 r,.int .i64 n,.slice A es.length c] 26)):=Mid.alloc _ _;have B0:=Box.new w #[.int .i64 r,.int .i64 n,.slice A es.length c] 26;have HF:=Lib.hid hf;clear hf;go_enter Tryz.func203,Tryz.ntmps203
 go_wp2_with fail;with_reducible refine (impl_IsFolded r n A es c _ _ _ (hr.mid hm0 oZl) (by omega) hcl true (iff_of_true rfl HF.out)).mono ?_
 rintro en w1 ⟨rfl,hm1⟩;replace B0:=B0.mid hm1 oZr;replace hm0:=hm0.trans hm1;have p0:=B0.cell 0 rfl;have p1:=B0.cell 1 rfl;have p2:=B0.cell 2 rfl;have hT:=impl_tree r n 0 A es c w1 lo hi (hr.mid hm0 oZl) HF.out.gr hn1;have h00:((0:Nat):Int)=0:=rfl;rw [h00] at hT;go_wp2_with fail;with_reducible refine (hT).mono ?_
 rintro en w2 ⟨A1,c1,rfl,hm2,hord, -⟩;have hx:=(owns_rv hord).wide (Nat.zero_le _) (Nat.le_refl _) (Nat.le_refl _);go_wp2_with fail;go_ret;exact ⟨A1,c1,rfl,hx,hm0.trans hm2⟩
theorem canonG_fol {r n:Nat} {es:List Ed} (h:IsFol r n es):canonG r ((n:Int),es)=(((ordE r es 0).length:Int),partE (ordE r es 0) es):=if_pos h
theorem canonG_no {r s:Int} {es:List Ed} (h:¬ IsFol r s es):canonG r (s,es)=(s,es):=if_neg h
theorem ordE_ok {r n:Nat} {es:List Ed} (h:IsFol r n es):0 < (ordE r es 0).length∧(ordE r es 0).Nodup∧∀ x∈ordE r es 0,0≤x∧x < (n:Int):=by
 have hs:=h.gr.size;obtain ⟨h1, -,h2,h3⟩:=ordE_len h.gr (v:=0) (Int.le_refl _) (by omega);exact ⟨h1,h2,h3⟩
theorem impl_CanonicalGraph (r n:Nat) (A:Option Addr) (es:List Ed) (c:Nat) (w:World) (lo hi:Nat) (hr:RG w lo hi A es) (hcl:es.length≤c) (hg:IsGr r n es) :
  Calls Tryz.prog 164 #[graV r n A es.length c] w fun e w'=>∃ A1 c1,e=.returned (graV r (canonG r ((n:Int),es)).1 A1 (canonG r ((n:Int),es)).2.length c1)∧OG w' w.heap.size w'.heap.size A1 c1 (canonG r ((n:Int),es)).2∧Mid 0 0 w w':=by
 have hl:=hg.len;have hm0:Mid 0 0 w ((w.alloc (.cells #[.int .i64 r,.int .i64 n,.slice A es.length c] 26)).alloc (.cells #[.int .i64 0,.int .i64 0,.slice none 0 0] 26)):=(Mid.alloc _ _).trans (Mid.alloc _ _);have b0:=(Box.new w #[.int .i64 r,.int .i64 n,.slice A es.length c] 26).mid (Mid.alloc _ (.cells #[.int .i64 0,.int .i64 0,.slice none 0 0] 26)) oZr;have b2:=Box.new (w.alloc (.cells #[.int .i64 r,.int .i64 n,.slice A es.length c] 26)) #[.int .i64 0,.int .i64 0,.slice none 0 0] 26;simp only [World.size_alloc] at b2;have HG:=Lib.hid hg;clear hg;by_cases hf:IsFol r n es
 ·rw [canonG_fol hf]
  have HF:=Lib.hid hf;clear hf;go_enter Tryz.func164,Tryz.ntmps164
  go_wp2_with fail;with_reducible refine (impl_IsFolded r n A es c _ _ _ (hr.mid hm0 oZl) (by omega) hcl true (iff_of_true rfl HF.out)).mono ?_
  rintro en w1 ⟨rfl,hm1⟩;replace b0:=b0.mid hm1 oZr;replace b2:=b2.mid hm1 oZr;replace hm0:=hm0.trans hm1;go_wp2_with fail;have hmd:=Mid.drew1 w1;replace b0:=b0.mid hmd oZr;replace b2:=b2.mid hmd oZr;replace hm0:=hm0.trans hmd;have p0:=b0.cell 0 rfl;have p1:=b0.cell 1 rfl;have p2:=b0.cell 2 rfl;refine wp_region_T (S:=(fun w'=>w'.cell? ⟨w.heap.size,0,none⟩=some (.int .i64 r)∧w'.cell? ⟨w.heap.size,1,none⟩=some (.int .i64 n)∧w'.cell? ⟨w.heap.size,2,none⟩=some (.slice A es.length c))) 4 (by kernel_rfl) ⟨p0,p1,p2⟩ ?_;generalize World.drew w1=wz at b0 b2 hm0 p0 p1 p2 ⊢;have hS:wz.cell? ⟨w.heap.size,0,none⟩=some (.int .i64 r)∧wz.cell? ⟨w.heap.size,1,none⟩=some (.int .i64 n)∧wz.cell? ⟨w.heap.size,2,none⟩=some (.slice A es.length c):=⟨p0,p1,p2⟩
  refine tkT 0 rfl hS ?_;try simp only [Act.put,zs1,zs2,zs3,zs4,zs5,zs6]
  refine tkT 1 rfl hS ?_;try simp only [Act.put,zs1,zs2,zs3,zs4,zs5,zs6]
  have hQ:=impl_CanonicalOrder r n A es c wz lo hi (hr.mid hm0 oZl) hcl HF.out;refine rdT 2 rfl (fun K hK=>?_)
  (go_simp;refine hQ.mono ?_;rintro en w2 ⟨A2,c2,rfl,hord,hm2⟩;have b0':=b0.mid hm2 oZr;have b2':=b2.mid hm2 oZr;go_wp2_with fail)
  refine hK.out _ _ (Or.inr ⟨b0'.cell 0 rfl,b0'.cell 1 rfl,b0'.cell 2 rfl⟩) (fun _=>?_);clear hK K;try simp only [Act.put,zs1,zs2,zs3,zs4,zs5,zs6]
  replace hm0:=hm0.trans hm2;obtain ⟨ho1,ho2,ho3⟩:=ordE_ok HF.out;have hR:=impl_part r n A es c A2 (ordE r es 0) c2 w2 lo hi _ _ (hr.mid hm0 oZl) hord HG.out ho2 ho3;have HR:=Lib.hid hR;clear hS hQ b0 b2 hm2 p0 p1 p2 hR ho1 ho2 ho3;refine rdT 3 rfl (fun K hK=>?_)
  (go_simp;refine HR.out.mono ?_;rintro en w3 ⟨A3,c3,rfl,hog,hm3⟩;have b0:=b0'.mid hm3 oZr;have b2:=b2'.mid hm3 oZr;go_wp2_with fail)
  refine hK.out _ _ (Or.inr ⟨b0.cell 0 rfl,b0.cell 1 rfl,b0.cell 2 rfl⟩) (fun _=>?_);clear hK K;try simp only [Act.put,zs1,zs2,zs3,zs4,zs5,zs6]
  have hsz2:=hm0.size;have hb2s:=b2'.1;replace hm0:=hm0.trans hm3;have z0:=b2.cell 0 rfl;have z1:=b2.cell 1 rfl;have z2:=b2.cell 2 rfl;have zf:=b2.2.2;clear b0' b2' hm3 HR hord;refine rdT 4 rfl (fun K hK=>?_)
  (go_simp)
  refine hK.out _ _ (Or.inl rfl) (fun _=>?_);clear hK K;try simp only [Act.put,zs1,zs2,zs3,zs4,zs5,zs6]
  refine wpAnyT_done (by kernel_rfl) ?_ _;go_wp2_with fail;refine bodyPost_ret (v:=.agg #[.int .i64 r,.int .i64 (ordE r es 0).length,.slice A3 (partE (ordE r es 0) es).length c3]) (by simp [results,Tryz.results164,go_sem,z0,z1,z2,zf]) rfl ⟨A3,c3,rfl,?_,?_⟩
  ·refine OG.wide (OG.mid hog (a:=w.heap.size+1) (b:=w.heap.size+2) ?_ (Or.inl (by omega))) (by omega) (by simp) (Nat.le_refl _)
   repeat (first | exact Mid.refl _ _ _ | refine Mid.stored ?_ _ (by simp;try omega) (by simp;try omega))
  ·repeat (first | exact hm0 | refine Mid.storeNew ?_ (by simp;try omega) _)
 ·rw [canonG_no hf]
  have HF:=Lib.hid hf;clear hf;go_enter Tryz.func164,Tryz.ntmps164
  go_wp2_with fail;with_reducible refine (impl_IsFolded r n A es c _ _ _ (hr.mid hm0 oZl) (by omega) hcl false (iff_of_false Bool.false_ne_true HF.out)).mono ?_
  rintro en w1 ⟨rfl,hm1⟩;have hsz1:w.heap.size+2≤w1.heap.size:=by have:=hm1.size;simpa using this
  replace b0:=b0.mid hm1 oZr;replace b2:=b2.mid hm1 oZr;replace hm0:=hm0.trans hm1;have p0:=b0.cell 0 rfl;have p1:=b0.cell 1 rfl;have p2:=b0.cell 2 rfl;go_wp2_with fail;with_reducible refine (impl_copyGraph r n A es c _ _ _ (hr.mid hm0 oZl) (by omega)).mono ?_
  rintro en w2 ⟨A2,c2,rfl,hog,hm2⟩;have hsz2:=hm0.size;replace b2:=b2.mid hm2 oZr;replace hm0:=hm0.trans hm2;have z0:=b2.cell 0 rfl;have z1:=b2.cell 1 rfl;have z2:=b2.cell 2 rfl;have zf:=b2.2.2;clear p0 p1 p2;go_wp2_with fail;refine bodyPost_ret (v:=.agg #[.int .i64 r,.int .i64 n,.slice A2 es.length c2]) (by simp [results,Tryz.results164,go_sem,z0,z1,z2,zf]) rfl ⟨A2,c2,rfl,?_,?_⟩
  ·refine OG.wide (OG.mid hog (a:=w.heap.size+1) (b:=w.heap.size+2) ?_ (Or.inl (by omega))) (by omega) (by simp) (Nat.le_refl _)
   repeat (first | exact Mid.refl _ _ _ | refine Mid.stored ?_ _ (by simp;try omega) (by simp;try omega))
  ·repeat (first | exact hm0 | refine Mid.storeNew ?_ (by simp;try omega) _)
theorem spec_CanonicalGraph (r n:Nat) (A:Option Addr) (es:List Ed) (c:Nat) (w:World) (lo hi:Nat) (hr:RG w lo hi A es) (hg:IsGr r n es) :
  Calls Tryz.prog 169 #[graV r n A es.length c] w fun e w'=>∃ A1 c1,e=.returned (graV r (canonG r ((n:Int),es)).1 A1 (canonG r ((n:Int),es)).2.length c1)∧OG w' w.heap.size w'.heap.size A1 c1 (canonG r ((n:Int),es)).2∧Mid 0 0 w w':=by
 have hl:=hg.len;have hm0:Mid 0 0 w ((w.alloc (.cells #[.int .i64 r,.int .i64 n,.slice A es.length c] 26)).alloc (.cells #[.int .i64 0,.int .i64 0,.slice none 0 0] 26)):=(Mid.alloc _ _).trans (Mid.alloc _ _);have b0:=(Box.new w #[.int .i64 r,.int .i64 n,.slice A es.length c] 26).mid (Mid.alloc _ (.cells #[.int .i64 0,.int .i64 0,.slice none 0 0] 26)) oZr;have b2:=Box.new (w.alloc (.cells #[.int .i64 r,.int .i64 n,.slice A es.length c] 26)) #[.int .i64 0,.int .i64 0,.slice none 0 0] 26;simp only [World.size_alloc] at b2;have HG:=Lib.hid hg;clear hg;by_cases hf:IsFol r n es
 ·rw [canonG_fol hf]
  have HF:=Lib.hid hf;clear hf;go_enter Tryz.func169,Tryz.ntmps169
  go_wp2_with fail;with_reducible refine (spec_CanonicalOrder r n A es c _ _ _ (hr.mid hm0 oZl) HF.out).mono ?_
  rintro en w1 ⟨A1,c1,rfl,hord,hm1⟩;replace b0:=b0.mid hm1 oZr;replace b2:=b2.mid hm1 oZr;replace hm0:=hm0.trans hm1;have p0:=b0.cell 0 rfl;have p1:=b0.cell 1 rfl;have p2:=b0.cell 2 rfl;obtain ⟨ho1,ho2,ho3⟩:=ordE_ok HF.out;have e1:(((ordE r es 0).length:Int) == 0)=false:=by simp only [beq_eq_false_iff_ne];omega
  have HR0:=Lib.hid (spec_RenumberGraph r n A es c A1 (ordE r es 0) c1 w1 lo hi _ _ (hr.mid hm0 oZl) hord HG.out ho2 ho3 ho1);have hsz1:w.heap.size+2≤w1.heap.size:=by have:=hm1.size;simpa using this
  obtain ⟨os,hos⟩:∃ os,ordE r es 0=os:=⟨_,rfl⟩
  obtain ⟨ps,hps⟩:∃ ps,partE os es=ps:=⟨_,rfl⟩
  rw [hos] at HR0 e1 ⊢;rw [hps] at HR0;have HOS:=Lib.hid hos;have HPS:=Lib.hid hps;have HR:=HR0;clear ho1 ho2 ho3 hord hm1 hos hps HR0;go_wp2_with fail;with_reducible refine (HR.out).mono ?_
  rintro en w2 ⟨A2,c2,rfl,hog,hm2⟩;clear HR;have hsz2:=hm2.size;have hal:=Mid.alloc w2 (.cells #[.int .i64 r,.int .i64 os.length,.slice A2 ps.length c2] 26);have Y3:=Box.new w2 #[.int .i64 r,.int .i64 os.length,.slice A2 ps.length c2] 26;replace b2:=b2.mid hm2 oZr;replace hm0:=hm0.trans hm2;clear p0 p1 p2;have z0:=b2.cell 0 rfl;have z1:=b2.cell 1 rfl;have z2:=b2.cell 2 rfl;have zf:=b2.2.2;have hb22:w.heap.size+1 < w2.heap.size:=b2.1;go_wp2_with fail;refine bodyPost_ret (v:=.agg #[.int .i64 r,.int .i64 os.length,.slice A2 ps.length c2]) (by simp [results,Tryz.results169,go_sem,z0,z1,z2,zf,hb22,World.cell?_alloc_lt]) rfl ⟨A2,c2,by rw [HOS.out,HPS.out],?_,?_⟩
  ·rw [HOS.out,HPS.out]
   refine OG.wide (OG.mid (OG.mid hog (a:=w.heap.size+1) (b:=w.heap.size+2) ?_ (Or.inl (by omega))) (Mid.alloc _ _) oZl) (by omega) (by simp) (Nat.le_refl _);repeat (first | exact Mid.refl _ _ _ | refine Mid.stored ?_ _ (by simp;try omega) (by simp;try omega))
  ·refine Mid.trans ?_ (Mid.alloc _ _)
   repeat (first | exact hm0 | refine Mid.storeNew ?_ (by simp;try omega) _)
 ·rw [canonG_no hf]
  have HF:=Lib.hid hf;clear hf;go_enter Tryz.func169,Tryz.ntmps169
  go_wp2_with fail;with_reducible refine (spec_CanonicalOrder_no r n A es c _ _ _ (hr.mid hm0 oZl) (by omega) HF.out).mono ?_
  rintro en w1 ⟨A1,c1,rfl,hm1⟩;have hsz1:w.heap.size+2≤w1.heap.size:=by have:=hm1.size;simpa using this
  replace b0:=b0.mid hm1 oZr;replace b2:=b2.mid hm1 oZr;replace hm0:=hm0.trans hm1;have p0:=b0.cell 0 rfl;have p1:=b0.cell 1 rfl;have p2:=b0.cell 2 rfl;go_wp2_with fail;with_reducible refine (spec_l4Copy r n A es c _ _ _ (hr.mid hm0 oZl) (by omega)).mono ?_
  rintro en w2 ⟨A2,c2,rfl,hog,hm2⟩;have hsz2:=hm0.size;replace b2:=b2.mid hm2 oZr;replace hm0:=hm0.trans hm2;have z0:=b2.cell 0 rfl;have z1:=b2.cell 1 rfl;have z2:=b2.cell 2 rfl;have zf:=b2.2.2;clear p0 p1 p2;go_wp2_with fail;refine bodyPost_ret (v:=.agg #[.int .i64 r,.int .i64 n,.slice A2 es.length c2]) (by simp [results,Tryz.results169,go_sem,z0,z1,z2,zf]) rfl ⟨A2,c2,rfl,?_,?_⟩
  ·refine OG.wide (OG.mid hog (a:=w.heap.size+1) (b:=w.heap.size+2) ?_ (Or.inl (by omega))) (by omega) (by simp) (Nat.le_refl _)
   repeat (first | exact Mid.refl _ _ _ | refine Mid.stored ?_ _ (by simp;try omega) (by simp;try omega))
  ·repeat (first | exact hm0 | refine Mid.storeNew ?_ (by simp;try omega) _)
end
section
open Go.RowKit
def sizeAt (w:World) (G:Nat):Nat:=match w.cell? ⟨G,1,none⟩ with | some (.int _ s)=>s.toNat | _=>0
theorem sizeAt_box {w:World} {G:Nat} {r:Value} {n:Nat} {v:Value} (h:Box w G [r,.int .i64 n,v]):sizeAt w G=n:=by
 unfold sizeAt;rw [h.cell 1 rfl];simp
theorem impl_TrimGraph (r:Int) (n:Nat) (A:Option Addr) (es:List Ed) (c:Nat) (w:World) (lo hi:Nat) (hr:RG w lo hi A es) (hg:IsGr r n es) :
  Calls Tryz.prog 163 #[graV r n A es.length c] w fun e w'=>∃ A1 c1 Al nl cl,e=.returned (.tuple #[graV r (trimA 40 ((n:Int),es)).1 A1 (trimA 40 ((n:Int),es)).2.length c1,.slice Al nl cl])∧OG w' w.heap.size w'.heap.size A1 c1 (trimA 40 ((n:Int),es)).2∧Mid 0 0 w w':=by
 have hn40:n≤40:=by have:=hg.size;omega
 have hl:=hg.len;have hm0:Mid 0 0 w ((w.alloc (.cells #[.int .i64 r,.int .i64 n,.slice A es.length c] 26)).alloc (.cells #[.int .i64 0,.int .i64 0,.slice none 0 0] 26)):=(Mid.alloc _ _).trans (Mid.alloc _ _);have b0:=(Box.new w #[.int .i64 r,.int .i64 n,.slice A es.length c] 26).mid (Mid.alloc _ (.cells #[.int .i64 0,.int .i64 0,.slice none 0 0] 26)) oZr;have b2:=Box.new (w.alloc (.cells #[.int .i64 r,.int .i64 n,.slice A es.length c] 26)) #[.int .i64 0,.int .i64 0,.slice none 0 0] 26;simp only [World.size_alloc] at b2;have HG:=Lib.hid hg;obtain ⟨T,hT⟩:∃ T,trimA 40 ((n:Int),es)=T:=⟨_,rfl⟩
 rw [hT];have HT:=Lib.hid hT;clear hg hT;go_enter Tryz.func163,Tryz.ntmps163
 go_wp2_with fail;generalize hw1:((w.alloc (.cells #[.int .i64 r,.int .i64 n,.slice A es.length c] 26)).alloc (.cells #[.int .i64 0,.int .i64 0,.slice none 0 0] 26))=w1 at hm0 b0 b2 ⊢;clear hw1;with_reducible refine (impl_copyGraph r n A es c _ _ _ (hr.mid hm0 oZl) (by omega)).mono ?_
 rintro en w2 ⟨A1,c1,rfl,ho,hm2⟩;have hsz12:=hm0.size;have hs2:w.heap.size+1 < w1.heap.size:=b2.1;replace b0:=b0.mid hm2 oZr;replace b2:=b2.mid hm2 oZr;replace hm0:=hm0.trans hm2;have hsz2:=hm2.size;have hown0:=owns_base (base':=w.heap.size+2) ho.ov.2.1 hs2;have hbk0:Value.ownBlock (.slice A1 es.length c1)≠some w2.heap.size:=fun h=>by have:=ho.ov.2.2 _ h;omega
 have hal:=(Mid.alloc w2 (.cells #[.int .i64 r,.int .i64 n,.slice A1 es.length c1] 26)).trans (Mid.alloc (w2.alloc (.cells #[.int .i64 r,.int .i64 n,.slice A1 es.length c1] 26)) (.cells #[] 3));have Y3:=(Box.new w2 #[.int .i64 r,.int .i64 n,.slice A1 es.length c1] 26).mid (Mid.alloc (w2.alloc (.cells #[.int .i64 r,.int .i64 n,.slice A1 es.length c1] 26)) (.cells #[] 3)) oZr;have O0:=owns_empty (w2.alloc (.cells #[.int .i64 r,.int .i64 n,.slice A1 es.length c1] 26)) 3 1;rw [World.size_alloc] at O0;have hbs0:=b0.1;have p0:=b0.cell 0 rfl;have p1:=b0.cell 1 rfl;have p2:=b0.cell 2 rfl;replace b0:=b0.mid hal oZr;replace b2:=b2.mid hal oZr;replace hown0:=owns_mid hown0 hal oZl;replace hm0:=hm0.trans hal;go_wp2_with fail;clear p0 p1 p2;have hsA:((w2.alloc (.cells #[.int .i64 r,.int .i64 n,.slice A1 es.length c1] 26)).alloc (.cells #[] 3)).heap.size=w2.heap.size+2:=by simp
 generalize hw3:(w2.alloc (.cells #[.int .i64 r,.int .i64 n,.slice A1 es.length c1] 26)).alloc (.cells #[] 3)=w3 at Y3 O0 b0 b2 hown0 hm0 hsA ⊢;obtain ⟨G,hG⟩:∃ G,w2.heap.size=G:=⟨_,rfl⟩
 rw [hG] at Y3 O0 hbk0 hsA hsz2 hbs0 ⊢;clear hw3 hal hm2 ho hG;with_reducible refine (impl_IsGraph r n A es c _ _ _ (hr.mid hm0 oZl).rv (by omega) true (iff_of_true rfl HG.out)).mono ?_
 rintro en w4 ⟨rfl,hm4⟩;have hs4:=hm4.size;replace b0:=b0.mid hm4 oZr;replace b2:=b2.mid hm4 oZr;replace Y3:=Y3.mid hm4 oZr;replace hown0:=owns_mid hown0 hm4 oZl;replace O0:=owns_mid O0 hm4 oZl;replace hm0:=hm0.trans hm4;have hGw:w.heap.size+2≤G:=by omega
 have hG4:G+1≤w4.heap.size:=by omega
 clear hm4 hs4 hsA hsz2 hs2 hsz12 hbs0;go_wp2_with fail;go_loopw [5,6] (fun l i wr=>∃ (k:Nat) (Al:Option Addr) (nl cl:Nat),k≤n∧i=.int .i64 k∧l=.slice Al nl cl∧Hid ((upto k).length=nl)∧wr.ownsRow (G+1) 3 1 (.slice Al nl cl) nl (ints (upto k)) ∧
   Hid (wr.ownsRow (w.heap.size+2) 68 3 (.slice A1 es.length c1) es.length (ints (edI es)))∧Box wr w.heap.size [.int .i64 r,.int .i64 n,.slice A es.length c]∧Box wr (w.heap.size+1) [.int .i64 0,.int .i64 0,.slice none 0 0]∧Box wr G [.int .i64 r,.int .i64 n,.slice A1 es.length c1]∧Mid 0 0 w wr) (fun _ i _=>n - (intOf i).toNat)
 case atStart=>exact ⟨0,_,0,0,Nat.zero_le _,rfl,rfl,Lib.hid rfl,O0,Lib.hid hown0,b0,b2,Y3,hm0⟩
 case round =>
  clear O0 hown0 b0 b2 Y3 hm0;obtain ⟨wo,hwo⟩:∃ wo,wo=wr:=⟨_,rfl⟩
  subst hwo;obtain ⟨k,Al,nl,cl,hk,rfl,rfl,HN,hleft,HE,b0,b2,Y3,hm⟩:=hrel;obtain rfl:k=nl:=by rw [← HN.out,upto_len]
  have p0:=b0.cell 0 rfl;have p1:=b0.cell 1 rfl;have p2:=b0.cell 2 rfl;by_cases hlt:k < n
  ·have hk1:(k:Int) < (n:Int):=by omega
   have hGo:G+1≤wo.heap.size:=Y3.1;have HL:=Lib.hid hleft;clear hleft;go_wp2_with (at_builtin;refine wpList_pushI2 rfl _ _ rfl (G+1) Al k cl (upto k) rfl HL.out k rfl (by omega) hGo ?_;intro A9 c9 w9 hl9 hgr9 hat9)
   clear hat9;have hm9:=Mid.of_grownRow HL.out hgr9;have hE9:=HE.out.kept hgr9 (owns_ne HE.out HL.out (by decide));go_roundw
   case rel=>exact ⟨k+1,A9,k+1,c9,by omega,by go_num,rfl,Lib.hid (by rw [upto_len]),by rw [upto_succ];exact hl9,Lib.hid hE9,b0.mid hm9 (Or.inl (by omega)),b2.mid hm9 (Or.inl (by omega)),Y3.mid hm9 (Or.inl (by omega)),hm.transNew hm9 (Or.inl (by omega))⟩
   case measure=>simp [intOf];omega
  ·obtain rfl:k=n:=by omega
   go_wp2_with fail;clear p0 p1 p2;have hGo:=Y3.1;go_loopw [5] (fun l wr=>∃ (m s:Nat) (es1:List Ed) (A2:Option Addr) (c2:Nat) (Al:Option Addr) (cl:Nat) (xs:List Int),l=.slice Al s cl∧Hid (trimA m ((s:Int),es1)=T)∧s≤m∧Hid (IsGr r s es1)∧wr.ownsRow (G+1) 3 1 (.slice Al s cl) s (ints xs) ∧
     Hid (wr.ownsRow (w.heap.size+2) 68 3 (.slice A2 es1.length c2) es1.length (ints (edI es1)))∧Hid (Value.ownBlock (.slice A2 es1.length c2)≠some G)∧Box wr (w.heap.size+1) [.int .i64 0,.int .i64 0,.slice none 0 0]∧Box wr G [.int .i64 r,.int .i64 s,.slice A2 es1.length c2]∧Mid 0 0 w wr) (fun _ wr=>sizeAt wr G)
   case atStart=>exact ⟨40,k,es,A1,c1,Al,cl,upto k,rfl,HT,hn40,HG,hleft,HE,Lib.hid hbk0,b2,Y3,hm⟩
   case round =>
    clear hleft HE b0 b2 Y3 hm HN hGo;obtain ⟨wj,hwj⟩:∃ wj,wj=wr:=⟨_,rfl⟩
    subst hwj;obtain ⟨m,s,es1,A2,c2,Al,cl,xs,rfl,HTm,hsm,HGs,hleft,HE,HBK,b2,Y3,hm⟩:=hrel;have hs1:1≤s:=by have:=HGs.out.size;omega
    have hs40:s≤40:=by have:=HGs.out.size;omega
    have hl1:=HGs.out.len;have hlsz:=Lib.hid (sizeAt_box Y3);have y0:=Y3.cell 0 rfl;have y1:=Y3.cell 1 rfl;have y2:=Y3.cell 2 rfl;have hJ:=impl_joined r s 0 A2 es1 c2 wj _ _ (owns_rv HE.out) HGs.out hs1;rw [show ((0:Nat):Int)=0 from rfl] at hJ;have HJ:=Lib.hid hJ;clear hJ;go_wp2_with fail;with_reducible refine (HJ.out).mono ?_
    rintro en w5 ⟨rfl,vis,hvis,hmem,hm5⟩;clear HJ;have hGj:G < wj.heap.size:=Y3.1;have HM:=Lib.hid hmem;obtain ⟨jb,hjb⟩:∃ jb,wj.heap.size+1=jb:=⟨_,rfl⟩
    rw [hjb] at hvis ⊢;have hE5:=owns_mid HE.out hm5 oZl;replace HE:=Lib.hid hE5;replace b2:=b2.mid hm5 oZr;replace Y3:=Y3.mid hm5 oZr;replace hleft:=owns_mid hleft hm5 oZl;replace hm:=hm.trans hm5;clear y0 y1 y2 hmem hjb hm5 hE5;have y0:=Y3.cell 0 rfl;have y1:=Y3.cell 1 rfl;have y2:=Y3.cell 2 rfl;go_wp2_with fail;clear y0 y1 y2;go_loopw [8,9] (fun gv kv wr=>∃ (q g:Nat),1≤q∧q≤s∧kv=.int .i64 q∧gv=.int .i64 g∧Hid ((g=0∧∀ u:Nat,1≤u→u < q→¬ Bad es1 u) ∨ (leaf s es1=some g∧0 < g∧g < s))∧Mid 0 0 w5 wr) (fun _ q _=>s - (intOf q).toNat)
    case atStart=>exact ⟨1,0,Nat.le_refl _,hs1,rfl,rfl,Lib.hid (.inl ⟨rfl,fun u h1 h2=>absurd h2 (by omega)⟩),Mid.refl _ _ _⟩
    case round =>
     obtain ⟨q,g,hq1,hq,rfl,rfl,HQ,hmx⟩:=hrel;replace b2:=b2.mid hmx oZr;replace Y3:=Y3.mid hmx oZr;replace hleft:=owns_mid hleft hmx oZl;replace hvis:=owns_mid hvis hmx oZl;replace hm:=hm.trans hmx;have hE5:=owns_mid HE.out hmx oZl;replace HE:=Lib.hid hE5;clear hE5;have y0:=Y3.cell 0 rfl;have y1:=Y3.cell 1 rfl;have y2:=Y3.cell 2 rfl;by_cases hgo:q < s∧g=0
     ·obtain ⟨hqs,rfl⟩:=hgo
      have hq3:(q:Int) < (s:Int):=by omega
      have hq0:(0:Int)≤(q:Int):=by omega
      have hno:∀ u:Nat,1≤u→u < q→¬ Bad es1 u:=by
       rcases HQ.out with h | h
       ·exact h.2
       ·omega
      have HNO:=Lib.hid hno;have hdl:=deg_le es1 q;clear hno;go_wp2_with fail;with_reducible refine (impl_DegreeOf r s A2 es1 c2 q _ _ _ (owns_rv HE.out).rg (by omega)).mono ?_
      rintro en w7 ⟨rfl,hm7⟩;have hv7:=owns_mid hvis hm7 oZl;have hcv:=(hv7.cellAt q (by omega)).trans (seenOf_get hqs);by_cases hd:deg es1 q < 2
      ·have d1:decide ((deg es1 q:Int) < 2)=true:=by simp;omega
       have HLF:=Lib.hid (leaf_some (s:=(s:Int)) hq1 hq3 (.inl hd) HNO.out);clear hd hcv;go_wp2_with fail;go_roundw
       case rel=>exact ⟨q+1,q,by omega,by omega,by go_num,rfl,Lib.hid (.inr ⟨HLF.out,by omega,hqs⟩),hmx.trans hm7⟩
       case measure=>simp [intOf];omega
      ·have d1:decide ((deg es1 q:Int) < 2)=false:=by simp;omega
       by_cases hv:(q:Int)∈vis
       ·rw [decide_eq_true hv] at hcv
        have HNB:Hid (¬ Bad es1 q):=Lib.hid (by
         rintro (h | h)
         ·exact hd h
         ·exact h ((HM.out _).1 hv))
        clear hd hv;go_wp2_with fail;go_roundw
        case rel =>
         refine ⟨q+1,0,by omega,by omega,by go_num,rfl,Lib.hid (.inl ⟨rfl,fun u h1 h2=>?_⟩),hmx.trans hm7⟩;by_cases h:u=q
         ·subst h;exact HNB.out
         ·exact HNO.out u h1 (by omega)
        case measure=>simp [intOf];omega
       ·rw [decide_eq_false hv] at hcv
        have HLF:=Lib.hid (leaf_some (s:=(s:Int)) hq1 hq3 (.inr fun h=>hv ((HM.out _).2 h)) HNO.out);clear hd hv;go_wp2_with fail;go_roundw
        case rel=>exact ⟨q+1,q,by omega,by omega,by go_num,rfl,Lib.hid (.inr ⟨HLF.out,by omega,hqs⟩),hmx.trans hm7⟩
        case measure=>simp [intOf];omega
     ·clear hvis
      obtain ⟨wk,hwk⟩:∃ wk,wk=wr:=⟨_,rfl⟩
      subst hwk;have hqg:decide ((q:Int) < (s:Int))=true∧((g:Int) == 0)=false ∨ decide ((q:Int) < (s:Int))=false:=by
       by_cases h:q < s
       ·left
        refine ⟨by simp;omega,?_⟩;simp only [beq_eq_false_iff_ne];intro h2;exact hgo ⟨h,by omega⟩
       ·right
        simp;omega
      by_cases hg0:g=0
      ·subst hg0
       have hqs:q=s:=by
        refine Classical.byContradiction fun h=>hgo ⟨by omega,rfl⟩
       subst hqs;have hln:leaf q es1=none:=leaf_none fun u h1 h2=>by
        rcases HQ.out with h | h
        ·exact h.2 u h1 (by omega)
        ·omega
       have hTT:=HTm.out;rw [trimA_none hln] at hTT;have HTT:=Lib.hid hTT;have d0:decide ((q:Int) < (q:Int))=false:=by simp
       have z0:=b2.cell 0 rfl;have z1:=b2.cell 1 rfl;have z2:=b2.cell 2 rfl;have zf:=b2.2.2;have hbs:=b2.1;clear hqg hln hTT hgo;go_wp2_with fail;have hcl:(w.heap.size+1 == G)=false:=by simp;omega
       refine bodyPost_ret (v:=.tuple #[.agg #[.int .i64 r,.int .i64 q,.slice A2 es1.length c2],.slice Al q cl]) (by simp [results,Tryz.results163,go_sem,z0,z1,z2,zf,y0,y1,y2]) rfl ⟨A2,c2,⟨Al,q,cl,by rw [← HTT.out]⟩,?_,?_⟩
       ·rw [← HTT.out]
        have h0:OG wk (w.heap.size+2) wk.heap.size A2 c2 es1:=⟨Nat.le_refl _,HE.out,fun g hg=>(HE.out.lt g hg).2⟩
        refine OG.wide (OG.mid h0 (a:=w.heap.size+1) (b:=w.heap.size+2) ?_ (Or.inl (Nat.le_refl _))) (by omega) (by simp) (Nat.le_refl _);repeat (first | exact Mid.refl _ _ _ | refine Mid.stored ?_ _ (by simp;try omega) (by simp;try omega))
       ·repeat (first | exact hm | refine Mid.storeNew ?_ (by simp;try omega) _)
      ·obtain ⟨hlf,hg1,hgs⟩:leaf s es1=some g∧0 < g∧g < s:=by
        rcases HQ.out with h | h
        ·exact absurd h.1 hg0
        ·exact h
       obtain ⟨m',rfl⟩:∃ m',m=m'+1:=⟨m - 1,by omega⟩
       have hTT:=HTm.out;rw [trimA_some hlf] at hTT;have HTT:=Lib.hid hTT;have HCG:=Lib.hid (cutV_gr (g:=((s:Int),es1)) HGs.out hg1 (by simpa using hgs));have dg:((g:Int) == 0)=false:=by simp only [beq_eq_false_iff_ne];omega
       have HGO:=Lib.hid hgo;clear hTT hlf hgo hqg;rcases Nat.lt_or_ge q s with hqn | hqn
       ·go_wp2_with fail
        have O10:=owns_empty wk 3 1;have hal:=Mid.alloc wk (.cells #[] 3);clear y0 y1 y2;go_loopw [10,11] (fun o kv wr=>∃ (kk:Nat) (Ao:Option Addr) (no co:Nat),kk≤s∧kv=.int .i64 kk∧o=.slice Ao no co∧Hid ((but g kk).length=no)∧wr.ownsRow wk.heap.size 3 1 (.slice Ao no co) no (ints (but g kk))∧Mid 0 0 wk wr) (fun _ kv _=>s - (intOf kv).toNat)
        case atStart=>exact ⟨0,_,0,0,Nat.zero_le _,rfl,rfl,Lib.hid rfl,O10,hal⟩
        case round =>
         clear O10 hal;obtain ⟨kk,Ao,no,co,hkk,rfl,rfl,HNo,hord,hmy⟩:=hrel;have hno:no≤40:=by
          have h1:(but g kk).length≤kk:=by unfold but;rw [List.length_map];exact Nat.le_trans (List.length_filter_le _ _) (by simp)
          have h2:=HNo.out;omega
         have Y4:=Y3.mid hmy oZr;have y0:=Y4.cell 0 rfl;have y1:=Y4.cell 1 rfl;have y2:=Y4.cell 2 rfl;by_cases hlt:kk < s
         ·have hbs:=but_succ g kk
          have hk3:(kk:Int) < (s:Int):=by omega
          by_cases hkg:kk=g
          ·have d3:((kk:Int) != (g:Int))=false:=by simp;omega
           rw [if_pos hkg] at hbs;have HBS:=Lib.hid hbs;clear hbs hkg;go_wp2_with fail;go_roundw
           case rel=>exact ⟨kk+1,Ao,no,co,by omega,by go_num,rfl,by rw [HBS.out];exact HNo,by rw [HBS.out];exact hord,hmy⟩
           case measure=>simp [intOf];omega
          ·have d3:((kk:Int) != (g:Int))=true:=by simp;omega
           rw [if_neg hkg] at hbs;have HBS:=Lib.hid hbs;have HO:=Lib.hid hord;have hsz:=hmy.size;clear hbs hkg hord;go_wp2_with (at_builtin;refine wpList_pushI rfl _ _ rfl wk.heap.size Ao no co (but g kk) rfl HO.out kk rfl (by omega) hsz ?_;intro A9 c9 w9 ho9 hm9)
           go_roundw
           case rel=>exact ⟨kk+1,A9,no+1,c9,by omega,by go_num,rfl,Lib.hid (by rw [HBS.out,List.length_append,HNo.out];rfl),by rw [HBS.out];exact ho9,hmy.transNew hm9 (Or.inl (Nat.le_refl _))⟩
           case measure=>simp [intOf];omega
         ·obtain rfl:kk=s:=by omega
          have hln:(but g kk).length=no:=HNo.out;have HL0:Hid (no=kk - 1):=Lib.hid (by rw [← hln,but_len g hgs]);obtain ⟨es2,hes2⟩:∃ es2,partE (but g kk) es1=es2:=⟨_,rfl⟩
          have hcv:cutV ((kk:Int),es1) g=((no:Int),es2):=by unfold cutV;simp only [Int.toNat_natCast];rw [hln,hes2]
          have hE6:=owns_mid HE.out hmy oZl;have hP:=impl_part r kk A2 es1 c2 Ao (but g kk) co wr _ _ _ _ (owns_rv hE6).rg (owns_rv hord) HGs.out (but_nodup g kk) (fun x hx=>but_range hx);rw [hln,hes2] at hP;have HP:=Lib.hid hP;have hTT2:=HTT.out;rw [hcv] at hTT2;have hgr2:=HCG.out;rw [hcv] at hgr2;have HTT2:=Lib.hid hTT2;have HG2:=Lib.hid hgr2;have hwks:G+1≤wk.heap.size:=Y3.1;clear hP hTT2 hgr2 hcv hes2 hln hord HTT HCG HE hE6;go_wp2_with fail;with_reducible refine HP.out.mono ?_
          rintro en w8 ⟨A3,c3,rfl,hog,hm8⟩;clear HP;replace hog:=hog.wide (lo':=wk.heap.size) hmy.size (Nat.le_refl _) (Nat.le_refl _);have hm28:=hmy.trans hm8;clear Y4 y0 y1 y2;replace b2:=b2.mid hm28 oZr;replace Y3:=Y3.mid hm28 oZr;replace hleft:=owns_mid hleft hm28 oZl;replace hm:=hm.trans hm28;clear hmy hm8 hm28;have y0:=Y3.cell 0 rfl;have y1:=Y3.cell 1 rfl;have y2:=Y3.cell 2 rfl;have yf:=Y3.2.2;go_wp2_with fail;have hst:=(Mid.setAt w8 G 0 (.int .i64 r)).trans ((Mid.setAt (w8.setCell ⟨G,0,none⟩ (.int .i64 r)) G 1 (.int .i64 no)).trans (Mid.setAt ((w8.setCell ⟨G,0,none⟩ (.int .i64 r)).setCell ⟨G,1,none⟩ (.int .i64 no)) G 2 (.slice A3 es2.length c3)));have Y5:=((Y3.set 0 (.int .i64 r) (by simp) rfl).set 1 (.int .i64 no) (by simp) rfl).set 2 (.slice A3 es2.length c3) (by simp) rfl;have hm5:=((hm.storeNew (p:=⟨G,0,none⟩) (by show w.heap.size≤G;omega) (.int .i64 r)).storeNew (p:=⟨G,1,none⟩) (by show w.heap.size≤G;omega) (.int .i64 no)).storeNew (p:=⟨G,2,none⟩) (by show w.heap.size≤G;omega) (.slice A3 es2.length c3);replace b2:=b2.mid hst (Or.inl (by omega));replace hleft:=owns_mid hleft hst (Or.inl (Nat.le_refl _));replace hog:=hog.mid hst (Or.inl hwks);clear Y3 hm y0 y1 y2 yf hst;generalize ((w8.setCell ⟨G,0,none⟩ (.int .i64 r)).setCell ⟨G,1,none⟩ (.int .i64 no)).setCell ⟨G,2,none⟩ (.slice A3 es2.length c3)=ws at Y5 hm5 b2 hleft hog ⊢;have hmd:=Mid.drew1 ws;replace b2:=b2.mid hmd oZr;replace Y5:=Y5.mid hmd oZr;replace hleft:=owns_mid hleft hmd oZl;replace hog:=hog.mid hmd oZl;replace hm5:=hm5.trans hmd;clear hmd;obtain ⟨gl,rfl,hgl1,hgl2⟩:=owns_addr hleft (show 0 < kk by omega);have hsc:kk≤cl:=by
           obtain ⟨A',c',hv0,hsc,hcm⟩:=owns_shape hleft;injection hv0 with _ _ hv0
           omega
          have hcut2:=owns_cut hleft (m:=g) (by omega);have hxl:(ints xs).length=kk * 1:=hleft.1;have hsrc:=(Rs.of_own hleft).drop (k:=g+1) (n:=kk) (cap:=cl) 1 hxl hsc;have hdl:((ints xs).drop ((g+1) * 1)).length=(kk - (g+1)) * 1:=by rw [List.length_drop,hxl];omega
          have hone:∀ u∈(ints xs).drop ((g+1) * 1),u.oneCell'=true:=fun u hu=>one_of_ints xs u (List.mem_of_mem_drop hu);have hml:g+(kk - (g+1))≤maxLen:=by unfold maxLen;omega
          have hby:(g+(kk - (g+1))) * 8≤140737488355328:=by omega
          have hGs:G+1≤ws.drew.heap.size:=Y5.1;have HCU:=Lib.hid hcut2;have HSR:=Lib.hid hsrc;have HDL:=Lib.hid hdl;have HON:=Lib.hid hone;have HXL:=Lib.hid hxl;have hgi:(0:Int)≤(g:Int):=by omega
          have hgi1:(0:Int)≤(g:Int)+1:=by omega
          have hgk:(g:Int) < (kk:Int):=by omega
          have hgk2:(g:Int)+1≤(kk:Int):=by omega
          have hgn:g≤cl:=by omega
          have hgn1:g+1≤kk:=by omega
          have hgn2:g+1≤cl:=by omega
          have hgc:(g:Int)≤(cl:Int):=by omega
          have hgc2:(g:Int)+1≤(cl:Int):=by omega
          have hwrp:IntKind.i64.wrap ((g:Int)+1)=(g:Int)+1:=IntWalk.i64_in _ (by omega);clear hcut2 hsrc hdl hone hxl;by_cases hcg:cl=g+1
          ·rw [if_pos hcg] at HSR
           have hcgF:(cl=g+1)=True:=eq_true hcg;clear hcg;refine wp_region_T (S:=(fun _=>True)) 8 (by kernel_rfl) trivial ?_;generalize World.drew ws=wz at b2 Y5 hleft hog hm5 HCU HSR hGs ⊢;refine tkT 0 rfl trivial ?_;try simp only [Act.put,zs1,zs2,zs3,zs4,zs5,zs6]
           refine tkT 1 rfl trivial ?_;try simp only [Act.put,zs1,zs2,zs3,zs4,zs5,zs6]
           refine tkT 2 rfl trivial ?_;try simp only [Act.put,zs1,zs2,zs3,zs4,zs5,zs6]
           refine tkT 3 rfl trivial ?_;try simp only [Act.put,zs1,zs2,zs3,zs4,zs5,zs6]
           refine tkT 4 rfl trivial ?_;try simp only [Act.put,zs1,zs2,zs3,zs4,zs5,zs6]
           refine tkT 5 rfl trivial ?_;try simp only [Act.put,zs1,zs2,zs3,zs4,zs5,zs6]
           refine tkT 6 rfl trivial ?_;try simp only [Act.put,zs1,zs2,zs3,zs4,zs5,zs6]
           refine rdT 7 rfl (fun K hK=>?_)
           (refine step_cat (by rfl) (.tmp 77) (.tmp 81) 34 (by rfl) (G+1) 3 (.int .i64 0) 1 8 undSI infoI rfl (by decide) (.slice (some ⟨gl,0,none⟩) g cl) g _ (by rfl) HCU.out _ (kk - (g+1)) _ _ ((ints xs).drop ((g+1) * 1)) (by rfl) HSR.out HDL.out HON.out hml hby hGs ?_;intro v9 w9 ho9 hgr9 hat9;obtain ⟨A9,c9,rfl, -, -⟩:=owns_shape ho9)
           refine hK.out _ _ (Or.inr trivial) (fun _=>?_);clear hK K;try simp only [Act.put,zs1,zs2,zs3,zs4,zs5,zs6]
           refine rdT 8 rfl (fun K hK=>?_)
           (go_simp)
           refine hK.out _ _ (Or.inl rfl) (fun _=>?_);clear hK K;try simp only [Act.put,zs1,zs2,zs3,zs4,zs5,zs6]
           refine wpAnyT_done (by kernel_rfl) ?_ _;go_wp2_with fail;go_roundw
           case rel =>
            have hm9:=Mid.of_grownRow HCU.out hgr9;have h0:=hog.ov.2.1.kept hgr9 (owns_ne hog.ov.2.1 HCU.out (by decide));have hnl2:g+(kk - (g+1))=no:=by have:=HL0.out;omega
            have hb9:Value.ownBlock (.slice A3 es2.length c3)≠some G:=fun h=>by have:=(hog.ov.2.1.lt _ h).1;omega
            have hxe:(ints xs).take (g * 1)++(ints xs).drop ((g+1) * 1)=ints (xs.take g++xs.drop (g+1)):=by simp [ints]
            rw [hxe,hnl2] at ho9;exact ⟨m',no,es2,A3,c3,A9,c9,xs.take g++xs.drop (g+1),by rw [hnl2],HTT2,by have:=HL0.out;omega,HG2,ho9,Lib.hid (owns_base h0 (by omega)),Lib.hid hb9,b2.mid hm9 (Or.inl (by omega)),Y5.mid hm9 (Or.inl (by omega)),hm5.transNew hm9 (Or.inl (by omega))⟩
           case measure =>
            have h1:=sizeAt_box (Y5.mid (Mid.of_grownRow HCU.out hgr9) (Or.inl (by omega)));have h2:=hlsz.out;have h3:=HL0.out;simp only [h1,h2];omega
          ·rw [if_neg hcg] at HSR
           have hcgF:(cl=g+1)=False:=eq_false hcg;clear hcg;replace HSR:Hid (Rs ws.drew ws.drew.heap.size (some ⟨gl,g+1,none⟩) ((ints xs).drop ((g+1) * 1))):=Lib.hid (by
            have h:=HSR.out;rw [show Option.map (fun x=>x.add ((g+1) * 1)) (some (⟨gl,0,none⟩:Addr))=some ⟨gl,g+1,none⟩ by simp [Addr.add]] at h;exact h)
           refine wp_region_T (S:=(fun _=>True)) 8 (by kernel_rfl) trivial ?_;generalize World.drew ws=wz at b2 Y5 hleft hog hm5 HCU HSR hGs ⊢;refine tkT 0 rfl trivial ?_;try simp only [Act.put,zs1,zs2,zs3,zs4,zs5,zs6]
           refine tkT 1 rfl trivial ?_;try simp only [Act.put,zs1,zs2,zs3,zs4,zs5,zs6]
           refine tkT 2 rfl trivial ?_;try simp only [Act.put,zs1,zs2,zs3,zs4,zs5,zs6]
           refine tkT 3 rfl trivial ?_;try simp only [Act.put,zs1,zs2,zs3,zs4,zs5,zs6]
           refine tkT 4 rfl trivial ?_;try simp only [Act.put,zs1,zs2,zs3,zs4,zs5,zs6]
           refine tkT 5 rfl trivial ?_;try simp only [Act.put,zs1,zs2,zs3,zs4,zs5,zs6]
           refine tkT 6 rfl trivial ?_;try simp only [Act.put,zs1,zs2,zs3,zs4,zs5,zs6]
           refine rdT 7 rfl (fun K hK=>?_)
           (refine step_cat (by rfl) (.tmp 77) (.tmp 81) 34 (by rfl) (G+1) 3 (.int .i64 0) 1 8 undSI infoI rfl (by decide) (.slice (some ⟨gl,0,none⟩) g cl) g _ (by rfl) HCU.out _ (kk - (g+1)) _ _ ((ints xs).drop ((g+1) * 1)) (by rfl) HSR.out HDL.out HON.out hml hby hGs ?_;intro v9 w9 ho9 hgr9 hat9;obtain ⟨A9,c9,rfl, -, -⟩:=owns_shape ho9)
           refine hK.out _ _ (Or.inr trivial) (fun _=>?_);clear hK K;try simp only [Act.put,zs1,zs2,zs3,zs4,zs5,zs6]
           refine rdT 8 rfl (fun K hK=>?_)
           (go_simp)
           refine hK.out _ _ (Or.inl rfl) (fun _=>?_);clear hK K;try simp only [Act.put,zs1,zs2,zs3,zs4,zs5,zs6]
           refine wpAnyT_done (by kernel_rfl) ?_ _;go_wp2_with fail;go_roundw
           case rel =>
            have hm9:=Mid.of_grownRow HCU.out hgr9;have h0:=hog.ov.2.1.kept hgr9 (owns_ne hog.ov.2.1 HCU.out (by decide));have hnl2:g+(kk - (g+1))=no:=by have:=HL0.out;omega
            have hb9:Value.ownBlock (.slice A3 es2.length c3)≠some G:=fun h=>by have:=(hog.ov.2.1.lt _ h).1;omega
            have hxe:(ints xs).take (g * 1)++(ints xs).drop ((g+1) * 1)=ints (xs.take g++xs.drop (g+1)):=by simp [ints]
            rw [hxe,hnl2] at ho9;exact ⟨m',no,es2,A3,c3,A9,c9,xs.take g++xs.drop (g+1),by rw [hnl2],HTT2,by have:=HL0.out;omega,HG2,ho9,Lib.hid (owns_base h0 (by omega)),Lib.hid hb9,b2.mid hm9 (Or.inl (by omega)),Y5.mid hm9 (Or.inl (by omega)),hm5.transNew hm9 (Or.inl (by omega))⟩
           case measure =>
            have h1:=sizeAt_box (Y5.mid (Mid.of_grownRow HCU.out hgr9) (Or.inl (by omega)));have h2:=hlsz.out;have h3:=HL0.out;simp only [h1,h2];omega
       ·obtain rfl:q=s:=by omega
        go_wp2_with fail;have O10:=owns_empty wk 3 1;have hal:=Mid.alloc wk (.cells #[] 3);clear y0 y1 y2;go_loopw [10,11] (fun o kv wr=>∃ (kk:Nat) (Ao:Option Addr) (no co:Nat),kk≤q∧kv=.int .i64 kk∧o=.slice Ao no co∧Hid ((but g kk).length=no)∧wr.ownsRow wk.heap.size 3 1 (.slice Ao no co) no (ints (but g kk))∧Mid 0 0 wk wr) (fun _ kv _=>q - (intOf kv).toNat)
        case atStart=>exact ⟨0,_,0,0,Nat.zero_le _,rfl,rfl,Lib.hid rfl,O10,hal⟩
        case round =>
         clear O10 hal;obtain ⟨kk,Ao,no,co,hkk,rfl,rfl,HNo,hord,hmy⟩:=hrel;have hno:no≤40:=by
          have h1:(but g kk).length≤kk:=by unfold but;rw [List.length_map];exact Nat.le_trans (List.length_filter_le _ _) (by simp)
          have h2:=HNo.out;omega
         have Y4:=Y3.mid hmy oZr;have y0:=Y4.cell 0 rfl;have y1:=Y4.cell 1 rfl;have y2:=Y4.cell 2 rfl;by_cases hlt:kk < q
         ·have hbs:=but_succ g kk
          have hk3:(kk:Int) < (q:Int):=by omega
          by_cases hkg:kk=g
          ·have d3:((kk:Int) != (g:Int))=false:=by simp;omega
           rw [if_pos hkg] at hbs;have HBS:=Lib.hid hbs;clear hbs hkg;go_wp2_with fail;go_roundw
           case rel=>exact ⟨kk+1,Ao,no,co,by omega,by go_num,rfl,by rw [HBS.out];exact HNo,by rw [HBS.out];exact hord,hmy⟩
           case measure=>simp [intOf];omega
          ·have d3:((kk:Int) != (g:Int))=true:=by simp;omega
           rw [if_neg hkg] at hbs;have HBS:=Lib.hid hbs;have HO:=Lib.hid hord;have hsz:=hmy.size;clear hbs hkg hord;go_wp2_with (at_builtin;refine wpList_pushI rfl _ _ rfl wk.heap.size Ao no co (but g kk) rfl HO.out kk rfl (by omega) hsz ?_;intro A9 c9 w9 ho9 hm9)
           go_roundw
           case rel=>exact ⟨kk+1,A9,no+1,c9,by omega,by go_num,rfl,Lib.hid (by rw [HBS.out,List.length_append,HNo.out];rfl),by rw [HBS.out];exact ho9,hmy.transNew hm9 (Or.inl (Nat.le_refl _))⟩
           case measure=>simp [intOf];omega
         ·obtain rfl:kk=q:=by omega
          have hln:(but g kk).length=no:=HNo.out;have HL0:Hid (no=kk - 1):=Lib.hid (by rw [← hln,but_len g hgs]);obtain ⟨es2,hes2⟩:∃ es2,partE (but g kk) es1=es2:=⟨_,rfl⟩
          have hcv:cutV ((kk:Int),es1) g=((no:Int),es2):=by unfold cutV;simp only [Int.toNat_natCast];rw [hln,hes2]
          have hE6:=owns_mid HE.out hmy oZl;have hP:=impl_part r kk A2 es1 c2 Ao (but g kk) co wr _ _ _ _ (owns_rv hE6).rg (owns_rv hord) HGs.out (but_nodup g kk) (fun x hx=>but_range hx);rw [hln,hes2] at hP;have HP:=Lib.hid hP;have hTT2:=HTT.out;rw [hcv] at hTT2;have hgr2:=HCG.out;rw [hcv] at hgr2;have HTT2:=Lib.hid hTT2;have HG2:=Lib.hid hgr2;have hwks:G+1≤wk.heap.size:=Y3.1;clear hP hTT2 hgr2 hcv hes2 hln hord HTT HCG HE hE6;go_wp2_with fail;with_reducible refine HP.out.mono ?_
          rintro en w8 ⟨A3,c3,rfl,hog,hm8⟩;clear HP;replace hog:=hog.wide (lo':=wk.heap.size) hmy.size (Nat.le_refl _) (Nat.le_refl _);have hm28:=hmy.trans hm8;clear Y4 y0 y1 y2;replace b2:=b2.mid hm28 oZr;replace Y3:=Y3.mid hm28 oZr;replace hleft:=owns_mid hleft hm28 oZl;replace hm:=hm.trans hm28;clear hmy hm8 hm28;have y0:=Y3.cell 0 rfl;have y1:=Y3.cell 1 rfl;have y2:=Y3.cell 2 rfl;have yf:=Y3.2.2;go_wp2_with fail;have hst:=(Mid.setAt w8 G 0 (.int .i64 r)).trans ((Mid.setAt (w8.setCell ⟨G,0,none⟩ (.int .i64 r)) G 1 (.int .i64 no)).trans (Mid.setAt ((w8.setCell ⟨G,0,none⟩ (.int .i64 r)).setCell ⟨G,1,none⟩ (.int .i64 no)) G 2 (.slice A3 es2.length c3)));have Y5:=((Y3.set 0 (.int .i64 r) (by simp) rfl).set 1 (.int .i64 no) (by simp) rfl).set 2 (.slice A3 es2.length c3) (by simp) rfl;have hm5:=((hm.storeNew (p:=⟨G,0,none⟩) (by show w.heap.size≤G;omega) (.int .i64 r)).storeNew (p:=⟨G,1,none⟩) (by show w.heap.size≤G;omega) (.int .i64 no)).storeNew (p:=⟨G,2,none⟩) (by show w.heap.size≤G;omega) (.slice A3 es2.length c3);replace b2:=b2.mid hst (Or.inl (by omega));replace hleft:=owns_mid hleft hst (Or.inl (Nat.le_refl _));replace hog:=hog.mid hst (Or.inl hwks);clear Y3 hm y0 y1 y2 yf hst;generalize ((w8.setCell ⟨G,0,none⟩ (.int .i64 r)).setCell ⟨G,1,none⟩ (.int .i64 no)).setCell ⟨G,2,none⟩ (.slice A3 es2.length c3)=ws at Y5 hm5 b2 hleft hog ⊢;have hmd:=Mid.drew1 ws;replace b2:=b2.mid hmd oZr;replace Y5:=Y5.mid hmd oZr;replace hleft:=owns_mid hleft hmd oZl;replace hog:=hog.mid hmd oZl;replace hm5:=hm5.trans hmd;clear hmd;obtain ⟨gl,rfl,hgl1,hgl2⟩:=owns_addr hleft (show 0 < kk by omega);have hsc:kk≤cl:=by
           obtain ⟨A',c',hv0,hsc,hcm⟩:=owns_shape hleft;injection hv0 with _ _ hv0
           omega
          have hcut2:=owns_cut hleft (m:=g) (by omega);have hxl:(ints xs).length=kk * 1:=hleft.1;have hsrc:=(Rs.of_own hleft).drop (k:=g+1) (n:=kk) (cap:=cl) 1 hxl hsc;have hdl:((ints xs).drop ((g+1) * 1)).length=(kk - (g+1)) * 1:=by rw [List.length_drop,hxl];omega
          have hone:∀ u∈(ints xs).drop ((g+1) * 1),u.oneCell'=true:=fun u hu=>one_of_ints xs u (List.mem_of_mem_drop hu);have hml:g+(kk - (g+1))≤maxLen:=by unfold maxLen;omega
          have hby:(g+(kk - (g+1))) * 8≤140737488355328:=by omega
          have hGs:G+1≤ws.drew.heap.size:=Y5.1;have HCU:=Lib.hid hcut2;have HSR:=Lib.hid hsrc;have HDL:=Lib.hid hdl;have HON:=Lib.hid hone;have HXL:=Lib.hid hxl;have hgi:(0:Int)≤(g:Int):=by omega
          have hgi1:(0:Int)≤(g:Int)+1:=by omega
          have hgk:(g:Int) < (kk:Int):=by omega
          have hgk2:(g:Int)+1≤(kk:Int):=by omega
          have hgn:g≤cl:=by omega
          have hgn1:g+1≤kk:=by omega
          have hgn2:g+1≤cl:=by omega
          have hgc:(g:Int)≤(cl:Int):=by omega
          have hgc2:(g:Int)+1≤(cl:Int):=by omega
          have hwrp:IntKind.i64.wrap ((g:Int)+1)=(g:Int)+1:=IntWalk.i64_in _ (by omega);clear hcut2 hsrc hdl hone hxl;by_cases hcg:cl=g+1
          ·rw [if_pos hcg] at HSR
           have hcgF:(cl=g+1)=True:=eq_true hcg;clear hcg;refine wp_region_T (S:=(fun _=>True)) 8 (by kernel_rfl) trivial ?_;generalize World.drew ws=wz at b2 Y5 hleft hog hm5 HCU HSR hGs ⊢;refine tkT 0 rfl trivial ?_;try simp only [Act.put,zs1,zs2,zs3,zs4,zs5,zs6]
           refine tkT 1 rfl trivial ?_;try simp only [Act.put,zs1,zs2,zs3,zs4,zs5,zs6]
           refine tkT 2 rfl trivial ?_;try simp only [Act.put,zs1,zs2,zs3,zs4,zs5,zs6]
           refine tkT 3 rfl trivial ?_;try simp only [Act.put,zs1,zs2,zs3,zs4,zs5,zs6]
           refine tkT 4 rfl trivial ?_;try simp only [Act.put,zs1,zs2,zs3,zs4,zs5,zs6]
           refine tkT 5 rfl trivial ?_;try simp only [Act.put,zs1,zs2,zs3,zs4,zs5,zs6]
           refine tkT 6 rfl trivial ?_;try simp only [Act.put,zs1,zs2,zs3,zs4,zs5,zs6]
           refine rdT 7 rfl (fun K hK=>?_)
           (refine step_cat (by rfl) (.tmp 77) (.tmp 81) 34 (by rfl) (G+1) 3 (.int .i64 0) 1 8 undSI infoI rfl (by decide) (.slice (some ⟨gl,0,none⟩) g cl) g _ (by rfl) HCU.out _ (kk - (g+1)) _ _ ((ints xs).drop ((g+1) * 1)) (by rfl) HSR.out HDL.out HON.out hml hby hGs ?_;intro v9 w9 ho9 hgr9 hat9;obtain ⟨A9,c9,rfl, -, -⟩:=owns_shape ho9)
           refine hK.out _ _ (Or.inr trivial) (fun _=>?_);clear hK K;try simp only [Act.put,zs1,zs2,zs3,zs4,zs5,zs6]
           refine rdT 8 rfl (fun K hK=>?_)
           (go_simp)
           refine hK.out _ _ (Or.inl rfl) (fun _=>?_);clear hK K;try simp only [Act.put,zs1,zs2,zs3,zs4,zs5,zs6]
           refine wpAnyT_done (by kernel_rfl) ?_ _;go_wp2_with fail;go_roundw
           case rel =>
            have hm9:=Mid.of_grownRow HCU.out hgr9;have h0:=hog.ov.2.1.kept hgr9 (owns_ne hog.ov.2.1 HCU.out (by decide));have hnl2:g+(kk - (g+1))=no:=by have:=HL0.out;omega
            have hb9:Value.ownBlock (.slice A3 es2.length c3)≠some G:=fun h=>by have:=(hog.ov.2.1.lt _ h).1;omega
            have hxe:(ints xs).take (g * 1)++(ints xs).drop ((g+1) * 1)=ints (xs.take g++xs.drop (g+1)):=by simp [ints]
            rw [hxe,hnl2] at ho9;exact ⟨m',no,es2,A3,c3,A9,c9,xs.take g++xs.drop (g+1),by rw [hnl2],HTT2,by have:=HL0.out;omega,HG2,ho9,Lib.hid (owns_base h0 (by omega)),Lib.hid hb9,b2.mid hm9 (Or.inl (by omega)),Y5.mid hm9 (Or.inl (by omega)),hm5.transNew hm9 (Or.inl (by omega))⟩
           case measure =>
            have h1:=sizeAt_box (Y5.mid (Mid.of_grownRow HCU.out hgr9) (Or.inl (by omega)));have h2:=hlsz.out;have h3:=HL0.out;simp only [h1,h2];omega
          ·rw [if_neg hcg] at HSR
           have hcgF:(cl=g+1)=False:=eq_false hcg;clear hcg;replace HSR:Hid (Rs ws.drew ws.drew.heap.size (some ⟨gl,g+1,none⟩) ((ints xs).drop ((g+1) * 1))):=Lib.hid (by
            have h:=HSR.out;rw [show Option.map (fun x=>x.add ((g+1) * 1)) (some (⟨gl,0,none⟩:Addr))=some ⟨gl,g+1,none⟩ by simp [Addr.add]] at h;exact h)
           refine wp_region_T (S:=(fun _=>True)) 8 (by kernel_rfl) trivial ?_;generalize World.drew ws=wz at b2 Y5 hleft hog hm5 HCU HSR hGs ⊢;refine tkT 0 rfl trivial ?_;try simp only [Act.put,zs1,zs2,zs3,zs4,zs5,zs6]
           refine tkT 1 rfl trivial ?_;try simp only [Act.put,zs1,zs2,zs3,zs4,zs5,zs6]
           refine tkT 2 rfl trivial ?_;try simp only [Act.put,zs1,zs2,zs3,zs4,zs5,zs6]
           refine tkT 3 rfl trivial ?_;try simp only [Act.put,zs1,zs2,zs3,zs4,zs5,zs6]
           refine tkT 4 rfl trivial ?_;try simp only [Act.put,zs1,zs2,zs3,zs4,zs5,zs6]
           refine tkT 5 rfl trivial ?_;try simp only [Act.put,zs1,zs2,zs3,zs4,zs5,zs6]
           refine tkT 6 rfl trivial ?_;try simp only [Act.put,zs1,zs2,zs3,zs4,zs5,zs6]
           refine rdT 7 rfl (fun K hK=>?_)
           (refine step_cat (by rfl) (.tmp 77) (.tmp 81) 34 (by rfl) (G+1) 3 (.int .i64 0) 1 8 undSI infoI rfl (by decide) (.slice (some ⟨gl,0,none⟩) g cl) g _ (by rfl) HCU.out _ (kk - (g+1)) _ _ ((ints xs).drop ((g+1) * 1)) (by rfl) HSR.out HDL.out HON.out hml hby hGs ?_;intro v9 w9 ho9 hgr9 hat9;obtain ⟨A9,c9,rfl, -, -⟩:=owns_shape ho9)
           refine hK.out _ _ (Or.inr trivial) (fun _=>?_);clear hK K;try simp only [Act.put,zs1,zs2,zs3,zs4,zs5,zs6]
           refine rdT 8 rfl (fun K hK=>?_)
           (go_simp)
           refine hK.out _ _ (Or.inl rfl) (fun _=>?_);clear hK K;try simp only [Act.put,zs1,zs2,zs3,zs4,zs5,zs6]
           refine wpAnyT_done (by kernel_rfl) ?_ _;go_wp2_with fail;go_roundw
           case rel =>
            have hm9:=Mid.of_grownRow HCU.out hgr9;have h0:=hog.ov.2.1.kept hgr9 (owns_ne hog.ov.2.1 HCU.out (by decide));have hnl2:g+(kk - (g+1))=no:=by have:=HL0.out;omega
            have hb9:Value.ownBlock (.slice A3 es2.length c3)≠some G:=fun h=>by have:=(hog.ov.2.1.lt _ h).1;omega
            have hxe:(ints xs).take (g * 1)++(ints xs).drop ((g+1) * 1)=ints (xs.take g++xs.drop (g+1)):=by simp [ints]
            rw [hxe,hnl2] at ho9;exact ⟨m',no,es2,A3,c3,A9,c9,xs.take g++xs.drop (g+1),by rw [hnl2],HTT2,by have:=HL0.out;omega,HG2,ho9,Lib.hid (owns_base h0 (by omega)),Lib.hid hb9,b2.mid hm9 (Or.inl (by omega)),Y5.mid hm9 (Or.inl (by omega)),hm5.transNew hm9 (Or.inl (by omega))⟩
           case measure =>
            have h1:=sizeAt_box (Y5.mid (Mid.of_grownRow HCU.out hgr9) (Or.inl (by omega)));have h2:=hlsz.out;have h3:=HL0.out;simp only [h1,h2];omega
end
section
open Go.RowKit
theorem IsGr.nat {r s:Int} {es:List Ed} (h:IsGr r s es):∃ k n:Nat,r=k∧s=n:=by
 have h1:=h.rank;have h2:=h.size;exact ⟨r.toNat,s.toNat,by omega,by omega⟩
theorem impl_IsCore (r s:Int) (A:Option Addr) (es:List Ed) (c:Nat) (w:World) (lo hi:Nat) (hr:RG w lo hi A es) (hl:es.length≤1048576) (hcl:es.length≤c) (b:Bool) (hb:b=true↔IsCor r s es) :
  Calls Tryz.prog 88 #[graV r s A es.length c] w fun e w'=>e=.returned (.bool b)∧Mid 0 0 w w':=by
 have HB:=Lib.hid hb;clear hb;have hm0:Mid 0 0 w (w.alloc (.cells #[.int .i64 r,.int .i64 s,.slice A es.length c] 26)):=Mid.alloc _ _;have b0:=Box.new w #[.int .i64 r,.int .i64 s,.slice A es.length c] 26;by_cases hf:IsFol r s es
 ·obtain ⟨r,n,rfl,rfl⟩:=hf.gr.nat
  have hn1:0 < n:=by have:=hf.gr.size;omega
  have HF:=Lib.hid hf;obtain ⟨T,hT⟩:∃ T,trimA 40 ((n:Int),es)=T:=⟨_,rfl⟩
  have HTS:Hid (T.1=n↔leaf n es=none):=Lib.hid (by rw [← hT];exact trimA_same (g:=((n:Int),es)) (by omega));have hTg:IsGr r T.1 T.2:=by rw [← hT];exact trimA_gr 40 (g:=((n:Int),es)) hf.gr
  obtain ⟨tr,tn, -,htn⟩:=hTg.nat;obtain ⟨ts,te⟩:=T;simp only at htn HTS;subst htn;have htl:=hTg.len;have HTR:=Lib.hid hT;clear hf hT hTg;have hTRIM:=fun W h=>impl_TrimGraph r n A es c W lo hi h HF.out.gr;simp only [HTR.out] at hTRIM;have HTRIM:=Lib.hid hTRIM;clear hTRIM HTR;go_enter Tryz.func88,Tryz.ntmps88
  go_wp2_with fail;with_reducible refine (impl_IsFolded r n A es c _ _ _ (hr.mid hm0 oZl) hl hcl true (iff_of_true rfl HF.out)).mono ?_
  rintro en w1 ⟨rfl,hm1⟩;replace b0:=b0.mid hm1 oZr;replace hm0:=hm0.trans hm1;have p0:=b0.cell 0 rfl;have p1:=b0.cell 1 rfl;have p2:=b0.cell 2 rfl;go_wp2_with fail;with_reducible refine (HTRIM.out _ (hr.mid hm0 oZl)).mono ?_
  rintro en w2 ⟨A1,c1,Al,nl,cl,rfl,hog,hm2⟩;replace b0:=b0.mid hm2 oZr;replace hm0:=hm0.trans hm2;have hal:=Mid.alloc w2 (.cells #[.int .i64 r,.int .i64 tn,.slice A1 te.length c1] 26);have bt:=Box.new w2 #[.int .i64 r,.int .i64 tn,.slice A1 te.length c1] 26;replace b0:=b0.mid hal oZr;replace hm0:=hm0.trans hal;clear p0 p1 p2 HTRIM;go_wp2_with fail;generalize w2.alloc (.cells #[.int .i64 r,.int .i64 tn,.slice A1 te.length c1] 26)=w3 at b0 bt hm0 ⊢;by_cases hts:(tn:Int)=n
  ·have hlf:=HTS.out.1 hts
   obtain rfl:tn=n:=by omega
   obtain ⟨C,hC⟩:∃ C,canonG r ((tn:Int),es)=C:=⟨_,rfl⟩
   have hCg:IsGr r C.1 C.2:=by rw [← hC];exact canonG_gr (g:=((tn:Int),es)) HF.out.gr
   have HB2:Hid (b=true↔(r:Int)=r∧C.1=tn∧C.2=es):=Lib.hid (by
    rw [HB.out];constructor
    ·intro h
     have h1:=h.canon;rw [hC] at h1;exact ⟨rfl,by rw [h1],by rw [h1]⟩
    ·rintro ⟨-,h1,h2⟩
     exact ⟨HF.out,hlf,by rw [hC];exact Prod.ext h1 h2⟩)
   have hcl2:=hCg.len;have hmd:=Mid.drew1 w3;replace b0:=b0.mid hmd oZr;replace bt:=bt.mid hmd oZr;replace hm0:=hm0.trans hmd;have p0:=b0.cell 0 rfl;have p1:=b0.cell 1 rfl;have p2:=b0.cell 2 rfl;have q1:=bt.cell 1 rfl;have hCAN:=fun W h=>impl_CanonicalGraph r tn A es c W lo hi h hcl HF.out.gr;simp only [hC] at hCAN;have HCAN:=Lib.hid hCAN;clear hCAN hC hCg HB hlf HTS hts hmd;refine wp_region_T (S:=(fun w'=>w'.cell? ⟨w.heap.size,0,none⟩=some (.int .i64 r)∧w'.cell? ⟨w.heap.size,1,none⟩=some (.int .i64 tn)∧w'.cell? ⟨w.heap.size,2,none⟩=some (.slice A es.length c)∧w'.cell? ⟨w2.heap.size,1,none⟩=some (.int .i64 tn))) 11 (by kernel_rfl) ⟨p0,p1,p2,q1⟩ ?_;generalize World.drew w3=wz at b0 bt hm0 p0 p1 p2 q1 ⊢;have hS:wz.cell? ⟨w.heap.size,0,none⟩=some (.int .i64 r)∧wz.cell? ⟨w.heap.size,1,none⟩=some (.int .i64 tn)∧wz.cell? ⟨w.heap.size,2,none⟩=some (.slice A es.length c)∧wz.cell? ⟨w2.heap.size,1,none⟩=some (.int .i64 tn):=⟨p0,p1,p2,q1⟩
   refine tkT 0 rfl hS ?_;try simp only [Act.put,zs1,zs2,zs3,zs4,zs5,zs6]
   refine tkT 1 rfl hS ?_;try simp only [Act.put,zs1,zs2,zs3,zs4,zs5,zs6]
   refine tkT 2 rfl hS ?_;try simp only [Act.put,zs1,zs2,zs3,zs4,zs5,zs6]
   refine tkT 3 rfl hS ?_;try simp only [Act.put,zs1,zs2,zs3,zs4,zs5,zs6]
   refine tkT 4 rfl hS ?_;try simp only [Act.put,zs1,zs2,zs3,zs4,zs5,zs6]
   refine tkT 5 rfl hS ?_;try simp only [Act.put,zs1,zs2,zs3,zs4,zs5,zs6]
   refine tkT 6 rfl hS ?_;try simp only [Act.put,zs1,zs2,zs3,zs4,zs5,zs6]
   refine tkT 8 rfl hS ?_;try simp only [Act.put,zs1,zs2,zs3,zs4,zs5,zs6]
   refine rdT 7 rfl (fun K hK=>?_)
   (go_simp;refine (HCAN.out _ (hr.mid hm0 oZl)).mono ?_;rintro en w4 ⟨A4,c4,rfl,hog4,hm4⟩;have b0':=b0.mid hm4 oZr;have bt':=bt.mid hm4 oZr;go_wp2_with fail)
   refine hK.out _ _ (Or.inr ⟨b0'.cell 0 rfl,b0'.cell 1 rfl,b0'.cell 2 rfl,bt'.cell 1 rfl⟩) (fun _=>?_);clear hK K;try simp only [Act.put,zs1,zs2,zs3,zs4,zs5,zs6]
   replace hm0:=hm0.trans hm4;have hE:=impl_EqualGraphs r C.1 A4 C.2 c4 r tn A es c w4 _ _ _ _ hog4.rg (hr.mid hm0 oZl) (by omega) hl b (by have h:=HB2.out;simpa using h);have HE:=Lib.hid hE;clear hS p0 p1 p2 q1 b0 bt HCAN HB2 hE hm4;refine rdT 9 rfl (fun K hK=>?_)
   (go_simp;refine HE.out.mono ?_;rintro en w5 ⟨rfl,hm5⟩;have b0:=b0'.mid hm5 oZr;have bt:=bt'.mid hm5 oZr;go_wp2_with fail)
   refine hK.out _ _ (Or.inr ⟨b0.cell 0 rfl,b0.cell 1 rfl,b0.cell 2 rfl,bt.cell 1 rfl⟩) (fun _=>?_);clear hK K;try simp only [Act.put,zs1,zs2,zs3,zs4,zs5,zs6]
   have hS2:w5.cell? ⟨w.heap.size,0,none⟩=some (.int .i64 r)∧w5.cell? ⟨w.heap.size,1,none⟩=some (.int .i64 tn)∧w5.cell? ⟨w.heap.size,2,none⟩=some (.slice A es.length c)∧w5.cell? ⟨w2.heap.size,1,none⟩=some (.int .i64 tn):=⟨b0.cell 0 rfl,b0.cell 1 rfl,b0.cell 2 rfl,bt.cell 1 rfl⟩
   have hmm:=hm0.trans hm5;clear HE b0' bt';refine tkT 10 rfl hS2 ?_;try simp only [Act.put,zs1,zs2,zs3,zs4,zs5,zs6]
   refine rdT 11 rfl (fun K hK=>?_)
   (go_simp)
   refine hK.out _ _ (Or.inl rfl) (fun _=>?_);clear hK K;try simp only [Act.put,zs1,zs2,zs3,zs4,zs5,zs6]
   refine wpAnyT_done (by kernel_rfl) ?_ _;go_wp2_with fail;go_ret;exact ⟨rfl,hmm⟩
  ·obtain rfl:b=false:=bool_no HB.out fun h=>hts (HTS.out.2 h.leaf)
   have d1:((tn:Int) == (n:Int))=false:=by simpa only [beq_eq_false_iff_ne] using hts
   have d2:¬ tn=n:=fun h=>hts (by rw [h]);have u0:=wg_cell b0.1 (b0.cell 0 rfl);have u1:=wg_cell b0.1 (b0.cell 1 rfl);have u2:=wg_cell b0.1 (b0.cell 2 rfl);have v1:=wg_cell bt.1 (bt.cell 1 rfl);clear HB HTS hts;refine wp_region_quiet_wg (by kernel_rfl) (by kernel_rfl) ?_;repeat
    (with_reducible refine wpQuiet_step (fun K hK=>?_))
    go_simp
    first
     | ((with_reducible refine hK _ ?_);clear hK K)
     | (rw [if_neg (by decide)];(with_reducible refine hK _ ?_);clear hK K)
     | (apply Exists.intro;refine ⟨fun _=>?_,hK _ ?_⟩;(fail);clear hK K)
   with_reducible refine wpQuiet_nil ?_
   intro _ hw';obtain ⟨⟨nq,osq⟩,hw''⟩:=hw';subst hw'';go_wp2_with fail;go_ret;exact ⟨rfl,hm0.trans (Mid.ofWg w3 nq osq)⟩
 ·obtain rfl:b=false:=bool_no HB.out fun h=>hf h.fol
  have HF:=Lib.hid hf;clear hf HB;go_enter Tryz.func88,Tryz.ntmps88
  go_wp2_with fail;with_reducible refine (impl_IsFolded r s A es c _ _ _ (hr.mid hm0 oZl) hl hcl false (iff_of_false Bool.false_ne_true HF.out)).mono ?_
  rintro en w1 ⟨rfl,hm1⟩;go_wp2_with fail;go_ret;exact ⟨rfl,hm0.trans hm1⟩
theorem spec_IsCore (r s:Int) (A:Option Addr) (es:List Ed) (c:Nat) (w:World) (lo hi:Nat) (hr:RG w lo hi A es) (hl:es.length≤1048576) (b:Bool) (hb:b=true↔IsCor r s es) :
  Calls Tryz.prog 166 #[graV r s A es.length c] w fun e w'=>e=.returned (.bool b)∧Mid 0 0 w w':=by
 have HB:=Lib.hid hb;clear hb;have hm0:Mid 0 0 w (w.alloc (.cells #[.int .i64 r,.int .i64 s,.slice A es.length c] 26)):=Mid.alloc _ _;have b0:=Box.new w #[.int .i64 r,.int .i64 s,.slice A es.length c] 26;by_cases hf:IsFol r s es
 ·obtain ⟨r,n,rfl,rfl⟩:=hf.gr.nat
  have HF:=Lib.hid hf;clear hf;have hFol:=fun W h=>spec_IsFolded r n A es c W lo hi h hl true (iff_of_true rfl HF.out);have hLeaf:=fun W h=>spec_l8Leaf r n A es c W lo hi h HF.out.gr;obtain ⟨lf,hlf⟩:∃ lf,leafI n es=lf:=⟨_,rfl⟩
  have HLF:=Lib.hid hlf;simp only [hlf] at hLeaf;clear hlf;have HFol:=Lib.hid hFol;have HLeaf:=Lib.hid hLeaf;clear hFol hLeaf;by_cases hln:leaf n es=none
  ·have hlf0:lf = -1:=by rw [← HLF.out,leafI_none hln]
   subst hlf0;obtain ⟨C,hC⟩:∃ C,canonG r ((n:Int),es)=C:=⟨_,rfl⟩
   have hCg:IsGr r C.1 C.2:=by rw [← hC];exact canonG_gr (g:=((n:Int),es)) HF.out.gr
   have HB2:Hid (b=true↔(r:Int)=r∧C.1=n∧C.2=es):=Lib.hid (by
    rw [HB.out];constructor
    ·intro h
     have h1:=h.canon;rw [hC] at h1;exact ⟨rfl,by rw [h1],by rw [h1]⟩
    ·rintro ⟨-,h1,h2⟩
     exact ⟨HF.out,hln,by rw [hC];exact Prod.ext h1 h2⟩)
   have hcl2:=hCg.len;have hCAN:=fun W h=>spec_CanonicalGraph r n A es c W lo hi h HF.out.gr;simp only [hC] at hCAN;have HCAN:=Lib.hid hCAN;clear hCAN hC hCg HB hln HLF;go_enter Tryz.func166,Tryz.ntmps166
   go_wp2_with fail;generalize w.alloc (.cells #[.int .i64 r,.int .i64 n,.slice A es.length c] 26)=w3 at b0 hm0 ⊢;have hmd:=Mid.drew1 w3;replace b0:=b0.mid hmd oZr;replace hm0:=hm0.trans hmd;have p0:=b0.cell 0 rfl;have p1:=b0.cell 1 rfl;have p2:=b0.cell 2 rfl;clear hmd;refine wp_region_T (S:=(fun w'=>w'.cell? ⟨w.heap.size,0,none⟩=some (.int .i64 r)∧w'.cell? ⟨w.heap.size,1,none⟩=some (.int .i64 n)∧w'.cell? ⟨w.heap.size,2,none⟩=some (.slice A es.length c))) 13 (by kernel_rfl) ⟨p0,p1,p2⟩ ?_;generalize World.drew w3=wz at b0 hm0 p0 p1 p2 ⊢;have hS:wz.cell? ⟨w.heap.size,0,none⟩=some (.int .i64 r)∧wz.cell? ⟨w.heap.size,1,none⟩=some (.int .i64 n)∧wz.cell? ⟨w.heap.size,2,none⟩=some (.slice A es.length c):=⟨p0,p1,p2⟩
   refine tkT 0 rfl hS ?_;try simp only [Act.put,zs1,zs2,zs3,zs4,zs5,zs6]
   refine rdT 1 rfl (fun K hK=>?_)
   (go_simp;refine (HFol.out _ (hr.mid hm0 oZl)).mono ?_;rintro en w4 ⟨rfl,hm4⟩;have b1:=b0.mid hm4 oZr;go_wp2_with fail)
   refine hK.out _ _ (Or.inr ⟨b1.cell 0 rfl,b1.cell 1 rfl,b1.cell 2 rfl⟩) (fun _=>?_);clear hK K;try simp only [Act.put,zs1,zs2,zs3,zs4,zs5,zs6]
   replace hm0:=hm0.trans hm4;have hS4:w4.cell? ⟨w.heap.size,0,none⟩=some (.int .i64 r)∧w4.cell? ⟨w.heap.size,1,none⟩=some (.int .i64 n)∧w4.cell? ⟨w.heap.size,2,none⟩=some (.slice A es.length c):=⟨b1.cell 0 rfl,b1.cell 1 rfl,b1.cell 2 rfl⟩
   clear b0 hS p0 p1 p2 hm4 HFol;refine tkT 2 rfl hS4 ?_;try simp only [Act.put,zs1,zs2,zs3,zs4,zs5,zs6]
   refine tkT 3 rfl hS4 ?_;try simp only [Act.put,zs1,zs2,zs3,zs4,zs5,zs6]
   refine rdT 4 rfl (fun K hK=>?_)
   (go_simp;refine (HLeaf.out _ (hr.mid hm0 oZl)).mono ?_;rintro en w5 ⟨rfl,hm5⟩;have b2:=b1.mid hm5 oZr;go_wp2_with fail)
   refine hK.out _ _ (Or.inr ⟨b2.cell 0 rfl,b2.cell 1 rfl,b2.cell 2 rfl⟩) (fun _=>?_);clear hK K;try simp only [Act.put,zs1,zs2,zs3,zs4,zs5,zs6]
   replace hm0:=hm0.trans hm5;have hS5:w5.cell? ⟨w.heap.size,0,none⟩=some (.int .i64 r)∧w5.cell? ⟨w.heap.size,1,none⟩=some (.int .i64 n)∧w5.cell? ⟨w.heap.size,2,none⟩=some (.slice A es.length c):=⟨b2.cell 0 rfl,b2.cell 1 rfl,b2.cell 2 rfl⟩
   clear b1 hS4 hm5 HLeaf;refine tkT 5 rfl hS5 ?_;try simp only [Act.put,zs1,zs2,zs3,zs4,zs5,zs6]
   refine tkT 6 rfl hS5 ?_;try simp only [Act.put,zs1,zs2,zs3,zs4,zs5,zs6]
   refine tkT 7 rfl hS5 ?_;try simp only [Act.put,zs1,zs2,zs3,zs4,zs5,zs6]
   refine tkT 8 rfl hS5 ?_;try simp only [Act.put,zs1,zs2,zs3,zs4,zs5,zs6]
   refine tkT 10 rfl hS5 ?_;try simp only [Act.put,zs1,zs2,zs3,zs4,zs5,zs6]
   refine rdT 9 rfl (fun K hK=>?_)
   (go_simp;refine (HCAN.out _ (hr.mid hm0 oZl)).mono ?_;rintro en w6 ⟨A6,c6,rfl,hog6,hm6⟩;have b3:=b2.mid hm6 oZr;go_wp2_with fail)
   refine hK.out _ _ (Or.inr ⟨b3.cell 0 rfl,b3.cell 1 rfl,b3.cell 2 rfl⟩) (fun _=>?_);clear hK K;try simp only [Act.put,zs1,zs2,zs3,zs4,zs5,zs6]
   replace hm0:=hm0.trans hm6;have hE:=spec_EqualGraphs r C.1 A6 C.2 c6 r n A es c w6 _ _ _ _ hog6.rg (hr.mid hm0 oZl) (by omega) hl b (by have h:=HB2.out;simpa using h);have HE:=Lib.hid hE;clear hS5 b2 HCAN HB2 hE hm6;refine rdT 11 rfl (fun K hK=>?_)
   (go_simp;refine HE.out.mono ?_;rintro en w7 ⟨rfl,hm7⟩;have b4:=b3.mid hm7 oZr;go_wp2_with fail)
   refine hK.out _ _ (Or.inr ⟨b4.cell 0 rfl,b4.cell 1 rfl,b4.cell 2 rfl⟩) (fun _=>?_);clear hK K;try simp only [Act.put,zs1,zs2,zs3,zs4,zs5,zs6]
   have hS7:w7.cell? ⟨w.heap.size,0,none⟩=some (.int .i64 r)∧w7.cell? ⟨w.heap.size,1,none⟩=some (.int .i64 n)∧w7.cell? ⟨w.heap.size,2,none⟩=some (.slice A es.length c):=⟨b4.cell 0 rfl,b4.cell 1 rfl,b4.cell 2 rfl⟩
   have hmm:=hm0.trans hm7;clear HE b3;refine tkT 12 rfl hS7 ?_;try simp only [Act.put,zs1,zs2,zs3,zs4,zs5,zs6]
   refine rdT 13 rfl (fun K hK=>?_)
   (go_simp)
   refine hK.out _ _ (Or.inl rfl) (fun _=>?_);clear hK K;try simp only [Act.put,zs1,zs2,zs3,zs4,zs5,zs6]
   refine wpAnyT_done (by kernel_rfl) ?_ _;go_wp2_with fail;go_ret;exact ⟨rfl,hmm⟩
  ·obtain rfl:b=false:=bool_no HB.out fun h=>hln h.leaf
   obtain ⟨v,hv⟩:∃ v:Nat,leaf n es=some v:=by
    cases h:leaf n es with
    | none=>exact absurd h hln
    | some v=>exact ⟨v,rfl⟩
   have hlf0:lf=v:=by rw [← HLF.out,leafI_some hv]
   subst hlf0;have d1:decide ((v:Int) < 0)=false:=by simp
   clear HB hln hv HLF;go_enter Tryz.func166,Tryz.ntmps166
   go_wp2_with fail;generalize w.alloc (.cells #[.int .i64 r,.int .i64 n,.slice A es.length c] 26)=w3 at b0 hm0 ⊢;have u0:=wg_cell b0.1 (b0.cell 0 rfl);have u1:=wg_cell b0.1 (b0.cell 1 rfl);have u2:=wg_cell b0.1 (b0.cell 2 rfl);have hA1:=fun m os=>HFol.out (wg w3 m os) (hr.mid (hm0.trans (Mid.ofWg w3 m os)) oZl);have hA2:=fun m os=>HLeaf.out (wg w3 m os) (hr.mid (hm0.trans (Mid.ofWg w3 m os)) oZl);refine wp_region_quiet_wg (by kernel_rfl) (by kernel_rfl) ?_;repeat
    (with_reducible refine wpQuiet_step (fun K hK=>?_))
    go_simp
    first
     | ((with_reducible refine hK _ ?_);clear hK K)
     | (rw [if_neg (by decide)];(with_reducible refine hK _ ?_);clear hK K)
     | (apply Exists.intro;refine ⟨fun _=>?_,hK _ ?_⟩;((first | (go_at_call 130;exact Calls.wg_of (hA1 _ _)) | (go_at_call 205;exact Calls.wg_of (hA2 _ _))));clear hK K)
   with_reducible refine wpQuiet_nil ?_
   intro _ hw';obtain ⟨⟨nq,osq⟩,hw''⟩:=hw';subst hw'';go_wp2_with fail;go_ret;exact ⟨rfl,hm0.trans (Mid.ofWg w3 nq osq)⟩
 ·obtain rfl:b=false:=bool_no HB.out fun h=>hf h.fol
  have hFol:=fun W h=>spec_IsFolded r s A es c W lo hi h hl false (iff_of_false Bool.false_ne_true hf);have HFol:=Lib.hid hFol;clear hf HB hFol;go_enter Tryz.func166,Tryz.ntmps166
  go_wp2_with fail;generalize w.alloc (.cells #[.int .i64 r,.int .i64 s,.slice A es.length c] 26)=w3 at b0 hm0 ⊢;have u0:=wg_cell b0.1 (b0.cell 0 rfl);have u1:=wg_cell b0.1 (b0.cell 1 rfl);have u2:=wg_cell b0.1 (b0.cell 2 rfl);have hA1:=fun m os=>HFol.out (wg w3 m os) (hr.mid (hm0.trans (Mid.ofWg w3 m os)) oZl);refine wp_region_quiet_wg (by kernel_rfl) (by kernel_rfl) ?_;repeat
   (with_reducible refine wpQuiet_step (fun K hK=>?_))
   go_simp
   first
    | ((with_reducible refine hK _ ?_);clear hK K)
    | (rw [if_neg (by decide)];(with_reducible refine hK _ ?_);clear hK K)
    | (apply Exists.intro;refine ⟨fun _=>?_,hK _ ?_⟩;((go_at_call 130;exact Calls.wg_of (hA1 _ _)));clear hK K)
  with_reducible refine wpQuiet_nil ?_
  intro _ hw';obtain ⟨⟨nq,osq⟩,hw''⟩:=hw';subst hw'';go_wp2_with fail;go_ret;exact ⟨rfl,hm0.trans (Mid.ofWg w3 nq osq)⟩
theorem spec_IsSubgroup (r s:Int) (A:Option Addr) (es:List Ed) (c:Nat) (w:World) (lo hi:Nat) (hr:RG w lo hi A es) (hl:es.length≤1048576) (b:Bool) (hb:b=true↔IsCor r s es) :
  Calls Tryz.prog 90 #[graV r s A es.length c] w fun e w'=>e=.returned (.bool b)∧Mid 0 0 w w':=by
 have hm0:Mid 0 0 w (w.alloc (.cells #[.int .i64 r,.int .i64 s,.slice A es.length c] 26)):=Mid.alloc _ _;have HB:=Lib.hid hb;clear hb;go_enter Tryz.func90,Tryz.ntmps90
 go_wp2_with fail;with_reducible refine (spec_IsCore r s A es c _ _ _ (hr.mid hm0 oZl) hl b HB.out).mono ?_
 rintro en w1 ⟨rfl,hm1⟩;go_wp2_with fail;go_ret;exact ⟨rfl,hm0.trans hm1⟩
end
section
open Go.RowKit
def Full (r n:Nat) (es:List Ed):Prop:=∀ v:Nat,v < n→∀ x∈lets r,0≤nextV es v x
def FullTo (r:Nat) (es:List Ed) (v j:Nat):Prop:=(∀ u:Nat,u < v→∀ x∈lets r,0≤nextV es u x)∧∀ x∈(lets r).take j,0≤nextV es v x
theorem FullTo.zero (r:Nat) (es:List Ed):FullTo r es 0 0:=⟨fun u h=>absurd h (Nat.not_lt_zero _),by simp⟩
theorem FullTo.step {r:Nat} {es:List Ed} {v j:Nat} {x:Int} (hx:(lets r)[j]?=some x):FullTo r es v (j+1)↔FullTo r es v j∧0≤nextV es v x:=by
 unfold FullTo;rw [take_snocI hx];constructor
 ·rintro ⟨h1,h2⟩
  exact ⟨⟨h1,fun y hy=>h2 y (List.mem_append.2 (.inl hy))⟩,h2 x (by simp)⟩
 ·rintro ⟨⟨h1,h2⟩,h3⟩
  refine ⟨h1,fun y hy=>?_⟩;rcases List.mem_append.1 hy with hy | hy
  ·exact h2 y hy
  ·simp at hy;subst hy;exact h3
theorem FullTo.row {r:Nat} {es:List Ed} {v:Nat}:FullTo r es v (lets r).length↔FullTo r es (v+1) 0:=by
 unfold FullTo;rw [List.take_length];constructor
 ·rintro ⟨h1,h2⟩
  refine ⟨fun u hu x hx=>?_,by simp⟩;by_cases h:u < v
  ·exact h1 u h x hx
  ·obtain rfl:u=v:=by omega
   exact h2 x hx
 ·rintro ⟨h1, -⟩
  exact ⟨fun u hu x hx=>h1 u (by omega) x hx,fun x hx=>h1 v (by omega) x hx⟩
theorem FullTo.all {r n:Nat} {es:List Ed}:FullTo r es n 0↔Full r n es:=⟨fun h=>h.1,fun h=>⟨h,by simp⟩⟩
theorem impl_lettersO (n:Nat) (w:World) (hn:n≤1000) :
  Calls Tryz.prog 134 #[.int .i64 n] w fun e w'=>∃ A c,e=.returned (.slice A (lets n).length c)∧w'.ownsRow w.heap.size 3 1 (.slice A (lets n).length c) (lets n).length (ints (lets n))∧Mid 0 0 w w':=by
 have hm0:Mid 0 0 w (w.alloc (.cells #[] 3)):=Mid.alloc _ _;have O0:=owns_empty w 3 1;go_enter Tryz.func134,Tryz.ntmps134
 go_wp2_with fail;go_loopw [3,4] (fun out i wr=>∃ (k:Nat) (A1:Option Addr) (c1 n1:Nat),k≤n∧i=.int .i64 ((k:Int)+1)∧out=.slice A1 n1 c1∧Hid ((lets k).length=n1) ∧
   wr.ownsRow w.heap.size 3 1 (.slice A1 n1 c1) n1 (ints (lets k))∧Mid 0 0 w wr∧w.heap.size≤wr.heap.size) (fun _ i _=>(n+1 - intOf i).toNat)
 case atStart=>exact ⟨0,_,0,0,Nat.zero_le _,rfl,rfl,Lib.hid rfl,O0,hm0,hm0.size⟩
 case round =>
  obtain ⟨k,A1,c1,n1,hk,rfl,rfl,HN,hown,hm,hsz⟩:=hrel;have hn1:n1≤2000:=by have h1:=lets_len k;have h2:=HN.out;omega
  by_cases hlt:k < n
  ·have hkn:(k:Int)+1≤n:=by omega
   have hk0:(0:Int)≤(k:Int):=by omega
   have b4:wrap64 (-((k:Int)+1)) = -((k:Int)+1):=by unfold wrap64;omega
   have HW:=Lib.hid hown;clear hown;go_wp2_with (at_builtin;refine wpList_push rfl _ _ 34 rfl w.heap.size 3 (.int .i64 0) 1 8 undSI infoI rfl (by decide) _ _ _ rfl HW.out 2 [.int .i64 ((k:Int)+1),.int .i64 (-((k:Int)+1))] rfl rfl ?c1 ?c2 ?c3 hsz ?next)
   case c1=>exact one_of_ints [(k:Int)+1, -((k:Int)+1)]
   case c2=>unfold maxLen;omega
   case c3=>omega
   case next =>
    intro v' w3 hown1 hgr _;obtain ⟨A3,c3,rfl, -, -⟩:=owns_shape hown1;have hm3:=Mid.of_grownRow HW.out hgr;go_wp2_with fail;go_roundw
    case rel =>
     refine ⟨k+1,A3,c3,n1+2,by omega,by go_num,rfl,Lib.hid (by have:=HN.out;simp [lets];omega),?_,hm.transNew hm3 (Or.inl (Nat.le_refl _)),Nat.le_trans hsz hm3.size⟩;rw [lets,ints_append];exact hown1
    case measure=>simp [intOf];omega
  ·obtain rfl:k=n:=by omega
   have hx:=HN.out;have hsz2:=hm.size;go_wp2_with fail;go_ret;exact ⟨_,_,(by rw [hx];rfl),(by rw [hx];exact hown),hm⟩
theorem spec_l5LettersO (n:Nat) (w:World) (hn:n≤1000) :
  Calls Tryz.prog 137 #[.int .i64 n] w fun e w'=>∃ A c,e=.returned (.slice A (lets n).length c)∧w'.ownsRow w.heap.size 3 1 (.slice A (lets n).length c) (lets n).length (ints (lets n))∧Mid 0 0 w w':=by
 have hm0:Mid 0 0 w (w.alloc (.cells #[] 3)):=Mid.alloc _ _;have O0:=owns_empty w 3 1;go_enter Tryz.func137,Tryz.ntmps137
 go_wp2_with fail;go_loopw [3,4] (fun out i wr=>∃ (k:Nat) (A1:Option Addr) (c1 n1:Nat),k≤n∧i=.int .i64 ((k:Int)+1)∧out=.slice A1 n1 c1∧Hid ((lets k).length=n1) ∧
   wr.ownsRow w.heap.size 3 1 (.slice A1 n1 c1) n1 (ints (lets k))∧Mid 0 0 w wr∧w.heap.size≤wr.heap.size) (fun _ i _=>(n+1 - intOf i).toNat)
 case atStart=>exact ⟨0,_,0,0,Nat.zero_le _,rfl,rfl,Lib.hid rfl,O0,hm0,hm0.size⟩
 case round =>
  obtain ⟨k,A1,c1,n1,hk,rfl,rfl,HN,hown,hm,hsz⟩:=hrel;have hn1:n1≤2000:=by have h1:=lets_len k;have h2:=HN.out;omega
  by_cases hlt:k < n
  ·have hkn:(k:Int)+1≤n:=by omega
   have hk0:(0:Int)≤(k:Int):=by omega
   have b4:wrap64 (-((k:Int)+1)) = -((k:Int)+1):=by unfold wrap64;omega
   have HW:=Lib.hid hown;clear hown;go_wp2_with (first | (at_builtin;refine wpList_pushI rfl _ _ rfl w.heap.size A1 n1 c1 (lets k) rfl HW.out ((k:Int)+1) rfl (by omega) hsz ?_;intro A2 c2 w2 hown2 hm2;have hsz2:=Nat.le_trans hsz hm2.size;have HW2:=Lib.hid hown2;clear hown2) | (at_builtin;refine wpList_pushI rfl _ _ rfl w.heap.size A2 (n1+1) c2 (lets k++[(k:Int)+1]) rfl HW2.out (-((k:Int)+1)) rfl (by omega) hsz2 ?_;intro A3 c3 w3 hown3 hm3))
   go_roundw
   case rel =>
    refine ⟨k+1,A3,c3,n1+1+1,by omega,by go_num,rfl,Lib.hid (by have:=HN.out;simp [lets];omega),?_,(hm.transNew hm2 (Or.inl (Nat.le_refl _))).transNew hm3 (Or.inl (Nat.le_refl _)),Nat.le_trans hsz2 hm3.size⟩;rw [List.append_assoc] at hown3;exact hown3
   case measure=>simp [intOf];omega
  ·obtain rfl:k=n:=by omega
   have hx:=HN.out;have hsz2:=hm.size;go_wp2_with fail;go_ret;exact ⟨_,_,(by rw [hx];rfl),(by rw [hx];exact hown),hm⟩
theorem impl_MissingSteps (r n:Nat) (A:Option Addr) (es:List Ed) (c:Nat) (w:World) (lo hi:Nat) (hr:RG w lo hi A es) (hcl:es.length≤c) (hf:IsFol r n es) :
  Calls Tryz.prog 139 #[graV r n A es.length c] w fun e w'=>∃ A1 n1 c1,e=.returned (.slice A1 n1 c1)∧(n1=0↔Full r n es)∧Mid 0 0 w w':=by
 have hg:=hf.gr;have hn40:n≤40:=by have:=hg.size;omega
 have hr3:r≤3:=by have:=hg.rank;omega
 have hl:=hg.len;have HGL:=Lib.hid (show ∀ e∈es,1≤e.l∧e.l≤3 from fun e he=>by have:=hg.all e he;unfold InG at this;omega);have HF:=Lib.hid hf;have hm0:Mid 0 0 w ((w.alloc (.cells #[.int .i64 r,.int .i64 n,.slice A es.length c] 26)).alloc (.cells #[] 68)):=(Mid.alloc _ _).trans (Mid.alloc _ _);have b0:=(Box.new w #[.int .i64 r,.int .i64 n,.slice A es.length c] 26).mid (Mid.alloc _ (.cells #[] 68)) oZr;have O0:=owns_empty (w.alloc (.cells #[.int .i64 r,.int .i64 n,.slice A es.length c] 26)) 68 3;rw [World.size_alloc] at O0;clear hf hg;go_enter Tryz.func139,Tryz.ntmps139
 go_wp2_with fail;with_reducible refine (impl_IsFolded r n A es c _ _ _ (hr.mid hm0 oZl) (by omega) hcl true (iff_of_true rfl HF.out)).mono ?_
 rintro en w1 ⟨rfl,hm1⟩;replace b0:=b0.mid hm1 oZr;replace O0:=owns_mid O0 hm1 oZl;replace hm0:=hm0.trans hm1;clear hm1;go_wp2_with fail;go_loopw [3,4] (fun out vv wr=>∃ (v:Nat) (A1:Option Addr) (n1 c1:Nat) (fs:List Ed),v≤n∧vv=.int .i64 v∧out=.slice A1 n1 c1∧n1≤6 * v∧Hid (n1=0↔FullTo r es v 0)∧wr.ownsRow (w.heap.size+1) 68 3 (.slice A1 n1 c1) n1 (ints (edI fs)) ∧
   Box wr w.heap.size [.int .i64 r,.int .i64 n,.slice A es.length c]∧Mid 0 0 w wr) (fun _ v _=>n - (intOf v).toNat)
 case atStart=>exact ⟨0,_,0,0,[],Nat.zero_le _,rfl,rfl,Nat.le_refl _,Lib.hid (iff_of_true rfl (FullTo.zero r es)),O0,b0,hm0⟩
 case round =>
  clear O0 b0 hm0;obtain ⟨wo,hwo⟩:∃ wo,wo=wr:=⟨_,rfl⟩
  subst hwo;obtain ⟨v,A1,n1,c1,fs,hv,rfl,rfl,hn1,HQ,hout,b0,hm⟩:=hrel;have p0:=b0.cell 0 rfl;have p1:=b0.cell 1 rfl;have p2:=b0.cell 2 rfl;by_cases hlt:v < n
  ·have hv3:(v:Int) < (n:Int):=by omega
   have hv0:(0:Int)≤(v:Int):=by omega
   go_wp2_with fail;with_reducible refine (impl_lettersO r _ (by omega)).mono ?_
   rintro en w4 ⟨A4,c4,rfl,hL4,hm4⟩;have hwo1:w.heap.size < wo.heap.size:=b0.1;replace b0:=b0.mid hm4 oZr;replace hout:=owns_mid hout hm4 oZl;replace hm:=hm.trans hm4;clear p0 p1 p2 hm4;have HLL:=Lib.hid (lets_len r);obtain ⟨LL,hLL⟩:∃ LL,(lets r).length=LL:=⟨_,rfl⟩
   have hLL6:LL≤6:=by have:=HLL.out;omega
   rw [hLL] at hL4 ⊢;have HLn:=Lib.hid hLL;clear hLL;go_wp2_with fail;go_loopw [3,22] (fun out jv wr=>∃ (j:Nat) (A1:Option Addr) (n1 c1:Nat) (fs:List Ed),j≤LL∧jv=.int .i64 j∧out=.slice A1 n1 c1∧n1≤6 * v+j∧Hid (n1=0↔FullTo r es v j)∧wr.ownsRow (w.heap.size+1) 68 3 (.slice A1 n1 c1) n1 (ints (edI fs)) ∧
     Hid (wr.ownsRow wo.heap.size 3 1 (.slice A4 LL c4) LL (ints (lets r)))∧Box wr w.heap.size [.int .i64 r,.int .i64 n,.slice A es.length c]∧Mid 0 0 w wr) (fun _ j _=>LL - (intOf j).toNat)
   case atStart=>exact ⟨0,A1,n1,c1,fs,Nat.zero_le _,rfl,rfl,hn1,HQ,hout,Lib.hid hL4,b0,hm⟩
   case round =>
    clear hout hL4 b0 hm HQ;obtain ⟨j,A1,n1,c1,fs,hj,rfl,rfl,hn1,HQ,hout,HL4,b0,hm⟩:=hrel;by_cases hlt2:j < LL
    ·obtain ⟨B4,o4,x,rfl,hB4,hx,hcx⟩:=(owns_rv HL4.out).at (k:=j) (by rw [HLn.out];exact hlt2)
     have hxm:=lets_le (List.mem_of_getElem? hx);have HST:=Lib.hid (FullTo.step (es:=es) (v:=v) hx);have hj1:(j:Int) < (LL:Int):=by omega
     have hj0:(0:Int)≤(j:Int):=by omega
     have hcs:=nextV_cases HF.out.gr.all (v:Int) x;have p0:=b0.cell 0 rfl;have p1:=b0.cell 1 rfl;have p2:=b0.cell 2 rfl;clear hx;go_wp2_with fail;with_reducible refine (impl_NextVertex r n A es c v x _ lo hi (hr.mid hm oZl) (by omega) HGL.out (by omega) (by omega)).mono ?_
     rintro en w6 ⟨rfl,hm6⟩;replace b0:=b0.mid hm6 oZr;replace hout:=owns_mid hout hm6 oZl;replace hm:=hm.trans hm6;have hL6:=Lib.hid (owns_mid HL4.out hm6 oZl);generalize htx:nextV es (v:Int) x=t at hcs ⊢;rw [htx] at HST;clear p0 p1 p2 hcx htx HL4 hm6;by_cases ht:t < 0
     ·have d1:decide (t < 0)=true:=by simpa using ht
      have HNF:Hid (n1+1=0↔FullTo r es v (j+1)):=Lib.hid (iff_of_false (by omega) fun h=>by have:=(HST.out.1 h).2;omega);have HO:=Lib.hid hout;have hsz:w.heap.size+1≤w6.heap.size:=b0.1;clear ht hcs hout;go_wp2_with (at_builtin;refine wpList_pushE2 rfl _ _ rfl (w.heap.size+1) A1 n1 c1 fs rfl HO.out ⟨v,x, -1⟩ rfl (by omega) hsz ?_;intro A9 c9 w9 ho9 hgr9 hat9)
      clear hat9;have hm9:=Mid.of_grownRow HO.out hgr9;have hL9:=hL6.out.kept hgr9 (owns_ne hL6.out HO.out (by decide));go_roundw
      case rel=>exact ⟨j+1,A9,n1+1,c9,_,by omega,by go_num,rfl,by omega,HNF,ho9,Lib.hid hL9,b0.mid hm9 (Or.inl (Nat.lt_succ_self _)),hm.transNew hm9 (Or.inl (Nat.le_succ _))⟩
      case measure=>simp [intOf];omega
     ·have d1:decide (t < 0)=false:=by simpa using ht
      have HNF:Hid (n1=0↔FullTo r es v (j+1)):=Lib.hid (HQ.out.trans ⟨fun h=>HST.out.2 ⟨h,by omega⟩,fun h=>(HST.out.1 h).1⟩);clear ht hcs;go_wp2_with fail;go_roundw
      case rel=>exact ⟨j+1,A1,n1,c1,fs,by omega,by go_num,rfl,by omega,HNF,hout,hL6,b0,hm⟩
      case measure=>simp [intOf];omega
    ·obtain rfl:j=LL:=by omega
     have HNF:Hid (n1=0↔FullTo r es (v+1) 0):=Lib.hid (by rw [HQ.out,← HLn.out];exact FullTo.row);go_wp2_with fail;go_roundw
     case rel=>exact ⟨v+1,A1,n1,c1,fs,by omega,by go_num,rfl,by omega,HNF,hout,b0,hm⟩
     case measure=>simp [intOf];omega
  ·obtain rfl:v=n:=by omega
   have hres:=HQ.out.trans FullTo.all;have HRES:=Lib.hid hres;clear hres;go_wp2_with fail;go_ret;exact ⟨_,n1,_,rfl,HRES.out,hm⟩
theorem spec_MissingSteps (r n:Nat) (A:Option Addr) (es:List Ed) (c:Nat) (w:World) (lo hi:Nat) (hr:RG w lo hi A es) (hf:IsFol r n es) :
  Calls Tryz.prog 54 #[graV r n A es.length c] w fun e w'=>∃ A1 n1 c1,e=.returned (.slice A1 n1 c1)∧(n1=0↔Full r n es)∧Mid 0 0 w w':=by
 have hg:=hf.gr;have hn40:n≤40:=by have:=hg.size;omega
 have hr3:r≤3:=by have:=hg.rank;omega
 have hl:=hg.len;have HGL:=Lib.hid (show ∀ e∈es,1≤e.l∧e.l≤3 from fun e he=>by have:=hg.all e he;unfold InG at this;omega);have HF:=Lib.hid hf;have hm0:Mid 0 0 w ((w.alloc (.cells #[.int .i64 r,.int .i64 n,.slice A es.length c] 26)).alloc (.cells #[] 68)):=(Mid.alloc _ _).trans (Mid.alloc _ _);have b0:=(Box.new w #[.int .i64 r,.int .i64 n,.slice A es.length c] 26).mid (Mid.alloc _ (.cells #[] 68)) oZr;have O0:=owns_empty (w.alloc (.cells #[.int .i64 r,.int .i64 n,.slice A es.length c] 26)) 68 3;rw [World.size_alloc] at O0;clear hf hg;go_enter Tryz.func54,Tryz.ntmps54
 go_wp2_with fail;go_loopw [3,4] (fun out vv wr=>∃ (v:Nat) (A1:Option Addr) (n1 c1:Nat) (fs:List Ed),v≤n∧vv=.int .i64 v∧out=.slice A1 n1 c1∧n1≤6 * v∧Hid (n1=0↔FullTo r es v 0)∧wr.ownsRow (w.heap.size+1) 68 3 (.slice A1 n1 c1) n1 (ints (edI fs)) ∧
   Box wr w.heap.size [.int .i64 r,.int .i64 n,.slice A es.length c]∧Mid 0 0 w wr) (fun _ v _=>n - (intOf v).toNat)
 case atStart=>exact ⟨0,_,0,0,[],Nat.zero_le _,rfl,rfl,Nat.le_refl _,Lib.hid (iff_of_true rfl (FullTo.zero r es)),O0,b0,hm0⟩
 case round =>
  clear O0 b0 hm0;obtain ⟨wo,hwo⟩:∃ wo,wo=wr:=⟨_,rfl⟩
  subst hwo;obtain ⟨v,A1,n1,c1,fs,hv,rfl,rfl,hn1,HQ,hout,b0,hm⟩:=hrel;have p0:=b0.cell 0 rfl;have p1:=b0.cell 1 rfl;have p2:=b0.cell 2 rfl;by_cases hlt:v < n
  ·have hv3:(v:Int) < (n:Int):=by omega
   have hv0:(0:Int)≤(v:Int):=by omega
   go_wp2_with fail;with_reducible refine (spec_IsFolded r n A es c _ _ _ (hr.mid hm oZl) (by omega) true (iff_of_true rfl HF.out)).mono ?_
   rintro en w3 ⟨rfl,hm3⟩;have hwo1:w.heap.size < wo.heap.size:=b0.1;replace b0:=b0.mid hm3 oZr;replace hout:=owns_mid hout hm3 oZl;replace hm:=hm.trans hm3;have hwo3:=hm3.size;clear p0 p1 p2 hm3;have p0:=b0.cell 0 rfl;have p1:=b0.cell 1 rfl;have p2:=b0.cell 2 rfl;go_wp2_with fail;with_reducible refine (spec_l5LettersO r _ (by omega)).mono ?_
   rintro en w4 ⟨A4,c4,rfl,hL4,hm4⟩;replace hL4:=owns_base hL4 hwo3;replace b0:=b0.mid hm4 oZr;replace hout:=owns_mid hout hm4 oZl;replace hm:=hm.trans hm4;clear p0 p1 p2 hm4;have HLL:=Lib.hid (lets_len r);obtain ⟨LL,hLL⟩:∃ LL,(lets r).length=LL:=⟨_,rfl⟩
   have hLL6:LL≤6:=by have:=HLL.out;omega
   rw [hLL] at hL4 ⊢;have HLn:=Lib.hid hLL;clear hLL;go_wp2_with fail;go_loopw [3,6] (fun out jv wr=>∃ (j:Nat) (A1:Option Addr) (n1 c1:Nat) (fs:List Ed),j≤LL∧jv=.int .i64 j∧out=.slice A1 n1 c1∧n1≤6 * v+j∧Hid (n1=0↔FullTo r es v j)∧wr.ownsRow (w.heap.size+1) 68 3 (.slice A1 n1 c1) n1 (ints (edI fs)) ∧
     Hid (wr.ownsRow wo.heap.size 3 1 (.slice A4 LL c4) LL (ints (lets r)))∧Box wr w.heap.size [.int .i64 r,.int .i64 n,.slice A es.length c]∧Mid 0 0 w wr) (fun _ j _=>LL - (intOf j).toNat)
   case atStart=>exact ⟨0,A1,n1,c1,fs,Nat.zero_le _,rfl,rfl,hn1,HQ,hout,Lib.hid hL4,b0,hm⟩
   case round =>
    clear hout hL4 b0 hm HQ;obtain ⟨j,A1,n1,c1,fs,hj,rfl,rfl,hn1,HQ,hout,HL4,b0,hm⟩:=hrel;by_cases hlt2:j < LL
    ·obtain ⟨B4,o4,x,rfl,hB4,hx,hcx⟩:=(owns_rv HL4.out).at (k:=j) (by rw [HLn.out];exact hlt2)
     have hxm:=lets_le (List.mem_of_getElem? hx);have HST:=Lib.hid (FullTo.step (es:=es) (v:=v) hx);have HX:=Lib.hid hx;have hj1:(j:Int) < (LL:Int):=by omega
     have hj0:(0:Int)≤(j:Int):=by omega
     have hcs:=nextV_cases HF.out.gr.all (v:Int) x;have k0:=wg_cell b0.1 (b0.cell 0 rfl);have k1:=wg_cell b0.1 (b0.cell 1 rfl);have k2:=wg_cell b0.1 (b0.cell 2 rfl);have k4:=wg_cell hB4 hcx;have hA:=fun m os=>spec_NextVertex r n A es c v x (wg wr m os) lo hi (hr.mid (hm.trans (Mid.ofWg wr m os)) oZl) (by omega) HGL.out (by omega) (by omega);clear hx;go_wp2_with fail;refine wp_region_quiet_wg (by kernel_rfl) (by kernel_rfl) ?_;repeat
      (with_reducible refine wpQuiet_step (fun K hK=>?_))
      go_simp
      first
       | ((with_reducible refine hK _ ?_);clear hK K)
       | (rw [if_neg (by decide)];(with_reducible refine hK _ ?_);clear hK K)
       | (apply Exists.intro;refine ⟨fun _=>?_,hK _ ?_⟩;((go_at_call 138;exact Calls.wg_of (hA _ _)));clear hK K)
     with_reducible refine wpQuiet_nil ?_
     intro _ hw';obtain ⟨⟨nq,osq⟩,hw''⟩:=hw';subst hw'';have hwg:=Mid.ofWg wr nq osq;have hcx6:=k4 nq osq;have hB6:=Nat.lt_of_lt_of_le hB4 hwg.size;generalize wg wr nq osq=w6 at hwg hcx6 hB6 ⊢;replace b0:=b0.mid hwg oZr;replace hout:=owns_mid hout hwg oZl;replace hm:=hm.trans hwg;have hL6:=Lib.hid (owns_mid HL4.out hwg oZl);generalize htx:nextV es (v:Int) x=t at hcs ⊢;rw [htx] at HST;clear k0 k1 k2 k4 hcx htx HL4 hA hwg;by_cases ht:t < 0
     ·have d1:decide (t < 0)=true:=by simpa using ht
      have HNF:Hid (n1+1=0↔FullTo r es v (j+1)):=Lib.hid (iff_of_false (by omega) fun h=>by have:=(HST.out.1 h).2;omega);have HO:=Lib.hid hout;have hsz:w.heap.size+1≤w6.heap.size:=b0.1;try simp only [d1]
      clear hcs hout;go_wp2_with (at_builtin;refine wpList_pushE2 rfl _ _ rfl (w.heap.size+1) A1 n1 c1 fs rfl HO.out ⟨v,x, -1⟩ rfl (by omega) hsz ?_;intro A9 c9 w9 ho9 hgr9 hat9)
      clear hat9;have hm9:=Mid.of_grownRow HO.out hgr9;have hL9:=hL6.out.kept hgr9 (owns_ne hL6.out HO.out (by decide));go_roundw
      case rel=>exact ⟨j+1,A9,n1+1,c9,_,by omega,by go_num,rfl,by omega,HNF,ho9,Lib.hid hL9,b0.mid hm9 (Or.inl (Nat.lt_succ_self _)),hm.transNew hm9 (Or.inl (Nat.le_succ _))⟩
      case measure=>simp [intOf];omega
     ·have d1:decide (t < 0)=false:=by simpa using ht
      have HNF:Hid (n1=0↔FullTo r es v (j+1)):=Lib.hid (HQ.out.trans ⟨fun h=>HST.out.2 ⟨h,by omega⟩,fun h=>(HST.out.1 h).1⟩);try simp only [d1]
      clear hcs;go_wp2_with fail;go_roundw
      case rel=>exact ⟨j+1,_,n1,c1,fs,by omega,by go_num,rfl,by omega,HNF,hout,hL6,b0,hm⟩
      case measure=>simp [intOf];omega
    ·obtain rfl:j=LL:=by omega
     have HNF:Hid (n1=0↔FullTo r es (v+1) 0):=Lib.hid (by rw [HQ.out,← HLn.out];exact FullTo.row);go_wp2_with fail;go_roundw
     case rel=>exact ⟨v+1,A1,n1,c1,fs,by omega,by go_num,rfl,by omega,HNF,hout,b0,hm⟩
     case measure=>simp [intOf];omega
  ·obtain rfl:v=n:=by omega
   have hres:=HQ.out.trans FullTo.all;have HRES:=Lib.hid hres;clear hres;go_wp2_with fail;go_ret;exact ⟨_,n1,_,rfl,HRES.out,hm⟩
structure IsFin (r s:Int) (es:List Ed):Prop where
 cor:IsCor r s es
 full:Full r.toNat s.toNat es
theorem impl_IsFiniteIndex (r s:Int) (A:Option Addr) (es:List Ed) (c:Nat) (w:World) (lo hi:Nat) (hr:RG w lo hi A es) (hl:es.length≤1048576) (hcl:es.length≤c) (b:Bool) (hb:b=true↔IsFin r s es) :
  Calls Tryz.prog 47 #[graV r s A es.length c] w fun e w'=>e=.returned (.bool b)∧Mid 0 0 w w':=by
 have HB:=Lib.hid hb;clear hb;have hm0:Mid 0 0 w (w.alloc (.cells #[.int .i64 r,.int .i64 s,.slice A es.length c] 26)):=Mid.alloc _ _;have b0:=Box.new w #[.int .i64 r,.int .i64 s,.slice A es.length c] 26;by_cases h:IsCor r s es
 ·obtain ⟨r,n,rfl,rfl⟩:=h.gr.nat
  have HC:=Lib.hid h;clear h;go_enter Tryz.func47,Tryz.ntmps47
  go_wp2_with fail;with_reducible refine (impl_IsCore r n A es c _ _ _ (hr.mid hm0 oZl) hl hcl true (iff_of_true rfl HC.out)).mono ?_
  rintro en w1 ⟨rfl,hm1⟩;replace b0:=b0.mid hm1 oZr;replace hm0:=hm0.trans hm1;have p0:=b0.cell 0 rfl;have p1:=b0.cell 1 rfl;have p2:=b0.cell 2 rfl;go_wp2_with fail;with_reducible refine (impl_MissingSteps r n A es c _ _ _ (hr.mid hm0 oZl) hcl HC.out.fol).mono ?_
  rintro en w2 ⟨A2,n2,c2,rfl,hn2,hm2⟩;have hbn:b=true↔n2=0:=by
   rw [HB.out,hn2];exact ⟨fun h=>h.full,fun h=>⟨HC.out,h⟩⟩
  have hmm:=hm0.trans hm2;clear hn2 HB;by_cases h0:n2=0
  ·obtain rfl:b=true:=hbn.2 h0
   subst h0;go_wp2_with fail;go_ret;exact ⟨rfl,hmm⟩
  ·obtain rfl:b=false:=bool_no hbn h0
   have d1:((n2:Int) == 0)=false:=by simp only [beq_eq_false_iff_ne];omega
   clear hbn;go_wp2_with fail;go_ret;exact ⟨rfl,hmm⟩
 ·obtain rfl:b=false:=bool_no HB.out fun h'=>h h'.cor
  have HC:=Lib.hid h;clear h HB;go_enter Tryz.func47,Tryz.ntmps47
  go_wp2_with fail;with_reducible refine (impl_IsCore r s A es c _ _ _ (hr.mid hm0 oZl) hl hcl false (iff_of_false Bool.false_ne_true HC.out)).mono ?_
  rintro en w1 ⟨rfl,hm1⟩;go_wp2_with fail;go_ret;exact ⟨rfl,hm0.trans hm1⟩
theorem spec_IsFiniteIndex (r s:Int) (A:Option Addr) (es:List Ed) (c:Nat) (w:World) (lo hi:Nat) (hr:RG w lo hi A es) (hl:es.length≤1048576) (b:Bool) (hb:b=true↔IsFin r s es) :
  Calls Tryz.prog 120 #[graV r s A es.length c] w fun e w'=>e=.returned (.bool b)∧Mid 0 0 w w':=by
 have HB:=Lib.hid hb;clear hb;have hm0:Mid 0 0 w (w.alloc (.cells #[.int .i64 r,.int .i64 s,.slice A es.length c] 26)):=Mid.alloc _ _;have b0:=Box.new w #[.int .i64 r,.int .i64 s,.slice A es.length c] 26;by_cases h:IsCor r s es
 ·obtain ⟨r,n,rfl,rfl⟩:=h.gr.nat
  have HC:=Lib.hid h;clear h;go_enter Tryz.func120,Tryz.ntmps120
  go_wp2_with fail;with_reducible refine (spec_IsSubgroup r n A es c _ _ _ (hr.mid hm0 oZl) hl true (iff_of_true rfl HC.out)).mono ?_
  rintro en w1 ⟨rfl,hm1⟩;replace b0:=b0.mid hm1 oZr;replace hm0:=hm0.trans hm1;have p0:=b0.cell 0 rfl;have p1:=b0.cell 1 rfl;have p2:=b0.cell 2 rfl;go_wp2_with fail;with_reducible refine (spec_MissingSteps r n A es c _ _ _ (hr.mid hm0 oZl) HC.out.fol).mono ?_
  rintro en w2 ⟨A2,n2,c2,rfl,hn2,hm2⟩;have hbn:b=true↔n2=0:=by
   rw [HB.out,hn2];exact ⟨fun h=>h.full,fun h=>⟨HC.out,h⟩⟩
  have hmm:=hm0.trans hm2;clear hn2 HB;by_cases h0:n2=0
  ·obtain rfl:b=true:=hbn.2 h0
   subst h0;go_wp2_with fail;go_ret;exact ⟨rfl,hmm⟩
  ·obtain rfl:b=false:=bool_no hbn h0
   have d1:((n2:Int) == 0)=false:=by simp only [beq_eq_false_iff_ne];omega
   clear hbn;go_wp2_with fail;go_ret;exact ⟨rfl,hmm⟩
 ·obtain rfl:b=false:=bool_no HB.out fun h'=>h h'.cor
  have HC:=Lib.hid h;clear h HB;go_enter Tryz.func120,Tryz.ntmps120
  go_wp2_with fail;with_reducible refine (spec_IsSubgroup r s A es c _ _ _ (hr.mid hm0 oZl) hl false (iff_of_false Bool.false_ne_true HC.out)).mono ?_
  rintro en w1 ⟨rfl,hm1⟩;go_wp2_with fail;go_ret;exact ⟨rfl,hm0.trans hm1⟩
end
def rdA (es:List Ed):Int→List Int→Int × Nat
 | v,[]=>(v,0)
 | v,x :: t=>if nextV es v x < 0 then (v,0) else ((rdA es (nextV es v x) t).1,(rdA es (nextV es v x) t).2+1)
def mvOrd (s v:Int):List Int:=v :: but v.toNat s.toNat
noncomputable def moveA (r s:Int) (es:List Ed) (v:Int):Int × List Ed:=coreA r (s,partE (mvOrd s v) es)
theorem mvOrd_ok {s v:Int} (h:0≤v∧v < s):(mvOrd s v).length=s.toNat∧(mvOrd s v).Nodup∧∀ x∈mvOrd s v,0≤x∧x < s:=by
 refine ⟨?_,?_,?_⟩
 ·have:=but_len v.toNat (k:=s.toNat) (by omega)
  simp only [mvOrd,List.length_cons,this];omega
 ·refine List.nodup_cons.2 ⟨fun hm=>?_,but_nodup _ _⟩
  obtain ⟨u, -,hu,he⟩:=mem_but.1 hm;omega
 ·intro x hx
  rcases List.mem_cons.1 hx with rfl | hx
  ·exact h
  ·have:=but_range hx
   omega
theorem mv_gr {r s:Int} {es:List Ed} {v:Int} (hg:IsGr r s es) (h:0≤v∧v < s):IsGr r s (partE (mvOrd s v) es):=by
 obtain ⟨h1, -, -⟩:=mvOrd_ok h;have h2:=partE_gr hg (order:=mvOrd s v) (by simp [mvOrd]) (by have:=hg.size;omega);rw [h1] at h2;rw [show ((s.toNat:Nat):Int)=s by omega] at h2;exact h2
theorem moveA_gr {r s:Int} {es:List Ed} {v:Int} (hg:IsGr r s es) (h:0≤v∧v < s):IsGr r (moveA r s es v).1 (moveA r s es v).2:=coreA_gr (g:=(s,partE (mvOrd s v) es)) (mv_gr hg h)
def MoveIs (r s:Int) (es:List Ed) (v:Int) (rs:Int) (res:List Ed) (b:Bool):Prop :=
 (b=true∧(IsFol r s es∧0≤v∧v < s)∧rs=(moveA r s es v).1∧res=(moveA r s es v).2) ∨ (b=false∧¬ (IsFol r s es∧0≤v∧v < s)∧rs=s∧res=es)
def petalA (g:Int × List Ed) (w:List Int):Int × List Ed:=if w=[] then g else (g.1+(w.length:Int) - 1,canon (g.2++pathE 0 g.1 w 0 w.length))
def flowA (l:List (List Int)) (g:Int × List Ed):Int × List Ed:=l.foldl petalA g
theorem flowA_take {l:List (List Int)} {k:Nat} {w:List Int} (h:l[k]?=some w) (g:Int × List Ed):flowA (l.take (k+1)) g=petalA (flowA (l.take k) g) w:=by
 unfold flowA;rw [List.take_add_one,h];simp [List.foldl_append]
section
open Go.RowKit
end
section
open Go.RowKit
def PathIs (r s:Int) (es:List Ed) (u:Int) (wd:List Int) (v:Int) (rs:Int) (res:List Ed) (b:Bool):Prop :=
 (b=true∧PathOk r s es u wd v∧rs=s+(wd.length:Int) - 1∧res=canon (es++pathE u s wd v wd.length)) ∨ (b=false∧¬ PathOk r s es u wd v∧rs=s∧res=es)
theorem PathIs.no {r s:Int} {es:List Ed} {u:Int} {wd:List Int} {v rs:Int} {res:List Ed} {b:Bool} (h:PathIs r s es u wd v rs res b) (hn:¬ PathOk r s es u wd v):b=false∧rs=s∧res=es:=by
 rcases h with ⟨-,h, -⟩ | ⟨h1, -,h2⟩
 ·exact absurd h hn
 ·exact ⟨h1,h2⟩
theorem PathIs.yes {r s:Int} {es:List Ed} {u:Int} {wd:List Int} {v rs:Int} {res:List Ed} {b:Bool} (h:PathIs r s es u wd v rs res b) (hn:PathOk r s es u wd v):b=true∧rs=s+(wd.length:Int) - 1∧res=canon (es++pathE u s wd v wd.length):=by
 rcases h with ⟨h1, -,h2⟩ | ⟨-,h, -⟩
 ·exact ⟨h1,h2⟩
 ·exact absurd hn h
theorem has_bool {x s:Int} (h1:1≤s) (h2:s≤40) {b:Bool} (hb:b=true↔0≤x∧x < s):inB x 0 (wrap64 (s - 1))=b∧inB x 0 (s - 1)=b:=by
 have hw:wrap64 (s - 1)=s - 1:=by unfold wrap64;omega
 rw [hw];have h3:inB x 0 (s - 1)=b:=by
  cases b with
  | true=>have:=hb.1 rfl;unfold inB;simp;omega
  | false =>
   have h:¬ (0≤x∧x < s):=fun h=>by have:=hb.2 h;cases this
   unfold inB;simp;omega
 exact ⟨h3,h3⟩
end
def foldsUp (es:List Ed):Nat→List (Int × Int)
 | 0=>[]
 | k+1=>foldsUp es k++(match es[k]? with | none=>[] | some e=>(es.drop (k+1)).flatMap (foldsAB e))
theorem foldsUp_succ {es:List Ed} {k:Nat} {e:Ed} (h:es[k]?=some e):foldsUp es (k+1)=foldsUp es k++(es.drop (k+1)).flatMap (foldsAB e):=by
 rw [foldsUp,h]
theorem foldsUp_cons (f:Ed) (t:List Ed):∀ k,foldsUp (f :: t) (k+1)=t.flatMap (foldsAB f)++foldsUp t k
 | 0=>by simp [foldsUp]
 | k+1=>by
  rw [foldsUp,foldsUp_cons f t k,foldsUp,List.append_assoc];simp
theorem foldsUp_all:∀ es:List Ed,foldsUp es es.length=folds es
 | []=>rfl
 | f :: t=>by rw [List.length_cons,foldsUp_cons,foldsUp_all t,folds]
theorem foldsAB_len (e f:Ed):(foldsAB e f).length≤2:=by
 unfold foldsAB;split
 ·split <;> split <;> simp
 ·simp
theorem flat_len (e:Ed):∀ t:List Ed,(t.flatMap (foldsAB e)).length≤2 * t.length
 | []=>by simp
 | f :: t=>by
  have:=flat_len e t;have:=foldsAB_len e f;rw [List.flatMap_cons,List.length_append,List.length_cons];omega
theorem foldsUp_len (es:List Ed):∀ k,(foldsUp es k).length≤k * (2 * es.length)
 | 0=>by simp [foldsUp]
 | k+1=>by
  have:=foldsUp_len es k;rw [foldsUp,List.length_append,Nat.succ_mul];cases h:es[k]? with
  | none=>simp;omega
  | some e =>
   have h1:=flat_len e (es.drop (k+1));rw [List.length_drop] at h1;simp only;omega
def fdI (ps:List (Int × Int)):List Int:=(ps.map fun p=>[p.1,p.2]).flatten
theorem fdI_append (a b:List (Int × Int)):fdI (a++b)=fdI a++fdI b:=by simp [fdI]
theorem fdI_one (p:Int × Int):fdI [p]=[p.1,p.2]:=by simp [fdI]
theorem fdI_head (p:Int × Int) (t:List (Int × Int)):fdI (p :: t)=p.1 :: p.2 :: fdI t:=by simp [fdI]
theorem flat_take {e:Ed} {fs:List Ed} {j:Nat} {f:Ed} (h:fs[j]?=some f):(fs.take (j+1)).flatMap (foldsAB e)=(fs.take j).flatMap (foldsAB e)++foldsAB e f:=by
 rw [take_snoc h,List.flatMap_append];simp
section
open Go.RowKit
theorem infoF:(Tryz.prog.info? 130).map (fun i=>(i.zero,i.size,i.bytes))=some (some (.agg #[.int .i64 0,.int .i64 0]),2,16):=by kernel_rfl
theorem undSF:Tryz.prog.underlying 103=some (.slice 130):=by kernel_rfl
section
variable {W:World} {ops:Array Oper} {rest:List Oper} {o:Oper} {a:Act} {Q:Exit→Act→World→Prop}
theorem wpList_pushF (hgd:o.guard=none) (s x:Operand)
  (ho:o.op=.call { callee:=.builtin .append,args:=#[s,x],argTypes:=#[103,103] }) (lo:Nat) (A:Option Addr) (n c:Nat) (ps:List (Int × Int)) (hs:a.eval s=.slice A n c)
  (hown:W.ownsRow lo 130 2 (.slice A n c) n (ints (fdI ps))) (p:Int × Int) (hx:a.eval x=.slice (some ⟨W.heap.size,0,none⟩) 1 1) (hn:n≤1048576) (hb:lo≤W.heap.size)
  (h:∀ A' c' w',w'.ownsRow lo 130 2 (.slice A' (n+1) c') (n+1) (ints (fdI (ps++[p])))→W.grownBy w' (Value.ownBlock (.slice A n c))→(Value.ownBlock (.slice A' (n+1) c')=Value.ownBlock (.slice A n c) ∨ Value.ownBlock (.slice A' (n+1) c')=some (W.heap.size+1))→wpList Tryz.prog ops Q rest (a.put o.dst (.slice A' (n+1) c')) w') :
  wpList Tryz.prog ops Q (o :: rest) a (W.alloc (.cells #[.int .i64 p.1,.int .i64 p.2] 130)):=by
 refine wpList_push (news:=[.int .i64 p.1,.int .i64 p.2]) hgd s x 103 ho lo 130 (.agg #[.int .i64 0,.int .i64 0]) 2 16 undSF infoF rfl (by decide) (.slice A n c) n (ints (fdI ps)) hs hown 1 hx rfl ?_ (by unfold maxLen;omega) (by omega) hb ?_
 ·intro u hu
  simp at hu;rcases hu with rfl | rfl <;> rfl
 ·intro v' w' h1 h2 h3
  obtain ⟨A',c',rfl, -, -⟩:=owns_shape h1;refine h A' c' w' ?_ h2 h3;rw [fdI_append,ints_append,fdI_one];exact h1
end
theorem impl_folds (r s:Int) (A:Option Addr) (es:List Ed) (c:Nat) (w:World) (lo hi:Nat) (hr:RG w lo hi A es) (hl:es.length≤120) (hcl:es.length≤c) :
  Calls Tryz.prog 244 #[graV r s A es.length c] w fun e w'=>∃ A1 c1,e=.returned (.slice A1 (folds es).length c1)∧RV w' 0 w'.heap.size A1 (ints (fdI (folds es)))∧Mid 0 0 w w':=by
 have hm0:Mid 0 0 w ((w.alloc (.cells #[.int .i64 r,.int .i64 s,.slice A es.length c] 26)).alloc (.cells #[] 130)):=(Mid.alloc _ _).trans (Mid.alloc _ _);have b0:=(Box.new w #[.int .i64 r,.int .i64 s,.slice A es.length c] 26).mid (Mid.alloc _ (.cells #[] 130)) oZr;have O0:=owns_empty (w.alloc (.cells #[.int .i64 r,.int .i64 s,.slice A es.length c] 26)) 130 2;rw [World.size_alloc] at O0;go_enter Tryz.func244,Tryz.ntmps244
 go_wp2_with fail;go_loopw [3,12] (fun out iv wr=>∃ (k:Nat) (A1:Option Addr) (n1 c1:Nat),k≤es.length∧iv=.int .i64 k∧out=.slice A1 n1 c1∧Hid ((foldsUp es k).length=n1)∧wr.ownsRow (w.heap.size+1) 130 2 (.slice A1 n1 c1) n1 (ints (fdI (foldsUp es k))) ∧
   Box wr w.heap.size [.int .i64 r,.int .i64 s,.slice A es.length c]∧Mid 0 0 w wr) (fun _ i _=>es.length - (intOf i).toNat)
 case atStart=>exact ⟨0,_,0,0,Nat.zero_le _,rfl,rfl,Lib.hid rfl,O0,b0,hm0⟩
 case round =>
  clear O0 b0 hm0;obtain ⟨wo,hwo⟩:∃ wo,wo=wr:=⟨_,rfl⟩
  subst hwo;obtain ⟨k,A1,n1,c1,hk,rfl,rfl,HN,hown,b0,hm⟩:=hrel;by_cases hlt:k < es.length
  ·obtain ⟨B,off,e,rfl, -,hbh,he,e0,e1,e2⟩:=(hr.mid hm oZl).ed hlt
   have HE:=Lib.hid he;have hk0:(0:Int)≤(k:Int):=by omega
   have hk1:(k:Int) < (es.length:Int):=by omega
   have hk2:(k:Int)+1≤(es.length:Int):=by omega
   have hal:=Mid.alloc wo (.cells #[.int .i64 e.a,.int .i64 e.l,.int .i64 e.b] 68);have ZE:=Box.new wo #[.int .i64 e.a,.int .i64 e.l,.int .i64 e.b] 68;have HNE:=Lib.hid (show Value.ownBlock (.slice A1 n1 c1)≠some wo.heap.size from fun h=>by have:=(hown.lt _ h).2;omega);have hown1:=hown.alloc (.cells #[.int .i64 e.a,.int .i64 e.l,.int .i64 e.b] 68);have b1:=b0.mid hal oZr;have hm1:=hm.trans hal;have h0o:=b0.1;have p0:=b0.cell 0 rfl;have p1:=b0.cell 1 rfl;have p2:=b0.cell 2 rfl;clear he hown;by_cases hck:c=k+1
   ·have hrd:RG w lo hi (some ⟨B,off,none⟩) (es.drop (k+1)):=⟨hr.1,fun h=>absurd (show ints (edI (es.drop (k+1)))=[] by rw [List.drop_of_length_le (by omega)];rfl) h⟩
    have hckF:(c=k+1)=True:=eq_true hck;have hce:k+1≤c:=by omega
    clear hck;go_wp2_with fail;clear p0 p1 p2 e0 e1 e2;go_loopw [3,23] (fun out jv wr=>∃ (j:Nat) (A2:Option Addr) (n2 c2:Nat),j≤es.length - (k+1)∧jv=.int .i64 j∧out=.slice A2 n2 c2∧Hid ((foldsUp es k++((es.drop (k+1)).take j).flatMap (foldsAB e)).length=n2) ∧
      wr.ownsRow (w.heap.size+1) 130 2 (.slice A2 n2 c2) n2 (ints (fdI (foldsUp es k++((es.drop (k+1)).take j).flatMap (foldsAB e))))∧Hid (Value.ownBlock (.slice A2 n2 c2)≠some wo.heap.size) ∧
      Box wr w.heap.size [.int .i64 r,.int .i64 s,.slice (some ⟨B,off,none⟩) es.length c]∧Box wr wo.heap.size [.int .i64 e.a,.int .i64 e.l,.int .i64 e.b]∧Mid 0 0 w wr) (fun _ j _=>es.length - (k+1) - (intOf j).toNat)
    case atStart=>exact ⟨0,A1,n1,c1,Nat.zero_le _,rfl,rfl,Lib.hid (by simpa using HN.out),by simpa using hown1,HNE,b1,ZE,hm1⟩
    case round =>
     clear hown1 b1 ZE hm1 HN HNE;obtain ⟨j,A2,n2,c2,hj,rfl,rfl,HN,hown,HNE,b0,ZE,hm⟩:=hrel;have hn2:n2≤40000:=by
      have h1:=foldsUp_len es k;have h2:=flat_len e ((es.drop (k+1)).take j);have h3:=HN.out;have h4:k * (2 * es.length)≤120 * 240:=Nat.mul_le_mul (by omega) (by omega);rw [List.length_append] at h3;rw [List.length_take,List.length_drop] at h2;omega
     by_cases hlt2:j < es.length - (k+1)
     ·obtain ⟨B',off',f,hX, -,hbh2,hf,f0,f1,f2⟩:=(hrd.mid hm oZl).ed (k:=j) (by rw [List.length_drop];exact hlt2)
      injection hX with hX
      injection hX with hX1 hX2
      subst hX1 hX2;have HF:=Lib.hid (flat_take (e:=e) hf);have hj0:(0:Int)≤(j:Int):=by omega
      have hjn:(j:Int) < ((es.length - (k+1):Nat):Int):=by omega
      have hal:=Mid.alloc wr (.cells #[.int .i64 f.a,.int .i64 f.l,.int .i64 f.b] 68);have ZF:=Box.new wr #[.int .i64 f.a,.int .i64 f.l,.int .i64 f.b] 68;have hGw:wo.heap.size < wr.heap.size:=ZE.1;have h0r:w.heap.size < wr.heap.size:=b0.1;have HFE:=Lib.hid (show Value.ownBlock (.slice A2 n2 c2)≠some wr.heap.size from fun h=>by have:=(hown.lt _ h).2;omega);have hownA:=hown.alloc (.cells #[.int .i64 f.a,.int .i64 f.l,.int .i64 f.b] 68);have hB0:=Lib.hid (fun (g:Nat) (h:Value.ownBlock (.slice A2 n2 c2)=some g)=>(hown.lt g h).1);replace b0:=b0.mid hal oZr;replace ZE:=ZE.mid hal oZr;replace hm:=hm.trans hal;have g0:=ZE.cell 0 rfl;have g1:=ZE.cell 1 rfl;have g2:=ZE.cell 2 rfl;have h0:=ZF.cell 0 rfl;have h1:=ZF.cell 1 rfl;have h2:=ZF.cell 2 rfl;have HW:=Lib.hid hownA;have hszA:w.heap.size+1≤(wr.alloc (.cells #[.int .i64 f.a,.int .i64 f.l,.int .i64 f.b] 68)).heap.size:=by simp;omega
      clear hf hown hownA;by_cases e1:e.l=f.l
      ·have d1:(e.l != f.l)=false:=by simpa using e1
       by_cases e2:e.a=f.a
       ·have d2:(e.a == f.a)=true:=by simpa using e2
        by_cases e3:e.b=f.b
        ·have d3:(e.b == f.b)=true:=by simpa using e3
         have hAB:foldsAB e f=[(min e.b f.b,max e.b f.b),(min e.a f.a,max e.a f.a)]:=by simp [foldsAB,e1,e2,e3]
         have HAB:Hid (foldsUp es k++((es.drop (k+1)).take (j+1)).flatMap (foldsAB e)=(foldsUp es k++((es.drop (k+1)).take j).flatMap (foldsAB e))++[(min e.b f.b,max e.b f.b)]++[(min e.a f.a,max e.a f.a)]):=Lib.hid (by rw [HF.out,hAB];simp);clear e1 e2 e3 hAB;go_wp2_with (first | (at_builtin;refine wpList_pushF rfl _ _ rfl (w.heap.size+1) A2 n2 c2 _ rfl HW.out (min e.b f.b,max e.b f.b) (by rw [World.size_alloc];rfl) (by omega) hszA ?_;intro A8 c8 w8 ho8 hgr8 hat8;have ZE8:=ZE.grown hgr8 HNE.out;have ZF8:=ZF.grown hgr8 HFE.out;have g80:=ZE8.cell 0 rfl;have g81:=ZE8.cell 1 rfl;have g82:=ZE8.cell 2 rfl;have h80:=ZF8.cell 0 rfl;have h81:=ZF8.cell 1 rfl;have h82:=ZF8.cell 2 rfl;have HW8:=Lib.hid ho8;have hsz8:=Nat.le_trans hszA hgr8.size;clear ho8) | (at_builtin;refine wpList_pushF rfl _ _ rfl (w.heap.size+1) A8 (n2+1) c8 _ rfl HW8.out (min e.a f.a,max e.a f.a) rfl (by omega) hsz8 ?_;intro A9 c9 w9 ho9 hgr9 hat9))
         have hm8:=Mid.of_grownRow HW.out hgr8;have hm9:=Mid.of_grownRow HW8.out hgr9;have hs8:wr.heap.size+1≤w8.heap.size:=by have:=hgr8.size;simpa using this
         have HN8:Hid (Value.ownBlock (.slice A8 (n2+1) c8)≠some wo.heap.size):=Lib.hid (by
          rcases hat8 with h | h
          ·rw [h];exact HNE.out
          ·rw [h]
           intro he;injection he with he
           simp at he;omega)
         have HN9:Hid (Value.ownBlock (.slice A9 (n2+1+1) c9)≠some wo.heap.size):=Lib.hid (by
          rcases hat9 with h | h
          ·rw [h];exact HN8.out
          ·rw [h]
           intro he;injection he with he
           omega)
         have HB8:=Lib.hid (fun (g:Nat) (h:Value.ownBlock (.slice A8 (n2+1) c8)=some g)=>(HW8.out.lt g h).1);clear hat9 hat8;go_roundw
         case rel=>exact ⟨j+1,A9,n2+1+1,c9,by omega,by go_num,rfl,Lib.hid (by rw [HAB.out,List.length_append,List.length_append,HN.out];rfl),by rw [HAB.out];exact ho9,HN9,(b0.grown hgr8 (fun h=>by have:=hB0.out _ h;omega)).grown hgr9 (fun h=>by have:=HB8.out _ h;omega),ZE8.grown hgr9 HN8.out,(hm.transNew hm8 (Or.inl (Nat.le_succ _))).transNew hm9 (Or.inl (Nat.le_succ _))⟩
         case measure=>simp [intOf];omega
        ·have d3:(e.b == f.b)=false:=by simpa only [beq_eq_false_iff_ne] using e3
         have hAB:foldsAB e f=[(min e.b f.b,max e.b f.b)]:=by simp [foldsAB,e1,e2,e3]
         have HAB:Hid (foldsUp es k++((es.drop (k+1)).take (j+1)).flatMap (foldsAB e)=(foldsUp es k++((es.drop (k+1)).take j).flatMap (foldsAB e))++[(min e.b f.b,max e.b f.b)]):=Lib.hid (by rw [HF.out,hAB,List.append_assoc]);clear e1 e2 e3 hAB;go_wp2_with (at_builtin;refine wpList_pushF rfl _ _ rfl (w.heap.size+1) A2 n2 c2 _ rfl HW.out (min e.b f.b,max e.b f.b) (by rw [World.size_alloc];rfl) (by omega) hszA ?_;intro A9 c9 w9 ho9 hgr9 hat9;have ZE8:=ZE.grown hgr9 HNE.out;have ZF8:=ZF.grown hgr9 HFE.out;have g80:=ZE8.cell 0 rfl;have g81:=ZE8.cell 1 rfl;have g82:=ZE8.cell 2 rfl;have h80:=ZF8.cell 0 rfl;have h81:=ZF8.cell 1 rfl;have h82:=ZF8.cell 2 rfl)
         have hm9:=Mid.of_grownRow HW.out hgr9;have HN9:Hid (Value.ownBlock (.slice A9 (n2+1) c9)≠some wo.heap.size):=Lib.hid (by
          rcases hat9 with h | h
          ·rw [h];exact HNE.out
          ·rw [h]
           intro he;injection he with he
           simp at he;omega)
         clear hat9;go_roundw
         case rel=>exact ⟨j+1,A9,n2+1,c9,by omega,by go_num,rfl,Lib.hid (by rw [HAB.out,List.length_append,HN.out];rfl),by rw [HAB.out];exact ho9,HN9,b0.grown hgr9 (fun h=>by have:=hB0.out _ h;omega),ZE.grown hgr9 HNE.out,hm.transNew hm9 (Or.inl (Nat.le_succ _))⟩
         case measure=>simp [intOf];omega
       ·have d2:(e.a == f.a)=false:=by simpa only [beq_eq_false_iff_ne] using e2
        by_cases e3:e.b=f.b
        ·have d3:(e.b == f.b)=true:=by simpa using e3
         have hAB:foldsAB e f=[(min e.a f.a,max e.a f.a)]:=by simp [foldsAB,e1,e2,e3]
         have HAB:Hid (foldsUp es k++((es.drop (k+1)).take (j+1)).flatMap (foldsAB e)=(foldsUp es k++((es.drop (k+1)).take j).flatMap (foldsAB e))++[(min e.a f.a,max e.a f.a)]):=Lib.hid (by rw [HF.out,hAB,List.append_assoc]);clear e1 e2 e3 hAB;go_wp2_with (at_builtin;refine wpList_pushF rfl _ _ rfl (w.heap.size+1) A2 n2 c2 _ rfl HW.out (min e.a f.a,max e.a f.a) (by rw [World.size_alloc];rfl) (by omega) hszA ?_;intro A9 c9 w9 ho9 hgr9 hat9;have ZE8:=ZE.grown hgr9 HNE.out;have ZF8:=ZF.grown hgr9 HFE.out;have g80:=ZE8.cell 0 rfl;have g81:=ZE8.cell 1 rfl;have g82:=ZE8.cell 2 rfl;have h80:=ZF8.cell 0 rfl;have h81:=ZF8.cell 1 rfl;have h82:=ZF8.cell 2 rfl)
         have hm9:=Mid.of_grownRow HW.out hgr9;have HN9:Hid (Value.ownBlock (.slice A9 (n2+1) c9)≠some wo.heap.size):=Lib.hid (by
          rcases hat9 with h | h
          ·rw [h];exact HNE.out
          ·rw [h]
           intro he;injection he with he
           simp at he;omega)
         clear hat9;go_roundw
         case rel=>exact ⟨j+1,A9,n2+1,c9,by omega,by go_num,rfl,Lib.hid (by rw [HAB.out,List.length_append,HN.out];rfl),by rw [HAB.out];exact ho9,HN9,b0.grown hgr9 (fun h=>by have:=hB0.out _ h;omega),ZE.grown hgr9 HNE.out,hm.transNew hm9 (Or.inl (Nat.le_succ _))⟩
         case measure=>simp [intOf];omega
        ·have d3:(e.b == f.b)=false:=by simpa only [beq_eq_false_iff_ne] using e3
         have hAB:foldsAB e f=[]:=by simp [foldsAB,e1,e2,e3]
         have HAB:Hid (((es.drop (k+1)).take (j+1)).flatMap (foldsAB e)=((es.drop (k+1)).take j).flatMap (foldsAB e)):=Lib.hid (by rw [HF.out,hAB,List.append_nil]);clear e1 e2 e3 hAB;go_wp2_with fail;go_roundw
         case rel=>exact ⟨j+1,A2,n2,c2,by omega,by go_num,rfl,by rw [HAB.out];exact HN,by rw [HAB.out];exact HW.out,HNE,b0,ZE,hm⟩
         case measure=>simp [intOf];omega
      ·have d1:(e.l != f.l)=true:=by simpa using e1
       have hAB:foldsAB e f=[]:=by unfold foldsAB;rw [if_neg e1]
       have HAB:Hid (((es.drop (k+1)).take (j+1)).flatMap (foldsAB e)=((es.drop (k+1)).take j).flatMap (foldsAB e)):=Lib.hid (by rw [HF.out,hAB,List.append_nil]);clear e1 hAB;go_wp2_with fail;go_roundw
       case rel=>exact ⟨j+1,A2,n2,c2,by omega,by go_num,rfl,by rw [HAB.out];exact HN,by rw [HAB.out];exact HW.out,HNE,b0,ZE,hm⟩
       case measure=>simp [intOf];omega
     ·obtain rfl:j=es.length - (k+1):=by omega
      rw [List.take_of_length_le (by rw [List.length_drop];exact Nat.le_refl _),← foldsUp_succ HE.out] at HN hown;go_wp2_with fail;go_roundw
      case rel=>exact ⟨k+1,A2,n2,c2,by omega,by go_num,rfl,HN,hown,b0,hm⟩
      case measure=>simp [intOf];omega
   ·have hrd:=hr.drop (k:=k+1)
    have hckF:(c=k+1)=False:=eq_false hck;have hce:k+1≤c:=by omega
    clear hck;go_wp2_with fail;clear p0 p1 p2 e0 e1 e2;go_loopw [3,23] (fun out jv wr=>∃ (j:Nat) (A2:Option Addr) (n2 c2:Nat),j≤es.length - (k+1)∧jv=.int .i64 j∧out=.slice A2 n2 c2∧Hid ((foldsUp es k++((es.drop (k+1)).take j).flatMap (foldsAB e)).length=n2) ∧
      wr.ownsRow (w.heap.size+1) 130 2 (.slice A2 n2 c2) n2 (ints (fdI (foldsUp es k++((es.drop (k+1)).take j).flatMap (foldsAB e))))∧Hid (Value.ownBlock (.slice A2 n2 c2)≠some wo.heap.size) ∧
      Box wr w.heap.size [.int .i64 r,.int .i64 s,.slice (some ⟨B,off,none⟩) es.length c]∧Box wr wo.heap.size [.int .i64 e.a,.int .i64 e.l,.int .i64 e.b]∧Mid 0 0 w wr) (fun _ j _=>es.length - (k+1) - (intOf j).toNat)
    case atStart=>exact ⟨0,A1,n1,c1,Nat.zero_le _,rfl,rfl,Lib.hid (by simpa using HN.out),by simpa using hown1,HNE,b1,ZE,hm1⟩
    case round =>
     clear hown1 b1 ZE hm1 HN HNE;obtain ⟨j,A2,n2,c2,hj,rfl,rfl,HN,hown,HNE,b0,ZE,hm⟩:=hrel;have hn2:n2≤40000:=by
      have h1:=foldsUp_len es k;have h2:=flat_len e ((es.drop (k+1)).take j);have h3:=HN.out;have h4:k * (2 * es.length)≤120 * 240:=Nat.mul_le_mul (by omega) (by omega);rw [List.length_append] at h3;rw [List.length_take,List.length_drop] at h2;omega
     by_cases hlt2:j < es.length - (k+1)
     ·obtain ⟨B',off',f,hX, -,hbh2,hf,f0,f1,f2⟩:=(hrd.mid hm oZl).ed (k:=j) (by rw [List.length_drop];exact hlt2)
      injection hX with hX
      injection hX with hX1 hX2
      subst hX1 hX2;have HF:=Lib.hid (flat_take (e:=e) hf);have hj0:(0:Int)≤(j:Int):=by omega
      have hjn:(j:Int) < ((es.length - (k+1):Nat):Int):=by omega
      have hal:=Mid.alloc wr (.cells #[.int .i64 f.a,.int .i64 f.l,.int .i64 f.b] 68);have ZF:=Box.new wr #[.int .i64 f.a,.int .i64 f.l,.int .i64 f.b] 68;have hGw:wo.heap.size < wr.heap.size:=ZE.1;have h0r:w.heap.size < wr.heap.size:=b0.1;have HFE:=Lib.hid (show Value.ownBlock (.slice A2 n2 c2)≠some wr.heap.size from fun h=>by have:=(hown.lt _ h).2;omega);have hownA:=hown.alloc (.cells #[.int .i64 f.a,.int .i64 f.l,.int .i64 f.b] 68);have hB0:=Lib.hid (fun (g:Nat) (h:Value.ownBlock (.slice A2 n2 c2)=some g)=>(hown.lt g h).1);replace b0:=b0.mid hal oZr;replace ZE:=ZE.mid hal oZr;replace hm:=hm.trans hal;have g0:=ZE.cell 0 rfl;have g1:=ZE.cell 1 rfl;have g2:=ZE.cell 2 rfl;have h0:=ZF.cell 0 rfl;have h1:=ZF.cell 1 rfl;have h2:=ZF.cell 2 rfl;have HW:=Lib.hid hownA;have hszA:w.heap.size+1≤(wr.alloc (.cells #[.int .i64 f.a,.int .i64 f.l,.int .i64 f.b] 68)).heap.size:=by simp;omega
      clear hf hown hownA;by_cases e1:e.l=f.l
      ·have d1:(e.l != f.l)=false:=by simpa using e1
       by_cases e2:e.a=f.a
       ·have d2:(e.a == f.a)=true:=by simpa using e2
        by_cases e3:e.b=f.b
        ·have d3:(e.b == f.b)=true:=by simpa using e3
         have hAB:foldsAB e f=[(min e.b f.b,max e.b f.b),(min e.a f.a,max e.a f.a)]:=by simp [foldsAB,e1,e2,e3]
         have HAB:Hid (foldsUp es k++((es.drop (k+1)).take (j+1)).flatMap (foldsAB e)=(foldsUp es k++((es.drop (k+1)).take j).flatMap (foldsAB e))++[(min e.b f.b,max e.b f.b)]++[(min e.a f.a,max e.a f.a)]):=Lib.hid (by rw [HF.out,hAB];simp);clear e1 e2 e3 hAB;go_wp2_with (first | (at_builtin;refine wpList_pushF rfl _ _ rfl (w.heap.size+1) A2 n2 c2 _ rfl HW.out (min e.b f.b,max e.b f.b) (by rw [World.size_alloc];rfl) (by omega) hszA ?_;intro A8 c8 w8 ho8 hgr8 hat8;have ZE8:=ZE.grown hgr8 HNE.out;have ZF8:=ZF.grown hgr8 HFE.out;have g80:=ZE8.cell 0 rfl;have g81:=ZE8.cell 1 rfl;have g82:=ZE8.cell 2 rfl;have h80:=ZF8.cell 0 rfl;have h81:=ZF8.cell 1 rfl;have h82:=ZF8.cell 2 rfl;have HW8:=Lib.hid ho8;have hsz8:=Nat.le_trans hszA hgr8.size;clear ho8) | (at_builtin;refine wpList_pushF rfl _ _ rfl (w.heap.size+1) A8 (n2+1) c8 _ rfl HW8.out (min e.a f.a,max e.a f.a) rfl (by omega) hsz8 ?_;intro A9 c9 w9 ho9 hgr9 hat9))
         have hm8:=Mid.of_grownRow HW.out hgr8;have hm9:=Mid.of_grownRow HW8.out hgr9;have hs8:wr.heap.size+1≤w8.heap.size:=by have:=hgr8.size;simpa using this
         have HN8:Hid (Value.ownBlock (.slice A8 (n2+1) c8)≠some wo.heap.size):=Lib.hid (by
          rcases hat8 with h | h
          ·rw [h];exact HNE.out
          ·rw [h]
           intro he;injection he with he
           simp at he;omega)
         have HN9:Hid (Value.ownBlock (.slice A9 (n2+1+1) c9)≠some wo.heap.size):=Lib.hid (by
          rcases hat9 with h | h
          ·rw [h];exact HN8.out
          ·rw [h]
           intro he;injection he with he
           omega)
         have HB8:=Lib.hid (fun (g:Nat) (h:Value.ownBlock (.slice A8 (n2+1) c8)=some g)=>(HW8.out.lt g h).1);clear hat9 hat8;go_roundw
         case rel=>exact ⟨j+1,A9,n2+1+1,c9,by omega,by go_num,rfl,Lib.hid (by rw [HAB.out,List.length_append,List.length_append,HN.out];rfl),by rw [HAB.out];exact ho9,HN9,(b0.grown hgr8 (fun h=>by have:=hB0.out _ h;omega)).grown hgr9 (fun h=>by have:=HB8.out _ h;omega),ZE8.grown hgr9 HN8.out,(hm.transNew hm8 (Or.inl (Nat.le_succ _))).transNew hm9 (Or.inl (Nat.le_succ _))⟩
         case measure=>simp [intOf];omega
        ·have d3:(e.b == f.b)=false:=by simpa only [beq_eq_false_iff_ne] using e3
         have hAB:foldsAB e f=[(min e.b f.b,max e.b f.b)]:=by simp [foldsAB,e1,e2,e3]
         have HAB:Hid (foldsUp es k++((es.drop (k+1)).take (j+1)).flatMap (foldsAB e)=(foldsUp es k++((es.drop (k+1)).take j).flatMap (foldsAB e))++[(min e.b f.b,max e.b f.b)]):=Lib.hid (by rw [HF.out,hAB,List.append_assoc]);clear e1 e2 e3 hAB;go_wp2_with (at_builtin;refine wpList_pushF rfl _ _ rfl (w.heap.size+1) A2 n2 c2 _ rfl HW.out (min e.b f.b,max e.b f.b) (by rw [World.size_alloc];rfl) (by omega) hszA ?_;intro A9 c9 w9 ho9 hgr9 hat9;have ZE8:=ZE.grown hgr9 HNE.out;have ZF8:=ZF.grown hgr9 HFE.out;have g80:=ZE8.cell 0 rfl;have g81:=ZE8.cell 1 rfl;have g82:=ZE8.cell 2 rfl;have h80:=ZF8.cell 0 rfl;have h81:=ZF8.cell 1 rfl;have h82:=ZF8.cell 2 rfl)
         have hm9:=Mid.of_grownRow HW.out hgr9;have HN9:Hid (Value.ownBlock (.slice A9 (n2+1) c9)≠some wo.heap.size):=Lib.hid (by
          rcases hat9 with h | h
          ·rw [h];exact HNE.out
          ·rw [h]
           intro he;injection he with he
           simp at he;omega)
         clear hat9;go_roundw
         case rel=>exact ⟨j+1,A9,n2+1,c9,by omega,by go_num,rfl,Lib.hid (by rw [HAB.out,List.length_append,HN.out];rfl),by rw [HAB.out];exact ho9,HN9,b0.grown hgr9 (fun h=>by have:=hB0.out _ h;omega),ZE.grown hgr9 HNE.out,hm.transNew hm9 (Or.inl (Nat.le_succ _))⟩
         case measure=>simp [intOf];omega
       ·have d2:(e.a == f.a)=false:=by simpa only [beq_eq_false_iff_ne] using e2
        by_cases e3:e.b=f.b
        ·have d3:(e.b == f.b)=true:=by simpa using e3
         have hAB:foldsAB e f=[(min e.a f.a,max e.a f.a)]:=by simp [foldsAB,e1,e2,e3]
         have HAB:Hid (foldsUp es k++((es.drop (k+1)).take (j+1)).flatMap (foldsAB e)=(foldsUp es k++((es.drop (k+1)).take j).flatMap (foldsAB e))++[(min e.a f.a,max e.a f.a)]):=Lib.hid (by rw [HF.out,hAB,List.append_assoc]);clear e1 e2 e3 hAB;go_wp2_with (at_builtin;refine wpList_pushF rfl _ _ rfl (w.heap.size+1) A2 n2 c2 _ rfl HW.out (min e.a f.a,max e.a f.a) (by rw [World.size_alloc];rfl) (by omega) hszA ?_;intro A9 c9 w9 ho9 hgr9 hat9;have ZE8:=ZE.grown hgr9 HNE.out;have ZF8:=ZF.grown hgr9 HFE.out;have g80:=ZE8.cell 0 rfl;have g81:=ZE8.cell 1 rfl;have g82:=ZE8.cell 2 rfl;have h80:=ZF8.cell 0 rfl;have h81:=ZF8.cell 1 rfl;have h82:=ZF8.cell 2 rfl)
         have hm9:=Mid.of_grownRow HW.out hgr9;have HN9:Hid (Value.ownBlock (.slice A9 (n2+1) c9)≠some wo.heap.size):=Lib.hid (by
          rcases hat9 with h | h
          ·rw [h];exact HNE.out
          ·rw [h]
           intro he;injection he with he
           simp at he;omega)
         clear hat9;go_roundw
         case rel=>exact ⟨j+1,A9,n2+1,c9,by omega,by go_num,rfl,Lib.hid (by rw [HAB.out,List.length_append,HN.out];rfl),by rw [HAB.out];exact ho9,HN9,b0.grown hgr9 (fun h=>by have:=hB0.out _ h;omega),ZE.grown hgr9 HNE.out,hm.transNew hm9 (Or.inl (Nat.le_succ _))⟩
         case measure=>simp [intOf];omega
        ·have d3:(e.b == f.b)=false:=by simpa only [beq_eq_false_iff_ne] using e3
         have hAB:foldsAB e f=[]:=by simp [foldsAB,e1,e2,e3]
         have HAB:Hid (((es.drop (k+1)).take (j+1)).flatMap (foldsAB e)=((es.drop (k+1)).take j).flatMap (foldsAB e)):=Lib.hid (by rw [HF.out,hAB,List.append_nil]);clear e1 e2 e3 hAB;go_wp2_with fail;go_roundw
         case rel=>exact ⟨j+1,A2,n2,c2,by omega,by go_num,rfl,by rw [HAB.out];exact HN,by rw [HAB.out];exact HW.out,HNE,b0,ZE,hm⟩
         case measure=>simp [intOf];omega
      ·have d1:(e.l != f.l)=true:=by simpa using e1
       have hAB:foldsAB e f=[]:=by unfold foldsAB;rw [if_neg e1]
       have HAB:Hid (((es.drop (k+1)).take (j+1)).flatMap (foldsAB e)=((es.drop (k+1)).take j).flatMap (foldsAB e)):=Lib.hid (by rw [HF.out,hAB,List.append_nil]);clear e1 hAB;go_wp2_with fail;go_roundw
       case rel=>exact ⟨j+1,A2,n2,c2,by omega,by go_num,rfl,by rw [HAB.out];exact HN,by rw [HAB.out];exact HW.out,HNE,b0,ZE,hm⟩
       case measure=>simp [intOf];omega
     ·obtain rfl:j=es.length - (k+1):=by omega
      rw [List.take_of_length_le (by rw [List.length_drop];exact Nat.le_refl _),← foldsUp_succ HE.out] at HN hown;go_wp2_with fail;go_roundw
      case rel=>exact ⟨k+1,A2,n2,c2,by omega,by go_num,rfl,HN,hown,b0,hm⟩
      case measure=>simp [intOf];omega
  ·obtain rfl:k=es.length:=by omega
   rw [foldsUp_all] at HN hown;have hx:=HN.out;go_wp2_with fail;go_ret;exact ⟨A1,c1,by rw [hx];rfl,(owns_rv hown).wide (Nat.zero_le _) (Nat.le_refl _) (Nat.le_refl _),hm⟩
end
section
open Go.RowKit
attribute [local go_sem ↓] Go.wp_at_zero Go.wp_at_succ
def FirstIs (es:List Ed) (p:Int × Int) (b:Bool):Prop:=(b=false∧folds es=[]∧p=(0,0)) ∨ (b=true∧∃ t,folds es=p :: t)
theorem impl_FirstFold (r s:Int) (A:Option Addr) (es:List Ed) (c:Nat) (w:World) (lo hi:Nat) (hr:RG w lo hi A es) (hcl:es.length≤c) (hg:IsGr r s es) (p:Int × Int) (b:Bool) (hp:FirstIs es p b) :
  Calls Tryz.prog 227 #[graV r s A es.length c] w fun e w'=>e=.returned (.tuple #[.agg #[.int .i64 p.1,.int .i64 p.2],.bool b])∧Mid 0 0 w w':=by
 have hl:=hg.len;have HG:=Lib.hid hg;have hm0:Mid 0 0 w ((w.alloc (.cells #[.int .i64 r,.int .i64 s,.slice A es.length c] 26)).alloc (.cells #[.int .i64 0,.int .i64 0] 130)):=(Mid.alloc _ _).trans (Mid.alloc _ _);have b0:=(Box.new w #[.int .i64 r,.int .i64 s,.slice A es.length c] 26).mid (Mid.alloc _ (.cells #[.int .i64 0,.int .i64 0] 130)) oZr;have b2:=Box.new (w.alloc (.cells #[.int .i64 r,.int .i64 s,.slice A es.length c] 26)) #[.int .i64 0,.int .i64 0] 130;rw [World.size_alloc] at b2;clear hg;obtain ⟨p1,p2⟩:=p;go_enter Tryz.func227,Tryz.ntmps227
 go_wp2_with fail;with_reducible refine (impl_IsGraph r s A es c _ _ _ (hr.mid hm0 oZl).rv (by omega) true (iff_of_true rfl HG.out)).mono ?_
 rintro en w1 ⟨rfl,hm1⟩;replace b0:=b0.mid hm1 oZr;replace b2:=b2.mid hm1 oZr;replace hm0:=hm0.trans hm1;have q0:=b0.cell 0 rfl;have q1:=b0.cell 1 rfl;have q2:=b0.cell 2 rfl;go_wp2_with fail;with_reducible refine (impl_folds r s A es c _ _ _ (hr.mid hm0 oZl) hl hcl).mono ?_
 rintro en w2 ⟨A2,c2,rfl,hrv,hm2⟩;replace b2:=b2.mid hm2 oZr;replace hm0:=hm0.trans hm2;have zf:=b2.2.2;have z0:=b2.cell 0 rfl;have z1:=b2.cell 1 rfl;clear q0 q1 q2 hm1 hm2;rcases hp with ⟨rfl,hn,hpp⟩ | ⟨rfl,t,ht⟩
 ·injection hpp with h1 h2
  subst h1 h2;have hn0:(folds es).length=0:=by rw [hn];rfl
  clear hn;go_wp2_with fail;refine bodyPost_ret (v:=.tuple #[.agg #[.int .i64 0,.int .i64 0],.bool false]) (by simp [results,Tryz.results227,go_sem,z0,z1,zf]) rfl ⟨rfl,?_⟩;repeat (first | exact hm0 | refine Mid.storeNew ?_ (by simp;try omega) _)
 ·obtain ⟨nl,hnl⟩:∃ nl,(folds es).length=nl+1:=⟨t.length,by rw [ht];rfl⟩
  obtain ⟨g,off,rfl, -, -,hc⟩:=hrv.2 (by rw [ht];simp [fdI_head,ints]);have y0:=hc 0 (.int .i64 p1) (by rw [ht];simp [fdI_head,ints]);have y1:=hc 1 (.int .i64 p2) (by rw [ht];simp [fdI_head,ints]);rw [Nat.add_zero] at y0;have hd:((nl+1:Nat) == 0)=false:=by simp
  rw [hnl];have h1:(0:Int) < ((nl+1:Nat):Int):=by omega
  clear hc ht hrv hnl;go_wp2_with fail;refine bodyPost_ret (v:=.tuple #[.agg #[.int .i64 p1,.int .i64 p2],.bool true]) (by simp [results,Tryz.results227,go_sem,z0,z1,zf]) rfl ⟨rfl,?_⟩;repeat (first | exact hm0 | refine Mid.storeNew ?_ (by simp;try omega) _)
theorem fold_place (B:Nat) (p1 p2 v:Int) (w:World) (hc:w.cell? ⟨B,0,none⟩=some (.int .i64 p1)) (hc1:w.cell? ⟨B,1,none⟩=some (.int .i64 p2)) (h3:0≤v) (h4:v < 40) :
  Calls Tryz.prog 245 #[.int .i64 v,.pointer (some ⟨B,0,none⟩)] w fun e w'=>e=.returned (.int .i64 (foldV (p1,p2) v))∧w'=w:=by
 by_cases h0:v=p2
 ·have hv:foldV (p1,p2) v=p1:=by simp [foldV,h0]
  have hb:(v == p2)=true:=by simpa using h0
  rw [hv];clear hv h0;go_enter Tryz.func245,Tryz.ntmps245
  go_wp2_with fail;go_ret;exact ⟨rfl,rfl⟩
 ·have hb:(v == p2)=false:=by simpa only [beq_eq_false_iff_ne] using h0
  by_cases h1:p2 < v
  ·have hv:foldV (p1,p2) v=v - 1:=by simp [foldV,h0,h1]
   have hd:decide (p2 < v)=true:=by simpa using h1
   rw [hv];clear hv h0;go_enter Tryz.func245,Tryz.ntmps245
   go_wp2_with fail;go_ret;exact ⟨rfl,rfl⟩
  ·have hv:foldV (p1,p2) v=v:=by simp [foldV,h0,h1]
   have hd:decide (p2 < v)=false:=by simpa using h1
   rw [hv];clear hv h0;go_enter Tryz.func245,Tryz.ntmps245
   go_wp2_with fail;go_ret;exact ⟨rfl,rfl⟩
end
end Go.Proofs.YthampgpcajmopaaGreat
