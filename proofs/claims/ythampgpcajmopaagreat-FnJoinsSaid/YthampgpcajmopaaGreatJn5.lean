/- Contracts and lemmas of this seat, many texts in one: see the words ahead of each. No condition beyond those typed in each lemma. -/
import Derived.Test.YthampgpcajmopaaGreatJn4
import Derived.Test.YthampgpcajmopaaGreatJn3
import Derived.ChangeAlike

namespace Go.Proofs.YthampgpcajmopaaGreat
set_option linter.unusedVariables false
set_option linter.unusedSimpArgs false
set_option maxHeartbeats 40000000
set_option maxRecDepth 100000
section
open Go.RowKit
theorem impl_EqualGraphs (r s:Int) (A:Option Addr) (es:List Ed) (c:Nat) (r' s':Int) (A':Option Addr) (es':List Ed) (c':Nat) (w:World) (lo hi lo' hi':Nat) (hr:RG w lo hi A es) (hr':RG w lo' hi' A' es') (hl:es.length≤1048576) (hl':es'.length≤1048576) (b:Bool) (hb:b=true↔r=r'∧s=s'∧es=es') :
  Calls Tryz.prog 121 #[graV r s A es.length c,graV r' s' A' es'.length c'] w fun e w'=>e=.returned (.bool b)∧Mid 0 0 w w':=by
 have HB:=Lib.hid hb;clear hb;have hm0:Mid 0 0 w ((w.alloc (.cells #[.int .i64 r,.int .i64 s,.slice A es.length c] 26)).alloc (.cells #[.int .i64 r',.int .i64 s',.slice A' es'.length c'] 26)):=(Mid.alloc _ _).trans (Mid.alloc _ _);by_cases h1:r=r'
 ·by_cases h2:s=s'
  ·subst h1 h2
   have hbd:decide (es=es')=b:=by rw [Bool.eq_iff_iff,HB.out];simp
   have HBD:=Lib.hid hbd;clear hbd;clear HB;go_enter Tryz.func121,Tryz.ntmps121
   go_wp2_with fail;with_reducible refine (equalE A A' es es' c c' _ _ _ _ _ (hr.mid hm0 oZl) (hr'.mid hm0 oZl) hl hl').mono ?_
   rintro en w1 ⟨rfl,hm1⟩;have hmm:=hm0.trans hm1;rw [HBD.out];clear HBD;cases b with
   | false =>
    go_wp2_with fail;go_ret;exact ⟨rfl,hmm⟩
   | true =>
    go_wp2_with fail;go_ret;exact ⟨rfl,hmm⟩
  ·have b2:(s == s')=false:=by simpa only [beq_eq_false_iff_ne] using h2
   obtain rfl:b=false:=bool_no HB.out fun h=>h2 h.2.1;subst h1;clear HB h2;go_enter Tryz.func121,Tryz.ntmps121
   go_wp2_with fail;go_ret;exact ⟨rfl,hm0⟩
 ·have b2:(r == r')=false:=by simpa only [beq_eq_false_iff_ne] using h1
  obtain rfl:b=false:=bool_no HB.out fun h=>h1 h.1;clear HB h1;go_enter Tryz.func121,Tryz.ntmps121
  go_wp2_with fail;go_ret;exact ⟨rfl,hm0⟩
theorem spec_EqualGraphs (r s:Int) (A:Option Addr) (es:List Ed) (c:Nat) (r' s':Int) (A':Option Addr) (es':List Ed) (c':Nat) (w:World) (lo hi lo' hi':Nat) (hr:RG w lo hi A es) (hr':RG w lo' hi' A' es') (hl:es.length≤1048576) (hl':es'.length≤1048576) (b:Bool) (hb:b=true↔r=r'∧s=s'∧es=es') :
  Calls Tryz.prog 13 #[graV r s A es.length c,graV r' s' A' es'.length c'] w fun e w'=>e=.returned (.bool b)∧Mid 0 0 w w':=by
 have HB:=Lib.hid hb;clear hb;have hm0:Mid 0 0 w ((w.alloc (.cells #[.int .i64 r,.int .i64 s,.slice A es.length c] 26)).alloc (.cells #[.int .i64 r',.int .i64 s',.slice A' es'.length c'] 26)):=(Mid.alloc _ _).trans (Mid.alloc _ _);by_cases h1:r=r'
 ·by_cases h2:s=s'
  ·by_cases h3:es.length=es'.length
   ·subst h1 h2
    have HL:=Lib.hid h3;have b0:(r != r)=false:=by simp
    have b1:(s != s)=false:=by simp
    have b2:((es.length:Int) != (es'.length:Int))=false:=by simp;omega
    have B0:=(Box.new w #[.int .i64 r,.int .i64 s,.slice A es.length c] 26).mid (Mid.alloc _ (.cells #[.int .i64 r,.int .i64 s,.slice A' es'.length c'] 26)) oZr;have B1:=Box.new (w.alloc (.cells #[.int .i64 r,.int .i64 s,.slice A es.length c] 26)) #[.int .i64 r,.int .i64 s,.slice A' es'.length c'] 26;rw [World.size_alloc] at B1;have hle1:es.length≤es'.length:=by omega
    have hle2:es'.length≤es.length:=by omega
    clear h3;go_enter Tryz.func13,Tryz.ntmps13
    go_wp2_with fail;go_loopw [5] (fun i wr=>∃ (k:Nat),k≤es.length∧i=.int .i64 k∧Hid (∀ j,j < k→es[j]?=es'[j]?)∧Box wr w.heap.size [.int .i64 r,.int .i64 s,.slice A es.length c]∧Box wr (w.heap.size+1) [.int .i64 r,.int .i64 s,.slice A' es'.length c']∧Mid 0 0 w wr) (fun i _=>es.length - (intOf i).toNat)
    case atStart=>exact ⟨0,Nat.zero_le _,rfl,Lib.hid (fun j h=>absurd h (Nat.not_lt_zero _)),B0,B1,hm0⟩
    case round =>
     clear B0 B1 hm0;obtain ⟨k,hk,rfl,HE,bx,by1,hm⟩:=hrel;have p0:=bx.cell 0 rfl;have p1:=bx.cell 1 rfl;have p2:=bx.cell 2 rfl;have q0:=by1.cell 0 rfl;have q1:=by1.cell 1 rfl;have q2:=by1.cell 2 rfl;by_cases hlt:k < es.length
     ·obtain ⟨B,off,e,rfl, -,hbh,he,e0,e1,e2⟩:=(hr.mid hm oZl).ed hlt
      obtain ⟨B',off',f,rfl, -,hbh',hf,f0,f1,f2⟩:=(hr'.mid hm oZl).ed (k:=k) (by omega);have hs1:B < wr.heap.size:=Nat.lt_of_lt_of_le hbh (Nat.le_trans hr.1 hm.size);have hs2:B' < wr.heap.size:=Nat.lt_of_lt_of_le hbh' (Nat.le_trans hr'.1 hm.size);have x0:=wg_cell hs1 e0;have x1:=wg_cell hs1 e1;have x2:=wg_cell hs1 e2;have y0:=wg_cell hs2 f0;have y1:=wg_cell hs2 f1;have y2:=wg_cell hs2 f2;have u2:=wg_cell bx.1 p2;have v2:=wg_cell by1.1 q2;have hk0:(0:Int)≤(k:Int):=by omega
      have hkn:(k:Int) < (es.length:Int):=by omega
      have hkm:(k:Int) < (es'.length:Int):=by omega
      have hgd:=guardEd e f;have HE1:=Lib.hid he;have HF1:=Lib.hid hf;clear he hf;by_cases hef:e=f
      ·have hq:=neqEd_run e f (show decide (e≠f)=false by simp [hef])
       have HEF:=Lib.hid hef;clear hef;go_wp2_with fail;refine wp_region_quiet_wg (by kernel_rfl) (by kernel_rfl) ?_;repeat
        (with_reducible refine wpQuiet_step (fun K hK=>?_))
        go_simp
        first
         | ((with_reducible refine hK _ ?_);clear hK K)
         | (rw [if_neg (by decide)];(with_reducible refine hK _ ?_);clear hK K)
         | (apply Exists.intro;refine ⟨fun _=>?_,hK _ ?_⟩;(fail);clear hK K)
       with_reducible refine wpQuiet_nil ?_
       intro _ hw';obtain ⟨⟨nq,osq⟩,hw''⟩:=hw';subst hw'';go_wp2_with fail;go_roundw
       case rel =>
        have hwg:=Mid.ofWg wr nq osq;refine ⟨k+1,by omega,by go_num,Lib.hid fun j hj=>?_,bx.mid hwg oZr,by1.mid hwg oZr,hm.trans hwg⟩;by_cases h:j < k
        ·exact HE.out j h
        ·obtain rfl:j=k:=by omega
         rw [HE1.out,HF1.out,HEF.out]
       case measure=>simp [intOf];omega
      ·have hq:=neqEd_run e f (show decide (e≠f)=true by simp [hef])
       obtain rfl:b=false:=bool_no HB.out fun h=>hef (by
        have h1:=HE1.out;rw [h.2.2,HF1.out] at h1;injection h1 with h1
        exact h1.symm)
       clear hef;go_wp2_with fail;refine wp_region_quiet_wg (by kernel_rfl) (by kernel_rfl) ?_;repeat
        (with_reducible refine wpQuiet_step (fun K hK=>?_))
        go_simp
        first
         | ((with_reducible refine hK _ ?_);clear hK K)
         | (rw [if_neg (by decide)];(with_reducible refine hK _ ?_);clear hK K)
         | (apply Exists.intro;refine ⟨fun _=>?_,hK _ ?_⟩;(fail);clear hK K)
       with_reducible refine wpQuiet_nil ?_
       intro _ hw';obtain ⟨⟨nq,osq⟩,hw''⟩:=hw';subst hw'';go_wp2_with fail;go_ret;exact ⟨rfl,hm.trans (Mid.ofWg wr nq osq)⟩
     ·obtain rfl:k=es.length:=by omega
      obtain rfl:b=true:=HB.out.2 ⟨by trivial,by trivial,List.ext_getElem? fun j=>by
       by_cases h:j < es.length
       ·exact HE.out j h
       ·rw [List.getElem?_eq_none (by omega),List.getElem?_eq_none (by omega)]⟩
      go_wp2_with fail;go_ret;exact ⟨rfl,hm⟩
   ·subst h1 h2
    have b0:(r != r)=false:=by simp
    have b1:(s != s)=false:=by simp
    have b2:((es.length:Int) != (es'.length:Int))=true:=by simp;omega
    obtain rfl:b=false:=bool_no HB.out fun h=>h3 (by rw [h.2.2]);clear HB h3;go_enter Tryz.func13,Tryz.ntmps13
    go_wp2_with fail;go_ret;exact ⟨rfl,hm0⟩
  ·have b2:(s != s')=true:=by simpa using h2
   have b0:(r != r')=false:=by simpa using h1
   obtain rfl:b=false:=bool_no HB.out fun h=>h2 h.2.1;clear HB h2 h1;go_enter Tryz.func13,Tryz.ntmps13
   go_wp2_with fail;go_ret;exact ⟨rfl,hm0⟩
 ·have b2:(r != r')=true:=by simpa using h1
  obtain rfl:b=false:=bool_no HB.out fun h=>h1 h.1;clear HB h1;go_enter Tryz.func13,Tryz.ntmps13
  go_wp2_with fail;go_ret;exact ⟨rfl,hm0⟩
end
section
open Go.RowKit
theorem impl_CanonicalOrder (r n:Nat) (A:Option Addr) (es:List Ed) (c:Nat) (w:World) (lo hi:Nat) (hr:RG w lo hi A es) (hcl:es.length≤c) (hf:IsFol r n es) :
  Calls Tryz.prog 203 #[graV r n A es.length c] w fun e w'=>∃ A1 c1,e=.returned (.slice A1 (ordE r es 0).length c1)∧RV w' 0 w'.heap.size A1 (ints (ordE r es 0))∧Mid 0 0 w w':=by
 have hl:=hf.gr.len;have hn1:0 < n:=by have:=hf.gr.size;omega
 have hm0:Mid 0 0 w (w.alloc (.cells #[.int .i64 r,.int .i64 n,.slice A es.length c] 26)):=Mid.alloc _ _;have B0:=Box.new w #[.int .i64 r,.int .i64 n,.slice A es.length c] 26;have HF:=Lib.hid hf;clear hf;go_enter Tryz.func203,Tryz.ntmps203
 go_wp2_with fail;with_reducible refine (impl_IsFolded r n A es c _ _ _ (hr.mid hm0 oZl) (by omega) hcl true (iff_of_true rfl HF.out)).mono ?_
 rintro en w1 ⟨rfl,hm1⟩;replace B0:=B0.mid hm1 oZr;replace hm0:=hm0.trans hm1;have p0:=B0.cell 0 rfl;have p1:=B0.cell 1 rfl;have p2:=B0.cell 2 rfl;have hT:=impl_tree r n 0 A es c w1 lo hi (hr.mid hm0 oZl) HF.out.gr hn1;have h00:((0:Nat):Int)=0:=rfl;rw [h00] at hT;go_wp2_with fail;with_reducible refine (hT).mono ?_
 rintro en w2 ⟨A1,c1,rfl,hm2,hord, -⟩;have hx:=(owns_rv hord).wide (Nat.zero_le _) (Nat.le_refl _) (Nat.le_refl _);go_wp2_with fail;go_ret;exact ⟨A1,c1,rfl,hx,hm0.trans hm2⟩
theorem canonG_fol {r n:Nat} {es:List Ed} (h:IsFol r n es):canonG r ((n:Int),es)=(((ordE r es 0).length:Int),partE (ordE r es 0) es):=if_pos h
theorem canonG_no {r s:Int} {es:List Ed} (h:¬ IsFol r s es):canonG r (s,es)=(s,es):=if_neg h
theorem ordE_ok {r n:Nat} {es:List Ed} (h:IsFol r n es):0 < (ordE r es 0).length∧(ordE r es 0).Nodup∧∀ x∈ordE r es 0,0≤x∧x < (n:Int):=by
 have hs:=h.gr.size;obtain ⟨h1, -,h2,h3⟩:=ordE_len h.gr (v:=0) (Int.le_refl _) (by omega);exact ⟨h1,h2,h3⟩
theorem impl_CanonicalGraph (r n:Nat) (A:Option Addr) (es:List Ed) (c:Nat) (w:World) (lo hi:Nat) (hr:RG w lo hi A es) (hcl:es.length≤c) (hg:IsGr r n es) :
  Calls Tryz.prog 164 #[graV r n A es.length c] w fun e w'=>∃ A1 c1,e=.returned (graV r (canonG r ((n:Int),es)).1 A1 (canonG r ((n:Int),es)).2.length c1)∧OG w' w.heap.size w'.heap.size A1 c1 (canonG r ((n:Int),es)).2∧Mid 0 0 w w':=by
 have hl:=hg.len;have hm0:Mid 0 0 w ((w.alloc (.cells #[.int .i64 r,.int .i64 n,.slice A es.length c] 26)).alloc (.cells #[.int .i64 0,.int .i64 0,.slice none 0 0] 26)):=(Mid.alloc _ _).trans (Mid.alloc _ _);have b0:=(Box.new w #[.int .i64 r,.int .i64 n,.slice A es.length c] 26).mid (Mid.alloc _ (.cells #[.int .i64 0,.int .i64 0,.slice none 0 0] 26)) oZr;have b2:=Box.new (w.alloc (.cells #[.int .i64 r,.int .i64 n,.slice A es.length c] 26)) #[.int .i64 0,.int .i64 0,.slice none 0 0] 26;simp only [World.size_alloc] at b2;have HG:=Lib.hid hg;clear hg;by_cases hf:IsFol r n es
 ·rw [canonG_fol hf]
  have HF:=Lib.hid hf;clear hf;go_enter Tryz.func164,Tryz.ntmps164
  go_wp2_with fail;with_reducible refine (impl_IsFolded r n A es c _ _ _ (hr.mid hm0 oZl) (by omega) hcl true (iff_of_true rfl HF.out)).mono ?_
  rintro en w1 ⟨rfl,hm1⟩;replace b0:=b0.mid hm1 oZr;replace b2:=b2.mid hm1 oZr;replace hm0:=hm0.trans hm1;go_wp2_with fail;have hmd:=Mid.drew1 w1;replace b0:=b0.mid hmd oZr;replace b2:=b2.mid hmd oZr;replace hm0:=hm0.trans hmd;have p0:=b0.cell 0 rfl;have p1:=b0.cell 1 rfl;have p2:=b0.cell 2 rfl;refine wp_region_T (S:=(fun w'=>w'.cell? ⟨w.heap.size,0,none⟩=some (.int .i64 r)∧w'.cell? ⟨w.heap.size,1,none⟩=some (.int .i64 n)∧w'.cell? ⟨w.heap.size,2,none⟩=some (.slice A es.length c))) 4 (by kernel_rfl) ⟨p0,p1,p2⟩ ?_;generalize World.drew w1=wz at b0 b2 hm0 p0 p1 p2 ⊢;have hS:wz.cell? ⟨w.heap.size,0,none⟩=some (.int .i64 r)∧wz.cell? ⟨w.heap.size,1,none⟩=some (.int .i64 n)∧wz.cell? ⟨w.heap.size,2,none⟩=some (.slice A es.length c):=⟨p0,p1,p2⟩
  refine tkT 0 rfl hS ?_;try simp only [Act.put,zs1,zs2,zs3,zs4,zs5,zs6]
  refine tkT 1 rfl hS ?_;try simp only [Act.put,zs1,zs2,zs3,zs4,zs5,zs6]
  have hQ:=impl_CanonicalOrder r n A es c wz lo hi (hr.mid hm0 oZl) hcl HF.out;refine rdT 2 rfl (fun K hK=>?_)
  (go_simp;refine hQ.mono ?_;rintro en w2 ⟨A2,c2,rfl,hord,hm2⟩;have b0':=b0.mid hm2 oZr;have b2':=b2.mid hm2 oZr;go_wp2_with fail)
  refine hK.out _ _ (Or.inr ⟨b0'.cell 0 rfl,b0'.cell 1 rfl,b0'.cell 2 rfl⟩) (fun _=>?_);clear hK K;try simp only [Act.put,zs1,zs2,zs3,zs4,zs5,zs6]
  replace hm0:=hm0.trans hm2;obtain ⟨ho1,ho2,ho3⟩:=ordE_ok HF.out;have hR:=impl_part r n A es c A2 (ordE r es 0) c2 w2 lo hi _ _ (hr.mid hm0 oZl) hord HG.out ho2 ho3;have HR:=Lib.hid hR;clear hS hQ b0 b2 hm2 p0 p1 p2 hR ho1 ho2 ho3;refine rdT 3 rfl (fun K hK=>?_)
  (go_simp;refine HR.out.mono ?_;rintro en w3 ⟨A3,c3,rfl,hog,hm3⟩;have b0:=b0'.mid hm3 oZr;have b2:=b2'.mid hm3 oZr;go_wp2_with fail)
  refine hK.out _ _ (Or.inr ⟨b0.cell 0 rfl,b0.cell 1 rfl,b0.cell 2 rfl⟩) (fun _=>?_);clear hK K;try simp only [Act.put,zs1,zs2,zs3,zs4,zs5,zs6]
  have hsz2:=hm0.size;have hb2s:=b2'.1;replace hm0:=hm0.trans hm3;have z0:=b2.cell 0 rfl;have z1:=b2.cell 1 rfl;have z2:=b2.cell 2 rfl;have zf:=b2.2.2;clear b0' b2' hm3 HR hord;refine rdT 4 rfl (fun K hK=>?_)
  (go_simp)
  refine hK.out _ _ (Or.inl rfl) (fun _=>?_);clear hK K;try simp only [Act.put,zs1,zs2,zs3,zs4,zs5,zs6]
  refine wpAnyT_done (by kernel_rfl) ?_ _;go_wp2_with fail;refine bodyPost_ret (v:=.agg #[.int .i64 r,.int .i64 (ordE r es 0).length,.slice A3 (partE (ordE r es 0) es).length c3]) (by simp [results,Tryz.results164,go_sem,z0,z1,z2,zf]) rfl ⟨A3,c3,rfl,?_,?_⟩
  ·refine OG.wide (OG.mid hog (a:=w.heap.size+1) (b:=w.heap.size+2) ?_ (Or.inl (by omega))) (by omega) (by simp) (Nat.le_refl _)
   repeat (first | exact Mid.refl _ _ _ | refine Mid.stored ?_ _ (by simp;try omega) (by simp;try omega))
  ·repeat (first | exact hm0 | refine Mid.storeNew ?_ (by simp;try omega) _)
 ·rw [canonG_no hf]
  have HF:=Lib.hid hf;clear hf;go_enter Tryz.func164,Tryz.ntmps164
  go_wp2_with fail;with_reducible refine (impl_IsFolded r n A es c _ _ _ (hr.mid hm0 oZl) (by omega) hcl false (iff_of_false Bool.false_ne_true HF.out)).mono ?_
  rintro en w1 ⟨rfl,hm1⟩;have hsz1:w.heap.size+2≤w1.heap.size:=by have:=hm1.size;simpa using this
  replace b0:=b0.mid hm1 oZr;replace b2:=b2.mid hm1 oZr;replace hm0:=hm0.trans hm1;have p0:=b0.cell 0 rfl;have p1:=b0.cell 1 rfl;have p2:=b0.cell 2 rfl;go_wp2_with fail;with_reducible refine (impl_copyGraph r n A es c _ _ _ (hr.mid hm0 oZl) (by omega)).mono ?_
  rintro en w2 ⟨A2,c2,rfl,hog,hm2⟩;have hsz2:=hm0.size;replace b2:=b2.mid hm2 oZr;replace hm0:=hm0.trans hm2;have z0:=b2.cell 0 rfl;have z1:=b2.cell 1 rfl;have z2:=b2.cell 2 rfl;have zf:=b2.2.2;clear p0 p1 p2;go_wp2_with fail;refine bodyPost_ret (v:=.agg #[.int .i64 r,.int .i64 n,.slice A2 es.length c2]) (by simp [results,Tryz.results164,go_sem,z0,z1,z2,zf]) rfl ⟨A2,c2,rfl,?_,?_⟩
  ·refine OG.wide (OG.mid hog (a:=w.heap.size+1) (b:=w.heap.size+2) ?_ (Or.inl (by omega))) (by omega) (by simp) (Nat.le_refl _)
   repeat (first | exact Mid.refl _ _ _ | refine Mid.stored ?_ _ (by simp;try omega) (by simp;try omega))
  ·repeat (first | exact hm0 | refine Mid.storeNew ?_ (by simp;try omega) _)
theorem spec_CanonicalGraph (r n:Nat) (A:Option Addr) (es:List Ed) (c:Nat) (w:World) (lo hi:Nat) (hr:RG w lo hi A es) (hg:IsGr r n es) :
  Calls Tryz.prog 169 #[graV r n A es.length c] w fun e w'=>∃ A1 c1,e=.returned (graV r (canonG r ((n:Int),es)).1 A1 (canonG r ((n:Int),es)).2.length c1)∧OG w' w.heap.size w'.heap.size A1 c1 (canonG r ((n:Int),es)).2∧Mid 0 0 w w':=by
 have hl:=hg.len;have hm0:Mid 0 0 w ((w.alloc (.cells #[.int .i64 r,.int .i64 n,.slice A es.length c] 26)).alloc (.cells #[.int .i64 0,.int .i64 0,.slice none 0 0] 26)):=(Mid.alloc _ _).trans (Mid.alloc _ _);have b0:=(Box.new w #[.int .i64 r,.int .i64 n,.slice A es.length c] 26).mid (Mid.alloc _ (.cells #[.int .i64 0,.int .i64 0,.slice none 0 0] 26)) oZr;have b2:=Box.new (w.alloc (.cells #[.int .i64 r,.int .i64 n,.slice A es.length c] 26)) #[.int .i64 0,.int .i64 0,.slice none 0 0] 26;simp only [World.size_alloc] at b2;have HG:=Lib.hid hg;clear hg;by_cases hf:IsFol r n es
 ·rw [canonG_fol hf]
  have HF:=Lib.hid hf;clear hf;go_enter Tryz.func169,Tryz.ntmps169
  go_wp2_with fail;with_reducible refine (spec_CanonicalOrder r n A es c _ _ _ (hr.mid hm0 oZl) HF.out).mono ?_
  rintro en w1 ⟨A1,c1,rfl,hord,hm1⟩;replace b0:=b0.mid hm1 oZr;replace b2:=b2.mid hm1 oZr;replace hm0:=hm0.trans hm1;have p0:=b0.cell 0 rfl;have p1:=b0.cell 1 rfl;have p2:=b0.cell 2 rfl;obtain ⟨ho1,ho2,ho3⟩:=ordE_ok HF.out;have e1:(((ordE r es 0).length:Int) == 0)=false:=by simp only [beq_eq_false_iff_ne];omega
  have HR0:=Lib.hid (spec_RenumberGraph r n A es c A1 (ordE r es 0) c1 w1 lo hi _ _ (hr.mid hm0 oZl) hord HG.out ho2 ho3 ho1);have hsz1:w.heap.size+2≤w1.heap.size:=by have:=hm1.size;simpa using this
  obtain ⟨os,hos⟩:∃ os,ordE r es 0=os:=⟨_,rfl⟩
  obtain ⟨ps,hps⟩:∃ ps,partE os es=ps:=⟨_,rfl⟩
  rw [hos] at HR0 e1 ⊢;rw [hps] at HR0;have HOS:=Lib.hid hos;have HPS:=Lib.hid hps;have HR:=HR0;clear ho1 ho2 ho3 hord hm1 hos hps HR0;go_wp2_with fail;with_reducible refine (HR.out).mono ?_
  rintro en w2 ⟨A2,c2,rfl,hog,hm2⟩;clear HR;have hsz2:=hm2.size;have hal:=Mid.alloc w2 (.cells #[.int .i64 r,.int .i64 os.length,.slice A2 ps.length c2] 26);have Y3:=Box.new w2 #[.int .i64 r,.int .i64 os.length,.slice A2 ps.length c2] 26;replace b2:=b2.mid hm2 oZr;replace hm0:=hm0.trans hm2;clear p0 p1 p2;have z0:=b2.cell 0 rfl;have z1:=b2.cell 1 rfl;have z2:=b2.cell 2 rfl;have zf:=b2.2.2;have hb22:w.heap.size+1 < w2.heap.size:=b2.1;go_wp2_with fail;refine bodyPost_ret (v:=.agg #[.int .i64 r,.int .i64 os.length,.slice A2 ps.length c2]) (by simp [results,Tryz.results169,go_sem,z0,z1,z2,zf,hb22,World.cell?_alloc_lt]) rfl ⟨A2,c2,by rw [HOS.out,HPS.out],?_,?_⟩
  ·rw [HOS.out,HPS.out]
   refine OG.wide (OG.mid (OG.mid hog (a:=w.heap.size+1) (b:=w.heap.size+2) ?_ (Or.inl (by omega))) (Mid.alloc _ _) oZl) (by omega) (by simp) (Nat.le_refl _);repeat (first | exact Mid.refl _ _ _ | refine Mid.stored ?_ _ (by simp;try omega) (by simp;try omega))
  ·refine Mid.trans ?_ (Mid.alloc _ _)
   repeat (first | exact hm0 | refine Mid.storeNew ?_ (by simp;try omega) _)
 ·rw [canonG_no hf]
  have HF:=Lib.hid hf;clear hf;go_enter Tryz.func169,Tryz.ntmps169
  go_wp2_with fail;with_reducible refine (spec_CanonicalOrder_no r n A es c _ _ _ (hr.mid hm0 oZl) (by omega) HF.out).mono ?_
  rintro en w1 ⟨A1,c1,rfl,hm1⟩;have hsz1:w.heap.size+2≤w1.heap.size:=by have:=hm1.size;simpa using this
  replace b0:=b0.mid hm1 oZr;replace b2:=b2.mid hm1 oZr;replace hm0:=hm0.trans hm1;have p0:=b0.cell 0 rfl;have p1:=b0.cell 1 rfl;have p2:=b0.cell 2 rfl;go_wp2_with fail;with_reducible refine (spec_l4Copy r n A es c _ _ _ (hr.mid hm0 oZl) (by omega)).mono ?_
  rintro en w2 ⟨A2,c2,rfl,hog,hm2⟩;have hsz2:=hm0.size;replace b2:=b2.mid hm2 oZr;replace hm0:=hm0.trans hm2;have z0:=b2.cell 0 rfl;have z1:=b2.cell 1 rfl;have z2:=b2.cell 2 rfl;have zf:=b2.2.2;clear p0 p1 p2;go_wp2_with fail;refine bodyPost_ret (v:=.agg #[.int .i64 r,.int .i64 n,.slice A2 es.length c2]) (by simp [results,Tryz.results169,go_sem,z0,z1,z2,zf]) rfl ⟨A2,c2,rfl,?_,?_⟩
  ·refine OG.wide (OG.mid hog (a:=w.heap.size+1) (b:=w.heap.size+2) ?_ (Or.inl (by omega))) (by omega) (by simp) (Nat.le_refl _)
   repeat (first | exact Mid.refl _ _ _ | refine Mid.stored ?_ _ (by simp;try omega) (by simp;try omega))
  ·repeat (first | exact hm0 | refine Mid.storeNew ?_ (by simp;try omega) _)
end
section
open Go.RowKit
def sizeAt (w:World) (G:Nat):Nat:=match w.cell? ⟨G,1,none⟩ with | some (.int _ s)=>s.toNat | _=>0
theorem sizeAt_box {w:World} {G:Nat} {r:Value} {n:Nat} {v:Value} (h:Box w G [r,.int .i64 n,v]):sizeAt w G=n:=by
 unfold sizeAt;rw [h.cell 1 rfl];simp
theorem impl_TrimGraph (r:Int) (n:Nat) (A:Option Addr) (es:List Ed) (c:Nat) (w:World) (lo hi:Nat) (hr:RG w lo hi A es) (hg:IsGr r n es) :
  Calls Tryz.prog 163 #[graV r n A es.length c] w fun e w'=>∃ A1 c1 Al nl cl,e=.returned (.tuple #[graV r (trimA 40 ((n:Int),es)).1 A1 (trimA 40 ((n:Int),es)).2.length c1,.slice Al nl cl])∧OG w' w.heap.size w'.heap.size A1 c1 (trimA 40 ((n:Int),es)).2∧Mid 0 0 w w':=by
 have hn40:n≤40:=by have:=hg.size;omega
 have hl:=hg.len;have hm0:Mid 0 0 w ((w.alloc (.cells #[.int .i64 r,.int .i64 n,.slice A es.length c] 26)).alloc (.cells #[.int .i64 0,.int .i64 0,.slice none 0 0] 26)):=(Mid.alloc _ _).trans (Mid.alloc _ _);have b0:=(Box.new w #[.int .i64 r,.int .i64 n,.slice A es.length c] 26).mid (Mid.alloc _ (.cells #[.int .i64 0,.int .i64 0,.slice none 0 0] 26)) oZr;have b2:=Box.new (w.alloc (.cells #[.int .i64 r,.int .i64 n,.slice A es.length c] 26)) #[.int .i64 0,.int .i64 0,.slice none 0 0] 26;simp only [World.size_alloc] at b2;have HG:=Lib.hid hg;obtain ⟨T,hT⟩:∃ T,trimA 40 ((n:Int),es)=T:=⟨_,rfl⟩
 rw [hT];have HT:=Lib.hid hT;clear hg hT;go_enter Tryz.func163,Tryz.ntmps163
 go_wp2_with fail;generalize hw1:((w.alloc (.cells #[.int .i64 r,.int .i64 n,.slice A es.length c] 26)).alloc (.cells #[.int .i64 0,.int .i64 0,.slice none 0 0] 26))=w1 at hm0 b0 b2 ⊢;clear hw1;with_reducible refine (impl_copyGraph r n A es c _ _ _ (hr.mid hm0 oZl) (by omega)).mono ?_
 rintro en w2 ⟨A1,c1,rfl,ho,hm2⟩;have hsz12:=hm0.size;have hs2:w.heap.size+1 < w1.heap.size:=b2.1;replace b0:=b0.mid hm2 oZr;replace b2:=b2.mid hm2 oZr;replace hm0:=hm0.trans hm2;have hsz2:=hm2.size;have hown0:=owns_base (base':=w.heap.size+2) ho.ov.2.1 hs2;have hbk0:Value.ownBlock (.slice A1 es.length c1)≠some w2.heap.size:=fun h=>by have:=ho.ov.2.2 _ h;omega
 have hal:=(Mid.alloc w2 (.cells #[.int .i64 r,.int .i64 n,.slice A1 es.length c1] 26)).trans (Mid.alloc (w2.alloc (.cells #[.int .i64 r,.int .i64 n,.slice A1 es.length c1] 26)) (.cells #[] 3));have Y3:=(Box.new w2 #[.int .i64 r,.int .i64 n,.slice A1 es.length c1] 26).mid (Mid.alloc (w2.alloc (.cells #[.int .i64 r,.int .i64 n,.slice A1 es.length c1] 26)) (.cells #[] 3)) oZr;have O0:=owns_empty (w2.alloc (.cells #[.int .i64 r,.int .i64 n,.slice A1 es.length c1] 26)) 3 1;rw [World.size_alloc] at O0;have hbs0:=b0.1;have p0:=b0.cell 0 rfl;have p1:=b0.cell 1 rfl;have p2:=b0.cell 2 rfl;replace b0:=b0.mid hal oZr;replace b2:=b2.mid hal oZr;replace hown0:=owns_mid hown0 hal oZl;replace hm0:=hm0.trans hal;go_wp2_with fail;clear p0 p1 p2;have hsA:((w2.alloc (.cells #[.int .i64 r,.int .i64 n,.slice A1 es.length c1] 26)).alloc (.cells #[] 3)).heap.size=w2.heap.size+2:=by simp
 generalize hw3:(w2.alloc (.cells #[.int .i64 r,.int .i64 n,.slice A1 es.length c1] 26)).alloc (.cells #[] 3)=w3 at Y3 O0 b0 b2 hown0 hm0 hsA ⊢;obtain ⟨G,hG⟩:∃ G,w2.heap.size=G:=⟨_,rfl⟩
 rw [hG] at Y3 O0 hbk0 hsA hsz2 hbs0 ⊢;clear hw3 hal hm2 ho hG;with_reducible refine (impl_IsGraph r n A es c _ _ _ (hr.mid hm0 oZl).rv (by omega) true (iff_of_true rfl HG.out)).mono ?_
 rintro en w4 ⟨rfl,hm4⟩;have hs4:=hm4.size;replace b0:=b0.mid hm4 oZr;replace b2:=b2.mid hm4 oZr;replace Y3:=Y3.mid hm4 oZr;replace hown0:=owns_mid hown0 hm4 oZl;replace O0:=owns_mid O0 hm4 oZl;replace hm0:=hm0.trans hm4;have hGw:w.heap.size+2≤G:=by omega
 have hG4:G+1≤w4.heap.size:=by omega
 clear hm4 hs4 hsA hsz2 hs2 hsz12 hbs0;go_wp2_with fail;go_loopw [5,6] (fun l i wr=>∃ (k:Nat) (Al:Option Addr) (nl cl:Nat),k≤n∧i=.int .i64 k∧l=.slice Al nl cl∧Hid ((upto k).length=nl)∧wr.ownsRow (G+1) 3 1 (.slice Al nl cl) nl (ints (upto k)) ∧
   Hid (wr.ownsRow (w.heap.size+2) 68 3 (.slice A1 es.length c1) es.length (ints (edI es)))∧Box wr w.heap.size [.int .i64 r,.int .i64 n,.slice A es.length c]∧Box wr (w.heap.size+1) [.int .i64 0,.int .i64 0,.slice none 0 0]∧Box wr G [.int .i64 r,.int .i64 n,.slice A1 es.length c1]∧Mid 0 0 w wr) (fun _ i _=>n - (intOf i).toNat)
 case atStart=>exact ⟨0,_,0,0,Nat.zero_le _,rfl,rfl,Lib.hid rfl,O0,Lib.hid hown0,b0,b2,Y3,hm0⟩
 case round =>
  clear O0 hown0 b0 b2 Y3 hm0;obtain ⟨wo,hwo⟩:∃ wo,wo=wr:=⟨_,rfl⟩
  subst hwo;obtain ⟨k,Al,nl,cl,hk,rfl,rfl,HN,hleft,HE,b0,b2,Y3,hm⟩:=hrel;obtain rfl:k=nl:=by rw [← HN.out,upto_len]
  have p0:=b0.cell 0 rfl;have p1:=b0.cell 1 rfl;have p2:=b0.cell 2 rfl;by_cases hlt:k < n
  ·have hk1:(k:Int) < (n:Int):=by omega
   have hGo:G+1≤wo.heap.size:=Y3.1;have HL:=Lib.hid hleft;clear hleft;go_wp2_with (at_builtin;refine wpList_pushI2 rfl _ _ rfl (G+1) Al k cl (upto k) rfl HL.out k rfl (by omega) hGo ?_;intro A9 c9 w9 hl9 hgr9 hat9)
   clear hat9;have hm9:=Mid.of_grownRow HL.out hgr9;have hE9:=HE.out.kept hgr9 (owns_ne HE.out HL.out (by decide));go_roundw
   case rel=>exact ⟨k+1,A9,k+1,c9,by omega,by go_num,rfl,Lib.hid (by rw [upto_len]),by rw [upto_succ];exact hl9,Lib.hid hE9,b0.mid hm9 (Or.inl (by omega)),b2.mid hm9 (Or.inl (by omega)),Y3.mid hm9 (Or.inl (by omega)),hm.transNew hm9 (Or.inl (by omega))⟩
   case measure=>simp [intOf];omega
  ·obtain rfl:k=n:=by omega
   go_wp2_with fail;clear p0 p1 p2;have hGo:=Y3.1;go_loopw [5] (fun l wr=>∃ (m s:Nat) (es1:List Ed) (A2:Option Addr) (c2:Nat) (Al:Option Addr) (cl:Nat) (xs:List Int),l=.slice Al s cl∧Hid (trimA m ((s:Int),es1)=T)∧s≤m∧Hid (IsGr r s es1)∧wr.ownsRow (G+1) 3 1 (.slice Al s cl) s (ints xs) ∧
     Hid (wr.ownsRow (w.heap.size+2) 68 3 (.slice A2 es1.length c2) es1.length (ints (edI es1)))∧Hid (Value.ownBlock (.slice A2 es1.length c2)≠some G)∧Box wr (w.heap.size+1) [.int .i64 0,.int .i64 0,.slice none 0 0]∧Box wr G [.int .i64 r,.int .i64 s,.slice A2 es1.length c2]∧Mid 0 0 w wr) (fun _ wr=>sizeAt wr G)
   case atStart=>exact ⟨40,k,es,A1,c1,Al,cl,upto k,rfl,HT,hn40,HG,hleft,HE,Lib.hid hbk0,b2,Y3,hm⟩
   case round =>
    clear hleft HE b0 b2 Y3 hm HN hGo;obtain ⟨wj,hwj⟩:∃ wj,wj=wr:=⟨_,rfl⟩
    subst hwj;obtain ⟨m,s,es1,A2,c2,Al,cl,xs,rfl,HTm,hsm,HGs,hleft,HE,HBK,b2,Y3,hm⟩:=hrel;have hs1:1≤s:=by have:=HGs.out.size;omega
    have hs40:s≤40:=by have:=HGs.out.size;omega
    have hl1:=HGs.out.len;have hlsz:=Lib.hid (sizeAt_box Y3);have y0:=Y3.cell 0 rfl;have y1:=Y3.cell 1 rfl;have y2:=Y3.cell 2 rfl;have hJ:=impl_joined r s 0 A2 es1 c2 wj _ _ (owns_rv HE.out) HGs.out hs1;rw [show ((0:Nat):Int)=0 from rfl] at hJ;have HJ:=Lib.hid hJ;clear hJ;go_wp2_with fail;with_reducible refine (HJ.out).mono ?_
    rintro en w5 ⟨rfl,vis,hvis,hmem,hm5⟩;clear HJ;have hGj:G < wj.heap.size:=Y3.1;have HM:=Lib.hid hmem;obtain ⟨jb,hjb⟩:∃ jb,wj.heap.size+1=jb:=⟨_,rfl⟩
    rw [hjb] at hvis ⊢;have hE5:=owns_mid HE.out hm5 oZl;replace HE:=Lib.hid hE5;replace b2:=b2.mid hm5 oZr;replace Y3:=Y3.mid hm5 oZr;replace hleft:=owns_mid hleft hm5 oZl;replace hm:=hm.trans hm5;clear y0 y1 y2 hmem hjb hm5 hE5;have y0:=Y3.cell 0 rfl;have y1:=Y3.cell 1 rfl;have y2:=Y3.cell 2 rfl;go_wp2_with fail;clear y0 y1 y2;go_loopw [8,9] (fun gv kv wr=>∃ (q g:Nat),1≤q∧q≤s∧kv=.int .i64 q∧gv=.int .i64 g∧Hid ((g=0∧∀ u:Nat,1≤u→u < q→¬ Bad es1 u) ∨ (leaf s es1=some g∧0 < g∧g < s))∧Mid 0 0 w5 wr) (fun _ q _=>s - (intOf q).toNat)
    case atStart=>exact ⟨1,0,Nat.le_refl _,hs1,rfl,rfl,Lib.hid (.inl ⟨rfl,fun u h1 h2=>absurd h2 (by omega)⟩),Mid.refl _ _ _⟩
    case round =>
     obtain ⟨q,g,hq1,hq,rfl,rfl,HQ,hmx⟩:=hrel;replace b2:=b2.mid hmx oZr;replace Y3:=Y3.mid hmx oZr;replace hleft:=owns_mid hleft hmx oZl;replace hvis:=owns_mid hvis hmx oZl;replace hm:=hm.trans hmx;have hE5:=owns_mid HE.out hmx oZl;replace HE:=Lib.hid hE5;clear hE5;have y0:=Y3.cell 0 rfl;have y1:=Y3.cell 1 rfl;have y2:=Y3.cell 2 rfl;by_cases hgo:q < s∧g=0
     ·obtain ⟨hqs,rfl⟩:=hgo
      have hq3:(q:Int) < (s:Int):=by omega
      have hq0:(0:Int)≤(q:Int):=by omega
      have hno:∀ u:Nat,1≤u→u < q→¬ Bad es1 u:=by
       rcases HQ.out with h | h
       ·exact h.2
       ·omega
      have HNO:=Lib.hid hno;have hdl:=deg_le es1 q;clear hno;go_wp2_with fail;with_reducible refine (impl_DegreeOf r s A2 es1 c2 q _ _ _ (owns_rv HE.out).rg (by omega)).mono ?_
      rintro en w7 ⟨rfl,hm7⟩;have hv7:=owns_mid hvis hm7 oZl;have hcv:=(hv7.cellAt q (by omega)).trans (seenOf_get hqs);by_cases hd:deg es1 q < 2
      ·have d1:decide ((deg es1 q:Int) < 2)=true:=by simp;omega
       have HLF:=Lib.hid (leaf_some (s:=(s:Int)) hq1 hq3 (.inl hd) HNO.out);clear hd hcv;go_wp2_with fail;go_roundw
       case rel=>exact ⟨q+1,q,by omega,by omega,by go_num,rfl,Lib.hid (.inr ⟨HLF.out,by omega,hqs⟩),hmx.trans hm7⟩
       case measure=>simp [intOf];omega
      ·have d1:decide ((deg es1 q:Int) < 2)=false:=by simp;omega
       by_cases hv:(q:Int)∈vis
       ·rw [decide_eq_true hv] at hcv
        have HNB:Hid (¬ Bad es1 q):=Lib.hid (by
         rintro (h | h)
         ·exact hd h
         ·exact h ((HM.out _).1 hv))
        clear hd hv;go_wp2_with fail;go_roundw
        case rel =>
         refine ⟨q+1,0,by omega,by omega,by go_num,rfl,Lib.hid (.inl ⟨rfl,fun u h1 h2=>?_⟩),hmx.trans hm7⟩;by_cases h:u=q
         ·subst h;exact HNB.out
         ·exact HNO.out u h1 (by omega)
        case measure=>simp [intOf];omega
       ·rw [decide_eq_false hv] at hcv
        have HLF:=Lib.hid (leaf_some (s:=(s:Int)) hq1 hq3 (.inr fun h=>hv ((HM.out _).2 h)) HNO.out);clear hd hv;go_wp2_with fail;go_roundw
        case rel=>exact ⟨q+1,q,by omega,by omega,by go_num,rfl,Lib.hid (.inr ⟨HLF.out,by omega,hqs⟩),hmx.trans hm7⟩
        case measure=>simp [intOf];omega
     ·clear hvis
      obtain ⟨wk,hwk⟩:∃ wk,wk=wr:=⟨_,rfl⟩
      subst hwk;have hqg:decide ((q:Int) < (s:Int))=true∧((g:Int) == 0)=false ∨ decide ((q:Int) < (s:Int))=false:=by
       by_cases h:q < s
       ·left
        refine ⟨by simp;omega,?_⟩;simp only [beq_eq_false_iff_ne];intro h2;exact hgo ⟨h,by omega⟩
       ·right
        simp;omega
      by_cases hg0:g=0
      ·subst hg0
       have hqs:q=s:=by
        refine Classical.byContradiction fun h=>hgo ⟨by omega,rfl⟩
       subst hqs;have hln:leaf q es1=none:=leaf_none fun u h1 h2=>by
        rcases HQ.out with h | h
        ·exact h.2 u h1 (by omega)
        ·omega
       have hTT:=HTm.out;rw [trimA_none hln] at hTT;have HTT:=Lib.hid hTT;have d0:decide ((q:Int) < (q:Int))=false:=by simp
       have z0:=b2.cell 0 rfl;have z1:=b2.cell 1 rfl;have z2:=b2.cell 2 rfl;have zf:=b2.2.2;have hbs:=b2.1;clear hqg hln hTT hgo;go_wp2_with fail;have hcl:(w.heap.size+1 == G)=false:=by simp;omega
       refine bodyPost_ret (v:=.tuple #[.agg #[.int .i64 r,.int .i64 q,.slice A2 es1.length c2],.slice Al q cl]) (by simp [results,Tryz.results163,go_sem,z0,z1,z2,zf,y0,y1,y2]) rfl ⟨A2,c2,⟨Al,q,cl,by rw [← HTT.out]⟩,?_,?_⟩
       ·rw [← HTT.out]
        have h0:OG wk (w.heap.size+2) wk.heap.size A2 c2 es1:=⟨Nat.le_refl _,HE.out,fun g hg=>(HE.out.lt g hg).2⟩
        refine OG.wide (OG.mid h0 (a:=w.heap.size+1) (b:=w.heap.size+2) ?_ (Or.inl (Nat.le_refl _))) (by omega) (by simp) (Nat.le_refl _);repeat (first | exact Mid.refl _ _ _ | refine Mid.stored ?_ _ (by simp;try omega) (by simp;try omega))
       ·repeat (first | exact hm | refine Mid.storeNew ?_ (by simp;try omega) _)
      ·obtain ⟨hlf,hg1,hgs⟩:leaf s es1=some g∧0 < g∧g < s:=by
        rcases HQ.out with h | h
        ·exact absurd h.1 hg0
        ·exact h
       obtain ⟨m',rfl⟩:∃ m',m=m'+1:=⟨m - 1,by omega⟩
       have hTT:=HTm.out;rw [trimA_some hlf] at hTT;have HTT:=Lib.hid hTT;have HCG:=Lib.hid (cutV_gr (g:=((s:Int),es1)) HGs.out hg1 (by simpa using hgs));have dg:((g:Int) == 0)=false:=by simp only [beq_eq_false_iff_ne];omega
       have HGO:=Lib.hid hgo;clear hTT hlf hgo hqg;rcases Nat.lt_or_ge q s with hqn | hqn
       ·go_wp2_with fail
        have O10:=owns_empty wk 3 1;have hal:=Mid.alloc wk (.cells #[] 3);clear y0 y1 y2;go_loopw [10,11] (fun o kv wr=>∃ (kk:Nat) (Ao:Option Addr) (no co:Nat),kk≤s∧kv=.int .i64 kk∧o=.slice Ao no co∧Hid ((but g kk).length=no)∧wr.ownsRow wk.heap.size 3 1 (.slice Ao no co) no (ints (but g kk))∧Mid 0 0 wk wr) (fun _ kv _=>s - (intOf kv).toNat)
        case atStart=>exact ⟨0,_,0,0,Nat.zero_le _,rfl,rfl,Lib.hid rfl,O10,hal⟩
        case round =>
         clear O10 hal;obtain ⟨kk,Ao,no,co,hkk,rfl,rfl,HNo,hord,hmy⟩:=hrel;have hno:no≤40:=by
          have h1:(but g kk).length≤kk:=by unfold but;rw [List.length_map];exact Nat.le_trans (List.length_filter_le _ _) (by simp)
          have h2:=HNo.out;omega
         have Y4:=Y3.mid hmy oZr;have y0:=Y4.cell 0 rfl;have y1:=Y4.cell 1 rfl;have y2:=Y4.cell 2 rfl;by_cases hlt:kk < s
         ·have hbs:=but_succ g kk
          have hk3:(kk:Int) < (s:Int):=by omega
          by_cases hkg:kk=g
          ·have d3:((kk:Int) != (g:Int))=false:=by simp;omega
           rw [if_pos hkg] at hbs;have HBS:=Lib.hid hbs;clear hbs hkg;go_wp2_with fail;go_roundw
           case rel=>exact ⟨kk+1,Ao,no,co,by omega,by go_num,rfl,by rw [HBS.out];exact HNo,by rw [HBS.out];exact hord,hmy⟩
           case measure=>simp [intOf];omega
          ·have d3:((kk:Int) != (g:Int))=true:=by simp;omega
           rw [if_neg hkg] at hbs;have HBS:=Lib.hid hbs;have HO:=Lib.hid hord;have hsz:=hmy.size;clear hbs hkg hord;go_wp2_with (at_builtin;refine wpList_pushI rfl _ _ rfl wk.heap.size Ao no co (but g kk) rfl HO.out kk rfl (by omega) hsz ?_;intro A9 c9 w9 ho9 hm9)
           go_roundw
           case rel=>exact ⟨kk+1,A9,no+1,c9,by omega,by go_num,rfl,Lib.hid (by rw [HBS.out,List.length_append,HNo.out];rfl),by rw [HBS.out];exact ho9,hmy.transNew hm9 (Or.inl (Nat.le_refl _))⟩
           case measure=>simp [intOf];omega
         ·obtain rfl:kk=s:=by omega
          have hln:(but g kk).length=no:=HNo.out;have HL0:Hid (no=kk - 1):=Lib.hid (by rw [← hln,but_len g hgs]);obtain ⟨es2,hes2⟩:∃ es2,partE (but g kk) es1=es2:=⟨_,rfl⟩
          have hcv:cutV ((kk:Int),es1) g=((no:Int),es2):=by unfold cutV;simp only [Int.toNat_natCast];rw [hln,hes2]
          have hE6:=owns_mid HE.out hmy oZl;have hP:=impl_part r kk A2 es1 c2 Ao (but g kk) co wr _ _ _ _ (owns_rv hE6).rg (owns_rv hord) HGs.out (but_nodup g kk) (fun x hx=>but_range hx);rw [hln,hes2] at hP;have HP:=Lib.hid hP;have hTT2:=HTT.out;rw [hcv] at hTT2;have hgr2:=HCG.out;rw [hcv] at hgr2;have HTT2:=Lib.hid hTT2;have HG2:=Lib.hid hgr2;have hwks:G+1≤wk.heap.size:=Y3.1;clear hP hTT2 hgr2 hcv hes2 hln hord HTT HCG HE hE6;go_wp2_with fail;with_reducible refine HP.out.mono ?_
          rintro en w8 ⟨A3,c3,rfl,hog,hm8⟩;clear HP;replace hog:=hog.wide (lo':=wk.heap.size) hmy.size (Nat.le_refl _) (Nat.le_refl _);have hm28:=hmy.trans hm8;clear Y4 y0 y1 y2;replace b2:=b2.mid hm28 oZr;replace Y3:=Y3.mid hm28 oZr;replace hleft:=owns_mid hleft hm28 oZl;replace hm:=hm.trans hm28;clear hmy hm8 hm28;have y0:=Y3.cell 0 rfl;have y1:=Y3.cell 1 rfl;have y2:=Y3.cell 2 rfl;have yf:=Y3.2.2;go_wp2_with fail;have hst:=(Mid.setAt w8 G 0 (.int .i64 r)).trans ((Mid.setAt (w8.setCell ⟨G,0,none⟩ (.int .i64 r)) G 1 (.int .i64 no)).trans (Mid.setAt ((w8.setCell ⟨G,0,none⟩ (.int .i64 r)).setCell ⟨G,1,none⟩ (.int .i64 no)) G 2 (.slice A3 es2.length c3)));have Y5:=((Y3.set 0 (.int .i64 r) (by simp) rfl).set 1 (.int .i64 no) (by simp) rfl).set 2 (.slice A3 es2.length c3) (by simp) rfl;have hm5:=((hm.storeNew (p:=⟨G,0,none⟩) (by show w.heap.size≤G;omega) (.int .i64 r)).storeNew (p:=⟨G,1,none⟩) (by show w.heap.size≤G;omega) (.int .i64 no)).storeNew (p:=⟨G,2,none⟩) (by show w.heap.size≤G;omega) (.slice A3 es2.length c3);replace b2:=b2.mid hst (Or.inl (by omega));replace hleft:=owns_mid hleft hst (Or.inl (Nat.le_refl _));replace hog:=hog.mid hst (Or.inl hwks);clear Y3 hm y0 y1 y2 yf hst;generalize ((w8.setCell ⟨G,0,none⟩ (.int .i64 r)).setCell ⟨G,1,none⟩ (.int .i64 no)).setCell ⟨G,2,none⟩ (.slice A3 es2.length c3)=ws at Y5 hm5 b2 hleft hog ⊢;have hmd:=Mid.drew1 ws;replace b2:=b2.mid hmd oZr;replace Y5:=Y5.mid hmd oZr;replace hleft:=owns_mid hleft hmd oZl;replace hog:=hog.mid hmd oZl;replace hm5:=hm5.trans hmd;clear hmd;obtain ⟨gl,rfl,hgl1,hgl2⟩:=owns_addr hleft (show 0 < kk by omega);have hsc:kk≤cl:=by
           obtain ⟨A',c',hv0,hsc,hcm⟩:=owns_shape hleft;injection hv0 with _ _ hv0
           omega
          have hcut2:=owns_cut hleft (m:=g) (by omega);have hxl:(ints xs).length=kk * 1:=hleft.1;have hsrc:=(Rs.of_own hleft).drop (k:=g+1) (n:=kk) (cap:=cl) 1 hxl hsc;have hdl:((ints xs).drop ((g+1) * 1)).length=(kk - (g+1)) * 1:=by rw [List.length_drop,hxl];omega
          have hone:∀ u∈(ints xs).drop ((g+1) * 1),u.oneCell'=true:=fun u hu=>one_of_ints xs u (List.mem_of_mem_drop hu);have hml:g+(kk - (g+1))≤maxLen:=by unfold maxLen;omega
          have hby:(g+(kk - (g+1))) * 8≤140737488355328:=by omega
          have hGs:G+1≤ws.drew.heap.size:=Y5.1;have HCU:=Lib.hid hcut2;have HSR:=Lib.hid hsrc;have HDL:=Lib.hid hdl;have HON:=Lib.hid hone;have HXL:=Lib.hid hxl;have hgi:(0:Int)≤(g:Int):=by omega
          have hgi1:(0:Int)≤(g:Int)+1:=by omega
          have hgk:(g:Int) < (kk:Int):=by omega
          have hgk2:(g:Int)+1≤(kk:Int):=by omega
          have hgn:g≤cl:=by omega
          have hgn1:g+1≤kk:=by omega
          have hgn2:g+1≤cl:=by omega
          have hgc:(g:Int)≤(cl:Int):=by omega
          have hgc2:(g:Int)+1≤(cl:Int):=by omega
          have hwrp:IntKind.i64.wrap ((g:Int)+1)=(g:Int)+1:=IntWalk.i64_in _ (by omega);clear hcut2 hsrc hdl hone hxl;by_cases hcg:cl=g+1
          ·rw [if_pos hcg] at HSR
           have hcgF:(cl=g+1)=True:=eq_true hcg;clear hcg;refine wp_region_T (S:=(fun _=>True)) 8 (by kernel_rfl) trivial ?_;generalize World.drew ws=wz at b2 Y5 hleft hog hm5 HCU HSR hGs ⊢;refine tkT 0 rfl trivial ?_;try simp only [Act.put,zs1,zs2,zs3,zs4,zs5,zs6]
           refine tkT 1 rfl trivial ?_;try simp only [Act.put,zs1,zs2,zs3,zs4,zs5,zs6]
           refine tkT 2 rfl trivial ?_;try simp only [Act.put,zs1,zs2,zs3,zs4,zs5,zs6]
           refine tkT 3 rfl trivial ?_;try simp only [Act.put,zs1,zs2,zs3,zs4,zs5,zs6]
           refine tkT 4 rfl trivial ?_;try simp only [Act.put,zs1,zs2,zs3,zs4,zs5,zs6]
           refine tkT 5 rfl trivial ?_;try simp only [Act.put,zs1,zs2,zs3,zs4,zs5,zs6]
           refine tkT 6 rfl trivial ?_;try simp only [Act.put,zs1,zs2,zs3,zs4,zs5,zs6]
           refine rdT 7 rfl (fun K hK=>?_)
           (refine step_cat (by rfl) (.tmp 77) (.tmp 81) 34 (by rfl) (G+1) 3 (.int .i64 0) 1 8 undSI infoI rfl (by decide) (.slice (some ⟨gl,0,none⟩) g cl) g _ (by rfl) HCU.out _ (kk - (g+1)) _ _ ((ints xs).drop ((g+1) * 1)) (by rfl) HSR.out HDL.out HON.out hml hby hGs ?_;intro v9 w9 ho9 hgr9 hat9;obtain ⟨A9,c9,rfl, -, -⟩:=owns_shape ho9)
           refine hK.out _ _ (Or.inr trivial) (fun _=>?_);clear hK K;try simp only [Act.put,zs1,zs2,zs3,zs4,zs5,zs6]
           refine rdT 8 rfl (fun K hK=>?_)
           (go_simp)
           refine hK.out _ _ (Or.inl rfl) (fun _=>?_);clear hK K;try simp only [Act.put,zs1,zs2,zs3,zs4,zs5,zs6]
           refine wpAnyT_done (by kernel_rfl) ?_ _;go_wp2_with fail;go_roundw
           case rel =>
            have hm9:=Mid.of_grownRow HCU.out hgr9;have h0:=hog.ov.2.1.kept hgr9 (owns_ne hog.ov.2.1 HCU.out (by decide));have hnl2:g+(kk - (g+1))=no:=by have:=HL0.out;omega
            have hb9:Value.ownBlock (.slice A3 es2.length c3)≠some G:=fun h=>by have:=(hog.ov.2.1.lt _ h).1;omega
            have hxe:(ints xs).take (g * 1)++(ints xs).drop ((g+1) * 1)=ints (xs.take g++xs.drop (g+1)):=by simp [ints]
            rw [hxe,hnl2] at ho9;exact ⟨m',no,es2,A3,c3,A9,c9,xs.take g++xs.drop (g+1),by rw [hnl2],HTT2,by have:=HL0.out;omega,HG2,ho9,Lib.hid (owns_base h0 (by omega)),Lib.hid hb9,b2.mid hm9 (Or.inl (by omega)),Y5.mid hm9 (Or.inl (by omega)),hm5.transNew hm9 (Or.inl (by omega))⟩
           case measure =>
            have h1:=sizeAt_box (Y5.mid (Mid.of_grownRow HCU.out hgr9) (Or.inl (by omega)));have h2:=hlsz.out;have h3:=HL0.out;simp only [h1,h2];omega
          ·rw [if_neg hcg] at HSR
           have hcgF:(cl=g+1)=False:=eq_false hcg;clear hcg;replace HSR:Hid (Rs ws.drew ws.drew.heap.size (some ⟨gl,g+1,none⟩) ((ints xs).drop ((g+1) * 1))):=Lib.hid (by
            have h:=HSR.out;rw [show Option.map (fun x=>x.add ((g+1) * 1)) (some (⟨gl,0,none⟩:Addr))=some ⟨gl,g+1,none⟩ by simp [Addr.add]] at h;exact h)
           refine wp_region_T (S:=(fun _=>True)) 8 (by kernel_rfl) trivial ?_;generalize World.drew ws=wz at b2 Y5 hleft hog hm5 HCU HSR hGs ⊢;refine tkT 0 rfl trivial ?_;try simp only [Act.put,zs1,zs2,zs3,zs4,zs5,zs6]
           refine tkT 1 rfl trivial ?_;try simp only [Act.put,zs1,zs2,zs3,zs4,zs5,zs6]
           refine tkT 2 rfl trivial ?_;try simp only [Act.put,zs1,zs2,zs3,zs4,zs5,zs6]
           refine tkT 3 rfl trivial ?_;try simp only [Act.put,zs1,zs2,zs3,zs4,zs5,zs6]
           refine tkT 4 rfl trivial ?_;try simp only [Act.put,zs1,zs2,zs3,zs4,zs5,zs6]
           refine tkT 5 rfl trivial ?_;try simp only [Act.put,zs1,zs2,zs3,zs4,zs5,zs6]
           refine tkT 6 rfl trivial ?_;try simp only [Act.put,zs1,zs2,zs3,zs4,zs5,zs6]
           refine rdT 7 rfl (fun K hK=>?_)
           (refine step_cat (by rfl) (.tmp 77) (.tmp 81) 34 (by rfl) (G+1) 3 (.int .i64 0) 1 8 undSI infoI rfl (by decide) (.slice (some ⟨gl,0,none⟩) g cl) g _ (by rfl) HCU.out _ (kk - (g+1)) _ _ ((ints xs).drop ((g+1) * 1)) (by rfl) HSR.out HDL.out HON.out hml hby hGs ?_;intro v9 w9 ho9 hgr9 hat9;obtain ⟨A9,c9,rfl, -, -⟩:=owns_shape ho9)
           refine hK.out _ _ (Or.inr trivial) (fun _=>?_);clear hK K;try simp only [Act.put,zs1,zs2,zs3,zs4,zs5,zs6]
           refine rdT 8 rfl (fun K hK=>?_)
           (go_simp)
           refine hK.out _ _ (Or.inl rfl) (fun _=>?_);clear hK K;try simp only [Act.put,zs1,zs2,zs3,zs4,zs5,zs6]
           refine wpAnyT_done (by kernel_rfl) ?_ _;go_wp2_with fail;go_roundw
           case rel =>
            have hm9:=Mid.of_grownRow HCU.out hgr9;have h0:=hog.ov.2.1.kept hgr9 (owns_ne hog.ov.2.1 HCU.out (by decide));have hnl2:g+(kk - (g+1))=no:=by have:=HL0.out;omega
            have hb9:Value.ownBlock (.slice A3 es2.length c3)≠some G:=fun h=>by have:=(hog.ov.2.1.lt _ h).1;omega
            have hxe:(ints xs).take (g * 1)++(ints xs).drop ((g+1) * 1)=ints (xs.take g++xs.drop (g+1)):=by simp [ints]
            rw [hxe,hnl2] at ho9;exact ⟨m',no,es2,A3,c3,A9,c9,xs.take g++xs.drop (g+1),by rw [hnl2],HTT2,by have:=HL0.out;omega,HG2,ho9,Lib.hid (owns_base h0 (by omega)),Lib.hid hb9,b2.mid hm9 (Or.inl (by omega)),Y5.mid hm9 (Or.inl (by omega)),hm5.transNew hm9 (Or.inl (by omega))⟩
           case measure =>
            have h1:=sizeAt_box (Y5.mid (Mid.of_grownRow HCU.out hgr9) (Or.inl (by omega)));have h2:=hlsz.out;have h3:=HL0.out;simp only [h1,h2];omega
       ·obtain rfl:q=s:=by omega
        go_wp2_with fail;have O10:=owns_empty wk 3 1;have hal:=Mid.alloc wk (.cells #[] 3);clear y0 y1 y2;go_loopw [10,11] (fun o kv wr=>∃ (kk:Nat) (Ao:Option Addr) (no co:Nat),kk≤q∧kv=.int .i64 kk∧o=.slice Ao no co∧Hid ((but g kk).length=no)∧wr.ownsRow wk.heap.size 3 1 (.slice Ao no co) no (ints (but g kk))∧Mid 0 0 wk wr) (fun _ kv _=>q - (intOf kv).toNat)
        case atStart=>exact ⟨0,_,0,0,Nat.zero_le _,rfl,rfl,Lib.hid rfl,O10,hal⟩
        case round =>
         clear O10 hal;obtain ⟨kk,Ao,no,co,hkk,rfl,rfl,HNo,hord,hmy⟩:=hrel;have hno:no≤40:=by
          have h1:(but g kk).length≤kk:=by unfold but;rw [List.length_map];exact Nat.le_trans (List.length_filter_le _ _) (by simp)
          have h2:=HNo.out;omega
         have Y4:=Y3.mid hmy oZr;have y0:=Y4.cell 0 rfl;have y1:=Y4.cell 1 rfl;have y2:=Y4.cell 2 rfl;by_cases hlt:kk < q
         ·have hbs:=but_succ g kk
          have hk3:(kk:Int) < (q:Int):=by omega
          by_cases hkg:kk=g
          ·have d3:((kk:Int) != (g:Int))=false:=by simp;omega
           rw [if_pos hkg] at hbs;have HBS:=Lib.hid hbs;clear hbs hkg;go_wp2_with fail;go_roundw
           case rel=>exact ⟨kk+1,Ao,no,co,by omega,by go_num,rfl,by rw [HBS.out];exact HNo,by rw [HBS.out];exact hord,hmy⟩
           case measure=>simp [intOf];omega
          ·have d3:((kk:Int) != (g:Int))=true:=by simp;omega
           rw [if_neg hkg] at hbs;have HBS:=Lib.hid hbs;have HO:=Lib.hid hord;have hsz:=hmy.size;clear hbs hkg hord;go_wp2_with (at_builtin;refine wpList_pushI rfl _ _ rfl wk.heap.size Ao no co (but g kk) rfl HO.out kk rfl (by omega) hsz ?_;intro A9 c9 w9 ho9 hm9)
           go_roundw
           case rel=>exact ⟨kk+1,A9,no+1,c9,by omega,by go_num,rfl,Lib.hid (by rw [HBS.out,List.length_append,HNo.out];rfl),by rw [HBS.out];exact ho9,hmy.transNew hm9 (Or.inl (Nat.le_refl _))⟩
           case measure=>simp [intOf];omega
         ·obtain rfl:kk=q:=by omega
          have hln:(but g kk).length=no:=HNo.out;have HL0:Hid (no=kk - 1):=Lib.hid (by rw [← hln,but_len g hgs]);obtain ⟨es2,hes2⟩:∃ es2,partE (but g kk) es1=es2:=⟨_,rfl⟩
          have hcv:cutV ((kk:Int),es1) g=((no:Int),es2):=by unfold cutV;simp only [Int.toNat_natCast];rw [hln,hes2]
          have hE6:=owns_mid HE.out hmy oZl;have hP:=impl_part r kk A2 es1 c2 Ao (but g kk) co wr _ _ _ _ (owns_rv hE6).rg (owns_rv hord) HGs.out (but_nodup g kk) (fun x hx=>but_range hx);rw [hln,hes2] at hP;have HP:=Lib.hid hP;have hTT2:=HTT.out;rw [hcv] at hTT2;have hgr2:=HCG.out;rw [hcv] at hgr2;have HTT2:=Lib.hid hTT2;have HG2:=Lib.hid hgr2;have hwks:G+1≤wk.heap.size:=Y3.1;clear hP hTT2 hgr2 hcv hes2 hln hord HTT HCG HE hE6;go_wp2_with fail;with_reducible refine HP.out.mono ?_
          rintro en w8 ⟨A3,c3,rfl,hog,hm8⟩;clear HP;replace hog:=hog.wide (lo':=wk.heap.size) hmy.size (Nat.le_refl _) (Nat.le_refl _);have hm28:=hmy.trans hm8;clear Y4 y0 y1 y2;replace b2:=b2.mid hm28 oZr;replace Y3:=Y3.mid hm28 oZr;replace hleft:=owns_mid hleft hm28 oZl;replace hm:=hm.trans hm28;clear hmy hm8 hm28;have y0:=Y3.cell 0 rfl;have y1:=Y3.cell 1 rfl;have y2:=Y3.cell 2 rfl;have yf:=Y3.2.2;go_wp2_with fail;have hst:=(Mid.setAt w8 G 0 (.int .i64 r)).trans ((Mid.setAt (w8.setCell ⟨G,0,none⟩ (.int .i64 r)) G 1 (.int .i64 no)).trans (Mid.setAt ((w8.setCell ⟨G,0,none⟩ (.int .i64 r)).setCell ⟨G,1,none⟩ (.int .i64 no)) G 2 (.slice A3 es2.length c3)));have Y5:=((Y3.set 0 (.int .i64 r) (by simp) rfl).set 1 (.int .i64 no) (by simp) rfl).set 2 (.slice A3 es2.length c3) (by simp) rfl;have hm5:=((hm.storeNew (p:=⟨G,0,none⟩) (by show w.heap.size≤G;omega) (.int .i64 r)).storeNew (p:=⟨G,1,none⟩) (by show w.heap.size≤G;omega) (.int .i64 no)).storeNew (p:=⟨G,2,none⟩) (by show w.heap.size≤G;omega) (.slice A3 es2.length c3);replace b2:=b2.mid hst (Or.inl (by omega));replace hleft:=owns_mid hleft hst (Or.inl (Nat.le_refl _));replace hog:=hog.mid hst (Or.inl hwks);clear Y3 hm y0 y1 y2 yf hst;generalize ((w8.setCell ⟨G,0,none⟩ (.int .i64 r)).setCell ⟨G,1,none⟩ (.int .i64 no)).setCell ⟨G,2,none⟩ (.slice A3 es2.length c3)=ws at Y5 hm5 b2 hleft hog ⊢;have hmd:=Mid.drew1 ws;replace b2:=b2.mid hmd oZr;replace Y5:=Y5.mid hmd oZr;replace hleft:=owns_mid hleft hmd oZl;replace hog:=hog.mid hmd oZl;replace hm5:=hm5.trans hmd;clear hmd;obtain ⟨gl,rfl,hgl1,hgl2⟩:=owns_addr hleft (show 0 < kk by omega);have hsc:kk≤cl:=by
           obtain ⟨A',c',hv0,hsc,hcm⟩:=owns_shape hleft;injection hv0 with _ _ hv0
           omega
          have hcut2:=owns_cut hleft (m:=g) (by omega);have hxl:(ints xs).length=kk * 1:=hleft.1;have hsrc:=(Rs.of_own hleft).drop (k:=g+1) (n:=kk) (cap:=cl) 1 hxl hsc;have hdl:((ints xs).drop ((g+1) * 1)).length=(kk - (g+1)) * 1:=by rw [List.length_drop,hxl];omega
          have hone:∀ u∈(ints xs).drop ((g+1) * 1),u.oneCell'=true:=fun u hu=>one_of_ints xs u (List.mem_of_mem_drop hu);have hml:g+(kk - (g+1))≤maxLen:=by unfold maxLen;omega
          have hby:(g+(kk - (g+1))) * 8≤140737488355328:=by omega
          have hGs:G+1≤ws.drew.heap.size:=Y5.1;have HCU:=Lib.hid hcut2;have HSR:=Lib.hid hsrc;have HDL:=Lib.hid hdl;have HON:=Lib.hid hone;have HXL:=Lib.hid hxl;have hgi:(0:Int)≤(g:Int):=by omega
          have hgi1:(0:Int)≤(g:Int)+1:=by omega
          have hgk:(g:Int) < (kk:Int):=by omega
          have hgk2:(g:Int)+1≤(kk:Int):=by omega
          have hgn:g≤cl:=by omega
          have hgn1:g+1≤kk:=by omega
          have hgn2:g+1≤cl:=by omega
          have hgc:(g:Int)≤(cl:Int):=by omega
          have hgc2:(g:Int)+1≤(cl:Int):=by omega
          have hwrp:IntKind.i64.wrap ((g:Int)+1)=(g:Int)+1:=IntWalk.i64_in _ (by omega);clear hcut2 hsrc hdl hone hxl;by_cases hcg:cl=g+1
          ·rw [if_pos hcg] at HSR
           have hcgF:(cl=g+1)=True:=eq_true hcg;clear hcg;refine wp_region_T (S:=(fun _=>True)) 8 (by kernel_rfl) trivial ?_;generalize World.drew ws=wz at b2 Y5 hleft hog hm5 HCU HSR hGs ⊢;refine tkT 0 rfl trivial ?_;try simp only [Act.put,zs1,zs2,zs3,zs4,zs5,zs6]
           refine tkT 1 rfl trivial ?_;try simp only [Act.put,zs1,zs2,zs3,zs4,zs5,zs6]
           refine tkT 2 rfl trivial ?_;try simp only [Act.put,zs1,zs2,zs3,zs4,zs5,zs6]
           refine tkT 3 rfl trivial ?_;try simp only [Act.put,zs1,zs2,zs3,zs4,zs5,zs6]
           refine tkT 4 rfl trivial ?_;try simp only [Act.put,zs1,zs2,zs3,zs4,zs5,zs6]
           refine tkT 5 rfl trivial ?_;try simp only [Act.put,zs1,zs2,zs3,zs4,zs5,zs6]
           refine tkT 6 rfl trivial ?_;try simp only [Act.put,zs1,zs2,zs3,zs4,zs5,zs6]
           refine rdT 7 rfl (fun K hK=>?_)
           (refine step_cat (by rfl) (.tmp 77) (.tmp 81) 34 (by rfl) (G+1) 3 (.int .i64 0) 1 8 undSI infoI rfl (by decide) (.slice (some ⟨gl,0,none⟩) g cl) g _ (by rfl) HCU.out _ (kk - (g+1)) _ _ ((ints xs).drop ((g+1) * 1)) (by rfl) HSR.out HDL.out HON.out hml hby hGs ?_;intro v9 w9 ho9 hgr9 hat9;obtain ⟨A9,c9,rfl, -, -⟩:=owns_shape ho9)
           refine hK.out _ _ (Or.inr trivial) (fun _=>?_);clear hK K;try simp only [Act.put,zs1,zs2,zs3,zs4,zs5,zs6]
           refine rdT 8 rfl (fun K hK=>?_)
           (go_simp)
           refine hK.out _ _ (Or.inl rfl) (fun _=>?_);clear hK K;try simp only [Act.put,zs1,zs2,zs3,zs4,zs5,zs6]
           refine wpAnyT_done (by kernel_rfl) ?_ _;go_wp2_with fail;go_roundw
           case rel =>
            have hm9:=Mid.of_grownRow HCU.out hgr9;have h0:=hog.ov.2.1.kept hgr9 (owns_ne hog.ov.2.1 HCU.out (by decide));have hnl2:g+(kk - (g+1))=no:=by have:=HL0.out;omega
            have hb9:Value.ownBlock (.slice A3 es2.length c3)≠some G:=fun h=>by have:=(hog.ov.2.1.lt _ h).1;omega
            have hxe:(ints xs).take (g * 1)++(ints xs).drop ((g+1) * 1)=ints (xs.take g++xs.drop (g+1)):=by simp [ints]
            rw [hxe,hnl2] at ho9;exact ⟨m',no,es2,A3,c3,A9,c9,xs.take g++xs.drop (g+1),by rw [hnl2],HTT2,by have:=HL0.out;omega,HG2,ho9,Lib.hid (owns_base h0 (by omega)),Lib.hid hb9,b2.mid hm9 (Or.inl (by omega)),Y5.mid hm9 (Or.inl (by omega)),hm5.transNew hm9 (Or.inl (by omega))⟩
           case measure =>
            have h1:=sizeAt_box (Y5.mid (Mid.of_grownRow HCU.out hgr9) (Or.inl (by omega)));have h2:=hlsz.out;have h3:=HL0.out;simp only [h1,h2];omega
          ·rw [if_neg hcg] at HSR
           have hcgF:(cl=g+1)=False:=eq_false hcg;clear hcg;replace HSR:Hid (Rs ws.drew ws.drew.heap.size (some ⟨gl,g+1,none⟩) ((ints xs).drop ((g+1) * 1))):=Lib.hid (by
            have h:=HSR.out;rw [show Option.map (fun x=>x.add ((g+1) * 1)) (some (⟨gl,0,none⟩:Addr))=some ⟨gl,g+1,none⟩ by simp [Addr.add]] at h;exact h)
           refine wp_region_T (S:=(fun _=>True)) 8 (by kernel_rfl) trivial ?_;generalize World.drew ws=wz at b2 Y5 hleft hog hm5 HCU HSR hGs ⊢;refine tkT 0 rfl trivial ?_;try simp only [Act.put,zs1,zs2,zs3,zs4,zs5,zs6]
           refine tkT 1 rfl trivial ?_;try simp only [Act.put,zs1,zs2,zs3,zs4,zs5,zs6]
           refine tkT 2 rfl trivial ?_;try simp only [Act.put,zs1,zs2,zs3,zs4,zs5,zs6]
           refine tkT 3 rfl trivial ?_;try simp only [Act.put,zs1,zs2,zs3,zs4,zs5,zs6]
           refine tkT 4 rfl trivial ?_;try simp only [Act.put,zs1,zs2,zs3,zs4,zs5,zs6]
           refine tkT 5 rfl trivial ?_;try simp only [Act.put,zs1,zs2,zs3,zs4,zs5,zs6]
           refine tkT 6 rfl trivial ?_;try simp only [Act.put,zs1,zs2,zs3,zs4,zs5,zs6]
           refine rdT 7 rfl (fun K hK=>?_)
           (refine step_cat (by rfl) (.tmp 77) (.tmp 81) 34 (by rfl) (G+1) 3 (.int .i64 0) 1 8 undSI infoI rfl (by decide) (.slice (some ⟨gl,0,none⟩) g cl) g _ (by rfl) HCU.out _ (kk - (g+1)) _ _ ((ints xs).drop ((g+1) * 1)) (by rfl) HSR.out HDL.out HON.out hml hby hGs ?_;intro v9 w9 ho9 hgr9 hat9;obtain ⟨A9,c9,rfl, -, -⟩:=owns_shape ho9)
           refine hK.out _ _ (Or.inr trivial) (fun _=>?_);clear hK K;try simp only [Act.put,zs1,zs2,zs3,zs4,zs5,zs6]
           refine rdT 8 rfl (fun K hK=>?_)
           (go_simp)
           refine hK.out _ _ (Or.inl rfl) (fun _=>?_);clear hK K;try simp only [Act.put,zs1,zs2,zs3,zs4,zs5,zs6]
           refine wpAnyT_done (by kernel_rfl) ?_ _;go_wp2_with fail;go_roundw
           case rel =>
            have hm9:=Mid.of_grownRow HCU.out hgr9;have h0:=hog.ov.2.1.kept hgr9 (owns_ne hog.ov.2.1 HCU.out (by decide));have hnl2:g+(kk - (g+1))=no:=by have:=HL0.out;omega
            have hb9:Value.ownBlock (.slice A3 es2.length c3)≠some G:=fun h=>by have:=(hog.ov.2.1.lt _ h).1;omega
            have hxe:(ints xs).take (g * 1)++(ints xs).drop ((g+1) * 1)=ints (xs.take g++xs.drop (g+1)):=by simp [ints]
            rw [hxe,hnl2] at ho9;exact ⟨m',no,es2,A3,c3,A9,c9,xs.take g++xs.drop (g+1),by rw [hnl2],HTT2,by have:=HL0.out;omega,HG2,ho9,Lib.hid (owns_base h0 (by omega)),Lib.hid hb9,b2.mid hm9 (Or.inl (by omega)),Y5.mid hm9 (Or.inl (by omega)),hm5.transNew hm9 (Or.inl (by omega))⟩
           case measure =>
            have h1:=sizeAt_box (Y5.mid (Mid.of_grownRow HCU.out hgr9) (Or.inl (by omega)));have h2:=hlsz.out;have h3:=HL0.out;simp only [h1,h2];omega
end
section
open Go.RowKit
theorem IsGr.nat {r s:Int} {es:List Ed} (h:IsGr r s es):∃ k n:Nat,r=k∧s=n:=by
 have h1:=h.rank;have h2:=h.size;exact ⟨r.toNat,s.toNat,by omega,by omega⟩
theorem impl_IsCore (r s:Int) (A:Option Addr) (es:List Ed) (c:Nat) (w:World) (lo hi:Nat) (hr:RG w lo hi A es) (hl:es.length≤1048576) (hcl:es.length≤c) (b:Bool) (hb:b=true↔IsCor r s es) :
  Calls Tryz.prog 88 #[graV r s A es.length c] w fun e w'=>e=.returned (.bool b)∧Mid 0 0 w w':=by
 have HB:=Lib.hid hb;clear hb;have hm0:Mid 0 0 w (w.alloc (.cells #[.int .i64 r,.int .i64 s,.slice A es.length c] 26)):=Mid.alloc _ _;have b0:=Box.new w #[.int .i64 r,.int .i64 s,.slice A es.length c] 26;by_cases hf:IsFol r s es
 ·obtain ⟨r,n,rfl,rfl⟩:=hf.gr.nat
  have hn1:0 < n:=by have:=hf.gr.size;omega
  have HF:=Lib.hid hf;obtain ⟨T,hT⟩:∃ T,trimA 40 ((n:Int),es)=T:=⟨_,rfl⟩
  have HTS:Hid (T.1=n↔leaf n es=none):=Lib.hid (by rw [← hT];exact trimA_same (g:=((n:Int),es)) (by omega));have hTg:IsGr r T.1 T.2:=by rw [← hT];exact trimA_gr 40 (g:=((n:Int),es)) hf.gr
  obtain ⟨tr,tn, -,htn⟩:=hTg.nat;obtain ⟨ts,te⟩:=T;simp only at htn HTS;subst htn;have htl:=hTg.len;have HTR:=Lib.hid hT;clear hf hT hTg;have hTRIM:=fun W h=>impl_TrimGraph r n A es c W lo hi h HF.out.gr;simp only [HTR.out] at hTRIM;have HTRIM:=Lib.hid hTRIM;clear hTRIM HTR;go_enter Tryz.func88,Tryz.ntmps88
  go_wp2_with fail;with_reducible refine (impl_IsFolded r n A es c _ _ _ (hr.mid hm0 oZl) hl hcl true (iff_of_true rfl HF.out)).mono ?_
  rintro en w1 ⟨rfl,hm1⟩;replace b0:=b0.mid hm1 oZr;replace hm0:=hm0.trans hm1;have p0:=b0.cell 0 rfl;have p1:=b0.cell 1 rfl;have p2:=b0.cell 2 rfl;go_wp2_with fail;with_reducible refine (HTRIM.out _ (hr.mid hm0 oZl)).mono ?_
  rintro en w2 ⟨A1,c1,Al,nl,cl,rfl,hog,hm2⟩;replace b0:=b0.mid hm2 oZr;replace hm0:=hm0.trans hm2;have hal:=Mid.alloc w2 (.cells #[.int .i64 r,.int .i64 tn,.slice A1 te.length c1] 26);have bt:=Box.new w2 #[.int .i64 r,.int .i64 tn,.slice A1 te.length c1] 26;replace b0:=b0.mid hal oZr;replace hm0:=hm0.trans hal;clear p0 p1 p2 HTRIM;go_wp2_with fail;generalize w2.alloc (.cells #[.int .i64 r,.int .i64 tn,.slice A1 te.length c1] 26)=w3 at b0 bt hm0 ⊢;by_cases hts:(tn:Int)=n
  ·have hlf:=HTS.out.1 hts
   obtain rfl:tn=n:=by omega
   obtain ⟨C,hC⟩:∃ C,canonG r ((tn:Int),es)=C:=⟨_,rfl⟩
   have hCg:IsGr r C.1 C.2:=by rw [← hC];exact canonG_gr (g:=((tn:Int),es)) HF.out.gr
   have HB2:Hid (b=true↔(r:Int)=r∧C.1=tn∧C.2=es):=Lib.hid (by
    rw [HB.out];constructor
    ·intro h
     have h1:=h.canon;rw [hC] at h1;exact ⟨rfl,by rw [h1],by rw [h1]⟩
    ·rintro ⟨-,h1,h2⟩
     exact ⟨HF.out,hlf,by rw [hC];exact Prod.ext h1 h2⟩)
   have hcl2:=hCg.len;have hmd:=Mid.drew1 w3;replace b0:=b0.mid hmd oZr;replace bt:=bt.mid hmd oZr;replace hm0:=hm0.trans hmd;have p0:=b0.cell 0 rfl;have p1:=b0.cell 1 rfl;have p2:=b0.cell 2 rfl;have q1:=bt.cell 1 rfl;have hCAN:=fun W h=>impl_CanonicalGraph r tn A es c W lo hi h hcl HF.out.gr;simp only [hC] at hCAN;have HCAN:=Lib.hid hCAN;clear hCAN hC hCg HB hlf HTS hts hmd;refine wp_region_T (S:=(fun w'=>w'.cell? ⟨w.heap.size,0,none⟩=some (.int .i64 r)∧w'.cell? ⟨w.heap.size,1,none⟩=some (.int .i64 tn)∧w'.cell? ⟨w.heap.size,2,none⟩=some (.slice A es.length c)∧w'.cell? ⟨w2.heap.size,1,none⟩=some (.int .i64 tn))) 11 (by kernel_rfl) ⟨p0,p1,p2,q1⟩ ?_;generalize World.drew w3=wz at b0 bt hm0 p0 p1 p2 q1 ⊢;have hS:wz.cell? ⟨w.heap.size,0,none⟩=some (.int .i64 r)∧wz.cell? ⟨w.heap.size,1,none⟩=some (.int .i64 tn)∧wz.cell? ⟨w.heap.size,2,none⟩=some (.slice A es.length c)∧wz.cell? ⟨w2.heap.size,1,none⟩=some (.int .i64 tn):=⟨p0,p1,p2,q1⟩
   refine tkT 0 rfl hS ?_;try simp only [Act.put,zs1,zs2,zs3,zs4,zs5,zs6]
   refine tkT 1 rfl hS ?_;try simp only [Act.put,zs1,zs2,zs3,zs4,zs5,zs6]
   refine tkT 2 rfl hS ?_;try simp only [Act.put,zs1,zs2,zs3,zs4,zs5,zs6]
   refine tkT 3 rfl hS ?_;try simp only [Act.put,zs1,zs2,zs3,zs4,zs5,zs6]
   refine tkT 4 rfl hS ?_;try simp only [Act.put,zs1,zs2,zs3,zs4,zs5,zs6]
   refine tkT 5 rfl hS ?_;try simp only [Act.put,zs1,zs2,zs3,zs4,zs5,zs6]
   refine tkT 6 rfl hS ?_;try simp only [Act.put,zs1,zs2,zs3,zs4,zs5,zs6]
   refine tkT 8 rfl hS ?_;try simp only [Act.put,zs1,zs2,zs3,zs4,zs5,zs6]
   refine rdT 7 rfl (fun K hK=>?_)
   (go_simp;refine (HCAN.out _ (hr.mid hm0 oZl)).mono ?_;rintro en w4 ⟨A4,c4,rfl,hog4,hm4⟩;have b0':=b0.mid hm4 oZr;have bt':=bt.mid hm4 oZr;go_wp2_with fail)
   refine hK.out _ _ (Or.inr ⟨b0'.cell 0 rfl,b0'.cell 1 rfl,b0'.cell 2 rfl,bt'.cell 1 rfl⟩) (fun _=>?_);clear hK K;try simp only [Act.put,zs1,zs2,zs3,zs4,zs5,zs6]
   replace hm0:=hm0.trans hm4;have hE:=impl_EqualGraphs r C.1 A4 C.2 c4 r tn A es c w4 _ _ _ _ hog4.rg (hr.mid hm0 oZl) (by omega) hl b (by have h:=HB2.out;simpa using h);have HE:=Lib.hid hE;clear hS p0 p1 p2 q1 b0 bt HCAN HB2 hE hm4;refine rdT 9 rfl (fun K hK=>?_)
   (go_simp;refine HE.out.mono ?_;rintro en w5 ⟨rfl,hm5⟩;have b0:=b0'.mid hm5 oZr;have bt:=bt'.mid hm5 oZr;go_wp2_with fail)
   refine hK.out _ _ (Or.inr ⟨b0.cell 0 rfl,b0.cell 1 rfl,b0.cell 2 rfl,bt.cell 1 rfl⟩) (fun _=>?_);clear hK K;try simp only [Act.put,zs1,zs2,zs3,zs4,zs5,zs6]
   have hS2:w5.cell? ⟨w.heap.size,0,none⟩=some (.int .i64 r)∧w5.cell? ⟨w.heap.size,1,none⟩=some (.int .i64 tn)∧w5.cell? ⟨w.heap.size,2,none⟩=some (.slice A es.length c)∧w5.cell? ⟨w2.heap.size,1,none⟩=some (.int .i64 tn):=⟨b0.cell 0 rfl,b0.cell 1 rfl,b0.cell 2 rfl,bt.cell 1 rfl⟩
   have hmm:=hm0.trans hm5;clear HE b0' bt';refine tkT 10 rfl hS2 ?_;try simp only [Act.put,zs1,zs2,zs3,zs4,zs5,zs6]
   refine rdT 11 rfl (fun K hK=>?_)
   (go_simp)
   refine hK.out _ _ (Or.inl rfl) (fun _=>?_);clear hK K;try simp only [Act.put,zs1,zs2,zs3,zs4,zs5,zs6]
   refine wpAnyT_done (by kernel_rfl) ?_ _;go_wp2_with fail;go_ret;exact ⟨rfl,hmm⟩
  ·obtain rfl:b=false:=bool_no HB.out fun h=>hts (HTS.out.2 h.leaf)
   have d1:((tn:Int) == (n:Int))=false:=by simpa only [beq_eq_false_iff_ne] using hts
   have d2:¬ tn=n:=fun h=>hts (by rw [h]);have u0:=wg_cell b0.1 (b0.cell 0 rfl);have u1:=wg_cell b0.1 (b0.cell 1 rfl);have u2:=wg_cell b0.1 (b0.cell 2 rfl);have v1:=wg_cell bt.1 (bt.cell 1 rfl);clear HB HTS hts;refine wp_region_quiet_wg (by kernel_rfl) (by kernel_rfl) ?_;repeat
    (with_reducible refine wpQuiet_step (fun K hK=>?_))
    go_simp
    first
     | ((with_reducible refine hK _ ?_);clear hK K)
     | (rw [if_neg (by decide)];(with_reducible refine hK _ ?_);clear hK K)
     | (apply Exists.intro;refine ⟨fun _=>?_,hK _ ?_⟩;(fail);clear hK K)
   with_reducible refine wpQuiet_nil ?_
   intro _ hw';obtain ⟨⟨nq,osq⟩,hw''⟩:=hw';subst hw'';go_wp2_with fail;go_ret;exact ⟨rfl,hm0.trans (Mid.ofWg w3 nq osq)⟩
 ·obtain rfl:b=false:=bool_no HB.out fun h=>hf h.fol
  have HF:=Lib.hid hf;clear hf HB;go_enter Tryz.func88,Tryz.ntmps88
  go_wp2_with fail;with_reducible refine (impl_IsFolded r s A es c _ _ _ (hr.mid hm0 oZl) hl hcl false (iff_of_false Bool.false_ne_true HF.out)).mono ?_
  rintro en w1 ⟨rfl,hm1⟩;go_wp2_with fail;go_ret;exact ⟨rfl,hm0.trans hm1⟩
theorem spec_IsCore (r s:Int) (A:Option Addr) (es:List Ed) (c:Nat) (w:World) (lo hi:Nat) (hr:RG w lo hi A es) (hl:es.length≤1048576) (b:Bool) (hb:b=true↔IsCor r s es) :
  Calls Tryz.prog 166 #[graV r s A es.length c] w fun e w'=>e=.returned (.bool b)∧Mid 0 0 w w':=by
 have HB:=Lib.hid hb;clear hb;have hm0:Mid 0 0 w (w.alloc (.cells #[.int .i64 r,.int .i64 s,.slice A es.length c] 26)):=Mid.alloc _ _;have b0:=Box.new w #[.int .i64 r,.int .i64 s,.slice A es.length c] 26;by_cases hf:IsFol r s es
 ·obtain ⟨r,n,rfl,rfl⟩:=hf.gr.nat
  have HF:=Lib.hid hf;clear hf;have hFol:=fun W h=>spec_IsFolded r n A es c W lo hi h hl true (iff_of_true rfl HF.out);have hLeaf:=fun W h=>spec_l8Leaf r n A es c W lo hi h HF.out.gr;obtain ⟨lf,hlf⟩:∃ lf,leafI n es=lf:=⟨_,rfl⟩
  have HLF:=Lib.hid hlf;simp only [hlf] at hLeaf;clear hlf;have HFol:=Lib.hid hFol;have HLeaf:=Lib.hid hLeaf;clear hFol hLeaf;by_cases hln:leaf n es=none
  ·have hlf0:lf = -1:=by rw [← HLF.out,leafI_none hln]
   subst hlf0;obtain ⟨C,hC⟩:∃ C,canonG r ((n:Int),es)=C:=⟨_,rfl⟩
   have hCg:IsGr r C.1 C.2:=by rw [← hC];exact canonG_gr (g:=((n:Int),es)) HF.out.gr
   have HB2:Hid (b=true↔(r:Int)=r∧C.1=n∧C.2=es):=Lib.hid (by
    rw [HB.out];constructor
    ·intro h
     have h1:=h.canon;rw [hC] at h1;exact ⟨rfl,by rw [h1],by rw [h1]⟩
    ·rintro ⟨-,h1,h2⟩
     exact ⟨HF.out,hln,by rw [hC];exact Prod.ext h1 h2⟩)
   have hcl2:=hCg.len;have hCAN:=fun W h=>spec_CanonicalGraph r n A es c W lo hi h HF.out.gr;simp only [hC] at hCAN;have HCAN:=Lib.hid hCAN;clear hCAN hC hCg HB hln HLF;go_enter Tryz.func166,Tryz.ntmps166
   go_wp2_with fail;generalize w.alloc (.cells #[.int .i64 r,.int .i64 n,.slice A es.length c] 26)=w3 at b0 hm0 ⊢;have hmd:=Mid.drew1 w3;replace b0:=b0.mid hmd oZr;replace hm0:=hm0.trans hmd;have p0:=b0.cell 0 rfl;have p1:=b0.cell 1 rfl;have p2:=b0.cell 2 rfl;clear hmd;refine wp_region_T (S:=(fun w'=>w'.cell? ⟨w.heap.size,0,none⟩=some (.int .i64 r)∧w'.cell? ⟨w.heap.size,1,none⟩=some (.int .i64 n)∧w'.cell? ⟨w.heap.size,2,none⟩=some (.slice A es.length c))) 13 (by kernel_rfl) ⟨p0,p1,p2⟩ ?_;generalize World.drew w3=wz at b0 hm0 p0 p1 p2 ⊢;have hS:wz.cell? ⟨w.heap.size,0,none⟩=some (.int .i64 r)∧wz.cell? ⟨w.heap.size,1,none⟩=some (.int .i64 n)∧wz.cell? ⟨w.heap.size,2,none⟩=some (.slice A es.length c):=⟨p0,p1,p2⟩
   refine tkT 0 rfl hS ?_;try simp only [Act.put,zs1,zs2,zs3,zs4,zs5,zs6]
   refine rdT 1 rfl (fun K hK=>?_)
   (go_simp;refine (HFol.out _ (hr.mid hm0 oZl)).mono ?_;rintro en w4 ⟨rfl,hm4⟩;have b1:=b0.mid hm4 oZr;go_wp2_with fail)
   refine hK.out _ _ (Or.inr ⟨b1.cell 0 rfl,b1.cell 1 rfl,b1.cell 2 rfl⟩) (fun _=>?_);clear hK K;try simp only [Act.put,zs1,zs2,zs3,zs4,zs5,zs6]
   replace hm0:=hm0.trans hm4;have hS4:w4.cell? ⟨w.heap.size,0,none⟩=some (.int .i64 r)∧w4.cell? ⟨w.heap.size,1,none⟩=some (.int .i64 n)∧w4.cell? ⟨w.heap.size,2,none⟩=some (.slice A es.length c):=⟨b1.cell 0 rfl,b1.cell 1 rfl,b1.cell 2 rfl⟩
   clear b0 hS p0 p1 p2 hm4 HFol;refine tkT 2 rfl hS4 ?_;try simp only [Act.put,zs1,zs2,zs3,zs4,zs5,zs6]
   refine tkT 3 rfl hS4 ?_;try simp only [Act.put,zs1,zs2,zs3,zs4,zs5,zs6]
   refine rdT 4 rfl (fun K hK=>?_)
   (go_simp;refine (HLeaf.out _ (hr.mid hm0 oZl)).mono ?_;rintro en w5 ⟨rfl,hm5⟩;have b2:=b1.mid hm5 oZr;go_wp2_with fail)
   refine hK.out _ _ (Or.inr ⟨b2.cell 0 rfl,b2.cell 1 rfl,b2.cell 2 rfl⟩) (fun _=>?_);clear hK K;try simp only [Act.put,zs1,zs2,zs3,zs4,zs5,zs6]
   replace hm0:=hm0.trans hm5;have hS5:w5.cell? ⟨w.heap.size,0,none⟩=some (.int .i64 r)∧w5.cell? ⟨w.heap.size,1,none⟩=some (.int .i64 n)∧w5.cell? ⟨w.heap.size,2,none⟩=some (.slice A es.length c):=⟨b2.cell 0 rfl,b2.cell 1 rfl,b2.cell 2 rfl⟩
   clear b1 hS4 hm5 HLeaf;refine tkT 5 rfl hS5 ?_;try simp only [Act.put,zs1,zs2,zs3,zs4,zs5,zs6]
   refine tkT 6 rfl hS5 ?_;try simp only [Act.put,zs1,zs2,zs3,zs4,zs5,zs6]
   refine tkT 7 rfl hS5 ?_;try simp only [Act.put,zs1,zs2,zs3,zs4,zs5,zs6]
   refine tkT 8 rfl hS5 ?_;try simp only [Act.put,zs1,zs2,zs3,zs4,zs5,zs6]
   refine tkT 10 rfl hS5 ?_;try simp only [Act.put,zs1,zs2,zs3,zs4,zs5,zs6]
   refine rdT 9 rfl (fun K hK=>?_)
   (go_simp;refine (HCAN.out _ (hr.mid hm0 oZl)).mono ?_;rintro en w6 ⟨A6,c6,rfl,hog6,hm6⟩;have b3:=b2.mid hm6 oZr;go_wp2_with fail)
   refine hK.out _ _ (Or.inr ⟨b3.cell 0 rfl,b3.cell 1 rfl,b3.cell 2 rfl⟩) (fun _=>?_);clear hK K;try simp only [Act.put,zs1,zs2,zs3,zs4,zs5,zs6]
   replace hm0:=hm0.trans hm6;have hE:=spec_EqualGraphs r C.1 A6 C.2 c6 r n A es c w6 _ _ _ _ hog6.rg (hr.mid hm0 oZl) (by omega) hl b (by have h:=HB2.out;simpa using h);have HE:=Lib.hid hE;clear hS5 b2 HCAN HB2 hE hm6;refine rdT 11 rfl (fun K hK=>?_)
   (go_simp;refine HE.out.mono ?_;rintro en w7 ⟨rfl,hm7⟩;have b4:=b3.mid hm7 oZr;go_wp2_with fail)
   refine hK.out _ _ (Or.inr ⟨b4.cell 0 rfl,b4.cell 1 rfl,b4.cell 2 rfl⟩) (fun _=>?_);clear hK K;try simp only [Act.put,zs1,zs2,zs3,zs4,zs5,zs6]
   have hS7:w7.cell? ⟨w.heap.size,0,none⟩=some (.int .i64 r)∧w7.cell? ⟨w.heap.size,1,none⟩=some (.int .i64 n)∧w7.cell? ⟨w.heap.size,2,none⟩=some (.slice A es.length c):=⟨b4.cell 0 rfl,b4.cell 1 rfl,b4.cell 2 rfl⟩
   have hmm:=hm0.trans hm7;clear HE b3;refine tkT 12 rfl hS7 ?_;try simp only [Act.put,zs1,zs2,zs3,zs4,zs5,zs6]
   refine rdT 13 rfl (fun K hK=>?_)
   (go_simp)
   refine hK.out _ _ (Or.inl rfl) (fun _=>?_);clear hK K;try simp only [Act.put,zs1,zs2,zs3,zs4,zs5,zs6]
   refine wpAnyT_done (by kernel_rfl) ?_ _;go_wp2_with fail;go_ret;exact ⟨rfl,hmm⟩
  ·obtain rfl:b=false:=bool_no HB.out fun h=>hln h.leaf
   obtain ⟨v,hv⟩:∃ v:Nat,leaf n es=some v:=by
    cases h:leaf n es with
    | none=>exact absurd h hln
    | some v=>exact ⟨v,rfl⟩
   have hlf0:lf=v:=by rw [← HLF.out,leafI_some hv]
   subst hlf0;have d1:decide ((v:Int) < 0)=false:=by simp
   clear HB hln hv HLF;go_enter Tryz.func166,Tryz.ntmps166
   go_wp2_with fail;generalize w.alloc (.cells #[.int .i64 r,.int .i64 n,.slice A es.length c] 26)=w3 at b0 hm0 ⊢;have u0:=wg_cell b0.1 (b0.cell 0 rfl);have u1:=wg_cell b0.1 (b0.cell 1 rfl);have u2:=wg_cell b0.1 (b0.cell 2 rfl);have hA1:=fun m os=>HFol.out (wg w3 m os) (hr.mid (hm0.trans (Mid.ofWg w3 m os)) oZl);have hA2:=fun m os=>HLeaf.out (wg w3 m os) (hr.mid (hm0.trans (Mid.ofWg w3 m os)) oZl);refine wp_region_quiet_wg (by kernel_rfl) (by kernel_rfl) ?_;repeat
    (with_reducible refine wpQuiet_step (fun K hK=>?_))
    go_simp
    first
     | ((with_reducible refine hK _ ?_);clear hK K)
     | (rw [if_neg (by decide)];(with_reducible refine hK _ ?_);clear hK K)
     | (apply Exists.intro;refine ⟨fun _=>?_,hK _ ?_⟩;((first | (go_at_call 130;exact Calls.wg_of (hA1 _ _)) | (go_at_call 205;exact Calls.wg_of (hA2 _ _))));clear hK K)
   with_reducible refine wpQuiet_nil ?_
   intro _ hw';obtain ⟨⟨nq,osq⟩,hw''⟩:=hw';subst hw'';go_wp2_with fail;go_ret;exact ⟨rfl,hm0.trans (Mid.ofWg w3 nq osq)⟩
 ·obtain rfl:b=false:=bool_no HB.out fun h=>hf h.fol
  have hFol:=fun W h=>spec_IsFolded r s A es c W lo hi h hl false (iff_of_false Bool.false_ne_true hf);have HFol:=Lib.hid hFol;clear hf HB hFol;go_enter Tryz.func166,Tryz.ntmps166
  go_wp2_with fail;generalize w.alloc (.cells #[.int .i64 r,.int .i64 s,.slice A es.length c] 26)=w3 at b0 hm0 ⊢;have u0:=wg_cell b0.1 (b0.cell 0 rfl);have u1:=wg_cell b0.1 (b0.cell 1 rfl);have u2:=wg_cell b0.1 (b0.cell 2 rfl);have hA1:=fun m os=>HFol.out (wg w3 m os) (hr.mid (hm0.trans (Mid.ofWg w3 m os)) oZl);refine wp_region_quiet_wg (by kernel_rfl) (by kernel_rfl) ?_;repeat
   (with_reducible refine wpQuiet_step (fun K hK=>?_))
   go_simp
   first
    | ((with_reducible refine hK _ ?_);clear hK K)
    | (rw [if_neg (by decide)];(with_reducible refine hK _ ?_);clear hK K)
    | (apply Exists.intro;refine ⟨fun _=>?_,hK _ ?_⟩;((go_at_call 130;exact Calls.wg_of (hA1 _ _)));clear hK K)
  with_reducible refine wpQuiet_nil ?_
  intro _ hw';obtain ⟨⟨nq,osq⟩,hw''⟩:=hw';subst hw'';go_wp2_with fail;go_ret;exact ⟨rfl,hm0.trans (Mid.ofWg w3 nq osq)⟩
theorem spec_IsSubgroup (r s:Int) (A:Option Addr) (es:List Ed) (c:Nat) (w:World) (lo hi:Nat) (hr:RG w lo hi A es) (hl:es.length≤1048576) (b:Bool) (hb:b=true↔IsCor r s es) :
  Calls Tryz.prog 90 #[graV r s A es.length c] w fun e w'=>e=.returned (.bool b)∧Mid 0 0 w w':=by
 have hm0:Mid 0 0 w (w.alloc (.cells #[.int .i64 r,.int .i64 s,.slice A es.length c] 26)):=Mid.alloc _ _;have HB:=Lib.hid hb;clear hb;go_enter Tryz.func90,Tryz.ntmps90
 go_wp2_with fail;with_reducible refine (spec_IsCore r s A es c _ _ _ (hr.mid hm0 oZl) hl b HB.out).mono ?_
 rintro en w1 ⟨rfl,hm1⟩;go_wp2_with fail;go_ret;exact ⟨rfl,hm0.trans hm1⟩
open Classical in
noncomputable def rankI (r s:Int) (es:List Ed):Int:=if IsCor r s es then (es.length:Int) - s+1 else -1
theorem impl_RankOf (r s:Int) (A:Option Addr) (es:List Ed) (c:Nat) (w:World) (lo hi:Nat) (hr:RG w lo hi A es) (hl:es.length≤1048576) (hcl:es.length≤c) :
  Calls Tryz.prog 18 #[graV r s A es.length c] w fun e w'=>e=.returned (.int .i64 (rankI r s es))∧Mid 0 0 w w':=by
 have hm0:Mid 0 0 w (w.alloc (.cells #[.int .i64 r,.int .i64 s,.slice A es.length c] 26)):=Mid.alloc _ _;have b0:=Box.new w #[.int .i64 r,.int .i64 s,.slice A es.length c] 26;by_cases h:IsCor r s es
 ·have HR:Hid (rankI r s es=(es.length:Int) - s+1):=Lib.hid (by rw [rankI,if_pos h])
  have hsz:=h.fol.gr.size;have HC:=Lib.hid h;clear h;go_enter Tryz.func18,Tryz.ntmps18
  go_wp2_with fail;with_reducible refine (impl_IsCore r s A es c _ _ _ (hr.mid hm0 oZl) hl hcl true (iff_of_true rfl HC.out)).mono ?_
  rintro en w1 ⟨rfl,hm1⟩;replace b0:=b0.mid hm1 oZr;replace hm0:=hm0.trans hm1;have p0:=b0.cell 0 rfl;have p1:=b0.cell 1 rfl;have p2:=b0.cell 2 rfl;go_wp2_with fail;go_ret;exact ⟨by rw [HR.out];rfl,hm0⟩
 ·have HR:Hid (rankI r s es = -1):=Lib.hid (by rw [rankI,if_neg h])
  have HC:=Lib.hid h;clear h;go_enter Tryz.func18,Tryz.ntmps18
  go_wp2_with fail;with_reducible refine (impl_IsCore r s A es c _ _ _ (hr.mid hm0 oZl) hl hcl false (iff_of_false Bool.false_ne_true HC.out)).mono ?_
  rintro en w1 ⟨rfl,hm1⟩;go_wp2_with fail;go_ret;exact ⟨by rw [HR.out];rfl,hm0.trans hm1⟩
theorem spec_RankOf (r s:Int) (A:Option Addr) (es:List Ed) (c:Nat) (w:World) (lo hi:Nat) (hr:RG w lo hi A es) (hl:es.length≤1048576) :
  Calls Tryz.prog 19 #[graV r s A es.length c] w fun e w'=>e=.returned (.int .i64 (rankI r s es))∧Mid 0 0 w w':=by
 have hm0:Mid 0 0 w (w.alloc (.cells #[.int .i64 r,.int .i64 s,.slice A es.length c] 26)):=Mid.alloc _ _;have b0:=Box.new w #[.int .i64 r,.int .i64 s,.slice A es.length c] 26;by_cases h:IsCor r s es
 ·have HR:Hid (rankI r s es=(es.length:Int) - s+1):=Lib.hid (by rw [rankI,if_pos h])
  have hsz:=h.fol.gr.size;have HC:=Lib.hid h;clear h;go_enter Tryz.func19,Tryz.ntmps19
  go_wp2_with fail;with_reducible refine (spec_IsSubgroup r s A es c _ _ _ (hr.mid hm0 oZl) hl true (iff_of_true rfl HC.out)).mono ?_
  rintro en w1 ⟨rfl,hm1⟩;replace b0:=b0.mid hm1 oZr;replace hm0:=hm0.trans hm1;have p0:=b0.cell 0 rfl;have p1:=b0.cell 1 rfl;have p2:=b0.cell 2 rfl;go_wp2_with fail;go_ret;exact ⟨by rw [HR.out];rfl,hm0⟩
 ·have HR:Hid (rankI r s es = -1):=Lib.hid (by rw [rankI,if_neg h])
  have HC:=Lib.hid h;clear h;go_enter Tryz.func19,Tryz.ntmps19
  go_wp2_with fail;with_reducible refine (spec_IsSubgroup r s A es c _ _ _ (hr.mid hm0 oZl) hl false (iff_of_false Bool.false_ne_true HC.out)).mono ?_
  rintro en w1 ⟨rfl,hm1⟩;go_wp2_with fail;go_ret;exact ⟨by rw [HR.out];rfl,hm0.trans hm1⟩
end
section
open Go.RowKit
theorem infoF:(Tryz.prog.info? 130).map (fun i=>(i.zero,i.size,i.bytes))=some (some (.agg #[.int .i64 0,.int .i64 0]),2,16):=by kernel_rfl
theorem undSF:Tryz.prog.underlying 103=some (.slice 130):=by kernel_rfl
section
variable {W:World} {ops:Array Oper} {rest:List Oper} {o:Oper} {a:Act} {Q:Exit→Act→World→Prop}
theorem wpList_pushF (hgd:o.guard=none) (s x:Operand)
  (ho:o.op=.call { callee:=.builtin .append,args:=#[s,x],argTypes:=#[103,103] }) (lo:Nat) (A:Option Addr) (n c:Nat) (ps:List (Int × Int)) (hs:a.eval s=.slice A n c)
  (hown:W.ownsRow lo 130 2 (.slice A n c) n (ints (fdI ps))) (p:Int × Int) (hx:a.eval x=.slice (some ⟨W.heap.size,0,none⟩) 1 1) (hn:n≤1048576) (hb:lo≤W.heap.size)
  (h:∀ A' c' w',w'.ownsRow lo 130 2 (.slice A' (n+1) c') (n+1) (ints (fdI (ps++[p])))→W.grownBy w' (Value.ownBlock (.slice A n c))→(Value.ownBlock (.slice A' (n+1) c')=Value.ownBlock (.slice A n c) ∨ Value.ownBlock (.slice A' (n+1) c')=some (W.heap.size+1))→wpList Tryz.prog ops Q rest (a.put o.dst (.slice A' (n+1) c')) w') :
  wpList Tryz.prog ops Q (o :: rest) a (W.alloc (.cells #[.int .i64 p.1,.int .i64 p.2] 130)):=by
 refine wpList_push (news:=[.int .i64 p.1,.int .i64 p.2]) hgd s x 103 ho lo 130 (.agg #[.int .i64 0,.int .i64 0]) 2 16 undSF infoF rfl (by decide) (.slice A n c) n (ints (fdI ps)) hs hown 1 hx rfl ?_ (by unfold maxLen;omega) (by omega) hb ?_
 ·intro u hu
  simp at hu;rcases hu with rfl | rfl <;> rfl
 ·intro v' w' h1 h2 h3
  obtain ⟨A',c',rfl, -, -⟩:=owns_shape h1;refine h A' c' w' ?_ h2 h3;rw [fdI_append,ints_append,fdI_one];exact h1
end
theorem impl_folds (r s:Int) (A:Option Addr) (es:List Ed) (c:Nat) (w:World) (lo hi:Nat) (hr:RG w lo hi A es) (hl:es.length≤120) (hcl:es.length≤c) :
  Calls Tryz.prog 244 #[graV r s A es.length c] w fun e w'=>∃ A1 c1,e=.returned (.slice A1 (folds es).length c1)∧RV w' 0 w'.heap.size A1 (ints (fdI (folds es)))∧Mid 0 0 w w':=by
 have hm0:Mid 0 0 w ((w.alloc (.cells #[.int .i64 r,.int .i64 s,.slice A es.length c] 26)).alloc (.cells #[] 130)):=(Mid.alloc _ _).trans (Mid.alloc _ _);have b0:=(Box.new w #[.int .i64 r,.int .i64 s,.slice A es.length c] 26).mid (Mid.alloc _ (.cells #[] 130)) oZr;have O0:=owns_empty (w.alloc (.cells #[.int .i64 r,.int .i64 s,.slice A es.length c] 26)) 130 2;rw [World.size_alloc] at O0;go_enter Tryz.func244,Tryz.ntmps244
 go_wp2_with fail;go_loopw [3,12] (fun out iv wr=>∃ (k:Nat) (A1:Option Addr) (n1 c1:Nat),k≤es.length∧iv=.int .i64 k∧out=.slice A1 n1 c1∧Hid ((foldsUp es k).length=n1)∧wr.ownsRow (w.heap.size+1) 130 2 (.slice A1 n1 c1) n1 (ints (fdI (foldsUp es k))) ∧
   Box wr w.heap.size [.int .i64 r,.int .i64 s,.slice A es.length c]∧Mid 0 0 w wr) (fun _ i _=>es.length - (intOf i).toNat)
 case atStart=>exact ⟨0,_,0,0,Nat.zero_le _,rfl,rfl,Lib.hid rfl,O0,b0,hm0⟩
 case round =>
  clear O0 b0 hm0;obtain ⟨wo,hwo⟩:∃ wo,wo=wr:=⟨_,rfl⟩
  subst hwo;obtain ⟨k,A1,n1,c1,hk,rfl,rfl,HN,hown,b0,hm⟩:=hrel;by_cases hlt:k < es.length
  ·obtain ⟨B,off,e,rfl, -,hbh,he,e0,e1,e2⟩:=(hr.mid hm oZl).ed hlt
   have HE:=Lib.hid he;have hk0:(0:Int)≤(k:Int):=by omega
   have hk1:(k:Int) < (es.length:Int):=by omega
   have hk2:(k:Int)+1≤(es.length:Int):=by omega
   have hal:=Mid.alloc wo (.cells #[.int .i64 e.a,.int .i64 e.l,.int .i64 e.b] 68);have ZE:=Box.new wo #[.int .i64 e.a,.int .i64 e.l,.int .i64 e.b] 68;have HNE:=Lib.hid (show Value.ownBlock (.slice A1 n1 c1)≠some wo.heap.size from fun h=>by have:=(hown.lt _ h).2;omega);have hown1:=hown.alloc (.cells #[.int .i64 e.a,.int .i64 e.l,.int .i64 e.b] 68);have b1:=b0.mid hal oZr;have hm1:=hm.trans hal;have h0o:=b0.1;have p0:=b0.cell 0 rfl;have p1:=b0.cell 1 rfl;have p2:=b0.cell 2 rfl;clear he hown;by_cases hck:c=k+1
   ·have hrd:RG w lo hi (some ⟨B,off,none⟩) (es.drop (k+1)):=⟨hr.1,fun h=>absurd (show ints (edI (es.drop (k+1)))=[] by rw [List.drop_of_length_le (by omega)];rfl) h⟩
    have hckF:(c=k+1)=True:=eq_true hck;have hce:k+1≤c:=by omega
    clear hck;go_wp2_with fail;clear p0 p1 p2 e0 e1 e2;go_loopw [3,23] (fun out jv wr=>∃ (j:Nat) (A2:Option Addr) (n2 c2:Nat),j≤es.length - (k+1)∧jv=.int .i64 j∧out=.slice A2 n2 c2∧Hid ((foldsUp es k++((es.drop (k+1)).take j).flatMap (foldsAB e)).length=n2) ∧
      wr.ownsRow (w.heap.size+1) 130 2 (.slice A2 n2 c2) n2 (ints (fdI (foldsUp es k++((es.drop (k+1)).take j).flatMap (foldsAB e))))∧Hid (Value.ownBlock (.slice A2 n2 c2)≠some wo.heap.size) ∧
      Box wr w.heap.size [.int .i64 r,.int .i64 s,.slice (some ⟨B,off,none⟩) es.length c]∧Box wr wo.heap.size [.int .i64 e.a,.int .i64 e.l,.int .i64 e.b]∧Mid 0 0 w wr) (fun _ j _=>es.length - (k+1) - (intOf j).toNat)
    case atStart=>exact ⟨0,A1,n1,c1,Nat.zero_le _,rfl,rfl,Lib.hid (by simpa using HN.out),by simpa using hown1,HNE,b1,ZE,hm1⟩
    case round =>
     clear hown1 b1 ZE hm1 HN HNE;obtain ⟨j,A2,n2,c2,hj,rfl,rfl,HN,hown,HNE,b0,ZE,hm⟩:=hrel;have hn2:n2≤40000:=by
      have h1:=foldsUp_len es k;have h2:=flat_len e ((es.drop (k+1)).take j);have h3:=HN.out;have h4:k * (2 * es.length)≤120 * 240:=Nat.mul_le_mul (by omega) (by omega);rw [List.length_append] at h3;rw [List.length_take,List.length_drop] at h2;omega
     by_cases hlt2:j < es.length - (k+1)
     ·obtain ⟨B',off',f,hX, -,hbh2,hf,f0,f1,f2⟩:=(hrd.mid hm oZl).ed (k:=j) (by rw [List.length_drop];exact hlt2)
      injection hX with hX
      injection hX with hX1 hX2
      subst hX1 hX2;have HF:=Lib.hid (flat_take (e:=e) hf);have hj0:(0:Int)≤(j:Int):=by omega
      have hjn:(j:Int) < ((es.length - (k+1):Nat):Int):=by omega
      have hal:=Mid.alloc wr (.cells #[.int .i64 f.a,.int .i64 f.l,.int .i64 f.b] 68);have ZF:=Box.new wr #[.int .i64 f.a,.int .i64 f.l,.int .i64 f.b] 68;have hGw:wo.heap.size < wr.heap.size:=ZE.1;have h0r:w.heap.size < wr.heap.size:=b0.1;have HFE:=Lib.hid (show Value.ownBlock (.slice A2 n2 c2)≠some wr.heap.size from fun h=>by have:=(hown.lt _ h).2;omega);have hownA:=hown.alloc (.cells #[.int .i64 f.a,.int .i64 f.l,.int .i64 f.b] 68);have hB0:=Lib.hid (fun (g:Nat) (h:Value.ownBlock (.slice A2 n2 c2)=some g)=>(hown.lt g h).1);replace b0:=b0.mid hal oZr;replace ZE:=ZE.mid hal oZr;replace hm:=hm.trans hal;have g0:=ZE.cell 0 rfl;have g1:=ZE.cell 1 rfl;have g2:=ZE.cell 2 rfl;have h0:=ZF.cell 0 rfl;have h1:=ZF.cell 1 rfl;have h2:=ZF.cell 2 rfl;have HW:=Lib.hid hownA;have hszA:w.heap.size+1≤(wr.alloc (.cells #[.int .i64 f.a,.int .i64 f.l,.int .i64 f.b] 68)).heap.size:=by simp;omega
      clear hf hown hownA;by_cases e1:e.l=f.l
      ·have d1:(e.l != f.l)=false:=by simpa using e1
       by_cases e2:e.a=f.a
       ·have d2:(e.a == f.a)=true:=by simpa using e2
        by_cases e3:e.b=f.b
        ·have d3:(e.b == f.b)=true:=by simpa using e3
         have hAB:foldsAB e f=[(min e.b f.b,max e.b f.b),(min e.a f.a,max e.a f.a)]:=by simp [foldsAB,e1,e2,e3]
         have HAB:Hid (foldsUp es k++((es.drop (k+1)).take (j+1)).flatMap (foldsAB e)=(foldsUp es k++((es.drop (k+1)).take j).flatMap (foldsAB e))++[(min e.b f.b,max e.b f.b)]++[(min e.a f.a,max e.a f.a)]):=Lib.hid (by rw [HF.out,hAB];simp);clear e1 e2 e3 hAB;go_wp2_with (first | (at_builtin;refine wpList_pushF rfl _ _ rfl (w.heap.size+1) A2 n2 c2 _ rfl HW.out (min e.b f.b,max e.b f.b) (by rw [World.size_alloc];rfl) (by omega) hszA ?_;intro A8 c8 w8 ho8 hgr8 hat8;have ZE8:=ZE.grown hgr8 HNE.out;have ZF8:=ZF.grown hgr8 HFE.out;have g80:=ZE8.cell 0 rfl;have g81:=ZE8.cell 1 rfl;have g82:=ZE8.cell 2 rfl;have h80:=ZF8.cell 0 rfl;have h81:=ZF8.cell 1 rfl;have h82:=ZF8.cell 2 rfl;have HW8:=Lib.hid ho8;have hsz8:=Nat.le_trans hszA hgr8.size;clear ho8) | (at_builtin;refine wpList_pushF rfl _ _ rfl (w.heap.size+1) A8 (n2+1) c8 _ rfl HW8.out (min e.a f.a,max e.a f.a) rfl (by omega) hsz8 ?_;intro A9 c9 w9 ho9 hgr9 hat9))
         have hm8:=Mid.of_grownRow HW.out hgr8;have hm9:=Mid.of_grownRow HW8.out hgr9;have hs8:wr.heap.size+1≤w8.heap.size:=by have:=hgr8.size;simpa using this
         have HN8:Hid (Value.ownBlock (.slice A8 (n2+1) c8)≠some wo.heap.size):=Lib.hid (by
          rcases hat8 with h | h
          ·rw [h];exact HNE.out
          ·rw [h]
           intro he;injection he with he
           simp at he;omega)
         have HN9:Hid (Value.ownBlock (.slice A9 (n2+1+1) c9)≠some wo.heap.size):=Lib.hid (by
          rcases hat9 with h | h
          ·rw [h];exact HN8.out
          ·rw [h]
           intro he;injection he with he
           omega)
         have HB8:=Lib.hid (fun (g:Nat) (h:Value.ownBlock (.slice A8 (n2+1) c8)=some g)=>(HW8.out.lt g h).1);clear hat9 hat8;go_roundw
         case rel=>exact ⟨j+1,A9,n2+1+1,c9,by omega,by go_num,rfl,Lib.hid (by rw [HAB.out,List.length_append,List.length_append,HN.out];rfl),by rw [HAB.out];exact ho9,HN9,(b0.grown hgr8 (fun h=>by have:=hB0.out _ h;omega)).grown hgr9 (fun h=>by have:=HB8.out _ h;omega),ZE8.grown hgr9 HN8.out,(hm.transNew hm8 (Or.inl (Nat.le_succ _))).transNew hm9 (Or.inl (Nat.le_succ _))⟩
         case measure=>simp [intOf];omega
        ·have d3:(e.b == f.b)=false:=by simpa only [beq_eq_false_iff_ne] using e3
         have hAB:foldsAB e f=[(min e.b f.b,max e.b f.b)]:=by simp [foldsAB,e1,e2,e3]
         have HAB:Hid (foldsUp es k++((es.drop (k+1)).take (j+1)).flatMap (foldsAB e)=(foldsUp es k++((es.drop (k+1)).take j).flatMap (foldsAB e))++[(min e.b f.b,max e.b f.b)]):=Lib.hid (by rw [HF.out,hAB,List.append_assoc]);clear e1 e2 e3 hAB;go_wp2_with (at_builtin;refine wpList_pushF rfl _ _ rfl (w.heap.size+1) A2 n2 c2 _ rfl HW.out (min e.b f.b,max e.b f.b) (by rw [World.size_alloc];rfl) (by omega) hszA ?_;intro A9 c9 w9 ho9 hgr9 hat9;have ZE8:=ZE.grown hgr9 HNE.out;have ZF8:=ZF.grown hgr9 HFE.out;have g80:=ZE8.cell 0 rfl;have g81:=ZE8.cell 1 rfl;have g82:=ZE8.cell 2 rfl;have h80:=ZF8.cell 0 rfl;have h81:=ZF8.cell 1 rfl;have h82:=ZF8.cell 2 rfl)
         have hm9:=Mid.of_grownRow HW.out hgr9;have HN9:Hid (Value.ownBlock (.slice A9 (n2+1) c9)≠some wo.heap.size):=Lib.hid (by
          rcases hat9 with h | h
          ·rw [h];exact HNE.out
          ·rw [h]
           intro he;injection he with he
           simp at he;omega)
         clear hat9;go_roundw
         case rel=>exact ⟨j+1,A9,n2+1,c9,by omega,by go_num,rfl,Lib.hid (by rw [HAB.out,List.length_append,HN.out];rfl),by rw [HAB.out];exact ho9,HN9,b0.grown hgr9 (fun h=>by have:=hB0.out _ h;omega),ZE.grown hgr9 HNE.out,hm.transNew hm9 (Or.inl (Nat.le_succ _))⟩
         case measure=>simp [intOf];omega
       ·have d2:(e.a == f.a)=false:=by simpa only [beq_eq_false_iff_ne] using e2
        by_cases e3:e.b=f.b
        ·have d3:(e.b == f.b)=true:=by simpa using e3
         have hAB:foldsAB e f=[(min e.a f.a,max e.a f.a)]:=by simp [foldsAB,e1,e2,e3]
         have HAB:Hid (foldsUp es k++((es.drop (k+1)).take (j+1)).flatMap (foldsAB e)=(foldsUp es k++((es.drop (k+1)).take j).flatMap (foldsAB e))++[(min e.a f.a,max e.a f.a)]):=Lib.hid (by rw [HF.out,hAB,List.append_assoc]);clear e1 e2 e3 hAB;go_wp2_with (at_builtin;refine wpList_pushF rfl _ _ rfl (w.heap.size+1) A2 n2 c2 _ rfl HW.out (min e.a f.a,max e.a f.a) (by rw [World.size_alloc];rfl) (by omega) hszA ?_;intro A9 c9 w9 ho9 hgr9 hat9;have ZE8:=ZE.grown hgr9 HNE.out;have ZF8:=ZF.grown hgr9 HFE.out;have g80:=ZE8.cell 0 rfl;have g81:=ZE8.cell 1 rfl;have g82:=ZE8.cell 2 rfl;have h80:=ZF8.cell 0 rfl;have h81:=ZF8.cell 1 rfl;have h82:=ZF8.cell 2 rfl)
         have hm9:=Mid.of_grownRow HW.out hgr9;have HN9:Hid (Value.ownBlock (.slice A9 (n2+1) c9)≠some wo.heap.size):=Lib.hid (by
          rcases hat9 with h | h
          ·rw [h];exact HNE.out
          ·rw [h]
           intro he;injection he with he
           simp at he;omega)
         clear hat9;go_roundw
         case rel=>exact ⟨j+1,A9,n2+1,c9,by omega,by go_num,rfl,Lib.hid (by rw [HAB.out,List.length_append,HN.out];rfl),by rw [HAB.out];exact ho9,HN9,b0.grown hgr9 (fun h=>by have:=hB0.out _ h;omega),ZE.grown hgr9 HNE.out,hm.transNew hm9 (Or.inl (Nat.le_succ _))⟩
         case measure=>simp [intOf];omega
        ·have d3:(e.b == f.b)=false:=by simpa only [beq_eq_false_iff_ne] using e3
         have hAB:foldsAB e f=[]:=by simp [foldsAB,e1,e2,e3]
         have HAB:Hid (((es.drop (k+1)).take (j+1)).flatMap (foldsAB e)=((es.drop (k+1)).take j).flatMap (foldsAB e)):=Lib.hid (by rw [HF.out,hAB,List.append_nil]);clear e1 e2 e3 hAB;go_wp2_with fail;go_roundw
         case rel=>exact ⟨j+1,A2,n2,c2,by omega,by go_num,rfl,by rw [HAB.out];exact HN,by rw [HAB.out];exact HW.out,HNE,b0,ZE,hm⟩
         case measure=>simp [intOf];omega
      ·have d1:(e.l != f.l)=true:=by simpa using e1
       have hAB:foldsAB e f=[]:=by unfold foldsAB;rw [if_neg e1]
       have HAB:Hid (((es.drop (k+1)).take (j+1)).flatMap (foldsAB e)=((es.drop (k+1)).take j).flatMap (foldsAB e)):=Lib.hid (by rw [HF.out,hAB,List.append_nil]);clear e1 hAB;go_wp2_with fail;go_roundw
       case rel=>exact ⟨j+1,A2,n2,c2,by omega,by go_num,rfl,by rw [HAB.out];exact HN,by rw [HAB.out];exact HW.out,HNE,b0,ZE,hm⟩
       case measure=>simp [intOf];omega
     ·obtain rfl:j=es.length - (k+1):=by omega
      rw [List.take_of_length_le (by rw [List.length_drop];exact Nat.le_refl _),← foldsUp_succ HE.out] at HN hown;go_wp2_with fail;go_roundw
      case rel=>exact ⟨k+1,A2,n2,c2,by omega,by go_num,rfl,HN,hown,b0,hm⟩
      case measure=>simp [intOf];omega
   ·have hrd:=hr.drop (k:=k+1)
    have hckF:(c=k+1)=False:=eq_false hck;have hce:k+1≤c:=by omega
    clear hck;go_wp2_with fail;clear p0 p1 p2 e0 e1 e2;go_loopw [3,23] (fun out jv wr=>∃ (j:Nat) (A2:Option Addr) (n2 c2:Nat),j≤es.length - (k+1)∧jv=.int .i64 j∧out=.slice A2 n2 c2∧Hid ((foldsUp es k++((es.drop (k+1)).take j).flatMap (foldsAB e)).length=n2) ∧
      wr.ownsRow (w.heap.size+1) 130 2 (.slice A2 n2 c2) n2 (ints (fdI (foldsUp es k++((es.drop (k+1)).take j).flatMap (foldsAB e))))∧Hid (Value.ownBlock (.slice A2 n2 c2)≠some wo.heap.size) ∧
      Box wr w.heap.size [.int .i64 r,.int .i64 s,.slice (some ⟨B,off,none⟩) es.length c]∧Box wr wo.heap.size [.int .i64 e.a,.int .i64 e.l,.int .i64 e.b]∧Mid 0 0 w wr) (fun _ j _=>es.length - (k+1) - (intOf j).toNat)
    case atStart=>exact ⟨0,A1,n1,c1,Nat.zero_le _,rfl,rfl,Lib.hid (by simpa using HN.out),by simpa using hown1,HNE,b1,ZE,hm1⟩
    case round =>
     clear hown1 b1 ZE hm1 HN HNE;obtain ⟨j,A2,n2,c2,hj,rfl,rfl,HN,hown,HNE,b0,ZE,hm⟩:=hrel;have hn2:n2≤40000:=by
      have h1:=foldsUp_len es k;have h2:=flat_len e ((es.drop (k+1)).take j);have h3:=HN.out;have h4:k * (2 * es.length)≤120 * 240:=Nat.mul_le_mul (by omega) (by omega);rw [List.length_append] at h3;rw [List.length_take,List.length_drop] at h2;omega
     by_cases hlt2:j < es.length - (k+1)
     ·obtain ⟨B',off',f,hX, -,hbh2,hf,f0,f1,f2⟩:=(hrd.mid hm oZl).ed (k:=j) (by rw [List.length_drop];exact hlt2)
      injection hX with hX
      injection hX with hX1 hX2
      subst hX1 hX2;have HF:=Lib.hid (flat_take (e:=e) hf);have hj0:(0:Int)≤(j:Int):=by omega
      have hjn:(j:Int) < ((es.length - (k+1):Nat):Int):=by omega
      have hal:=Mid.alloc wr (.cells #[.int .i64 f.a,.int .i64 f.l,.int .i64 f.b] 68);have ZF:=Box.new wr #[.int .i64 f.a,.int .i64 f.l,.int .i64 f.b] 68;have hGw:wo.heap.size < wr.heap.size:=ZE.1;have h0r:w.heap.size < wr.heap.size:=b0.1;have HFE:=Lib.hid (show Value.ownBlock (.slice A2 n2 c2)≠some wr.heap.size from fun h=>by have:=(hown.lt _ h).2;omega);have hownA:=hown.alloc (.cells #[.int .i64 f.a,.int .i64 f.l,.int .i64 f.b] 68);have hB0:=Lib.hid (fun (g:Nat) (h:Value.ownBlock (.slice A2 n2 c2)=some g)=>(hown.lt g h).1);replace b0:=b0.mid hal oZr;replace ZE:=ZE.mid hal oZr;replace hm:=hm.trans hal;have g0:=ZE.cell 0 rfl;have g1:=ZE.cell 1 rfl;have g2:=ZE.cell 2 rfl;have h0:=ZF.cell 0 rfl;have h1:=ZF.cell 1 rfl;have h2:=ZF.cell 2 rfl;have HW:=Lib.hid hownA;have hszA:w.heap.size+1≤(wr.alloc (.cells #[.int .i64 f.a,.int .i64 f.l,.int .i64 f.b] 68)).heap.size:=by simp;omega
      clear hf hown hownA;by_cases e1:e.l=f.l
      ·have d1:(e.l != f.l)=false:=by simpa using e1
       by_cases e2:e.a=f.a
       ·have d2:(e.a == f.a)=true:=by simpa using e2
        by_cases e3:e.b=f.b
        ·have d3:(e.b == f.b)=true:=by simpa using e3
         have hAB:foldsAB e f=[(min e.b f.b,max e.b f.b),(min e.a f.a,max e.a f.a)]:=by simp [foldsAB,e1,e2,e3]
         have HAB:Hid (foldsUp es k++((es.drop (k+1)).take (j+1)).flatMap (foldsAB e)=(foldsUp es k++((es.drop (k+1)).take j).flatMap (foldsAB e))++[(min e.b f.b,max e.b f.b)]++[(min e.a f.a,max e.a f.a)]):=Lib.hid (by rw [HF.out,hAB];simp);clear e1 e2 e3 hAB;go_wp2_with (first | (at_builtin;refine wpList_pushF rfl _ _ rfl (w.heap.size+1) A2 n2 c2 _ rfl HW.out (min e.b f.b,max e.b f.b) (by rw [World.size_alloc];rfl) (by omega) hszA ?_;intro A8 c8 w8 ho8 hgr8 hat8;have ZE8:=ZE.grown hgr8 HNE.out;have ZF8:=ZF.grown hgr8 HFE.out;have g80:=ZE8.cell 0 rfl;have g81:=ZE8.cell 1 rfl;have g82:=ZE8.cell 2 rfl;have h80:=ZF8.cell 0 rfl;have h81:=ZF8.cell 1 rfl;have h82:=ZF8.cell 2 rfl;have HW8:=Lib.hid ho8;have hsz8:=Nat.le_trans hszA hgr8.size;clear ho8) | (at_builtin;refine wpList_pushF rfl _ _ rfl (w.heap.size+1) A8 (n2+1) c8 _ rfl HW8.out (min e.a f.a,max e.a f.a) rfl (by omega) hsz8 ?_;intro A9 c9 w9 ho9 hgr9 hat9))
         have hm8:=Mid.of_grownRow HW.out hgr8;have hm9:=Mid.of_grownRow HW8.out hgr9;have hs8:wr.heap.size+1≤w8.heap.size:=by have:=hgr8.size;simpa using this
         have HN8:Hid (Value.ownBlock (.slice A8 (n2+1) c8)≠some wo.heap.size):=Lib.hid (by
          rcases hat8 with h | h
          ·rw [h];exact HNE.out
          ·rw [h]
           intro he;injection he with he
           simp at he;omega)
         have HN9:Hid (Value.ownBlock (.slice A9 (n2+1+1) c9)≠some wo.heap.size):=Lib.hid (by
          rcases hat9 with h | h
          ·rw [h];exact HN8.out
          ·rw [h]
           intro he;injection he with he
           omega)
         have HB8:=Lib.hid (fun (g:Nat) (h:Value.ownBlock (.slice A8 (n2+1) c8)=some g)=>(HW8.out.lt g h).1);clear hat9 hat8;go_roundw
         case rel=>exact ⟨j+1,A9,n2+1+1,c9,by omega,by go_num,rfl,Lib.hid (by rw [HAB.out,List.length_append,List.length_append,HN.out];rfl),by rw [HAB.out];exact ho9,HN9,(b0.grown hgr8 (fun h=>by have:=hB0.out _ h;omega)).grown hgr9 (fun h=>by have:=HB8.out _ h;omega),ZE8.grown hgr9 HN8.out,(hm.transNew hm8 (Or.inl (Nat.le_succ _))).transNew hm9 (Or.inl (Nat.le_succ _))⟩
         case measure=>simp [intOf];omega
        ·have d3:(e.b == f.b)=false:=by simpa only [beq_eq_false_iff_ne] using e3
         have hAB:foldsAB e f=[(min e.b f.b,max e.b f.b)]:=by simp [foldsAB,e1,e2,e3]
         have HAB:Hid (foldsUp es k++((es.drop (k+1)).take (j+1)).flatMap (foldsAB e)=(foldsUp es k++((es.drop (k+1)).take j).flatMap (foldsAB e))++[(min e.b f.b,max e.b f.b)]):=Lib.hid (by rw [HF.out,hAB,List.append_assoc]);clear e1 e2 e3 hAB;go_wp2_with (at_builtin;refine wpList_pushF rfl _ _ rfl (w.heap.size+1) A2 n2 c2 _ rfl HW.out (min e.b f.b,max e.b f.b) (by rw [World.size_alloc];rfl) (by omega) hszA ?_;intro A9 c9 w9 ho9 hgr9 hat9;have ZE8:=ZE.grown hgr9 HNE.out;have ZF8:=ZF.grown hgr9 HFE.out;have g80:=ZE8.cell 0 rfl;have g81:=ZE8.cell 1 rfl;have g82:=ZE8.cell 2 rfl;have h80:=ZF8.cell 0 rfl;have h81:=ZF8.cell 1 rfl;have h82:=ZF8.cell 2 rfl)
         have hm9:=Mid.of_grownRow HW.out hgr9;have HN9:Hid (Value.ownBlock (.slice A9 (n2+1) c9)≠some wo.heap.size):=Lib.hid (by
          rcases hat9 with h | h
          ·rw [h];exact HNE.out
          ·rw [h]
           intro he;injection he with he
           simp at he;omega)
         clear hat9;go_roundw
         case rel=>exact ⟨j+1,A9,n2+1,c9,by omega,by go_num,rfl,Lib.hid (by rw [HAB.out,List.length_append,HN.out];rfl),by rw [HAB.out];exact ho9,HN9,b0.grown hgr9 (fun h=>by have:=hB0.out _ h;omega),ZE.grown hgr9 HNE.out,hm.transNew hm9 (Or.inl (Nat.le_succ _))⟩
         case measure=>simp [intOf];omega
       ·have d2:(e.a == f.a)=false:=by simpa only [beq_eq_false_iff_ne] using e2
        by_cases e3:e.b=f.b
        ·have d3:(e.b == f.b)=true:=by simpa using e3
         have hAB:foldsAB e f=[(min e.a f.a,max e.a f.a)]:=by simp [foldsAB,e1,e2,e3]
         have HAB:Hid (foldsUp es k++((es.drop (k+1)).take (j+1)).flatMap (foldsAB e)=(foldsUp es k++((es.drop (k+1)).take j).flatMap (foldsAB e))++[(min e.a f.a,max e.a f.a)]):=Lib.hid (by rw [HF.out,hAB,List.append_assoc]);clear e1 e2 e3 hAB;go_wp2_with (at_builtin;refine wpList_pushF rfl _ _ rfl (w.heap.size+1) A2 n2 c2 _ rfl HW.out (min e.a f.a,max e.a f.a) (by rw [World.size_alloc];rfl) (by omega) hszA ?_;intro A9 c9 w9 ho9 hgr9 hat9;have ZE8:=ZE.grown hgr9 HNE.out;have ZF8:=ZF.grown hgr9 HFE.out;have g80:=ZE8.cell 0 rfl;have g81:=ZE8.cell 1 rfl;have g82:=ZE8.cell 2 rfl;have h80:=ZF8.cell 0 rfl;have h81:=ZF8.cell 1 rfl;have h82:=ZF8.cell 2 rfl)
         have hm9:=Mid.of_grownRow HW.out hgr9;have HN9:Hid (Value.ownBlock (.slice A9 (n2+1) c9)≠some wo.heap.size):=Lib.hid (by
          rcases hat9 with h | h
          ·rw [h];exact HNE.out
          ·rw [h]
           intro he;injection he with he
           simp at he;omega)
         clear hat9;go_roundw
         case rel=>exact ⟨j+1,A9,n2+1,c9,by omega,by go_num,rfl,Lib.hid (by rw [HAB.out,List.length_append,HN.out];rfl),by rw [HAB.out];exact ho9,HN9,b0.grown hgr9 (fun h=>by have:=hB0.out _ h;omega),ZE.grown hgr9 HNE.out,hm.transNew hm9 (Or.inl (Nat.le_succ _))⟩
         case measure=>simp [intOf];omega
        ·have d3:(e.b == f.b)=false:=by simpa only [beq_eq_false_iff_ne] using e3
         have hAB:foldsAB e f=[]:=by simp [foldsAB,e1,e2,e3]
         have HAB:Hid (((es.drop (k+1)).take (j+1)).flatMap (foldsAB e)=((es.drop (k+1)).take j).flatMap (foldsAB e)):=Lib.hid (by rw [HF.out,hAB,List.append_nil]);clear e1 e2 e3 hAB;go_wp2_with fail;go_roundw
         case rel=>exact ⟨j+1,A2,n2,c2,by omega,by go_num,rfl,by rw [HAB.out];exact HN,by rw [HAB.out];exact HW.out,HNE,b0,ZE,hm⟩
         case measure=>simp [intOf];omega
      ·have d1:(e.l != f.l)=true:=by simpa using e1
       have hAB:foldsAB e f=[]:=by unfold foldsAB;rw [if_neg e1]
       have HAB:Hid (((es.drop (k+1)).take (j+1)).flatMap (foldsAB e)=((es.drop (k+1)).take j).flatMap (foldsAB e)):=Lib.hid (by rw [HF.out,hAB,List.append_nil]);clear e1 hAB;go_wp2_with fail;go_roundw
       case rel=>exact ⟨j+1,A2,n2,c2,by omega,by go_num,rfl,by rw [HAB.out];exact HN,by rw [HAB.out];exact HW.out,HNE,b0,ZE,hm⟩
       case measure=>simp [intOf];omega
     ·obtain rfl:j=es.length - (k+1):=by omega
      rw [List.take_of_length_le (by rw [List.length_drop];exact Nat.le_refl _),← foldsUp_succ HE.out] at HN hown;go_wp2_with fail;go_roundw
      case rel=>exact ⟨k+1,A2,n2,c2,by omega,by go_num,rfl,HN,hown,b0,hm⟩
      case measure=>simp [intOf];omega
  ·obtain rfl:k=es.length:=by omega
   rw [foldsUp_all] at HN hown;have hx:=HN.out;go_wp2_with fail;go_ret;exact ⟨A1,c1,by rw [hx];rfl,(owns_rv hown).wide (Nat.zero_le _) (Nat.le_refl _) (Nat.le_refl _),hm⟩
end
section
open Go.RowKit
attribute [local go_sem ↓] Go.wp_at_zero Go.wp_at_succ
def FirstIs (es:List Ed) (p:Int × Int) (b:Bool):Prop:=(b=false∧folds es=[]∧p=(0,0)) ∨ (b=true∧∃ t,folds es=p :: t)
theorem impl_FirstFold (r s:Int) (A:Option Addr) (es:List Ed) (c:Nat) (w:World) (lo hi:Nat) (hr:RG w lo hi A es) (hcl:es.length≤c) (hg:IsGr r s es) (p:Int × Int) (b:Bool) (hp:FirstIs es p b) :
  Calls Tryz.prog 227 #[graV r s A es.length c] w fun e w'=>e=.returned (.tuple #[.agg #[.int .i64 p.1,.int .i64 p.2],.bool b])∧Mid 0 0 w w':=by
 have hl:=hg.len;have HG:=Lib.hid hg;have hm0:Mid 0 0 w ((w.alloc (.cells #[.int .i64 r,.int .i64 s,.slice A es.length c] 26)).alloc (.cells #[.int .i64 0,.int .i64 0] 130)):=(Mid.alloc _ _).trans (Mid.alloc _ _);have b0:=(Box.new w #[.int .i64 r,.int .i64 s,.slice A es.length c] 26).mid (Mid.alloc _ (.cells #[.int .i64 0,.int .i64 0] 130)) oZr;have b2:=Box.new (w.alloc (.cells #[.int .i64 r,.int .i64 s,.slice A es.length c] 26)) #[.int .i64 0,.int .i64 0] 130;rw [World.size_alloc] at b2;clear hg;obtain ⟨p1,p2⟩:=p;go_enter Tryz.func227,Tryz.ntmps227
 go_wp2_with fail;with_reducible refine (impl_IsGraph r s A es c _ _ _ (hr.mid hm0 oZl).rv (by omega) true (iff_of_true rfl HG.out)).mono ?_
 rintro en w1 ⟨rfl,hm1⟩;replace b0:=b0.mid hm1 oZr;replace b2:=b2.mid hm1 oZr;replace hm0:=hm0.trans hm1;have q0:=b0.cell 0 rfl;have q1:=b0.cell 1 rfl;have q2:=b0.cell 2 rfl;go_wp2_with fail;with_reducible refine (impl_folds r s A es c _ _ _ (hr.mid hm0 oZl) hl hcl).mono ?_
 rintro en w2 ⟨A2,c2,rfl,hrv,hm2⟩;replace b2:=b2.mid hm2 oZr;replace hm0:=hm0.trans hm2;have zf:=b2.2.2;have z0:=b2.cell 0 rfl;have z1:=b2.cell 1 rfl;clear q0 q1 q2 hm1 hm2;rcases hp with ⟨rfl,hn,hpp⟩ | ⟨rfl,t,ht⟩
 ·injection hpp with h1 h2
  subst h1 h2;have hn0:(folds es).length=0:=by rw [hn];rfl
  clear hn;go_wp2_with fail;refine bodyPost_ret (v:=.tuple #[.agg #[.int .i64 0,.int .i64 0],.bool false]) (by simp [results,Tryz.results227,go_sem,z0,z1,zf]) rfl ⟨rfl,?_⟩;repeat (first | exact hm0 | refine Mid.storeNew ?_ (by simp;try omega) _)
 ·obtain ⟨nl,hnl⟩:∃ nl,(folds es).length=nl+1:=⟨t.length,by rw [ht];rfl⟩
  obtain ⟨g,off,rfl, -, -,hc⟩:=hrv.2 (by rw [ht];simp [fdI_head,ints]);have y0:=hc 0 (.int .i64 p1) (by rw [ht];simp [fdI_head,ints]);have y1:=hc 1 (.int .i64 p2) (by rw [ht];simp [fdI_head,ints]);rw [Nat.add_zero] at y0;have hd:((nl+1:Nat) == 0)=false:=by simp
  rw [hnl];have h1:(0:Int) < ((nl+1:Nat):Int):=by omega
  clear hc ht hrv hnl;go_wp2_with fail;refine bodyPost_ret (v:=.tuple #[.agg #[.int .i64 p1,.int .i64 p2],.bool true]) (by simp [results,Tryz.results227,go_sem,z0,z1,zf]) rfl ⟨rfl,?_⟩;repeat (first | exact hm0 | refine Mid.storeNew ?_ (by simp;try omega) _)
theorem fold_place (B:Nat) (p1 p2 v:Int) (w:World) (hc:w.cell? ⟨B,0,none⟩=some (.int .i64 p1)) (hc1:w.cell? ⟨B,1,none⟩=some (.int .i64 p2)) (h3:0≤v) (h4:v < 40) :
  Calls Tryz.prog 245 #[.int .i64 v,.pointer (some ⟨B,0,none⟩)] w fun e w'=>e=.returned (.int .i64 (foldV (p1,p2) v))∧w'=w:=by
 by_cases h0:v=p2
 ·have hv:foldV (p1,p2) v=p1:=by simp [foldV,h0]
  have hb:(v == p2)=true:=by simpa using h0
  rw [hv];clear hv h0;go_enter Tryz.func245,Tryz.ntmps245
  go_wp2_with fail;go_ret;exact ⟨rfl,rfl⟩
 ·have hb:(v == p2)=false:=by simpa only [beq_eq_false_iff_ne] using h0
  by_cases h1:p2 < v
  ·have hv:foldV (p1,p2) v=v - 1:=by simp [foldV,h0,h1]
   have hd:decide (p2 < v)=true:=by simpa using h1
   rw [hv];clear hv h0;go_enter Tryz.func245,Tryz.ntmps245
   go_wp2_with fail;go_ret;exact ⟨rfl,rfl⟩
  ·have hv:foldV (p1,p2) v=v:=by simp [foldV,h0,h1]
   have hd:decide (p2 < v)=false:=by simpa using h1
   rw [hv];clear hv h0;go_enter Tryz.func245,Tryz.ntmps245
   go_wp2_with fail;go_ret;exact ⟨rfl,rfl⟩
end
section
open Go.RowKit
attribute [local go_sem ↓] Go.wp_at_zero Go.wp_at_succ
theorem map_step {es:List Ed} {f:Ed→Ed} {k:Nat} {e:Ed} (h:es[k]?=some e):((es.take k).map f++es.drop k).set k (f e)=(es.take (k+1)).map f++es.drop (k+1):=by
 obtain ⟨hk,h'⟩:=List.getElem?_eq_some_iff.1 h;have hl:((es.take k).map f).length=k:=by rw [List.length_map,List.length_take];omega
 rw [List.drop_eq_getElem_cons hk,h',List.set_append_right _ _ (by omega),hl,Nat.sub_self,List.set_cons_zero,take_snoc h,List.map_append];simp
theorem map_here {es:List Ed} {f:Ed→Ed} {k:Nat} {e:Ed} (h:es[k]?=some e):((es.take k).map f++es.drop k)[k]?=some e:=by
 obtain ⟨hk,h'⟩:=List.getElem?_eq_some_iff.1 h;have hl:((es.take k).map f).length=k:=by rw [List.length_map,List.length_take];omega
 rw [List.getElem?_append_right (by omega),hl,Nat.sub_self,List.getElem?_drop,Nat.add_zero,h]
theorem impl_MergeVertices (r s:Int) (A:Option Addr) (es:List Ed) (c:Nat) (p1 p2:Int) (w:World) (lo hi:Nat) (hr:RG w lo hi A es) (hg:IsGr r s es) (h0:0≤p1) (h1:p1 < p2) (h2:p2 < s) :
  Calls Tryz.prog 228 #[graV r s A es.length c,.agg #[.int .i64 p1,.int .i64 p2]] w fun e w'=>∃ A1 c1,e=.returned (.tuple #[graV r (s - 1) A1 (mergeE (p1,p2) es).length c1,.bool true])∧OG w' w.heap.size w'.heap.size A1 c1 (mergeE (p1,p2) es)∧Mid 0 0 w w':=by
 have hl:=hg.len;have hs40:=hg.size;have HG:=Lib.hid hg;have hm0:Mid 0 0 w (((w.alloc (.cells #[.int .i64 r,.int .i64 s,.slice A es.length c] 26)).alloc (.cells #[.int .i64 p1,.int .i64 p2] 130)).alloc (.cells #[.int .i64 0,.int .i64 0,.slice none 0 0] 26)):=((Mid.alloc _ _).trans (Mid.alloc _ _)).trans (Mid.alloc _ _);have b0:=((Box.new w #[.int .i64 r,.int .i64 s,.slice A es.length c] 26).mid (Mid.alloc _ (.cells #[.int .i64 p1,.int .i64 p2] 130)) oZr).mid (Mid.alloc _ (.cells #[.int .i64 0,.int .i64 0,.slice none 0 0] 26)) oZr;have bf:=(Box.new (w.alloc (.cells #[.int .i64 r,.int .i64 s,.slice A es.length c] 26)) #[.int .i64 p1,.int .i64 p2] 130).mid (Mid.alloc _ (.cells #[.int .i64 0,.int .i64 0,.slice none 0 0] 26)) oZr;have b2:=Box.new ((w.alloc (.cells #[.int .i64 r,.int .i64 s,.slice A es.length c] 26)).alloc (.cells #[.int .i64 p1,.int .i64 p2] 130)) #[.int .i64 0,.int .i64 0,.slice none 0 0] 26;simp only [World.size_alloc,Nat.add_assoc,Nat.reduceAdd] at bf b2;have d1:decide (p1 < 0)=false:=by simp;omega
 have d2:decide (p2≤p1)=false:=by simp;omega
 have d3:decide (s≤p2)=false:=by simp;omega
 clear hg;go_enter Tryz.func228,Tryz.ntmps228
 go_wp2_with fail;generalize hw1:(((w.alloc (.cells #[.int .i64 r,.int .i64 s,.slice A es.length c] 26)).alloc (.cells #[.int .i64 p1,.int .i64 p2] 130)).alloc (.cells #[.int .i64 0,.int .i64 0,.slice none 0 0] 26))=w1 at hm0 b0 bf b2 ⊢;clear hw1;with_reducible refine (impl_copyGraph r s A es c _ _ _ (hr.mid hm0 oZl) (by omega)).mono ?_
 rintro en w2 ⟨A1,c1,rfl,ho,hm2⟩;have hs2:w.heap.size+2 < w1.heap.size:=b2.1;replace b0:=b0.mid hm2 oZr;replace bf:=bf.mid hm2 oZr;replace b2:=b2.mid hm2 oZr;replace hm0:=hm0.trans hm2;have hsz2:=hm2.size;have hown0:=owns_base (base':=w.heap.size+3) ho.ov.2.1 hs2;have hbk0:Value.ownBlock (.slice A1 es.length c1)≠some w2.heap.size:=fun h=>by have:=ho.ov.2.2 _ h;omega
 have hal:=Mid.alloc w2 (.cells #[.int .i64 r,.int .i64 s,.slice A1 es.length c1] 26);have Y3:=Box.new w2 #[.int .i64 r,.int .i64 s,.slice A1 es.length c1] 26;have hbs0:=b0.1;have u0:=b0.cell 0 rfl;have u1:=b0.cell 1 rfl;have u2:=b0.cell 2 rfl;replace b0:=b0.mid hal oZr;replace bf:=bf.mid hal oZr;replace b2:=b2.mid hal oZr;replace hown0:=owns_mid hown0 hal oZl;replace hm0:=hm0.trans hal;go_wp2_with fail;clear u0 u1 u2;generalize hw3:w2.alloc (.cells #[.int .i64 r,.int .i64 s,.slice A1 es.length c1] 26)=w3 at Y3 b0 bf b2 hown0 hm0 ⊢;have hs3:w3.heap.size=w2.heap.size+1:=by rw [← hw3];simp
 obtain ⟨G,hG⟩:∃ G,w2.heap.size=G:=⟨_,rfl⟩
 rw [hG] at Y3 hbk0 hsz2 hbs0 hs3 ⊢;clear hw3 hal hm2 ho hG;with_reducible refine (impl_IsGraph r s A es c _ _ _ (hr.mid hm0 oZl).rv (by omega) true (iff_of_true rfl HG.out)).mono ?_
 rintro en w4 ⟨rfl,hm4⟩;replace b0:=b0.mid hm4 oZr;replace bf:=bf.mid hm4 oZr;replace b2:=b2.mid hm4 oZr;replace Y3:=Y3.mid hm4 oZr;replace hown0:=owns_mid hown0 hm4 oZl;replace hm0:=hm0.trans hm4;have hGw:w.heap.size+3≤G:=by omega
 clear hm4 hs3 hsz2 hs2 hbs0;have q0:=b0.cell 0 rfl;have q1:=b0.cell 1 rfl;have q2:=b0.cell 2 rfl;have k0:=bf.cell 0 rfl;have k1:=bf.cell 1 rfl;have y0:=Y3.cell 0 rfl;have y1:=Y3.cell 1 rfl;have y2:=Y3.cell 2 rfl;go_wp2_with fail;clear q0 q1 q2 k0 k1 y0 y1 y2;have HBK:=Lib.hid hbk0;clear hbk0 b0;go_loopw [39] (fun i wr=>∃ k:Nat,k≤es.length∧i=.int .i64 k∧wr.ownsRow (w.heap.size+3) 68 3 (.slice A1 es.length c1) es.length (ints (edI ((es.take k).map (foldE (p1,p2))++es.drop k))) ∧
   Box wr (w.heap.size+1) [.int .i64 p1,.int .i64 p2]∧Box wr (w.heap.size+2) [.int .i64 0,.int .i64 0,.slice none 0 0]∧Box wr G [.int .i64 r,.int .i64 s,.slice A1 es.length c1]∧Mid 0 0 w wr) (fun i _=>es.length - (intOf i).toNat)
 case atStart=>exact ⟨0,Nat.zero_le _,rfl,by simpa using hown0,bf,b2,Y3,hm0⟩
 case round =>
  clear hown0 bf b2 Y3 hm0;obtain ⟨k,hk,rfl,hown,bf,b2,Y3,hm⟩:=hrel;by_cases hlt:k < es.length
  ·obtain ⟨g,rfl,hg1,hg2⟩:=owns_addr hown (by omega)
   obtain ⟨e,he⟩:=get_of_lt es hlt;have hmh:=map_here (f:=foldE (p1,p2)) he;obtain ⟨e0,e1,e2⟩:=owns_ed hown hmh;have hin:=HG.out.all e (List.mem_of_getElem? he);obtain ⟨i1,i2,i3,i4,i5,i6⟩:=hin;have HE:=Lib.hid he;have hgG:g≠G:=fun h=>HBK.out (by rw [h];rfl);have hk0:(0:Int)≤(k:Int):=by omega
   have hk1:(k:Int) < (es.length:Int):=by omega
   have hal:=Mid.alloc wr (.cells #[.int .i64 e.a,.int .i64 e.l,.int .i64 e.b] 68);have ZE:=Box.new wr #[.int .i64 e.a,.int .i64 e.l,.int .i64 e.b] 68;have hGr:G < wr.heap.size:=Y3.1;replace bf:=bf.mid hal oZr;replace b2:=b2.mid hal oZr;replace Y3:=Y3.mid hal oZr;replace hown:=owns_mid hown hal oZl;replace hm:=hm.trans hal;clear he;go_wp2_with fail;clear e0 e1 e2;generalize hwx:wr.alloc (.cells #[.int .i64 e.a,.int .i64 e.l,.int .i64 e.b] 68)=wx at ZE bf b2 Y3 hown hm ⊢;generalize hgE:wr.heap.size=E at ZE hg2 hGr ⊢;clear hgE hwx hal;have hmd:=Mid.drew1 wx;replace bf:=bf.mid hmd oZr;replace b2:=b2.mid hmd oZr;replace Y3:=Y3.mid hmd oZr;replace ZE:=ZE.mid hmd oZr;replace hown:=owns_mid hown hmd oZl;replace hm:=hm.trans hmd;obtain ⟨c0',c1',c2'⟩:=owns_ed hown hmh;have hfz:=fun i=>hown.frozenAt i;have f0:=ZE.cell 0 rfl;have f1:=ZE.cell 1 rfl;have f2:=ZE.cell 2 rfl;have g2:=Y3.cell 2 rfl;have k0:=bf.cell 0 rfl;have k1:=bf.cell 1 rfl;obtain ⟨x,hx⟩:∃ x,foldV (p1,p2) e.a=x:=⟨_,rfl⟩
   obtain ⟨y,hy⟩:∃ y,foldV (p1,p2) e.b=y:=⟨_,rfl⟩
   have hFE:Hid (foldE (p1,p2) e=⟨x,e.l,y⟩):=Lib.hid (by simp [foldE,hx,hy]);have hP1:=fold_place (w.heap.size+1) p1 p2 e.a _ k0 k1 i1 (by omega);have hP2:=fold_place (w.heap.size+1) p1 p2 e.b _ k0 k1 i3 (by omega);rw [hx] at hP1;rw [hy] at hP2;clear hx hy hmd;refine wp_region_T (S:=(fun w'=>w'.cell? ⟨E,0,none⟩=some (.int .i64 e.a)∧w'.cell? ⟨E,1,none⟩=some (.int .i64 e.l)∧w'.cell? ⟨E,2,none⟩=some (.int .i64 e.b)∧w'.cell? ⟨G,2,none⟩=some (.slice (some ⟨g,0,none⟩) es.length c1))) 15 (by kernel_rfl) ⟨f0,f1,f2,g2⟩ ?_;generalize World.drew wx=wz at bf b2 Y3 ZE hown hm f0 f1 f2 g2 k0 k1 hP1 hP2 c0' c1' c2' hfz ⊢;have hS:wz.cell? ⟨E,0,none⟩=some (.int .i64 e.a)∧wz.cell? ⟨E,1,none⟩=some (.int .i64 e.l)∧wz.cell? ⟨E,2,none⟩=some (.int .i64 e.b)∧wz.cell? ⟨G,2,none⟩=some (.slice (some ⟨g,0,none⟩) es.length c1):=⟨f0,f1,f2,g2⟩
   refine tkT 0 rfl hS ?_;try simp only [Act.put,zs1,zs2,zs3,zs4,zs5,zs6]
   refine tkT 1 rfl hS ?_;try simp only [Act.put,zs1,zs2,zs3,zs4,zs5,zs6]
   refine tkT 2 rfl hS ?_;try simp only [Act.put,zs1,zs2,zs3,zs4,zs5,zs6]
   refine tkT 3 rfl hS ?_;try simp only [Act.put,zs1,zs2,zs3,zs4,zs5,zs6]
   refine tkT 4 rfl hS ?_;try simp only [Act.put,zs1,zs2,zs3,zs4,zs5,zs6]
   refine tkT 5 rfl hS ?_;try simp only [Act.put,zs1,zs2,zs3,zs4,zs5,zs6]
   refine tkT 7 rfl hS ?_;try simp only [Act.put,zs1,zs2,zs3,zs4,zs5,zs6]
   refine tkT 8 rfl hS ?_;try simp only [Act.put,zs1,zs2,zs3,zs4,zs5,zs6]
   refine tkT 9 rfl hS ?_;try simp only [Act.put,zs1,zs2,zs3,zs4,zs5,zs6]
   refine tkT 10 rfl hS ?_;try simp only [Act.put,zs1,zs2,zs3,zs4,zs5,zs6]
   refine tkT 11 rfl hS ?_;try simp only [Act.put,zs1,zs2,zs3,zs4,zs5,zs6]
   refine rdT 6 rfl (fun K hK=>?_)
   (go_simp;refine hP1.mono ?_;rintro _ w' ⟨rfl,h⟩;obtain rfl:=h.symm;go_wp2_with fail)
   refine hK.out _ _ (Or.inr hS) (fun _=>?_);clear hK K;try simp only [Act.put,zs1,zs2,zs3,zs4,zs5,zs6]
   refine rdT 12 rfl (fun K hK=>?_)
   (go_simp;refine hP2.mono ?_;rintro _ w' ⟨rfl,h⟩;obtain rfl:=h.symm;go_wp2_with fail)
   refine hK.out _ _ (Or.inr hS) (fun _=>?_);clear hK K;try simp only [Act.put,zs1,zs2,zs3,zs4,zs5,zs6]
   refine tkT 13 rfl hS ?_;try simp only [Act.put,zs1,zs2,zs3,zs4,zs5,zs6]
   refine tkT 14 rfl hS ?_;try simp only [Act.put,zs1,zs2,zs3,zs4,zs5,zs6]
   clear hP1 hP2;refine rdT 15 rfl (fun K hK=>?_)
   (go_simp)
   refine hK.out _ _ (Or.inl rfl) (fun _=>?_);clear hK K;try simp only [Act.put,zs1,zs2,zs3,zs4,zs5,zs6]
   refine wpAnyT_done (by kernel_rfl) ?_ _;go_wp2_with fail;go_roundw
   case rel =>
    have h1:=owns_setE hown (k:=k) (foldE (p1,p2) e) (by rw [List.length_append,List.length_map,List.length_take,List.length_drop];omega);rw [map_step HE.out,hFE.out] at h1;have hst:=(Mid.setAt wz g (k * 3) (.int .i64 x)).trans ((Mid.setAt (wz.setCell ⟨g,k * 3,none⟩ (.int .i64 x)) g (k * 3+1) (.int .i64 e.l)).trans (Mid.setAt ((wz.setCell ⟨g,k * 3,none⟩ (.int .i64 x)).setCell ⟨g,k * 3+1,none⟩ (.int .i64 e.l)) g (k * 3+2) (.int .i64 y)));exact ⟨k+1,by omega,by go_num,h1,bf.mid hst (Or.inl (by omega)),b2.mid hst (Or.inl (by omega)),Y3.mid hst (by omega),((hm.storeNew (by show w.heap.size≤g;omega) _).storeNew (by show w.heap.size≤g;omega) _).storeNew (by show w.heap.size≤g;omega) _⟩
   case measure=>simp [intOf];omega
  ·obtain rfl:k=es.length:=by omega
   rw [List.take_length,List.drop_length,List.append_nil] at hown;have hml:(es.map (foldE (p1,p2))).length=es.length:=List.length_map _;have hrg:RG wr (w.heap.size+3) wr.heap.size A1 (es.map (foldE (p1,p2))):=owns_rv hown;have hGr:G < wr.heap.size:=Y3.1;have hb2s:=b2.1;have z2:=Y3.cell 2 rfl;have HML:=Lib.hid hml;clear hml;go_wp2_with fail;with_reducible refine (impl_sortedN A1 (es.map (foldE (p1,p2))) es.length c1 _ _ _ HML.out hrg (by omega)).mono ?_
   rintro en w6 ⟨A4,c4,rfl,ho6,hm6⟩;replace b2:=b2.mid hm6 oZr;replace Y3:=Y3.mid hm6 oZr;replace hm:=hm.trans hm6;have hsz6:=hm6.size;clear z2;have a0:=b2.cell 0 rfl;have a1:=b2.cell 1 rfl;have a2:=b2.cell 2 rfl;have x0:=Y3.cell 0 rfl;have x1:=Y3.cell 1 rfl;have x2:=Y3.cell 2 rfl;have af:=b2.2.2;have xf:=Y3.2.2;have hcl:¬ w.heap.size+2=G:=by omega
   have hcl2:¬ G=w.heap.size+2:=by omega
   obtain ⟨ms,hms⟩:∃ ms,canon (es.map (foldE (p1,p2)))=ms:=⟨_,rfl⟩
   rw [hms] at ho6 ⊢;have HMS:=Lib.hid (show mergeE (p1,p2) es=ms from hms);clear hms;go_wp2_with fail;have hcl3:(w.heap.size+2 == G)=false:=by simpa using hcl
   refine bodyPost_ret (v:=.tuple #[.agg #[.int .i64 r,.int .i64 (s - 1),.slice A4 ms.length c4],.bool true]) (by simp [results,Tryz.results228,go_sem,a0,a1,a2,x0,x1,x2,af,xf,hcl]) rfl ⟨A4,c4,by rw [HMS.out],?_,?_⟩
   ·rw [HMS.out]
    refine OG.wide (OG.mid ho6 (a:=w.heap.size) (b:=G+1) ?_ (Or.inl hGr)) (by omega) (by simp) (Nat.le_refl _);repeat (first | exact Mid.refl _ _ _ | refine Mid.stored ?_ _ (by simp;try omega) (by simp;try omega))
   ·repeat (first | exact hm | refine Mid.storeNew ?_ (by simp;try omega) _)
end
section
open Go.RowKit
def OnceIs (s:Int) (es:List Ed) (p:Int × Int) (b:Bool) (rs:Int) (res:List Ed):Prop :=
 (b=false∧folds es=[]∧p=(0,0)∧rs=s∧res=es) ∨ (b=true∧(∃ t,folds es=p :: t)∧rs=s - 1∧res=mergeE p es)
theorem OnceIs.first {s:Int} {es:List Ed} {p:Int × Int} {b:Bool} {rs:Int} {res:List Ed} (h:OnceIs s es p b rs res):FirstIs es p b:=by
 rcases h with ⟨h1,h2,h3, -⟩ | ⟨h1,h2, -⟩
 ·exact .inl ⟨h1,h2,h3⟩
 ·exact .inr ⟨h1,h2⟩
theorem OnceIs.ex (s:Int) (es:List Ed):∃ p b rs res,OnceIs s es p b rs res:=by
 cases h:folds es with
 | nil=>exact ⟨(0,0),false,s,es,.inl ⟨rfl,h,rfl,rfl,rfl⟩⟩
 | cons p t=>exact ⟨p,true,s - 1,mergeE p es,.inr ⟨rfl,⟨t,h⟩,rfl,rfl⟩⟩
theorem impl_FoldOnce (r s:Int) (A:Option Addr) (es:List Ed) (c:Nat) (w:World) (lo hi:Nat) (hr:RG w lo hi A es) (hcl:es.length≤c) (hg:IsGr r s es) (p:Int × Int) (b:Bool) (rs:Int) (res:List Ed) (hp:OnceIs s es p b rs res) :
  Calls Tryz.prog 204 #[graV r s A es.length c] w fun e w'=>∃ A1 c1,e=.returned (.tuple #[graV r rs A1 res.length c1,.agg #[.int .i64 p.1,.int .i64 p.2],.bool b])∧OG w' w.heap.size w'.heap.size A1 c1 res∧Mid 0 0 w w':=by
 have hl:=hg.len;have HG:=Lib.hid hg;have hm0:Mid 0 0 w (((w.alloc (.cells #[.int .i64 r,.int .i64 s,.slice A es.length c] 26)).alloc (.cells #[.int .i64 0,.int .i64 0,.slice none 0 0] 26)).alloc (.cells #[.int .i64 0,.int .i64 0] 130)):=((Mid.alloc _ _).trans (Mid.alloc _ _)).trans (Mid.alloc _ _);have b0:=((Box.new w #[.int .i64 r,.int .i64 s,.slice A es.length c] 26).mid (Mid.alloc _ (.cells #[.int .i64 0,.int .i64 0,.slice none 0 0] 26)) oZr).mid (Mid.alloc _ (.cells #[.int .i64 0,.int .i64 0] 130)) oZr;have b2:=(Box.new (w.alloc (.cells #[.int .i64 r,.int .i64 s,.slice A es.length c] 26)) #[.int .i64 0,.int .i64 0,.slice none 0 0] 26).mid (Mid.alloc _ (.cells #[.int .i64 0,.int .i64 0] 130)) oZr;have b3:=Box.new ((w.alloc (.cells #[.int .i64 r,.int .i64 s,.slice A es.length c] 26)).alloc (.cells #[.int .i64 0,.int .i64 0,.slice none 0 0] 26)) #[.int .i64 0,.int .i64 0] 130;simp only [World.size_alloc,Nat.add_assoc,Nat.reduceAdd] at b2 b3;have hF:=hp.first
 have HF:=Lib.hid hF;clear hg hF;obtain ⟨p1,p2⟩:=p;go_enter Tryz.func204,Tryz.ntmps204
 go_wp2_with fail;generalize hw1:(((w.alloc (.cells #[.int .i64 r,.int .i64 s,.slice A es.length c] 26)).alloc (.cells #[.int .i64 0,.int .i64 0,.slice none 0 0] 26)).alloc (.cells #[.int .i64 0,.int .i64 0] 130))=w1 at hm0 b0 b2 b3 ⊢;clear hw1;with_reducible refine (impl_FirstFold r s A es c _ _ _ (hr.mid hm0 oZl) hcl HG.out (p1,p2) b HF.out).mono ?_
 rintro en w2 ⟨rfl,hm2⟩;replace b0:=b0.mid hm2 oZr;replace b2:=b2.mid hm2 oZr;replace b3:=b3.mid hm2 oZr;replace hm0:=hm0.trans hm2;have hbs0:=b0.1;have hbs2:=b2.1;have hbs3:=b3.1;have u0:=b0.cell 0 rfl;have u1:=b0.cell 1 rfl;have u2:=b0.cell 2 rfl;have hal:=Mid.alloc w2 (.cells #[.int .i64 p1,.int .i64 p2] 130);have bf:=Box.new w2 #[.int .i64 p1,.int .i64 p2] 130;replace b0:=b0.mid hal oZr;replace b2:=b2.mid hal oZr;replace b3:=b3.mid hal oZr;replace hm0:=hm0.trans hal;clear hm2;rcases hp with ⟨rfl,hn,hpp,rfl,rfl⟩ | ⟨rfl,⟨t,ht⟩,rfl,hres⟩
 ·injection hpp with h1 h2
  subst h1 h2;clear hn;go_wp2_with fail;clear u0 u1 u2;generalize hw3:w2.alloc (.cells #[.int .i64 0,.int .i64 0] 130)=w3 at b0 b2 b3 bf hm0 ⊢;clear hw3 hal;with_reducible refine (impl_copyGraph r rs A res c _ _ _ (hr.mid hm0 oZl) (by omega)).mono ?_
  rintro en w4 ⟨A4,c4,rfl,hog,hm4⟩;have hs3:w.heap.size+3≤w3.heap.size:=b3.1;replace b2:=b2.mid hm4 oZr;replace b3:=b3.mid hm4 oZr;replace hm0:=hm0.trans hm4;have a0:=b2.cell 0 rfl;have a1:=b2.cell 1 rfl;have a2:=b2.cell 2 rfl;have x0:=b3.cell 0 rfl;have x1:=b3.cell 1 rfl;have af:=b2.2.2;have xf:=b3.2.2;go_wp2_with fail;refine bodyPost_ret (v:=.tuple #[.agg #[.int .i64 r,.int .i64 rs,.slice A4 res.length c4],.agg #[.int .i64 0,.int .i64 0],.bool false]) (by simp [results,Tryz.results204,go_sem,a0,a1,a2,x0,x1,af,xf]) rfl ⟨A4,c4,rfl,?_,?_⟩
  ·refine OG.wide (OG.mid hog (a:=w.heap.size+1) (b:=w.heap.size+3) ?_ (Or.inl (by omega))) (by omega) (by simp) (Nat.le_refl _)
   repeat (first | exact Mid.refl _ _ _ | refine Mid.stored ?_ _ (by simp;try omega) (by simp;try omega))
  ·repeat (first | exact hm0 | refine Mid.storeNew ?_ (by simp;try omega) _)
 ·obtain ⟨k1,k2,k3⟩:=mem_folds HG.out.all HG.out.asc (p:=(p1,p2)) (by rw [ht];simp)
  simp only at k1 k2 k3;have HRES:=Lib.hid hres;clear ht hres;have y0:=bf.cell 0 rfl;have y1:=bf.cell 1 rfl;go_wp2_with fail;clear u0 u1 u2 y0 y1;generalize hw3:w2.alloc (.cells #[.int .i64 p1,.int .i64 p2] 130)=w3 at b0 b2 b3 bf hm0 ⊢;have hs3:w3.heap.size=w2.heap.size+1:=by rw [← hw3];simp
  clear hw3 hal;obtain ⟨F,hF⟩:∃ F,w2.heap.size=F:=⟨_,rfl⟩
  rw [hF] at bf hs3 hbs0 hbs2 hbs3 ⊢;clear hF;with_reducible refine (impl_MergeVertices r s A es c p1 p2 _ _ _ (hr.mid hm0 oZl) HG.out k1 k2 k3).mono ?_
  rintro en w4 ⟨A4,c4,rfl,hog,hm4⟩;rw [← HRES.out] at hog ⊢;have hsz4:=hm4.size;replace b2:=b2.mid hm4 oZr;replace b3:=b3.mid hm4 oZr;replace bf:=bf.mid hm4 oZr;replace hm0:=hm0.trans hm4;have hal4:=Mid.alloc w4 (.cells #[.int .i64 r,.int .i64 (s - 1),.slice A4 res.length c4] 26);have bg:=Box.new w4 #[.int .i64 r,.int .i64 (s - 1),.slice A4 res.length c4] 26;replace b2:=b2.mid hal4 oZr;replace b3:=b3.mid hal4 oZr;replace bf:=bf.mid hal4 oZr;replace hog:=hog.mid hal4 oZl;replace hm0:=hm0.trans hal4;go_wp2_with fail;generalize hw5:w4.alloc (.cells #[.int .i64 r,.int .i64 (s - 1),.slice A4 res.length c4] 26)=w5 at b2 b3 bf bg hog hm0 ⊢;have hs5:w5.heap.size=w4.heap.size+1:=by rw [← hw5];simp
  clear hw5 hal4;obtain ⟨H,hH⟩:∃ H,w4.heap.size=H:=⟨_,rfl⟩
  rw [hH] at bg hsz4 hs5 hog ⊢;clear hH;have a0:=b2.cell 0 rfl;have a1:=b2.cell 1 rfl;have a2:=b2.cell 2 rfl;have x0:=b3.cell 0 rfl;have x1:=b3.cell 1 rfl;have y0:=bf.cell 0 rfl;have y1:=bf.cell 1 rfl;have z0:=bg.cell 0 rfl;have z1:=bg.cell 1 rfl;have z2:=bg.cell 2 rfl;have af:=b2.2.2;have xf:=b3.2.2;have n1:¬ w.heap.size+1=H:=by omega
  have n2:¬ w.heap.size+2=H:=by omega
  have n3:¬ w.heap.size+1=F:=by omega
  have n4:¬ w.heap.size+2=F:=by omega
  have n5:¬ F=H:=by omega
  go_region
  go_wp2_with fail;refine bodyPost_ret (v:=.tuple #[.agg #[.int .i64 r,.int .i64 (s - 1),.slice A4 res.length c4],.agg #[.int .i64 p1,.int .i64 p2],.bool true]) (by simp [results,Tryz.results204,go_sem,a0,a1,a2,x0,x1,af,xf]) rfl ⟨A4,c4,rfl,?_,?_⟩
  ·refine OG.wide (OG.mid hog (a:=w.heap.size+1) (b:=w.heap.size+3) ?_ (Or.inl (by omega))) (by omega) (by have:=hog.size;simp;omega) (Nat.le_refl _)
   refine Mid.trans ?_ (Mid.drew1 _).zero;repeat (first | exact Mid.refl _ _ _ | refine Mid.stored ?_ _ (by simp;try omega) (by simp;try omega))
  ·refine Mid.trans ?_ (Mid.drew1 _)
   repeat (first | exact hm0 | refine Mid.storeNew ?_ (by simp;try omega) _)
end
section
open Go.RowKit
theorem impl_FoldAll (r:Int) (n:Nat) (A:Option Addr) (es:List Ed) (c:Nat) (w:World) (lo hi:Nat) (hr:RG w lo hi A es) (hg:IsGr r n es) :
  Calls Tryz.prog 165 #[graV r n A es.length c] w fun e w'=>∃ A1 c1 Al nl cl,e=.returned (.tuple #[graV r (foldA 40 ((n:Int),es)).1 A1 (foldA 40 ((n:Int),es)).2.length c1,.slice Al nl cl])∧OG w' w.heap.size w'.heap.size A1 c1 (foldA 40 ((n:Int),es)).2∧Mid 0 0 w w':=by
 have hn40:n≤40:=by have:=hg.size;omega
 have hl:=hg.len;have hm0:Mid 0 0 w ((w.alloc (.cells #[.int .i64 r,.int .i64 n,.slice A es.length c] 26)).alloc (.cells #[.int .i64 0,.int .i64 0,.slice none 0 0] 26)):=(Mid.alloc _ _).trans (Mid.alloc _ _);have b0:=(Box.new w #[.int .i64 r,.int .i64 n,.slice A es.length c] 26).mid (Mid.alloc _ (.cells #[.int .i64 0,.int .i64 0,.slice none 0 0] 26)) oZr;have b2:=Box.new (w.alloc (.cells #[.int .i64 r,.int .i64 n,.slice A es.length c] 26)) #[.int .i64 0,.int .i64 0,.slice none 0 0] 26;simp only [World.size_alloc] at b2;have HG:=Lib.hid hg;obtain ⟨T,hT⟩:∃ T,foldA 40 ((n:Int),es)=T:=⟨_,rfl⟩
 rw [hT];have HT:=Lib.hid hT;clear hg hT;go_enter Tryz.func165,Tryz.ntmps165
 go_wp2_with fail;generalize hw1:((w.alloc (.cells #[.int .i64 r,.int .i64 n,.slice A es.length c] 26)).alloc (.cells #[.int .i64 0,.int .i64 0,.slice none 0 0] 26))=w1 at hm0 b0 b2 ⊢;clear hw1;with_reducible refine (impl_copyGraph r n A es c _ _ _ (hr.mid hm0 oZl) (by omega)).mono ?_
 rintro en w2 ⟨A1,c1,rfl,ho,hm2⟩;have hs2:w.heap.size+1 < w1.heap.size:=b2.1;replace b2:=b2.mid hm2 oZr;replace hm0:=hm0.trans hm2;have hsz2:=hm2.size;have hown0:=owns_base (base':=w.heap.size+2) ho.ov.2.1 hs2;have hbk0:Value.ownBlock (.slice A1 es.length c1)≠some w2.heap.size:=fun h=>by have:=ho.ov.2.2 _ h;omega
 have hal:=(Mid.alloc w2 (.cells #[.int .i64 r,.int .i64 n,.slice A1 es.length c1] 26)).trans (Mid.alloc (w2.alloc (.cells #[.int .i64 r,.int .i64 n,.slice A1 es.length c1] 26)) (.cells #[] 130));have Y3:=(Box.new w2 #[.int .i64 r,.int .i64 n,.slice A1 es.length c1] 26).mid (Mid.alloc (w2.alloc (.cells #[.int .i64 r,.int .i64 n,.slice A1 es.length c1] 26)) (.cells #[] 130)) oZr;have O0:=owns_empty (w2.alloc (.cells #[.int .i64 r,.int .i64 n,.slice A1 es.length c1] 26)) 130 2;rw [World.size_alloc] at O0;replace b2:=b2.mid hal oZr;replace hown0:=owns_mid hown0 hal oZl;replace hm0:=hm0.trans hal;go_wp2_with fail;generalize hw3:(w2.alloc (.cells #[.int .i64 r,.int .i64 n,.slice A1 es.length c1] 26)).alloc (.cells #[] 130)=w3 at Y3 O0 b2 hown0 hm0 ⊢;obtain ⟨G,hG⟩:∃ G,w2.heap.size=G:=⟨_,rfl⟩
 rw [hG] at Y3 O0 hbk0 hsz2 ⊢;have hGw:w.heap.size+2≤G:=by omega
 clear hw3 hal hm2 ho hG hsz2 hs2 b0;go_loopw [5] (fun l wr=>∃ (m s:Nat) (es1:List Ed) (A2:Option Addr) (c2:Nat) (Al:Option Addr) (nl cl:Nat) (ps:List (Int × Int)),l=.slice Al nl cl∧nl+s≤40∧Hid (foldA m ((s:Int),es1)=T)∧s≤m∧Hid (IsGr r s es1)∧wr.ownsRow (G+1) 130 2 (.slice Al nl cl) nl (ints (fdI ps)) ∧
   Hid (wr.ownsRow (w.heap.size+2) 68 3 (.slice A2 es1.length c2) es1.length (ints (edI es1)))∧Hid (Value.ownBlock (.slice A2 es1.length c2)≠some G)∧Box wr (w.heap.size+1) [.int .i64 0,.int .i64 0,.slice none 0 0]∧Box wr G [.int .i64 r,.int .i64 s,.slice A2 es1.length c2]∧Mid 0 0 w wr) (fun _ wr=>sizeAt wr G)
 case atStart=>exact ⟨40,n,es,A1,c1,_,0,0,[],rfl,by omega,HT,hn40,HG,O0,Lib.hid hown0,Lib.hid hbk0,b2,Y3,hm0⟩
 case round =>
  clear O0 hown0 b2 Y3 hm0 hbk0;obtain ⟨m,s,es1,A2,c2,Al,nl,cl,ps,rfl,hnl,HTm,hsm,HGs,hleft,HE,HBK,b2,Y3,hm⟩:=hrel;have hl1:=HGs.out.len;have hs1:1≤s:=by have:=HGs.out.size;omega
  have hlsz:=Lib.hid (sizeAt_box Y3);have hec:es1.length≤c2:=by
   obtain ⟨A',c',hv0,hsc,hcm⟩:=owns_shape HE.out;injection hv0 with _ _ hv0
   omega
  obtain ⟨p,b,rs,res,hone⟩:=OnceIs.ex (s:Int) es1;have HO:=Lib.hid (impl_FoldOnce r s A2 es1 c2 wr _ _ (owns_rv HE.out).rg hec HGs.out p b rs res hone);have HON:=Lib.hid hone;obtain ⟨p1,p2⟩:=p;clear hone;have y0:=Y3.cell 0 rfl;have y1:=Y3.cell 1 rfl;have y2:=Y3.cell 2 rfl;go_wp2_with fail;with_reducible refine HO.out.mono ?_
  rintro en w5 ⟨A3,c3,rfl,hog,hm5⟩;have hGr:G < wr.heap.size:=Y3.1;have hw2r:w.heap.size+2≤wr.heap.size:=by omega
  have hE5:=owns_mid HE.out hm5 oZl;replace b2:=b2.mid hm5 oZr;replace Y3:=Y3.mid hm5 oZr;replace hleft:=owns_mid hleft hm5 oZl;replace hm:=hm.trans hm5;clear HO y0 y1 y2 HE;have hal1:=Mid.alloc w5 (.cells #[.int .i64 r,.int .i64 rs,.slice A3 res.length c3] 26);have hal2:=Mid.alloc (w5.alloc (.cells #[.int .i64 r,.int .i64 rs,.slice A3 res.length c3] 26)) (.cells #[.int .i64 p1,.int .i64 p2] 130);have bh:=(Box.new w5 #[.int .i64 r,.int .i64 rs,.slice A3 res.length c3] 26).mid hal2 oZr;have bp:=Box.new (w5.alloc (.cells #[.int .i64 r,.int .i64 rs,.slice A3 res.length c3] 26)) #[.int .i64 p1,.int .i64 p2] 130;rw [World.size_alloc] at bp;have hal:=hal1.trans hal2;have hs5:=hm5.size;have hG5:G < w5.heap.size:=Y3.1;have hG6:G < w5.heap.size+1:=by omega
  have hb5:w.heap.size+1 < w5.heap.size:=b2.1;have hb6:w.heap.size < w5.heap.size:=by omega
  have yf:=Y3.2.2;have y0:=Y3.cell 0 rfl;have y1:=Y3.cell 1 rfl;have y2:=Y3.cell 2 rfl;cases b with
  | false =>
   have af:=b2.2.2;have a0:=b2.cell 0 rfl;have a1:=b2.cell 1 rfl;have a2:=b2.cell 2 rfl;have hfn:folds es1=[]∧True:=by
    rcases HON.out with h | h
    ·exact ⟨h.2.1,trivial⟩
    ·exact absurd h.1 (by decide)
   have hTT:=HTm.out;rw [foldA_nil (g:=((s:Int),es1)) hfn.1] at hTT;have HTT:=Lib.hid hTT;clear hTT hfn;go_wp2_with fail;refine bodyPost_ret (v:=.tuple #[.agg #[.int .i64 r,.int .i64 s,.slice A2 es1.length c2],.slice Al nl cl]) (by simp [results,Tryz.results165,go_sem,a0,a1,a2,af,hb5,hb6,World.cell?_alloc_lt]) rfl ⟨A2,c2,Al,nl,cl,by rw [← HTT.out],?_,?_⟩
   ·rw [← HTT.out]
    have h0:OG w5 (w.heap.size+2) w5.heap.size A2 c2 es1:=⟨Nat.le_refl _,hE5,fun g hg=>(hE5.lt g hg).2⟩
    refine OG.wide (OG.mid h0 (a:=w.heap.size+1) (b:=w.heap.size+2) ?_ (Or.inl (Nat.le_refl _))) (by omega) (by simp;try omega) (Nat.le_refl _);repeat (first | exact Mid.refl _ _ _ | refine Mid.trans ?_ (Mid.alloc _ _).zero | refine Mid.stored ?_ _ (by simp;try omega) (by simp;try omega))
   ·repeat (first | exact hm | refine Mid.trans ?_ (Mid.alloc _ _) | refine Mid.storeNew ?_ (by simp;try omega) _)
  | true =>
   obtain ⟨t,htt⟩:∃ t,folds es1=(p1,p2) :: t:=by
    rcases HON.out with h | h
    ·exact absurd h.1 (by decide)
    ·exact h.2.1
   obtain ⟨rfl,rfl⟩:rs=(s:Int) - 1∧res=mergeE (p1,p2) es1:=by
    rcases HON.out with h | h
    ·exact absurd h.1 (by decide)
    ·exact h.2.2
   obtain ⟨k1,k2,k3⟩:=mem_folds HGs.out.all HGs.out.asc (p:=(p1,p2)) (by rw [htt];simp);obtain ⟨m',rfl⟩:∃ m',m=m'+1:=⟨m - 1,by omega⟩
   have hTT:=HTm.out;rw [foldA_cons (g:=((s:Int),es1)) htt] at hTT;simp only at hTT;have HTT:=Lib.hid hTT;have HG2:=Lib.hid (mergeE_gr HGs.out k1 k2 k3);clear hTT htt k1 k2 k3 HON;obtain ⟨s',rfl⟩:∃ s',s=s'+1:=⟨s - 1,by omega⟩
   rw [show ((s'+1:Nat):Int) - 1=(s':Int) by omega] at HTT HG2 hal hal1 hal2 bh bp ⊢;obtain ⟨me,hme⟩:∃ me,mergeE (p1,p2) es1=me:=⟨_,rfl⟩
   rw [hme] at HTT HG2 hal hal1 hal2 bh bp hog ⊢;clear hme;have hst:=(Mid.setAt w5 G 0 (.int .i64 r)).trans ((Mid.setAt (w5.setCell ⟨G,0,none⟩ (.int .i64 r)) G 1 (.int .i64 s')).trans (Mid.setAt ((w5.setCell ⟨G,0,none⟩ (.int .i64 r)).setCell ⟨G,1,none⟩ (.int .i64 s')) G 2 (.slice A3 me.length c3)));have Y5:=((Y3.set 0 (.int .i64 r) (by simp) rfl).set 1 (.int .i64 s') (by simp) rfl).set 2 (.slice A3 me.length c3) (by simp) rfl;have hm6:=((hm.storeNew (p:=⟨G,0,none⟩) (by show w.heap.size≤G;omega) (.int .i64 r)).storeNew (p:=⟨G,1,none⟩) (by show w.heap.size≤G;omega) (.int .i64 s')).storeNew (p:=⟨G,2,none⟩) (by show w.heap.size≤G;omega) (.slice A3 me.length c3);have b6:=b2.mid hst (Or.inl (by omega));have hleft6:=owns_mid hleft hst (Or.inl (Nat.le_refl _));have hog6:=OG.mid hog hst (Or.inl hGr);have ha2:=(Mid.alloc (((w5.setCell ⟨G,0,none⟩ (.int .i64 r)).setCell ⟨G,1,none⟩ (.int .i64 s')).setCell ⟨G,2,none⟩ (.slice A3 me.length c3)) (.cells #[.int .i64 r,.int .i64 s',.slice A3 me.length c3] 26)).trans (Mid.alloc _ (.cells #[.int .i64 p1,.int .i64 p2] 130));replace b6:=b6.mid ha2 oZr;replace Y5:=Y5.mid ha2 oZr;replace hleft6:=owns_mid hleft6 ha2 oZl;replace hm6:=hm6.trans ha2;replace hog6:=OG.mid hog6 ha2 oZl;have hWs:(((((w5.setCell ⟨G,0,none⟩ (.int .i64 r)).setCell ⟨G,1,none⟩ (.int .i64 s')).setCell ⟨G,2,none⟩ (.slice A3 me.length c3)).alloc (.cells #[.int .i64 r,.int .i64 s',.slice A3 me.length c3] 26)).alloc (.cells #[.int .i64 p1,.int .i64 p2] 130)).heap.size=w5.heap.size+1+1:=by simp
   have HL:=Lib.hid hleft6;have HY:=Lib.hid Y5;have HB:=Lib.hid b6;have HM:=Lib.hid hm6;have HO6:=Lib.hid hog6;clear hleft6 Y5 b6 hm6 hog6 ha2 hst hleft b2 hm hog hE5 hal hal1 hal2 bh bp;go_wp2_with (at_builtin;refine wpList_pushF rfl _ _ rfl (G+1) Al nl cl ps rfl HL.out (p1,p2) (by rw [hWs];rfl) (by omega) (by rw [hWs];omega) ?_;intro A9 c9 w9 hl9 hgr9 hat9)
   have hm9:=Mid.of_grownRow HL.out hgr9;have hmo:=(HO6.out).2.1;have hE9:=(owns_base hmo hw2r).kept hgr9 (owns_ne hmo HL.out (by decide));have hbk9:Value.ownBlock (.slice A3 me.length c3)≠some G:=fun h=>by have:=(hmo.lt _ h).1;omega
   have Y9:=HY.out.mid hm9 (Or.inl (Nat.lt_succ_self _));have hmsz:=hlsz.out;go_roundw
   case rel=>exact ⟨m',s',me,A3,c3,A9,nl+1,c9,ps++[(p1,p2)],rfl,by omega,HTT,by omega,HG2,hl9,Lib.hid hE9,Lib.hid hbk9,HB.out.mid hm9 (Or.inl (by omega)),Y9,HM.out.transNew hm9 (Or.inl (by omega))⟩
   case measure=>rw [hmsz,sizeAt_box Y9];omega
end
section
open Go.RowKit
theorem spec_l7New (p1 p2 v:Int) (w:World) (h0:p1 < p2) (h1:0≤v) (h2:v < 1000000) :
  Calls Tryz.prog 247 #[.int .i64 v,.agg #[.int .i64 p1,.int .i64 p2]] w fun e w'=>e=.returned (.int .i64 (foldV (p1,p2) v))∧Mid 0 0 w w':=by
 have hm0:Mid 0 0 w (w.alloc (.cells #[.int .i64 p1,.int .i64 p2] 130)):=Mid.alloc _ _;have b0:=Box.new w #[.int .i64 p1,.int .i64 p2] 130;go_enter Tryz.func247,Tryz.ntmps247
 have q0:=b0.cell 0 rfl;have q1:=b0.cell 1 rfl;rcases (by omega:v=p2 ∨ p2 < v ∨ v < p2) with h | h | h
 ·subst h
  have d1:(v == v)=true:=by simp
  have d2:decide (v < p1)=false:=by simp;omega
  have hf:foldV (p1,v) v=p1:=by simp [foldV]
  have HF:=Lib.hid hf;clear hf;go_wp2_with fail;go_ret;exact ⟨by rw [HF.out];rfl,hm0⟩
 ·have d1:(v == p2)=false:=by simp only [beq_eq_false_iff_ne];omega
  have hf:foldV (p1,p2) v=v - 1:=by unfold foldV;rw [if_neg (by omega),if_pos (by simpa using h)]
  have HF:=Lib.hid hf;clear hf;go_wp2_with fail;go_ret;exact ⟨by rw [HF.out];rfl,hm0⟩
 ·have d1:(v == p2)=false:=by simp only [beq_eq_false_iff_ne];omega
  have hn:¬ p2 < v:=by omega
  have hf:foldV (p1,p2) v=v:=by unfold foldV;rw [if_neg (by omega),if_neg (by simpa using hn)]
  have HF:=Lib.hid hf;clear hf;go_wp2_with fail;go_ret;exact ⟨by rw [HF.out];rfl,hm0⟩
end
section
open Go.RowKit
theorem spec_MergeVertices (r s:Int) (A:Option Addr) (es:List Ed) (c:Nat) (p1 p2:Int) (w:World) (lo hi:Nat) (hr:RG w lo hi A es) (hg:IsGr r s es) (h0:0≤p1) (h1:p1 < p2) (h2:p2 < s) :
  Calls Tryz.prog 231 #[graV r s A es.length c,.agg #[.int .i64 p1,.int .i64 p2]] w fun e w'=>∃ A1 c1,e=.returned (.tuple #[graV r (s - 1) A1 (mergeE (p1,p2) es).length c1,.bool true])∧OG w' w.heap.size w'.heap.size A1 c1 (mergeE (p1,p2) es)∧Mid 0 0 w w':=by
 have hl:=hg.len;have hs40:=hg.size;have HG:=Lib.hid hg;have hm0:Mid 0 0 w (((w.alloc (.cells #[.int .i64 r,.int .i64 s,.slice A es.length c] 26)).alloc (.cells #[.int .i64 p1,.int .i64 p2] 130)).alloc (.cells #[.int .i64 0,.int .i64 0,.slice none 0 0] 26)):=((Mid.alloc _ _).trans (Mid.alloc _ _)).trans (Mid.alloc _ _);have b0:=((Box.new w #[.int .i64 r,.int .i64 s,.slice A es.length c] 26).mid (Mid.alloc _ (.cells #[.int .i64 p1,.int .i64 p2] 130)) oZr).mid (Mid.alloc _ (.cells #[.int .i64 0,.int .i64 0,.slice none 0 0] 26)) oZr;have bf:=(Box.new (w.alloc (.cells #[.int .i64 r,.int .i64 s,.slice A es.length c] 26)) #[.int .i64 p1,.int .i64 p2] 130).mid (Mid.alloc _ (.cells #[.int .i64 0,.int .i64 0,.slice none 0 0] 26)) oZr;have b2:=Box.new ((w.alloc (.cells #[.int .i64 r,.int .i64 s,.slice A es.length c] 26)).alloc (.cells #[.int .i64 p1,.int .i64 p2] 130)) #[.int .i64 0,.int .i64 0,.slice none 0 0] 26;simp only [World.size_alloc,Nat.add_assoc,Nat.reduceAdd] at bf b2;have d1:decide (p1 < 0)=false:=by simp;omega
 have d2:decide (p2≤p1)=false:=by simp;omega
 have d3:decide (s≤p2)=false:=by simp;omega
 clear hg;go_enter Tryz.func231,Tryz.ntmps231
 go_wp2_with fail;generalize hw1:(((w.alloc (.cells #[.int .i64 r,.int .i64 s,.slice A es.length c] 26)).alloc (.cells #[.int .i64 p1,.int .i64 p2] 130)).alloc (.cells #[.int .i64 0,.int .i64 0,.slice none 0 0] 26))=w1 at hm0 b0 bf b2 ⊢;clear hw1;with_reducible refine (spec_IsGraph r s A es c _ _ _ (hr.mid hm0 oZl).rv (by omega) true (iff_of_true rfl HG.out)).mono ?_
 rintro en w4 ⟨rfl,hm4⟩;replace b0:=b0.mid hm4 oZr;replace bf:=bf.mid hm4 oZr;replace b2:=b2.mid hm4 oZr;replace hm0:=hm0.trans hm4;have hs4:w.heap.size+3≤w4.heap.size:=b2.1;have q0:=b0.cell 0 rfl;have q1:=b0.cell 1 rfl;have q2:=b0.cell 2 rfl;have k0:=bf.cell 0 rfl;have k1:=bf.cell 1 rfl;have hal:=Mid.alloc w4 (.cells #[.int .i64 r,.int .i64 (s - 1),.slice none 0 0] 26);have Y3:=Box.new w4 #[.int .i64 r,.int .i64 (s - 1),.slice none 0 0] 26;replace b0:=b0.mid hal oZr;replace bf:=bf.mid hal oZr;replace b2:=b2.mid hal oZr;replace hm0:=hm0.trans hal;go_wp2_with fail;clear q0 q1 q2 k0 k1;have hs5:(w4.alloc (.cells #[.int .i64 r,.int .i64 (s - 1),.slice none 0 0] 26)).heap.size=w4.heap.size+1:=by simp
 generalize w4.alloc (.cells #[.int .i64 r,.int .i64 (s - 1),.slice none 0 0] 26)=w5 at Y3 b0 bf b2 hm0 hs5 ⊢;obtain ⟨G,hG⟩:∃ G,w4.heap.size=G:=⟨_,rfl⟩
 rw [hG] at Y3 hs4 hs5 ⊢;clear hal hm4 hG;go_loopw [7] (fun i wr=>∃ (q:Nat) (A2:Option Addr) (c2 lo2 hi2:Nat) (xs:List Ed),q≤es.length∧i=.int .i64 q∧Hid (xs=putAll [] ((es.take q).map (foldE (p1,p2)))) ∧
   OG wr lo2 hi2 A2 c2 xs∧G+1≤lo2 ∧
   Box wr w.heap.size [.int .i64 r,.int .i64 s,.slice A es.length c]∧Box wr (w.heap.size+1) [.int .i64 p1,.int .i64 p2]∧Box wr (w.heap.size+2) [.int .i64 0,.int .i64 0,.slice none 0 0]∧Box wr G [.int .i64 r,.int .i64 (s - 1),.slice A2 xs.length c2]∧Mid 0 0 w wr) (fun i _=>es.length - (intOf i).toNat)
 case atStart=>exact ⟨0,none,0,G+1,_,[],Nat.zero_le _,rfl,Lib.hid rfl,⟨Nat.le_of_eq hs5.symm,⟨rfl,.inl ⟨rfl,rfl⟩⟩,fun g hg=>by simp [Value.ownBlock] at hg⟩,Nat.le_refl _,b0,bf,b2,Y3,hm0⟩
 case round =>
  clear b0 bf b2 Y3 hm0 hs5;obtain ⟨q,A2,c2,lo2,hi2,xs,hq,rfl,HX,hown,hlo2,b0,bf,b2,Y3,hm⟩:=hrel;have hxl:xs.length≤120:=by
   have h1:=putAll_len [] ((es.take q).map (foldE (p1,p2)));rw [← HX.out] at h1;simp at h1;omega
  by_cases hlt:q < es.length
  ·obtain ⟨B,off,e,rfl, -,hbh,he,e0,e1,e2⟩:=(hr.mid hm oZl).ed hlt
   have hin:=HG.out.all e (List.mem_of_getElem? he);have htk:(es.take (q+1)).map (foldE (p1,p2))=(es.take q).map (foldE (p1,p2))++[foldE (p1,p2) e]:=by
    rw [take_snoc he,List.map_append]
    rfl
   obtain ⟨i1,i2,i3,i4,i5,i6⟩:=hin;have hq0:(0:Int)≤(q:Int):=by omega
   have hq1:(q:Int) < (es.length:Int):=by omega
   have hal:=Mid.alloc wr (.cells #[.int .i64 e.a,.int .i64 e.l,.int .i64 e.b] 68);have ZE:=Box.new wr #[.int .i64 e.a,.int .i64 e.l,.int .i64 e.b] 68;have hGr:G < wr.heap.size:=Y3.1;have u0:=b0.cell 0 rfl;have u1:=b0.cell 1 rfl;have u2:=b0.cell 2 rfl;replace b0:=b0.mid hal oZr;replace bf:=bf.mid hal oZr;replace b2:=b2.mid hal oZr;replace Y3:=Y3.mid hal oZr;replace hown:=hown.mid hal oZl;replace hm:=hm.trans hal;have HTK:=Lib.hid htk;clear he htk;go_wp2_with fail;clear e0 e1 e2 u0 u1 u2;generalize hwx:wr.alloc (.cells #[.int .i64 e.a,.int .i64 e.l,.int .i64 e.b] 68)=wx at ZE b0 bf b2 Y3 hown hm ⊢;generalize hgE:wr.heap.size=E at ZE hGr ⊢;clear hgE hwx hal;have hmd:=Mid.drew1 wx;replace b0:=b0.mid hmd oZr;replace bf:=bf.mid hmd oZr;replace b2:=b2.mid hmd oZr;replace Y3:=Y3.mid hmd oZr;replace ZE:=ZE.mid hmd oZr;replace hown:=hown.mid hmd oZl;replace hm:=hm.trans hmd;have f0:=ZE.cell 0 rfl;have f1:=ZE.cell 1 rfl;have f2:=ZE.cell 2 rfl;have g2:=Y3.cell 2 rfl;have k0:=bf.cell 0 rfl;have k1:=bf.cell 1 rfl;obtain ⟨x,hx⟩:∃ x,foldV (p1,p2) e.a=x:=⟨_,rfl⟩
   obtain ⟨y,hy⟩:∃ y,foldV (p1,p2) e.b=y:=⟨_,rfl⟩
   have HFE:Hid (foldE (p1,p2) e=⟨x,e.l,y⟩):=Lib.hid (by simp [foldE,hx,hy]);clear hmd;refine wp_region_T (S:=(fun w'=>w'.cell? ⟨E,0,none⟩=some (.int .i64 e.a)∧w'.cell? ⟨E,1,none⟩=some (.int .i64 e.l)∧w'.cell? ⟨E,2,none⟩=some (.int .i64 e.b)∧w'.cell? ⟨G,2,none⟩=some (.slice A2 xs.length c2)∧w'.cell? ⟨w.heap.size+1,0,none⟩=some (.int .i64 p1)∧w'.cell? ⟨w.heap.size+1,1,none⟩=some (.int .i64 p2))) 15 (by kernel_rfl) ⟨f0,f1,f2,g2,k0,k1⟩ ?_;generalize World.drew wx=wz at b0 bf b2 Y3 ZE hown hm f0 f1 f2 g2 k0 k1 ⊢;have hS:wz.cell? ⟨E,0,none⟩=some (.int .i64 e.a)∧wz.cell? ⟨E,1,none⟩=some (.int .i64 e.l)∧wz.cell? ⟨E,2,none⟩=some (.int .i64 e.b)∧wz.cell? ⟨G,2,none⟩=some (.slice A2 xs.length c2)∧wz.cell? ⟨w.heap.size+1,0,none⟩=some (.int .i64 p1)∧wz.cell? ⟨w.heap.size+1,1,none⟩=some (.int .i64 p2):=⟨f0,f1,f2,g2,k0,k1⟩
   have hP1:=spec_l7New p1 p2 e.a wz h1 i1 (by omega);rw [hx] at hP1;refine tkT 0 rfl hS ?_;try simp only [Act.put,zs1,zs2,zs3,zs4,zs5,zs6]
   refine tkT 1 rfl hS ?_;try simp only [Act.put,zs1,zs2,zs3,zs4,zs5,zs6]
   refine tkT 2 rfl hS ?_;try simp only [Act.put,zs1,zs2,zs3,zs4,zs5,zs6]
   refine tkT 3 rfl hS ?_;try simp only [Act.put,zs1,zs2,zs3,zs4,zs5,zs6]
   refine tkT 4 rfl hS ?_;try simp only [Act.put,zs1,zs2,zs3,zs4,zs5,zs6]
   refine tkT 6 rfl hS ?_;try simp only [Act.put,zs1,zs2,zs3,zs4,zs5,zs6]
   refine tkT 7 rfl hS ?_;try simp only [Act.put,zs1,zs2,zs3,zs4,zs5,zs6]
   refine tkT 8 rfl hS ?_;try simp only [Act.put,zs1,zs2,zs3,zs4,zs5,zs6]
   refine tkT 9 rfl hS ?_;try simp only [Act.put,zs1,zs2,zs3,zs4,zs5,zs6]
   refine tkT 10 rfl hS ?_;try simp only [Act.put,zs1,zs2,zs3,zs4,zs5,zs6]
   refine rdT 5 rfl (fun K hK=>?_)
   (go_simp;refine hP1.mono ?_;rintro _ w6 ⟨rfl,hc6⟩;have b06:=b0.mid hc6 oZr;have bf6:=bf.mid hc6 oZr;have b26:=b2.mid hc6 oZr;have Y36:=Y3.mid hc6 oZr;have ZE6:=ZE.mid hc6 oZr;have hown6:=OG.mid hown hc6 oZl;have hm6:=hm.trans hc6;have hS6:w6.cell? ⟨E,0,none⟩=some (.int .i64 e.a)∧w6.cell? ⟨E,1,none⟩=some (.int .i64 e.l)∧w6.cell? ⟨E,2,none⟩=some (.int .i64 e.b)∧w6.cell? ⟨G,2,none⟩=some (.slice A2 xs.length c2)∧w6.cell? ⟨w.heap.size+1,0,none⟩=some (.int .i64 p1)∧w6.cell? ⟨w.heap.size+1,1,none⟩=some (.int .i64 p2):=⟨ZE6.cell 0 rfl,ZE6.cell 1 rfl,ZE6.cell 2 rfl,Y36.cell 2 rfl,bf6.cell 0 rfl,bf6.cell 1 rfl⟩;go_wp2_with fail)
   refine hK.out _ _ (Or.inr hS6) (fun _=>?_);clear hK K;try simp only [Act.put,zs1,zs2,zs3,zs4,zs5,zs6]
   clear hS hP1 b0 bf b2 Y3 ZE hown hm f0 f1 f2 g2 k0 k1 hc6;have hP2:=spec_l7New p1 p2 e.b w6 h1 i3 (by omega);rw [hy] at hP2;clear hx hy;refine rdT 11 rfl (fun K hK=>?_)
   (go_simp;refine hP2.mono ?_;rintro _ w7 ⟨rfl,hc7⟩;have b07:=b06.mid hc7 oZr;have bf7:=bf6.mid hc7 oZr;have b27:=b26.mid hc7 oZr;have Y37:=Y36.mid hc7 oZr;have ZE7:=ZE6.mid hc7 oZr;have hown7:=OG.mid hown6 hc7 oZl;have hm7:=hm6.trans hc7;have hS7:w7.cell? ⟨E,0,none⟩=some (.int .i64 e.a)∧w7.cell? ⟨E,1,none⟩=some (.int .i64 e.l)∧w7.cell? ⟨E,2,none⟩=some (.int .i64 e.b)∧w7.cell? ⟨G,2,none⟩=some (.slice A2 xs.length c2)∧w7.cell? ⟨w.heap.size+1,0,none⟩=some (.int .i64 p1)∧w7.cell? ⟨w.heap.size+1,1,none⟩=some (.int .i64 p2):=⟨ZE7.cell 0 rfl,ZE7.cell 1 rfl,ZE7.cell 2 rfl,Y37.cell 2 rfl,bf7.cell 0 rfl,bf7.cell 1 rfl⟩;go_wp2_with fail)
   refine hK.out _ _ (Or.inr hS7) (fun _=>?_);clear hK K;try simp only [Act.put,zs1,zs2,zs3,zs4,zs5,zs6]
   clear hS6 hP2 b06 bf6 b26 Y36 ZE6 hown6 hm6 hc7;refine tkT 12 rfl hS7 ?_;try simp only [Act.put,zs1,zs2,zs3,zs4,zs5,zs6]
   have hQ:=spec_l4Put A2 xs c2 ⟨x,e.l,y⟩ w7 _ _ hown7.rg (by omega);refine rdT 13 rfl (fun K hK=>?_)
   (go_simp;refine hQ.mono ?_;rintro en w9 ⟨A9,c9,rfl,ho9,hc9⟩;have b09:=b07.mid hc9 oZr;have bf9:=bf7.mid hc9 oZr;have b29:=b27.mid hc9 oZr;have Y39:=Y37.mid hc9 oZr;have ZE9:=ZE7.mid hc9 oZr;have hown9:=OG.mid hown7 hc9 oZl;have hm9:=hm7.trans hc9;go_wp2_with fail)
   refine hK.out _ _ (Or.inr ⟨ZE9.cell 0 rfl,ZE9.cell 1 rfl,ZE9.cell 2 rfl,Y39.cell 2 rfl,bf9.cell 0 rfl,bf9.cell 1 rfl⟩) (fun _=>?_);clear hK K;try simp only [Act.put,zs1,zs2,zs3,zs4,zs5,zs6]
   have hS9:w9.cell? ⟨E,0,none⟩=some (.int .i64 e.a)∧w9.cell? ⟨E,1,none⟩=some (.int .i64 e.l)∧w9.cell? ⟨E,2,none⟩=some (.int .i64 e.b)∧w9.cell? ⟨G,2,none⟩=some (.slice A2 xs.length c2)∧w9.cell? ⟨w.heap.size+1,0,none⟩=some (.int .i64 p1)∧w9.cell? ⟨w.heap.size+1,1,none⟩=some (.int .i64 p2):=⟨ZE9.cell 0 rfl,ZE9.cell 1 rfl,ZE9.cell 2 rfl,Y39.cell 2 rfl,bf9.cell 0 rfl,bf9.cell 1 rfl⟩
   have hr2:=Y39.cell 2 rfl;have hrf:=Y39.2.2;have hG7:G+1≤w7.heap.size:=Y37.1;clear hS7 b07 bf7 b27 Y37 ZE7 hown7 hm7 hc9 hQ;refine tkT 14 rfl hS9 ?_;try simp only [Act.put,zs1,zs2,zs3,zs4,zs5,zs6]
   refine rdT 15 rfl (fun K hK=>?_)
   (go_simp)
   refine hK.out _ _ (Or.inl rfl) (fun _=>?_);clear hK K;try simp only [Act.put,zs1,zs2,zs3,zs4,zs5,zs6]
   refine wpAnyT_done (by kernel_rfl) ?_ _;go_wp2_with fail;go_roundw
   case rel =>
    have hst:=Mid.setAt w9 G 2 (.slice A9 (putE ⟨x,e.l,y⟩ xs).length c9);refine ⟨q+1,A9,c9,_,_,_,by omega,by go_num,Lib.hid ?_,ho9.mid hst (Or.inl hG7),hG7,b09.mid hst (Or.inl (by omega)),bf9.mid hst (Or.inl (by omega)),b29.mid hst (Or.inl (by omega)),Y39.set 2 _ (by simp) rfl,hm9.storeNew (p:=⟨G,2,none⟩) (by show w.heap.size≤G;omega) _⟩;rw [HTK.out,putAll_snoc,← HX.out,HFE.out]
   case measure=>simp [intOf];omega
  ·obtain rfl:q=es.length:=by omega
   have hxx:=HX.out;rw [List.take_length] at hxx;have HXX:=Lib.hid (show xs=mergeE (p1,p2) es from hxx);clear hxx;have u0:=b0.cell 0 rfl;have u1:=b0.cell 1 rfl;have u2:=b0.cell 2 rfl;have a0:=b2.cell 0 rfl;have a1:=b2.cell 1 rfl;have a2:=b2.cell 2 rfl;have x0:=Y3.cell 0 rfl;have x1:=Y3.cell 1 rfl;have x2:=Y3.cell 2 rfl;have af:=b2.2.2;have xf:=Y3.2.2;have hcl:¬ w.heap.size+2=G:=by omega
   have hcl2:¬ G=w.heap.size+2:=by omega
   go_wp2_with fail;have hcl3:(w.heap.size+2 == G)=false:=by simpa using hcl
   refine bodyPost_ret (v:=.tuple #[.agg #[.int .i64 r,.int .i64 (s - 1),.slice A2 xs.length c2],.bool true]) (by simp [results,Tryz.results231,go_sem,a0,a1,a2,x0,x1,x2,af,xf,hcl]) rfl ⟨A2,c2,by rw [HXX.out],?_,?_⟩
   ·rw [← HXX.out]
    refine OG.wide (OG.mid hown (a:=w.heap.size) (b:=G+1) ?_ (Or.inl hlo2)) (by omega) (by have:=hown.size;simpa using this) (Nat.le_refl _);repeat (first | exact Mid.refl _ _ _ | refine Mid.stored ?_ _ (by simp;try omega) (by simp;try omega))
   ·repeat (first | exact hm | refine Mid.storeNew ?_ (by simp;try omega) _)
end
section
open Go.RowKit
theorem spec_l7Folds (r s:Int) (A:Option Addr) (es:List Ed) (c:Nat) (w:World) (lo hi:Nat) (hr:RG w lo hi A es) (hl:es.length≤120) :
  Calls Tryz.prog 246 #[graV r s A es.length c] w fun e w'=>∃ A1 c1,e=.returned (.slice A1 (folds es).length c1)∧RV w' 0 w'.heap.size A1 (ints (fdI (folds es)))∧Mid 0 0 w w':=by
 have hm0:Mid 0 0 w ((w.alloc (.cells #[.int .i64 r,.int .i64 s,.slice A es.length c] 26)).alloc (.cells #[] 130)):=(Mid.alloc _ _).trans (Mid.alloc _ _);have b0:=(Box.new w #[.int .i64 r,.int .i64 s,.slice A es.length c] 26).mid (Mid.alloc _ (.cells #[] 130)) oZr;have O0:=owns_empty (w.alloc (.cells #[.int .i64 r,.int .i64 s,.slice A es.length c] 26)) 130 2;rw [World.size_alloc] at O0;go_enter Tryz.func246,Tryz.ntmps246
 go_wp2_with fail;go_loopw [3,4] (fun out iv wr=>∃ (k:Nat) (A1:Option Addr) (n1 c1:Nat),k≤es.length∧iv=.int .i64 k∧out=.slice A1 n1 c1∧Hid ((foldsUp es k).length=n1)∧wr.ownsRow (w.heap.size+1) 130 2 (.slice A1 n1 c1) n1 (ints (fdI (foldsUp es k))) ∧
   Box wr w.heap.size [.int .i64 r,.int .i64 s,.slice A es.length c]∧Mid 0 0 w wr) (fun _ i _=>es.length - (intOf i).toNat)
 case atStart=>exact ⟨0,_,0,0,Nat.zero_le _,rfl,rfl,Lib.hid rfl,O0,b0,hm0⟩
 case round =>
  clear O0 b0 hm0;obtain ⟨wo,hwo⟩:∃ wo,wo=wr:=⟨_,rfl⟩
  subst hwo;obtain ⟨k,A1,n1,c1,hk,rfl,rfl,HN,hown,b0,hm⟩:=hrel;have q0:=b0.cell 0 rfl;have q1:=b0.cell 1 rfl;have q2:=b0.cell 2 rfl;by_cases hlt:k < es.length
  ·obtain ⟨e,he⟩:=get_of_lt es hlt
   have HE:=Lib.hid he;have hk0:(0:Int)≤(k:Int):=by omega
   have hk1:(k:Int) < (es.length:Int):=by omega
   clear he;go_wp2_with fail;clear q0 q1 q2;go_loopw [3,5] (fun out jv wr=>∃ (j:Nat) (A2:Option Addr) (n2 c2:Nat),k+1+j≤es.length∧jv=.int .i64 ((k+1+j:Nat):Int)∧out=.slice A2 n2 c2∧Hid ((foldsUp es k++((es.drop (k+1)).take j).flatMap (foldsAB e)).length=n2) ∧
     wr.ownsRow (w.heap.size+1) 130 2 (.slice A2 n2 c2) n2 (ints (fdI (foldsUp es k++((es.drop (k+1)).take j).flatMap (foldsAB e)))) ∧
     Box wr w.heap.size [.int .i64 r,.int .i64 s,.slice A es.length c]∧Mid 0 0 w wr) (fun _ j _=>es.length - (intOf j).toNat)
   case atStart=>exact ⟨0,A1,n1,c1,by omega,by go_num,rfl,Lib.hid (by simpa using HN.out),by simpa using hown,b0,hm⟩
   case round =>
    clear hown b0 hm HN;obtain ⟨j,A2,n2,c2,hj,rfl,rfl,HN,hown,b0,hm⟩:=hrel;have hn2:n2≤40000:=by
     have h1:=foldsUp_len es k;have h2:=flat_len e ((es.drop (k+1)).take j);have h3:=HN.out;have h4:k * (2 * es.length)≤120 * 240:=Nat.mul_le_mul (by omega) (by omega);rw [List.length_append] at h3;rw [List.length_take,List.length_drop] at h2;omega
    obtain ⟨m,hmj⟩:∃ m,k+1+j=m:=⟨_,rfl⟩
    rw [hmj];have HM:=Lib.hid hmj;rw [hmj] at hj;clear hmj;have q0:=b0.cell 0 rfl;have q1:=b0.cell 1 rfl;have q2:=b0.cell 2 rfl;by_cases hlt2:m < es.length
    ·obtain ⟨B,off,e',rfl, -,hbh,he',e0,e1c,e2c⟩:=(hr.mid hm oZl).ed hlt
     rw [HE.out] at he';injection he' with he'
     subst he';obtain ⟨B',off',f,hX, -,hbh2,hf,f0,f1,f2⟩:=(hr.mid hm oZl).ed hlt2;injection hX with hX
     injection hX with hX1 hX2
     subst hX1 hX2;have HF:=Lib.hid (flat_take (e:=e) (show (es.drop (k+1))[j]?=some f by rw [List.getElem?_drop,HM.out];exact hf));have hj0:(0:Int)≤(m:Int):=by omega
     have hjn:(m:Int) < (es.length:Int):=by omega
     have zb:B < wr.heap.size:=Nat.lt_of_lt_of_le hbh (hr.mid hm oZl).1;have h0r:w.heap.size < wr.heap.size:=b0.1;have hal:=(Mid.alloc wr (.cells #[.int .i64 e.a,.int .i64 e.l,.int .i64 e.b] 68)).trans (Mid.alloc (wr.alloc (.cells #[.int .i64 e.a,.int .i64 e.l,.int .i64 e.b] 68)) (.cells #[.int .i64 f.a,.int .i64 f.l,.int .i64 f.b] 68));have ZE:=(Box.new wr #[.int .i64 e.a,.int .i64 e.l,.int .i64 e.b] 68).mid (Mid.alloc (wr.alloc (.cells #[.int .i64 e.a,.int .i64 e.l,.int .i64 e.b] 68)) (.cells #[.int .i64 f.a,.int .i64 f.l,.int .i64 f.b] 68)) oZr;have ZF:=Box.new (wr.alloc (.cells #[.int .i64 e.a,.int .i64 e.l,.int .i64 e.b] 68)) #[.int .i64 f.a,.int .i64 f.l,.int .i64 f.b] 68;rw [World.size_alloc] at ZF;have HNE:=Lib.hid (show Value.ownBlock (.slice A2 n2 c2)≠some wr.heap.size from fun h=>by have:=(hown.lt _ h).2;omega);have HFE:=Lib.hid (show Value.ownBlock (.slice A2 n2 c2)≠some (wr.heap.size+1) from fun h=>by have:=(hown.lt _ h).2;omega);have hB0:=Lib.hid (fun (g:Nat) (h:Value.ownBlock (.slice A2 n2 c2)=some g)=>(hown.lt g h).1);replace b0:=b0.mid hal oZr;replace hown:=owns_mid hown hal oZl;replace hm:=hm.trans hal;have HW:=Lib.hid hown;have hszA:w.heap.size+1≤((wr.alloc (.cells #[.int .i64 e.a,.int .i64 e.l,.int .i64 e.b] 68)).alloc (.cells #[.int .i64 f.a,.int .i64 f.l,.int .i64 f.b] 68)).heap.size:=by simp;omega
     clear hf hown hal;by_cases e1:e.l=f.l
     ·have d1:(e.l == f.l)=true:=by simpa using e1
      by_cases e2:e.a=f.a
      ·have d2:(e.a == f.a)=true:=by simpa using e2
       by_cases e3:e.b=f.b
       ·have d3:(e.b == f.b)=true:=by simpa using e3
        have hAB:foldsAB e f=[(min e.b f.b,max e.b f.b),(min e.a f.a,max e.a f.a)]:=by simp [foldsAB,e1,e2,e3]
        have HAB:Hid (foldsUp es k++((es.drop (k+1)).take (j+1)).flatMap (foldsAB e)=(foldsUp es k++((es.drop (k+1)).take j).flatMap (foldsAB e))++[(min e.b f.b,max e.b f.b)]++[(min e.a f.a,max e.a f.a)]):=Lib.hid (by rw [HF.out,hAB];simp);clear e1 e2 e3 hAB;go_wp2_with (first | (at_builtin;refine wpList_pushF rfl _ _ rfl (w.heap.size+1) A2 n2 c2 _ rfl HW.out (min e.b f.b,max e.b f.b) (by rw [World.size_alloc,World.size_alloc];rfl) (by omega) hszA ?_;intro A8 c8 w8 ho8 hgr8 hat8;have ZE8:=ZE.grown hgr8 HNE.out;have ZF8:=ZF.grown hgr8 HFE.out;have g80:=ZE8.cell 0 rfl;have g81:=ZE8.cell 1 rfl;have g82:=ZE8.cell 2 rfl;have h80:=ZF8.cell 0 rfl;have h81:=ZF8.cell 1 rfl;have h82:=ZF8.cell 2 rfl;have HW8:=Lib.hid ho8;have hsz8:=Nat.le_trans hszA hgr8.size;clear ho8) | (at_builtin;refine wpList_pushF rfl _ _ rfl (w.heap.size+1) A8 (n2+1) c8 _ rfl HW8.out (min e.a f.a,max e.a f.a) rfl (by omega) hsz8 ?_;intro A9 c9 w9 ho9 hgr9 hat9))
        have hm8:=Mid.of_grownRow HW.out hgr8;have hm9:=Mid.of_grownRow HW8.out hgr9;have HB8:=Lib.hid (fun (g:Nat) (h:Value.ownBlock (.slice A8 (n2+1) c8)=some g)=>(HW8.out.lt g h).1);clear hat9 hat8;go_roundw
        case rel=>exact ⟨j+1,A9,n2+1+1,c9,by have:=HM.out;omega,by have:=HM.out;go_num,rfl,Lib.hid (by rw [HAB.out,List.length_append,List.length_append,HN.out];rfl),by rw [HAB.out];exact ho9,(b0.grown hgr8 (fun h=>by have:=hB0.out _ h;omega)).grown hgr9 (fun h=>by have:=HB8.out _ h;omega),(hm.transNew hm8 (Or.inl (Nat.le_succ _))).transNew hm9 (Or.inl (Nat.le_succ _))⟩
        case measure=>have:=HM.out;simp [intOf];omega
       ·have d3:(e.b == f.b)=false:=by simpa only [beq_eq_false_iff_ne] using e3
        have hAB:foldsAB e f=[(min e.b f.b,max e.b f.b)]:=by simp [foldsAB,e1,e2,e3]
        have HAB:Hid (foldsUp es k++((es.drop (k+1)).take (j+1)).flatMap (foldsAB e)=(foldsUp es k++((es.drop (k+1)).take j).flatMap (foldsAB e))++[(min e.b f.b,max e.b f.b)]):=Lib.hid (by rw [HF.out,hAB,List.append_assoc]);clear e1 e2 e3 hAB;go_wp2_with (at_builtin;refine wpList_pushF rfl _ _ rfl (w.heap.size+1) A2 n2 c2 _ rfl HW.out (min e.b f.b,max e.b f.b) (by rw [World.size_alloc,World.size_alloc];rfl) (by omega) hszA ?_;intro A9 c9 w9 ho9 hgr9 hat9;have ZE8:=ZE.grown hgr9 HNE.out;have ZF8:=ZF.grown hgr9 HFE.out;have g80:=ZE8.cell 0 rfl;have g81:=ZE8.cell 1 rfl;have g82:=ZE8.cell 2 rfl;have h80:=ZF8.cell 0 rfl;have h81:=ZF8.cell 1 rfl;have h82:=ZF8.cell 2 rfl)
        have hm9:=Mid.of_grownRow HW.out hgr9;clear hat9;go_roundw
        case rel=>exact ⟨j+1,A9,n2+1,c9,by have:=HM.out;omega,by have:=HM.out;go_num,rfl,Lib.hid (by rw [HAB.out,List.length_append,HN.out];rfl),by rw [HAB.out];exact ho9,b0.grown hgr9 (fun h=>by have:=hB0.out _ h;omega),hm.transNew hm9 (Or.inl (Nat.le_succ _))⟩
        case measure=>have:=HM.out;simp [intOf];omega
      ·have d2:(e.a == f.a)=false:=by simpa only [beq_eq_false_iff_ne] using e2
       by_cases e3:e.b=f.b
       ·have d3:(e.b == f.b)=true:=by simpa using e3
        have hAB:foldsAB e f=[(min e.a f.a,max e.a f.a)]:=by simp [foldsAB,e1,e2,e3]
        have HAB:Hid (foldsUp es k++((es.drop (k+1)).take (j+1)).flatMap (foldsAB e)=(foldsUp es k++((es.drop (k+1)).take j).flatMap (foldsAB e))++[(min e.a f.a,max e.a f.a)]):=Lib.hid (by rw [HF.out,hAB,List.append_assoc]);clear e1 e2 e3 hAB;go_wp2_with (at_builtin;refine wpList_pushF rfl _ _ rfl (w.heap.size+1) A2 n2 c2 _ rfl HW.out (min e.a f.a,max e.a f.a) (by rw [World.size_alloc,World.size_alloc];rfl) (by omega) hszA ?_;intro A9 c9 w9 ho9 hgr9 hat9;have ZE8:=ZE.grown hgr9 HNE.out;have ZF8:=ZF.grown hgr9 HFE.out;have g80:=ZE8.cell 0 rfl;have g81:=ZE8.cell 1 rfl;have g82:=ZE8.cell 2 rfl;have h80:=ZF8.cell 0 rfl;have h81:=ZF8.cell 1 rfl;have h82:=ZF8.cell 2 rfl)
        have hm9:=Mid.of_grownRow HW.out hgr9;clear hat9;go_roundw
        case rel=>exact ⟨j+1,A9,n2+1,c9,by have:=HM.out;omega,by have:=HM.out;go_num,rfl,Lib.hid (by rw [HAB.out,List.length_append,HN.out];rfl),by rw [HAB.out];exact ho9,b0.grown hgr9 (fun h=>by have:=hB0.out _ h;omega),hm.transNew hm9 (Or.inl (Nat.le_succ _))⟩
        case measure=>have:=HM.out;simp [intOf];omega
       ·have d3:(e.b == f.b)=false:=by simpa only [beq_eq_false_iff_ne] using e3
        have hAB:foldsAB e f=[]:=by simp [foldsAB,e1,e2,e3]
        have HAB:Hid (((es.drop (k+1)).take (j+1)).flatMap (foldsAB e)=((es.drop (k+1)).take j).flatMap (foldsAB e)):=Lib.hid (by rw [HF.out,hAB,List.append_nil]);clear e1 e2 e3 hAB;go_wp2_with fail;go_roundw
        case rel=>exact ⟨j+1,A2,n2,c2,by have:=HM.out;omega,by have:=HM.out;go_num,rfl,by rw [HAB.out];exact HN,by rw [HAB.out];exact HW.out,b0,hm⟩
        case measure=>have:=HM.out;simp [intOf];omega
     ·have d1:(e.l == f.l)=false:=by simpa only [beq_eq_false_iff_ne] using e1
      have hAB:foldsAB e f=[]:=by unfold foldsAB;rw [if_neg e1]
      have HAB:Hid (((es.drop (k+1)).take (j+1)).flatMap (foldsAB e)=((es.drop (k+1)).take j).flatMap (foldsAB e)):=Lib.hid (by rw [HF.out,hAB,List.append_nil]);clear e1 hAB;go_wp2_with fail;go_roundw
      case rel=>exact ⟨j+1,A2,n2,c2,by have:=HM.out;omega,by have:=HM.out;go_num,rfl,by rw [HAB.out];exact HN,by rw [HAB.out];exact HW.out,b0,hm⟩
      case measure=>have:=HM.out;simp [intOf];omega
    ·have hje:j=es.length - (k+1):=by have:=HM.out;omega
     subst hje;rw [List.take_of_length_le (by rw [List.length_drop];exact Nat.le_refl _),← foldsUp_succ HE.out] at HN hown;obtain rfl:m=es.length:=by omega
     go_wp2_with fail;go_roundw
     case rel=>exact ⟨k+1,A2,n2,c2,by omega,by go_num,rfl,HN,hown,b0,hm⟩
     case measure=>simp [intOf];omega
  ·obtain rfl:k=es.length:=by omega
   rw [foldsUp_all] at HN hown;go_wp2_with fail;go_ret;have hn:=HN.out;subst hn;exact ⟨A1,c1,rfl,(owns_rv hown).wide (Nat.zero_le _) (Nat.le_refl _) (Nat.le_refl _),hm⟩
end
section
open Go.RowKit
theorem spec_FirstFold (r s:Int) (A:Option Addr) (es:List Ed) (c:Nat) (w:World) (lo hi:Nat) (hr:RG w lo hi A es) (hg:IsGr r s es) (p:Int × Int) (b:Bool) (hp:FirstIs es p b) :
  Calls Tryz.prog 230 #[graV r s A es.length c] w fun e w'=>e=.returned (.tuple #[.agg #[.int .i64 p.1,.int .i64 p.2],.bool b])∧Mid 0 0 w w':=by
 have hl:=hg.len;have HG:=Lib.hid hg;have hm0:Mid 0 0 w ((w.alloc (.cells #[.int .i64 r,.int .i64 s,.slice A es.length c] 26)).alloc (.cells #[.int .i64 0,.int .i64 0] 130)):=(Mid.alloc _ _).trans (Mid.alloc _ _);have b0:=(Box.new w #[.int .i64 r,.int .i64 s,.slice A es.length c] 26).mid (Mid.alloc _ (.cells #[.int .i64 0,.int .i64 0] 130)) oZr;have b2:=Box.new (w.alloc (.cells #[.int .i64 r,.int .i64 s,.slice A es.length c] 26)) #[.int .i64 0,.int .i64 0] 130;rw [World.size_alloc] at b2;clear hg;obtain ⟨p1,p2⟩:=p;go_enter Tryz.func230,Tryz.ntmps230
 go_wp2_with fail;with_reducible refine (spec_IsGraph r s A es c _ _ _ (hr.mid hm0 oZl).rv (by omega) true (iff_of_true rfl HG.out)).mono ?_
 rintro en w1 ⟨rfl,hm1⟩;replace b0:=b0.mid hm1 oZr;replace b2:=b2.mid hm1 oZr;replace hm0:=hm0.trans hm1;have q0:=b0.cell 0 rfl;have q1:=b0.cell 1 rfl;have q2:=b0.cell 2 rfl;go_wp2_with fail;with_reducible refine (spec_l7Folds r s A es c _ _ _ (hr.mid hm0 oZl) hl).mono ?_
 rintro en w2 ⟨A2,c2,rfl,hrv,hm2⟩;replace b2:=b2.mid hm2 oZr;replace hm0:=hm0.trans hm2;have zf:=b2.2.2;have z0:=b2.cell 0 rfl;have z1:=b2.cell 1 rfl;clear q0 q1 q2 hm1 hm2;rcases hp with ⟨rfl,hn,hpp⟩ | ⟨rfl,t,ht⟩
 ·injection hpp with h1 h2
  subst h1 h2;have hn0:(folds es).length=0:=by rw [hn];rfl
  clear hn;go_wp2_with fail;refine bodyPost_ret (v:=.tuple #[.agg #[.int .i64 0,.int .i64 0],.bool false]) (by simp [results,Tryz.results230,go_sem,z0,z1,zf]) rfl ⟨rfl,?_⟩;repeat (first | exact hm0 | refine Mid.storeNew ?_ (by simp;try omega) _)
 ·obtain ⟨nl,hnl⟩:∃ nl,(folds es).length=nl+1:=⟨t.length,by rw [ht];rfl⟩
  obtain ⟨g,off,rfl, -, -,hc⟩:=hrv.2 (by rw [ht];simp [fdI_head,ints]);have y0:=hc 0 (.int .i64 p1) (by rw [ht];simp [fdI_head,ints]);have y1:=hc 1 (.int .i64 p2) (by rw [ht];simp [fdI_head,ints]);rw [Nat.add_zero] at y0;have hd:((nl+1:Nat) == 0)=false:=by simp
  rw [hnl];have h1:(0:Int) < ((nl+1:Nat):Int):=by omega
  clear hc ht hrv hnl;go_wp2_with fail;refine bodyPost_ret (v:=.tuple #[.agg #[.int .i64 p1,.int .i64 p2],.bool true]) (by simp [results,Tryz.results230,go_sem,z0,z1,zf]) rfl ⟨rfl,?_⟩;repeat (first | exact hm0 | refine Mid.storeNew ?_ (by simp;try omega) _)
end
end Go.Proofs.YthampgpcajmopaaGreat
