/- Contracts and lemmas of this seat, many texts in one: see the words ahead of each. No condition beyond those typed in each lemma. -/
import Derived.Test.YtkimajabegojoaaGreatNi1
import Derived.Deep.Matrix
import Derived.Lib.SmallJoins
import Derived.ProofKit
import Derived.OpenShut
import Derived.ShutString
import Derived.ChangeOld
import Derived.Deep.RegionHeld3
import Derived.Laws.StructEq
import Derived.Lib.OwnBridge
import Derived.BigQuiet
import Derived.Deep.DrawnRows
import Derived.StillTail

namespace Go.Proofs.YtkimajabegojoaaGreat
set_option linter.unusedVariables false
set_option linter.unusedSimpArgs false
set_option maxHeartbeats 40000000
set_option maxRecDepth 100000
section
open Go.RowKit
def UpTo (r s:Int) (es:List Ed) (k:Nat):Prop:=∀ j e,j < k→es[j]?=some e→edB r s e=true∧∀ f,0 < j→es[j - 1]?=some f→cmpE f e < 0
theorem UpTo.zero (r s:Int) (es:List Ed):UpTo r s es 0:=fun j e h=>absurd h (Nat.not_lt_zero _)
theorem UpTo.succ {r s:Int} {es:List Ed} {k:Nat} {e:Ed} (h:UpTo r s es k) (he:es[k]?=some e) (h1:edB r s e=true) (h2:∀ f,0 < k→es[k - 1]?=some f→cmpE f e < 0):UpTo r s es (k+1):=by
 intro j e' hj he';rcases Nat.lt_succ_iff_lt_or_eq.1 hj with h3 | rfl
 ·exact h j e' h3 he'
 ·rw [he] at he'
  injection he' with he'
  subst he';exact ⟨h1,h2⟩
abbrev graV (r s:Int) (A:Option Addr) (n c:Nat):Value:=.agg #[.int .i64 r,.int .i64 s,.slice A n c]
theorem edB_iff {r s:Int} {e:Ed} (h1:1≤s) (h2:s≤40):edB r s e=true↔InG r s e:=by
 unfold edB InG inB;rw [IntWalk.wrap64_in (s - 1) (by omega)];simp;omega
theorem asc_at {es:List Ed}:Asc es↔∀ (j:Nat) (e f:Ed),0 < j→es[j - 1]?=some f→es[j]?=some e→LtE f e:=by
 constructor
 ·intro h j e f hj hf he
  obtain ⟨h1,h1'⟩:=List.getElem?_eq_some_iff.1 hf;obtain ⟨h2,h2'⟩:=List.getElem?_eq_some_iff.1 he;have:=List.pairwise_iff_getElem.1 h (j - 1) j h1 h2 (by omega);rw [h1',h2'] at this;exact this
 ·intro h
  refine List.pairwise_iff_getElem.2 fun i j hi hj hij=>?_;obtain ⟨d,rfl⟩:∃ d,j=i+1+d:=⟨j - i - 1,by omega⟩
  clear hij
  induction d with
  | zero=>exact h (i+1) _ _ (by omega) (by rw [Nat.add_sub_cancel];exact List.getElem?_eq_getElem hi) (List.getElem?_eq_getElem hj)
  | succ d ih=>exact (ih (by omega)).trans (h (i+1+(d+1)) _ _ (by omega) (List.getElem?_eq_getElem (by omega)) (List.getElem?_eq_getElem hj))
theorem upTo_all {r s:Int} {es:List Ed} (h1:1≤s) (h2:s≤40):UpTo r s es es.length↔(∀ e∈es,InG r s e)∧Asc es:=by
 constructor
 ·intro h
  refine ⟨fun e he=>?_,asc_at.2 fun j e f hj hf he=>?_⟩
  ·obtain ⟨j,hj⟩:=List.mem_iff_getElem?.1 he
   exact (edB_iff h1 h2).1 (h j e (List.getElem?_eq_some_iff.1 hj).1 hj).1
  ·exact cmpE_neg.1 ((h j e (List.getElem?_eq_some_iff.1 he).1 he).2 f hj hf)
 ·rintro ⟨h3,h4⟩ j e hj he
  exact ⟨(edB_iff h1 h2).2 (h3 e (List.mem_of_getElem? he)),fun f h0 hf=>cmpE_neg.2 (asc_at.1 h4 j e f h0 hf he)⟩
structure GrT (r s:Int) (es:List Ed):Prop where
 rank:inB r 1 3=true
 size:inB s 1 40=true
 len:es.length≤120
 up:UpTo r s es es.length
theorem grT_iff {r s:Int} {es:List Ed}:GrT r s es↔IsGr r s es:=by
 constructor
 ·rintro ⟨h1,h2,h3,h4⟩
  have h1:1≤r∧r≤3:=by simpa [inB] using h1
  have h2:1≤s∧s≤40:=by simpa [inB] using h2
  obtain ⟨h5,h6⟩:=(upTo_all h2.1 h2.2).1 h4;exact ⟨h1,h2,h3,h5,h6⟩
 ·rintro ⟨h1,h2,h3,h4,h5⟩
  exact ⟨by simpa [inB] using h1,by simpa [inB] using h2,h3,(upTo_all h2.1 h2.2).2 ⟨h4,h5⟩⟩
theorem within_at {x lo hi:Int} {b:Bool} (h:inB x lo hi=b) (W:World):Calls Tryz.prog 108 #[.int .i64 x,.int .i64 lo,.int .i64 hi] W fun e w'=>e=.returned (.bool b)∧W=w':=h ▸ within_any x lo hi W
theorem l1In_at {x lo hi:Int} {b:Bool} (h:inB x lo hi=b) (W:World):Calls Tryz.prog 102 #[.int .i64 x,.int .i64 lo,.int .i64 hi] W fun e w'=>e=.returned (.bool b)∧W=w':=h ▸ l1In_any x lo hi W
theorem impl_IsGraph (r s:Int) (A:Option Addr) (es:List Ed) (c:Nat) (w:World) (lo hi:Nat) (hr:RV w lo hi A (ints (edI es))) (hl:es.length≤1048576) (b:Bool) (hb:b=true↔IsGr r s es) :
  Calls Tryz.prog 144 #[graV r s A es.length c] w fun e w'=>e=.returned (.bool b)∧Mid 0 0 w w':=by
 have HB:=Lib.hid (hb.trans grT_iff.symm);clear hb;have bx0:=Box.new w #[.int .i64 r,.int .i64 s,.slice A es.length c] 35;have hm0:=Mid.alloc w (.cells #[.int .i64 r,.int .i64 s,.slice A es.length c] 35);cases h1:inB r 1 3 with
 | false =>
  obtain rfl:b=false:=by cases b with | false=>rfl | true=>have:=(HB.out.1 rfl).rank;rw [h1] at this;cases this
  clear HB;go_enter Tryz.func144,Tryz.ntmps144
  go_wp2_with fail;with_reducible refine (within_at h1 _).mono ?_
  rintro en w1 ⟨rfl,rfl⟩;go_wp2_with fail;go_ret;exact ⟨rfl,hm0⟩
 | true =>
 have H1:=Lib.hid h1;go_enter Tryz.func144,Tryz.ntmps144
 go_wp2_with fail;with_reducible refine (within_at h1 _).mono ?_
 rintro en w1 ⟨rfl,rfl⟩;clear h1;cases h2:inB s 1 40 with
 | false =>
  obtain rfl:b=false:=by cases b with | false=>rfl | true=>have:=(HB.out.1 rfl).size;rw [h2] at this;cases this
  clear HB;go_wp2_with fail;with_reducible refine (within_at h2 _).mono ?_
  rintro en w1 ⟨rfl,rfl⟩;go_wp2_with fail;go_ret;exact ⟨rfl,hm0⟩
 | true =>
 have H2:=Lib.hid h2;go_wp2_with fail;with_reducible refine (within_at h2 _).mono ?_
 rintro en w1 ⟨rfl,rfl⟩;clear h2;by_cases h3:120 < es.length
 ·obtain rfl:b=false:=by cases b with | false=>rfl | true=>have:=(HB.out.1 rfl).len;omega
  clear HB;go_wp2_with fail;go_ret;exact ⟨rfl,hm0⟩
 have HL:=Lib.hid (show es.length≤120 by omega);go_wp2_with fail;go_loopw [2,24] (fun _ i wr=>∃ k:Nat,k≤es.length∧i=.int .i64 k∧Box wr w.heap.size [.int .i64 r,.int .i64 s,.slice A es.length c]∧UpTo r s es k∧Mid 0 0 w wr) (fun _ i _=>es.length - (intOf i).toNat)
 case atStart=>exact ⟨0,Nat.zero_le _,rfl,bx0,UpTo.zero _ _ _,hm0⟩
 case round =>
  obtain ⟨k,hk,rfl,bx,hup,hm⟩:=hrel;by_cases hlt:k < es.length
  ·obtain ⟨B,off,e,rfl, -,hbh,he,c0,c1,c2⟩:=(hr.mid hm oZl).ed hlt
   have hk0:(0:Int)≤(k:Int):=by omega
   have hkn:(k:Int) < (es.length:Int):=by omega
   have HUP:=Lib.hid hup;have HEK:=Lib.hid he;have hal:=Mid.alloc wr (.cells #[.int .i64 e.a,.int .i64 e.l,.int .i64 e.b] 110);have by1:=bx.mid hal oZr;have by2:=Box.new wr #[.int .i64 e.a,.int .i64 e.l,.int .i64 e.b] 110;have hrm:=(hr.mid hm oZl).mid hal oZl;have zp:=Nat.lt_of_lt_of_le hbh hrm.1;have g0:=wg_cell by1.1 (by1.cell 0 rfl);have g1:=wg_cell by1.1 (by1.cell 1 rfl);have g2:=wg_cell by1.1 (by1.cell 2 rfl);have e0:=wg_cell by2.1 (by2.cell 0 rfl);have e1:=wg_cell by2.1 (by2.cell 1 rfl);have e2:=wg_cell by2.1 (by2.cell 2 rfl);cases hA0:edB r s e with
   | false =>
    obtain rfl:b=false:=by cases b with | false=>rfl | true=>have:=((HB.out.1 rfl).up k e hlt he).1;rw [hA0] at this;cases this
    have hA:=fun W=>impl_accepts r s (some ⟨B,off,none⟩) es.length c e W;rw [hA0] at hA;clear hup he hA0;go_wp2_with fail;refine wp_region_quiet_wg (by kernel_rfl) (by kernel_rfl) ?_;repeat
     (with_reducible refine wpQuiet_step (fun K hK=>?_))
     go_simp
     first
      | ((with_reducible refine hK _ ?_);clear hK K)
      | (rw [if_neg (by decide)];(with_reducible refine hK _ ?_);clear hK K)
      | (apply Exists.intro;refine ⟨fun _=>?_,hK _ ?_⟩;((go_at_call 215;exact Calls.wg_of (hA _)));clear hK K)
    with_reducible refine wpQuiet_nil ?_
    intro _ hw';obtain ⟨⟨nq,osq⟩,hw''⟩:=hw';subst hw'';go_wp2_with fail;go_ret;exact ⟨rfl,(hm.trans hal).trans (Mid.ofWg _ _ _)⟩
   | true =>
    have hA:=fun W=>impl_accepts r s (some ⟨B,off,none⟩) es.length c e W;rw [hA0] at hA;have HA0:=Lib.hid hA0;by_cases hkz:k=0
    ·have hkz2:decide ((0:Int) < (k:Int))=false:=by simp;omega
     have hkz3:(0 < k)=False:=eq_false (by omega);have HKZ:=Lib.hid hkz;clear hup he hA0 hkz;go_wp2_with fail;refine wp_region_quiet_wg (by kernel_rfl) (by kernel_rfl) ?_;repeat
      (with_reducible refine wpQuiet_step (fun K hK=>?_))
      go_simp
      first
       | ((with_reducible refine hK _ ?_);clear hK K)
       | (rw [if_neg (by decide)];(with_reducible refine hK _ ?_);clear hK K)
       | (apply Exists.intro;refine ⟨fun _=>?_,hK _ ?_⟩;((go_at_call 215;exact Calls.wg_of (hA _)));clear hK K)
     with_reducible refine wpQuiet_nil ?_
     intro _ hw';obtain ⟨⟨nq,osq⟩,hw''⟩:=hw';subst hw'';go_wp2_with fail;go_roundw
     case rel=>exact ⟨k+1,by omega,by go_num,by1.mid (Mid.ofWg _ _ _) oZr,HUP.out.succ HEK.out HA0.out (fun f h=>absurd h (by have:=HKZ.out;omega)),(hm.trans hal).trans (Mid.ofWg _ _ _)⟩
     case measure=>simp [intOf];omega
    ·obtain ⟨m,hm1⟩:∃ m,k=m+1:=⟨k - 1,by omega⟩
     obtain ⟨B',off',f,hA1, -, -,hf,p0,p1,p2⟩:=hrm.ed (show m < es.length by omega);injection hA1 with hA1
     injection hA1 with hA2 hA3
     subst hA2;subst hA3;have hkm:(k:Int) - 1=(m:Int):=by omega
     have hkp:(0:Int) < (k:Int):=by omega
     have hkp3:0 < k:=by omega
     have hwm:IntKind.i64.wrap (m:Int)=(m:Int):=IntWalk.i64_in _ (by omega);have hm0':(0:Int)≤(m:Int):=by omega
     have hmn:(m:Int) < (es.length:Int):=by omega
     have p0:=wg_cell zp p0;have p1:=wg_cell zp p1;have p2:=wg_cell zp p2;obtain ⟨v,hv⟩:∃ v,cmpE f e=v:=⟨_,rfl⟩
     have hQ:=fun W=>impl_CompareEdges f e W;rw [hv] at hQ;have HF:=Lib.hid hf;have HKM:=Lib.hid hm1;by_cases hv0:0≤v
     ·obtain rfl:b=false:=by
       cases b with
       | false=>rfl
       | true =>
        have:=((HB.out.1 rfl).up k e hlt he).2 f (by omega) (by rw [hm1];exact hf);omega
      clear hup he hA0 hf hm1 hv;go_wp2_with fail;refine wp_region_quiet_wg (by kernel_rfl) (by kernel_rfl) ?_;repeat
       (with_reducible refine wpQuiet_step (fun K hK=>?_))
       go_simp
       first
        | ((with_reducible refine hK _ ?_);clear hK K)
        | (rw [if_neg (by decide)];(with_reducible refine hK _ ?_);clear hK K)
        | (apply Exists.intro;refine ⟨fun _=>?_,hK _ ?_⟩;((first | (go_at_call 215;exact Calls.wg_of (hA _)) | (go_at_call 204;exact Calls.wg_of (hQ _))));clear hK K)
      with_reducible refine wpQuiet_nil ?_
      intro _ hw';obtain ⟨⟨nq,osq⟩,hw''⟩:=hw';subst hw'';go_wp2_with fail;go_ret;exact ⟨rfl,(hm.trans hal).trans (Mid.ofWg _ _ _)⟩
     ·have HV:=Lib.hid (show cmpE f e < 0 by omega)
      clear hup he hA0 hf hm1 hv;go_wp2_with fail;refine wp_region_quiet_wg (by kernel_rfl) (by kernel_rfl) ?_;repeat
       (with_reducible refine wpQuiet_step (fun K hK=>?_))
       go_simp
       first
        | ((with_reducible refine hK _ ?_);clear hK K)
        | (rw [if_neg (by decide)];(with_reducible refine hK _ ?_);clear hK K)
        | (apply Exists.intro;refine ⟨fun _=>?_,hK _ ?_⟩;((first | (go_at_call 215;exact Calls.wg_of (hA _)) | (go_at_call 204;exact Calls.wg_of (hQ _))));clear hK K)
      with_reducible refine wpQuiet_nil ?_
      intro _ hw';obtain ⟨⟨nq,osq⟩,hw''⟩:=hw';subst hw'';go_wp2_with fail;go_roundw
      case rel =>
       refine ⟨k+1,by omega,by go_num,by1.mid (Mid.ofWg _ _ _) oZr,HUP.out.succ HEK.out HA0.out (fun f' h h'=>?_),(hm.trans hal).trans (Mid.ofWg _ _ _)⟩;rw [HKM.out,Nat.add_sub_cancel,HF.out] at h';injection h' with h'
       subst h';exact HV.out
      case measure=>simp [intOf];omega
  ·obtain rfl:k=es.length:=by omega
   obtain rfl:b=true:=HB.out.2 ⟨H1.out,H2.out,HL.out,hup⟩;go_wp2_with fail;go_ret;exact ⟨rfl,hm⟩
end
section
open Go.RowKit
theorem spec_IsGraph (r s:Int) (A:Option Addr) (es:List Ed) (c:Nat) (w:World) (lo hi:Nat) (hr:RV w lo hi A (ints (edI es))) (hl:es.length≤1048576) (b:Bool) (hb:b=true↔IsGr r s es) :
  Calls Tryz.prog 199 #[graV r s A es.length c] w fun e w'=>e=.returned (.bool b)∧Mid 0 0 w w':=by
 have HB:=Lib.hid (hb.trans grT_iff.symm);clear hb;have bx0:=Box.new w #[.int .i64 r,.int .i64 s,.slice A es.length c] 35;have hm0:=Mid.alloc w (.cells #[.int .i64 r,.int .i64 s,.slice A es.length c] 35);go_enter Tryz.func199,Tryz.ntmps199
 go_wp2_with fail;go_loopw [2,3] (fun _ i wr=>∃ k:Nat,k≤es.length∧i=.int .i64 k∧Box wr w.heap.size [.int .i64 r,.int .i64 s,.slice A es.length c]∧UpTo r s es k∧Mid 0 0 w wr) (fun _ i _=>es.length - (intOf i).toNat)
 case atStart=>exact ⟨0,Nat.zero_le _,rfl,bx0,UpTo.zero _ _ _,hm0⟩
 case round =>
  obtain ⟨k,hk,rfl,bx,hup,hm⟩:=hrel;have G0:=bx.cell 0 rfl;have G1:=bx.cell 1 rfl;have G2:=bx.cell 2 rfl;by_cases hlt:k < es.length
  ·have hrm:=hr.mid hm oZl
   obtain ⟨B,off,e,rfl, -,hbh,he,e0,e1,e2⟩:=hrm.ed hlt;have hk0:(0:Int)≤(k:Int):=by omega
   have hkn:(k:Int) < (es.length:Int):=by omega
   have HUP:=Lib.hid hup;have HEK:=Lib.hid he;have zp:=Nat.lt_of_lt_of_le hbh hrm.1;have g0:=wg_cell bx.1 G0;have g1:=wg_cell bx.1 G1;have g2:=wg_cell bx.1 G2;have e0:=wg_cell zp e0;have e1:=wg_cell zp e1;have e2:=wg_cell zp e2;have hA:=fun W=>spec_l4Edge r s (some ⟨B,off,none⟩) es.length c e W;cases hA0:edB r s e with
   | false =>
    obtain rfl:b=false:=by cases b with | false=>rfl | true=>have:=((HB.out.1 rfl).up k e hlt he).1;rw [hA0] at this;cases this
    rw [hA0] at hA;clear hup he hA0;go_wp2_with fail;refine wp_region_quiet_wg (by kernel_rfl) (by kernel_rfl) ?_;repeat
     (with_reducible refine wpQuiet_step (fun K hK=>?_))
     go_simp
     first
      | ((with_reducible refine hK _ ?_);clear hK K)
      | (rw [if_neg (by decide)];(with_reducible refine hK _ ?_);clear hK K)
      | (apply Exists.intro;refine ⟨fun _=>?_,hK _ ?_⟩;((go_at_call 246;exact Calls.wg_of (hA _)));clear hK K)
    with_reducible refine wpQuiet_nil ?_
    intro _ hw';obtain ⟨⟨nq,osq⟩,hw''⟩:=hw';subst hw'';go_wp2_with fail;go_ret;exact ⟨rfl,hm.trans (Mid.ofWg _ _ _)⟩
   | true =>
    rw [hA0] at hA;have HA0:=Lib.hid hA0;by_cases hkz:k=0
    ·have hkz2:decide ((0:Int) < (k:Int))=false:=by simp;omega
     have hkz3:(0 < k)=False:=eq_false (by omega);have HKZ:=Lib.hid hkz;clear hup he hA0 hkz;go_wp2_with fail;refine wp_region_quiet_wg (by kernel_rfl) (by kernel_rfl) ?_;repeat
      (with_reducible refine wpQuiet_step (fun K hK=>?_))
      go_simp
      first
       | ((with_reducible refine hK _ ?_);clear hK K)
       | (rw [if_neg (by decide)];(with_reducible refine hK _ ?_);clear hK K)
       | (apply Exists.intro;refine ⟨fun _=>?_,hK _ ?_⟩;((go_at_call 246;exact Calls.wg_of (hA _)));clear hK K)
     with_reducible refine wpQuiet_nil ?_
     intro _ hw';obtain ⟨⟨nq,osq⟩,hw''⟩:=hw';subst hw'';go_wp2_with fail;go_roundw
     case rel=>exact ⟨k+1,by omega,by go_num,bx.mid (Mid.ofWg _ _ _) oZr,HUP.out.succ HEK.out HA0.out (fun f h=>absurd h (by have:=HKZ.out;omega)),hm.trans (Mid.ofWg _ _ _)⟩
     case measure=>simp [intOf];omega
    ·obtain ⟨m,hm1⟩:∃ m,k=m+1:=⟨k - 1,by omega⟩
     obtain ⟨B',off',f,hA1, -, -,hf,p0,p1,p2⟩:=hrm.ed (show m < es.length by omega);injection hA1 with hA1
     injection hA1 with hA2 hA3
     subst hA2;subst hA3;have hkm:(k:Int) - 1=(m:Int):=by omega
     have hkp:(0:Int) < (k:Int):=by omega
     have hkp3:0 < k:=by omega
     have hwm:IntKind.i64.wrap (m:Int)=(m:Int):=IntWalk.i64_in _ (by omega);have hm0':(0:Int)≤(m:Int):=by omega
     have hmn:(m:Int) < (es.length:Int):=by omega
     have p0:=wg_cell zp p0;have p1:=wg_cell zp p1;have p2:=wg_cell zp p2;obtain ⟨v,hv⟩:∃ v,cmpE f e=v:=⟨_,rfl⟩
     have hQ:=fun W=>spec_CompareEdges f e W;rw [hv] at hQ;have HF:=Lib.hid hf;have HKM:=Lib.hid hm1;by_cases hv0:0≤v
     ·obtain rfl:b=false:=by
       cases b with
       | false=>rfl
       | true =>
        have:=((HB.out.1 rfl).up k e hlt he).2 f (by omega) (by rw [hm1];exact hf);omega
      clear hup he hA0 hf hm1 hv;go_wp2_with fail;refine wp_region_quiet_wg (by kernel_rfl) (by kernel_rfl) ?_;repeat
       (with_reducible refine wpQuiet_step (fun K hK=>?_))
       go_simp
       first
        | ((with_reducible refine hK _ ?_);clear hK K)
        | (rw [if_neg (by decide)];(with_reducible refine hK _ ?_);clear hK K)
        | (apply Exists.intro;refine ⟨fun _=>?_,hK _ ?_⟩;((first | (go_at_call 246;exact Calls.wg_of (hA _)) | (go_at_call 206;exact Calls.wg_of (hQ _))));clear hK K)
      with_reducible refine wpQuiet_nil ?_
      intro _ hw';obtain ⟨⟨nq,osq⟩,hw''⟩:=hw';subst hw'';go_wp2_with fail;go_ret;exact ⟨rfl,hm.trans (Mid.ofWg _ _ _)⟩
     ·have HV:=Lib.hid (show cmpE f e < 0 by omega)
      clear hup he hA0 hf hm1 hv;go_wp2_with fail;refine wp_region_quiet_wg (by kernel_rfl) (by kernel_rfl) ?_;repeat
       (with_reducible refine wpQuiet_step (fun K hK=>?_))
       go_simp
       first
        | ((with_reducible refine hK _ ?_);clear hK K)
        | (rw [if_neg (by decide)];(with_reducible refine hK _ ?_);clear hK K)
        | (apply Exists.intro;refine ⟨fun _=>?_,hK _ ?_⟩;((first | (go_at_call 246;exact Calls.wg_of (hA _)) | (go_at_call 206;exact Calls.wg_of (hQ _))));clear hK K)
      with_reducible refine wpQuiet_nil ?_
      intro _ hw';obtain ⟨⟨nq,osq⟩,hw''⟩:=hw';subst hw'';go_wp2_with fail;go_roundw
      case rel =>
       refine ⟨k+1,by omega,by go_num,bx.mid (Mid.ofWg _ _ _) oZr,HUP.out.succ HEK.out HA0.out (fun f' h h'=>?_),hm.trans (Mid.ofWg _ _ _)⟩;rw [HKM.out,Nat.add_sub_cancel,HF.out] at h';injection h' with h'
       subst h';exact HV.out
      case measure=>simp [intOf];omega
  ·obtain rfl:k=es.length:=by omega
   cases h1:inB r 1 3 with
   | false =>
    obtain rfl:b=false:=by cases b with | false=>rfl | true=>have:=(HB.out.1 rfl).rank;rw [h1] at this;cases this
    go_wp2_with fail;with_reducible refine (l1In_at h1 _).mono ?_
    rintro en w1 ⟨rfl,rfl⟩;go_wp2_with fail;go_ret;exact ⟨rfl,hm⟩
   | true =>
   go_wp2_with fail;with_reducible refine (l1In_at h1 _).mono ?_
   rintro en w1 ⟨rfl,rfl⟩;cases h2:inB s 1 40 with
   | false =>
    obtain rfl:b=false:=by cases b with | false=>rfl | true=>have:=(HB.out.1 rfl).size;rw [h2] at this;cases this
    go_wp2_with fail;with_reducible refine (l1In_at h2 _).mono ?_
    rintro en w1 ⟨rfl,rfl⟩;go_wp2_with fail;go_ret;exact ⟨rfl,hm⟩
   | true =>
   obtain rfl:b=decide (es.length≤120):=by
    rw [Bool.eq_iff_iff,HB.out,decide_eq_true_iff];exact ⟨fun h=>h.len,fun h=>⟨h1,h2,h,hup⟩⟩
   go_wp2_with fail;with_reducible refine (l1In_at h2 _).mono ?_
   rintro en w1 ⟨rfl,rfl⟩;go_wp2_with fail;go_ret;have hd:decide ((es.length:Int)≤120)=decide (es.length≤120):=decide_eq_decide.2 (by omega);refine ⟨?_,hm⟩
   first
    | rfl
    | exact congrArg (fun x=>Ending.returned (Value.bool x)) hd
end
section
open Go.RowKit
theorem Mid.stored {lo hi:Nat} {a w:World} {p:Addr} (h:Mid lo hi a w) (u:Value) (h1:lo≤p.block) (h2:p.block < hi):Mid lo hi a (w.setCell p u):=h.trans (Mid.setCell w u h1 h2)
structure Mor where
 rank:Int
 imgs:List (List Int)
end
section
open Go.ChangeShapes Go.WideShapes Go.ChangeAt Go.RowKit
open Go.Joins
section
variable {H:Type} {enc:TypeId × Value→H} {P:Program} {W:World} {T E:TypeId}
def OkSS (xss:List (List Int)):Prop:=(xss.length≤9223372036854775807∧∀ xs∈xss,xs.length≤9223372036854775807)∧∀ xs∈xss,OkI xs
end
end
section
open Go.RowKit
end
section
open Go.RowKit
theorem owns_setK {w:World} {base:Nat} {e:TypeId} {size g n cap:Nat} {xs ys:List Value} (h:w.ownsRow base e size (.slice (some ⟨g,0,none⟩) n cap) n xs) (j:Nat) (u:Value) (hy:xs.set j u=ys) :
  (w.setCell ⟨g,j,none⟩ u).ownsRow base e size (.slice (some ⟨g,0,none⟩) n cap) n ys:=by
 subst hy;exact (h.stored j u).1
end
section
open Go.RowKit
theorem infoE:(Tryz.prog.info? 110).map (fun i=>(i.zero,i.size,i.bytes))=some (some (.agg #[.int .i64 0,.int .i64 0,.int .i64 0]),3,24):=by kernel_rfl
theorem undSE:Tryz.prog.underlying 33=some (.slice 110):=by kernel_rfl
def RG (w:World) (lo hi:Nat) (A:Option Addr) (es:List Ed):Prop:=RV w lo hi A (ints (edI es))
def OG (w:World) (lo hi:Nat) (A:Option Addr) (c:Nat) (es:List Ed):Prop:=OV w lo hi 110 3 A c es.length (ints (edI es))
section
variable {w w':World} {lo hi a b:Nat} {A:Option Addr} {c:Nat} {es:List Ed}
theorem RG.rv (h:RG w lo hi A es):RV w lo hi A (ints (edI es)):=h
theorem RV.rg (h:RV w lo hi A (ints (edI es))):RG w lo hi A es:=h
theorem OG.ov (h:OG w lo hi A c es):OV w lo hi 110 3 A c es.length (ints (edI es)):=h
theorem RG.mid (h:RG w lo hi A es) (m:Mid a b w w') (hd:b≤lo ∨ hi≤a):RG w' lo hi A es:=RV.mid h m hd
theorem OG.mid (h:OG w lo hi A c es) (m:Mid a b w w') (hd:b≤lo ∨ hi≤a):OG w' lo hi A c es:=OV.mid h m hd
theorem OG.rg (h:OG w lo hi A c es):RG w lo hi A es:=OV.rv h
theorem OG.size (h:OG w lo hi A c es):hi≤w.heap.size:=h.1
theorem OG.wide {lo' hi':Nat} (h:OG w lo hi A c es) (h1:lo'≤lo) (h2:hi≤hi') (h3:hi'≤w.heap.size):OG w lo' hi' A c es:=OV.wide h h1 h2 h3
theorem RG.ed {k:Nat} (h:RG w lo hi A es) (hk:k < es.length) :
  ∃ b off e,A=some ⟨b,off,none⟩∧lo≤b∧b < hi∧es[k]?=some e∧w.cell? ⟨b,off+k * 3,none⟩=some (.int .i64 e.a)∧w.cell? ⟨b,off+k * 3+1,none⟩=some (.int .i64 e.l)∧w.cell? ⟨b,off+k * 3+2,none⟩=some (.int .i64 e.b):=RV.ed h hk
theorem OG.nil:OG w lo w.heap.size none 0 []:=⟨Nat.le_refl _,⟨rfl,.inl ⟨rfl,rfl⟩⟩,fun g hg=>by simp [Value.ownBlock] at hg⟩
theorem OG.mk' {v:Value} {n base:Nat} (h:w.ownsRow base 110 3 v n (ints (edI es))):∃ A c,v=.slice A es.length c∧n=es.length∧OG w base w.heap.size A c es:=by
 obtain ⟨A,c,rfl, -, -⟩:=owns_shape h;have hn:n=es.length:=by have:=h.1;rw [ints_len,edI_len] at this;omega
 subst hn;exact ⟨A,c,rfl,rfl,Nat.le_refl _,h,fun g hg=>(h.lt g hg).2⟩
end
theorem oneInts (xs:List Int):∀ u∈ints xs,u.oneCell'=true:=by
 intro u hu;obtain ⟨x, -,rfl⟩:=List.mem_map.1 hu
 rfl
theorem edI_fill (es:List Ed) {k:Nat} {e:Ed} (he:es[k]?=some e) (zs:List Value) (hz:zs.length=es.length * 3) :
  (((ints (edI (es.take k))++zs.drop (k * 3)).set (k * 3) (.int .i64 e.a)).set (k * 3+1) (.int .i64 e.l)).set (k * 3+2) (.int .i64 e.b)=ints (edI (es.take (k+1)))++zs.drop ((k+1) * 3):=by
 obtain ⟨hk,rfl⟩:=List.getElem?_eq_some_iff.1 he;have hl:(ints (edI (es.take k))).length=k * 3:=by rw [ints_len,edI_len,List.length_take,Nat.min_eq_left (by omega)]
 obtain ⟨z0,z1,z2,rest,hd⟩:∃ z0 z1 z2 rest,zs.drop (k * 3)=z0 :: z1 :: z2 :: rest:=by
  refine ⟨zs[k * 3],zs[k * 3+1],zs[k * 3+2],zs.drop (k * 3+3),?_⟩;rw [List.drop_eq_getElem_cons (by omega),List.drop_eq_getElem_cons (by omega),List.drop_eq_getElem_cons (by omega)]
 have hd3:zs.drop ((k+1) * 3)=rest:=by
  rw [show (k+1) * 3=k * 3+3 by omega,← List.drop_drop,hd]
  rfl
 rw [hd3,hd,List.take_succ_eq_append_getElem hk,edI_append,ints_append,edI_one];rw [List.set_append_right _ _ (by omega),List.set_append_right _ _ (by omega),List.set_append_right _ _ (by omega),hl];simp [ints]
end
section
open Go.RowKit Go.Shelf Go.Lib Go.Sort
instance:Inhabited Ed:=⟨⟨0,0,0⟩⟩
def encE (e:Ed):List Value:=[.int .i64 e.a,.int .i64 e.l,.int .i64 e.b]
theorem encE_get {e:Ed} {i:Nat} {v:Value} (h:(encE e)[i]?=some v):(i=0∧v=.int .i64 e.a) ∨ (i=1∧v=.int .i64 e.l) ∨ (i=2∧v=.int .i64 e.b):=by
 rcases i with _ | _ | _ | i
 ·left;simp [encE] at h;exact ⟨rfl,h.symm⟩
 ·right;left;simp [encE] at h;exact ⟨rfl,h.symm⟩
 ·right;right;simp [encE] at h;exact ⟨rfl,h.symm⟩
 ·simp [encE] at h
theorem eqB (x y:Ed):(x.a == y.a && x.l == y.l && x.b == y.b)=decide (x=y):=by
 rw [Bool.eq_iff_iff];simp;constructor
 ·rintro ⟨⟨h1,h2⟩,h3⟩;exact Ed.ext' h1 h2 h3
 ·rintro rfl;exact ⟨⟨rfl,rfl⟩,rfl⟩
theorem eqlEd:EqlAt Tryz.prog 110 (fun x=>.agg (encE x).toArray) (fun x y=>decide (x=y)):=by
 refine ⟨fun x y w=>?_,GuardAt.agg _ (by kernel_rfl)⟩;have u3:=Tryz.underlying3;have a3:=Tryz.isAgg3;have z3:=Tryz.sizeOf3;have hS:Tryz.prog.underlying 110=some (.struct (Tryz.prog.fieldsOf 110)):=by kernel_rfl
 have hp:Tryz.prog.stoodInHeld 110=false:=by kernel_rfl
 simp only [← eqB,encE];rw [run_eql_struct,show (10000:Nat)=9999+1 from rfl,run_equalIn_agg w 9999 110 _ _ hS hp];simp only [Program.fieldsOf,Tryz.underlying110];go_simp;by_cases h1:x.a=y.a <;> by_cases h2:x.l=y.l <;> by_cases h3:x.b=y.b <;> simp [h1,h2,h3]
theorem neqEd:NeqAt Tryz.prog 110 (fun x=>.agg (encE x).toArray) (fun x y=>decide (x=y)):=by
 refine ⟨fun x y w=>?_,GuardAt.agg _ (by kernel_rfl)⟩;have u3:=Tryz.underlying3;have a3:=Tryz.isAgg3;have z3:=Tryz.sizeOf3;have hS:Tryz.prog.underlying 110=some (.struct (Tryz.prog.fieldsOf 110)):=by kernel_rfl
 have hp:Tryz.prog.stoodInHeld 110=false:=by kernel_rfl
 simp only [← eqB,encE];rw [run_neq_struct,show (10000:Nat)=9999+1 from rfl,run_equalIn_agg w 9999 110 _ _ hS hp];simp only [Program.fieldsOf,Tryz.underlying110];go_simp;by_cases h1:x.a=y.a <;> by_cases h2:x.l=y.l <;> by_cases h3:x.b=y.b <;> simp [h1,h2,h3]
theorem eqlEd_run (e f:Ed) {v:Bool} (h:decide (e=f)=v) (w:World):Sem.run Tryz.prog (binOp .eql 110 e.v f.v) w=.ok (.bool v) w:=h ▸ eqlEd.1 e f w
theorem guardEd (e f:Ed) (op:BinOp) (a b:Operand) (w:World):Sem.run Tryz.prog (eqGuard op 110 a b e.v f.v) w=.ok () w:=eqlEd.2 op a b e f w
theorem neqEd_run (e f:Ed) {v:Bool} (h:decide (e≠f)=v) (w:World):Sem.run Tryz.prog (binOp .neq 110 e.v f.v) w=.ok (.bool v) w:=by
 have h1:(!decide (e=f))=v:=by rw [← h];simp
 exact h1 ▸ neqEd.1 e f w
theorem RG.encs {w:World} {lo hi b off:Nat} {es:List Ed} (h:RG w lo hi (some ⟨b,off,none⟩) es):∀ j,j < es.length→∀ i v,(encE es[j]!)[i]?=some v→w.cell? ⟨b,off+j * 3+i,none⟩=some v:=by
 intro j hj i v hv;obtain ⟨b',off',e,hA, -, -,he,c0,c1,c2⟩:=h.ed hj;injection hA with hA
 injection hA with h1 h2
 subst h1 h2;rw [List.getElem!_eq_getElem?_getD,he] at hv;rcases encE_get hv with ⟨rfl,rfl⟩ | ⟨rfl,rfl⟩ | ⟨rfl,rfl⟩
 ·exact c0
 ·exact c1
 ·exact c2
theorem RG.addr {w:World} {lo hi:Nat} {A:Option Addr} {es:List Ed} (h:RG w lo hi A es) (hn:es≠[]):∃ b off,A=some ⟨b,off,none⟩:=by
 obtain ⟨b,off,hA, -⟩:=h.2 (by intro h0;have:=congrArg List.length h0;rw [ints_len,edI_len] at this;simp at this;exact hn (List.eq_nil_of_length_eq_zero (by omega)));exact ⟨b,off,hA⟩
theorem allEq_iff (xs ys:List Ed):Lib.allEq (fun x y=>decide (x=y)) xs ys=decide (xs=ys):=by
 rw [Bool.eq_iff_iff,decide_eq_true_iff]
 induction xs generalizing ys with
 | nil=>cases ys <;> simp [Lib.allEq]
 | cons x t ih =>
  cases ys with
  | nil=>simp [Lib.allEq]
  | cons y s =>
   have:=ih s;simp [Lib.allEq,this]
theorem equal_nil (A A':Option Addr) (n c c':Nat) (es:List Ed) (w:World) (lo hi:Nat) (hr:RG w lo hi A es) (hn:es.length≤1048576) :
  Calls Tryz.prog 236 #[.slice A es.length c,.slice A' 0 c'] w fun en w'=>en=.returned (.bool (decide (es.length=0)))∧Mid 0 0 w w':=by
 by_cases h0:es.length=0
 ·have hd:decide (es.length=0)=true:=by simp [h0]
  rw [hd,h0];go_enter Tryz.func236,Tryz.ntmps236
  go_wp2_with fail;go_loop [13] (fun i=>i=.int .i64 0) (fun _=>0)
  case atStart=>rfl
  case round =>
   subst hrel;go_wp2_with fail;go_ret;exact ⟨rfl,Mid.refl _ _ _⟩
 ·have hd:decide (es.length=0)=false:=by simp [h0]
  rw [hd];have h1:((es.length:Int) != 0)=true:=by first | (simp only [bne_iff_ne,ne_eq];omega) | (simp only [beq_eq_false_iff_ne,ne_eq];omega)
  go_enter Tryz.func236,Tryz.ntmps236
  go_wp2_with fail;go_ret;exact ⟨rfl,Mid.refl _ _ _⟩
theorem equal_nil' (A A':Option Addr) (c c':Nat) (es:List Ed) (w:World) (hn:es≠[]) (hl:es.length≤1048576) :
  Calls Tryz.prog 236 #[.slice A 0 c,.slice A' es.length c'] w fun en w'=>en=.returned (.bool false)∧Mid 0 0 w w':=by
 have h0:0 < es.length:=List.length_pos_iff.2 hn;have h1:((0:Int) != (es.length:Int))=true:=by first | (simp only [bne_iff_ne,ne_eq];omega) | (simp only [beq_eq_false_iff_ne,ne_eq];omega)
 have h2:((0:Int) == (es.length:Int))=false:=by first | (simp only [bne_iff_ne,ne_eq];omega) | (simp only [beq_eq_false_iff_ne,ne_eq];omega)
 go_enter Tryz.func236,Tryz.ntmps236
 go_wp2_with fail;go_ret;exact ⟨rfl,Mid.refl _ _ _⟩
theorem equalE (A A':Option Addr) (es fs:List Ed) (c c':Nat) (w:World) (lo hi lo' hi':Nat) (hr:RG w lo hi A es) (hr':RG w lo' hi' A' fs) (hl:es.length≤1048576) (hl':fs.length≤1048576) :
  Calls Tryz.prog 236 #[.slice A es.length c,.slice A' fs.length c'] w fun en w'=>en=.returned (.bool (decide (es=fs)))∧Mid 0 0 w w':=by
 by_cases hf:fs=[]
 ·subst hf
  have:=equal_nil A A' 0 c c' es w lo hi hr hl;have hd:decide (es.length=0)=decide (es=[]):=by simp [List.length_eq_zero_iff]
  rw [hd] at this;exact this
 ·by_cases hn:es=[]
  ·subst hn
   have hd:decide ([]=fs)=false:=by simpa using fun h=>hf h
   rw [hd];exact equal_nil' A A' c c' fs w hf hl'
  ·obtain ⟨b,off,rfl⟩:=hr.addr hn
   obtain ⟨b',off',rfl⟩:=hr'.addr hf;refine (AnyQ.slices_Equal Tryz.equalEd 3 Tryz.isAgg110 Tryz.sizeOf110 encE (fun _=>rfl) _ neqEd b off es.length c b' off' fs.length c' es fs w (Nat.le_refl _) (Nat.le_refl _) (by omega) (by omega) hr.encs hr'.encs).mono ?_;rintro en w' ⟨he,q,rfl⟩;refine ⟨he.trans ?_,(Mid.refl 0 0 w).drewN q⟩;rw [List.take_length,List.take_length,allEq_iff]
theorem alloc2_grow (W:World) (o1 o2:Obj):(W.alloc o1).alloc o2=grow (W.drewN 0) (#[o1]++#[o2]):=by
 rw [alloc_eq_grow,alloc_eq_grow,grow_grow]
 rfl
theorem cmpE_call (x y:Ed) (W:World) :
  Calls Tryz.prog 204 #[.agg (encE x).toArray,.agg (encE y).toArray] W fun e w'=>e=.returned (.int .i64 (cmpE x y))∧∃ q os',w'=grow (W.drewN q) os' :=
 (impl_CompareEdgesW x y W).mono fun _ _ ⟨h,hw⟩=>⟨h,0,_,hw.symm.trans (alloc2_grow _ _ _)⟩
theorem cmpE_swo:SWO (ltOf cmpE) where
 irrefl x:=by
  simp only [ltOf,decide_eq_false_iff_not];exact fun h=>LtE.irrefl x (cmpE_neg.1 h)
 trans x y z h1 h2:=by
  simp only [ltOf,decide_eq_true_iff] at *;exact cmpE_neg.2 ((cmpE_neg.1 h1).trans (cmpE_neg.1 h2))
 ntrans x y z h1 h2:=by
  simp only [ltOf,decide_eq_false_iff_not] at *;have n1:¬ LtE x y:=fun h=>h1 (cmpE_neg.2 h);have n2:¬ LtE y z:=fun h=>h2 (cmpE_neg.2 h);have:¬ LtE x z:=by
   intro h;rcases LtE.tri x y with h3 | rfl | h3
   ·exact n1 h3
   ·exact n2 h
   ·exact n2 (h3.trans h)
  exact fun h=>this (cmpE_neg.1 h)
theorem flatE (d:Array Ed):(flatK encE 3 d).toList=ints (edI d.toList):=by
 apply List.ext_getElem?;intro t;by_cases ht:t < d.size * 3
 ·obtain ⟨k,r,hr,rfl⟩:∃ k r,r < 3∧t=k * 3+r:=⟨t / 3,t % 3,by omega,by omega⟩
  have hk:k < d.size:=by omega
  have h1:(k * 3+r) / 3=k:=by omega
  have h2:(k * 3+r) % 3=r:=by omega
  obtain ⟨g0,g1,g2⟩:=edI_at (es:=d.toList) (k:=k) (e:=d[k]) (by simp);rw [Array.getElem?_toList,ints_get];simp only [flatK,Array.getElem?_map,Array.getElem?_range,if_pos ht,Option.map_some,h1,h2,getElem!_pos d k hk];rcases r with _ | _ | _ | r
  ·rw [Nat.add_zero,g0];rfl
  ·rw [g1];rfl
  ·rw [g2];rfl
  ·omega
 ·rw [List.getElem?_eq_none (by simp;omega),List.getElem?_eq_none (by rw [ints_len,edI_len];simp;omega)]
theorem owns_putV {w:World} {base:Nat} {e:TypeId} {size g n cap q:Nat} {xs:List Value} {d:Array Value} (h:w.ownsRow base e size (.slice (some ⟨g,0,none⟩) n cap) n xs) (hd:d.size=n * size) :
  (putRow id (Sort.ahead w q) g 0 d).ownsRow base e size (.slice (some ⟨g,0,none⟩) n cap) n d.toList:=by
 rcases h.2 with ⟨e0,_⟩ | ⟨g',cap',cur,e0,hb,hg,hn,hm,hs,ht⟩
 ·cases e0
 ·injection e0 with e1 _ e3
  injection e1 with e1
  injection e1 with e1
  subst e1;subst e3;have hle:n * size≤cap * size:=Nat.mul_le_mul_right _ hn;refine ⟨by simpa using hd,.inr ⟨g,cap,putCells id 0 d cur,rfl,hb,?_,hn,hm,by simpa [putCells] using hs,?_⟩⟩
  ·simp [putRow,mapBlock,Sort.ahead,Array.getElem?_modify,hg,onCells]
  ·apply List.ext_getElem?
   intro j;rw [List.getElem?_take,Array.getElem?_toList,Array.getElem?_toList];by_cases hj:j < n * size
   ·have hjc:j < cur.size:=by omega
    simp only [if_pos hj,putCells,Array.getElem?_mapIdx,Array.getElem?_eq_getElem hjc,Option.map_some];rw [if_pos (by simp;omega),Array.getElem?_eq_getElem (by omega)];simp [getElem!_pos,show j < d.size by omega]
   ·rw [if_neg hj,Array.getElem?_eq_none (by omega)]
theorem put_grown {w:World} {g n:Nat} {d:Array Value} {os:Array Obj}:w.grownBy (grow (putRow id (Sort.ahead w n) g 0 d) os) (some g):=by
 refine ⟨rfl,rfl,rfl,by simp,fun k hk hne=>?_⟩;rw [heap_grow_old _ _ (by simpa using hk)];have:g≠k:=fun e=>hne (by rw [e]);simp [putRow,mapBlock,Sort.ahead,Array.getElem?_modify,this]
theorem owns_growV {w:World} {base:Nat} {e:TypeId} {size:Nat} {v:Value} {n:Nat} {xs:List Value} (h:w.ownsRow base e size v n xs) (os:Array Obj):(grow w os).ownsRow base e size v n xs:=by
 refine ⟨h.1,?_⟩;rcases h.2 with hn | ⟨g,cap,cur,rfl,hb,hh,rest⟩
 ·exact .inl hn
 ·refine .inr ⟨g,cap,cur,rfl,hb,?_,rest⟩
  rw [heap_grow_old _ _ (Array.getElem?_eq_some_iff.1 hh).1];exact hh
theorem sortE (g:Nat) (es:List Ed) (c:Nat) (w:World) (lo:Nat) (ho:w.ownsRow lo 110 3 (.slice (some ⟨g,0,none⟩) es.length c) es.length (ints (edI es))) (hl:es.length≤1048576) :
  Calls Tryz.prog 203 #[.slice (some ⟨g,0,none⟩) es.length c,.func (.func 204) #[] #[]] w fun e w' =>
   e=.returned (.tuple #[])∧∃ fs,fs.length=es.length∧fs.Perm es∧fs.Pairwise (fun x y=>¬ LtE y x)∧w'.ownsRow lo 110 3 (.slice (some ⟨g,0,none⟩) es.length c) es.length (ints (edI fs))∧w.grownBy w' (some g):=by
 have hg:=ho.lt g rfl;have hH:HoldsK encE 3 w g 0 es.toArray:=by
  intro j hj;rw [size_flatK] at hj;have hj':j < es.length * 3:=by simpa using hj
  refine ⟨?_,ho.frozenAt _⟩;rw [Nat.zero_add,ho.cellAt j hj'];have:=flatE es.toArray;rw [show es.toArray.toList=es from rfl] at this;rw [← this,Array.getElem?_toList,Array.getElem?_eq_getElem (by rw [size_flatK];exact hj)];rw [getElem!_pos _ _ (by rw [size_flatK];exact hj)]
  rfl
 have eg:∀ args w,(callFunc 204 args).run Tryz.prog w=.ok (.enter 204 args) w:=enters_of Tryz.func204 (by kernel_rfl) rfl;have hcon:=AnyQ.slices_SortFunc Tryz.sortEd 3 Tryz.isAgg110 Tryz.sizeOf110 encE (fun _=>rfl) (fun x v hv=>by simp [encE] at hv;rcases hv with rfl | rfl | rfl <;> rfl) cmpE cmpE_swo 204 #[] g 0 c es.toArray w eg (fun _ _ _ _ x y=>cmpE_call x y _) hH hg.2 (by simp;omega);refine (show Calls Tryz.prog 203 _ _ _ from hcon).mono ?_;rintro e w' ⟨he,d,n,os,hp,hs,rfl⟩;obtain ⟨hsz, -,hperm⟩:=hp;have hsz':d.size=es.length:=by simpa using hsz
 have hperm':d.toList.Perm es:=by
  rw [show d.extract 0 es.toArray.size=d by rw [show es.toArray.size=d.size by simp [hsz']];simp] at hperm
  simpa using hperm
 refine ⟨he,d.toList,by simpa using hsz',hperm',?_,?_,put_grown⟩
 ·refine List.pairwise_iff_getElem.2 fun i j hi hj hij=>?_
  have h:=hs i j (Nat.zero_le _) hij (by simpa [hsz'] using hj);have hi':i < d.size:=by simpa using hi
  have hj':j < d.size:=by simpa using hj
  rw [getElem!_pos d i hi',getElem!_pos d j hj'] at h;simp only [ltOf,decide_eq_false_iff_not] at h;intro hlt;exact h (cmpE_neg.2 (by simpa using hlt))
 ·have h2:=owns_putV (q:=n) (d:=flatK encE 3 d) ho (by rw [size_flatK,hsz'])
  rw [flatE] at h2;exact owns_growV h2 os
end
def compStep (out:List Ed) (e:Ed):List Ed:=if out.getLast?=some e then out else out++[e]
def compE (es:List Ed):List Ed:=es.foldl compStep []
theorem compE_snoc (xs:List Ed) (e:Ed):compE (xs++[e])=compStep (compE xs) e:=by simp [compE]
theorem compStep_last (out:List Ed) (e:Ed):(compStep out e).getLast?=some e:=by
 unfold compStep;split
 ·assumption
 ·simp
theorem take_snoc {es:List Ed} {k:Nat} {e:Ed} (h:es[k]?=some e):es.take (k+1)=es.take k++[e]:=by
 obtain ⟨hk,h'⟩:=List.getElem?_eq_some_iff.1 h;rw [List.take_succ_eq_append_getElem hk,h']
theorem compE_take {es:List Ed} {k:Nat} {e:Ed} (h:es[k]?=some e):compE (es.take (k+1))=compStep (compE (es.take k)) e:=by rw [take_snoc h,compE_snoc]
theorem compE_last {es:List Ed} {k:Nat} {e:Ed} (h:es[k]?=some e):(compE (es.take (k+1))).getLast?=some e:=by rw [compE_take h];exact compStep_last _ _
theorem mem_compStep {out:List Ed} {e x:Ed}:x∈compStep out e↔x∈out ∨ x=e:=by
 unfold compStep;split
 ·rename_i h
  have:=List.mem_of_getLast? h;constructor
  ·exact .inl
  ·rintro (h | rfl)
   ·exact h
   ·exact this
 ·simp
theorem snoc_ind {p:List Ed→Prop} (h0:p []) (h1:∀ xs e,p xs→p (xs++[e])) (xs:List Ed):p xs:=by
 rw [← List.reverse_reverse xs]
 induction xs.reverse with
 | nil=>exact h0
 | cons e t ih=>rw [List.reverse_cons];exact h1 _ _ ih
theorem mem_compE {xs:List Ed} {x:Ed}:x∈compE xs↔x∈xs:=by
 induction xs using snoc_ind with
 | h0=>simp [compE]
 | h1 xs e ih=>rw [compE_snoc,mem_compStep,ih];simp
theorem compE_asc {xs:List Ed} (h:xs.Pairwise fun x y=>¬ LtE y x):Asc (compE xs):=by
 induction xs using snoc_ind with
 | h0=>exact List.Pairwise.nil
 | h1 xs e ih =>
  obtain ⟨h1, -,h2⟩:=List.pairwise_append.1 h;have ha:=ih h1;rw [compE_snoc];unfold compStep;split
  ·exact ha
  ·rename_i hl
   refine List.pairwise_append.2 ⟨ha,by simp,fun y hy z hz=>?_⟩;simp at hz;subst hz;have h3:=h2 y (mem_compE.1 hy) z (by simp);rcases LtE.tri y z with h4 | rfl | h4
   ·exact h4
   ·exfalso
    obtain ⟨ys,l,hcl⟩:∃ ys l,compE xs=ys++[l]:=by
     rcases List.eq_nil_or_concat (compE xs) with h0 | ⟨ys,l,h0⟩
     ·rw [h0] at hy;simp at hy
     ·exact ⟨ys,l,by rw [h0,List.concat_eq_append]⟩
    have hly:l≠y:=by
     intro e;subst e;apply hl;rw [hcl];simp
    have hy':y∈ys:=by
     rw [hcl] at hy;rcases List.mem_append.1 hy with h | h
     ·exact h
     ·simp at h;exact absurd h.symm hly
    rw [hcl] at ha;obtain ⟨-, -,h5⟩:=List.pairwise_append.1 ha;have h6:=h5 y hy' l (by simp);have hlx:l∈xs:=mem_compE.1 (by rw [hcl];simp);exact h2 l hlx y (by simp) h6
   ·exact absurd h4 h3
theorem compE_canon {xs es:List Ed} (h:xs.Pairwise fun x y=>¬ LtE y x) (hp:xs.Perm es):compE xs=canon es :=
 canon_eq (compE_asc h) fun e=>by rw [mem_compE];exact hp.mem_iff
structure CompAt (es:List Ed) (j kk:Nat) (ys:List Ed):Prop where
 len:ys.length=es.length
 lt:kk < j
 cnt:kk=(compE (es.take j)).length
 low:ys.take kk=compE (es.take j)
 high:∀ i,kk≤i→ys[i]?=es[i]?
theorem CompAt.start {es:List Ed} {k:Nat} {e:Ed} (h:compE (es.take k)=es.take k) (h0:0 < k) (hk:es[k]?=some e) (hp:es[k - 1]?=some e):CompAt es (k+1) k es:=by
 have hkl:=(List.getElem?_eq_some_iff.1 hk).1;have hl:(compE (es.take k)).getLast?=some e:=by
  have:=compE_last hp
  rwa [Nat.sub_add_cancel h0] at this
 have hc:compE (es.take (k+1))=es.take k:=by
  rw [compE_take hk,compStep,if_pos hl,h]
 exact ⟨rfl,by omega,by rw [hc,List.length_take];omega,hc.symm,fun _ _=>rfl⟩
theorem CompAt.skip {es ys:List Ed} {j kk:Nat} {e:Ed} (h:CompAt es j kk ys) (hj:es[j]?=some e) (hp:es[j - 1]?=some e):CompAt es (j+1) kk ys:=by
 have h0:=h.lt;have hl:(compE (es.take j)).getLast?=some e:=by
  have:=compE_last hp
  rwa [Nat.sub_add_cancel (by omega)] at this
 have hc:compE (es.take (j+1))=compE (es.take j):=by rw [compE_take hj,compStep,if_pos hl]
 exact ⟨h.len,by omega,by rw [hc];exact h.cnt,by rw [hc];exact h.low,h.high⟩
theorem CompAt.keep {es ys:List Ed} {j kk:Nat} {e f:Ed} (h:CompAt es j kk ys) (hj:es[j]?=some e) (hp:es[j - 1]?=some f) (hne:e≠f):CompAt es (j+1) (kk+1) (ys.set kk e):=by
 have h0:=h.lt;have hjl:=(List.getElem?_eq_some_iff.1 hj).1;have hl:(compE (es.take j)).getLast?=some f:=by
  have:=compE_last hp
  rwa [Nat.sub_add_cancel (by omega)] at this
 have hc:compE (es.take (j+1))=compE (es.take j)++[e]:=by
  rw [compE_take hj,compStep,if_neg];rw [hl];intro h;injection h with h
  exact hne h.symm
 have hkl:kk < ys.length:=by rw [h.len];omega
 refine ⟨by simpa using h.len,by omega,by rw [hc,List.length_append,← h.cnt];rfl,?_,fun i hi=>?_⟩
 ·rw [hc,← h.low,List.take_succ_eq_append_getElem (by simpa using hkl),List.getElem_set_self,List.take_set_of_le (Nat.le_refl _)]
 ·rw [List.getElem?_set_ne (by omega)]
  exact h.high i (by omega)
theorem CompAt.done {es ys:List Ed} {kk:Nat} (h:CompAt es es.length kk ys):kk=(compE es).length∧ys.take kk=compE es:=by
 have h1:=h.cnt;have h2:=h.low;rw [List.take_length] at h1 h2;exact ⟨h1,h2⟩
theorem compE_grow {es:List Ed} {k:Nat} {e f:Ed} (h:compE (es.take k)=es.take k) (h0:0 < k) (hk:es[k]?=some e) (hp:es[k - 1]?=some f) (hne:e≠f):compE (es.take (k+1))=es.take (k+1):=by
 have hl:(compE (es.take k)).getLast?=some f:=by
  have:=compE_last hp
  rwa [Nat.sub_add_cancel h0] at this
 rw [compE_take hk,compStep,if_neg,h,take_snoc hk];rw [hl];intro h;injection h with h
 exact hne h.symm
theorem compE_one (es:List Ed) (h:es.length≤1):compE es=es:=by
 match es,h with
 | [],_=>rfl
 | [e],_=>rfl
section
open Go.RowKit
theorem owns_ed {w:World} {lo g n c:Nat} {ys:List Ed} (h:w.ownsRow lo 110 3 (.slice (some ⟨g,0,none⟩) n c) n (ints (edI ys))) {i:Nat} {e:Ed} (hi:ys[i]?=some e) :
  w.cell? ⟨g,i * 3,none⟩=some (.int .i64 e.a)∧w.cell? ⟨g,i * 3+1,none⟩=some (.int .i64 e.l)∧w.cell? ⟨g,i * 3+2,none⟩=some (.int .i64 e.b):=by
 obtain ⟨g0,g1,g2⟩:=edI_at hi;have hl:=h.1;rw [ints_len,edI_len] at hl;have hil:=(List.getElem?_eq_some_iff.1 hi).1;exact ⟨by rw [h.cellAt _ (by omega),ints_get,g0];rfl,by rw [h.cellAt _ (by omega),ints_get,g1];rfl,by rw [h.cellAt _ (by omega),ints_get,g2];rfl⟩
theorem edI_set (ys:List Ed) {k:Nat} (e:Ed) (hk:k < ys.length) :
  (((ints (edI ys)).set (k * 3) (.int .i64 e.a)).set (k * 3+1) (.int .i64 e.l)).set (k * 3+2) (.int .i64 e.b)=ints (edI (ys.set k e)):=by
 have h:=edI_fill (ys.set k e) (k:=k) (e:=e) (by rw [List.getElem?_set_self hk]) (ints (edI ys)) (by rw [ints_len,edI_len];simp);have h1:ints (edI ((ys.set k e).take k))++(ints (edI ys)).drop (k * 3)=ints (edI ys):=by
  rw [List.take_set_of_le (Nat.le_refl _),edI_take,show ints ((edI ys).take (k * 3))=(ints (edI ys)).take (k * 3) by simp [ints]];exact List.take_append_drop _ _
 rw [h1] at h;rw [h];have h2:(ints (edI ys)).drop ((k+1) * 3)=ints (edI ((ys.set k e).drop (k+1))):=by
  rw [List.drop_set_of_lt (by omega),edI_drop];simp [ints]
 rw [h2,← ints_append,← edI_append,List.take_append_drop]
theorem owns_setE {w:World} {lo g n c:Nat} {ys:List Ed} (h:w.ownsRow lo 110 3 (.slice (some ⟨g,0,none⟩) n c) n (ints (edI ys))) {k:Nat} (e:Ed) (hk:k < ys.length) :
  (((w.setCell ⟨g,k * 3,none⟩ (.int .i64 e.a)).setCell ⟨g,k * 3+1,none⟩ (.int .i64 e.l)).setCell ⟨g,k * 3+2,none⟩ (.int .i64 e.b)).ownsRow lo 110 3 (.slice (some ⟨g,0,none⟩) n c) n (ints (edI (ys.set k e))):=by
 have:=owns_setK (owns_setK (owns_setK h (k * 3) (.int .i64 e.a) rfl) (k * 3+1) (.int .i64 e.l) rfl) (k * 3+2) (.int .i64 e.b) rfl
 rwa [edI_set ys e hk] at this
theorem owns_setsPast {lo g n c size:Nat} {e:TypeId} {xs:List Value}:∀ (vs:List Value) (o:Nat) {w:World},n * size≤o→w.ownsRow lo e size (.slice (some ⟨g,0,none⟩) n c) n xs→(w.setCells g o vs).ownsRow lo e size (.slice (some ⟨g,0,none⟩) n c) n xs
 | [],_,_,_,h=>h
 | v :: r,o,w,ho,h=>owns_setsPast r (o+1) (by omega) (owns_setK h o v (List.set_eq_of_length_le (by have:=h.1;omega)))
theorem grown_setCells {w0:World} {g:Nat}:∀ (vs:List Value) (o:Nat) {w:World},w0.grownBy w (some g)→w0.grownBy (w.setCells g o vs) (some g)
 | [],_,_,h=>h
 | v :: r,o,w,h=>grown_setCells r (o+1) (grown_setCell h o v)
theorem run_clear3 (w:World) (ty:TypeId) (b o n c:Nat) (hn:0 < n)
  (hc:∀ j,j < n * 3→(w.cell? ⟨b,o+j,none⟩).isSome=true) (hf:∀ j,j < n * 3→w.frozen? ⟨b,o+j,none⟩=false) :
  (Builtin.clear_ #[33] ty #[.slice (some ⟨b,o,none⟩) n c]).run Tryz.prog w=.ok (.tuple #[]) (w.setCells b o (List.replicate (n * 3) (.int .i64 0))):=by
 have hzc:(Builtin.zeroCells (Value.agg #[.int .i64 0,.int .i64 0,.int .i64 0]).cells n).toList=List.replicate (n * 3) (.int .i64 0):=by
  apply List.ext_getElem
  ·simp [Builtin.zeroCells,Value.cells]
  ·intro i h1 h2
   have h3:i % 3 < 3:=Nat.mod_lt _ (by decide);simp [Builtin.zeroCells,Value.cells];rcases (show i % 3=0 ∨ i % 3=1 ∨ i % 3=2 by omega) with h | h | h <;> simp [h]
 have hst:=run_storeCells_cells (P:=Tryz.prog) b o (List.replicate (n * 3) (.int .i64 0)) 0 w (by simpa using hc) (by simpa using hf) (by intro v hv';rw [List.eq_of_mem_replicate hv'];rfl);simp only [Nat.add_zero] at hst;have hv:=Tryz.zeroValue110;obtain ⟨m,rfl⟩:∃ m,n=m+1:=⟨n - 1,by omega⟩
 simp [Builtin.clear_,run_underlying undSE,hv,hzc,hst]
theorem compactE (g:Nat) (es:List Ed) (c:Nat) (w:World) (lo:Nat) (ho:w.ownsRow lo 110 3 (.slice (some ⟨g,0,none⟩) es.length c) es.length (ints (edI es))) (hl:es.length≤1048576) :
  Calls Tryz.prog 205 #[.slice (some ⟨g,0,none⟩) es.length c] w fun e w'=>e=.returned (.slice (some ⟨g,0,none⟩) (compE es).length c) ∧
   w'.ownsRow lo 110 3 (.slice (some ⟨g,0,none⟩) (compE es).length c) (compE es).length (ints (edI (compE es)))∧w.grownBy w' (some g):=by
 obtain ⟨hcc,hcm⟩:es.length≤c∧c≤maxLen:=by
  obtain ⟨A',c',hv,h1,h2⟩:=owns_shape ho;injection hv with _ _ h3
  subst h3;exact ⟨h1,h2⟩
 have hcm:c≤9223372036854775807:=by unfold maxLen at hcm;omega
 by_cases h2:es.length < 2
 ·have hd:decide ((es.length:Int) < 2)=true:=by simp;omega
  have hc1:=compE_one es (by omega);go_enter Tryz.func205,Tryz.ntmps205
  go_wp2_with fail;go_ret;rw [hc1];exact ⟨rfl,ho,World.grownBy.refl _ _⟩
 have hd:decide ((es.length:Int) < 2)=false:=by simp;omega
 have HO:=Lib.hid ho;clear ho;go_enter Tryz.func205,Tryz.ntmps205
 go_wp2_with fail;go_loopw [3] (fun i wr=>∃ k q:Nat,1≤k∧k≤es.length∧i=.int .i64 k∧Hid (compE (es.take k)=es.take k)∧wr=w.drewN q) (fun i _=>es.length - (intOf i).toNat)
 case atStart=>exact ⟨1,0,Nat.le_refl _,by omega,rfl,Lib.hid (compE_one _ (by simp;omega)),rfl⟩
 case round =>
  obtain ⟨k,q,hk1,hk,rfl,HC,rfl⟩:=hrel;by_cases hlt:k < es.length
  ·obtain ⟨e,he⟩:=get_of_lt es hlt
   obtain ⟨f,hf⟩:=get_of_lt es (show k - 1 < es.length by omega);obtain ⟨c0,c1,c2⟩:=owns_ed HO.out he;obtain ⟨m,hm⟩:∃ m,k=m+1:=⟨k - 1,by omega⟩
   have hf':=hf;rw [hm,Nat.add_sub_cancel] at hf';obtain ⟨p0,p1,p2⟩:=owns_ed HO.out hf';have hk0:(0:Int)≤(k:Int):=by omega
   have hkn:(k:Int) < (es.length:Int):=by omega
   have hkm:(k:Int) - 1=(m:Int):=by omega
   have hwm:IntKind.i64.wrap (m:Int)=(m:Int):=IntWalk.i64_in _ (by omega);have hm0:(0:Int)≤(m:Int):=by omega
   have hmn:(m:Int) < (es.length:Int):=by omega
   have hgd:=guardEd e f;have HE:=Lib.hid he;have HF:=Lib.hid hf;have HM:=Lib.hid hm;by_cases hef:e=f
   ·have hq:=eqlEd_run e f (show decide (e=f)=true by simp [hef])
    have HEF:=Lib.hid hef;have hck:(c=k)=False:=eq_false (by omega);have hkc:(k:Int)≤(c:Int):=by omega
    clear he hf hf' hm hef;go_wp2_with fail;go_quiet (fail)
    clear hq hgd c0 c1 c2 p0 p1 p2 hkm hwm;go_wp2_with fail;have HS:=HC.out;go_loopw [3,5] (fun s3 s5 wr=>∃ kk k2:Nat,∃ ys:List Ed,s3=.int .i64 kk∧s5=.int .i64 k2∧1≤k2∧k+k2≤es.length∧Hid (CompAt es (k+k2) kk ys) ∧
      wr.ownsRow lo 110 3 (.slice (some ⟨g,0,none⟩) es.length c) es.length (ints (edI ys))∧w.grownBy wr (some g)) (fun _ s5 _=>es.length - (intOf s5).toNat)
    case atStart=>exact ⟨k,1,es,rfl,rfl,Nat.le_refl _,by omega,Lib.hid (CompAt.start HC.out (by omega) HE.out (by rw [HEF.out];exact HF.out)),HO.out,grown_of_below (below_drewN (Below.refl _ w) _) _⟩
    case round =>
     obtain ⟨kk,k2,ys,rfl,rfl,h1,hle,HI,hown,hg⟩:=hrel;have hlt1:=HI.out.lt;have hfz:=fun i=>hown.frozenAt i;have hylen:=HI.out.len;have HY:=Lib.hid hylen;clear hylen HS;by_cases hlt2:k+k2 < es.length
     ·obtain ⟨e1,he1⟩:=get_of_lt es hlt2
      obtain ⟨m2,hm2⟩:∃ m2,k2=m2+1:=⟨k2 - 1,by omega⟩
      obtain ⟨f1,hf1⟩:=get_of_lt es (show k+m2 < es.length by omega);obtain ⟨c0,c1,c2⟩:=owns_ed hown ((HI.out.high _ (by omega)).trans he1);obtain ⟨p0,p1,p2⟩:=owns_ed hown ((HI.out.high _ (by omega)).trans hf1);rw [show (k+k2) * 3=k * 3+k2 * 3 by omega] at c0 c1 c2;rw [show (k+m2) * 3=k * 3+m2 * 3 by omega] at p0 p1 p2;obtain ⟨old,hold⟩:=get_of_lt ys (show kk < ys.length by have:=HY.out;omega);obtain ⟨o0,o1,o2⟩:=owns_ed hown hold;have hf1':es[k+k2 - 1]?=some f1:=by rw [hm2,show k+(m2+1) - 1=k+m2 by omega];exact hf1
      have HE1:=Lib.hid he1;have HF1:=Lib.hid hf1';have HOW:=Lib.hid hown;have hk20:(0:Int)≤(k2:Int):=by omega
      have hk2n:(k2:Int) < (es.length:Int) - (k:Int):=by omega
      have hk2N:k2 < es.length - k:=by omega
      have hkm2:(k2:Int) - 1=(m2:Int):=by omega
      have hwm2:IntKind.i64.wrap (m2:Int)=(m2:Int):=IntWalk.i64_in _ (by omega);have hm20:(0:Int)≤(m2:Int):=by omega
      have hm2n:(m2:Int) < (es.length:Int) - (k:Int):=by omega
      have hkk0:(0:Int)≤(kk:Int):=by omega
      have hkkn:(kk:Int) < (es.length:Int):=by omega
      have hgd:=guardEd e1 f1;clear he1 hf1 hf1' hold hown hm2;by_cases hef1:e1=f1
      ·have hq:=neqEd_run e1 f1 (show decide (e1≠f1)=false by simp [hef1])
       have HEF1:=Lib.hid hef1;clear hef1;go_wp2_with fail;go_quiet (fail)
       go_wp2_with fail;go_roundw
       case rel=>exact ⟨kk,k2+1,ys,rfl,by go_num,by omega,by omega,Lib.hid (HI.out.skip HE1.out (by rw [HEF1.out];exact HF1.out)),owns_drewN HOW.out _,grown_trans hg (grown_of_below (below_drewN (Below.refl _ _) _) _)⟩
       case measure=>simp [intOf];omega
      ·have hq:=neqEd_run e1 f1 (show decide (e1≠f1)=true by simp [hef1])
       have HEF1:=Lib.hid hef1;clear hef1;go_wp2_with fail;go_quiet (fail)
       go_wp2_with fail;go_roundw
       case rel=>exact ⟨kk+1,k2+1,ys.set kk e1,by go_num,by go_num,by omega,by omega,Lib.hid (HI.out.keep HE1.out HF1.out HEF1.out),owns_setE (owns_drewN HOW.out _) e1 (by have:=HY.out;omega),grown_setCell (grown_setCell (grown_setCell (grown_trans hg (grown_of_below (below_drewN (Below.refl _ _) _) _)) _ _) _ _) _ _⟩
       case measure=>simp [intOf];omega
     ·have hend:k+k2=es.length:=by omega
      have hk2n:¬ (k2:Int) < (es.length:Int) - (k:Int):=by omega
      have hk2N:¬ k2 < es.length - k:=by omega
      have hkkc:(c=kk)=False:=eq_false (by omega);have hkk0:(0:Int)≤(kk:Int):=by omega
      have hkkn:(kk:Int)≤(es.length:Int):=by omega
      have hcl:∀ ty,(Builtin.clear_ #[33] ty #[.slice (some ⟨g,kk * 3,none⟩) (es.length - kk) (c - kk)]).run Tryz.prog wr=.ok (.tuple #[]) (wr.setCells g (kk * 3) (List.replicate ((es.length - kk) * 3) (.int .i64 0))) :=
       fun ty=>run_clear3 wr ty g (kk * 3) _ _ (by omega) (fun j hj=>by rw [hown.cellAt _ (by omega),List.getElem?_eq_getElem (by have:=hown.1;omega)];rfl) (fun j hj=>hfz _)
      have HOW:=Lib.hid hown;have HN:=Lib.hid hend;clear hown hend hfz;go_wp2_with fail;go_ret;have hI:=HI.out;rw [HN.out] at hI;obtain ⟨d1,d2⟩:=hI.done;have h3:=owns_setsPast (List.replicate ((es.length - kk) * 3) (.int .i64 0)) (kk * 3) (Nat.le_refl _) (owns_cut HOW.out (m:=kk) (by omega));rw [show (ints (edI ys)).take (kk * 3)=ints (edI (ys.take kk)) by rw [edI_take];simp [ints],d2] at h3;rw [d1] at h3 ⊢;exact ⟨rfl,h3,grown_setCells _ _ hg⟩
   ·have hq:=eqlEd_run e f (show decide (e=f)=false by simp [hef])
    have HEF:=Lib.hid hef;clear he hf hf' hm hef;go_wp2_with fail;go_quiet (fail)
    go_wp2_with fail;go_roundw
    case rel=>exact ⟨k+1,_,by omega,by omega,by go_num,Lib.hid (compE_grow HC.out (by omega) HE.out HF.out HEF.out),rfl⟩
    case measure=>simp [intOf];omega
  ·obtain rfl:k=es.length:=by omega
   have hce:compE es=es:=by have:=HC.out;rwa [List.take_length] at this
   have HCE:=Lib.hid hce;clear hce;go_wp2_with fail;go_ret;rw [HCE.out];exact ⟨rfl,HO.out,grown_of_below (below_drewN (Below.refl _ w) q) _⟩
end
section
open Go.RowKit
theorem bool_of (p:Prop):∃ b:Bool,b=true↔p:=by
 by_cases h:p
 ·exact ⟨true,iff_of_true rfl h⟩
 ·exact ⟨false,iff_of_false Bool.false_ne_true h⟩
theorem bool_no {b:Bool} {p:Prop} (h:b=true↔p) (hn:¬ p):b=false:=by
 cases b with
 | false=>rfl
 | true=>exact absurd (h.1 rfl) hn
end
section
open Go.RowKit
theorem compactN (g:Nat) (es:List Ed) (n c:Nat) (w:World) (lo:Nat) (hn:es.length=n) (ho:w.ownsRow lo 110 3 (.slice (some ⟨g,0,none⟩) n c) n (ints (edI es))) (hl:n≤1048576) :
  Calls Tryz.prog 205 #[.slice (some ⟨g,0,none⟩) n c] w fun e w'=>e=.returned (.slice (some ⟨g,0,none⟩) (compE es).length c) ∧
   w'.ownsRow lo 110 3 (.slice (some ⟨g,0,none⟩) (compE es).length c) (compE es).length (ints (edI (compE es)))∧w.grownBy w' (some g):=by
 subst hn;exact compactE g es c w lo ho hl
theorem impl_sorted (A:Option Addr) (es:List Ed) (c:Nat) (w:World) (lo hi:Nat) (hr:RG w lo hi A es) (hl:es.length≤1048576) :
  Calls Tryz.prog 137 #[.slice A es.length c] w fun e w'=>∃ A' c',e=.returned (.slice A' (canon es).length c')∧OG w' w.heap.size w'.heap.size A' c' (canon es)∧Mid 0 0 w w':=by
 have hown0:=owns_empty w 110 3;have hrs:=(hr.mid (Mid.alloc w (.cells #[] 110)) oZl).rv.rs;go_enter Tryz.func137,Tryz.ntmps137
 go_wp2_with (at_builtin;refine wpList_cat rfl _ _ 33 rfl w.heap.size 110 (.agg #[.int .i64 0,.int .i64 0,.int .i64 0]) 3 24 undSE infoE rfl (by decide) (.slice (some ⟨w.heap.size,0,none⟩) 0 0) 0 [] rfl hown0 A es.length c _ (ints (edI es)) rfl hrs (by rw [ints_len,edI_len]) (oneInts _) (by unfold maxLen;omega) (by omega) (by simp) ?_;intro v' w1 hown1 hg1 hblk)
 have hm1:Mid 0 0 w w1:=(Mid.alloc w (.cells #[] 110)).transNew (Mid.of_grownRow hown0 hg1) (Or.inl (Nat.le_refl _));obtain ⟨g,c1,rfl,hgw⟩:∃ g c1,v'=.slice (some ⟨g,0,none⟩) es.length c1∧w.heap.size≤g:=by
  rcases hown1.2 with ⟨rfl, -⟩ | ⟨g,cap,cur,rfl,hbg, -⟩
  ·simp [Value.ownBlock] at hblk
  ·exact ⟨g,cap,by simp,hbg⟩
 simp only [List.nil_append,Nat.zero_add] at hown1;go_wp2_with fail;with_reducible refine (sortE g es c1 w1 w.heap.size hown1 hl).mono ?_
 rintro e w2 ⟨rfl,fs,hfl,hfp,hfs,hown2,hg2⟩;have hm2:Mid 0 0 w w2:=hm1.transNew (Mid.of_grownRow hown1 hg2) (Or.inl (Nat.le_refl _));have HP:=Lib.hid (compE_canon hfs hfp);have hC:=fun W h=>compactN g fs es.length c1 W w.heap.size hfl h hl;clear hfl hfp hfs;go_wp2_with fail;with_reducible refine (hC _ hown2).mono ?_
 rintro e w3 ⟨rfl,hown3,hg3⟩;rw [HP.out] at hown3 ⊢;go_wp2_with fail;go_ret;exact ⟨_,_,rfl,⟨Nat.le_refl _,hown3,fun g hg=>(hown3.lt g hg).2⟩,hm2.transNew (Mid.of_grownRow hown2 hg3) (Or.inl (Nat.le_refl _))⟩
theorem impl_sortedN (A:Option Addr) (es:List Ed) (n c:Nat) (w:World) (lo hi:Nat) (hn:es.length=n) (hr:RG w lo hi A es) (hl:n≤1048576) :
  Calls Tryz.prog 137 #[.slice A n c] w fun e w'=>∃ A' c',e=.returned (.slice A' (canon es).length c')∧OG w' w.heap.size w'.heap.size A' c' (canon es)∧Mid 0 0 w w':=by
 subst hn;exact impl_sorted A es c w lo hi hr hl
end
section
open Go.RowKit
theorem OG.cnt {w:World} {lo hi:Nat} {A:Option Addr} {c:Nat} {es:List Ed} (h:OG w lo hi A c es):es.length≤c∧c≤maxLen:=by
 rcases h.2.1.2 with ⟨hv,hn⟩ | ⟨g,cap,cur,hv, -, -,hnc,hcm, -⟩
 ·injection hv with _ h1 h2
  subst h2;omega
 ·injection hv with _ _ h2
  subst h2;exact ⟨hnc,hcm⟩
end
section
open Go.RowKit
theorem owns_blk {w:World} {base:Nat} {e:TypeId} {size n:Nat} {v u:Value} {xs:List Value} {k:Nat} (h:w.ownsRow base e size v n xs) (hb:v.ownBlock=u.ownBlock ∨ v.ownBlock=some k) (hu:u.ownBlock≠none) :
  ∃ g c,v=.slice (some ⟨g,0,none⟩) n c∧base≤g∧n≤c∧c≤maxLen:=by
 rcases h.2 with ⟨rfl, -⟩ | ⟨g,cap,cur,rfl,hbg, -,h1,h2, -⟩
 ·rcases hb with hb | hb
  ·exact absurd hb.symm hu
  ·cases hb
 ·exact ⟨g,cap,rfl,hbg,h1,h2⟩
theorem impl_copyGraph (r s:Int) (A:Option Addr) (es:List Ed) (c:Nat) (w:World) (lo hi:Nat) (hr:RG w lo hi A es) (hl:es.length≤1048576) :
  Calls Tryz.prog 223 #[graV r s A es.length c] w fun e w'=>∃ A' c',e=.returned (graV r s A' es.length c')∧OG w' w.heap.size w'.heap.size A' c' es∧Mid 0 0 w w':=by
 have hm0:Mid 0 0 w ((w.alloc (.cells #[.int .i64 r,.int .i64 s,.slice A es.length c] 35)).alloc (.cells #[.int .i64 0,.int .i64 0,.slice none 0 0] 35)):=(Mid.alloc _ _).trans (Mid.alloc _ _);have B0:=(Box.new w #[.int .i64 r,.int .i64 s,.slice A es.length c] 35).mid (Mid.alloc _ (.cells #[.int .i64 0,.int .i64 0,.slice none 0 0] 35)) oZr;have B1:=Box.new (w.alloc (.cells #[.int .i64 r,.int .i64 s,.slice A es.length c] 35)) #[.int .i64 0,.int .i64 0,.slice none 0 0] 35;rw [World.size_alloc] at B1;go_enter Tryz.func223,Tryz.ntmps223
 go_wp2_with fail;generalize hw1:((w.alloc (.cells #[.int .i64 r,.int .i64 s,.slice A es.length c] 35)).alloc (.cells #[.int .i64 0,.int .i64 0,.slice none 0 0] 35))=w1 at hm0 B0 B1 ⊢;have hs1:w1.heap.size=w.heap.size+1+1:=by rw [← hw1];simp
 have HS:=Lib.hid hs1;clear hw1 hs1;have hmd:=Mid.drew1 w1;have hal:Mid 0 0 w1.drew (w1.drew.alloc (.cells #[] 110)):=Mid.alloc _ _;have D0:=B0.mid hmd oZr;have D1:=B1.mid hmd oZr;have E0:=D0.mid hal oZr;have E1:=D1.mid hal oZr;have hoe:=owns_empty w1.drew 110 3;have hrs:=((hr.mid hm0 oZl).mid (hmd.trans hal) oZl).rv.rs;have d0:=D0.cell 0 rfl;have d1:=D0.cell 1 rfl;have d2:=D0.cell 2 rfl;have e0:=E0.cell 0 rfl;have e1:=E0.cell 1 rfl;have e2:=E0.cell 2 rfl;have hmx:0+es.length≤maxLen:=by unfold maxLen;omega
 have hby:(0+es.length) * 24≤140737488355328:=by omega
 have hba:w1.drew.heap.size≤(w1.drew.alloc (.cells #[] 110)).heap.size:=by simp
 have hln:(ints (edI es)).length=es.length * 3:=by rw [ints_len,edI_len]
 have HL:=Lib.hid hln;have HO:=Lib.hid (oneInts (edI es));have hz1:w.heap.size+1 < w1.drew.heap.size:=B1.1;have hz0:w.heap.size < w1.drew.heap.size:=B0.1;clear hln;have hnn:(Value.slice (some ⟨w1.drew.heap.size,0,none⟩) 0 0).ownBlock≠none:=by simp [Value.ownBlock]
 have HNN:=Lib.hid hnn;clear hnn;go_region_held3 (fun w'=>w'.cell? ⟨w.heap.size,0,none⟩=some (.int .i64 r)∧w'.cell? ⟨w.heap.size,1,none⟩=some (.int .i64 s)∧w'.cell? ⟨w.heap.size,2,none⟩=some (.slice A es.length c)) (first | exact ⟨d0,d1,d2⟩ | exact ⟨e0,e1,e2⟩ | exact ⟨f0,f1,f2⟩ | exact ⟨x0,x1,x2⟩) ((refine step_cat (by rfl) (.tmp 7) (.tmp 9) 33 (by rfl) _ 110 (.agg #[.int .i64 0,.int .i64 0,.int .i64 0]) 3 24 undSE infoE rfl (by decide) (.slice (some ⟨w1.drew.heap.size,0,none⟩) 0 0) 0 [] (by rfl) hoe A es.length c _ (ints (edI es)) (by rfl) hrs HL.out HO.out hmx hby hba ?_;intro v2 w2 ho2 hgr2 hat2;obtain ⟨g,c2,rfl,hg1, -, -⟩:=owns_blk ho2 hat2 HNN.out;have hm2:=Mid.of_grownRow hoe hgr2;have F0:=E0.mid hm2 (Or.inl hz0);have F1:=E1.mid hm2 (Or.inl hz1);have f0:=F0.cell 0 rfl;have f1:=F0.cell 1 rfl;have f2:=F0.cell 2 rfl;have p0:=F1.cell 0 rfl;have p1:=F1.cell 1 rfl;have p2:=F1.cell 2 rfl;have pf:=F1.2.2;have ms0:=Mid.setCell w2 (lo:=w.heap.size+1) (hi:=w.heap.size+2) (p:=⟨w.heap.size+1,0,none⟩) (.int .i64 r) (Nat.le_refl _) (Nat.lt_succ_self _);have ms1:=ms0.trans (Mid.setCell _ (lo:=w.heap.size+1) (hi:=w.heap.size+2) (p:=⟨w.heap.size+1,1,none⟩) (.int .i64 s) (Nat.le_refl _) (Nat.lt_succ_self _));have ms2:=ms1.trans (Mid.setCell _ (lo:=w.heap.size+1) (hi:=w.heap.size+2) (p:=⟨w.heap.size+1,2,none⟩) (.slice (some ⟨g,0,none⟩) es.length c2) (Nat.le_refl _) (Nat.lt_succ_self _));have X0:=F0.mid ms2 (Or.inl (Nat.lt_succ_self _));have x0:=X0.cell 0 rfl;have x1:=X0.cell 1 rfl;have x2:=X0.cell 2 rfl))
 go_wp2_with fail;simp only [Nat.zero_add,List.nil_append] at ho2;have hmm:Mid 0 0 w w2:=((hm0.trans hmd).trans hal).transNew hm2 (Or.inl (by have:=hm0.size;exact this));refine bodyPost_ret (v:=.agg #[.int .i64 r,.int .i64 s,.slice (some ⟨g,0,none⟩) es.length c2]) (by simp [results,Tryz.results223,go_sem,p0,p1,p2,pf]) rfl ⟨_,c2,rfl,?_,?_⟩
 ·have h0:OG w2 w1.drew.heap.size w2.heap.size (some ⟨g,0,none⟩) c2 es:=⟨Nat.le_refl _,ho2,fun g hg=>(ho2.lt g hg).2⟩
  refine OG.wide (OG.mid h0 ms2 (Or.inl (by have:=HS.out;show w.heap.size+2≤w1.heap.size;omega))) (by have:=hm0.size;exact this) ?_ (Nat.le_refl _);exact ms2.size
 ·exact hmm.transNew ms2 (Or.inl (Nat.le_succ _))
theorem spec_l4Copy (r s:Int) (A:Option Addr) (es:List Ed) (c:Nat) (w:World) (lo hi:Nat) (hr:RG w lo hi A es) (hl:es.length≤1048576) :
  Calls Tryz.prog 210 #[graV r s A es.length c] w fun e w'=>∃ A' c',e=.returned (graV r s A' es.length c')∧OG w' w.heap.size w'.heap.size A' c' es∧Mid 0 0 w w':=by
 have hm0:Mid 0 0 w ((w.alloc (.cells #[.int .i64 r,.int .i64 s,.slice A es.length c] 35)).alloc (.cells #[.int .i64 0,.int .i64 0,.slice none 0 0] 35)):=(Mid.alloc _ _).trans (Mid.alloc _ _);have B0:=(Box.new w #[.int .i64 r,.int .i64 s,.slice A es.length c] 35).mid (Mid.alloc _ (.cells #[.int .i64 0,.int .i64 0,.slice none 0 0] 35)) oZr;have B1:=Box.new (w.alloc (.cells #[.int .i64 r,.int .i64 s,.slice A es.length c] 35)) #[.int .i64 0,.int .i64 0,.slice none 0 0] 35;rw [World.size_alloc] at B1;go_enter Tryz.func210,Tryz.ntmps210
 go_wp2_with fail;generalize hw1:((w.alloc (.cells #[.int .i64 r,.int .i64 s,.slice A es.length c] 35)).alloc (.cells #[.int .i64 0,.int .i64 0,.slice none 0 0] 35))=w1 at hm0 B0 B1 ⊢;have hs1:w1.heap.size=w.heap.size+1+1:=by rw [← hw1];simp
 have HS:=Lib.hid hs1;clear hw1 hs1;have hmd:=Mid.drew1 w1;have hal:Mid 0 0 w1.drew (w1.drew.alloc (.cells #[] 110)):=Mid.alloc _ _;have D0:=B0.mid hmd oZr;have D1:=B1.mid hmd oZr;have E0:=D0.mid hal oZr;have E1:=D1.mid hal oZr;have hoe:=owns_empty w1.drew 110 3;have hrs:=((hr.mid hm0 oZl).mid (hmd.trans hal) oZl).rv.rs;have d0:=D0.cell 0 rfl;have d1:=D0.cell 1 rfl;have d2:=D0.cell 2 rfl;have e0:=E0.cell 0 rfl;have e1:=E0.cell 1 rfl;have e2:=E0.cell 2 rfl;have hmx:0+es.length≤maxLen:=by unfold maxLen;omega
 have hby:(0+es.length) * 24≤140737488355328:=by omega
 have hba:w1.drew.heap.size≤(w1.drew.alloc (.cells #[] 110)).heap.size:=by simp
 have hln:(ints (edI es)).length=es.length * 3:=by rw [ints_len,edI_len]
 have HL:=Lib.hid hln;have HO:=Lib.hid (oneInts (edI es));have hz1:w.heap.size+1 < w1.drew.heap.size:=B1.1;have hz0:w.heap.size < w1.drew.heap.size:=B0.1;clear hln;have hnn:(Value.slice (some ⟨w1.drew.heap.size,0,none⟩) 0 0).ownBlock≠none:=by simp [Value.ownBlock]
 have HNN:=Lib.hid hnn;clear hnn;go_region_held3 (fun w'=>w'.cell? ⟨w.heap.size,0,none⟩=some (.int .i64 r)∧w'.cell? ⟨w.heap.size,1,none⟩=some (.int .i64 s)∧w'.cell? ⟨w.heap.size,2,none⟩=some (.slice A es.length c)) (first | exact ⟨d0,d1,d2⟩ | exact ⟨e0,e1,e2⟩ | exact ⟨f0,f1,f2⟩ | exact ⟨x0,x1,x2⟩) ((refine step_cat (by rfl) (.tmp 7) (.tmp 9) 33 (by rfl) _ 110 (.agg #[.int .i64 0,.int .i64 0,.int .i64 0]) 3 24 undSE infoE rfl (by decide) (.slice (some ⟨w1.drew.heap.size,0,none⟩) 0 0) 0 [] (by rfl) hoe A es.length c _ (ints (edI es)) (by rfl) hrs HL.out HO.out hmx hby hba ?_;intro v2 w2 ho2 hgr2 hat2;obtain ⟨g,c2,rfl,hg1, -, -⟩:=owns_blk ho2 hat2 HNN.out;have hm2:=Mid.of_grownRow hoe hgr2;have F0:=E0.mid hm2 (Or.inl hz0);have F1:=E1.mid hm2 (Or.inl hz1);have f0:=F0.cell 0 rfl;have f1:=F0.cell 1 rfl;have f2:=F0.cell 2 rfl;have p0:=F1.cell 0 rfl;have p1:=F1.cell 1 rfl;have p2:=F1.cell 2 rfl;have pf:=F1.2.2;have ms0:=Mid.setCell w2 (lo:=w.heap.size+1) (hi:=w.heap.size+2) (p:=⟨w.heap.size+1,0,none⟩) (.int .i64 r) (Nat.le_refl _) (Nat.lt_succ_self _);have ms1:=ms0.trans (Mid.setCell _ (lo:=w.heap.size+1) (hi:=w.heap.size+2) (p:=⟨w.heap.size+1,1,none⟩) (.int .i64 s) (Nat.le_refl _) (Nat.lt_succ_self _));have ms2:=ms1.trans (Mid.setCell _ (lo:=w.heap.size+1) (hi:=w.heap.size+2) (p:=⟨w.heap.size+1,2,none⟩) (.slice (some ⟨g,0,none⟩) es.length c2) (Nat.le_refl _) (Nat.lt_succ_self _));have X0:=F0.mid ms2 (Or.inl (Nat.lt_succ_self _));have x0:=X0.cell 0 rfl;have x1:=X0.cell 1 rfl;have x2:=X0.cell 2 rfl))
 go_wp2_with fail;simp only [Nat.zero_add,List.nil_append] at ho2;have hmm:Mid 0 0 w w2:=((hm0.trans hmd).trans hal).transNew hm2 (Or.inl (by have:=hm0.size;exact this));refine bodyPost_ret (v:=.agg #[.int .i64 r,.int .i64 s,.slice (some ⟨g,0,none⟩) es.length c2]) (by simp [results,Tryz.results210,go_sem,p0,p1,p2,pf]) rfl ⟨_,c2,rfl,?_,?_⟩
 ·have h0:OG w2 w1.drew.heap.size w2.heap.size (some ⟨g,0,none⟩) c2 es:=⟨Nat.le_refl _,ho2,fun g hg=>(ho2.lt g hg).2⟩
  refine OG.wide (OG.mid h0 ms2 (Or.inl (by have:=HS.out;show w.heap.size+2≤w1.heap.size;omega))) (by have:=hm0.size;exact this) ?_ (Nat.le_refl _);exact ms2.size
 ·exact hmm.transNew ms2 (Or.inl (Nat.le_succ _))
end
section
open Go.RowKit
section
variable {W:World} {ops:Array Oper} {rest:List Oper} {o:Oper} {a:Act} {Q:Exit→Act→World→Prop}
theorem wpList_pushE (hgd:o.guard=none) (s x:Operand)
  (ho:o.op=.call { callee:=.builtin .append,args:=#[s,x],argTypes:=#[33,33] }) (lo:Nat) (A:Option Addr) (n c:Nat) (es:List Ed) (hs:a.eval s=.slice A n c)
  (hown:W.ownsRow lo 110 3 (.slice A n c) n (ints (edI es))) (e:Ed) (hx:a.eval x=.slice (some ⟨W.heap.size,0,none⟩) 1 1) (hn:n≤1048576) (hb:lo≤W.heap.size)
  (h:∀ A' c' w',w'.ownsRow lo 110 3 (.slice A' (n+1) c') (n+1) (ints (edI (es++[e])))→Mid lo W.heap.size W w'→wpList Tryz.prog ops Q rest (a.put o.dst (.slice A' (n+1) c')) w') :
  wpList Tryz.prog ops Q (o :: rest) a (W.alloc (.cells #[.int .i64 e.a,.int .i64 e.l,.int .i64 e.b] 110)):=by
 refine wpList_push (news:=[.int .i64 e.a,.int .i64 e.l,.int .i64 e.b]) hgd s x 33 ho lo 110 (.agg #[.int .i64 0,.int .i64 0,.int .i64 0]) 3 24 undSE infoE rfl (by decide) (.slice A n c) n (ints (edI es)) hs hown 1 hx rfl ?_ (by unfold maxLen;omega) (by omega) hb ?_
 ·intro u hu
  simp at hu;rcases hu with rfl | rfl | rfl <;> rfl
 ·intro v' w' h1 h2 _
  obtain ⟨A',c',rfl, -, -⟩:=owns_shape h1;refine h A' c' w' ?_ (Mid.of_grownRow hown h2);rw [edI_append,ints_append,edI_one];exact h1
end
theorem putE_all {e:Ed} {xs:List Ed} (h:∀ g∈xs,LtE g e):putE e xs=xs++[e]:=by
 induction xs with
 | nil=>rfl
 | cons g t ih =>
  have hg:=h g (by simp);have h1:¬ cmpE e g < 0:=fun h=>(cmpE_neg.1 h).asymm hg;have h2:¬ cmpE e g=0:=fun h=>by have:=cmpE_zero.1 h;subst this;exact LtE.irrefl _ hg
  rw [putE,if_neg h1,if_neg h2,ih fun f hf=>h f (by simp [hf])]
  rfl
theorem putE_same {e f:Ed} {xs:List Ed} (h:∀ g∈xs,LtE g e) (hf:cmpE e f=0):putE e (xs++[f])=xs++[f]:=by
 induction xs with
 | nil=>simp [putE,hf]
 | cons g t ih =>
  have hg:=h g (by simp);have h1:¬ cmpE e g < 0:=fun h=>(cmpE_neg.1 h).asymm hg;have h2:¬ cmpE e g=0:=fun h=>by have:=cmpE_zero.1 h;subst this;exact LtE.irrefl _ hg
  rw [List.cons_append,putE,if_neg h1,if_neg h2,ih fun f hf=>h f (by simp [hf])]
theorem putE_ahead {e f:Ed} {xs:List Ed} (h:∀ g∈xs,LtE g e) (hf:cmpE e f < 0):putE e (xs++[f])=xs++[e]++[f]:=by
 induction xs with
 | nil=>simp [putE,hf]
 | cons g t ih =>
  have hg:=h g (by simp);have h1:¬ cmpE e g < 0:=fun h=>(cmpE_neg.1 h).asymm hg;have h2:¬ cmpE e g=0:=fun h=>by have:=cmpE_zero.1 h;subst this;exact LtE.irrefl _ hg
  rw [List.cons_append,putE,if_neg h1,if_neg h2,ih fun f hf=>h f (by simp [hf])];simp
theorem putE_done {e f:Ed} {xs:List Ed} (h:∃ g∈xs,¬ LtE g e):putE e (xs++[f])=putE e xs++[f]:=by
 induction xs with
 | nil=>obtain ⟨g,hg, -⟩:=h;simp at hg
 | cons g t ih =>
  rw [List.cons_append,putE,putE];split
  ·simp
  ·split
   ·simp
   ·rename_i h1 h2
    rw [ih]
    ·simp
    ·obtain ⟨g',hg',hn⟩:=h
     rcases List.mem_cons.1 hg' with rfl | hg'
     ·exfalso
      rcases LtE.tri e g' with h3 | rfl | h3
      ·exact h1 (cmpE_neg.2 h3)
      ·exact h2 (cmpE_zero.2 rfl)
      ·exact hn h3
     ·exact ⟨g',hg',hn⟩
def PutAt (e:Ed) (es:List Ed) (i:Nat) (p:Bool) (xs:List Ed):Prop :=
 if p=true then xs=putE e (es.take i)∧∃ g∈es.take i,¬ LtE g e else xs=es.take i∧∀ g∈es.take i,LtE g e
theorem PutAt.zero (e:Ed) (es:List Ed):PutAt e es 0 false []:=⟨by simp,by simp⟩
theorem PutAt.on {e f:Ed} {es xs:List Ed} {i:Nat} (h:PutAt e es i true xs) (hf:es[i]?=some f):PutAt e es (i+1) true (xs++[f]):=by
 obtain ⟨h1,h2⟩:=h;refine ⟨by rw [take_snoc hf,putE_done h2,h1],?_⟩;obtain ⟨g,hg,hn⟩:=h2;exact ⟨g,by rw [take_snoc hf];simp [hg],hn⟩
theorem PutAt.eq {e f:Ed} {es xs:List Ed} {i:Nat} (h:PutAt e es i false xs) (hf:es[i]?=some f) (hc:cmpE e f=0):PutAt e es (i+1) true (xs++[f]):=by
 obtain ⟨h1,h2⟩:=h;refine ⟨by rw [take_snoc hf,putE_same h2 hc,h1],f,by rw [take_snoc hf];simp,?_⟩;have:=cmpE_zero.1 hc;subst this;exact LtE.irrefl _
theorem PutAt.lt {e f:Ed} {es xs:List Ed} {i:Nat} (h:PutAt e es i false xs) (hf:es[i]?=some f) (hc:cmpE e f < 0):PutAt e es (i+1) true (xs++[e]++[f]):=by
 obtain ⟨h1,h2⟩:=h;exact ⟨by rw [take_snoc hf,putE_ahead h2 hc,h1],f,by rw [take_snoc hf];simp,(cmpE_neg.1 hc).asymm⟩
theorem PutAt.gt {e f:Ed} {es xs:List Ed} {i:Nat} (h:PutAt e es i false xs) (hf:es[i]?=some f) (hc:0 < cmpE e f):PutAt e es (i+1) false (xs++[f]):=by
 obtain ⟨h1,h2⟩:=h;have hfe:LtE f e:=by
  rcases LtE.tri f e with h3 | rfl | h3
  ·exact h3
  ·have:=cmpE_zero.2 (rfl:f=f);omega
  ·have:=cmpE_neg.2 h3;omega
 refine ⟨by rw [take_snoc hf,h1],fun g hg=>?_⟩;rw [take_snoc hf] at hg;rcases List.mem_append.1 hg with hg | hg
 ·exact h2 g hg
 ·simp at hg;subst hg;exact hfe
theorem PutAt.len {e:Ed} {es xs:List Ed} {i:Nat} {p:Bool} (h:PutAt e es i p xs):xs.length≤es.length+1:=by
 have h3:(es.take i).length≤es.length:=by simp;omega
 cases p with
 | false=>have h1:xs=es.take i:=h.1;rw [h1];omega
 | true=>have h1:xs=putE e (es.take i):=h.1;have:=putE_len e (es.take i);rw [h1];omega
theorem PutAt.fin {e:Ed} {es xs:List Ed} (h:PutAt e es es.length true xs):xs=putE e es:=by
 have h1:xs=putE e (es.take es.length):=h.1
 rwa [List.take_length] at h1
theorem PutAt.fin' {e:Ed} {es xs:List Ed} (h:PutAt e es es.length false xs):xs++[e]=putE e es:=by
 have h1:xs=es.take es.length:=h.1;have h2:∀ g∈es.take es.length,LtE g e:=h.2;rw [List.take_length] at h1 h2;rw [h1,putE_all h2]
theorem spec_l4Put (A:Option Addr) (es:List Ed) (c:Nat) (e:Ed) (w:World) (lo hi:Nat) (hr:RG w lo hi A es) (hl:es.length≤1000000) :
  Calls Tryz.prog 138 #[.slice A es.length c,e.v] w fun en w'=>∃ A' c',en=.returned (.slice A' (putE e es).length c')∧OG w' w.heap.size w'.heap.size A' c' (putE e es)∧Mid 0 0 w w':=by
 have hm0:Mid 0 0 w ((w.alloc (.cells #[.int .i64 e.a,.int .i64 e.l,.int .i64 e.b] 110)).alloc (.cells #[] 110)):=(Mid.alloc _ _).trans (Mid.alloc _ _);have B0:=(Box.new w #[.int .i64 e.a,.int .i64 e.l,.int .i64 e.b] 110).mid (Mid.alloc _ (.cells #[] 110)) oZr;have O0:=owns_empty (w.alloc (.cells #[.int .i64 e.a,.int .i64 e.l,.int .i64 e.b] 110)) 110 3;rw [World.size_alloc] at O0;go_enter Tryz.func138,Tryz.ntmps138
 go_wp2_with fail;go_loopw [5,6,7,8] (fun out pl i _ wr=>∃ (k:Nat) (p:Bool) (A1:Option Addr) (c1 n1:Nat) (xs:List Ed),k≤es.length∧i=.int .i64 k∧pl=.bool p∧out=.slice A1 n1 c1∧Hid (PutAt e es k p xs)∧Hid (xs.length=n1) ∧
   wr.ownsRow (w.heap.size+1) 110 3 (.slice A1 n1 c1) n1 (ints (edI xs))∧Box wr w.heap.size [.int .i64 e.a,.int .i64 e.l,.int .i64 e.b]∧Mid 0 0 w wr∧w.heap.size+1≤wr.heap.size) (fun _ _ i _ _=>es.length - (intOf i).toNat)
 case atStart=>exact ⟨0,false,_,0,0,[],Nat.zero_le _,rfl,rfl,rfl,Lib.hid (PutAt.zero e es),Lib.hid rfl,O0,B0,hm0,by simp⟩
 case round =>
  obtain ⟨k,p,A1,c1,n1,xs,hk,rfl,rfl,rfl,HP,HN,hown,bx,hm,hsz⟩:=hrel;have hn1:n1≤1000001:=by have:=HP.out.len;have:=HN.out;omega
  have E0:=bx.cell 0 rfl;have E1:=bx.cell 1 rfl;have E2:=bx.cell 2 rfl;by_cases hlt:k < es.length
  ·have hrm:=hr.mid hm oZl
   obtain ⟨B,off,f,rfl, -,hbh,he,c0,cc1,c2⟩:=hrm.ed hlt;have zb:B < wr.heap.size:=Nat.lt_of_lt_of_le hbh hrm.1;have e0:=wg_cell bx.1 E0;have e1:=wg_cell bx.1 E1;have e2:=wg_cell bx.1 E2;have f0:=wg_cell zb c0;have f1:=wg_cell zb cc1;have f2:=wg_cell zb c2;have hk0:(0:Int)≤(k:Int):=by omega
   have hkn:(k:Int) < (es.length:Int):=by omega
   obtain ⟨v,hv⟩:∃ v,cmpE e f=v:=⟨_,rfl⟩
   have hQ:=fun W=>spec_CompareEdges e f W;rw [hv] at hQ;have HV:=Lib.hid hv;have HE:=Lib.hid he;have HB:Hid (B < wr.heap.size∧B < w.heap.size+1):=Lib.hid ⟨zb,by have:=hr.1;omega⟩;have C0:=Lib.hid c0;have C1:=Lib.hid cc1;have C2:=Lib.hid c2;clear hv he c0 cc1 c2 E0 E1 E2;go_wp2_with fail;refine wp_region_quiet_wg (by kernel_rfl) (by kernel_rfl) ?_;repeat
    (with_reducible refine wpQuiet_step (fun K hK=>?_))
    go_simp
    first
     | ((with_reducible refine hK _ ?_);clear hK K)
     | (rw [if_neg (by decide)];(with_reducible refine hK _ ?_);clear hK K)
     | (apply Exists.intro;refine ⟨fun _=>?_,hK _ ?_⟩;((go_at_call 206;exact Calls.wg_of (hQ _)));clear hK K)
   with_reducible refine wpQuiet_nil ?_
   intro _ hw';obtain ⟨⟨nq,osq⟩,hw''⟩:=hw';subst hw'';have hw:=Mid.ofWg wr nq osq;have hw2:=wg_size wr nq osq;have hmw:=hm.trans hw;have bxw:=bx.mid hw oZr;have hownw:=owns_mid hown hw oZl;have hszw:w.heap.size+1≤(wg wr nq osq).heap.size:=by omega
   have g0:=cell_keep hw zb oZr C0.out;have g1:=cell_keep hw zb oZr C1.out;have g2:=cell_keep hw zb oZr C2.out;clear hw2 e0 e1 e2 f0 f1 f2 hQ hrm hown bx hm zb hw C0 C1 C2;have HB:=Lib.hid (show B < (wg wr nq osq).heap.size∧B < w.heap.size+1 from ⟨by have:=HB.out.1;have:=wg_size wr nq osq;omega,HB.out.2⟩);generalize wg wr nq osq=wx at hmw bxw hownw hszw g0 g1 g2 HB ⊢;have e0:=bxw.cell 0 rfl;have e1:=bxw.cell 1 rfl;have e2:=bxw.cell 2 rfl;cases p with
   | true =>
    have HW:=Lib.hid hownw;clear hownw;rcases (by omega:v=0 ∨ v < 0 ∨ 0 < v) with hv | hv | hv
    ·subst hv
     go_wp2_with (at_builtin;refine wpList_pushE rfl _ _ rfl (w.heap.size+1) A1 n1 c1 xs rfl HW.out f rfl (by omega) hszw ?_;intro A2 c2 w2 hown2 hm2)
     go_roundw
     case rel=>exact ⟨k+1,true,A2,c2,n1+1,xs++[f],by omega,by go_num,rfl,rfl,Lib.hid (HP.out.on HE.out),Lib.hid (by rw [List.length_append,HN.out];rfl),hown2,bxw.mid hm2 (Or.inl (Nat.lt_succ_self _)),hmw.transNew hm2 (Or.inl (Nat.le_succ _)),Nat.le_trans hszw hm2.size⟩
     case measure=>simp [intOf];omega
    ·have hv1:(v == 0)=false:=by simp only [beq_eq_false_iff_ne];omega
     go_wp2_with (at_builtin;refine wpList_pushE rfl _ _ rfl (w.heap.size+1) A1 n1 c1 xs rfl HW.out f rfl (by omega) hszw ?_;intro A2 c2 w2 hown2 hm2)
     go_roundw
     case rel=>exact ⟨k+1,true,A2,c2,n1+1,xs++[f],by omega,by go_num,rfl,rfl,Lib.hid (HP.out.on HE.out),Lib.hid (by rw [List.length_append,HN.out];rfl),hown2,bxw.mid hm2 (Or.inl (Nat.lt_succ_self _)),hmw.transNew hm2 (Or.inl (Nat.le_succ _)),Nat.le_trans hszw hm2.size⟩
     case measure=>simp [intOf];omega
    ·have hv1:(v == 0)=false:=by simp only [beq_eq_false_iff_ne];omega
     go_wp2_with (at_builtin;refine wpList_pushE rfl _ _ rfl (w.heap.size+1) A1 n1 c1 xs rfl HW.out f rfl (by omega) hszw ?_;intro A2 c2 w2 hown2 hm2)
     go_roundw
     case rel=>exact ⟨k+1,true,A2,c2,n1+1,xs++[f],by omega,by go_num,rfl,rfl,Lib.hid (HP.out.on HE.out),Lib.hid (by rw [List.length_append,HN.out];rfl),hown2,bxw.mid hm2 (Or.inl (Nat.lt_succ_self _)),hmw.transNew hm2 (Or.inl (Nat.le_succ _)),Nat.le_trans hszw hm2.size⟩
     case measure=>simp [intOf];omega
   | false =>
    have HW:=Lib.hid hownw;clear hownw;rcases (by omega:v=0 ∨ v < 0 ∨ 0 < v) with hv | hv | hv
    ·subst hv
     go_wp2_with (at_builtin;refine wpList_pushE rfl _ _ rfl (w.heap.size+1) A1 n1 c1 xs rfl HW.out f rfl (by omega) hszw ?_;intro A2 c2 w2 hown2 hm2)
     go_roundw
     case rel=>exact ⟨k+1,true,A2,c2,n1+1,xs++[f],by omega,by go_num,rfl,rfl,Lib.hid (HP.out.eq HE.out HV.out),Lib.hid (by rw [List.length_append,HN.out];rfl),hown2,bxw.mid hm2 (Or.inl (Nat.lt_succ_self _)),hmw.transNew hm2 (Or.inl (Nat.le_succ _)),Nat.le_trans hszw hm2.size⟩
     case measure=>simp [intOf];omega
    ·have hv1:(v == 0)=false:=by simp only [beq_eq_false_iff_ne];omega
     have hvl:decide (v < 0)=true:=by simpa using hv
     go_wp2_with (first | (at_builtin;refine wpList_pushE rfl _ _ rfl (w.heap.size+1) A1 n1 c1 xs rfl HW.out e rfl (by omega) hszw ?_;intro A2 c2 w2 hown2 hm2;have g0':=cell_keep hm2 HB.out.1 (Or.inl HB.out.2) g0;have g1':=cell_keep hm2 HB.out.1 (Or.inl HB.out.2) g1;have g2':=cell_keep hm2 HB.out.1 (Or.inl HB.out.2) g2;have hsz2:=Nat.le_trans hszw hm2.size;have HW2:=Lib.hid hown2;clear hown2) | (at_builtin;refine wpList_pushE rfl _ _ rfl (w.heap.size+1) A2 (n1+1) c2 (xs++[e]) rfl HW2.out f rfl (by omega) hsz2 ?_;intro A3 c3 w3 hown3 hm3))
     go_roundw
     case rel=>exact ⟨k+1,true,A3,c3,n1+1+1,xs++[e]++[f],by omega,by go_num,rfl,rfl,Lib.hid (HP.out.lt HE.out (by rw [HV.out];exact hv)),Lib.hid (by rw [List.length_append,List.length_append,HN.out];rfl),hown3,(bxw.mid hm2 (Or.inl (Nat.lt_succ_self _))).mid hm3 (Or.inl (Nat.lt_succ_self _)),(hmw.transNew hm2 (Or.inl (Nat.le_succ _))).transNew hm3 (Or.inl (Nat.le_succ _)),Nat.le_trans hsz2 hm3.size⟩
     case measure=>simp [intOf];omega
    ·have hv1:(v == 0)=false:=by simp only [beq_eq_false_iff_ne];omega
     have hvl:decide (v < 0)=false:=by simp;omega
     go_wp2_with (at_builtin;refine wpList_pushE rfl _ _ rfl (w.heap.size+1) A1 n1 c1 xs rfl HW.out f rfl (by omega) hszw ?_;intro A2 c2 w2 hown2 hm2)
     go_roundw
     case rel=>exact ⟨k+1,false,A2,c2,n1+1,xs++[f],by omega,by go_num,rfl,rfl,Lib.hid (HP.out.gt HE.out (by rw [HV.out];exact hv)),Lib.hid (by rw [List.length_append,HN.out];rfl),hown2,bxw.mid hm2 (Or.inl (Nat.lt_succ_self _)),hmw.transNew hm2 (Or.inl (Nat.le_succ _)),Nat.le_trans hszw hm2.size⟩
     case measure=>simp [intOf];omega
  ·obtain rfl:k=es.length:=by omega
   cases p with
   | true =>
    go_wp2_with fail;go_ret;have hx:=HP.out.fin;obtain ⟨A2,c2,hv,hn,ho⟩:=OG.mk' hown;injection hv with hv1 hv2 hv3
    subst hv1 hv3;rw [hx] at ho hn;exact ⟨_,_,(by rw [hn];rfl),ho.wide (by omega) (Nat.le_refl _) (Nat.le_refl _),hm⟩
   | false =>
    have HW:=Lib.hid hown;go_wp2_with (at_builtin;refine wpList_pushE rfl _ _ rfl (w.heap.size+1) A1 n1 c1 xs rfl HW.out e rfl (by omega) hsz ?_;intro A2 c2 w2 hown2 hm2)
    have hx:=HP.out.fin';go_wp2_with fail;go_ret;obtain ⟨A3,c3,hv,hn,ho⟩:=OG.mk' hown2;injection hv with hv1 hv2 hv3
    subst hv1 hv3;rw [hx] at ho hn;exact ⟨_,_,(by rw [hn];rfl),ho.wide (by omega) (Nat.le_refl _) (Nat.le_refl _),hm.transNew hm2 (Or.inl (by omega))⟩
end
section
open Go.RowKit
section
variable {P:Program} {ops:Array Oper} {Q:Exit→Act→World→Prop} {md:Region.Mode} {S:World→Prop} {z:Nat}
def wpAnyT (P:Program) (md:Region.Mode) (ops:Array Oper) (Q:Exit→Act→World→Prop) (S:World→Prop) (z:Nat):Nat→Array Bool→Act→World→Prop
 | 0,listed,a,w=>Region.ready md ops listed=[]∧Q .normal a w
 | fuel+1,listed,a,w =>
  (Region.ready md ops listed=[]→Q .normal a w) ∧
  ∀ i∈Region.ready md ops listed,wpOp P ops Q i (fun a' w'=>(i=z ∨ S w')∧wpAnyT P md ops Q S z fuel (listed.setIfInBounds i true) a' w') a w
theorem wpAny_of_T:∀ (fuel:Nat) (listed:Array Bool) (a:Act) (w:World),wpAnyT P md ops Q S z fuel listed a w→wpAny P md ops Q fuel listed a w
 | 0,_,_,_,h=>h
 | fuel+1,_,_,_,h=>⟨h.1,fun i hi=>wpOp_mono (fun a' w' h'=>wpAny_of_T fuel _ a' w' h'.2) (h.2 i hi)⟩
theorem not_last {i:Nat} {listed:Array Bool} (hz:Region.waitsFor md ops z i=true) (hun:listed.getD i true=false):z ∉ Region.ready md ops listed:=by
 intro hr;obtain ⟨-,oz,hoz,hall⟩:=mem_ready.1 hr;obtain ⟨oz',hoz',e,he,hb,hon⟩:=Region.waitsFor_spec hz;obtain rfl:oz'=oz:=Option.some.inj (hoz'.symm.trans hoz);have h1:=hall e he hb;rw [hon,getD_both hun] at h1;cases h1
theorem wpAnyT_first {i:Nat} {oi:Oper} {v:Value} (hi:ops[i]?=some oi) (hsel:∀ (j:Nat) (o:Oper) cs b,ops[j]?=some o→o.op≠.select cs b)
  (hQ:∀ c a w,Q (.panic c) (a.put oi.dst v) w→Q (.panic c) a w) (hz:Region.waitsFor md ops z i=true) :
  ∀ (fuel:Nat) (listed:Array Bool) (a:Act) (w:World),
   (∀ j oj,ops[j]?=some oj→j≠i→listed.getD j true=false→(∀ e∈oj.after,Region.binds md e=true→e.on≠i)→oi.apart ops oj=true) →
   i∈Region.ready md ops listed→YieldsIf P ops S oi v a→S w →
   wpAnyT P md ops Q S z fuel (listed.setIfInBounds i true) (a.put oi.dst v) w→wpAnyT P md ops Q S z (fuel+1) listed a w:=by
 intro fuel
 induction fuel with
 | zero =>
  intro listed a w _ hr hy hS H;refine ⟨fun h=>(by rw [h] at hr;cases hr),fun j hj=>?_⟩;by_cases hji:j=i
  ·subst hji;exact hy.wpOp hi hS ⟨.inr hS,H⟩
  ·have:=ready_mono hj hji
   rw [H.1] at this;cases this
 | succ fuel ih =>
  intro listed a w hfree hr hy hS H;refine ⟨fun h=>(by rw [h] at hr;cases hr),fun j hj=>?_⟩;by_cases hji:j=i
  ·subst hji;exact hy.wpOp hi hS ⟨.inr hS,H⟩
  ·have hjz:j≠z:=fun e=>by
    subst e;exact not_last hz (mem_ready.1 hr).1 hj
   have h1:=H.2 j (ready_mono hj hji);obtain ⟨hjun,oj,hoj,hall⟩:=mem_ready.1 hj;have hnot:∀ e∈oj.after,Region.binds md e=true→e.on≠i:=fun e he hb heq=>by
    have h1:=hall e he hb;have h0:=(mem_ready.1 hr).1;rw [heq] at h1;rcases Nat.lt_or_ge i listed.size with h' | h'
    ·simp [h'] at h0 h1;rw [h0] at h1;cases h1
    ·simp [Array.getElem?_eq_none h'] at h1
   have h2:=wpOp_putIf hoj (hfree j oj hoj hji hjun hnot) (fun cs b=>hsel i oi cs b hi) (fun cs b=>hsel j oj cs b hoj) hQ hy h1;have hfree':∀ k ok,ops[k]?=some ok→k≠i→(listed.setIfInBounds j true).getD k true=false →
     (∀ e∈ok.after,Region.binds md e=true→e.on≠i)→oi.apart ops ok=true:=fun k ok hk hki hun hno=>by
    refine hfree k ok hk hki ?_ hno;by_cases hjk:j=k
    ·subst hjk;exact hjun
    ·rw [getD_set_ne true hjk] at hun;exact hun
   refine wpOp_mono (fun a' w' h3=>?_) h2;have hS':S w':=h3.2.1.resolve_left hjz;refine ⟨.inr hS',ih (listed.setIfInBounds j true) a' w' hfree' (ready_mono hr (Ne.symm hji)) h3.1 hS' ?_⟩;rw [Array.setIfInBounds_comm _ _ hji];exact h3.2.2
theorem wpAnyT_take {i:Nat} {oi:Oper} {v:Value} {fuel:Nat} {listed:Array Bool} {a:Act} {w:World} (hi:ops[i]?=some oi)
  (hs:Region.noSelect ops=true) (hf:Region.free md ops listed i=true) (hr:(Region.ready md ops listed).contains i=true) (hz:Region.waitsFor md ops z i=true)
  (hQ:∀ c a w,Q (.panic c) (a.put oi.dst v) w→Q (.panic c) a w) (hy:YieldsIf P ops S oi v a) (hS:S w)
  (h:wpAnyT P md ops Q S z fuel (listed.setIfInBounds i true) (a.put oi.dst v) w):wpAnyT P md ops Q S z (fuel+1) listed a w :=
 wpAnyT_first hi (Region.noSelect_spec hs) hQ hz fuel listed a w (Region.free_spec hi hf) (by simpa using hr) hy hS h
def AllReadyT (P:Program) (md:Region.Mode) (ops:Array Oper) (Q:Exit→Act→World→Prop) (S:World→Prop) (z fuel:Nat) (listed:Array Bool) (a:Act) (w:World) (rs:List Nat):Prop :=
 ∀ i∈rs,wpOp P ops Q i (fun a' w'=>(i=z ∨ S w')∧wpAnyT P md ops Q S z fuel (listed.setIfInBounds i true) a' w') a w
theorem AllReadyT.nil {fuel:Nat} {listed:Array Bool} {a:Act} {w:World}:AllReadyT P md ops Q S z fuel listed a w []:=fun _ h=>by cases h
theorem AllReadyT.cons {fuel:Nat} {listed:Array Bool} {a:Act} {w:World} {i:Nat} {o:Oper} {rs:List Nat} (ho:ops[i]?=some o)
  (h:∀ K':Act→World→Prop,Shut (∀ a w,(i=z ∨ S w)→((i=z ∨ S w)→wpAnyT P md ops Q S z fuel (listed.setIfInBounds i true) a w)→K' a w)→if Region.wanted o (yielded ops a.tmps)=true then Oper.wp P o a w K' Q else K' (a.put o.dst undef) w)
  (hs:AllReadyT P md ops Q S z fuel listed a w rs):AllReadyT P md ops Q S z fuel listed a w (i :: rs):=fun j hj=>by
 rcases List.mem_cons.1 hj with rfl | hj
 ·exact wpOp_step ho (fun K' hK=>h K' (fun a w hS hW=>hK a w ⟨hS,hW hS⟩))
 ·exact hs j hj
theorem wpAnyT_ready {rs:List Nat} {fuel:Nat} {listed:Array Bool} {a:Act} {w:World} (hr:Region.ready md ops listed=rs) (hne:rs≠[])
  (h:AllReadyT P md ops Q S z fuel listed a w rs):wpAnyT P md ops Q S z (fuel+1) listed a w :=
 ⟨fun h0=>absurd (hr.symm.trans h0) hne,fun i hi=>h i (hr ▸ hi)⟩
theorem wpAnyT_done {listed:Array Bool} {a:Act} {w:World} (hr:Region.ready md ops listed=[]) (h:Q .normal a w):∀ fuel,wpAnyT P md ops Q S z fuel listed a w
 | 0=>⟨hr,h⟩
 | _+1=>⟨fun _=>h,by rw [hr];simp⟩
theorem wp_region_T {id:Nat} {a:Act} {w:World} (z:Nat) (hm:P.follows .mixedOrders=true) (hS:S w.drew)
  (h:wpAnyT P .any ops Q S z ops.size (Array.replicate ops.size false) a w.drew):(Code.region id ops true).wp P Q a w :=
 wp_region_any hm (wpAny_of_T _ _ _ _ h)
end
end
section
variable {P:Program} {ops:Array Oper} {Q:Exit→Act→World→Prop} {md:Region.Mode} {S:World→Prop} {z:Nat}
theorem tkT (i:Nat) {oi:Oper} {v:Value} {fuel:Nat} {listed:Array Bool} {a:Act} {w:World} (hi:ops[i]?=some oi) (hS:S w)
 (h:wpAnyT P md ops Q S z fuel (listed.setIfInBounds i true) (a.put oi.dst v) w)
 (hs:Region.noSelect ops=true:=by kernel_rfl) (hf:Region.free md ops listed i=true:=by kernel_rfl) (hr:(Region.ready md ops listed).contains i=true:=by kernel_rfl) (hz:Region.waitsFor md ops z i=true:=by kernel_rfl)
 (hy:∀ w,S w→(execOp a.eval oi).run P w=.ok (.value v) w:=by intro w hSw;(try dsimp only at hSw);go_simp;try with_reducible rfl)
 (hQ:∀ c a w,Q (.panic c) (a.put oi.dst v) w→Q (.panic c) a w:=by exact fun _ _ _ h=>h) (hw:Region.wanted oi (yielded ops a.tmps)=true:=by rfl):wpAnyT P md ops Q S z (fuel+1) listed a w :=
 wpAnyT_take hi hs hf hr hz hQ (Or.inl ⟨hw,hy⟩) hS h
theorem rdT (i:Nat) {fuel:Nat} {listed:Array Bool} {a:Act} {w:World} {o:Oper} (ho:ops[i]?=some o)
 (h:∀ K':Act→World→Prop,Shut (∀ a w,(i=z ∨ S w)→((i=z ∨ S w)→wpAnyT P md ops Q S z fuel (listed.setIfInBounds i true) a w)→K' a w)→if Region.wanted o (yielded ops a.tmps)=true then Oper.wp P o a w K' Q else K' (a.put o.dst undef) w)
 (hr:Region.ready md ops listed=[i]:=by kernel_rfl):wpAnyT P md ops Q S z (fuel+1) listed a w:=wpAnyT_ready hr (by simp) (AllReadyT.cons ho h AllReadyT.nil)
end
section
open Go.RowKit
attribute [local go_sem ↓] Go.wp_at_zero Go.wp_at_succ
theorem owns_other {w w':World} {base:Nat} {e:TypeId} {size:Nat} {v:Value} {n:Nat} {xs:List Value} {k:Nat} (h:w.ownsRow base e size v n xs) (hg:w.grownBy w' (some k)) (hk:v.ownBlock≠some k):w'.ownsRow base e size v n xs :=
 h.kept hg (by
  cases hv:v.ownBlock with
  | none=>exact .inl rfl
  | some j=>exact .inr fun e=>hk (by rw [hv,e]))
theorem Box.grown {w w':World} {b:Nat} {cs:List Value} {row:Option Nat} (h:Box w b cs) (hg:w.grownBy w' row) (hb:row≠some b):Box w' b cs :=
 ⟨Nat.lt_of_lt_of_le h.1 hg.size,fun i u hu=>(World.cell?_of_block (hg.block b h.1 (fun e=>hb e.symm))).trans (h.2.1 i u hu),fun i=>(World.frozen?_of_block (hg.block b h.1 (fun e=>hb e.symm))).trans (h.2.2 i)⟩
end
section
open Go.RowKit Go.Sort
section
variable {W:World} {ops:Array Oper} {rest:List Oper} {o:Oper} {a:Act} {Q:Exit→Act→World→Prop}
theorem wpList_pushI (hgd:o.guard=none) (s x:Operand)
  (ho:o.op=.call { callee:=.builtin .append,args:=#[s,x],argTypes:=#[44,44] }) (lo:Nat) (A:Option Addr) (n c:Nat) (xs:List Int) (hs:a.eval s=.slice A n c)
  (hown:W.ownsRow lo 3 1 (.slice A n c) n (ints xs)) (y:Int) (hx:a.eval x=.slice (some ⟨W.heap.size,0,none⟩) 1 1) (hn:n≤1048576) (hb:lo≤W.heap.size)
  (h:∀ A' c' w',w'.ownsRow lo 3 1 (.slice A' (n+1) c') (n+1) (ints (xs++[y]))→Mid lo W.heap.size W w'→wpList Tryz.prog ops Q rest (a.put o.dst (.slice A' (n+1) c')) w') :
  wpList Tryz.prog ops Q (o :: rest) a (W.alloc (.cells #[.int .i64 y] 3)):=by
 refine wpList_push (news:=[.int .i64 y]) hgd s x 44 ho lo 3 (.int .i64 0) 1 8 undSI infoI rfl (by decide) (.slice A n c) n (ints xs) hs hown 1 hx rfl ?_ (by unfold maxLen;omega) (by omega) hb ?_
 ·intro u hu
  simp at hu;subst hu
  rfl
 ·intro v' w' h1 h2 _
  obtain ⟨A',c',rfl, -, -⟩:=owns_shape h1;refine h A' c' w' ?_ (Mid.of_grownRow hown h2);rw [ints_append];exact h1
end
theorem ends_take {es:List Ed} {k:Nat} {e:Ed} (h:es[k]?=some e) (v x:Int):ends (es.take (k+1)) v x=ends (es.take k) v x++(endOf v x e).toList:=by
 rw [take_snoc h,ends,List.filterMap_append];cases hd:endOf v x e <;> simp [ends,hd]
theorem endOf_cases (v x:Int) (e:Ed):(endOf v x e=some e.b∧(0 < x∧e.l=x∧e.a=v)) ∨ (endOf v x e=some e.a∧¬ (0 < x∧e.l=x∧e.a=v)∧(x < 0∧e.l = -x∧e.b=v)) ∨ (endOf v x e=none∧¬ (0 < x∧e.l=x∧e.a=v)∧¬ (x < 0∧e.l = -x∧e.b=v)):=by
 unfold endOf;split
 ·rename_i h1
  exact Or.inl ⟨rfl,h1⟩
 ·rename_i h1
  split
  ·rename_i h2
   exact Or.inr (Or.inl ⟨rfl,h1,h2⟩)
  ·rename_i h2
   exact Or.inr (Or.inr ⟨rfl,h1,h2⟩)
theorem compact_head (x:Int) (t:List Int):∃ t',Lib.compact (x :: t)=x :: t':=by
 refine ⟨((List.range' 1 t.length).filter (Lib.keeps (x :: t).toArray)).map ((x :: t).toArray[·]!),?_⟩;unfold Lib.compact Lib.compactUpTo;rw [show (x :: t).length=t.length+1 from rfl,List.range_eq_range',List.range'_succ,List.filter_cons,if_pos (Lib.keeps_lt_one _ 0 (by omega)),List.map_cons]
 rfl
theorem compact_len (zs:List Int):(Lib.compact zs).length≤zs.length:=by
 unfold Lib.compact Lib.compactUpTo;rw [List.length_map];exact Nat.le_trans (List.length_filter_le _ _) (by simp)
def StepsIs (es:List Ed) (v x:Int) (zs:List Int):Prop:=(ends es v x=[]→zs=[])∧(ends es v x≠[]→∃ t,zs=nextV es v x :: t)∧zs.length≤es.length
theorem sorted_head {l zs:List Int} (hp:zs.Perm l) (hs:zs.Pairwise (·≤·)) (hn:l≠[]):∃ t,zs=leastI l :: t:=by
 cases zs with
 | nil=>exact absurd hp.symm.eq_nil hn
 | cons z t =>
  refine ⟨t,?_⟩;obtain ⟨h1, -⟩:=List.pairwise_cons.1 hs;rw [leastI_eq (x:=z) (hp.mem_iff.1 (by simp)) fun y hy=>?_];rcases List.mem_cons.1 (hp.mem_iff.2 hy) with rfl | h
  ·exact Int.le_refl _
  ·exact h1 y h
theorem stepsIs_sort (es:List Ed) (v x:Int):StepsIs es v x (Lib.compact ((ends es v x).mergeSort fun x y=>decide (x≤y))):=by
 have hp:=List.mergeSort_perm (ends es v x) (fun x y=>decide (x≤y));have hs:((ends es v x).mergeSort fun x y=>decide (x≤y)).Pairwise (·≤·):=by
  have:=List.pairwise_mergeSort (le:=fun x y:Int=>decide (x≤y)) (by intro a b c h1 h2;simp at *;omega) (by intro a b;simp;omega) (ends es v x);exact this.imp fun h=>by simpa using h
 refine ⟨fun h=>?_,fun h=>?_,?_⟩
 ·rw [h]
  simp [Lib.compact,Lib.compactUpTo]
 ·obtain ⟨t,ht⟩:=sorted_head hp hs h
  rw [ht];exact compact_head _ _
 ·have h1:=compact_len ((ends es v x).mergeSort fun x y=>decide (x≤y))
  have h2:=ends_len es v x;rw [hp.length_eq] at h1;omega
theorem compactI (A:Option Addr) (xs:List Int) (n c:Nat) (w:World) (lo:Nat) (hn:xs.length=n) (ho:w.ownsRow lo 3 1 (.slice A n c) n (ints xs)) (hl:n≤1048576) :
  Calls Tryz.prog 249 #[.slice A n c] w fun e w'=>e=.returned (.slice A (Lib.compact xs).length c)∧w'.ownsRow lo 3 1 (.slice A (Lib.compact xs).length c) (Lib.compact xs).length (ints (Lib.compact xs))∧w.grownBy w' (Value.ownBlock (.slice A n c)):=by
 subst hn;by_cases hv:Value.slice A xs.length c=.slice none 0 0
 ·injection hv with h1 h2 h3
  obtain rfl:=List.eq_nil_of_length_eq_zero h2;subst h1 h3;refine (Tryz.slices_Compact_int_empty none 0 w).mono ?_;rintro e w' ⟨rfl,rfl⟩;exact ⟨rfl,ho,World.grownBy.refl _ _⟩
 ·obtain ⟨g,cap,he,hb,hg,hn,hm,hz,hH⟩:=Lib.holds_of_ownsRow (enc:=Value.int .i64) (zs:=xs) ho hv
  injection he with h1 _ h3
  subst h1 h3;refine (Tryz.slices_Compact_int g 0 c xs w hH (by omega) hn).mono ?_;rintro e w' ⟨rfl,q,rfl⟩;have hle:=compact_len xs;have hlen:(Lib.compact xs++List.replicate (xs.length - (Lib.compact xs).length) 0).length=xs.length:=by simp;omega
  have h2:=Lib.ownsRow_putRow (enc:=Value.int .i64) (q:=q) (k:=(Lib.compact xs).length) (ys:=Lib.compact xs++List.replicate (xs.length - (Lib.compact xs).length) 0) ho hlen hle;rw [List.take_left] at h2;refine ⟨rfl,h2,?_⟩;refine ⟨rfl,rfl,rfl,by simp [putRow,mapBlock,Sort.ahead],fun k hk hne=>?_⟩;have:g≠k:=fun e=>hne (by rw [e];rfl);simp [putRow,mapBlock,Sort.ahead,Array.getElem?_modify,this]
theorem sortN (A:Option Addr) (xs:List Int) (n c:Nat) (w:World) (lo:Nat) (hn:xs.length=n) (ho:w.ownsRow lo 3 1 (.slice A n c) n (ints xs)) (hl:n≤1048576) :
  Calls Tryz.prog 248 #[.slice A n c] w fun e w'=>e=.returned (.tuple #[])∧w'.ownsRow lo 3 1 (.slice A n c) n (ints (xs.mergeSort fun x y=>decide (x≤y)))∧w.grownBy w' (Value.ownBlock (.slice A n c)):=by
 subst hn;refine (sortI A xs c w lo ho hl).mono ?_;rintro e w' ⟨he,h1,h2⟩;rw [List.length_mergeSort] at h1 h2;exact ⟨he,h1,h2⟩
theorem impl_StepsFrom (r s:Int) (A:Option Addr) (es:List Ed) (c:Nat) (v x:Int) (w:World) (lo hi:Nat) (hr:RG w lo hi A es) (hl:es.length≤1000000) (hg:∀ e∈es,1≤e.l∧e.l≤3) (hx1:-9223372036854775808≤x) (hx2:x≤9223372036854775807) :
  Calls Tryz.prog 202 #[.agg #[.int .i64 r,.int .i64 s,.slice A es.length c],.int .i64 v,.int .i64 x] w fun e w'=>∃ A' c' zs,e=.returned (.slice A' zs.length c')∧RV w' 0 w'.heap.size A' (ints zs)∧StepsIs es v x zs∧Mid 0 0 w w':=by
 have hm0:Mid 0 0 w ((w.alloc (.cells #[.int .i64 r,.int .i64 s,.slice A es.length c] 35)).alloc (.cells #[] 3)):=(Mid.alloc _ _).trans (Mid.alloc _ _);have B0:=(Box.new w #[.int .i64 r,.int .i64 s,.slice A es.length c] 35).mid (Mid.alloc _ (.cells #[] 3)) oZr;have O0:=owns_empty (w.alloc (.cells #[.int .i64 r,.int .i64 s,.slice A es.length c] 35)) 3 1;rw [World.size_alloc] at O0;go_enter Tryz.func202,Tryz.ntmps202
 go_wp2_with fail;go_loopw [7,14] (fun out i wr=>∃ (k:Nat) (A1:Option Addr) (c1 n1:Nat),k≤es.length∧i=.int .i64 k∧out=.slice A1 n1 c1∧Hid ((ends (es.take k) v x).length=n1) ∧
   wr.ownsRow (w.heap.size+1) 3 1 (.slice A1 n1 c1) n1 (ints (ends (es.take k) v x))∧Mid 0 0 w wr∧w.heap.size+1≤wr.heap.size) (fun _ i _=>es.length - (intOf i).toNat)
 case atStart=>exact ⟨0,_,0,0,Nat.zero_le _,rfl,rfl,Lib.hid (by simp [ends]),by simpa [ends,ints] using O0,hm0,by simp⟩
 case round =>
  obtain ⟨k,A1,c1,n1,hk,rfl,rfl,HN,hown,hm,hsz⟩:=hrel;have hn1:n1≤1000000:=by
   have h1:=ends_len (es.take k) v x;have h2:=HN.out;simp at h1;omega
  by_cases hlt:k < es.length
  ·obtain ⟨B,off,e,rfl, -,hbh,he,e0,e1,e2⟩:=(hr.mid hm oZl).ed hlt
   obtain ⟨l1,l3⟩:=hg e (List.mem_of_getElem? he);have het:=ends_take he v x;have hal:=Mid.alloc wr (.cells #[.int .i64 e.a,.int .i64 e.l,.int .i64 e.b] 110);have hown1:=hown.alloc (.cells #[.int .i64 e.a,.int .i64 e.l,.int .i64 e.b] 110);have hm1:=hm.trans hal;have hsz1:w.heap.size+1≤(wr.alloc (.cells #[.int .i64 e.a,.int .i64 e.l,.int .i64 e.b] 110)).heap.size:=by simp;omega
   have HET:=Lib.hid het;have hkn:(k:Int) < (es.length:Int):=by omega
   clear he het;rcases (endOf_cases v x e:(endOf v x e=some e.b∧(0 < x∧e.l=x∧e.a=v)) ∨ (endOf v x e=some e.a∧¬ (0 < x∧e.l=x∧e.a=v)∧(x < 0∧e.l = -x∧e.b=v)) ∨ (endOf v x e=none∧¬ (0 < x∧e.l=x∧e.a=v)∧¬ (x < 0∧e.l = -x∧e.b=v))) with ⟨hv,h1⟩ | ⟨hv,h1,h2⟩ | ⟨hv,h1,h2⟩
   ·have HW:=Lib.hid hown1
    clear hown hown1;obtain ⟨p1,p2,p3⟩:=h1;have b1:decide (0 < x)=true:=by simpa using p1
    have b2:(e.l == x)=true:=by simpa using p2
    have b3:(e.a == v)=true:=by simpa using p3
    clear p1 p2 p3;go_wp2_with (at_builtin;refine wpList_pushI rfl _ _ rfl (w.heap.size+1) A1 n1 c1 _ rfl HW.out e.b (by rw [World.size_alloc];rfl) (by omega) hsz1 ?_;intro A2 c2 w2 hown2 hm2)
    go_roundw
    case rel=>exact ⟨k+1,A2,c2,n1+1,by omega,by go_num,rfl,Lib.hid (by rw [HET.out,hv,List.length_append,HN.out];rfl),(by rw [HET.out,hv];exact hown2),hm1.transNew hm2 (Or.inl (Nat.le_succ _)),Nat.le_trans hsz1 hm2.size⟩
    case measure=>simp [intOf];omega
   ·have HW:=Lib.hid hown1
    clear hown hown1;obtain ⟨p1,p2,p3⟩:=h2;have b1:decide (0 < x)=false:=by simp;omega
    have b0:decide (x < 0)=true:=by simpa using p1
    have b2:(x == -9223372036854775808)=false:=by simp only [beq_eq_false_iff_ne];omega
    have b2n:(x != -9223372036854775808)=true:=by simp only [bne_iff_ne,ne_eq];omega
    have b4:wrap64 (-x) = -x:=by unfold wrap64;omega
    have b5:(e.l == -x)=true:=by simpa using p2
    have b3:(e.b == v)=true:=by simpa using p3
    clear h1 p1 p2 p3;go_wp2_with (at_builtin;refine wpList_pushI rfl _ _ rfl (w.heap.size+1) A1 n1 c1 _ rfl HW.out e.a (by rw [World.size_alloc];rfl) (by omega) hsz1 ?_;intro A2 c2 w2 hown2 hm2)
    go_roundw
    case rel=>exact ⟨k+1,A2,c2,n1+1,by omega,by go_num,rfl,Lib.hid (by rw [HET.out,hv,List.length_append,HN.out];rfl),(by rw [HET.out,hv];exact hown2),hm1.transNew hm2 (Or.inl (Nat.le_succ _)),Nat.le_trans hsz1 hm2.size⟩
    case measure=>simp [intOf];omega
   ·have HW:=Lib.hid hown1
    clear hown hown1;rcases (by omega:0 < x ∨ x < 0 ∨ x=0) with p1 | p1 | p1
    ·have b1:decide (0 < x)=true:=by simpa using p1
     have b0:decide (x < 0)=false:=by simp;omega
     by_cases p2:e.l=x
     ·have b2:(e.l == x)=true:=by simpa using p2
      have b3:(e.a == v)=false:=by simp only [beq_eq_false_iff_ne];exact fun h=>h1 ⟨p1,p2,h⟩
      clear h1 h2 p1 p2;go_wp2_with fail;go_roundw
      case rel=>exact ⟨k+1,A1,c1,n1,by omega,by go_num,rfl,Lib.hid (by rw [HET.out,hv];simpa using HN.out),(by rw [HET.out,hv];simpa using HW.out),hm1,hsz1⟩
      case measure=>simp [intOf];omega
     ·have b2:(e.l == x)=false:=by simpa only [beq_eq_false_iff_ne] using p2
      clear h1 h2 p1 p2;go_wp2_with fail;go_roundw
      case rel=>exact ⟨k+1,A1,c1,n1,by omega,by go_num,rfl,Lib.hid (by rw [HET.out,hv];simpa using HN.out),(by rw [HET.out,hv];simpa using HW.out),hm1,hsz1⟩
      case measure=>simp [intOf];omega
    ·have b1:decide (0 < x)=false:=by simp;omega
     have b0:decide (x < 0)=true:=by simpa using p1
     by_cases p4:x = -9223372036854775808
     ·subst p4
      clear h1 h2 p1;go_wp2_with fail;go_roundw
      case rel=>exact ⟨k+1,A1,c1,n1,by omega,by go_num,rfl,Lib.hid (by rw [HET.out,hv];simpa using HN.out),(by rw [HET.out,hv];simpa using HW.out),hm1,hsz1⟩
      case measure=>simp [intOf];omega
     ·have b2:(x == -9223372036854775808)=false:=by simpa only [beq_eq_false_iff_ne] using p4
      have b2n:(x != -9223372036854775808)=true:=by simpa only [bne_iff_ne,ne_eq] using p4
      have b4:wrap64 (-x) = -x:=by unfold wrap64;omega
      by_cases p2:e.l = -x
      ·have b5:(e.l == -x)=true:=by simpa using p2
       have b3:(e.b == v)=false:=by simp only [beq_eq_false_iff_ne];exact fun h=>h2 ⟨p1,p2,h⟩
       clear h1 h2 p1 p2;go_wp2_with fail;go_roundw
       case rel=>exact ⟨k+1,A1,c1,n1,by omega,by go_num,rfl,Lib.hid (by rw [HET.out,hv];simpa using HN.out),(by rw [HET.out,hv];simpa using HW.out),hm1,hsz1⟩
       case measure=>simp [intOf];omega
      ·have b5:(e.l == -x)=false:=by simpa only [beq_eq_false_iff_ne] using p2
       clear h1 h2 p1 p2;go_wp2_with fail;go_roundw
       case rel=>exact ⟨k+1,A1,c1,n1,by omega,by go_num,rfl,Lib.hid (by rw [HET.out,hv];simpa using HN.out),(by rw [HET.out,hv];simpa using HW.out),hm1,hsz1⟩
       case measure=>simp [intOf];omega
    ·subst p1
     clear h1 h2;go_wp2_with fail;go_roundw
     case rel=>exact ⟨k+1,A1,c1,n1,by omega,by go_num,rfl,Lib.hid (by rw [HET.out,hv];simpa using HN.out),(by rw [HET.out,hv];simpa using HW.out),hm1,hsz1⟩
     case measure=>simp [intOf];omega
  ·obtain rfl:k=es.length:=by omega
   rw [List.take_length] at HN hown;have hq:=sortN A1 _ n1 c1 wr _ HN.out hown (by omega);have hlen:((ends es v x).mergeSort fun x y=>decide (x≤y)).length=n1:=by rw [List.length_mergeSort];exact HN.out
   have hst:=stepsIs_sort es v x;go_wp2_with fail;with_reducible refine (hq).mono ?_
   rintro en w2 ⟨rfl,hown2,hm2⟩;go_wp2_with fail;with_reducible refine (compactI A1 _ n1 c1 w2 _ hlen hown2 (by omega)).mono ?_
   rintro en w3 ⟨rfl,hown3,hm3⟩;have hmm:=hm.transNew (Mid.of_grownRow hown hm2) (Or.inl (by omega));go_wp2_with fail;go_ret;exact ⟨A1,c1,_,rfl,(OV.rv (lo:=w.heap.size+1) ⟨Nat.le_refl _,hown3,fun g hg=>(hown3.lt g hg).2⟩).wide (Nat.zero_le _) (Nat.le_refl _) (Nat.le_refl _),hst,hmm.transNew (Mid.of_grownRow hown2 hm3) (Or.inl (by omega))⟩
theorem impl_NextVertex (r s:Int) (A:Option Addr) (es:List Ed) (c:Nat) (v x:Int) (w:World) (lo hi:Nat) (hr:RG w lo hi A es) (hl:es.length≤1000000) (hg:∀ e∈es,1≤e.l∧e.l≤3) (hx1:-9223372036854775808≤x) (hx2:x≤9223372036854775807) :
  Calls Tryz.prog 135 #[.agg #[.int .i64 r,.int .i64 s,.slice A es.length c],.int .i64 v,.int .i64 x] w fun e w'=>e=.returned (.int .i64 (nextV es v x))∧Mid 0 0 w w':=by
 go_enter Tryz.func135,Tryz.ntmps135
 have hal:=Mid.alloc w (.cells #[.int .i64 r,.int .i64 s,.slice A es.length c] 35);go_wp2_with fail;with_reducible refine (impl_StepsFrom r s A es c v x _ lo hi (hr.mid hal oZl) hl hg hx1 hx2).mono ?_
 rintro en w2 ⟨A2,c2,zs,rfl,hrv,⟨h1,h2,h3⟩,hm⟩;have hm:=hal.trans hm;generalize hn:zs.length=n;by_cases h0:ends es v x=[]
 ·obtain rfl:n=0:=by rw [← hn,h1 h0];rfl
  go_wp2_with fail;go_ret;exact ⟨by rw [nextV_none h0];rfl,hm⟩
 ·obtain ⟨t,ht⟩:=h2 h0
  obtain ⟨g,off,rfl, -, -,hc⟩:=hrv.2 (by rw [ht];simp [ints]);have c0:=hc 0 (.int .i64 (nextV es v x)) (by rw [ht];simp [ints]);rw [Nat.add_zero] at c0;have hn0:0 < n:=by rw [← hn,ht];simp
  have hz:((n:Int) == 0)=false:=by simp only [beq_eq_false_iff_ne];omega
  have hp:(0:Int) < (n:Int):=by omega
  clear hn ht hc h1 h2 h3 hrv;go_wp2_with fail;go_ret;exact ⟨rfl,hm⟩
end
section
open Go.RowKit
def putI (x:Int):List Int→List Int
 | []=>[x]
 | y :: t=>if x < y then x :: y :: t else if x=y then y :: t else y :: putI x t
theorem mem_putI {x y:Int} {l:List Int}:y∈putI x l↔y=x ∨ y∈l:=by
 induction l with
 | nil=>simp [putI]
 | cons z t ih =>
  rw [putI];split
  ·simp
  ·split
   ·rename_i h
    subst h;simp
   ·rw [List.mem_cons,ih,List.mem_cons]
    constructor
    ·rintro (h | h | h)
     ·exact .inr (.inl h)
     ·exact .inl h
     ·exact .inr (.inr h)
    ·rintro (h | h | h)
     ·exact .inr (.inl h)
     ·exact .inl h
     ·exact .inr (.inr h)
theorem putI_sorted {x:Int} {l:List Int} (h:l.Pairwise (· < ·)):(putI x l).Pairwise (· < ·):=by
 induction l with
 | nil=>simp [putI]
 | cons z t ih =>
  obtain ⟨h1,h2⟩:=List.pairwise_cons.1 h;rw [putI];split
  ·rename_i hlt
   refine List.pairwise_cons.2 ⟨fun y hy=>?_,h⟩;rcases List.mem_cons.1 hy with rfl | hy
   ·exact hlt
   ·have:=h1 y hy
    omega
  ·split
   ·exact h
   ·refine List.pairwise_cons.2 ⟨fun y hy=>?_,ih h2⟩
    rcases mem_putI.1 hy with rfl | hy
    ·omega
    ·exact h1 y hy
theorem putI_len (x:Int) (l:List Int):(putI x l).length≤l.length+1:=by
 induction l with
 | nil=>simp [putI]
 | cons z t ih =>
  rw [putI];split
  ·simp
  ·split
   ·simp
   ·simp;omega
theorem putI_all {x:Int} {xs:List Int} (h:∀ y∈xs,y < x):putI x xs=xs++[x]:=by
 induction xs with
 | nil=>rfl
 | cons y t ih =>
  have hy:=h y (by simp);rw [putI,if_neg (by omega),if_neg (by omega),ih fun f hf=>h f (by simp [hf])]
  rfl
theorem putI_same {x:Int} {xs:List Int} (h:∀ y∈xs,y < x):putI x (xs++[x])=xs++[x]:=by
 induction xs with
 | nil=>simp [putI]
 | cons y t ih =>
  have hy:=h y (by simp);rw [List.cons_append,putI,if_neg (by omega),if_neg (by omega),ih fun f hf=>h f (by simp [hf])]
theorem putI_ahead {x f:Int} {xs:List Int} (h:∀ y∈xs,y < x) (hf:x < f):putI x (xs++[f])=xs++[x]++[f]:=by
 induction xs with
 | nil=>simp [putI,hf]
 | cons y t ih =>
  have hy:=h y (by simp);rw [List.cons_append,putI,if_neg (by omega),if_neg (by omega),ih fun f hf=>h f (by simp [hf])];simp
theorem putI_done {x f:Int} {xs:List Int} (h:∃ y∈xs,¬ y < x):putI x (xs++[f])=putI x xs++[f]:=by
 induction xs with
 | nil=>obtain ⟨g,hg, -⟩:=h;simp at hg
 | cons y t ih =>
  rw [List.cons_append,putI,putI];split
  ·simp
  ·split
   ·simp
   ·rename_i h1 h2
    rw [ih]
    ·simp
    ·obtain ⟨g',hg',hn⟩:=h
     rcases List.mem_cons.1 hg' with rfl | hg'
     ·omega
     ·exact ⟨g',hg',hn⟩
theorem take_snocI {l:List Int} {k:Nat} {x:Int} (h:l[k]?=some x):l.take (k+1)=l.take k++[x]:=by
 obtain ⟨hk,h'⟩:=List.getElem?_eq_some_iff.1 h;rw [List.take_succ_eq_append_getElem hk,h']
def AddAt (x:Int) (l:List Int) (i:Nat) (p:Bool) (xs:List Int):Prop :=
 if p=true then xs=putI x (l.take i)∧∃ y∈l.take i,¬ y < x else xs=l.take i∧∀ y∈l.take i,y < x
section
variable {x f:Int} {l xs:List Int} {i:Nat}
theorem AddAt.zero (x:Int) (l:List Int):AddAt x l 0 false []:=⟨by simp,by simp⟩
theorem AddAt.on (h:AddAt x l i true xs) (hf:l[i]?=some f):AddAt x l (i+1) true (xs++[f]):=by
 obtain ⟨h1,h2⟩:=h;refine ⟨by rw [take_snocI hf,putI_done h2,h1],?_⟩;obtain ⟨g,hg,hn⟩:=h2;exact ⟨g,by rw [take_snocI hf];simp [hg],hn⟩
theorem AddAt.eq (h:AddAt x l i false xs) (hf:l[i]?=some f) (hc:f=x):AddAt x l (i+1) true (xs++[f]):=by
 obtain ⟨h1,h2⟩:=h;subst hc;exact ⟨by rw [take_snocI hf,putI_same h2,h1],f,by rw [take_snocI hf];simp,by omega⟩
theorem AddAt.lt (h:AddAt x l i false xs) (hf:l[i]?=some f) (hc:x < f):AddAt x l (i+1) true (xs++[x]++[f]):=by
 obtain ⟨h1,h2⟩:=h;exact ⟨by rw [take_snocI hf,putI_ahead h2 hc,h1],f,by rw [take_snocI hf];simp,by omega⟩
theorem AddAt.gt (h:AddAt x l i false xs) (hf:l[i]?=some f) (hc:f < x):AddAt x l (i+1) false (xs++[f]):=by
 obtain ⟨h1,h2⟩:=h;refine ⟨by rw [take_snocI hf,h1],fun g hg=>?_⟩;rw [take_snocI hf] at hg;rcases List.mem_append.1 hg with hg | hg
 ·exact h2 g hg
 ·simp at hg;subst hg;exact hc
theorem AddAt.len {p:Bool} (h:AddAt x l i p xs):xs.length≤l.length+1:=by
 have h3:(l.take i).length≤l.length:=by simp;omega
 cases p with
 | false=>have h1:xs=l.take i:=h.1;rw [h1];omega
 | true=>have h1:xs=putI x (l.take i):=h.1;have:=putI_len x (l.take i);rw [h1];omega
theorem AddAt.fin (h:AddAt x l l.length true xs):xs=putI x l:=by
 have h1:xs=putI x (l.take l.length):=h.1
 rwa [List.take_length] at h1
theorem AddAt.fin' (h:AddAt x l l.length false xs):xs++[x]=putI x l:=by
 have h1:xs=l.take l.length:=h.1;have h2:∀ g∈l.take l.length,g < x:=h.2;rw [List.take_length] at h1 h2;rw [h1,putI_all h2]
end
theorem RV.at {w:World} {lo hi:Nat} {A:Option Addr} {l:List Int} {k:Nat} (h:RV w lo hi A (ints l)) (hk:k < l.length) :
  ∃ b off f,A=some ⟨b,off,none⟩∧b < hi∧l[k]?=some f∧w.cell? ⟨b,off+k,none⟩=some (.int .i64 f):=by
 obtain ⟨b,off,rfl, -,hb,hc⟩:=h.2 (by intro h;simp [ints] at h;subst h;simp at hk);exact ⟨b,off,l[k],rfl,hb,List.getElem?_eq_getElem hk,hc k _ (by simp [ints,hk])⟩
theorem owns_rv {w:World} {lo n c:Nat} {A:Option Addr} {e:TypeId} {size:Nat} {cs:List Value} (h:w.ownsRow lo e size (.slice A n c) n cs):RV w lo w.heap.size A cs :=
 OV.rv (c:=c) (n:=n) (e:=e) (size:=size) ⟨Nat.le_refl _,h,fun g hg=>(h.lt g hg).2⟩
theorem spec_l4Add (A:Option Addr) (l:List Int) (c:Nat) (x:Int) (w:World) (lo hi:Nat) (hr:RV w lo hi A (ints l)) (hl:l.length≤1000000) :
  Calls Tryz.prog 247 #[.slice A l.length c,.int .i64 x] w fun en w'=>∃ A' c',en=.returned (.slice A' (putI x l).length c')∧RV w' 0 w'.heap.size A' (ints (putI x l))∧Mid 0 0 w w':=by
 have hm0:Mid 0 0 w (w.alloc (.cells #[] 3)):=Mid.alloc _ _;have O0:=owns_empty w 3 1;go_enter Tryz.func247,Tryz.ntmps247
 go_wp2_with fail;go_loopw [5,6,7] (fun out pl i wr=>∃ (k:Nat) (p:Bool) (A1:Option Addr) (c1 n1:Nat) (xs:List Int),k≤l.length∧i=.int .i64 k∧pl=.bool p∧out=.slice A1 n1 c1∧Hid (AddAt x l k p xs)∧Hid (xs.length=n1) ∧
   wr.ownsRow w.heap.size 3 1 (.slice A1 n1 c1) n1 (ints xs)∧Mid 0 0 w wr∧w.heap.size≤wr.heap.size) (fun _ _ i _=>l.length - (intOf i).toNat)
 case atStart=>exact ⟨0,false,_,0,0,[],Nat.zero_le _,rfl,rfl,rfl,Lib.hid (AddAt.zero x l),Lib.hid rfl,O0,hm0,hm0.size⟩
 case round =>
  obtain ⟨k,p,A1,c1,n1,xs,hk,rfl,rfl,rfl,HP,HN,hown,hm,hsz⟩:=hrel;have hn1:n1≤1000001:=by have:=HP.out.len;have:=HN.out;omega
  by_cases hlt:k < l.length
  ·obtain ⟨B,off,f,rfl,hbh,he,c0⟩:=(hr.mid hm oZl).at hlt
   have hk0:(0:Int)≤(k:Int):=by omega
   have hkn:(k:Int) < (l.length:Int):=by omega
   have HE:=Lib.hid he;have HB:B < wr.heap.size∧B < w.heap.size:=by have:=hr.1;omega
   have HW:=Lib.hid hown;clear he hown;cases p with
   | true =>
    rcases (by omega:f=x ∨ f < x ∨ x < f) with hv | hv | hv
    ·have b1:(f == x)=true:=by simpa using hv
     have b2:decide (x < f)=false:=by simp;omega
     clear hv;go_wp2_with (at_builtin;refine wpList_pushI rfl _ _ rfl w.heap.size A1 n1 c1 xs rfl HW.out f rfl (by omega) hsz ?_;intro A2 c2 w2 hown2 hm2)
     go_roundw
     case rel=>exact ⟨k+1,true,A2,c2,n1+1,xs++[f],by omega,by go_num,rfl,rfl,Lib.hid (HP.out.on HE.out),Lib.hid (by rw [List.length_append,HN.out];rfl),hown2,hm.transNew hm2 (Or.inl (Nat.le_refl _)),Nat.le_trans hsz hm2.size⟩
     case measure=>simp [intOf];omega
    ·have b1:(f == x)=false:=by simp only [beq_eq_false_iff_ne];omega
     have b2:decide (x < f)=false:=by simp;omega
     clear hv;go_wp2_with (at_builtin;refine wpList_pushI rfl _ _ rfl w.heap.size A1 n1 c1 xs rfl HW.out f rfl (by omega) hsz ?_;intro A2 c2 w2 hown2 hm2)
     go_roundw
     case rel=>exact ⟨k+1,true,A2,c2,n1+1,xs++[f],by omega,by go_num,rfl,rfl,Lib.hid (HP.out.on HE.out),Lib.hid (by rw [List.length_append,HN.out];rfl),hown2,hm.transNew hm2 (Or.inl (Nat.le_refl _)),Nat.le_trans hsz hm2.size⟩
     case measure=>simp [intOf];omega
    ·have b1:(f == x)=false:=by simp only [beq_eq_false_iff_ne];omega
     have b2:decide (x < f)=true:=by simpa using hv
     clear hv;go_wp2_with (at_builtin;refine wpList_pushI rfl _ _ rfl w.heap.size A1 n1 c1 xs rfl HW.out f rfl (by omega) hsz ?_;intro A2 c2 w2 hown2 hm2)
     go_roundw
     case rel=>exact ⟨k+1,true,A2,c2,n1+1,xs++[f],by omega,by go_num,rfl,rfl,Lib.hid (HP.out.on HE.out),Lib.hid (by rw [List.length_append,HN.out];rfl),hown2,hm.transNew hm2 (Or.inl (Nat.le_refl _)),Nat.le_trans hsz hm2.size⟩
     case measure=>simp [intOf];omega
   | false =>
    rcases (by omega:f=x ∨ f < x ∨ x < f) with hv | hv | hv
    ·subst hv
     go_wp2_with (at_builtin;refine wpList_pushI rfl _ _ rfl w.heap.size A1 n1 c1 xs rfl HW.out f rfl (by omega) hsz ?_;intro A2 c2 w2 hown2 hm2)
     go_roundw
     case rel=>exact ⟨k+1,true,A2,c2,n1+1,xs++[f],by omega,by go_num,rfl,rfl,Lib.hid (HP.out.eq HE.out rfl),Lib.hid (by rw [List.length_append,HN.out];rfl),hown2,hm.transNew hm2 (Or.inl (Nat.le_refl _)),Nat.le_trans hsz hm2.size⟩
     case measure=>simp [intOf];omega
    ·have b1:(f == x)=false:=by simp only [beq_eq_false_iff_ne];omega
     have b2:decide (x < f)=false:=by simp;omega
     go_wp2_with (at_builtin;refine wpList_pushI rfl _ _ rfl w.heap.size A1 n1 c1 xs rfl HW.out f rfl (by omega) hsz ?_;intro A2 c2 w2 hown2 hm2)
     go_roundw
     case rel=>exact ⟨k+1,false,A2,c2,n1+1,xs++[f],by omega,by go_num,rfl,rfl,Lib.hid (HP.out.gt HE.out hv),Lib.hid (by rw [List.length_append,HN.out];rfl),hown2,hm.transNew hm2 (Or.inl (Nat.le_refl _)),Nat.le_trans hsz hm2.size⟩
     case measure=>simp [intOf];omega
    ·have b1:(f == x)=false:=by simp only [beq_eq_false_iff_ne];omega
     have b2:decide (x < f)=true:=by simpa using hv
     go_wp2_with (first | (at_builtin;refine wpList_pushI rfl _ _ rfl w.heap.size A1 n1 c1 xs rfl HW.out x rfl (by omega) hsz ?_;intro A2 c2 w2 hown2 hm2;have c0':=cell_keep hm2 HB.1 (Or.inl HB.2) c0;have hsz2:=Nat.le_trans hsz hm2.size;have HW2:=Lib.hid hown2;clear hown2) | (at_builtin;refine wpList_pushI rfl _ _ rfl w.heap.size A2 (n1+1) c2 (xs++[x]) rfl HW2.out f rfl (by omega) hsz2 ?_;intro A3 c3 w3 hown3 hm3))
     go_roundw
     case rel=>exact ⟨k+1,true,A3,c3,n1+1+1,xs++[x]++[f],by omega,by go_num,rfl,rfl,Lib.hid (HP.out.lt HE.out hv),Lib.hid (by rw [List.length_append,List.length_append,HN.out];rfl),hown3,(hm.transNew hm2 (Or.inl (Nat.le_refl _))).transNew hm3 (Or.inl (Nat.le_refl _)),Nat.le_trans hsz2 hm3.size⟩
     case measure=>simp [intOf];omega
  ·obtain rfl:k=l.length:=by omega
   have hsz':=hm.size;cases p with
   | true =>
    have hx:=HP.out.fin;have hn:=HN.out;rw [hx] at hn hown;go_wp2_with fail;go_ret;exact ⟨_,_,(by rw [hn];rfl),(owns_rv hown).wide (Nat.zero_le _) (Nat.le_refl _) (Nat.le_refl _),hm⟩
   | false =>
    have HW:=Lib.hid hown;go_wp2_with (at_builtin;refine wpList_pushI rfl _ _ rfl w.heap.size A1 n1 c1 xs rfl HW.out x rfl (by omega) hsz ?_;intro A2 c2 w2 hown2 hm2)
    have hx:=HP.out.fin';have hn:(putI x l).length=n1+1:=by rw [← hx,List.length_append,HN.out];rfl
    rw [hx] at hown2;rw [← hn] at hown2;go_wp2_with fail;go_ret;exact ⟨_,_,(by rw [hn];rfl),(owns_rv hown2).wide (Nat.zero_le _) (Nat.le_refl _) (Nat.le_refl _),hm.transNew hm2 (Or.inl (Nat.le_refl _))⟩
def putEnds (es:List Ed) (v x:Int):List Int:=(ends es v x).foldl (fun l y=>putI y l) []
theorem foldI_mem {y:Int}:∀ (zs l:List Int),y∈zs.foldl (fun l y=>putI y l) l↔y∈zs ∨ y∈l
 | [],l=>by simp
 | z :: zs,l=>by
  rw [List.foldl_cons,foldI_mem zs,mem_putI,List.mem_cons];constructor
  ·rintro (h | h | h)
   ·exact .inl (.inr h)
   ·exact .inl (.inl h)
   ·exact .inr h
  ·rintro ((h | h) | h)
   ·exact .inr (.inl h)
   ·exact .inl h
   ·exact .inr (.inr h)
theorem foldI_sorted:∀ (zs l:List Int),l.Pairwise (· < ·)→(zs.foldl (fun l y=>putI y l) l).Pairwise (· < ·)
 | [],l,h=>h
 | z :: zs,l,h=>foldI_sorted zs _ (putI_sorted h)
theorem foldI_len:∀ (zs l:List Int),(zs.foldl (fun l y=>putI y l) l).length≤zs.length+l.length
 | [],l=>by simp
 | z :: zs,l=>by
  have h1:=foldI_len zs (putI z l);have h2:=putI_len z l;rw [List.foldl_cons,List.length_cons];omega
theorem stepsIs_put (es:List Ed) (v x:Int):StepsIs es v x (putEnds es v x):=by
 refine ⟨fun h=>by rw [putEnds,h];rfl,fun h=>?_,?_⟩
 ·have hs:=foldI_sorted (ends es v x) [] List.Pairwise.nil
  have hm:=fun y=>foldI_mem (y:=y) (ends es v x) [];change ∃ t,(ends es v x).foldl (fun l y=>putI y l) []=_;cases hz:(ends es v x).foldl (fun l y=>putI y l) [] with
  | nil =>
   rw [hz] at hm;obtain ⟨y,t,ht⟩:=List.exists_cons_of_ne_nil h;have:=(hm y).2 (.inl (by rw [ht];simp));simp at this
  | cons z t =>
   rw [hz] at hm hs;refine ⟨t,?_⟩;obtain ⟨h1, -⟩:=List.pairwise_cons.1 hs;have hzm:z∈ends es v x:=by simpa using (hm z).1 (by simp)
   have:nextV es v x=leastI (ends es v x):=rfl;rw [this,leastI_eq hzm fun y hy=>?_];rcases List.mem_cons.1 ((hm y).2 (.inl hy)) with rfl | h'
   ·exact Int.le_refl _
   ·have:=h1 y h'
    omega
 ·have h1:=foldI_len (ends es v x) []
  have h2:=ends_len es v x;rw [List.length_nil] at h1;exact Nat.le_trans (by simpa [putEnds] using h1) h2
theorem spec_StepsFrom (r s:Int) (A:Option Addr) (es:List Ed) (c:Nat) (v x:Int) (w:World) (lo hi:Nat) (hr:RG w lo hi A es) (hl:es.length≤1000000) (hg:∀ e∈es,1≤e.l∧e.l≤3) (hx1:-9223372036854775808≤x) (hx2:x≤9223372036854775807) :
  Calls Tryz.prog 200 #[.agg #[.int .i64 r,.int .i64 s,.slice A es.length c],.int .i64 v,.int .i64 x] w fun e w'=>∃ A' c' zs,e=.returned (.slice A' zs.length c')∧RV w' 0 w'.heap.size A' (ints zs)∧StepsIs es v x zs∧Mid 0 0 w w':=by
 have hm0:Mid 0 0 w ((w.alloc (.cells #[.int .i64 r,.int .i64 s,.slice A es.length c] 35)).alloc (.cells #[] 3)):=(Mid.alloc _ _).trans (Mid.alloc _ _);have B0:=(Box.new w #[.int .i64 r,.int .i64 s,.slice A es.length c] 35).mid (Mid.alloc _ (.cells #[] 3)) oZr;go_enter Tryz.func200,Tryz.ntmps200
 go_wp2_with fail;go_loopw [7,8] (fun out i wr=>∃ (k:Nat) (A1:Option Addr) (c1:Nat) (xs:List Int),k≤es.length∧i=.int .i64 k∧out=.slice A1 xs.length c1∧Hid (xs=(ends (es.take k) v x).foldl (fun l y=>putI y l) []) ∧
   RV wr 0 wr.heap.size A1 (ints xs)∧Box wr w.heap.size [.int .i64 r,.int .i64 s,.slice A es.length c]∧Mid 0 0 w wr) (fun _ i _=>es.length - (intOf i).toNat)
 case atStart=>exact ⟨0,_,0,[],Nat.zero_le _,rfl,rfl,Lib.hid (by simp [ends]),⟨Nat.le_refl _,fun h=>absurd rfl h⟩,B0,hm0⟩
 case round =>
  obtain ⟨k,A1,c1,xs,hk,rfl,rfl,HX,hrv,bx,hm⟩:=hrel;have hn1:xs.length≤1000000:=by
   have h1:=ends_len (es.take k) v x;have h2:=foldI_len (ends (es.take k) v x) [];rw [HX.out];simp at h1 h2 ⊢;omega
  have p0:=bx.cell 0 rfl;have p1:=bx.cell 1 rfl;have p2:=bx.cell 2 rfl;by_cases hlt:k < es.length
  ·obtain ⟨B,off,e,rfl, -,hbh,he,e0,e1,e2⟩:=(hr.mid hm oZl).ed hlt
   obtain ⟨l1,l3⟩:=hg e (List.mem_of_getElem? he);have HET:=Lib.hid (ends_take he v x);have hal:=Mid.alloc wr (.cells #[.int .i64 e.a,.int .i64 e.l,.int .i64 e.b] 110);have hm1:=hm.trans hal;have hrv1:=(hrv.mid hal oZl).wide (Nat.le_refl _) hal.size (Nat.le_refl _);have B1:=bx.mid hal oZr;have E1:=Box.new wr #[.int .i64 e.a,.int .i64 e.l,.int .i64 e.b] 110;have hkn:(k:Int) < (es.length:Int):=by omega
   clear he;rcases endOf_cases v x e with ⟨hv,h1⟩ | ⟨hv,h1,h2⟩ | ⟨hv,h1,h2⟩
   ·obtain ⟨p1,p2,p3⟩:=h1
    have b1:decide (0 < x)=true:=by simpa using p1
    have b0:decide (x < 0)=false:=by simp;omega
    have b2:(e.l == x)=true:=by simpa using p2
    have b3:(e.a == v)=true:=by simpa using p3
    clear p1 p2 p3;go_wp2_with fail;with_reducible refine (spec_l4Add A1 xs c1 e.b _ _ _ hrv1 hn1).mono ?_
    rintro en w2 ⟨A2,c2,rfl,hrv2,hm2⟩;go_wp2_with fail;go_roundw
    case rel=>exact ⟨k+1,A2,c2,_,by omega,by go_num,rfl,Lib.hid (by rw [HET.out,hv,HX.out,List.foldl_append];rfl),hrv2,B1.mid hm2 oZr,hm1.trans hm2⟩
    case measure=>simp [intOf];omega
   ·obtain ⟨p1,p2,p3⟩:=h2
    have b1:decide (0 < x)=false:=by simp;omega
    have b0:decide (x < 0)=true:=by simpa using p1
    have b4:wrap64 (-x) = -x:=by unfold wrap64;omega
    have b5:(e.l == -x)=true:=by simpa using p2
    have b3:(e.b == v)=true:=by simpa using p3
    clear h1 p1 p2 p3;go_wp2_with fail;with_reducible refine (spec_l4Add A1 xs c1 e.a _ _ _ hrv1 hn1).mono ?_
    rintro en w2 ⟨A2,c2,rfl,hrv2,hm2⟩;go_wp2_with fail;go_roundw
    case rel=>exact ⟨k+1,A2,c2,_,by omega,by go_num,rfl,Lib.hid (by rw [HET.out,hv,HX.out,List.foldl_append];rfl),hrv2,B1.mid hm2 oZr,hm1.trans hm2⟩
    case measure=>simp [intOf];omega
   ·rcases (by omega:0 < x ∨ x < 0 ∨ x=0) with p1 | p1 | p1
    ·have b1:decide (0 < x)=true:=by simpa using p1
     have b0:decide (x < 0)=false:=by simp;omega
     by_cases p2:e.l=x
     ·have b2:(e.l == x)=true:=by simpa using p2
      have b3:(e.a == v)=false:=by simp only [beq_eq_false_iff_ne];exact fun h=>h1 ⟨p1,p2,h⟩
      clear h1 h2 p1 p2;go_wp2_with fail;go_roundw
      case rel=>exact ⟨k+1,A1,c1,_,by omega,by go_num,rfl,Lib.hid (by rw [HET.out,hv,HX.out];simp),hrv1,B1,hm1⟩
      case measure=>simp [intOf];omega
     ·have b2:(e.l == x)=false:=by simpa only [beq_eq_false_iff_ne] using p2
      clear h1 h2 p1 p2;go_wp2_with fail;go_roundw
      case rel=>exact ⟨k+1,A1,c1,_,by omega,by go_num,rfl,Lib.hid (by rw [HET.out,hv,HX.out];simp),hrv1,B1,hm1⟩
      case measure=>simp [intOf];omega
    ·have b1:decide (0 < x)=false:=by simp;omega
     have b0:decide (x < 0)=true:=by simpa using p1
     by_cases p2:e.l=wrap64 (-x)
     ·have b5:(e.l == wrap64 (-x))=true:=by simpa using p2
      have b3:(e.b == v)=false:=by simp only [beq_eq_false_iff_ne];exact fun h=>h2 ⟨p1,by unfold wrap64 at p2;omega,h⟩
      clear h1 h2 p1 p2;go_wp2_with fail;go_roundw
      case rel=>exact ⟨k+1,A1,c1,_,by omega,by go_num,rfl,Lib.hid (by rw [HET.out,hv,HX.out];simp),hrv1,B1,hm1⟩
      case measure=>simp [intOf];omega
     ·have b5:(e.l == wrap64 (-x))=false:=by simpa only [beq_eq_false_iff_ne] using p2
      clear h1 h2 p1 p2;go_wp2_with fail;go_roundw
      case rel=>exact ⟨k+1,A1,c1,_,by omega,by go_num,rfl,Lib.hid (by rw [HET.out,hv,HX.out];simp),hrv1,B1,hm1⟩
      case measure=>simp [intOf];omega
    ·subst p1
     clear h1 h2;go_wp2_with fail;go_roundw
     case rel=>exact ⟨k+1,A1,c1,_,by omega,by go_num,rfl,Lib.hid (by rw [HET.out,hv,HX.out];simp),hrv1,B1,hm1⟩
     case measure=>simp [intOf];omega
  ·obtain rfl:k=es.length:=by omega
   have hst:=stepsIs_put es v x;have hx:=HX.out;rw [List.take_length] at hx;rw [putEnds,← hx] at hst;go_wp2_with fail;go_ret;exact ⟨_,_,xs,rfl,hrv,hst,hm⟩
theorem spec_NextVertex (r s:Int) (A:Option Addr) (es:List Ed) (c:Nat) (v x:Int) (w:World) (lo hi:Nat) (hr:RG w lo hi A es) (hl:es.length≤1000000) (hg:∀ e∈es,1≤e.l∧e.l≤3) (hx1:-9223372036854775808≤x) (hx2:x≤9223372036854775807) :
  Calls Tryz.prog 129 #[.agg #[.int .i64 r,.int .i64 s,.slice A es.length c],.int .i64 v,.int .i64 x] w fun e w'=>e=.returned (.int .i64 (nextV es v x))∧Mid 0 0 w w':=by
 go_enter Tryz.func129,Tryz.ntmps129
 have hal:=Mid.alloc w (.cells #[.int .i64 r,.int .i64 s,.slice A es.length c] 35);go_wp2_with fail;with_reducible refine (spec_StepsFrom r s A es c v x _ lo hi (hr.mid hal oZl) hl hg hx1 hx2).mono ?_
 rintro en w2 ⟨A2,c2,zs,rfl,hrv,⟨h1,h2,h3⟩,hm⟩;have hm:=hal.trans hm;generalize hn:zs.length=n;by_cases h0:ends es v x=[]
 ·obtain rfl:n=0:=by rw [← hn,h1 h0];rfl
  go_wp2_with fail;go_ret;exact ⟨by rw [nextV_none h0];rfl,hm⟩
 ·obtain ⟨t,ht⟩:=h2 h0
  obtain ⟨g,off,rfl, -, -,hc⟩:=hrv.2 (by rw [ht];simp [ints]);have c0:=hc 0 (.int .i64 (nextV es v x)) (by rw [ht];simp [ints]);rw [Nat.add_zero] at c0;have hn0:0 < n:=by rw [← hn,ht];simp
  have hz:((n:Int) == 0)=false:=by simp only [beq_eq_false_iff_ne];omega
  have hp:(0:Int) < (n:Int):=by omega
  clear hn ht hc h1 h2 h3 hrv;go_wp2_with fail;go_ret;exact ⟨rfl,hm⟩
end
section
open Go.RowKit
theorem pw_of_drop {R:Ed→Ed→Prop}:∀ {es:List Ed},(∀ i e,es[i]?=some e→∀ f∈es.drop (i+1),R e f)→es.Pairwise R
 | [],_=>List.Pairwise.nil
 | a :: t,h=>List.pairwise_cons.2 ⟨fun f hf=>h 0 a rfl f (by simpa using hf),pw_of_drop fun i e he f hf=>h (i+1) e (by simpa using he) f (by simpa using hf)⟩
theorem pw_drop {R:Ed→Ed→Prop} {es:List Ed} (h:es.Pairwise R) {i:Nat} {e:Ed} (he:es[i]?=some e) {f:Ed} (hf:f∈es.drop (i+1)):R e f:=by
 induction es generalizing i with
 | nil=>simp at he
 | cons a t ih =>
  obtain ⟨h1,h2⟩:=List.pairwise_cons.1 h;cases i with
  | zero =>
   obtain rfl:a=e:=by simpa using he
   exact h1 f (by simpa using hf)
  | succ i=>exact ih h2 (by simpa using he) (by simpa using hf)
theorem RG.drop {w:World} {lo hi:Nat} {b off:Nat} {es:List Ed} (h:RG w lo hi (some ⟨b,off,none⟩) es) {k:Nat}:RG w lo hi (some ⟨b,off+k * 3,none⟩) (es.drop k):=by
 refine ⟨h.1,fun hn=>?_⟩;obtain ⟨b',off',hA,h1,h2,hc⟩:=h.2 (fun he=>hn (by
  rw [ints,List.map_eq_nil_iff] at he ⊢;rw [edI_drop,he];exact List.drop_nil))
 injection hA with hA
 injection hA with hA1 hA2
 subst hA1 hA2;refine ⟨b,off+k * 3,rfl,h1,h2,fun j u hu=>?_⟩;have:=hc (k * 3+j) u (by
  rw [ints,edI_drop,List.map_drop,List.getElem?_drop] at hu;rw [ints];exact hu)
 rw [show off+k * 3+j=off+(k * 3+j) by omega];exact this
theorem impl_IsFolded (r s:Int) (A:Option Addr) (es:List Ed) (c:Nat) (w:World) (lo hi:Nat) (hr:RG w lo hi A es) (hl:es.length≤1048576) (hcl:es.length≤c) (b:Bool) (hb:b=true↔IsFol r s es) :
  Calls Tryz.prog 59 #[graV r s A es.length c] w fun e w'=>e=.returned (.bool b)∧Mid 0 0 w w':=by
 have HB:=Lib.hid hb;clear hb;have hm0:Mid 0 0 w (w.alloc (.cells #[.int .i64 r,.int .i64 s,.slice A es.length c] 35)):=Mid.alloc _ _;have B1:=(Box.new w #[.int .i64 r,.int .i64 s,.slice A es.length c] 35)
 obtain ⟨b1,hb1⟩:=bool_of (IsGr r s es);have H1:=Lib.hid hb1;clear hb1;go_enter Tryz.func59,Tryz.ntmps59
 go_wp2_with fail;with_reducible refine (impl_IsGraph r s A es c _ _ _ (hr.mid hm0 oZl).rv hl b1 H1.out).mono ?_
 rintro en w1 ⟨rfl,hm1⟩;have B1a:=B1.mid hm1 oZr;clear B1;have p0:=B1a.cell 0 rfl;have p1:=B1a.cell 1 rfl;have p2:=B1a.cell 2 rfl;have hm:=hm0.trans hm1;cases b1 with
 | false =>
  obtain rfl:b=false:=bool_no HB.out fun h=>by have:=H1.out.2 h.gr;cases this
  go_wp2_with fail;go_ret;exact ⟨rfl,hm⟩
 | true =>
 have G1:=Lib.hid (H1.out.1 rfl);go_wp2_with fail;go_loopw [13] (fun i wr=>∃ k:Nat,k≤es.length∧i=.int .i64 k∧Box wr w.heap.size [.int .i64 r,.int .i64 s,.slice A es.length c]∧(∀ i e,i < k→es[i]?=some e→∀ f∈es.drop (i+1),¬ Clash e f)∧Mid 0 0 w wr) (fun i _=>es.length - (intOf i).toNat)
 case atStart=>exact ⟨0,Nat.zero_le _,rfl,B1a,fun i e hi=>absurd hi (Nat.not_lt_zero _),hm⟩
 case round =>
  obtain ⟨wo,hwo⟩:∃ wo,wo=wr:=⟨_,rfl⟩
  subst hwo;obtain ⟨k,hk,rfl,bx,hall,hmr⟩:=hrel;by_cases hlt:k < es.length
  ·obtain ⟨B,off,e,rfl, -,hbh,he,e0,e1,e2⟩:=(hr.mid hmr oZl).ed hlt
   have hal:=Mid.alloc wo (.cells #[.int .i64 e.a,.int .i64 e.l,.int .i64 e.b] 110);have E1:=Box.new wo #[.int .i64 e.a,.int .i64 e.l,.int .i64 e.b] 110;have hmo:=hmr.trans hal;have B1:=bx.mid hal oZr;have q0:=B1.cell 0 rfl;have q1:=B1.cell 1 rfl;have q2:=B1.cell 2 rfl;have hkn:(k:Int) < (es.length:Int):=by omega
   by_cases hck:c=k+1
   ·subst hck
    go_wp2_with fail;have hdl:(es.drop (k+1)).length=es.length - (k+1):=List.length_drop;have HE:=Lib.hid he;have HA:=Lib.hid hall;clear he hall;have HN:Hid (∀ i e',i < k+1→es[i]?=some e'→∀ f∈es.drop (i+1),¬ Clash e' f):=Lib.hid (by
     intro i e' hi he' f hf;by_cases h:i < k
     ·exact HA.out i e' h he' f hf
     ·obtain rfl:i=k:=by omega
      have:=List.length_pos_of_mem hf;omega)
    go_loopw [24] (fun i wr=>i=.int .i64 0∧wr=wo.alloc (.cells #[.int .i64 e.a,.int .i64 e.l,.int .i64 e.b] 110)) (fun _ _=>0)
    case atStart=>exact ⟨rfl,rfl⟩
    case round =>
     obtain ⟨rfl,rfl⟩:=hrel;go_wp2_with fail;go_roundw
     case rel=>exact ⟨k+1,by omega,by go_num,B1,HN.out,hmo⟩
     case measure=>simp [intOf];omega
   ·go_wp2_with fail
    have hrd:=(hr.mid hmo oZl).drop (k:=k+1);have hdl:(es.drop (k+1)).length=es.length - (k+1):=List.length_drop;have HE:=Lib.hid he;have HA:=Lib.hid hall;clear he hall;go_loopw [24] (fun i wr=>∃ j:Nat,j≤es.length - (k+1)∧i=.int .i64 j∧Box wr w.heap.size [.int .i64 r,.int .i64 s,.slice (some ⟨B,off,none⟩) es.length c]∧Box wr wo.heap.size [.int .i64 e.a,.int .i64 e.l,.int .i64 e.b]∧(∀ f∈(es.drop (k+1)).take j,¬ Clash e f)∧Mid 0 0 (wo.alloc (.cells #[.int .i64 e.a,.int .i64 e.l,.int .i64 e.b] 110)) wr) (fun i _=>es.length - (k+1) - (intOf i).toNat)
    case atStart=>exact ⟨0,Nat.zero_le _,rfl,B1,E1,by simp,Mid.refl _ _ _⟩
    case round =>
     obtain ⟨j,hj,rfl,bx2,bxe,hin,hmx⟩:=hrel;by_cases hlt2:j < es.length - (k+1)
     ·obtain ⟨B',off',f,hA, -,hbh2,hf,f0,f1,f2⟩:=(hrd.mid hmx oZl).ed (k:=j) (by omega)
      injection hA with hA
      injection hA with hA1 hA2
      subst hA1 hA2;have hal2:=Mid.alloc wr (.cells #[.int .i64 f.a,.int .i64 f.l,.int .i64 f.b] 110);have hmx2:=hmx.trans hal2;have bx3:=bx2.mid hal2 oZr;have bxe3:=bxe.mid hal2 oZr;have g0:=bxe3.cell 0 rfl;have g1:=bxe3.cell 1 rfl;have g2:=bxe3.cell 2 rfl;have hjn:(j:Int) < ((es.length - (k+1):Nat):Int):=by omega
      have HF:=Lib.hid hf;have HI:=Lib.hid hin;clear hf hin;by_cases hc:Clash e f
      ·have hb:b=false:=bool_no HB.out fun h=>pw_drop h.fol HE.out (List.mem_of_getElem? HF.out) hc
       subst hb;obtain ⟨c1,c2⟩:=hc;have d1:(e.l == f.l)=true:=by simpa using c1
       by_cases c3:e.a=f.a
       ·have d2:(e.a == f.a)=true:=by simpa using c3
        clear c1 c2 c3;go_wp2_with fail;go_ret;exact ⟨rfl,(hmo.trans hmx2)⟩
       ·have d2:(e.a == f.a)=false:=by simpa only [beq_eq_false_iff_ne] using c3
        have d3:(e.b == f.b)=true:=by simpa using (c2.resolve_left c3)
        clear c1 c2 c3;go_wp2_with fail;go_ret;exact ⟨rfl,(hmo.trans hmx2)⟩
      ·have HN:Hid (∀ f'∈(es.drop (k+1)).take (j+1),¬ Clash e f'):=Lib.hid (by
        intro f' hf';rw [take_snoc HF.out] at hf';rcases List.mem_append.1 hf' with h | h
        ·exact HI.out f' h
        ·obtain rfl:f'=f:=by simpa using h
         exact hc)
       by_cases c1:e.l=f.l
       ·have d1:(e.l == f.l)=true:=by simpa using c1
        have d2:(e.a == f.a)=false:=by simp only [beq_eq_false_iff_ne];exact fun h=>hc ⟨c1,.inl h⟩
        have d3:(e.b == f.b)=false:=by simp only [beq_eq_false_iff_ne];exact fun h=>hc ⟨c1,.inr h⟩
        clear c1 hc;go_wp2_with fail;go_roundw
        case rel=>exact ⟨j+1,by omega,by go_num,bx3,bxe3,HN.out,hmx2⟩
        case measure=>simp [intOf];omega
       ·have d1:(e.l == f.l)=false:=by simpa only [beq_eq_false_iff_ne] using c1
        clear c1 hc;go_wp2_with fail;go_roundw
        case rel=>exact ⟨j+1,by omega,by go_num,bx3,bxe3,HN.out,hmx2⟩
        case measure=>simp [intOf];omega
     ·obtain rfl:j=es.length - (k+1):=by omega
      have HN:Hid (∀ i e',i < k+1→es[i]?=some e'→∀ f∈es.drop (i+1),¬ Clash e' f):=Lib.hid (by
       intro i e' hi he' f hf;by_cases h:i < k
       ·exact HA.out i e' h he' f hf
       ·obtain rfl:i=k:=by omega
        rw [HE.out] at he';injection he' with he'
        subst he';exact hin f (by rw [← hdl,List.take_length];exact hf))
      go_wp2_with fail;go_roundw
      case rel=>exact ⟨k+1,by omega,by go_num,bx2,HN.out,hmo.trans hmx⟩
      case measure=>simp [intOf];omega
  ·obtain rfl:k=es.length:=by omega
   obtain rfl:b=true:=HB.out.2 ⟨G1.out,pw_of_drop fun i e he=>hall i e (List.getElem?_eq_some_iff.1 he).1 he⟩;go_wp2_with fail;go_ret;exact ⟨rfl,hmr⟩
theorem pw_of_get {es:List Ed} (h:∀ (i j:Nat) (e f:Ed),j < i→es[i]?=some e→es[j]?=some f→¬ Clash e f):es.Pairwise fun e f=>¬ Clash e f:=by
 rw [List.pairwise_iff_getElem];intro i j hi hj hij hc;exact h j i _ _ hij (List.getElem?_eq_getElem hj) (List.getElem?_eq_getElem hi) hc.symm
theorem get_of_pw {es:List Ed} (h:es.Pairwise fun e f=>¬ Clash e f) {i j:Nat} {e f:Ed} (hij:j < i) (he:es[i]?=some e) (hf:es[j]?=some f):¬ Clash e f:=by
 rw [List.pairwise_iff_getElem] at h;obtain ⟨hi,rfl⟩:=List.getElem?_eq_some_iff.1 he;obtain ⟨hj,rfl⟩:=List.getElem?_eq_some_iff.1 hf;exact fun hc=>h j i hj hi hij hc.symm
theorem spec_IsFolded (r s:Int) (A:Option Addr) (es:List Ed) (c:Nat) (w:World) (lo hi:Nat) (hr:RG w lo hi A es) (hl:es.length≤1048576) (b:Bool) (hb:b=true↔IsFol r s es) :
  Calls Tryz.prog 126 #[graV r s A es.length c] w fun e w'=>e=.returned (.bool b)∧Mid 0 0 w w':=by
 have HB:=Lib.hid hb;clear hb;have hm0:Mid 0 0 w (w.alloc (.cells #[.int .i64 r,.int .i64 s,.slice A es.length c] 35)):=Mid.alloc _ _;have B1:=(Box.new w #[.int .i64 r,.int .i64 s,.slice A es.length c] 35)
 obtain ⟨b1,hb1⟩:=bool_of (IsGr r s es);have H1:=Lib.hid hb1;clear hb1;go_enter Tryz.func126,Tryz.ntmps126
 go_wp2_with fail;go_loopw [3] (fun i wr=>∃ k:Nat,k≤es.length∧i=.int .i64 k∧Box wr w.heap.size [.int .i64 r,.int .i64 s,.slice A es.length c]∧(∀ (i j:Nat) (e f:Ed),j < i→i < k→es[i]?=some e→es[j]?=some f→¬ Clash e f)∧Mid 0 0 w wr) (fun i _=>es.length - (intOf i).toNat)
 case atStart=>exact ⟨0,Nat.zero_le _,rfl,B1,fun i j e f h1 h2=>absurd h2 (Nat.not_lt_zero _),hm0⟩
 case round =>
  obtain ⟨wo,hwo⟩:∃ wo,wo=wr:=⟨_,rfl⟩
  subst hwo;obtain ⟨k,hk,rfl,bx,hall,hmr⟩:=hrel;have p0:=bx.cell 0 rfl;have p1:=bx.cell 1 rfl;have p2:=bx.cell 2 rfl;have HA:=Lib.hid hall;clear hall;by_cases hlt:k < es.length
  ·have hkn:(k:Int) < (es.length:Int):=by omega
   go_wp2_with fail;with_reducible refine (spec_IsGraph r s A es c _ _ _ (hr.mid hmr oZl).rv hl b1 H1.out).mono ?_
   rintro en w1 ⟨rfl,hm1⟩;have hmo:=hmr.trans hm1;have bx1:=bx.mid hm1 oZr;have q0:=bx1.cell 0 rfl;have q1:=bx1.cell 1 rfl;have q2:=bx1.cell 2 rfl;cases b1 with
   | false =>
    obtain rfl:b=false:=bool_no HB.out fun h=>by have:=H1.out.2 h.gr;cases this
    go_wp2_with fail;with_reducible refine (spec_IsGraph r s A es c _ _ _ (hr.mid hmo oZl).rv hl false H1.out).mono ?_
    rintro en w2 ⟨rfl,hm2⟩;go_wp2_with fail;go_ret;exact ⟨rfl,hmo.trans hm2⟩
   | true =>
    have G1:=Lib.hid (H1.out.1 rfl);go_wp2_with fail;go_loopw [4] (fun i wr=>∃ j:Nat,j≤k∧i=.int .i64 j∧Box wr w.heap.size [.int .i64 r,.int .i64 s,.slice A es.length c]∧(∀ (i:Nat) (e f:Ed),i < j→es[k]?=some e→es[i]?=some f→¬ Clash e f)∧Mid 0 0 w wr) (fun i _=>k - (intOf i).toNat)
    case atStart=>exact ⟨0,Nat.zero_le _,rfl,bx1,fun i e f h=>absurd h (Nat.not_lt_zero _),hmo⟩
    case round =>
     obtain ⟨j,hj,rfl,bx2,hin,hmx⟩:=hrel;have u0:=bx2.cell 0 rfl;have u1:=bx2.cell 1 rfl;have u2:=bx2.cell 2 rfl;have HI:=Lib.hid hin;clear hin;by_cases hlt2:j < k
     ·obtain ⟨B,off,e,rfl, -,hbh,he,e0,e1,e2⟩:=(hr.mid hmx oZl).ed hlt
      obtain ⟨B',off',f,hA, -,hbh2,hf,f0,f1,f2⟩:=(hr.mid hmx oZl).ed (k:=j) (by omega);injection hA with hA
      injection hA with hA1 hA2
      subst hA1 hA2;have hbs:B < wr.heap.size:=by have:=hr.1;have:=hmx.size;omega
      have hala:=Mid.alloc wr (.cells #[.int .i64 e.a,.int .i64 e.l,.int .i64 e.b] 110);have halb:=Mid.alloc (wr.alloc (.cells #[.int .i64 e.a,.int .i64 e.l,.int .i64 e.b] 110)) (.cells #[.int .i64 f.a,.int .i64 f.l,.int .i64 f.b] 110);have hal2:=hala.trans halb;have E1:=(Box.new wr #[.int .i64 e.a,.int .i64 e.l,.int .i64 e.b] 110).mid halb oZr;have E2:=Box.new (wr.alloc (.cells #[.int .i64 e.a,.int .i64 e.l,.int .i64 e.b] 110)) #[.int .i64 f.a,.int .i64 f.l,.int .i64 f.b] 110;rw [World.size_alloc] at E2;have bxa:=bx2.mid hala oZr;have bx3:=bx2.mid hal2 oZr;have va0:=bxa.cell 0 rfl;have va1:=bxa.cell 1 rfl;have va2:=bxa.cell 2 rfl;have g0:=E1.cell 0 rfl;have g1:=E1.cell 1 rfl;have g2:=E1.cell 2 rfl;have h0:=E2.cell 0 rfl;have h1:=E2.cell 1 rfl;have h2:=E2.cell 2 rfl;have g0':=cell_keep hala hbs oZr f0;have g1':=cell_keep hala hbs oZr f1;have g2':=cell_keep hala hbs oZr f2;have hjn:(j:Int) < (k:Int):=by omega
      have hjn2:(j:Int) < (es.length:Int):=by omega
      have HE:=Lib.hid he;have HF:=Lib.hid hf;clear he hf;by_cases hc:Clash e f
      ·have hb:b=false:=bool_no HB.out fun h=>get_of_pw h.fol hlt2 HE.out HF.out hc
       subst hb;obtain ⟨c1,c2⟩:=hc;have d1:(e.l == f.l)=true:=by simpa using c1
       by_cases c3:e.a=f.a
       ·have d2:(e.a == f.a)=true:=by simpa using c3
        clear c1 c2 c3;go_wp2_with fail;go_ret;exact ⟨rfl,hmx.trans hal2⟩
       ·have d2:(e.a == f.a)=false:=by simpa only [beq_eq_false_iff_ne] using c3
        have d3:(e.b == f.b)=true:=by simpa using (c2.resolve_left c3)
        clear c1 c2 c3;go_wp2_with fail;go_ret;exact ⟨rfl,hmx.trans hal2⟩
      ·have HN:Hid (∀ (i:Nat) (e f:Ed),i < j+1→es[k]?=some e→es[i]?=some f→¬ Clash e f):=Lib.hid (by
        intro i e' f' hi he' hf';by_cases h:i < j
        ·exact HI.out i e' f' h he' hf'
        ·obtain rfl:i=j:=by omega
         rw [HE.out] at he';rw [HF.out] at hf';injection he' with he'
         injection hf' with hf'
         subst he' hf';exact hc)
       by_cases c1:e.l=f.l
       ·have d1:(e.l == f.l)=true:=by simpa using c1
        have d2:(e.a == f.a)=false:=by simp only [beq_eq_false_iff_ne];exact fun h=>hc ⟨c1,.inl h⟩
        have d3:(e.b == f.b)=false:=by simp only [beq_eq_false_iff_ne];exact fun h=>hc ⟨c1,.inr h⟩
        clear c1 hc;go_wp2_with fail;go_roundw
        case rel=>exact ⟨j+1,by omega,by go_num,bx3,HN.out,hmx.trans hal2⟩
        case measure=>simp [intOf];omega
       ·have d1:(e.l == f.l)=false:=by simpa only [beq_eq_false_iff_ne] using c1
        clear c1 hc;go_wp2_with fail;go_roundw
        case rel=>exact ⟨j+1,by omega,by go_num,bx3,HN.out,hmx.trans hal2⟩
        case measure=>simp [intOf];omega
     ·obtain rfl:j=k:=by omega
      have HN:Hid (∀ (i j':Nat) (e f:Ed),j' < i→i < j+1→es[i]?=some e→es[j']?=some f→¬ Clash e f):=Lib.hid (by
       intro i j' e' f' h1 h2 he' hf';by_cases h:i < j
       ·exact HA.out i j' e' f' h1 h he' hf'
       ·obtain rfl:i=j:=by omega
        exact HI.out j' e' f' h1 he' hf')
      go_wp2_with fail;go_roundw
      case rel=>exact ⟨j+1,by omega,by go_num,bx2,HN.out,hmx⟩
      case measure=>simp [intOf];omega
  ·obtain rfl:k=es.length:=by omega
   obtain rfl:b=b1:=by
    cases b1 with
    | false=>exact bool_no HB.out fun h=>by have:=H1.out.2 h.gr;cases this
    | true=>exact HB.out.2 ⟨H1.out.1 rfl,pw_of_get fun i j e f h1 he hf=>HA.out i j e f h1 (List.getElem?_eq_some_iff.1 he).1 he hf⟩
   go_wp2_with fail;with_reducible refine (spec_IsGraph r s A es c _ _ _ (hr.mid hmr oZl).rv hl b H1.out).mono ?_
   rintro en w2 ⟨rfl,hm2⟩;go_wp2_with fail;go_ret;exact ⟨rfl,hmr.trans hm2⟩
end
section
open Go.RowKit
theorem impl_DegreeOf (r s:Int) (A:Option Addr) (es:List Ed) (c:Nat) (v:Int) (w:World) (lo hi:Nat) (hr:RG w lo hi A es) (hl:es.length≤1048576) :
  Calls Tryz.prog 234 #[.agg #[.int .i64 r,.int .i64 s,.slice A es.length c],.int .i64 v] w fun e w'=>e=.returned (.int .i64 (deg es v))∧Mid 0 0 w w':=by
 have hm0:Mid 0 0 w (w.alloc (.cells #[.int .i64 r,.int .i64 s,.slice A es.length c] 35)):=Mid.alloc _ _;have B1:=(Box.new w #[.int .i64 r,.int .i64 s,.slice A es.length c] 35)
 go_enter Tryz.func234,Tryz.ntmps234
 go_wp2_with fail;go_loopw [5,11] (fun n i wr=>∃ k d:Nat,k≤es.length∧i=.int .i64 k∧n=.int .i64 d∧Hid (deg (es.take k) v=d)∧Box wr w.heap.size [.int .i64 r,.int .i64 s,.slice A es.length c]∧Mid 0 0 w wr) (fun _ i _=>es.length - (intOf i).toNat)
 case atStart=>exact ⟨0,0,Nat.zero_le _,rfl,rfl,Lib.hid (by simp [deg]),B1,hm0⟩
 case round =>
  obtain ⟨k,d,hk,rfl,rfl,HD,bx,hmr⟩:=hrel;have hd:d≤2097152:=by
   have h1:=deg_le (es.take k) v;have h2:=HD.out;simp at h1;omega
  have p0:=bx.cell 0 rfl;have p1:=bx.cell 1 rfl;have p2:=bx.cell 2 rfl;by_cases hlt:k < es.length
  ·obtain ⟨B,off,e,rfl, -,hbh,he,e0,e1,e2⟩:=(hr.mid hmr oZl).ed hlt
   have hal:=Mid.alloc wr (.cells #[.int .i64 e.a,.int .i64 e.l,.int .i64 e.b] 110);have hm1:=hmr.trans hal;have bx1:=bx.mid hal oZr;have hkn:(k:Int) < (es.length:Int):=by omega
   have HS:=Lib.hid (deg_take_succ he v);clear he;by_cases c1:e.a=v
   ·have b1:(e.a == v)=true:=by simpa using c1
    by_cases c2:e.b=v
    ·have b2:(e.b == v)=true:=by simpa using c2
     have HT:Hid (deg (es.take (k+1)) v=d+1+1):=Lib.hid (by rw [HS.out,HD.out,degE,if_pos c1,if_pos c2]);clear c1 c2;go_wp2_with fail;go_roundw
     case rel=>exact ⟨k+1,d+1+1,by omega,by go_num,congrArg (Value.int .i64) (by omega),HT,bx1,hm1⟩
     case measure=>simp [intOf];omega
    ·have b2:(e.b == v)=false:=by simpa only [beq_eq_false_iff_ne] using c2
     have HT:Hid (deg (es.take (k+1)) v=d+1):=Lib.hid (by rw [HS.out,HD.out,degE,if_pos c1,if_neg c2]);clear c1 c2;go_wp2_with fail;go_roundw
     case rel=>exact ⟨k+1,d+1,by omega,by go_num,by go_num,HT,bx1,hm1⟩
     case measure=>simp [intOf];omega
   ·have b1:(e.a == v)=false:=by simpa only [beq_eq_false_iff_ne] using c1
    by_cases c2:e.b=v
    ·have b2:(e.b == v)=true:=by simpa using c2
     have HT:Hid (deg (es.take (k+1)) v=d+1):=Lib.hid (by rw [HS.out,HD.out,degE,if_neg c1,if_pos c2]);clear c1 c2;go_wp2_with fail;go_roundw
     case rel=>exact ⟨k+1,d+1,by omega,by go_num,by go_num,HT,bx1,hm1⟩
     case measure=>simp [intOf];omega
    ·have b2:(e.b == v)=false:=by simpa only [beq_eq_false_iff_ne] using c2
     have HT:Hid (deg (es.take (k+1)) v=d):=Lib.hid (by rw [HS.out,HD.out,degE,if_neg c1,if_neg c2];rfl);clear c1 c2;go_wp2_with fail;go_roundw
     case rel=>exact ⟨k+1,d,by omega,by go_num,by go_num,HT,bx1,hm1⟩
     case measure=>simp [intOf];omega
  ·obtain rfl:k=es.length:=by omega
   have hx:=HD.out;rw [List.take_length] at hx;subst hx;go_wp2_with fail;go_ret;exact ⟨rfl,hmr⟩
theorem spec_DegreeOf (r s:Int) (A:Option Addr) (es:List Ed) (c:Nat) (v:Int) (w:World) (lo hi:Nat) (hr:RG w lo hi A es) (hl:es.length≤1048576) :
  Calls Tryz.prog 242 #[.agg #[.int .i64 r,.int .i64 s,.slice A es.length c],.int .i64 v] w fun e w'=>e=.returned (.int .i64 (deg es v))∧Mid 0 0 w w':=by
 have hm0:Mid 0 0 w (w.alloc (.cells #[.int .i64 r,.int .i64 s,.slice A es.length c] 35)):=Mid.alloc _ _;have B1:=(Box.new w #[.int .i64 r,.int .i64 s,.slice A es.length c] 35)
 go_enter Tryz.func242,Tryz.ntmps242
 go_wp2_with fail;go_loopw [5,6] (fun n i wr=>∃ k d:Nat,k≤es.length∧i=.int .i64 k∧n=.int .i64 d∧Hid (deg (es.take k) v=d)∧Box wr w.heap.size [.int .i64 r,.int .i64 s,.slice A es.length c]∧Mid 0 0 w wr) (fun _ i _=>es.length - (intOf i).toNat)
 case atStart=>exact ⟨0,0,Nat.zero_le _,rfl,rfl,Lib.hid (by simp [deg]),B1,hm0⟩
 case round =>
  obtain ⟨k,d,hk,rfl,rfl,HD,bx,hmr⟩:=hrel;have hd:d≤2097152:=by
   have h1:=deg_le (es.take k) v;have h2:=HD.out;simp at h1;omega
  have p0:=bx.cell 0 rfl;have p1:=bx.cell 1 rfl;have p2:=bx.cell 2 rfl;by_cases hlt:k < es.length
  ·obtain ⟨B,off,e,rfl, -,hbh,he,e0,e1,e2⟩:=(hr.mid hmr oZl).ed hlt
   have hm1:=hmr;have bx1:=bx;have hkn:(k:Int) < (es.length:Int):=by omega
   have HS:=Lib.hid (deg_take_succ he v);clear he;by_cases c1:e.a=v
   ·have b1:(e.a == v)=true:=by simpa using c1
    by_cases c2:e.b=v
    ·have b2:(e.b == v)=true:=by simpa using c2
     have HT:Hid (deg (es.take (k+1)) v=d+1+1):=Lib.hid (by rw [HS.out,HD.out,degE,if_pos c1,if_pos c2]);clear c1 c2;go_wp2_with fail;go_roundw
     case rel=>exact ⟨k+1,d+1+1,by omega,by go_num,congrArg (Value.int .i64) (by omega),HT,bx1,hm1⟩
     case measure=>simp [intOf];omega
    ·have b2:(e.b == v)=false:=by simpa only [beq_eq_false_iff_ne] using c2
     have HT:Hid (deg (es.take (k+1)) v=d+1):=Lib.hid (by rw [HS.out,HD.out,degE,if_pos c1,if_neg c2]);clear c1 c2;go_wp2_with fail;go_roundw
     case rel=>exact ⟨k+1,d+1,by omega,by go_num,by go_num,HT,bx1,hm1⟩
     case measure=>simp [intOf];omega
   ·have b1:(e.a == v)=false:=by simpa only [beq_eq_false_iff_ne] using c1
    by_cases c2:e.b=v
    ·have b2:(e.b == v)=true:=by simpa using c2
     have HT:Hid (deg (es.take (k+1)) v=d+1):=Lib.hid (by rw [HS.out,HD.out,degE,if_neg c1,if_pos c2]);clear c1 c2;go_wp2_with fail;go_roundw
     case rel=>exact ⟨k+1,d+1,by omega,by go_num,by go_num,HT,bx1,hm1⟩
     case measure=>simp [intOf];omega
    ·have b2:(e.b == v)=false:=by simpa only [beq_eq_false_iff_ne] using c2
     have HT:Hid (deg (es.take (k+1)) v=d):=Lib.hid (by rw [HS.out,HD.out,degE,if_neg c1,if_neg c2];rfl);clear c1 c2;go_wp2_with fail;go_roundw
     case rel=>exact ⟨k+1,d,by omega,by go_num,by go_num,HT,bx1,hm1⟩
     case measure=>simp [intOf];omega
  ·obtain rfl:k=es.length:=by omega
   have hx:=HD.out;rw [List.take_length] at hx;subst hx;go_wp2_with fail;go_ret;exact ⟨rfl,hmr⟩
end
section
open Go.RowKit
structure TwoI (w:World) (lo:Nat) (F T:Value) (n m:Nat) (xs ys:List Int):Prop where
 f:w.ownsRow lo 3 1 F n (ints xs)
 t:w.ownsRow lo 3 1 T m (ints ys)
 ne:F.ownBlock≠T.ownBlock
theorem TwoI.swap {w:World} {lo:Nat} {F T:Value} {n m:Nat} {xs ys:List Int} (h:TwoI w lo F T n m xs ys):TwoI w lo T F m n ys xs:=⟨h.t,h.f,fun e=>h.ne e.symm⟩
theorem TwoI.push {w w':World} {lo:Nat} {F T F':Value} {n m n':Nat} {xs ys xs':List Int} (h:TwoI w lo F T n m xs ys) (ho:w'.ownsRow lo 3 1 F' n' (ints xs')) (hg:w.grownBy w' F.ownBlock) (hb:F'.ownBlock=F.ownBlock ∨ F'.ownBlock=some (w.heap.size+1)):TwoI w' lo F' T n' m xs' ys:=by
 refine ⟨ho,h.t.kept hg ?_,fun e=>?_⟩
 ·cases hT:T.ownBlock with
  | none=>exact .inl rfl
  | some j=>exact .inr fun e=>h.ne (by rw [hT];exact e.symm)
 ·rcases hb with hb | hb
  ·exact h.ne (hb.symm.trans e)
  ·have:=(h.t.lt (w.heap.size+1) (by rw [← e,hb])).2
   omega
section
variable {W:World} {ops:Array Oper} {rest:List Oper} {o:Oper} {a:Act} {Q:Exit→Act→World→Prop}
theorem wpList_push2 (hgd:o.guard=none) (s x:Operand)
  (ho:o.op=.call { callee:=.builtin .append,args:=#[s,x],argTypes:=#[44,44] }) (lo:Nat) (A:Option Addr) (n c:Nat) (xs:List Int) (T:Value) (m:Nat) (ys:List Int) (hs:a.eval s=.slice A n c)
  (h2:TwoI W lo (.slice A n c) T n m xs ys) (y:Int) (hx:a.eval x=.slice (some ⟨W.heap.size,0,none⟩) 1 1) (hn:n≤1048576) (hb:lo≤W.heap.size)
  (h:∀ A' c' w',TwoI w' lo (.slice A' (n+1) c') T (n+1) m (xs++[y]) ys→Mid lo W.heap.size W w'→wpList Tryz.prog ops Q rest (a.put o.dst (.slice A' (n+1) c')) w') :
  wpList Tryz.prog ops Q (o :: rest) a (W.alloc (.cells #[.int .i64 y] 3)):=by
 refine wpList_push (news:=[.int .i64 y]) hgd s x 44 ho lo 3 (.int .i64 0) 1 8 undSI infoI rfl (by decide) (.slice A n c) n (ints xs) hs h2.f 1 hx rfl ?_ (by unfold maxLen;omega) (by omega) hb ?_
 ·intro u hu
  simp at hu;subst hu
  rfl
 ·intro v' w' h3 h4 h5
  obtain ⟨A',c',rfl, -, -⟩:=owns_shape h3;refine h A' c' w' (h2.push ?_ h4 h5) (Mid.of_grownRow h2.f h4);rw [ints_append];exact h3
end
end
section
open Go.RowKit
theorem lets_le {n:Nat} {x:Int} (h:x∈lets n):-(n:Int)≤x∧x≤n:=(mem_lets.1 h).2
theorem impl_letters (n:Nat) (w:World) (hn:n≤1000) :
  Calls Tryz.prog 134 #[.int .i64 n] w fun e w'=>∃ A c,e=.returned (.slice A (lets n).length c)∧RV w' w.heap.size w'.heap.size A (ints (lets n))∧Mid 0 0 w w':=by
 have hm0:Mid 0 0 w (w.alloc (.cells #[] 3)):=Mid.alloc _ _;have O0:=owns_empty w 3 1;go_enter Tryz.func134,Tryz.ntmps134
 go_wp2_with fail;go_loopw [3,4] (fun out i wr=>∃ (k:Nat) (A1:Option Addr) (c1 n1:Nat),k≤n∧i=.int .i64 ((k:Int)+1)∧out=.slice A1 n1 c1∧Hid ((lets k).length=n1) ∧
   wr.ownsRow w.heap.size 3 1 (.slice A1 n1 c1) n1 (ints (lets k))∧Mid 0 0 w wr∧w.heap.size≤wr.heap.size) (fun _ i _=>(n+1 - intOf i).toNat)
 case atStart=>exact ⟨0,_,0,0,Nat.zero_le _,rfl,rfl,Lib.hid rfl,O0,hm0,hm0.size⟩
 case round =>
  obtain ⟨k,A1,c1,n1,hk,rfl,rfl,HN,hown,hm,hsz⟩:=hrel;have hn1:n1≤2000:=by have h1:=lets_len k;have h2:=HN.out;omega
  by_cases hlt:k < n
  ·have hkn:(k:Int)+1≤n:=by omega
   have hk0:(0:Int)≤(k:Int):=by omega
   have b4:wrap64 (-((k:Int)+1)) = -((k:Int)+1):=by unfold wrap64;omega
   have HW:=Lib.hid hown;clear hown;go_wp2_with (at_builtin;refine wpList_push rfl _ _ 44 rfl w.heap.size 3 (.int .i64 0) 1 8 undSI infoI rfl (by decide) _ _ _ rfl HW.out 2 [.int .i64 ((k:Int)+1),.int .i64 (-((k:Int)+1))] rfl rfl ?c1 ?c2 ?c3 hsz ?next)
   case c1=>exact one_of_ints [(k:Int)+1, -((k:Int)+1)]
   case c2=>unfold maxLen;omega
   case c3=>omega
   case next =>
    intro v' w3 hown1 hgr _;obtain ⟨A3,c3,rfl, -, -⟩:=owns_shape hown1;have hm3:=Mid.of_grownRow HW.out hgr;go_wp2_with fail;go_roundw
    case rel =>
     refine ⟨k+1,A3,c3,n1+2,by omega,by go_num,rfl,Lib.hid (by have:=HN.out;simp [lets];omega),?_,hm.transNew hm3 (Or.inl (Nat.le_refl _)),Nat.le_trans hsz hm3.size⟩;rw [lets,ints_append];exact hown1
    case measure=>simp [intOf];omega
  ·obtain rfl:k=n:=by omega
   have hx:=HN.out;have hsz2:=hm.size;go_wp2_with fail;go_ret;exact ⟨_,_,(by rw [hx];rfl),owns_rv hown,hm⟩
theorem spec_l5Letters (n:Nat) (w:World) (hn:n≤1000) :
  Calls Tryz.prog 127 #[.int .i64 n] w fun e w'=>∃ A c,e=.returned (.slice A (lets n).length c)∧RV w' w.heap.size w'.heap.size A (ints (lets n))∧Mid 0 0 w w':=by
 have hm0:Mid 0 0 w (w.alloc (.cells #[] 3)):=Mid.alloc _ _;have O0:=owns_empty w 3 1;go_enter Tryz.func127,Tryz.ntmps127
 go_wp2_with fail;go_loopw [3,4] (fun out i wr=>∃ (k:Nat) (A1:Option Addr) (c1 n1:Nat),k≤n∧i=.int .i64 ((k:Int)+1)∧out=.slice A1 n1 c1∧Hid ((lets k).length=n1) ∧
   wr.ownsRow w.heap.size 3 1 (.slice A1 n1 c1) n1 (ints (lets k))∧Mid 0 0 w wr∧w.heap.size≤wr.heap.size) (fun _ i _=>(n+1 - intOf i).toNat)
 case atStart=>exact ⟨0,_,0,0,Nat.zero_le _,rfl,rfl,Lib.hid rfl,O0,hm0,hm0.size⟩
 case round =>
  obtain ⟨k,A1,c1,n1,hk,rfl,rfl,HN,hown,hm,hsz⟩:=hrel;have hn1:n1≤2000:=by have h1:=lets_len k;have h2:=HN.out;omega
  by_cases hlt:k < n
  ·have hkn:(k:Int)+1≤n:=by omega
   have hk0:(0:Int)≤(k:Int):=by omega
   have b4:wrap64 (-((k:Int)+1)) = -((k:Int)+1):=by unfold wrap64;omega
   have HW:=Lib.hid hown;clear hown;go_wp2_with (first | (at_builtin;refine wpList_pushI rfl _ _ rfl w.heap.size A1 n1 c1 (lets k) rfl HW.out ((k:Int)+1) rfl (by omega) hsz ?_;intro A2 c2 w2 hown2 hm2;have hsz2:=Nat.le_trans hsz hm2.size;have HW2:=Lib.hid hown2;clear hown2) | (at_builtin;refine wpList_pushI rfl _ _ rfl w.heap.size A2 (n1+1) c2 (lets k++[(k:Int)+1]) rfl HW2.out (-((k:Int)+1)) rfl (by omega) hsz2 ?_;intro A3 c3 w3 hown3 hm3))
   go_roundw
   case rel =>
    refine ⟨k+1,A3,c3,n1+1+1,by omega,by go_num,rfl,Lib.hid (by have:=HN.out;simp [lets];omega),?_,(hm.transNew hm2 (Or.inl (Nat.le_refl _))).transNew hm3 (Or.inl (Nat.le_refl _)),Nat.le_trans hsz2 hm3.size⟩;rw [List.append_assoc] at hown3;exact hown3
   case measure=>simp [intOf];omega
  ·obtain rfl:k=n:=by omega
   have hx:=HN.out;have hsz2:=hm.size;go_wp2_with fail;go_ret;exact ⟨_,_,(by rw [hx];rfl),owns_rv hown,hm⟩
theorem copyIntsN (A:Option Addr) (xs:List Int) (c:Nat) (w:World) (lo hi:Nat) (hr:RV w lo hi A (ints xs)) (hl:xs.length≤1048576) :
  Calls Tryz.prog 178 #[.slice A xs.length c] w fun e w'=>∃ g c2,e=.returned (.slice (some ⟨g,0,none⟩) xs.length c2)∧w'.ownsRow w.heap.size 3 1 (.slice (some ⟨g,0,none⟩) xs.length c2) xs.length (ints xs)∧Mid 0 0 w w':=by
 have hoe:=owns_empty w 3 1;have hal:=Mid.alloc w (.cells #[] 3);have hra:=(hr.mid hal oZl).rs;have hla:(ints xs).length=xs.length * 1:=by rw [ints_len];omega
 have hnn:(Value.slice (some ⟨w.heap.size,0,none⟩) 0 0).ownBlock≠none:=by simp [Value.ownBlock]
 have HNN:=Lib.hid hnn;clear hnn;go_enter Tryz.func178,Tryz.ntmps178
 go_wp2_with (at_builtin;refine wpList_cat rfl _ _ 44 rfl w.heap.size 3 (.int .i64 0) 1 8 undSI infoI rfl (by decide) _ _ _ rfl hoe A xs.length c _ (ints xs) rfl hra hla (one_of_ints _) ?c4 ?c5 ?c6 ?next)
 case c4=>unfold maxLen;omega
 case c5=>omega
 case c6=>simp
 case next =>
  intro v2 w2 ho2 hgr2 hat2;obtain ⟨g,c2,rfl,hg1, -, -⟩:=owns_blk ho2 hat2 HNN.out;try rw [Nat.zero_add,List.nil_append] at ho2
  have hm2:=Mid.of_grownRow hoe hgr2;have hmm:=hal.transNew hm2 (Or.inl (Nat.le_refl _));go_wp2_with fail;go_ret;exact ⟨g,c2,by simp,ho2,hmm⟩
end
structure JAt (s:Int) (es:List Ed) (v:Int) (vis:List Int):Prop where
 here:v∈vis
 rng:∀ u∈vis,0≤u∧u < s
 nd:vis.Nodup
 conn:∀ u∈vis,Conn es v u
theorem JAt.le {s:Int} {es:List Ed} {v:Int} {vis:List Int} (h:JAt s es v vis):vis.length≤s.toNat:=by
 refine nodup_le s.toNat vis h.nd fun u hu=>?_;have:=h.rng u hu;omega
theorem JAt.start {s:Int} (es:List Ed) {v:Int} (h0:0≤v) (h1:v < s):JAt s es v [v]:=by
 refine ⟨by simp,?_,by simp,?_⟩
 ·intro u hu;simp at hu;subst hu;exact ⟨h0,h1⟩
 ·intro u hu;simp at hu;subst hu;exact .here
theorem JAt.push {s:Int} {es:List Ed} {v u:Int} {vis:List Int} (h:JAt s es v vis) (hr:0≤u∧u < s) (hn:u ∉ vis) (hc:Conn es v u):JAt s es v (vis++[u]):=by
 refine ⟨by simp [h.here],?_,?_,?_⟩
 ·intro x hx
  rcases List.mem_append.1 hx with hx | hx
  ·exact h.rng x hx
  ·simp at hx;subst hx;exact hr
 ·rw [List.nodup_append]
  refine ⟨h.nd,by simp,?_⟩;intro a ha b hb;simp at hb;subst hb;intro e;subst e;exact hn ha
 ·intro x hx
  rcases List.mem_append.1 hx with hx | hx
  ·exact h.conn x hx
  ·simp at hx;subst hx;exact hc
def Shut' (es:List Ed) (k:Nat) (vis:List Int):Prop:=∀ (j:Nat) (e:Ed),j < k→es[j]?=some e→(e.a∈vis↔e.b∈vis)
theorem Shut'.zero (es:List Ed) (vis:List Int):Shut' es 0 vis:=fun j e h=>absurd h (Nat.not_lt_zero _)
theorem Shut'.succ {es:List Ed} {k:Nat} {vis:List Int} (h:Shut' es k vis) {e:Ed} (he:es[k]?=some e) (hc:e.a∈vis↔e.b∈vis):Shut' es (k+1) vis:=fun j f hj hf=>by
 by_cases h1:j < k
 ·exact h j f h1 hf
 ·obtain rfl:j=k:=by omega
  rw [he] at hf;injection hf with hf
  subst hf;exact hc
theorem JAt.done {s:Int} {es:List Ed} {v:Int} {vis:List Int} (h:JAt s es v vis) (hc:Shut' es es.length vis) (u:Int):u∈vis↔Conn es v u:=by
 refine conn_iff (P:=fun u=>u∈vis) h.here (fun e he=>?_) h.conn u;obtain ⟨j,hj,rfl⟩:=List.mem_iff_getElem.1 he;exact hc j _ hj (List.getElem?_eq_getElem hj)
theorem JAt.edge {s r:Int} {es:List Ed} {v:Int} {vis:List Int} (h:JAt s es v vis) {e:Ed} (he:e∈es) (hi:InG r s e) (hd:¬ (e.a∈vis↔e.b∈vis)) :
  ∃ u,JAt s es v (vis++[u])∧∀ x,x∈vis++[e.a]++[e.b]↔x∈vis++[u]:=by
 unfold InG at hi;by_cases ha:e.a∈vis
 ·have hb:e.b ∉ vis:=fun hb=>hd ⟨fun _=>hb,fun _=>ha⟩
  refine ⟨e.b,h.push (by omega) hb (.out he (h.conn _ ha)),fun x=>?_⟩;simp only [List.mem_append,List.mem_singleton];constructor
  ·rintro ((h | rfl) | h)
   ·exact .inl h
   ·exact .inl ha
   ·exact .inr h
  ·rintro (h | h)
   ·exact .inl (.inl h)
   ·exact .inr h
 ·have hb:e.b∈vis:=Classical.byContradiction fun hb=>hd ⟨fun h=>absurd h ha,fun h=>absurd h hb⟩
  refine ⟨e.a,h.push (by omega) ha (.inn he (h.conn _ hb)),fun x=>?_⟩;simp only [List.mem_append,List.mem_singleton];constructor
  ·rintro ((h | rfl) | rfl)
   ·exact .inl h
   ·exact .inr rfl
   ·exact .inl hb
  ·rintro (h | h)
   ·exact .inl (.inl h)
   ·exact .inl (.inr h)
theorem filter_split' (p:Nat→Bool):∀ l:List Nat,(l.filter p).length+(l.filter fun v=>!p v).length=l.length
 | []=>rfl
 | a :: t=>by
  have:=filter_split' p t;cases h:p a <;> simp [h] <;> omega
theorem unseen_len {n:Nat} {es:List Ed} {v:Int} {vis:List Int} (h:JAt n es v vis):((List.range n).filter fun (j:Nat)=>!decide ((j:Int)∈vis)).length+vis.length=n:=by
 have h1:vis.Perm (((List.range n).filter fun (j:Nat)=>decide ((j:Int)∈vis)).map fun (j:Nat)=>(j:Int)):=by
  refine (List.perm_ext_iff_of_nodup h.nd ?_).2 fun u=>?_
  ·exact List.pairwise_map.2 ((List.nodup_range.filter _).imp fun h he=>h (by omega))
  ·rw [List.mem_map]
   constructor
   ·intro hu
    have:=h.rng u hu;refine ⟨u.toNat,List.mem_filter.2 ⟨List.mem_range.2 (by omega),?_⟩,by omega⟩;rw [show ((u.toNat:Nat):Int)=u by omega]
    simpa using hu
   ·rintro ⟨k,hk,rfl⟩
    simpa using (List.mem_filter.1 hk).2
 have h2:=filter_split' (fun j:Nat=>decide ((j:Int)∈vis)) (List.range n);have h3:=h1.length_eq;rw [List.length_map] at h3;rw [List.length_range] at h2;omega
section
open Go.RowKit
theorem seenOf_congr (n:Nat) {xs ys:List Int} (h:∀ u,u∈xs↔u∈ys):seenOf n xs=seenOf n ys:=by
 unfold seenOf;exact List.map_congr_left fun j _=>by rw [decide_eq_decide.2 (h j)]
theorem Mid.setAt (w:World) (b i:Nat) (u:Value):Mid b (b+1) w (w.setCell ⟨b,i,none⟩ u):=Mid.setCell w u (Nat.le_refl _) (Nat.lt_succ_self _)
def boolOf:Value→Bool | .bool b=>b | _=>false
def cntF (w:World) (g n:Nat):Nat:=((List.range n).filter fun j=>match w.cell? ⟨g,j,none⟩ with | some (.bool false)=>true | _=>false).length
theorem cntF_seen {w:World} {base g n c:Nat} {vis:List Int} {es:List Ed} {v:Int} (h:w.ownsRow base 4 1 (.slice (some ⟨g,0,none⟩) n c) n (seenOf n vis)) (hj:JAt n es v vis):cntF w g n+vis.length=n:=by
 have h0:=unseen_len hj
 suffices hs:cntF w g n=((List.range n).filter fun (j:Nat)=>!decide ((j:Int)∈vis)).length by omega
 unfold cntF
 congr 1
 refine List.filter_congr fun j hj=>?_;have hj:=List.mem_range.1 hj;rw [(h.cellAt j (by omega)).trans (seenOf_get hj)];by_cases hm:(j:Int)∈vis <;> simp [hm]
theorem impl_joined (r:Int) (n m:Nat) (A:Option Addr) (es:List Ed) (c:Nat) (w:World) (lo hi:Nat) (hr:RG w lo hi A es) (hg:IsGr r n es) (hv:m < n) :
  Calls Tryz.prog 233 #[graV r n A es.length c,.int .i64 m] w fun e w'=>e=.returned (.slice (some ⟨w.heap.size+1,0,none⟩) n n)∧∃ vis,w'.ownsRow (w.heap.size+1) 4 1 (.slice (some ⟨w.heap.size+1,0,none⟩) n n) n (seenOf n vis)∧(∀ u,u∈vis↔Conn es m u)∧Mid 0 0 w w':=by
 have hn40:n≤40:=by have:=hg.size;omega
 have hl:=hg.len;have hmx:n≤maxLen:=by unfold maxLen;omega
 have hm0:Mid 0 0 w (w.alloc (.cells #[.int .i64 r,.int .i64 n,.slice A es.length c] 35)):=Mid.alloc _ _;have B0:=Box.new w #[.int .i64 r,.int .i64 n,.slice A es.length c] 35;have HG:=Lib.hid hg;have hv3:(m:Int) < (n:Int):=by omega
 have hv0:(0:Int)≤(m:Int):=by omega
 have hj0:=JAt.start (s:=n) es hv0 hv3;have HJ0:=Lib.hid hj0;clear hg hj0;go_enter Tryz.func233,Tryz.ntmps233
 go_wp2_with (at_make;refine wpList_mk rfl _ _ 121 rfl 4 (.bool false) 1 undSB infoB rfl .i64 .i64 _ _ n rfl rfl rfl rfl (by omega) hmx ?_;intro w2 hown2 hgr2 hsz2;have hfz:=hown2.frozenAt m;obtain ⟨u, -,hcs⟩:=owns_cell hown2 hv;rw [World.size_alloc] at hfz hcs)
 have hm2:=hm0.trans (Mid.of_grown hgr2 (by intro g h;cases h));rw [World.size_alloc] at hown2;have B2:=B0.mid (Mid.of_grown (lo:=0) (hi:=0) hgr2 (by intro g h;cases h)) oZr;have hset:=owns_set (ys:=seenOf n [(m:Int)]) hown2 m (.bool true) (by rw [← seenOf_nil,seenOf_set hv];rfl);have hms:=Mid.storeNew hm2 (p:=⟨w.heap.size+1,m,none⟩) (Nat.le_succ _) (.bool true);have hst:Mid (w.heap.size+1) (w.heap.size+2) w2 (w2.setCell ⟨w.heap.size+1,m,none⟩ (.bool true)):=Mid.setCell _ _ (Nat.le_refl _) (Nat.lt_succ_self _);have B3:=B2.mid hst (Or.inl (Nat.lt_succ_self _));clear hown2 hgr2 hm2 B2 hcs hfz B0 hm0 hsz2 hst;go_loopw [6] (fun a wr=>∃ (ag:Bool) (vis:List Int),a=.bool ag∧JAt n es m vis∧Hid (ag=false→Shut' es es.length vis)∧Box wr w.heap.size [.int .i64 r,.int .i64 n,.slice A es.length c] ∧
   wr.ownsRow (w.heap.size+1) 4 1 (.slice (some ⟨w.heap.size+1,0,none⟩) n n) n (seenOf n vis)∧Mid 0 0 w wr) (fun a wr=>2 * cntF wr (w.heap.size+1) n+if boolOf a then 1 else 0)
 case atStart=>exact ⟨true,[(m:Int)],rfl,HJ0.out,Lib.hid (fun h=>nomatch h),B3,hset,hms⟩
 case round =>
  clear B3 hset hms;obtain ⟨wo,hwo⟩:∃ wo,wo=wr:=⟨_,rfl⟩
  subst hwo;obtain ⟨ag0,vis0,rfl,hj,HA,bx,hown,hm⟩:=hrel;cases ag0 with
  | false =>
   go_wp2_with fail;go_ret;exact ⟨rfl,vis0,hown,fun u=>hj.done (HA.out trivial) u,hm⟩
  | true =>
   have HJ:=Lib.hid hj;have HC:=Lib.hid (cntF_seen hown hj);clear hj HA;have p0:=bx.cell 0 rfl;have p1:=bx.cell 1 rfl;have p2:=bx.cell 2 rfl;go_wp2_with fail;go_loopw [6,19] (fun a i wr=>∃ (k:Nat) (ag:Bool) (vis:List Int),k≤es.length∧i=.int .i64 k∧a=.bool ag∧JAt n es m vis∧Hid (ag=false→vis.length=vis0.length∧Shut' es k vis)∧Hid (ag=true→vis0.length < vis.length)∧Hid (vis0.length≤vis.length) ∧
    Box wr w.heap.size [.int .i64 r,.int .i64 n,.slice A es.length c]∧wr.ownsRow (w.heap.size+1) 4 1 (.slice (some ⟨w.heap.size+1,0,none⟩) n n) n (seenOf n vis)∧Mid 0 0 w wr) (fun _ i _=>es.length - (intOf i).toNat)
   case atStart=>exact ⟨0,false,vis0,Nat.zero_le _,rfl,rfl,HJ.out,Lib.hid (fun _=>⟨rfl,Shut'.zero es vis0⟩),Lib.hid (fun h=>nomatch h),Lib.hid (Nat.le_refl _),bx,hown,hm⟩
   case round =>
    clear bx hown hm p0 p1 p2;obtain ⟨k,ag,vis,hk,rfl,rfl,hj,HF,HT,HL,bx,hown,hm⟩:=hrel;have p0:=bx.cell 0 rfl;have p1:=bx.cell 1 rfl;have p2:=bx.cell 2 rfl;by_cases hlt:k < es.length
    ·obtain ⟨B,off,e,rfl, -,hbh,he,e0,e1,e2⟩:=(hr.mid hm oZl).ed hlt
     have hin:=HG.out.all e (List.mem_of_getElem? he);obtain ⟨i1,i2,i3,i4,i5,i6⟩:=hin;have HE:=Lib.hid he;have hkn:(k:Int) < (es.length:Int):=by omega
     obtain ⟨x,l,y⟩:=e;simp only at i1 i2 i3 i4 i5 i6 e0 e1 e2;obtain ⟨ia,rfl⟩:∃ ia:Nat,x=ia:=⟨x.toNat,by omega⟩
     obtain ⟨ib,rfl⟩:∃ ib:Nat,y=ib:=⟨y.toNat,by omega⟩
     have hia:ia < n:=by omega
     have hib:ib < n:=by omega
     have hin:InG r n ⟨(ia:Int),l,(ib:Int)⟩:=⟨i1,i2,i3,i4,i5,i6⟩
     have HIN:=Lib.hid hin;have hal:=Mid.alloc wr (.cells #[.int .i64 ia,.int .i64 l,.int .i64 ib] 110);have ZE:=Box.new wr #[.int .i64 ia,.int .i64 l,.int .i64 ib] 110;have bx1:=bx.mid hal oZr;have hown1:=hown.alloc (.cells #[.int .i64 ia,.int .i64 l,.int .i64 ib] 110);have hm1:=hm.trans hal;have hca:=(hown1.cellAt ia (by omega)).trans (seenOf_get hia);have hcb:=(hown1.cellAt ib (by omega)).trans (seenOf_get hib);have hfz:=fun i=>hown1.frozenAt i;have hgs:w.heap.size+1 < wr.heap.size:=(hown.lt _ rfl).2;obtain ⟨ba,hba⟩:∃ b:Bool,decide ((ia:Int)∈vis)=b:=⟨_,rfl⟩
     obtain ⟨bb,hbb⟩:∃ b:Bool,decide ((ib:Int)∈vis)=b:=⟨_,rfl⟩
     rw [hba] at hca;rw [hbb] at hcb;clear he hin;cases ba with
     | false =>
      cases bb with
      | false =>
       have HD:Hid ((ia:Int)∈vis↔(ib:Int)∈vis):=Lib.hid (by rw [← decide_eq_decide,hba,hbb]);go_wp2_with fail;go_quiet (fail)
       go_wp2_with fail;go_roundw
       case rel=>exact ⟨k+1,ag,vis,by omega,by go_num,rfl,hj,Lib.hid (fun h=>⟨(HF.out h).1,(HF.out h).2.succ HE.out (HD.out)⟩),HT,HL,bx1.drewN _,owns_drewN hown1 _,hm1.drewN _⟩
       case measure=>simp [intOf];omega
      | true =>
       have hne1:¬ ia=ib:=fun h=>by rw [h,hbb] at hba;cases hba
       have hne2:¬ ib=ia:=fun h=>hne1 h.symm;obtain ⟨u,hju,hmem⟩:=hj.edge (List.mem_of_getElem? HE.out) HIN.out (by simp only [];rw [← decide_eq_decide,hba,hbb];simp);have hset:=fun q=>owns_set (owns_set (owns_drewN hown1 q) ia (.bool true) (seenOf_set hia)) ib (.bool true) ((seenOf_set hib).trans (seenOf_congr _ hmem));have hms:=fun q=>(Mid.storeNew (hm1.drewN q) (p:=⟨w.heap.size+1,ia,none⟩) (Nat.le_succ _) (.bool true)).storeNew (p:=⟨w.heap.size+1,ib,none⟩) (Nat.le_succ _) (.bool true);have hst:∀ q,Mid (w.heap.size+1) (w.heap.size+2) ((wr.alloc (.cells #[.int .i64 ia,.int .i64 l,.int .i64 ib] 110)).drewN q) ((((wr.alloc (.cells #[.int .i64 ia,.int .i64 l,.int .i64 ib] 110)).drewN q).setCell ⟨w.heap.size+1,ia,none⟩ (.bool true)).setCell ⟨w.heap.size+1,ib,none⟩ (.bool true)):=fun q=>(Mid.setAt _ _ _ _).trans (Mid.setAt _ _ _ _);have bx2:=fun q=>(bx1.drewN q).mid (hst q) (Or.inl (Nat.lt_succ_self _));have HSET:=Lib.hid hset;clear hset;go_wp2_with fail;go_quiet (fail)
       go_wp2_with fail;go_roundw
       case rel =>
        refine ⟨k+1,true,vis++[u],by omega,by go_num,rfl,hju,Lib.hid (fun h=>nomatch h),Lib.hid (fun _=>?_),Lib.hid ?_,bx2 _,HSET.out _,hms _⟩
        ·have:=HL.out;simp;omega
        ·have:=HL.out;simp;omega
       case measure=>simp [intOf];omega
     | true =>
      cases bb with
      | false =>
       have hne1:¬ ia=ib:=fun h=>by rw [h,hbb] at hba;cases hba
       have hne2:¬ ib=ia:=fun h=>hne1 h.symm;obtain ⟨u,hju,hmem⟩:=hj.edge (List.mem_of_getElem? HE.out) HIN.out (by simp only [];rw [← decide_eq_decide,hba,hbb];simp);have hset:=fun q=>owns_set (owns_set (owns_drewN hown1 q) ia (.bool true) (seenOf_set hia)) ib (.bool true) ((seenOf_set hib).trans (seenOf_congr _ hmem));have hms:=fun q=>(Mid.storeNew (hm1.drewN q) (p:=⟨w.heap.size+1,ia,none⟩) (Nat.le_succ _) (.bool true)).storeNew (p:=⟨w.heap.size+1,ib,none⟩) (Nat.le_succ _) (.bool true);have hst:∀ q,Mid (w.heap.size+1) (w.heap.size+2) ((wr.alloc (.cells #[.int .i64 ia,.int .i64 l,.int .i64 ib] 110)).drewN q) ((((wr.alloc (.cells #[.int .i64 ia,.int .i64 l,.int .i64 ib] 110)).drewN q).setCell ⟨w.heap.size+1,ia,none⟩ (.bool true)).setCell ⟨w.heap.size+1,ib,none⟩ (.bool true)):=fun q=>(Mid.setAt _ _ _ _).trans (Mid.setAt _ _ _ _);have bx2:=fun q=>(bx1.drewN q).mid (hst q) (Or.inl (Nat.lt_succ_self _));have HSET:=Lib.hid hset;clear hset;go_wp2_with fail;go_quiet (fail)
       go_wp2_with fail;go_roundw
       case rel =>
        refine ⟨k+1,true,vis++[u],by omega,by go_num,rfl,hju,Lib.hid (fun h=>nomatch h),Lib.hid (fun _=>?_),Lib.hid ?_,bx2 _,HSET.out _,hms _⟩
        ·have:=HL.out;simp;omega
        ·have:=HL.out;simp;omega
       case measure=>simp [intOf];omega
      | true =>
       have HD:Hid ((ia:Int)∈vis↔(ib:Int)∈vis):=Lib.hid (by rw [← decide_eq_decide,hba,hbb]);go_wp2_with fail;go_quiet (fail)
       go_wp2_with fail;go_roundw
       case rel=>exact ⟨k+1,ag,vis,by omega,by go_num,rfl,hj,Lib.hid (fun h=>⟨(HF.out h).1,(HF.out h).2.succ HE.out (HD.out)⟩),HT,HL,bx1.drewN _,owns_drewN hown1 _,hm1.drewN _⟩
       case measure=>simp [intOf];omega
    ·obtain rfl:k=es.length:=by omega
     go_wp2_with fail;go_roundw
     case rel=>exact ⟨ag,vis,rfl,hj,Lib.hid (fun h=>(HF.out h).2),bx,hown,hm⟩
     case measure =>
      have h1:=HC.out;have h2:=cntF_seen hown hj;have h3:=HL.out;have h4:=HT.out;have h5:=HJ.out.le;simp [boolOf];cases ag with
      | false=>simp;omega
      | true=>have:=h4 rfl;simp;omega
end
end Go.Proofs.YtkimajabegojoaaGreat
