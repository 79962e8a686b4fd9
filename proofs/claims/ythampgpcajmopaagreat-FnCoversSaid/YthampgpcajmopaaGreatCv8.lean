/- Contracts and lemmas of this seat, many texts in one: see the words ahead of each. No condition beyond those typed in each lemma. -/
import Derived.Test.YthampgpcajmopaaGreatCv1
import Derived.Test.YthampgpcajmopaaGreatCv7
import Derived.Test.YthampgpcajmopaaGreatCv2
import Derived.Test.YthampgpcajmopaaGreatCv5
import Derived.Test.YthampgpcajmopaaGreatCv3
import Derived.Test.YthampgpcajmopaaGreatCv6
import Derived.Test.YthampgpcajmopaaGreatCv4

namespace Go.Proofs.YthampgpcajmopaaGreat
set_option linter.unusedVariables false
set_option linter.unusedSimpArgs false
set_option maxHeartbeats 40000000
set_option maxRecDepth 100000
section
open Go.RowKit
theorem big_any (A:Option Addr) (n c:Nat) (w:World) :
  Calls Tryz.prog 7 #[.slice A n c] w fun e w'=>e=.returned (.bool (decide ((n:Int) > 1048576)))∧w=w':=by
 go_enter Tryz.func7,Tryz.ntmps7
 go_wp2_with fail;all_goals
  go_ret;exact ⟨rfl,rfl⟩
theorem dropAt_len {xs:List Int} {n k:Nat} (h:xs.length=n) (hk:k < n):(xs.take k++xs.drop (k+1)).length+1=n:=by
 rw [List.length_append,List.length_take,List.length_drop];omega
theorem dropAt_mem {xs:List Int} {k:Nat} {x:Int} (h:x∈xs.take k++xs.drop (k+1)):x∈xs:=by
 rcases List.mem_append.1 h with h | h
 ·exact List.mem_of_mem_take h
 ·exact List.mem_of_mem_drop h
theorem ints_takeD (xs:List Int) (k:Nat):(ints xs).take k=ints (xs.take k):=by simp [ints]
theorem ints_drop (xs:List Int) (k:Nat):(ints xs).drop k=ints (xs.drop k):=by simp [ints]
end
section
open Go.RowKit
theorem l12Finite_any (p:Nat) (A:Option Addr) (bs:List Int) (c:Nat) (w:World) (hb:OkB bs) (hl:bs.length≤1048576) (h:Cur w p A bs c) :
  Calls Tryz.prog 185 #[.pointer (some ⟨p,0,none⟩)] w fun e w'=>∃ r s A' c' es,e=.returned (graV r s A' (List.length es) c')∧DrG r s es∧OG w' w.heap.size w'.heap.size A' c' es∧Cur w' p A bs c∧Mid p (p+1) w w':=by
 have hpw:=h.lt;have hal:=Mid.alloc w (.cells #[.int .i64 0,.int .i64 0,.slice none 0 0] 26);have B2:=Box.new w #[.int .i64 0,.int .i64 0,.slice none 0 0] 26;have h0:=h.mid hal (Or.inr rfl);go_enter Tryz.func185,Tryz.ntmps185
 have hal2:=Mid.alloc (w.alloc (.cells #[.int .i64 0,.int .i64 0,.slice none 0 0] 26)) (.cells #[.int .i64 1,.int .i64 2,.int .i64 2,.int .i64 2,.int .i64 3] 3);have hbx:=Box.new (w.alloc (.cells #[.int .i64 0,.int .i64 0,.slice none 0 0] 26)) #[.int .i64 1,.int .i64 2,.int .i64 2,.int .i64 2,.int .i64 3] 3;rw [World.size_alloc] at hbx;replace B2:=B2.mid hal2 oZr;replace h0:=h0.mid hal2 (Or.inr rfl);have hm0:=hal.trans hal2;go_wp2_with fail;generalize (w.alloc (.cells #[.int .i64 0,.int .i64 0,.slice none 0 0] 26)).alloc (.cells #[.int .i64 1,.int .i64 2,.int .i64 2,.int .i64 2,.int .i64 3] 3)=w1 at hbx B2 h0 hm0 ⊢;have hs1:w.heap.size+1 < w1.heap.size:=hbx.1;have hri:RI w1 (w.heap.size+1) (w.heap.size+1+1) (some ⟨w.heap.size+1,0,none⟩) [1,2,2,2,3] :=
  ⟨hs1,fun _=>⟨w.heap.size+1,0,rfl,Nat.le_refl _,Nat.lt_succ_self _,fun j u hu=>by rw [Nat.zero_add];exact hbx.2.1 j u (by simpa [ints] using hu)⟩⟩
 with_reducible refine (l1PickIntN (some ⟨w.heap.size+1,0,none⟩) [1,2,2,2,3] 5 5 rfl (by decide) (by decide) p A bs c _ (w.heap.size+1) _ hri (Or.inl (by omega)) hb hl h0).mono ?_
 rintro e w2 ⟨r,rfl,hrm,h2,m2⟩;have hr:1≤r∧r≤3:=by simp at hrm;omega
 have B2b:=B2.mid m2 (Or.inr (by omega));have hm2:=hm0.zero.trans m2;clear hri hbx hrm h0 B2 hm0 hal hal2 m2;go_wp2_with fail;with_reducible refine (l1BelowI 5 (by decide) (by decide) p A bs c _ hb hl h2).mono ?_
 rintro e w3 ⟨k,rfl,hk,h3,m3⟩;have B2c:=B2b.mid m3 (Or.inr (by omega));have hm3:=hm2.trans m3;have hs3:=hm3.size;have ek:IntKind.i64.wrap (1+(k:Int))=1+(k:Int):=IntWalk.i64_in _ (by omega);clear h2 B2b hm2 m3;have hal3:=Mid.alloc w3 (.cells #[.int .i64 r,.int .i64 (1+(k:Int)),.slice none 0 0] 26);have G0:=Box.new w3 #[.int .i64 r,.int .i64 (1+(k:Int)),.slice none 0 0] 26;have B2d:=B2c.mid hal3 oZr;have h4:=h3.mid hal3 (Or.inr rfl);have hm4:=hm3.trans hal3.zero;have hgw0:w.heap.size < w3.heap.size:=B2c.1;go_wp2_with fail;obtain ⟨gb,hgb⟩:∃ g,w3.heap.size=g:=⟨_,rfl⟩
 have hgw:w.heap.size < gb:=by omega
 obtain ⟨rn,hrn⟩:=Int.eq_ofNat_of_zero_le (by omega:0≤r);obtain ⟨n,hn⟩:∃ n:Nat,1+(k:Int)=n:=⟨1+k,by omega⟩
 rw [hn,hgb,hrn] at G0 ⊢;rw [hn,hrn] at B2d h4 hm4;generalize w3.alloc (.cells #[.int .i64 (rn:Int),.int .i64 (n:Int),.slice none 0 0] 26)=w4 at G0 B2d h4 hm4 ⊢;have hrn3:1≤(rn:Int)∧(rn:Int)≤3:=by omega
 have hn5:1≤(n:Int)∧(n:Int)≤5:=by omega
 have hg4:gb < w4.heap.size:=G0.1;clear h3 B2c hal3 hm3 ek hn hrn hk hr hgb hgw0;have hog:OG w4 (gb+1) w4.heap.size none 0 []:=OG.nil;go_loopw [6] (fun xv wr=>∃ (x:Nat) (es:List Ed) (Ae:Option Addr) (ce L:Nat),xv=.int .i64 ((x:Int)+1)∧x≤rn∧Hid (es.length=L)∧L≤5 * x∧Hid (IsGr rn n es)∧Box wr gb [.int .i64 rn,.int .i64 n,.slice Ae L ce]∧OG wr (gb+1) wr.heap.size Ae ce es∧Box wr w.heap.size [.int .i64 0,.int .i64 0,.slice none 0 0]∧Cur wr p A bs c∧Mid p (p+1) w wr)
  (fun xv _=>rn+1 - (intOf xv).toNat)
 case atStart=>exact ⟨0,[],none,0,0,by go_num,Nat.zero_le _,Lib.hid rfl,by omega,Lib.hid ⟨hrn3,by omega,by simp,by simp,List.Pairwise.nil⟩,G0,hog,B2d,h4,hm4⟩
 case round =>
  obtain ⟨x,es,Ae,ce,L,rfl,hxr,HL,hLm,HG,hG,hO,hB,hC,hM⟩:=hrel;clear G0 hog B2d h4 hm4 hg4;have hgr:gb < wr.heap.size:=hG.1;have g0:=hG.cell 0 rfl;have g1:=hG.cell 1 rfl;have g2:=hG.cell 2 rfl;by_cases hlt:x < rn
  ·have hle:(x:Int)+1≤(rn:Int):=by omega
   have hal5:=Mid.alloc wr (.cells #[] 3);have ho5:=owns_empty wr 3 1;have hsz5:=hal5.size;obtain ⟨bb,hbb⟩:∃ g,wr.heap.size=g:=⟨_,rfl⟩
   rw [hbb] at ho5 hgr hsz5;clear g0 g1 g2;go_wp2_with fail;have hG5:=hG.mid hal5 oZr;have hO5:=hO.mid hal5 oZl;have hB5:=hB.mid hal5 oZr;have hC5:=hC.mid hal5 (Or.inr rfl);have hM5:=hM.trans hal5.zero;rw [hbb] at hO5;clear hO hB hC hM hG hal5;generalize wr.alloc (.cells #[] 3)=w5 at hsz5 ho5 hG5 hO5 hB5 hC5 hM5 ⊢;clear hbb;go_loopw [7,8] (fun lv vv wq=>∃ (v:Nat) (left:List Int) (Al:Option Addr) (cl:Nat),vv=.int .i64 v∧v≤n∧lv=.slice Al v cl∧Hid (left.length=v)∧Hid (∀ y∈left,0≤y∧y < n)∧wq.ownsRow bb 3 1 (.slice Al v cl) v (ints left)∧Box wq gb [.int .i64 rn,.int .i64 n,.slice Ae L ce]∧OG wq (gb+1) bb Ae ce es∧Box wq w.heap.size [.int .i64 0,.int .i64 0,.slice none 0 0]∧Cur wq p A bs c∧Mid p (p+1) w wq∧bb≤wq.heap.size)
    (fun _ vv _=>n - (intOf vv).toNat)
   case atStart=>exact ⟨0,[],_,_,by go_num,Nat.zero_le _,rfl,Lib.hid rfl,Lib.hid (by simp),ho5,hG5,hO5,hB5,hC5,hM5,hsz5⟩
   case round =>
    obtain ⟨v,left,Al,cl,rfl,hvn,rfl,HLL,HLB,hol,hG6,hO6,hB6,hC6,hM6,hsq⟩:=hrel;clear ho5 hG5 hO5 hB5 hC5 hM5 hsz5;by_cases hv:v < n
    ·have hv2:(v:Int) < (n:Int):=by omega
     go_wp2_with (at_builtin;refine wpList_push rfl _ _ 34 rfl bb 3 (.int .i64 0) 1 8 undSI infoI rfl (by decide) _ _ _ rfl hol 1 [.int .i64 (v:Int)] rfl rfl ?c1 ?c2 ?c3 hsq ?next)
     case c1=>exact one_of_ints [(v:Int)]
     case c2=>unfold maxLen;omega
     case c3=>omega
     case next =>
      intro v3 w3 hol3 hgr3 hat3;have m3:Mid bb wr.heap.size wr w3:=Mid.of_grownRow hol hgr3;have hG7:=hG6.mid m3 (Or.inl (by omega));have hO7:=hO6.mid m3 (Or.inr (Nat.le_refl _));have hB7:=hB6.mid m3 (Or.inl (by omega));have hC7:=hC6.mid m3 (Or.inl (by omega));have hM7:=hM6.transNew m3 (Or.inl (by omega));have hs7:=m3.size;obtain ⟨A3,c3,rfl, -, -⟩:=owns_shape hol3;clear hol hgr3 hat3 m3 hG6 hO6 hB6 hC6 hM6;go_wp2_with fail;go_roundw
      case rel =>
       refine ⟨v+1,left++[(v:Int)],A3,c3,by go_num,by omega,rfl,Lib.hid (by rw [List.length_append,HLL.out];rfl),Lib.hid fun y hy=>?_,by rw [ints_append];exact hol3,hG7,hO7,hB7,hC7,hM7,by omega⟩;rcases List.mem_append.1 hy with hy | hy
       ·exact HLB.out y hy
       ·rw [List.mem_singleton] at hy
        omega
      case measure=>simp [intOf];omega
    ·obtain rfl:v=n:=by omega
     go_wp2_with fail;have hO8:=hO6.wide (Nat.le_refl _) (hi':=wr.heap.size) hsq (Nat.le_refl _);have hol8:=owns_base hol (show gb+1≤bb by omega);clear hol hO6;go_loopw [7,9] (fun lv vv wq=>∃ (u:Nat) (left:List Int) (Al:Option Addr) (cl Lf:Nat) (es:List Ed) (Ae:Option Addr) (ce L:Nat),vv=.int .i64 u∧u+Lf=v∧lv=.slice Al Lf cl∧Hid (left.length=Lf)∧Hid (∀ y∈left,0≤y∧y < v)∧wq.ownsRow (gb+1) 3 1 (.slice Al Lf cl) Lf (ints left)∧Hid (es.length=L)∧L≤5 * x+u∧Hid (IsGr rn v es)∧Box wq gb [.int .i64 rn,.int .i64 v,.slice Ae L ce]∧OG wq (gb+1) wq.heap.size Ae ce es∧Box wq w.heap.size [.int .i64 0,.int .i64 0,.slice none 0 0]∧Cur wq p A bs c∧Mid p (p+1) w wq)
      (fun _ vv _=>v - (intOf vv).toNat)
     case atStart=>exact ⟨0,left,Al,cl,v,es,Ae,ce,L,by go_num,by omega,rfl,HLL,HLB,hol8,HL,by omega,HG,hG6,hO8,hB6,hC6,hM6⟩
     case round =>
      clear hol8 hO8 HLL HLB HL HG hG6 hB6 hC6 hM6 hLm hsq;obtain ⟨u,left,Al,cl,Lf,es,Ae,ce,L,rfl,huv,rfl,HLL,HLB,hol,HL,hLm,HG,hG,hO,hB,hC,hM⟩:=hrel;by_cases hlt:u < v
      ·have hlt2:(u:Int) < (v:Int):=by omega
       have hLf:0 < Lf:=by omega
       go_wp2_with fail;with_reducible refine (l1Below_pos Lf hLf (by omega) p A bs c _ hb hl hC).mono ?_
       rintro e w2 ⟨k,rfl,hk,hC2,m2⟩;have hol2:=owns_mid hol m2 (Or.inl (by omega));have hG2:=hG.mid m2 (Or.inr (by omega));have hO2:=(hO.mid m2 (Or.inl (by omega))).wide (Nat.le_refl _) m2.size (Nat.le_refl _);have hB2:=hB.mid m2 (Or.inr (by omega));have hM2:=hM.trans m2;clear hol hG hO hB hC hM m2;have hmd:=Mid.drew1 w2;replace hol2:=owns_mid hol2 hmd oZl;replace hO2:=hO2.mid hmd oZl;replace hG2:=hG2.mid hmd oZr;replace hB2:=hB2.mid hmd oZr;replace hC2:=hC2.mid hmd (Or.inr rfl);replace hM2:=hM2.trans hmd.zero;replace hO2:OG w2.drew (gb+1) w2.drew.heap.size Ae ce es:=hO2;clear hmd;obtain ⟨b,off,y,hAl,hBx,hy,hcx⟩:=(Rs.of_own hol2).int (k:=k) (by have:=HLL.out;omega);subst hAl;have hyb:=HLB.out y (List.mem_of_getElem? hy);clear hy;have g2:=hG2.cell 2 rfl;go_wp2_with fail;refine wp_region_Z (S:=(fun w'=>w'.cell? ⟨gb,2,none⟩=some (.slice Ae L ce)∧w'.cell? ⟨b,off+k,none⟩=some (.int .i64 y))) [11] (by kernel_rfl) ⟨g2,hcx⟩ ?_;generalize World.drew w2=wz at hol2 hG2 hO2 hB2 hC2 hM2 g2 hcx hBx ⊢;have hS:=And.intro g2 hcx;refine tkZ [11] 0 rfl hS ?_;try simp only [Act.put,zs1,zs2,zs3,zs4,zs5,zs6]
       refine tkZ [11] 1 rfl hS ?_;try simp only [Act.put,zs1,zs2,zs3,zs4,zs5,zs6]
       refine tkZ [11] 2 rfl hS ?_;try simp only [Act.put,zs1,zs2,zs3,zs4,zs5,zs6]
       refine tkZ [11] 3 rfl hS ?_;try simp only [Act.put,zs1,zs2,zs3,zs4,zs5,zs6]
       refine tkZ [11] 4 rfl hS ?_;try simp only [Act.put,zs1,zs2,zs3,zs4,zs5,zs6]
       refine tkZ [11] 5 rfl hS ?_;try simp only [Act.put,zs1,zs2,zs3,zs4,zs5,zs6]
       refine tkZ [11] 6 rfl hS ?_;try simp only [Act.put,zs1,zs2,zs3,zs4,zs5,zs6]
       refine tkZ [11] 7 rfl hS ?_;try simp only [Act.put,zs1,zs2,zs3,zs4,zs5,zs6]
       refine tkZ [11] 8 rfl hS ?_;try simp only [Act.put,zs1,zs2,zs3,zs4,zs5,zs6]
       have hP:=spec_l4Put Ae es ce ⟨(u:Int),(x:Int)+1,y⟩ wz _ _ hO2.rg (by rw [HL.out];omega);have hin:InG rn v ⟨(u:Int),(x:Int)+1,y⟩:=by simp only [InG];omega
       have hgP:=putE_gr HG.out hin (by rw [HL.out];omega);have hPl:=putE_len ⟨(u:Int),(x:Int)+1,y⟩ es;obtain ⟨P,hPe⟩:∃ P,putE ⟨(u:Int),(x:Int)+1,y⟩ es=P:=⟨_,rfl⟩
       rw [hPe,HL.out] at hP hPl;rw [hPe] at hgP;obtain ⟨L2,hL2⟩:∃ l,P.length=l:=⟨_,rfl⟩
       rw [hL2] at hP hPl;have HGP:=Lib.hid hgP;have HL2:=Lib.hid hL2;have hL3:L2≤5 * x+(u+1):=by omega
       have HP:Hid (Calls Tryz.prog 98 #[.slice Ae L ce,.agg #[.int .i64 (u:Int),.int .i64 ((x:Int)+1),.int .i64 y]] wz fun en w'=>∃ A' c',en=.returned (.slice A' L2 c')∧OG w' wz.heap.size w'.heap.size A' c' P∧Mid 0 0 wz w'):=Lib.hid hP;clear hP hin hgP hPl hPe hL2 hS;refine rdZ 9 rfl (fun K hK=>?_)
       (go_simp;(with_reducible refine (HP.out).mono ?_);rintro en wp ⟨A9,c9,rfl,oP,mP⟩;have hG9:=hG2.mid mP oZr;have hcx9:=cell_keep mP hBx oZr hcx;go_wp2_with fail)
       refine hK.out _ _ (Or.inr ⟨hG9.cell 2 rfl,hcx9⟩) (fun _=>?_);clear hK K;try simp only [Act.put,zs1,zs2,zs3,zs4,zs5,zs6]
       have hS9:=And.intro (hG9.cell 2 rfl) hcx9;refine tkZ [11] 10 rfl hS9 ?_;try simp only [Act.put,zs1,zs2,zs3,zs4,zs5,zs6]
       have hol9:=owns_mid hol2 mP oZl;have hB9:=hB2.mid mP oZr;have hC9:=hC2.mid mP (Or.inr rfl);have hM9:=hM2.trans mP.zero;have hzP:=mP.size;have hgz:=hG2.1;clear hol2 hG2 hO2 hB2 hC2 hM2 g2 hcx mP hcx9 hS9 HP hBx;have gl:=hG9.1;have gf:=hG9.2.2;have g2:=hG9.cell 2 rfl;have hst:=Mid.setCell wp (lo:=gb) (hi:=gb+1) (p:=⟨gb,2,none⟩) (.slice A9 L2 c9) (Nat.le_refl _) (Nat.lt_succ_self _);have hG10:=hG9.set 2 (.slice A9 L2 c9) (by simp) rfl;simp only [List.set_cons_succ,List.set_cons_zero] at hG10;have hol10:=owns_mid hol9 hst (Or.inl (Nat.le_refl _));have hO10:=(oP.mid hst (Or.inl (by omega))).wide (lo':=gb+1) (by omega) hst.size (Nat.le_refl _);have hB10:=hB9.mid hst (Or.inl (by omega));have hC10:=hC9.mid hst (Or.inl (by omega));have hM10:=hM9.transNew hst (Or.inl (by omega));clear hst hol9 hB9 hC9 hM9 oP hG9;refine rdZ 11 rfl (fun K hK=>?_);go_simp;refine hK.out _ _ (Or.inl (by simp)) (fun _=>?_);clear hK K;try simp only [Act.put,zs1,zs2,zs3,zs4,zs5,zs6]
       refine wpAnyZ_done (by kernel_rfl) ?_ _;generalize wp.setCell ⟨gb,2,none⟩ (.slice A9 L2 c9)=w11 at hG10 hol10 hO10 hB10 hC10 hM10 ⊢;clear gl gf g2 hzP hgz;have hcl:Lf≤cl:=by
        obtain ⟨A',c',hv,h1,h2⟩:=owns_shape hol10;injection hv with _ _ hc
        omega
       have hrs:=Rs.of_own hol10;have hmd:=Mid.drew1 w11;replace hG10:=hG10.mid hmd oZr;replace hB10:=hB10.mid hmd oZr;replace hO10:OG w11.drew (gb+1) w11.drew.heap.size A9 c9 P:=hO10.mid hmd oZl;replace hC10:=hC10.mid hmd (Or.inr rfl);replace hM10:=hM10.trans hmd.zero;replace hrs:Rs w11.drew w11.drew.heap.size (some ⟨b,off,none⟩) (ints left):=hrs;clear hmd hol10;go_wp2_with fail;refine wp_region_Z (S:=(fun _=>True)) [] (by kernel_rfl) trivial ?_;generalize World.drew w11=wz at hG10 hO10 hB10 hC10 hM10 hrs ⊢;have hgz:gb+1≤wz.heap.size:=hG10.1;have hkc:k≤cl:=by omega
       have hkL:k+1≤Lf:=by omega
       have ek1:IntKind.i64.wrap ((k:Int)+1)=(k:Int)+1:=IntWalk.i64_in _ (by omega);have ek2:(0:Int)≤(k:Int)+1:=by omega
       have ek3:((k:Int)+1).toNat=k+1:=by omega
       have ek4:(k:Int)+1≤(Lf:Int):=by omega
       have hlt1:(ints (left.take k)).length=k * 1:=by have:=HLL.out;rw [ints_len,List.length_take];omega
       have hlt2:(ints (left.drop (k+1))).length=(Lf - (k+1)) * 1:=by have:=HLL.out;rw [ints_len,List.length_drop];omega
       have hrs1:Rs wz wz.heap.size (some ⟨b,off,none⟩) (ints (left.take k)):=by rw [← ints_takeD];exact hrs.take k
       have hrs2:Rs wz wz.heap.size (if cl=k+1 then some ⟨b,off,none⟩ else some ⟨b,off+(k+1),none⟩) (ints (left.drop (k+1))):=by
        have:=hrs.drop (k:=k+1) (n:=Lf) (cap:=cl) 1 (by have:=HLL.out;rw [ints_len];omega) hcl;rw [Nat.mul_one,ints_drop] at this;have e:Option.map (fun x:Addr=>x.add (k+1)) (some (⟨b,off,none⟩:Addr))=some ⟨b,off+(k+1),none⟩:=rfl;rw [e] at this;exact this
       have hmx:0+k≤maxLen:=by unfold maxLen;omega
       have hby:(0+k) * 8≤140737488355328:=by omega
       have hmx2:k+(Lf - (k+1))≤maxLen:=by unfold maxLen;omega
       have hby2:(k+(Lf - (k+1))) * 8≤140737488355328:=by omega
       clear hrs;refine tkZ [] 1 rfl trivial ?_;try simp only [Act.put,zs1,zs2,zs3,zs4,zs5,zs6]
       refine tkZ [] 2 rfl trivial ?_;try simp only [Act.put,zs1,zs2,zs3,zs4,zs5,zs6]
       refine tkZ [] 3 rfl trivial ?_;try simp only [Act.put,zs1,zs2,zs3,zs4,zs5,zs6]
       refine tkZ [] 5 rfl trivial ?_;try simp only [Act.put,zs1,zs2,zs3,zs4,zs5,zs6]
       refine tkZ [] 6 rfl trivial ?_;try simp only [Act.put,zs1,zs2,zs3,zs4,zs5,zs6]
       refine tkZ [] 7 rfl trivial ?_;try simp only [Act.put,zs1,zs2,zs3,zs4,zs5,zs6]
       refine tkZ [] 8 rfl trivial ?_;try simp only [Act.put,zs1,zs2,zs3,zs4,zs5,zs6]
       refine rdZ 0 rfl (fun K hK=>?_);go_simp;refine hK.out _ _ (Or.inr trivial) (fun _=>?_);clear hK K;try simp only [Act.put,zs1,zs2,zs3,zs4,zs5,zs6]
       have hal:=Mid.alloc wz (.cells #[] 3);have e0:=owns_empty wz 3 1;have hrs1a:=hrs1.alloc (Nat.le_refl _) (.cells #[] 3);have hrs2a:=hrs2.alloc (Nat.le_refl _) (.cells #[] 3);have hsa:(wz.alloc (.cells #[] 3)).heap.size=wz.heap.size+1:=by simp
       generalize wz.alloc (.cells #[] 3)=wa at hal e0 hrs1a hrs2a hsa ⊢;have hsa2:wz.heap.size≤wa.heap.size:=by omega
       refine rdZ 4 rfl (fun K hK=>?_)
       (refine step_cat (by rfl) (.tmp 55) (.tmp 58) 34 (by rfl) wz.heap.size 3 (.int .i64 0) 1 8 undSI infoI rfl (by decide) _ 0 [] (by rfl) e0 (some ⟨b,off,none⟩) k cl _ (ints (left.take k)) (by rfl) hrs1a hlt1 (one_of_ints _) hmx hby hsa2 ?_;intro v4 w4 ho4 hgr4 hat4;obtain ⟨A4,c4,rfl, -, -⟩:=owns_shape ho4)
       refine hK.out _ _ (Or.inr trivial) (fun _=>?_);clear hK K;try simp only [Act.put,zs1,zs2,zs3,zs4,zs5,zs6]
       have m4:Mid wz.heap.size wa.heap.size wa w4:=Mid.of_grownRow e0 hgr4;have hm4:Mid 0 0 wz w4:=hal.transNew m4 (Or.inl (Nat.le_refl _));have hrs2b:Rs w4 wz.heap.size _ (ints (left.drop (k+1))):=hrs2a.keep fun q hq=>World.cell?_of_block (m4.block _ (by omega) (by omega));rw [Nat.zero_add,List.nil_append] at ho4;try rw [Nat.zero_add]
       clear hgr4 hat4 e0 hrs1a hrs2a hrs1 hrs2 hal m4;refine rdZ 9 rfl (fun K hK=>?_)
       (refine step_cat (by rfl) (.tmp 59) (.tmp 63) 34 (by rfl) wz.heap.size 3 (.int .i64 0) 1 8 undSI infoI rfl (by decide) (.slice A4 k c4) k _ (by rfl) ho4 _ (Lf - (k+1)) _ _ (ints (left.drop (k+1))) (by rfl) hrs2b hlt2 (one_of_ints _) hmx2 hby2 hm4.size ?_;intro v9 w9 ho9 hgr9 hat9;obtain ⟨A19,c19,rfl, -, -⟩:=owns_shape ho9)
       refine hK.out _ _ (Or.inr trivial) (fun _=>?_);clear hK K;try simp only [Act.put,zs1,zs2,zs3,zs4,zs5,zs6]
       have m9:Mid wz.heap.size w4.heap.size w4 w9:=Mid.of_grownRow ho4 hgr9;have hm9:Mid 0 0 wz w9:=hm4.transNew m9 (Or.inl (Nat.le_refl _));clear hgr9 hat9 hrs2b ho4 m9 hm4;refine tkZ [] 10 rfl trivial ?_;try simp only [Act.put,zs1,zs2,zs3,zs4,zs5,zs6]
       refine wpAnyZ_done (by kernel_rfl) ?_ _;have hbl9:=ho9;go_wp2_with fail;go_roundw
       case rel =>
        have hle:=HLL.out;have hdl:=dropAt_len hle hk;refine ⟨u+1,left.take k++left.drop (k+1),A19,c19,k+(Lf - (k+1)),P,A9,c9,L2,by go_num,by omega,rfl,Lib.hid (by omega),Lib.hid fun y hy=>HLB.out y (dropAt_mem hy),?_,HL2,by omega,HGP,hG10.mid hm9 oZr,(hO10.mid hm9 oZl).wide (Nat.le_refl _) hm9.size (Nat.le_refl _),hB10.mid hm9 oZr,hC10.mid hm9 (Or.inr rfl),hM10.trans hm9.zero⟩;rw [ints_append];exact owns_base ho9 hgz
       case measure=>simp [intOf];omega
      ·obtain rfl:u=v:=by omega
       go_wp2_with fail;go_roundw
       case rel=>exact ⟨x+1,es,Ae,ce,L,by go_num,by omega,HL,by omega,HG,hG,hO,hB,hC,hM⟩
       case measure=>simp [intOf];omega
  ·have hle:¬ ((x:Int)+1≤(rn:Int)):=by omega
   have hF:=spec_CoreGraph rn n Ae es ce wr _ _ hO.rg HG.out;have hD:=DrG.of_gr (coreA_gr (r:=(rn:Int)) (g:=((n:Int),es)) HG.out);obtain ⟨fs,hfs⟩:∃ y,(coreA (rn:Int) ((n:Int),es)).1=y:=⟨_,rfl⟩
   obtain ⟨fe,hfe⟩:∃ y,(coreA (rn:Int) ((n:Int),es)).2=y:=⟨_,rfl⟩
   rw [hfs,hfe] at hF hD;obtain ⟨L2,hL2⟩:∃ l,fe.length=l:=⟨_,rfl⟩
   rw [hL2,HL.out] at hF;have HL2:=Lib.hid hL2;have HD:=Lib.hid hD;have HF:Hid (Calls Tryz.prog 91 #[.agg #[.int .i64 rn,.int .i64 n,.slice Ae L ce]] wr fun e w'=>∃ A1 c1,e=.returned (.agg #[.int .i64 rn,.int .i64 fs,.slice A1 L2 c1])∧OG w' wr.heap.size w'.heap.size A1 c1 fe∧Mid 0 0 wr w'):=Lib.hid hF;clear hF hD hfs hfe hL2;go_wp2_with fail;with_reducible refine (HF.out).mono ?_
   rintro e w9 ⟨A1,c1,rfl,hO9,m9⟩;have B2:=hB.mid m9 oZr;have hC9:=hC.mid m9 (Or.inr rfl);have hM9:=hM.trans m9.zero;have hs9:=m9.size;clear hB hC hM hO hG m9 HF g0 g1 g2;have q0:=B2.cell 0 rfl;have q1:=B2.cell 1 rfl;have q2:=B2.cell 2 rfl;have qf:=B2.2.2;have ql:=B2.1;have hst:=((Mid.setCell w9 (lo:=w.heap.size) (hi:=w.heap.size+1) (p:=⟨w.heap.size,0,none⟩) (.int .i64 (rn:Int)) (Nat.le_refl _) (Nat.lt_succ_self _)).trans (Mid.setCell _ (lo:=w.heap.size) (hi:=w.heap.size+1) (p:=⟨w.heap.size,1,none⟩) (.int .i64 fs) (Nat.le_refl _) (Nat.lt_succ_self _))).trans (Mid.setCell _ (lo:=w.heap.size) (hi:=w.heap.size+1) (p:=⟨w.heap.size,2,none⟩) (.slice A1 L2 c1) (Nat.le_refl _) (Nat.lt_succ_self _));have O9:=Lib.hid ((hO9.mid hst (Or.inl (by omega))).wide (lo':=w.heap.size) (by omega) (Nat.le_trans hO9.size hst.size) (Nat.le_refl _));have C9:=Lib.hid (hC9.mid hst (Or.inl hpw));have M9:=Lib.hid (hM9.transNew hst (Or.inl (Nat.le_refl _)));clear hst hO9 hC9 hM9;go_wp2_with fail;refine bodyPost_ret (v:=.agg #[.int .i64 (rn:Int),.int .i64 fs,.slice A1 L2 c1]) (by simp [results,Tryz.results185,go_sem,q0,q1,q2,qf]) rfl ⟨(rn:Int),fs,A1,c1,fe,?_,HD.out,O9.out,C9.out,M9.out⟩;rw [HL2.out]
theorem l12Any_any (p:Nat) (A:Option Addr) (bs:List Int) (c:Nat) (w:World) (hb:OkB bs) (hl:bs.length≤1048576) (h:Cur w p A bs c) :
  Calls Tryz.prog 111 #[.pointer (some ⟨p,0,none⟩)] w fun e w'=>∃ r s A' c' es,e=.returned (graV r s A' (List.length es) c')∧DrG r s es∧OG w' w.heap.size w'.heap.size A' c' es∧Cur w' p A bs c∧Mid p (p+1) w w':=by
 have hpw:=h.lt;have hal:=Mid.alloc w (.cells #[.int .i64 0,.int .i64 0,.slice none 0 0] 26);have B2:=Box.new w #[.int .i64 0,.int .i64 0,.slice none 0 0] 26;have h0:=h.mid hal (Or.inr rfl);go_enter Tryz.func111,Tryz.ntmps111
 go_wp2_with fail;generalize (w.alloc (.cells #[.int .i64 0,.int .i64 0,.slice none 0 0] 26))=w1 at B2 h0 hal ⊢;have hs1:w.heap.size < w1.heap.size:=B2.1;with_reducible refine (l1OnceI 2 (by decide) (by decide) p A bs c _ hb hl h0).mono ?_
 rintro e w2 ⟨q,rfl,h2,m2⟩;have hs2:=m2.size;replace B2:=B2.mid m2 (Or.inr (by omega));replace hal:=hal.zero.trans m2;clear h0 m2;cases q
 ·go_wp2_with fail
  with_reducible refine (l9Any_any p A bs c _ hb hl h2).mono ?_
  rintro e w3 ⟨r,s,Ae,ce,es,rfl,hg,hO,hC,m3⟩;have hs3:=m3.size;replace B2:=B2.mid m3 (Or.inr (by omega));have hM:=hal.trans m3;have HG:=Lib.hid hg;obtain ⟨L,hL⟩:∃ l,es.length=l:=⟨_,rfl⟩
  have HL:=Lib.hid hL;rw [hL];clear hg hL hal h2 m3;have q0:=B2.cell 0 rfl;have q1:=B2.cell 1 rfl;have q2:=B2.cell 2 rfl;have qf:=B2.2.2;have ql:=B2.1;have hst:=((Mid.setCell w3 (lo:=w.heap.size) (hi:=w.heap.size+1) (p:=⟨w.heap.size,0,none⟩) (.int .i64 r) (Nat.le_refl _) (Nat.lt_succ_self _)).trans (Mid.setCell _ (lo:=w.heap.size) (hi:=w.heap.size+1) (p:=⟨w.heap.size,1,none⟩) (.int .i64 s) (Nat.le_refl _) (Nat.lt_succ_self _))).trans (Mid.setCell _ (lo:=w.heap.size) (hi:=w.heap.size+1) (p:=⟨w.heap.size,2,none⟩) (.slice Ae L ce) (Nat.le_refl _) (Nat.lt_succ_self _));have O9:=Lib.hid ((hO.mid hst (Or.inl (by omega))).wide (lo':=w.heap.size) (by omega) (Nat.le_trans hO.size hst.size) (Nat.le_refl _));have C9:=Lib.hid (hC.mid hst (Or.inl hpw));have M9:=Lib.hid (hM.transNew hst (Or.inl (Nat.le_refl _)));clear hst hO hC hM;go_wp2_with fail;refine bodyPost_ret (v:=.agg #[.int .i64 r,.int .i64 s,.slice Ae L ce]) (by simp [results,Tryz.results111,go_sem,q0,q1,q2,qf]) rfl ⟨r,s,Ae,ce,es,?_,HG.out,O9.out,C9.out,M9.out⟩;rw [HL.out]
 ·go_wp2_with fail
  with_reducible refine (l12Finite_any p A bs c _ hb hl h2).mono ?_
  rintro e w3 ⟨r,s,Ae,ce,es,rfl,hg,hO,hC,m3⟩;have hs3:=m3.size;replace B2:=B2.mid m3 (Or.inr (by omega));have hM:=hal.trans m3;have HG:=Lib.hid hg;obtain ⟨L,hL⟩:∃ l,es.length=l:=⟨_,rfl⟩
  have HL:=Lib.hid hL;rw [hL];clear hg hL hal h2 m3;have q0:=B2.cell 0 rfl;have q1:=B2.cell 1 rfl;have q2:=B2.cell 2 rfl;have qf:=B2.2.2;have ql:=B2.1;have hst:=((Mid.setCell w3 (lo:=w.heap.size) (hi:=w.heap.size+1) (p:=⟨w.heap.size,0,none⟩) (.int .i64 r) (Nat.le_refl _) (Nat.lt_succ_self _)).trans (Mid.setCell _ (lo:=w.heap.size) (hi:=w.heap.size+1) (p:=⟨w.heap.size,1,none⟩) (.int .i64 s) (Nat.le_refl _) (Nat.lt_succ_self _))).trans (Mid.setCell _ (lo:=w.heap.size) (hi:=w.heap.size+1) (p:=⟨w.heap.size,2,none⟩) (.slice Ae L ce) (Nat.le_refl _) (Nat.lt_succ_self _));have O9:=Lib.hid ((hO.mid hst (Or.inl (by omega))).wide (lo':=w.heap.size) (by omega) (Nat.le_trans hO.size hst.size) (Nat.le_refl _));have C9:=Lib.hid (hC.mid hst (Or.inl hpw));have M9:=Lib.hid (hM.transNew hst (Or.inl (Nat.le_refl _)));clear hst hO hC hM;go_wp2_with fail;refine bodyPost_ret (v:=.agg #[.int .i64 r,.int .i64 s,.slice Ae L ce]) (by simp [results,Tryz.results111,go_sem,q0,q1,q2,qf]) rfl ⟨r,s,Ae,ce,es,?_,HG.out,O9.out,C9.out,M9.out⟩;rw [HL.out]
end
section
open Go.RowKit
def goV (es:List Ed):Int→List Int→Option Int
 | v,[]=>some v
 | v,x :: t=>if nextV es v x < 0 then none else goV es (nextV es v x) t
theorem goV_app (es:List Ed):∀ (a b:List Int) (v:Int),goV es v (a++b)=(goV es v a).bind fun u=>goV es u b
 | [],b,v=>rfl
 | x :: a,b,v=>by
  rw [List.cons_append,goV,goV];split
  ·rfl
  ·exact goV_app es a b _
theorem goV_one (es:List Ed) (v x:Int):goV es v [x]=if nextV es v x < 0 then none else some (nextV es v x):=by
 rw [goV]
 rfl
theorem goV_stop {es:List Ed} {v u x:Int} {w:List Int} {k:Nat} (h:goV es v (w.take k)=some u) (hx:w[k]?=some x) (hn:nextV es u x < 0):goV es v w=none:=by
 have h1:w=w.take k++(x :: w.drop (k+1)):=by rw [← drop_of w hx,List.take_append_drop]
 rw [h1,goV_app,h,Option.bind_some,goV,if_pos hn]
theorem goV_next {es:List Ed} {v u x:Int} {w:List Int} {k:Nat} (h:goV es v (w.take k)=some u) (hx:w[k]?=some x) (hn:¬ nextV es u x < 0):goV es v (w.take (k+1))=some (nextV es u x):=by
 rw [take_snocI hx,goV_app,h,Option.bind_some,goV_one,if_neg hn]
theorem impl_read (r n:Nat) (A:Option Addr) (es:List Ed) (c:Nat) (v:Int) (Aw:Option Addr) (wd:List Int) (cw:Nat) (w:World) (lo hi lo' hi':Nat) (hr:RG w lo hi A es) (hw:RV w lo' hi' Aw (ints wd)) (hg:IsGr r n es) (hwl:wd.length≤1048576) (hok:OkI wd) :
  Calls Tryz.prog 145 #[graV r n A es.length c,.int .i64 v,.slice Aw wd.length cw] w fun e w'=>∃ (u:Int) (k:Nat),e=.returned (.tuple #[.int .i64 u,.int .i64 k])∧k≤wd.length∧goV es v (wd.take k)=some u∧(k=wd.length ∨ ∃ x,wd[k]?=some x∧nextV es u x < 0)∧Mid 0 0 w w':=by
 have hl:=hg.len;have HGL:=Lib.hid (show ∀ e∈es,1≤e.l∧e.l≤3 from fun e he=>by have:=hg.all e he;have:=hg.rank;unfold InG at *;omega);have HG:=Lib.hid hg;have HOK:=Lib.hid hok;have hm0:Mid 0 0 w (w.alloc (.cells #[.int .i64 r,.int .i64 n,.slice A es.length c] 26)):=Mid.alloc _ _;have b0:=Box.new w #[.int .i64 r,.int .i64 n,.slice A es.length c] 26;clear hg hok;go_enter Tryz.func145,Tryz.ntmps145
 go_wp2_with fail;go_loopw [1,13] (fun vv iv wr=>∃ (k:Nat) (u:Int),k≤wd.length∧iv=.int .i64 k∧vv=.int .i64 u∧Hid (goV es v (wd.take k)=some u)∧Box wr w.heap.size [.int .i64 r,.int .i64 n,.slice A es.length c]∧Mid 0 0 w wr) (fun _ i _=>wd.length - (intOf i).toNat)
 case atStart=>exact ⟨0,v,Nat.zero_le _,rfl,rfl,Lib.hid rfl,b0,hm0⟩
 case round =>
  clear b0 hm0;obtain ⟨k,u,hk,rfl,rfl,HV,b0,hm⟩:=hrel;have p0:=b0.cell 0 rfl;have p1:=b0.cell 1 rfl;have p2:=b0.cell 2 rfl;by_cases hlt:k < wd.length
  ·obtain ⟨B,off,x,rfl,hbh,hx,hcx⟩:=(hw.mid hm oZl).at hlt
   have hxr:=HOK.out x (List.mem_of_getElem? hx);have hk1:(k:Int) < (wd.length:Int):=by omega
   have HX:=Lib.hid hx;clear hx;go_wp2_with fail;with_reducible refine (impl_NextVertex r n A es c u x _ lo hi (hr.mid hm oZl) (by omega) HGL.out (by omega) (by omega)).mono ?_
   rintro en w6 ⟨rfl,hm6⟩;replace b0:=b0.mid hm6 oZr;replace hm:=hm.trans hm6;generalize htx:nextV es u x=t;by_cases ht:t < 0
   ·have d1:decide (t < 0)=true:=by simpa using ht
    have HN:Hid (nextV es u x < 0):=Lib.hid (by rw [htx];exact ht);clear ht htx hcx p0 p1 p2;go_wp2_with fail;go_ret2;exact ⟨u,k,rfl,hk,HV.out,.inr ⟨x,HX.out,HN.out⟩,hm⟩
   ·have d1:decide (t < 0)=false:=by simpa using ht
    have HN:=Lib.hid (goV_next HV.out HX.out (by rw [htx];exact ht));rw [htx] at HN;clear ht htx hcx p0 p1 p2;go_wp2_with fail;go_roundw
    case rel=>exact ⟨k+1,t,by omega,by go_num,rfl,HN,b0,hm⟩
    case measure=>simp [intOf];omega
  ·obtain rfl:k=wd.length:=by omega
   go_wp2_with fail;go_ret2;exact ⟨u,wd.length,rfl,Nat.le_refl _,HV.out,.inl rfl,hm⟩
theorem spec_WalkWord (r n v:Nat) (A:Option Addr) (es:List Ed) (c:Nat) (Aw:Option Addr) (wd:List Int) (cw:Nat) (w:World) (lo hi lo' hi':Nat) (hr:RG w lo hi A es) (hw:RV w lo' hi' Aw (ints wd)) (hf:IsFol r n es) (hv:v < n) (hwl:wd.length≤1048576) (hok:OkI wd) :
  Calls Tryz.prog 108 #[graV r n A es.length c,.int .i64 v,.slice Aw wd.length cw] w fun e w'=>∃ (u:Int) (b:Bool),e=.returned (.tuple #[.int .i64 u,.bool b])∧(b=true→goV es v wd=some u)∧(b=false→goV es v wd=none)∧Mid 0 0 w w':=by
 have hg:=hf.gr;have hl:=hg.len;have hn40:n≤40:=by have:=hg.size;omega
 have HGL:=Lib.hid (show ∀ e∈es,1≤e.l∧e.l≤3 from fun e he=>by have:=hg.all e he;have:=hg.rank;unfold InG at *;omega);have HF:=Lib.hid hf;have HOK:=Lib.hid hok;have hm0:Mid 0 0 w (w.alloc (.cells #[.int .i64 r,.int .i64 n,.slice A es.length c] 26)):=Mid.alloc _ _;have b0:=Box.new w #[.int .i64 r,.int .i64 n,.slice A es.length c] 26;have hib:inB (v:Int) 0 ((n:Int) - 1)=true:=by unfold inB;simp;omega
 clear hg hok hf;go_enter Tryz.func108,Tryz.ntmps108
 go_wp2_with fail;with_reducible refine (spec_IsFolded r n A es c _ _ _ (hr.mid hm0 oZl) (by omega) true (iff_of_true rfl HF.out)).mono ?_
 rintro en w1 ⟨rfl,hm1⟩;replace b0:=b0.mid hm1 oZr;replace hm0:=hm0.trans hm1;have p0:=b0.cell 0 rfl;have p1:=b0.cell 1 rfl;have p2:=b0.cell 2 rfl;go_wp2_with fail;with_reducible refine (l1In_at hib _).mono ?_
 rintro en w2 ⟨rfl,rfl⟩;go_wp2_with fail;clear p0 p1 p2 hm1;go_loopw [1,8] (fun vv iv wr=>∃ (k:Nat) (u:Int),k≤wd.length∧iv=.int .i64 k∧vv=.int .i64 u∧Hid (goV es v (wd.take k)=some u)∧Box wr w.heap.size [.int .i64 r,.int .i64 n,.slice A es.length c]∧Mid 0 0 w wr) (fun _ i _=>wd.length - (intOf i).toNat)
 case atStart=>exact ⟨0,v,Nat.zero_le _,rfl,rfl,Lib.hid rfl,b0,hm0⟩
 case round =>
  clear b0 hm0;obtain ⟨k,u,hk,rfl,rfl,HV,b0,hm⟩:=hrel;by_cases hlt:k < wd.length
  ·obtain ⟨B,off,x,rfl,hbh,hx,hcx⟩:=(hw.mid hm oZl).at hlt
   have hxr:=HOK.out x (List.mem_of_getElem? hx);have hk1:(k:Int) < (wd.length:Int):=by omega
   have hk0:(0:Int)≤(k:Int):=by omega
   have HX:=Lib.hid hx;have hBs:B < wr.heap.size:=by have:=hw.1;have:=hm.size;omega
   have k0:=wg_cell b0.1 (b0.cell 0 rfl);have k1:=wg_cell b0.1 (b0.cell 1 rfl);have k2:=wg_cell b0.1 (b0.cell 2 rfl);have k4:=wg_cell hBs hcx;have hA:=fun m os=>spec_NextVertex r n A es c u x (wg wr m os) lo hi (hr.mid (hm.trans (Mid.ofWg wr m os)) oZl) (by omega) HGL.out (by omega) (by omega);clear hx hcx;go_wp2_with fail;refine wp_region_quiet_wg (by kernel_rfl) (by kernel_rfl) ?_;repeat
    (with_reducible refine wpQuiet_step (fun K hK=>?_))
    go_simp
    first
     | ((with_reducible refine hK _ ?_);clear hK K)
     | (rw [if_neg (by decide)];(with_reducible refine hK _ ?_);clear hK K)
     | (apply Exists.intro;refine ⟨fun _=>?_,hK _ ?_⟩;((go_at_call 138;exact Calls.wg_of (hA _ _)));clear hK K)
   with_reducible refine wpQuiet_nil ?_
   intro _ hw';obtain ⟨⟨nq,osq⟩,hw''⟩:=hw';subst hw'';have hwg:=Mid.ofWg wr nq osq;generalize wg wr nq osq=w6 at hwg ⊢;replace b0:=b0.mid hwg oZr;replace hm:=hm.trans hwg;generalize htx:nextV es u x=t;clear k0 k1 k2 k4 hA;by_cases ht:t < 0
   ·have d1:decide (t < 0)=true:=by simpa using ht
    have HN:=Lib.hid (goV_stop HV.out HX.out (by rw [htx];exact ht));clear ht htx;go_wp2_with fail;go_ret2;exact ⟨-1,false,rfl,(fun h=>nomatch h),fun _=>HN.out,hm⟩
   ·have d1:decide (t < 0)=false:=by simpa using ht
    have HN:=Lib.hid (goV_next HV.out HX.out (by rw [htx];exact ht));rw [htx] at HN;clear ht htx;go_wp2_with fail;go_roundw
    case rel=>exact ⟨k+1,t,by omega,by go_num,rfl,HN,b0,hm⟩
    case measure=>simp [intOf];omega
  ·obtain rfl:k=wd.length:=by omega
   rw [List.take_length] at HV;go_wp2_with fail;go_ret2;exact ⟨u,true,rfl,fun _=>HV.out,(fun h=>nomatch h),hm⟩
end
theorem pw_of {es:List Ed} (ha:Asc es) (h:∀ e∈es,∀ f∈es,e≠f→¬ Clash e f):es.Pairwise fun e f=>¬ Clash e f:=by
 refine List.Pairwise.imp_of_mem (fun {e f} he hf hl=>h e he f hf ?_) ha;rintro rfl;exact absurd hl (LtE.irrefl _)
theorem clash_same:∀ {es:List Ed},(es.Pairwise fun e f=>¬ Clash e f)→∀ {e f:Ed},e∈es→f∈es→Clash e f→e=f
 | [],_,e,f,he,_,_=>by simp at he
 | g :: t,h,e,f,he,hf,hc=>by
  rw [List.pairwise_cons] at h;rcases List.mem_cons.1 he with h1 | h1
  ·rcases List.mem_cons.1 hf with h2 | h2
   ·exact h1.trans h2.symm
   ·subst h1
    exact absurd hc (h.1 f h2)
  ·rcases List.mem_cons.1 hf with h2 | h2
   ·subst h2
    exact absurd hc.symm (h.1 e h1)
   ·exact clash_same h.2 h1 h2 hc
theorem pathV_inj {u s:Int} {n i j:Nat} (hu:u < s) (hi:i≤n) (hj:j≤n) (h:pathV u (s+1) n s i=pathV u (s+1) n s j):i=j:=by
 unfold pathV at h;by_cases h1:i=0 <;> by_cases h2:j=0 <;> by_cases h3:i < n <;> by_cases h4:j < n <;> simp only [h1,h2,h3,h4,if_true,if_false] at h <;> omega
theorem pathV_new {u s:Int} {n i:Nat} (hi:0 < i):s≤pathV u (s+1) n s i:=by
 unfold pathV;split
 ·omega
 ·split <;> omega
theorem rdA_stuck (es:List Ed):∀ (w:List Int) (v:Int),(rdA es v w).2 < w.length→nextV es (rdA es v w).1 ((w.drop (rdA es v w).2).getD 0 0) < 0
 | [],v,h=>absurd h (Nat.not_lt_zero _)
 | x :: t,v,h=>by
  by_cases hx:nextV es v x < 0
  ·have h1:rdA es v (x :: t)=(v,0):=by rw [rdA,if_pos hx]
   rw [h1];exact hx
  ·have h1:rdA es v (x :: t)=((rdA es (nextV es v x) t).1,(rdA es (nextV es v x) t).2+1):=by rw [rdA,if_neg hx]
   rw [h1] at h ⊢;exact rdA_stuck es t _ (Nat.lt_of_succ_lt_succ h)
theorem hair_fol {r s:Int} {es:List Ed} (hf:IsFol r s es) {u:Int} (hu:0≤u∧u < s) {w:List Int} (h:PathOk r (s+1) es u w s) (hx:nextV es u (w.getD 0 0) < 0) :
  IsFol r (s+1+(w.length:Int) - 1) (canon (es++pathE u (s+1) w s w.length)):=by
 have hw:=h.word.2.2.2;have hm:∀ i,i < w.length→w.getD i 0≠0:=fun i hi=>by
  have:w.getD i 0∈w:=by rw [List.getD_eq_getElem?_getD,List.getElem?_eq_getElem hi];exact List.getElem_mem hi
  exact (hw.1 _ this).1
 have hold:∀ i,i < w.length→∀ f∈es,¬ Clash (stepE (pathV u (s+1) w.length s i) (w.getD i 0) (pathV u (s+1) w.length s (i+1))) f:=by
  intro i hi f hfe hc;have hin:=hf.gr.all f hfe;have h1:=pathV_new (u:=u) (s:=s) (n:=w.length) (i:=i+1) (Nat.succ_pos _);have h0:=hm i hi;rcases Nat.eq_zero_or_pos i with rfl | hp
  ·have h2:pathV u (s+1) w.length s 0=u:=by simp [pathV]
   rw [h2] at hc;generalize pathV u (s+1) w.length s (0+1)=v1 at hc h1;generalize w.getD 0 0=x at hc h0 hx;have hne:¬ ∃ e∈es,∃ t,endOf u x e=some t:=fun h3=>by
    have:=(nextV_pos_iff hf.gr.all u x).2 h3;omega
   unfold stepE Clash at hc;unfold InG at hin;split at hc
   ·simp only at hc
    exact hne ⟨f,hfe,f.a,endOf_some.2 (.inr ⟨by omega,by omega,by omega,rfl⟩)⟩
   ·simp only at hc
    exact hne ⟨f,hfe,f.b,endOf_some.2 (.inl ⟨by omega,by omega,by omega,rfl⟩)⟩
  ·have h2:=pathV_new (u:=u) (s:=s) (n:=w.length) hp
   unfold stepE Clash at hc;unfold InG at hin;split at hc <;> simp only at hc <;> omega
 have hnew:∀ i j,i < j→j < w.length→¬ Clash (stepE (pathV u (s+1) w.length s i) (w.getD i 0) (pathV u (s+1) w.length s (i+1))) (stepE (pathV u (s+1) w.length s j) (w.getD j 0) (pathV u (s+1) w.length s (j+1))):=by
  intro i j hij hj hc;have n1:pathV u (s+1) w.length s i≠pathV u (s+1) w.length s j:=fun e=>by have:=pathV_inj hu.2 (by omega) (by omega) e;omega
  have n2:pathV u (s+1) w.length s (i+1)≠pathV u (s+1) w.length s (j+1):=fun e=>by have:=pathV_inj hu.2 (by omega) (by omega) e;omega
  have n3:pathV u (s+1) w.length s i≠pathV u (s+1) w.length s (j+1):=fun e=>by have:=pathV_inj hu.2 (by omega) (by omega) e;omega
  have hi0:=hm i (by omega);have hj0:=hm j hj;by_cases e1:i+1=j
  ·subst e1
   have hr:=hw.2 i (w.getD i 0) (w.getD (i+1) 0) (by rw [List.getD_eq_getElem?_getD,List.getElem?_eq_getElem (by omega)];rfl) (by rw [List.getD_eq_getElem?_getD,List.getElem?_eq_getElem hj];rfl);generalize w.getD i 0=x at *;generalize w.getD (i+1) 0=y at *;generalize pathV u (s+1) w.length s i=v1 at *;generalize pathV u (s+1) w.length s (i+1+1)=v3 at *;generalize pathV u (s+1) w.length s (i+1)=v2 at *;unfold stepE Clash at hc;split at hc <;> split at hc <;> simp only at hc <;> omega
  ·have n4:pathV u (s+1) w.length s (i+1)≠pathV u (s+1) w.length s j:=fun e=>by have:=pathV_inj hu.2 (by omega) (by omega) e;omega
   unfold stepE Clash at hc;split at hc <;> split at hc <;> simp only at hc <;> omega
 refine ⟨path_gr h,pw_of (asc_canon _) fun e he f hf' hne hc=>?_⟩;rcases List.mem_append.1 (mem_canon.1 he) with h1 | h1
 ·rcases List.mem_append.1 (mem_canon.1 hf') with h2 | h2
  ·exact hne (clash_same hf.fol h1 h2 hc)
  ·simp only [pathE,List.mem_map,List.mem_range] at h2
   obtain ⟨i,hi,rfl⟩:=h2;exact hold i hi e h1 hc.symm
 ·simp only [pathE,List.mem_map,List.mem_range] at h1
  obtain ⟨i,hi,rfl⟩:=h1;rcases List.mem_append.1 (mem_canon.1 hf') with h2 | h2
  ·exact hold i hi f h2 hc
  ·simp only [pathE,List.mem_map,List.mem_range] at h2
   obtain ⟨j,hj,rfl⟩:=h2;rcases Nat.lt_trichotomy i j with h3 | rfl | h3
   ·exact hnew i j h3 hj hc
   ·exact hne rfl
   ·exact hnew j i h3 hi hc.symm
theorem ExtIs.fol {r s:Int} {es:List Ed} {w:List Int} {s2:Int} {es2:List Ed} {x:Int} (h:ExtIs r s es w true s2 es2 x) (hf:IsFol r s es):IsFol r s2 es2:=by
 have hs:=hf.gr.size;rcases h with ⟨-, -,rfl,rfl,rfl⟩ | ⟨-,h0,h1,h2,rfl,rfl,rfl⟩ | ⟨h, -⟩
 ·exact hf
 ·exact hair_fol hf (rdA_in hf.gr.all w (by omega)) h2 (rdA_stuck es w 0 h0)
 ·cases h
theorem take_snocL {α:Type} {l:List α} {k:Nat} {x:α} (h:l[k]?=some x):l.take (k+1)=l.take k++[x]:=by
 obtain ⟨h1,h2⟩:=List.getElem?_eq_some_iff.1 h;rw [List.take_succ_eq_append_getElem h1,h2]
theorem red_word {r:Int} {w:List Int} (h:WordP r w):red [] w=w:=by
 have hk:∀ k,k≤w.length→red [] (w.take k)=w.take k:=by
  intro k
  induction k with
  | zero=>intro _;simp [red]
  | succ k ih =>
   intro hle;have hx:w[k]?=some w[k]:=List.getElem?_eq_getElem (by omega);have ht:w.take (k+1)=w.take k++[w[k]]:=List.take_succ_eq_append_getElem (by omega);rw [red_step w hx,ih (by omega),ht];cases k with
   | zero=>simp [redStep]
   | succ j =>
    have ha:w[j]?=some w[j]:=List.getElem?_eq_getElem (by omega);have ht2:w.take (j+1)=w.take j++[w[j]]:=List.take_succ_eq_append_getElem (by omega);have hne:=h.2 j _ _ ha hx;rw [ht2,redStep_push (by unfold invB;simp;omega)]
 have:=hk w.length (Nat.le_refl _)
 rwa [List.take_length] at this
def LoopP (es:List Ed) (w:List Int):Prop:=(rdA es 0 w).2=w.length∧(rdA es 0 w).1=0
def ExtsIs (r:Int):Int→List Ed→List (List Int)→Bool→Int→List Ed→Prop
 | s,es,[],b,s2,es2=>b=true∧s2=s∧es2=es
 | s,es,w :: t,b,s2,es2=>∃ b1 s1 es1 x,ExtIs r s es w b1 s1 es1 x∧((b1=false∧b=false) ∨ (b1=true∧ExtsIs r s1 es1 t b s2 es2))
theorem exts_ex (r:Int):∀ (l:List (List Int)) (s:Int) (es:List Ed),∃ b s2 es2,ExtsIs r s es l b s2 es2
 | [],s,es=>⟨true,s,es,rfl,rfl,rfl⟩
 | w :: t,s,es=>by
  obtain ⟨b1,s1,es1,x,h⟩:=ext_ex r s es w;cases b1 with
  | false=>exact ⟨false,0,[],false,s1,es1,x,h,.inl ⟨rfl,rfl⟩⟩
  | true =>
   obtain ⟨b,s2,es2,h2⟩:=exts_ex r t s1 es1;exact ⟨b,s2,es2,true,s1,es1,x,h,.inr ⟨rfl,h2⟩⟩
theorem ExtsIs.fol {r:Int}:∀ {l:List (List Int)} {s:Int} {es:List Ed} {s2:Int} {es2:List Ed},ExtsIs r s es l true s2 es2→IsFol r s es→IsFol r s2 es2
 | [],s,es,s2,es2,h,hf=>by
  obtain ⟨-,rfl,rfl⟩:=h;exact hf
 | w :: t,s,es,s2,es2,h,hf=>by
  obtain ⟨b1,s1,es1,x,h1,⟨-,h2⟩ | ⟨rfl,h2⟩⟩:=h
  ·cases h2
  ·exact h2.fol (h1.fol hf)
theorem ExtsIs.step {r s:Int} {es:List Ed} {l:List (List Int)} {b:Bool} {s2:Int} {es2:List Ed} {k:Nat} {w:List Int} (h:ExtsIs r s es (l.drop k) b s2 es2) (hw:l[k]?=some w) :
  ∃ b1 s1 es1 x,ExtIs r s es w b1 s1 es1 x∧(b1=false→b=false)∧(b1=true→ExtsIs r s1 es1 (l.drop (k+1)) b s2 es2):=by
 have hd:l.drop k=w :: l.drop (k+1):=by
  have hk:=(List.getElem?_eq_some_iff.1 hw)
  rw [List.drop_eq_getElem_cons hk.1,hk.2]
 rw [hd] at h;obtain ⟨b1,s1,es1,x,h1,⟨h2,h3⟩ | ⟨h2,h3⟩⟩:=h
 ·exact ⟨b1,s1,es1,x,h1,fun _=>h3,fun h=>by rw [h2] at h;cases h⟩
 ·exact ⟨b1,s1,es1,x,h1,(fun h=>by rw [h2] at h;cases h),fun _=>h3⟩
def SepOk (r s:Int) (es:List Ed) (l:List (List Int)):Prop:=IsCor r s es∧l.length≤6∧∀ w∈l,IsW r w∧¬ LoopP es w
def SepIs (r s:Int) (es:List Ed) (l:List (List Int)) (rr rs:Int) (res:List Ed) (b:Bool):Prop :=
 (¬ SepOk r s es l∧b=false∧rr=0∧rs=0∧res=[]) ∨
 (SepOk r s es l∧∃ b1 s2 es2,ExtsIs r s es l b1 s2 es2∧((b1=false∧b=false∧rr=0∧rs=0∧res=[]) ∨
  (b1=true∧b=true∧rr=r∧rs=(coreA r (s2,canon (es2++addLs s2 es2 r.toNat))).1∧res=(coreA r (s2,canon (es2++addLs s2 es2 r.toNat))).2)))
theorem SepIs_ex (r s:Int) (es:List Ed) (l:List (List Int)):∃ rr rs res b,SepIs r s es l rr rs res b:=by
 by_cases h:SepOk r s es l
 ·obtain ⟨b1,s2,es2,he⟩:=exts_ex r l s es
  cases b1 with
  | false=>exact ⟨_,_,_,_,.inr ⟨h,_,_,_,he,.inl ⟨rfl,rfl,rfl,rfl,rfl⟩⟩⟩
  | true=>exact ⟨_,_,_,_,.inr ⟨h,_,_,_,he,.inr ⟨rfl,rfl,rfl,rfl,rfl⟩⟩⟩
 ·exact ⟨_,_,_,_,.inl ⟨h,rfl,rfl,rfl,rfl⟩⟩
theorem SepIs.no {r s:Int} {es:List Ed} {l:List (List Int)} {rr rs:Int} {res:List Ed} {b:Bool} (h:SepIs r s es l rr rs res b) (hn:¬ SepOk r s es l):b=false∧rr=0∧rs=0∧res=[]:=by
 rcases h with ⟨-,h⟩ | ⟨h, -⟩
 ·exact h
 ·exact absurd h hn
theorem SepIs.run {r s:Int} {es:List Ed} {l:List (List Int)} {rr rs:Int} {res:List Ed} {b:Bool} (h:SepIs r s es l rr rs res b) :
  ∃ b1 s2 es2,ExtsIs r s es l b1 s2 es2∧(b1=false→b=false∧rr=0∧rs=0∧res=[]) ∧
   (SepOk r s es l→b1=true→b=true∧rr=r∧rs=(coreA r (s2,canon (es2++addLs s2 es2 r.toNat))).1∧res=(coreA r (s2,canon (es2++addLs s2 es2 r.toNat))).2):=by
 rcases h with ⟨hn,h⟩ | ⟨-,b1,s2,es2,he,h⟩
 ·obtain ⟨b1,s2,es2,he⟩:=exts_ex r l s es
  exact ⟨b1,s2,es2,he,fun _=>h,fun h=>absurd h hn⟩
 ·refine ⟨b1,s2,es2,he,fun hb=>?_,fun _ hb=>?_⟩
  ·rcases h with ⟨-,h⟩ | ⟨h, -⟩
   ·exact h
   ·rw [hb] at h;cases h
  ·rcases h with ⟨h, -⟩ | ⟨-,h⟩
   ·rw [hb] at h;cases h
   ·exact h
theorem SepIs.lens {r s:Int} {es:List Ed} {l:List (List Int)} {rr rs:Int} {res:List Ed} {b:Bool} (h:SepIs r s es l rr rs res b):res.length≤120:=by
 rcases h with ⟨-, -, -, -,rfl⟩ | ⟨hc,b1,s2,es2,he,⟨-, -, -, -,rfl⟩ | ⟨rfl, -, -, -,rfl⟩⟩
 ·simp
 ·simp
 ·have hf:=he.fol hc.1.fol
  exact (coreA_gr (g:=(s2,canon (es2++addLs s2 es2 r.toNat))) (complete_gr hf)).len
section
open Go.RowKit
def AvIs (r s:Int) (es:List Ed) (rs:Int) (b:Bool):Prop:=(b=true∧(IsGr r s es∧s < 40)∧rs=s+1) ∨ (b=false∧¬ (IsGr r s es∧s < 40)∧rs=s)
theorem spec_AddVertex (r s:Int) (A:Option Addr) (es:List Ed) (c:Nat) (w:World) (lo hi:Nat) (hr:RG w lo hi A es) (hl:es.length≤1048576) (rs:Int) (b:Bool) (hres:AvIs r s es rs b) :
  Calls Tryz.prog 115 #[graV r s A es.length c] w fun e w'=>∃ A1 c1,e=.returned (.tuple #[graV r rs A1 es.length c1,.bool b])∧OG w' w.heap.size w'.heap.size A1 c1 es∧Mid 0 0 w w':=by
 have hm0:Mid 0 0 w ((w.alloc (.cells #[.int .i64 r,.int .i64 s,.slice A es.length c] 26)).alloc (.cells #[.int .i64 0,.int .i64 0,.slice none 0 0] 26)):=(Mid.alloc _ _).trans (Mid.alloc _ _);have B0:=(Box.new w #[.int .i64 r,.int .i64 s,.slice A es.length c] 26).mid (Mid.alloc _ (.cells #[.int .i64 0,.int .i64 0,.slice none 0 0] 26)) oZr;have B2:=Box.new (w.alloc (.cells #[.int .i64 r,.int .i64 s,.slice A es.length c] 26)) #[.int .i64 0,.int .i64 0,.slice none 0 0] 26;simp only [World.size_alloc] at B2;obtain ⟨b1,hb1⟩:=bool_of (IsGr r s es);have H1:=Lib.hid hb1;clear hb1;go_enter Tryz.func115,Tryz.ntmps115
 go_wp2_with fail;generalize ((w.alloc (.cells #[.int .i64 r,.int .i64 s,.slice A es.length c] 26)).alloc (.cells #[.int .i64 0,.int .i64 0,.slice none 0 0] 26))=w1 at hm0 B0 B2 ⊢;have hs1:w.heap.size+1 < w1.heap.size:=B2.1;with_reducible refine (spec_l4Copy r s A es c _ _ _ (hr.mid hm0 oZl) hl).mono ?_
 rintro en w2 ⟨A1,c1,rfl,ho2,hm2⟩;have hal:=Mid.alloc w2 (.cells #[.int .i64 r,.int .i64 s,.slice A1 es.length c1] 26);have Y3:=Box.new w2 #[.int .i64 r,.int .i64 s,.slice A1 es.length c1] 26;have hs2:=hm2.size;replace B0:=B0.mid hm2 oZr;replace B2:=B2.mid hm2 oZr;replace hm0:=hm0.trans hm2;replace B0:=B0.mid hal oZr;replace B2:=B2.mid hal oZr;replace hm0:=hm0.trans hal;have ho5:=(ho2.mid hal oZl)
 have p0:=B0.cell 0 rfl;have p1:=B0.cell 1 rfl;have p2:=B0.cell 2 rfl;go_wp2_with fail;generalize w2.alloc (.cells #[.int .i64 r,.int .i64 s,.slice A1 es.length c1] 26)=w3 at hm0 B0 B2 Y3 ho5 p0 p1 p2 ⊢;have hG3:w2.heap.size < w3.heap.size:=Y3.1;with_reducible refine (spec_IsGraph r s A es c _ _ _ (hr.mid hm0 oZl).rv hl b1 H1.out).mono ?_
 rintro en w4 ⟨rfl,hm4⟩;replace B0:=B0.mid hm4 oZr;replace B2:=B2.mid hm4 oZr;replace Y3:=Y3.mid hm4 oZr;replace ho5:=ho5.mid hm4 oZl;replace hm0:=hm0.trans hm4;have hs4:=hm4.size;clear p0 p1 p2 hm4 ho2 hal;have p0:=B0.cell 0 rfl;have p1:=B0.cell 1 rfl;have p2:=B0.cell 2 rfl;have q0:=Y3.cell 0 rfl;have q1:=Y3.cell 1 rfl;have q2:=Y3.cell 2 rfl;cases b1 with
 | false =>
  have hno:¬ (IsGr r s es∧s < 40):=fun h=>by have:=H1.out.2 h.1;cases this
  obtain ⟨rfl,rfl⟩:b=false∧rs=s:=by
   rcases hres with ⟨-,h, -⟩ | ⟨h1, -,h2⟩
   ·exact absurd h hno
   ·exact ⟨h1,h2⟩
  clear hres hno;have a0:=B2.cell 0 rfl;have a1:=B2.cell 1 rfl;have a2:=B2.cell 2 rfl;have af:=B2.2.2;go_wp2_with fail;refine bodyPost_ret (v:=.tuple #[.agg #[.int .i64 r,.int .i64 rs,.slice A1 es.length c1],.bool false]) (by simp [results,Tryz.results115,go_sem,a0,a1,a2,af,q0,q1,q2]) rfl ⟨A1,c1,rfl,?_,?_⟩
  ·refine OG.wide (OG.mid ho5 (a:=w.heap.size) (b:=w.heap.size+2) ?_ (Or.inl (by omega))) (by omega) (by have:=ho5.size;simp;omega) (Nat.le_refl _)
   repeat (first | exact Mid.refl _ _ _ | refine Mid.stored ?_ _ (by simp;try omega) (by simp;try omega))
  ·repeat (first | exact hm0 | refine Mid.storeNew ?_ (by simp;try omega) _)
 | true =>
 have hgr:=H1.out.1 rfl;have hsz:=hgr.size;have GR:=Lib.hid hgr;clear hgr H1;by_cases h40:s < 40
 ·obtain ⟨rfl,rfl⟩:b=true∧rs=s+1:=by
   rcases hres with ⟨h1, -,h2⟩ | ⟨-,h, -⟩
   ·exact ⟨h1,h2⟩
   ·exact absurd ⟨GR.out,h40⟩ h
  have d40:(s == 40)=false:=by simp only [beq_eq_false_iff_ne];omega
  have d40':decide ((40:Int)≤s)=false:=by simp;omega
  have hw1:IntKind.i64.wrap (s+1)=s+1:=IntWalk.i64_in _ (by omega);have hst:=Mid.setCell w4 (lo:=w2.heap.size) (hi:=w2.heap.size+1) (p:=⟨w2.heap.size,1,none⟩) (.int .i64 (s+1)) (Nat.le_refl _) (Nat.lt_succ_self _);have qf:=Y3.2.2;have Y4:=Y3.set 1 (.int .i64 (s+1)) (by simp) rfl;simp only [List.set_cons_succ,List.set_cons_zero] at Y4;have r0:=Y4.cell 0 rfl;have r1:=Y4.cell 1 rfl;have r2:=Y4.cell 2 rfl;have B4:=B2.mid hst (Or.inl (by omega));have hm9:=hm0.storeNew (p:=⟨w2.heap.size,1,none⟩) (by show w.heap.size≤w2.heap.size;omega) (.int .i64 (s+1));have ho9:=ho5.mid hst (Or.inr (Nat.le_refl _));have hcl:(w.heap.size+1 == w2.heap.size)=false:=by simp;omega
  have hsp:w.heap.size+1 < w2.heap.size:=by omega
  have a0:=B2.cell 0 rfl;have a1:=B2.cell 1 rfl;have a2:=B2.cell 2 rfl;have af:=B2.2.2;clear hres;go_wp2_with fail;refine bodyPost_ret (v:=.tuple #[.agg #[.int .i64 r,.int .i64 (s+1),.slice A1 es.length c1],.bool true]) (by simp [results,Tryz.results115,go_sem,a0,a1,a2,af,q0,q1,q2,qf]) rfl ⟨A1,c1,rfl,?_,?_⟩
  ·refine OG.wide (OG.mid ho9 (a:=w.heap.size) (b:=w.heap.size+2) ?_ (Or.inl (by omega))) (by omega) (by have:=ho9.size;simp at this ⊢;omega) (Nat.le_refl _)
   repeat (first | exact Mid.refl _ _ _ | refine Mid.stored ?_ _ (by simp;try omega) (by simp;try omega))
  ·repeat (first | exact hm9 | refine Mid.storeNew ?_ (by simp;try omega) _)
 ·obtain ⟨rfl,rfl⟩:b=false∧rs=s:=by
   rcases hres with ⟨-,h, -⟩ | ⟨h1, -,h2⟩
   ·exact absurd h.2 h40
   ·exact ⟨h1,h2⟩
  have d40:(rs == 40)=true:=by simp only [beq_iff_eq];omega
  have d40':decide ((40:Int)≤rs)=true:=by simp;omega
  clear hres;have a0:=B2.cell 0 rfl;have a1:=B2.cell 1 rfl;have a2:=B2.cell 2 rfl;have af:=B2.2.2;go_wp2_with fail;refine bodyPost_ret (v:=.tuple #[.agg #[.int .i64 r,.int .i64 rs,.slice A1 es.length c1],.bool false]) (by simp [results,Tryz.results115,go_sem,a0,a1,a2,af,q0,q1,q2]) rfl ⟨A1,c1,rfl,?_,?_⟩
  ·refine OG.wide (OG.mid ho5 (a:=w.heap.size) (b:=w.heap.size+2) ?_ (Or.inl (by omega))) (by omega) (by have:=ho5.size;simp;omega) (Nat.le_refl _)
   repeat (first | exact Mid.refl _ _ _ | refine Mid.stored ?_ _ (by simp;try omega) (by simp;try omega))
  ·repeat (first | exact hm0 | refine Mid.storeNew ?_ (by simp;try omega) _)
theorem impl_AddVertex (r s:Int) (A:Option Addr) (es:List Ed) (c:Nat) (w:World) (lo hi:Nat) (hr:RG w lo hi A es) (hl:es.length≤1048576) (rs:Int) (b:Bool) (hres:AvIs r s es rs b) :
  Calls Tryz.prog 186 #[graV r s A es.length c] w fun e w'=>∃ A1 c1,e=.returned (.tuple #[graV r rs A1 es.length c1,.bool b])∧OG w' w.heap.size w'.heap.size A1 c1 es∧Mid 0 0 w w':=by
 have hm0:Mid 0 0 w ((w.alloc (.cells #[.int .i64 r,.int .i64 s,.slice A es.length c] 26)).alloc (.cells #[.int .i64 0,.int .i64 0,.slice none 0 0] 26)):=(Mid.alloc _ _).trans (Mid.alloc _ _);have B0:=(Box.new w #[.int .i64 r,.int .i64 s,.slice A es.length c] 26).mid (Mid.alloc _ (.cells #[.int .i64 0,.int .i64 0,.slice none 0 0] 26)) oZr;have B2:=Box.new (w.alloc (.cells #[.int .i64 r,.int .i64 s,.slice A es.length c] 26)) #[.int .i64 0,.int .i64 0,.slice none 0 0] 26;simp only [World.size_alloc] at B2;obtain ⟨b1,hb1⟩:=bool_of (IsGr r s es);have H1:=Lib.hid hb1;clear hb1;go_enter Tryz.func186,Tryz.ntmps186
 go_wp2_with fail;generalize ((w.alloc (.cells #[.int .i64 r,.int .i64 s,.slice A es.length c] 26)).alloc (.cells #[.int .i64 0,.int .i64 0,.slice none 0 0] 26))=w1 at hm0 B0 B2 ⊢;have hs1:w.heap.size+1 < w1.heap.size:=B2.1;with_reducible refine (impl_copyGraph r s A es c _ _ _ (hr.mid hm0 oZl) hl).mono ?_
 rintro en w2 ⟨A1,c1,rfl,ho2,hm2⟩;have hal:=Mid.alloc w2 (.cells #[.int .i64 r,.int .i64 s,.slice A1 es.length c1] 26);have Y3:=Box.new w2 #[.int .i64 r,.int .i64 s,.slice A1 es.length c1] 26;have hs2:=hm2.size;replace B0:=B0.mid hm2 oZr;replace B2:=B2.mid hm2 oZr;replace hm0:=hm0.trans hm2;replace B0:=B0.mid hal oZr;replace B2:=B2.mid hal oZr;replace hm0:=hm0.trans hal;have ho5:=(ho2.mid hal oZl)
 have p0:=B0.cell 0 rfl;have p1:=B0.cell 1 rfl;have p2:=B0.cell 2 rfl;go_wp2_with fail;generalize w2.alloc (.cells #[.int .i64 r,.int .i64 s,.slice A1 es.length c1] 26)=w3 at hm0 B0 B2 Y3 ho5 p0 p1 p2 ⊢;have hG3:w2.heap.size < w3.heap.size:=Y3.1;with_reducible refine (impl_IsGraph r s A es c _ _ _ (hr.mid hm0 oZl).rv hl b1 H1.out).mono ?_
 rintro en w4 ⟨rfl,hm4⟩;replace B0:=B0.mid hm4 oZr;replace B2:=B2.mid hm4 oZr;replace Y3:=Y3.mid hm4 oZr;replace ho5:=ho5.mid hm4 oZl;replace hm0:=hm0.trans hm4;have hs4:=hm4.size;clear p0 p1 p2 hm4 ho2 hal;have p0:=B0.cell 0 rfl;have p1:=B0.cell 1 rfl;have p2:=B0.cell 2 rfl;have q0:=Y3.cell 0 rfl;have q1:=Y3.cell 1 rfl;have q2:=Y3.cell 2 rfl;cases b1 with
 | false =>
  have hno:¬ (IsGr r s es∧s < 40):=fun h=>by have:=H1.out.2 h.1;cases this
  obtain ⟨rfl,rfl⟩:b=false∧rs=s:=by
   rcases hres with ⟨-,h, -⟩ | ⟨h1, -,h2⟩
   ·exact absurd h hno
   ·exact ⟨h1,h2⟩
  clear hres hno;have a0:=B2.cell 0 rfl;have a1:=B2.cell 1 rfl;have a2:=B2.cell 2 rfl;have af:=B2.2.2;go_wp2_with fail;refine bodyPost_ret (v:=.tuple #[.agg #[.int .i64 r,.int .i64 rs,.slice A1 es.length c1],.bool false]) (by simp [results,Tryz.results186,go_sem,a0,a1,a2,af,q0,q1,q2]) rfl ⟨A1,c1,rfl,?_,?_⟩
  ·refine OG.wide (OG.mid ho5 (a:=w.heap.size) (b:=w.heap.size+2) ?_ (Or.inl (by omega))) (by omega) (by have:=ho5.size;simp;omega) (Nat.le_refl _)
   repeat (first | exact Mid.refl _ _ _ | refine Mid.stored ?_ _ (by simp;try omega) (by simp;try omega))
  ·repeat (first | exact hm0 | refine Mid.storeNew ?_ (by simp;try omega) _)
 | true =>
 have hgr:=H1.out.1 rfl;have hsz:=hgr.size;have GR:=Lib.hid hgr;clear hgr H1;by_cases h40:s < 40
 ·obtain ⟨rfl,rfl⟩:b=true∧rs=s+1:=by
   rcases hres with ⟨h1, -,h2⟩ | ⟨-,h, -⟩
   ·exact ⟨h1,h2⟩
   ·exact absurd ⟨GR.out,h40⟩ h
  have d40:(s == 40)=false:=by simp only [beq_eq_false_iff_ne];omega
  have d40':decide ((40:Int)≤s)=false:=by simp;omega
  have hw1:IntKind.i64.wrap (s+1)=s+1:=IntWalk.i64_in _ (by omega);have hst:=Mid.setCell w4 (lo:=w2.heap.size) (hi:=w2.heap.size+1) (p:=⟨w2.heap.size,1,none⟩) (.int .i64 (s+1)) (Nat.le_refl _) (Nat.lt_succ_self _);have qf:=Y3.2.2;have Y4:=Y3.set 1 (.int .i64 (s+1)) (by simp) rfl;simp only [List.set_cons_succ,List.set_cons_zero] at Y4;have r0:=Y4.cell 0 rfl;have r1:=Y4.cell 1 rfl;have r2:=Y4.cell 2 rfl;have B4:=B2.mid hst (Or.inl (by omega));have hm9:=hm0.storeNew (p:=⟨w2.heap.size,1,none⟩) (by show w.heap.size≤w2.heap.size;omega) (.int .i64 (s+1));have ho9:=ho5.mid hst (Or.inr (Nat.le_refl _));have hcl:(w.heap.size+1 == w2.heap.size)=false:=by simp;omega
  have hsp:w.heap.size+1 < w2.heap.size:=by omega
  have a0:=B2.cell 0 rfl;have a1:=B2.cell 1 rfl;have a2:=B2.cell 2 rfl;have af:=B2.2.2;clear hres;go_wp2_with fail;refine bodyPost_ret (v:=.tuple #[.agg #[.int .i64 r,.int .i64 (s+1),.slice A1 es.length c1],.bool true]) (by simp [results,Tryz.results186,go_sem,a0,a1,a2,af,q0,q1,q2,qf]) rfl ⟨A1,c1,rfl,?_,?_⟩
  ·refine OG.wide (OG.mid ho9 (a:=w.heap.size) (b:=w.heap.size+2) ?_ (Or.inl (by omega))) (by omega) (by have:=ho9.size;simp at this ⊢;omega) (Nat.le_refl _)
   repeat (first | exact Mid.refl _ _ _ | refine Mid.stored ?_ _ (by simp;try omega) (by simp;try omega))
  ·repeat (first | exact hm9 | refine Mid.storeNew ?_ (by simp;try omega) _)
 ·obtain ⟨rfl,rfl⟩:b=false∧rs=s:=by
   rcases hres with ⟨-,h, -⟩ | ⟨h1, -,h2⟩
   ·exact absurd h.2 h40
   ·exact ⟨h1,h2⟩
  have d40:(rs == 40)=true:=by simp only [beq_iff_eq];omega
  have d40':decide ((40:Int)≤rs)=true:=by simp;omega
  clear hres;have a0:=B2.cell 0 rfl;have a1:=B2.cell 1 rfl;have a2:=B2.cell 2 rfl;have af:=B2.2.2;go_wp2_with fail;refine bodyPost_ret (v:=.tuple #[.agg #[.int .i64 r,.int .i64 rs,.slice A1 es.length c1],.bool false]) (by simp [results,Tryz.results186,go_sem,a0,a1,a2,af,q0,q1,q2]) rfl ⟨A1,c1,rfl,?_,?_⟩
  ·refine OG.wide (OG.mid ho5 (a:=w.heap.size) (b:=w.heap.size+2) ?_ (Or.inl (by omega))) (by omega) (by have:=ho5.size;simp;omega) (Nat.le_refl _)
   repeat (first | exact Mid.refl _ _ _ | refine Mid.stored ?_ _ (by simp;try omega) (by simp;try omega))
  ·repeat (first | exact hm0 | refine Mid.storeNew ?_ (by simp;try omega) _)
end
section
open Go.RowKit
theorem rdA_is {es:List Ed}:∀ {w:List Int} {v u:Int} {k:Nat},goV es v (w.take k)=some u→k≤w.length→(k=w.length ∨ ∃ x,w[k]?=some x∧nextV es u x < 0)→rdA es v w=(u,k)
 | [],v,u,k,h,hk,h2=>by
  obtain rfl:k=0:=by simpa using hk
  rw [List.take_nil,goV] at h;injection h with h
  subst h
  rfl
 | x :: t,v,u,0,h,hk,h2=>by
  rw [List.take_zero,goV] at h;injection h with h
  subst h;rcases h2 with h2 | ⟨y,hy,hn⟩
  ·simp at h2
  ·simp at hy
   subst hy;rw [rdA,if_pos hn]
 | x :: t,v,u,k+1,h,hk,h2=>by
  rw [List.take_succ_cons,goV] at h;split at h
  ·cases h
  ·rename_i hn
   have ih:=rdA_is (w:=t) h (by simpa using hk) (by
    rcases h2 with h2 | ⟨y,hy,hy2⟩
    ·exact .inl (by simpa using h2)
    ·exact .inr ⟨y,by simpa using hy,hy2⟩)
   rw [rdA,if_neg hn,ih]
theorem goV_rdA {es:List Ed}:∀ (w:List Int) (v:Int),goV es v (w.take (rdA es v w).2)=some (rdA es v w).1
 | [],v=>rfl
 | x :: t,v=>by
  by_cases hn:nextV es v x < 0
  ·rw [rdA,if_pos hn]
   rfl
  ·rw [rdA,if_neg hn]
   simp only [List.take_succ_cons,goV,if_neg hn];exact goV_rdA t _
theorem RV.dropI {w:World} {lo hi b off:Nat} {xs:List Int} (h:RV w lo hi (some ⟨b,off,none⟩) (ints xs)) (k:Nat):RV w lo hi (some ⟨b,off+k,none⟩) (ints (xs.drop k)):=by
 refine ⟨h.1,fun hn=>?_⟩;obtain ⟨b',off',hA,h1,h2,h3⟩:=h.2 (by intro h0;apply hn;simp [ints] at h0 ⊢;rw [h0];simp);injection hA with hA
 injection hA with e1 e2
 subst e1 e2;refine ⟨b,off+k,rfl,h1,h2,fun j u hu=>?_⟩;have:=h3 (k+j) u (by
  simp only [ints,List.getElem?_map,List.getElem?_drop] at hu ⊢;exact hu)
 rw [Nat.add_assoc];exact this
theorem spec_ReadLength (r n v:Nat) (A:Option Addr) (es:List Ed) (c:Nat) (Aw:Option Addr) (wd:List Int) (cw:Nat) (w:World) (lo hi lo' hi':Nat) (hr:RG w lo hi A es) (hw:RV w lo' hi' Aw (ints wd)) (hf:IsFol r n es) (hv:v < n) (hwl:wd.length≤1048576) (hok:OkI wd) :
  Calls Tryz.prog 114 #[graV r n A es.length c,.int .i64 v,.slice Aw wd.length cw] w fun e w'=>e=.returned (.int .i64 ((rdA es v wd).2:Nat))∧Mid 0 0 w w':=by
 have hg:=hf.gr;have hl:=hg.len;have hn40:n≤40:=by have:=hg.size;omega
 have HGL:=Lib.hid (show ∀ e∈es,1≤e.l∧e.l≤3 from fun e he=>by have:=hg.all e he;have:=hg.rank;unfold InG at *;omega);have HF:=Lib.hid hf;have HOK:=Lib.hid hok;have hm0:Mid 0 0 w (w.alloc (.cells #[.int .i64 r,.int .i64 n,.slice A es.length c] 26)):=Mid.alloc _ _;have b0:=Box.new w #[.int .i64 r,.int .i64 n,.slice A es.length c] 26;have hib:inB (v:Int) 0 ((n:Int) - 1)=true:=by unfold inB;simp;omega
 have hw1:IntKind.i64.wrap ((n:Int) - 1)=(n:Int) - 1:=IntWalk.i64_in _ (by omega);obtain ⟨kk,hkk⟩:∃ kk,(rdA es (v:Int) wd).2=kk:=⟨_,rfl⟩
 have HKK:=Lib.hid hkk;rw [hkk];clear hg hok hf hkk;go_enter Tryz.func114,Tryz.ntmps114
 go_wp2_with fail;with_reducible refine (spec_IsFolded r n A es c _ _ _ (hr.mid hm0 oZl) (by omega) true (iff_of_true rfl HF.out)).mono ?_
 rintro en w1 ⟨rfl,hm1⟩;replace b0:=b0.mid hm1 oZr;replace hm0:=hm0.trans hm1;have p0:=b0.cell 0 rfl;have p1:=b0.cell 1 rfl;have p2:=b0.cell 2 rfl;go_wp2_with fail;with_reducible refine (l1In_at hib _).mono ?_
 rintro en w2 ⟨rfl,rfl⟩;go_wp2_with fail;clear p0 p1 p2 hm1;go_loopw [1,7] (fun vv iv wr=>∃ (k:Nat) (u:Int),k≤wd.length∧iv=.int .i64 k∧vv=.int .i64 u∧Hid (goV es v (wd.take k)=some u)∧Box wr w.heap.size [.int .i64 r,.int .i64 n,.slice A es.length c]∧Mid 0 0 w wr) (fun _ i _=>wd.length - (intOf i).toNat)
 case atStart=>exact ⟨0,v,Nat.zero_le _,rfl,rfl,Lib.hid rfl,b0,hm0⟩
 case round =>
  clear b0 hm0;obtain ⟨k,u,hk,rfl,rfl,HV,b0,hm⟩:=hrel;by_cases hlt:k < wd.length
  ·obtain ⟨B,off,x,rfl,hbh,hx,hcx⟩:=(hw.mid hm oZl).at hlt
   have hxr:=HOK.out x (List.mem_of_getElem? hx);have hk1:(k:Int) < (wd.length:Int):=by omega
   have hk0:(0:Int)≤(k:Int):=by omega
   have HX:=Lib.hid hx;have hBs:B < wr.heap.size:=by have:=hw.1;have:=hm.size;omega
   have k0:=wg_cell b0.1 (b0.cell 0 rfl);have k1:=wg_cell b0.1 (b0.cell 1 rfl);have k2:=wg_cell b0.1 (b0.cell 2 rfl);have k4:=wg_cell hBs hcx;have hA:=fun m os=>spec_NextVertex r n A es c u x (wg wr m os) lo hi (hr.mid (hm.trans (Mid.ofWg wr m os)) oZl) (by omega) HGL.out (by omega) (by omega);clear hx hcx;go_wp2_with fail;refine wp_region_quiet_wg (by kernel_rfl) (by kernel_rfl) ?_;repeat
    (with_reducible refine wpQuiet_step (fun K hK=>?_))
    go_simp
    first
     | ((with_reducible refine hK _ ?_);clear hK K)
     | (rw [if_neg (by decide)];(with_reducible refine hK _ ?_);clear hK K)
     | (apply Exists.intro;refine ⟨fun _=>?_,hK _ ?_⟩;((go_at_call 138;exact Calls.wg_of (hA _ _)));clear hK K)
   with_reducible refine wpQuiet_nil ?_
   intro _ hw';obtain ⟨⟨nq,osq⟩,hw''⟩:=hw';subst hw'';have hwg:=Mid.ofWg wr nq osq;generalize wg wr nq osq=w6 at hwg ⊢;replace b0:=b0.mid hwg oZr;replace hm:=hm.trans hwg;generalize htx:nextV es u x=t;clear k0 k1 k2 k4 hA;by_cases ht:t < 0
   ·have d1:decide (t < 0)=true:=by simpa using ht
    have hfin:=rdA_is HV.out hk (.inr ⟨x,HX.out,by rw [htx];exact ht⟩);have HK:Hid (kk=k):=Lib.hid (by rw [← HKK.out,hfin]);clear ht htx hfin;go_wp2_with fail;go_ret;exact ⟨by rw [HK.out];rfl,hm⟩
   ·have d1:decide (t < 0)=false:=by simpa using ht
    have HN:=Lib.hid (goV_next HV.out HX.out (by rw [htx];exact ht));rw [htx] at HN;clear ht htx;go_wp2_with fail;go_roundw
    case rel=>exact ⟨k+1,t,by omega,by go_num,rfl,HN,b0,hm⟩
    case measure=>simp [intOf];omega
  ·obtain rfl:k=wd.length:=by omega
   have hfin:=rdA_is HV.out hk (.inl rfl);have HK:Hid (kk=wd.length):=Lib.hid (by rw [← HKK.out,hfin]);clear hfin;go_wp2_with fail;go_ret;exact ⟨by rw [HK.out];rfl,hm⟩
end
section
open Go.RowKit
theorem ExtIs.full {r s:Int} {es:List Ed} {w:List Int} {b:Bool} {s2:Int} {es2:List Ed} {x:Int} (h:ExtIs r s es w b s2 es2 x) (hk:(rdA es 0 w).2=w.length):b=true∧s2=s∧es2=es∧x=(rdA es 0 w).1:=by
 rcases h with ⟨h1, -,h2⟩ | ⟨-,h1, -⟩ | ⟨-,h1, -⟩
 ·exact ⟨h1,h2⟩
 ·omega
 ·omega
theorem ExtIs.more {r s:Int} {es:List Ed} {w:List Int} {b:Bool} {s2:Int} {es2:List Ed} {x:Int} (h:ExtIs r s es w b s2 es2 x) (hk:(rdA es 0 w).2 < w.length) (hp:s < 40∧PathOk r (s+1) es (rdA es 0 w).1 (w.drop (rdA es 0 w).2) s) :
  b=true∧s2=s+1+((w.drop (rdA es 0 w).2).length:Int) - 1∧es2=canon (es++pathE (rdA es 0 w).1 (s+1) (w.drop (rdA es 0 w).2) s (w.drop (rdA es 0 w).2).length)∧x=s:=by
 rcases h with ⟨-,h1, -⟩ | ⟨h1, -, -, -,h2⟩ | ⟨-, -,h1, -⟩
 ·omega
 ·exact ⟨h1,h2⟩
 ·exact absurd hp h1
theorem ExtIs.not {r s:Int} {es:List Ed} {w:List Int} {b:Bool} {s2:Int} {es2:List Ed} {x:Int} (h:ExtIs r s es w b s2 es2 x) (hk:(rdA es 0 w).2 < w.length) (hp:¬ (s < 40∧PathOk r (s+1) es (rdA es 0 w).1 (w.drop (rdA es 0 w).2) s)) :
  b=false∧s2=0∧es2=[]∧x=0:=by
 rcases h with ⟨-,h1, -⟩ | ⟨-, -,h1,h2, -⟩ | ⟨h1, -, -,h2⟩
 ·omega
 ·exact absurd ⟨h1,h2⟩ hp
 ·exact ⟨h1,h2⟩
end
section
open Go.RowKit
end
section
open Go.RowKit
theorem RV.takeI {w:World} {lo hi:Nat} {A:Option Addr} {xs:List Int} (h:RV w lo hi A (ints xs)) (k:Nat):RV w lo hi A (ints (xs.take k)):=by
 refine ⟨h.1,fun hn=>?_⟩;obtain ⟨b,off,hA,h1,h2,h3⟩:=h.2 (by intro h0;apply hn;simp [ints] at h0 ⊢;right;exact h0);refine ⟨b,off,hA,h1,h2,fun j u hu=>h3 j u ?_⟩;simp only [ints,List.getElem?_map,List.getElem?_take] at hu ⊢;split at hu
 ·exact hu
 ·cases hu
end
end Go.Proofs.YthampgpcajmopaaGreat
