/- Contracts and lemmas of this seat, many texts in one: see the words ahead of each. No condition beyond those typed in each lemma. -/
import Derived.Test.YthampgpcajmopaaGreatJn11
import Derived.Test.YthampgpcajmopaaGreatJn3
import Derived.Test.YthampgpcajmopaaGreatJn6
import Derived.Test.YthampgpcajmopaaGreatJn9
import Derived.Test.YthampgpcajmopaaGreatJn8
import Derived.Test.YthampgpcajmopaaGreatJn7
import Derived.Test.YthampgpcajmopaaGreatJn1
import Derived.Test.YthampgpcajmopaaGreatJn2

namespace Go.Proofs.YthampgpcajmopaaGreat
set_option linter.unusedVariables false
set_option linter.unusedSimpArgs false
set_option maxHeartbeats 40000000
set_option maxRecDepth 100000
section
open Go.RowKit
theorem l12Finite_any (p:Nat) (A:Option Addr) (bs:List Int) (c:Nat) (w:World) (hb:OkB bs) (hl:bs.length≤1048576) (h:Cur w p A bs c) :
  Calls Tryz.prog 185 #[.pointer (some ⟨p,0,none⟩)] w fun e w'=>∃ r s A' c' es,e=.returned (graV r s A' (List.length es) c')∧DrG r s es∧OG w' w.heap.size w'.heap.size A' c' es∧Cur w' p A bs c∧Mid p (p+1) w w':=by
 have hpw:=h.lt;have hal:=Mid.alloc w (.cells #[.int .i64 0,.int .i64 0,.slice none 0 0] 26);have B2:=Box.new w #[.int .i64 0,.int .i64 0,.slice none 0 0] 26;have h0:=h.mid hal (Or.inr rfl);go_enter Tryz.func185,Tryz.ntmps185
 have hal2:=Mid.alloc (w.alloc (.cells #[.int .i64 0,.int .i64 0,.slice none 0 0] 26)) (.cells #[.int .i64 1,.int .i64 2,.int .i64 2,.int .i64 2,.int .i64 3] 3);have hbx:=Box.new (w.alloc (.cells #[.int .i64 0,.int .i64 0,.slice none 0 0] 26)) #[.int .i64 1,.int .i64 2,.int .i64 2,.int .i64 2,.int .i64 3] 3;rw [World.size_alloc] at hbx;replace B2:=B2.mid hal2 oZr;replace h0:=h0.mid hal2 (Or.inr rfl);have hm0:=hal.trans hal2;go_wp2_with fail;generalize (w.alloc (.cells #[.int .i64 0,.int .i64 0,.slice none 0 0] 26)).alloc (.cells #[.int .i64 1,.int .i64 2,.int .i64 2,.int .i64 2,.int .i64 3] 3)=w1 at hbx B2 h0 hm0 ⊢;have hs1:w.heap.size+1 < w1.heap.size:=hbx.1;have hri:RI w1 (w.heap.size+1) (w.heap.size+1+1) (some ⟨w.heap.size+1,0,none⟩) [1,2,2,2,3] :=
  ⟨hs1,fun _=>⟨w.heap.size+1,0,rfl,Nat.le_refl _,Nat.lt_succ_self _,fun j u hu=>by rw [Nat.zero_add];exact hbx.2.1 j u (by simpa [ints] using hu)⟩⟩
 with_reducible refine (l1PickIntN (some ⟨w.heap.size+1,0,none⟩) [1,2,2,2,3] 5 5 rfl (by decide) (by decide) p A bs c _ (w.heap.size+1) _ hri (Or.inl (by omega)) hb hl h0).mono ?_
 rintro e w2 ⟨r,rfl,hrm,h2,m2⟩;have hr:1≤r∧r≤3:=by simp at hrm;omega
 have B2b:=B2.mid m2 (Or.inr (by omega));have hm2:=hm0.zero.trans m2;clear hri hbx hrm h0 B2 hm0 hal hal2 m2;go_wp2_with fail;with_reducible refine (l1BelowI 5 (by decide) (by decide) p A bs c _ hb hl h2).mono ?_
 rintro e w3 ⟨k,rfl,hk,h3,m3⟩;have B2c:=B2b.mid m3 (Or.inr (by omega));have hm3:=hm2.trans m3;have hs3:=hm3.size;have ek:IntKind.i64.wrap (1+(k:Int))=1+(k:Int):=IntWalk.i64_in _ (by omega);clear h2 B2b hm2 m3;have hal3:=Mid.alloc w3 (.cells #[.int .i64 r,.int .i64 (1+(k:Int)),.slice none 0 0] 26);have G0:=Box.new w3 #[.int .i64 r,.int .i64 (1+(k:Int)),.slice none 0 0] 26;have B2d:=B2c.mid hal3 oZr;have h4:=h3.mid hal3 (Or.inr rfl);have hm4:=hm3.trans hal3.zero;have hgw0:w.heap.size < w3.heap.size:=B2c.1;go_wp2_with fail;obtain ⟨gb,hgb⟩:∃ g,w3.heap.size=g:=⟨_,rfl⟩
 have hgw:w.heap.size < gb:=by omega
 obtain ⟨rn,hrn⟩:=Int.eq_ofNat_of_zero_le (by omega:0≤r);obtain ⟨n,hn⟩:∃ n:Nat,1+(k:Int)=n:=⟨1+k,by omega⟩
 rw [hn,hgb,hrn] at G0 ⊢;rw [hn,hrn] at B2d h4 hm4;generalize w3.alloc (.cells #[.int .i64 (rn:Int),.int .i64 (n:Int),.slice none 0 0] 26)=w4 at G0 B2d h4 hm4 ⊢;have hrn3:1≤(rn:Int)∧(rn:Int)≤3:=by omega
 have hn5:1≤(n:Int)∧(n:Int)≤5:=by omega
 have hg4:gb < w4.heap.size:=G0.1;clear h3 B2c hal3 hm3 ek hn hrn hk hr hgb hgw0;have hog:OG w4 (gb+1) w4.heap.size none 0 []:=OG.nil;go_loopw [6] (fun xv wr=>∃ (x:Nat) (es:List Ed) (Ae:Option Addr) (ce L:Nat),xv=.int .i64 ((x:Int)+1)∧x≤rn∧Hid (es.length=L)∧L≤5 * x∧Hid (IsGr rn n es)∧Box wr gb [.int .i64 rn,.int .i64 n,.slice Ae L ce]∧OG wr (gb+1) wr.heap.size Ae ce es∧Box wr w.heap.size [.int .i64 0,.int .i64 0,.slice none 0 0]∧Cur wr p A bs c∧Mid p (p+1) w wr)
  (fun xv _=>rn+1 - (intOf xv).toNat)
 case atStart=>exact ⟨0,[],none,0,0,by go_num,Nat.zero_le _,Lib.hid rfl,by omega,Lib.hid ⟨hrn3,by omega,by simp,by simp,List.Pairwise.nil⟩,G0,hog,B2d,h4,hm4⟩
 case round =>
  obtain ⟨x,es,Ae,ce,L,rfl,hxr,HL,hLm,HG,hG,hO,hB,hC,hM⟩:=hrel;clear G0 hog B2d h4 hm4 hg4;have hgr:gb < wr.heap.size:=hG.1;have g0:=hG.cell 0 rfl;have g1:=hG.cell 1 rfl;have g2:=hG.cell 2 rfl;by_cases hlt:x < rn
  ·have hle:(x:Int)+1≤(rn:Int):=by omega
   have hal5:=Mid.alloc wr (.cells #[] 3);have ho5:=owns_empty wr 3 1;have hsz5:=hal5.size;obtain ⟨bb,hbb⟩:∃ g,wr.heap.size=g:=⟨_,rfl⟩
   rw [hbb] at ho5 hgr hsz5;clear g0 g1 g2;go_wp2_with fail;have hG5:=hG.mid hal5 oZr;have hO5:=hO.mid hal5 oZl;have hB5:=hB.mid hal5 oZr;have hC5:=hC.mid hal5 (Or.inr rfl);have hM5:=hM.trans hal5.zero;rw [hbb] at hO5;clear hO hB hC hM hG hal5;generalize wr.alloc (.cells #[] 3)=w5 at hsz5 ho5 hG5 hO5 hB5 hC5 hM5 ⊢;clear hbb;go_loopw [7,8] (fun lv vv wq=>∃ (v:Nat) (left:List Int) (Al:Option Addr) (cl:Nat),vv=.int .i64 v∧v≤n∧lv=.slice Al v cl∧Hid (left.length=v)∧Hid (∀ y∈left,0≤y∧y < n)∧wq.ownsRow bb 3 1 (.slice Al v cl) v (ints left)∧Box wq gb [.int .i64 rn,.int .i64 n,.slice Ae L ce]∧OG wq (gb+1) bb Ae ce es∧Box wq w.heap.size [.int .i64 0,.int .i64 0,.slice none 0 0]∧Cur wq p A bs c∧Mid p (p+1) w wq∧bb≤wq.heap.size)
    (fun _ vv _=>n - (intOf vv).toNat)
   case atStart=>exact ⟨0,[],_,_,by go_num,Nat.zero_le _,rfl,Lib.hid rfl,Lib.hid (by simp),ho5,hG5,hO5,hB5,hC5,hM5,hsz5⟩
   case round =>
    obtain ⟨v,left,Al,cl,rfl,hvn,rfl,HLL,HLB,hol,hG6,hO6,hB6,hC6,hM6,hsq⟩:=hrel;clear ho5 hG5 hO5 hB5 hC5 hM5 hsz5;by_cases hv:v < n
    ·have hv2:(v:Int) < (n:Int):=by omega
     go_wp2_with (at_builtin;refine wpList_push rfl _ _ 34 rfl bb 3 (.int .i64 0) 1 8 undSI infoI rfl (by decide) _ _ _ rfl hol 1 [.int .i64 (v:Int)] rfl rfl ?c1 ?c2 ?c3 hsq ?next)
     case c1=>exact one_of_ints [(v:Int)]
     case c2=>unfold maxLen;omega
     case c3=>omega
     case next =>
      intro v3 w3 hol3 hgr3 hat3;have m3:Mid bb wr.heap.size wr w3:=Mid.of_grownRow hol hgr3;have hG7:=hG6.mid m3 (Or.inl (by omega));have hO7:=hO6.mid m3 (Or.inr (Nat.le_refl _));have hB7:=hB6.mid m3 (Or.inl (by omega));have hC7:=hC6.mid m3 (Or.inl (by omega));have hM7:=hM6.transNew m3 (Or.inl (by omega));have hs7:=m3.size;obtain ⟨A3,c3,rfl, -, -⟩:=owns_shape hol3;clear hol hgr3 hat3 m3 hG6 hO6 hB6 hC6 hM6;go_wp2_with fail;go_roundw
      case rel =>
       refine ⟨v+1,left++[(v:Int)],A3,c3,by go_num,by omega,rfl,Lib.hid (by rw [List.length_append,HLL.out];rfl),Lib.hid fun y hy=>?_,by rw [ints_append];exact hol3,hG7,hO7,hB7,hC7,hM7,by omega⟩;rcases List.mem_append.1 hy with hy | hy
       ·exact HLB.out y hy
       ·rw [List.mem_singleton] at hy
        omega
      case measure=>simp [intOf];omega
    ·obtain rfl:v=n:=by omega
     go_wp2_with fail;have hO8:=hO6.wide (Nat.le_refl _) (hi':=wr.heap.size) hsq (Nat.le_refl _);have hol8:=owns_base hol (show gb+1≤bb by omega);clear hol hO6;go_loopw [7,9] (fun lv vv wq=>∃ (u:Nat) (left:List Int) (Al:Option Addr) (cl Lf:Nat) (es:List Ed) (Ae:Option Addr) (ce L:Nat),vv=.int .i64 u∧u+Lf=v∧lv=.slice Al Lf cl∧Hid (left.length=Lf)∧Hid (∀ y∈left,0≤y∧y < v)∧wq.ownsRow (gb+1) 3 1 (.slice Al Lf cl) Lf (ints left)∧Hid (es.length=L)∧L≤5 * x+u∧Hid (IsGr rn v es)∧Box wq gb [.int .i64 rn,.int .i64 v,.slice Ae L ce]∧OG wq (gb+1) wq.heap.size Ae ce es∧Box wq w.heap.size [.int .i64 0,.int .i64 0,.slice none 0 0]∧Cur wq p A bs c∧Mid p (p+1) w wq)
      (fun _ vv _=>v - (intOf vv).toNat)
     case atStart=>exact ⟨0,left,Al,cl,v,es,Ae,ce,L,by go_num,by omega,rfl,HLL,HLB,hol8,HL,by omega,HG,hG6,hO8,hB6,hC6,hM6⟩
     case round =>
      clear hol8 hO8 HLL HLB HL HG hG6 hB6 hC6 hM6 hLm hsq;obtain ⟨u,left,Al,cl,Lf,es,Ae,ce,L,rfl,huv,rfl,HLL,HLB,hol,HL,hLm,HG,hG,hO,hB,hC,hM⟩:=hrel;by_cases hlt:u < v
      ·have hlt2:(u:Int) < (v:Int):=by omega
       have hLf:0 < Lf:=by omega
       go_wp2_with fail;with_reducible refine (l1Below_pos Lf hLf (by omega) p A bs c _ hb hl hC).mono ?_
       rintro e w2 ⟨k,rfl,hk,hC2,m2⟩;have hol2:=owns_mid hol m2 (Or.inl (by omega));have hG2:=hG.mid m2 (Or.inr (by omega));have hO2:=(hO.mid m2 (Or.inl (by omega))).wide (Nat.le_refl _) m2.size (Nat.le_refl _);have hB2:=hB.mid m2 (Or.inr (by omega));have hM2:=hM.trans m2;clear hol hG hO hB hC hM m2;have hmd:=Mid.drew1 w2;replace hol2:=owns_mid hol2 hmd oZl;replace hO2:=hO2.mid hmd oZl;replace hG2:=hG2.mid hmd oZr;replace hB2:=hB2.mid hmd oZr;replace hC2:=hC2.mid hmd (Or.inr rfl);replace hM2:=hM2.trans hmd.zero;replace hO2:OG w2.drew (gb+1) w2.drew.heap.size Ae ce es:=hO2;clear hmd;obtain ⟨b,off,y,hAl,hBx,hy,hcx⟩:=(Rs.of_own hol2).int (k:=k) (by have:=HLL.out;omega);subst hAl;have hyb:=HLB.out y (List.mem_of_getElem? hy);clear hy;have g2:=hG2.cell 2 rfl;go_wp2_with fail;refine wp_region_Z (S:=(fun w'=>w'.cell? ⟨gb,2,none⟩=some (.slice Ae L ce)∧w'.cell? ⟨b,off+k,none⟩=some (.int .i64 y))) [11] (by kernel_rfl) ⟨g2,hcx⟩ ?_;generalize World.drew w2=wz at hol2 hG2 hO2 hB2 hC2 hM2 g2 hcx hBx ⊢;have hS:=And.intro g2 hcx;refine tkZ [11] 0 rfl hS ?_;try simp only [Act.put,zs1,zs2,zs3,zs4,zs5,zs6]
       refine tkZ [11] 1 rfl hS ?_;try simp only [Act.put,zs1,zs2,zs3,zs4,zs5,zs6]
       refine tkZ [11] 2 rfl hS ?_;try simp only [Act.put,zs1,zs2,zs3,zs4,zs5,zs6]
       refine tkZ [11] 3 rfl hS ?_;try simp only [Act.put,zs1,zs2,zs3,zs4,zs5,zs6]
       refine tkZ [11] 4 rfl hS ?_;try simp only [Act.put,zs1,zs2,zs3,zs4,zs5,zs6]
       refine tkZ [11] 5 rfl hS ?_;try simp only [Act.put,zs1,zs2,zs3,zs4,zs5,zs6]
       refine tkZ [11] 6 rfl hS ?_;try simp only [Act.put,zs1,zs2,zs3,zs4,zs5,zs6]
       refine tkZ [11] 7 rfl hS ?_;try simp only [Act.put,zs1,zs2,zs3,zs4,zs5,zs6]
       refine tkZ [11] 8 rfl hS ?_;try simp only [Act.put,zs1,zs2,zs3,zs4,zs5,zs6]
       have hP:=spec_l4Put Ae es ce ⟨(u:Int),(x:Int)+1,y⟩ wz _ _ hO2.rg (by rw [HL.out];omega);have hin:InG rn v ⟨(u:Int),(x:Int)+1,y⟩:=by simp only [InG];omega
       have hgP:=putE_gr HG.out hin (by rw [HL.out];omega);have hPl:=putE_len ⟨(u:Int),(x:Int)+1,y⟩ es;obtain ⟨P,hPe⟩:∃ P,putE ⟨(u:Int),(x:Int)+1,y⟩ es=P:=⟨_,rfl⟩
       rw [hPe,HL.out] at hP hPl;rw [hPe] at hgP;obtain ⟨L2,hL2⟩:∃ l,P.length=l:=⟨_,rfl⟩
       rw [hL2] at hP hPl;have HGP:=Lib.hid hgP;have HL2:=Lib.hid hL2;have hL3:L2≤5 * x+(u+1):=by omega
       have HP:Hid (Calls Tryz.prog 98 #[.slice Ae L ce,.agg #[.int .i64 (u:Int),.int .i64 ((x:Int)+1),.int .i64 y]] wz fun en w'=>∃ A' c',en=.returned (.slice A' L2 c')∧OG w' wz.heap.size w'.heap.size A' c' P∧Mid 0 0 wz w'):=Lib.hid hP;clear hP hin hgP hPl hPe hL2 hS;refine rdZ 9 rfl (fun K hK=>?_)
       (go_simp;(with_reducible refine (HP.out).mono ?_);rintro en wp ⟨A9,c9,rfl,oP,mP⟩;have hG9:=hG2.mid mP oZr;have hcx9:=cell_keep mP hBx oZr hcx;go_wp2_with fail)
       refine hK.out _ _ (Or.inr ⟨hG9.cell 2 rfl,hcx9⟩) (fun _=>?_);clear hK K;try simp only [Act.put,zs1,zs2,zs3,zs4,zs5,zs6]
       have hS9:=And.intro (hG9.cell 2 rfl) hcx9;refine tkZ [11] 10 rfl hS9 ?_;try simp only [Act.put,zs1,zs2,zs3,zs4,zs5,zs6]
       have hol9:=owns_mid hol2 mP oZl;have hB9:=hB2.mid mP oZr;have hC9:=hC2.mid mP (Or.inr rfl);have hM9:=hM2.trans mP.zero;have hzP:=mP.size;have hgz:=hG2.1;clear hol2 hG2 hO2 hB2 hC2 hM2 g2 hcx mP hcx9 hS9 HP hBx;have gl:=hG9.1;have gf:=hG9.2.2;have g2:=hG9.cell 2 rfl;have hst:=Mid.setCell wp (lo:=gb) (hi:=gb+1) (p:=⟨gb,2,none⟩) (.slice A9 L2 c9) (Nat.le_refl _) (Nat.lt_succ_self _);have hG10:=hG9.set 2 (.slice A9 L2 c9) (by simp) rfl;simp only [List.set_cons_succ,List.set_cons_zero] at hG10;have hol10:=owns_mid hol9 hst (Or.inl (Nat.le_refl _));have hO10:=(oP.mid hst (Or.inl (by omega))).wide (lo':=gb+1) (by omega) hst.size (Nat.le_refl _);have hB10:=hB9.mid hst (Or.inl (by omega));have hC10:=hC9.mid hst (Or.inl (by omega));have hM10:=hM9.transNew hst (Or.inl (by omega));clear hst hol9 hB9 hC9 hM9 oP hG9;refine rdZ 11 rfl (fun K hK=>?_);go_simp;refine hK.out _ _ (Or.inl (by simp)) (fun _=>?_);clear hK K;try simp only [Act.put,zs1,zs2,zs3,zs4,zs5,zs6]
       refine wpAnyZ_done (by kernel_rfl) ?_ _;generalize wp.setCell ⟨gb,2,none⟩ (.slice A9 L2 c9)=w11 at hG10 hol10 hO10 hB10 hC10 hM10 ⊢;clear gl gf g2 hzP hgz;have hcl:Lf≤cl:=by
        obtain ⟨A',c',hv,h1,h2⟩:=owns_shape hol10;injection hv with _ _ hc
        omega
       have hrs:=Rs.of_own hol10;have hmd:=Mid.drew1 w11;replace hG10:=hG10.mid hmd oZr;replace hB10:=hB10.mid hmd oZr;replace hO10:OG w11.drew (gb+1) w11.drew.heap.size A9 c9 P:=hO10.mid hmd oZl;replace hC10:=hC10.mid hmd (Or.inr rfl);replace hM10:=hM10.trans hmd.zero;replace hrs:Rs w11.drew w11.drew.heap.size (some ⟨b,off,none⟩) (ints left):=hrs;clear hmd hol10;go_wp2_with fail;refine wp_region_Z (S:=(fun _=>True)) [] (by kernel_rfl) trivial ?_;generalize World.drew w11=wz at hG10 hO10 hB10 hC10 hM10 hrs ⊢;have hgz:gb+1≤wz.heap.size:=hG10.1;have hkc:k≤cl:=by omega
       have hkL:k+1≤Lf:=by omega
       have ek1:IntKind.i64.wrap ((k:Int)+1)=(k:Int)+1:=IntWalk.i64_in _ (by omega);have ek2:(0:Int)≤(k:Int)+1:=by omega
       have ek3:((k:Int)+1).toNat=k+1:=by omega
       have ek4:(k:Int)+1≤(Lf:Int):=by omega
       have hlt1:(ints (left.take k)).length=k * 1:=by have:=HLL.out;rw [ints_len,List.length_take];omega
       have hlt2:(ints (left.drop (k+1))).length=(Lf - (k+1)) * 1:=by have:=HLL.out;rw [ints_len,List.length_drop];omega
       have hrs1:Rs wz wz.heap.size (some ⟨b,off,none⟩) (ints (left.take k)):=by rw [← ints_takeD];exact hrs.take k
       have hrs2:Rs wz wz.heap.size (if cl=k+1 then some ⟨b,off,none⟩ else some ⟨b,off+(k+1),none⟩) (ints (left.drop (k+1))):=by
        have:=hrs.drop (k:=k+1) (n:=Lf) (cap:=cl) 1 (by have:=HLL.out;rw [ints_len];omega) hcl;rw [Nat.mul_one,ints_drop] at this;have e:Option.map (fun x:Addr=>x.add (k+1)) (some (⟨b,off,none⟩:Addr))=some ⟨b,off+(k+1),none⟩:=rfl;rw [e] at this;exact this
       have hmx:0+k≤maxLen:=by unfold maxLen;omega
       have hby:(0+k) * 8≤140737488355328:=by omega
       have hmx2:k+(Lf - (k+1))≤maxLen:=by unfold maxLen;omega
       have hby2:(k+(Lf - (k+1))) * 8≤140737488355328:=by omega
       clear hrs;refine tkZ [] 1 rfl trivial ?_;try simp only [Act.put,zs1,zs2,zs3,zs4,zs5,zs6]
       refine tkZ [] 2 rfl trivial ?_;try simp only [Act.put,zs1,zs2,zs3,zs4,zs5,zs6]
       refine tkZ [] 3 rfl trivial ?_;try simp only [Act.put,zs1,zs2,zs3,zs4,zs5,zs6]
       refine tkZ [] 5 rfl trivial ?_;try simp only [Act.put,zs1,zs2,zs3,zs4,zs5,zs6]
       refine tkZ [] 6 rfl trivial ?_;try simp only [Act.put,zs1,zs2,zs3,zs4,zs5,zs6]
       refine tkZ [] 7 rfl trivial ?_;try simp only [Act.put,zs1,zs2,zs3,zs4,zs5,zs6]
       refine tkZ [] 8 rfl trivial ?_;try simp only [Act.put,zs1,zs2,zs3,zs4,zs5,zs6]
       refine rdZ 0 rfl (fun K hK=>?_);go_simp;refine hK.out _ _ (Or.inr trivial) (fun _=>?_);clear hK K;try simp only [Act.put,zs1,zs2,zs3,zs4,zs5,zs6]
       have hal:=Mid.alloc wz (.cells #[] 3);have e0:=owns_empty wz 3 1;have hrs1a:=hrs1.alloc (Nat.le_refl _) (.cells #[] 3);have hrs2a:=hrs2.alloc (Nat.le_refl _) (.cells #[] 3);have hsa:(wz.alloc (.cells #[] 3)).heap.size=wz.heap.size+1:=by simp
       generalize wz.alloc (.cells #[] 3)=wa at hal e0 hrs1a hrs2a hsa ⊢;have hsa2:wz.heap.size≤wa.heap.size:=by omega
       refine rdZ 4 rfl (fun K hK=>?_)
       (refine step_cat (by rfl) (.tmp 55) (.tmp 58) 34 (by rfl) wz.heap.size 3 (.int .i64 0) 1 8 undSI infoI rfl (by decide) _ 0 [] (by rfl) e0 (some ⟨b,off,none⟩) k cl _ (ints (left.take k)) (by rfl) hrs1a hlt1 (one_of_ints _) hmx hby hsa2 ?_;intro v4 w4 ho4 hgr4 hat4;obtain ⟨A4,c4,rfl, -, -⟩:=owns_shape ho4)
       refine hK.out _ _ (Or.inr trivial) (fun _=>?_);clear hK K;try simp only [Act.put,zs1,zs2,zs3,zs4,zs5,zs6]
       have m4:Mid wz.heap.size wa.heap.size wa w4:=Mid.of_grownRow e0 hgr4;have hm4:Mid 0 0 wz w4:=hal.transNew m4 (Or.inl (Nat.le_refl _));have hrs2b:Rs w4 wz.heap.size _ (ints (left.drop (k+1))):=hrs2a.keep fun q hq=>World.cell?_of_block (m4.block _ (by omega) (by omega));rw [Nat.zero_add,List.nil_append] at ho4;try rw [Nat.zero_add]
       clear hgr4 hat4 e0 hrs1a hrs2a hrs1 hrs2 hal m4;refine rdZ 9 rfl (fun K hK=>?_)
       (refine step_cat (by rfl) (.tmp 59) (.tmp 63) 34 (by rfl) wz.heap.size 3 (.int .i64 0) 1 8 undSI infoI rfl (by decide) (.slice A4 k c4) k _ (by rfl) ho4 _ (Lf - (k+1)) _ _ (ints (left.drop (k+1))) (by rfl) hrs2b hlt2 (one_of_ints _) hmx2 hby2 hm4.size ?_;intro v9 w9 ho9 hgr9 hat9;obtain ⟨A19,c19,rfl, -, -⟩:=owns_shape ho9)
       refine hK.out _ _ (Or.inr trivial) (fun _=>?_);clear hK K;try simp only [Act.put,zs1,zs2,zs3,zs4,zs5,zs6]
       have m9:Mid wz.heap.size w4.heap.size w4 w9:=Mid.of_grownRow ho4 hgr9;have hm9:Mid 0 0 wz w9:=hm4.transNew m9 (Or.inl (Nat.le_refl _));clear hgr9 hat9 hrs2b ho4 m9 hm4;refine tkZ [] 10 rfl trivial ?_;try simp only [Act.put,zs1,zs2,zs3,zs4,zs5,zs6]
       refine wpAnyZ_done (by kernel_rfl) ?_ _;have hbl9:=ho9;go_wp2_with fail;go_roundw
       case rel =>
        have hle:=HLL.out;have hdl:=dropAt_len hle hk;refine ⟨u+1,left.take k++left.drop (k+1),A19,c19,k+(Lf - (k+1)),P,A9,c9,L2,by go_num,by omega,rfl,Lib.hid (by omega),Lib.hid fun y hy=>HLB.out y (dropAt_mem hy),?_,HL2,by omega,HGP,hG10.mid hm9 oZr,(hO10.mid hm9 oZl).wide (Nat.le_refl _) hm9.size (Nat.le_refl _),hB10.mid hm9 oZr,hC10.mid hm9 (Or.inr rfl),hM10.trans hm9.zero⟩;rw [ints_append];exact owns_base ho9 hgz
       case measure=>simp [intOf];omega
      ·obtain rfl:u=v:=by omega
       go_wp2_with fail;go_roundw
       case rel=>exact ⟨x+1,es,Ae,ce,L,by go_num,by omega,HL,by omega,HG,hG,hO,hB,hC,hM⟩
       case measure=>simp [intOf];omega
  ·have hle:¬ ((x:Int)+1≤(rn:Int)):=by omega
   have hF:=spec_CoreGraph rn n Ae es ce wr _ _ hO.rg HG.out;have hD:=DrG.of_gr (coreA_gr (r:=(rn:Int)) (g:=((n:Int),es)) HG.out);obtain ⟨fs,hfs⟩:∃ y,(coreA (rn:Int) ((n:Int),es)).1=y:=⟨_,rfl⟩
   obtain ⟨fe,hfe⟩:∃ y,(coreA (rn:Int) ((n:Int),es)).2=y:=⟨_,rfl⟩
   rw [hfs,hfe] at hF hD;obtain ⟨L2,hL2⟩:∃ l,fe.length=l:=⟨_,rfl⟩
   rw [hL2,HL.out] at hF;have HL2:=Lib.hid hL2;have HD:=Lib.hid hD;have HF:Hid (Calls Tryz.prog 91 #[.agg #[.int .i64 rn,.int .i64 n,.slice Ae L ce]] wr fun e w'=>∃ A1 c1,e=.returned (.agg #[.int .i64 rn,.int .i64 fs,.slice A1 L2 c1])∧OG w' wr.heap.size w'.heap.size A1 c1 fe∧Mid 0 0 wr w'):=Lib.hid hF;clear hF hD hfs hfe hL2;go_wp2_with fail;with_reducible refine (HF.out).mono ?_
   rintro e w9 ⟨A1,c1,rfl,hO9,m9⟩;have B2:=hB.mid m9 oZr;have hC9:=hC.mid m9 (Or.inr rfl);have hM9:=hM.trans m9.zero;have hs9:=m9.size;clear hB hC hM hO hG m9 HF g0 g1 g2;have q0:=B2.cell 0 rfl;have q1:=B2.cell 1 rfl;have q2:=B2.cell 2 rfl;have qf:=B2.2.2;have ql:=B2.1;have hst:=((Mid.setCell w9 (lo:=w.heap.size) (hi:=w.heap.size+1) (p:=⟨w.heap.size,0,none⟩) (.int .i64 (rn:Int)) (Nat.le_refl _) (Nat.lt_succ_self _)).trans (Mid.setCell _ (lo:=w.heap.size) (hi:=w.heap.size+1) (p:=⟨w.heap.size,1,none⟩) (.int .i64 fs) (Nat.le_refl _) (Nat.lt_succ_self _))).trans (Mid.setCell _ (lo:=w.heap.size) (hi:=w.heap.size+1) (p:=⟨w.heap.size,2,none⟩) (.slice A1 L2 c1) (Nat.le_refl _) (Nat.lt_succ_self _));have O9:=Lib.hid ((hO9.mid hst (Or.inl (by omega))).wide (lo':=w.heap.size) (by omega) (Nat.le_trans hO9.size hst.size) (Nat.le_refl _));have C9:=Lib.hid (hC9.mid hst (Or.inl hpw));have M9:=Lib.hid (hM9.transNew hst (Or.inl (Nat.le_refl _)));clear hst hO9 hC9 hM9;go_wp2_with fail;refine bodyPost_ret (v:=.agg #[.int .i64 (rn:Int),.int .i64 fs,.slice A1 L2 c1]) (by simp [results,Tryz.results185,go_sem,q0,q1,q2,qf]) rfl ⟨(rn:Int),fs,A1,c1,fe,?_,HD.out,O9.out,C9.out,M9.out⟩;rw [HL2.out]
end
section
open Go.RowKit
def stepF (es:List Ed) (w:List Int) (x:Int):Bool:=okB w x && decide (0≤nextV es (rdA es 0 w).1 x)
def loopB (es:List Ed) (w:List Int):Bool:=decide ((rdA es 0 w).1=0)
def loopL (es:List Ed) (r n:Nat):List (List Int):=(pre (stepF es) (lets r) (n+1)).filter (loopB es)
theorem lay_read {r s:Int} {es:List Ed} (hf:IsFol r s es) (L:List Int):∀ (n:Nat) {v:List Int},v∈lay (stepF es) L n→Pa es 0 v (rdA es 0 v).1
 | 0,v,h=>by simp [lay] at h;subst h;rfl
 | n+1,v,h=>by
  obtain ⟨w,hw,x,hx,hfx,rfl⟩:=mem_layStep.1 h;have h1:=lay_read hf L n hw;unfold stepF at hfx;rw [Bool.and_eq_true] at hfx;have h2:=h1.snoc (sp_nextV (of_decide_eq_true hfx.2));rw [rdA_full hf h2];exact h2
theorem lay_go {r s:Int} {es:List Ed} (hf:IsFol r s es) {L:List Int} {n:Nat} {v:List Int} (h:v∈lay (stepF es) L n):goV es 0 v=some (rdA es 0 v).1:=(rdA_go es v 0 _).2 (rdA_full hf (lay_read hf L n h))
theorem lay_rd {es:List Ed} {r:Nat}:∀ (n:Nat) {v:List Int},v∈lay (stepF es) (lets r) n→Rd v
 | 0,v,h=>by simp [lay] at h;subst h;exact Rd.nil
 | n+1,v,h=>by
  obtain ⟨w,hw,x,hx,hfx,rfl⟩:=mem_layStep.1 h;refine (lay_rd n hw).snoc fun t a e ha=>?_;unfold stepF at hfx;rw [Bool.and_eq_true,e,okB_snoc] at hfx;have h1:=hfx.1;rw [ha] at h1;simp at h1
theorem mem_pre {f:List Int→Int→Bool} {L:List Int}:∀ {n:Nat} {v:List Int},v∈pre f L n→∃ k,k < n∧v∈lay f L k
 | 0,v,h=>by simp [pre] at h
 | n+1,v,h=>by
  rcases List.mem_append.1 h with h | h
  ·obtain ⟨k,hk,h⟩:=mem_pre h
   exact ⟨k,by omega,h⟩
  ·exact ⟨n,by omega,h⟩
theorem loopL_ok {r:Nat} {s:Int} {es:List Ed} (hf:IsFol r s es) {n:Nat} {w:List Int} (h:w∈loopL es r n):w.length≤n∧LtW w∧Rd w∧InS es w:=by
 obtain ⟨h1,h2⟩:=List.mem_filter.1 h;obtain ⟨k,hk,h3⟩:=mem_pre h1;have h4:=lay_read hf _ _ h3;have h5:=(pre_ok h1).1;rw [of_decide_eq_true h2] at h4;exact ⟨by omega,h4.lt hf.gr,lay_rd _ h3,InS.mk hf h4⟩
theorem loopL_len {r:Nat} (hr:r≤3) (es:List Ed) {n:Nat} (hn:n≤4):(loopL es r n).length≤38880:=by
 have h1:=List.length_filter_le (loopB es) (pre (stepF es) (lets r) (n+1));have h2:=pre_b (f:=stepF es) (L:=lets r) (by rw [lets_len];omega) (n:=n+1) (by omega);unfold loopL;omega
theorem spec_LoopWordsG (r n0 n:Nat) (A:Option Addr) (es:List Ed) (c:Nat) (w:World) (lo hi:Nat) (hr:RG w lo hi A es) (hfo:IsFol r n0 es) (hn:n≤4) :
  Calls Tryz.prog 214 #[graV r n0 A es.length c,.int .i64 0,.int .i64 n] w fun e w'=>∃ A1 c1,e=.returned (.slice A1 (loopL es r n).length c1)∧OSS w' w.heap.size w'.heap.size 34 3 A1 c1 (loopL es r n)∧Mid 0 0 w w':=by
 have hr1:1≤r:=by have:=hfo.gr.rank;omega
 have hr3:r≤3:=by have:=hfo.gr.rank;omega
 have hn1:1≤(n0:Int)∧(n0:Int)≤40:=hfo.gr.size;have hel:=hfo.gr.len;have HGL:=Lib.hid (show ∀ e∈es,1≤e.l∧e.l≤3 from fun e he=>by have h1:=hfo.gr.all e he;simp only [InG] at h1;omega);have hLL:(lets r).length≤6:=by rw [lets_len];omega
 have HLB:=Lib.hid (fun k (hk:k≤5)=>lay_b (f:=stepF es) hLL hk);have HPB:=Lib.hid (fun k (hk:k≤6)=>pre_b (f:=stepF es) hLL hk);have hm0:Mid 0 0 w ((w.alloc (.cells #[.int .i64 r,.int .i64 n0,.slice A es.length c] 26)).alloc (.cells #[] 34)):=(Mid.alloc _ _).trans (Mid.alloc _ _);have B0:=(Box.new w #[.int .i64 r,.int .i64 n0,.slice A es.length c] 26).mid (Mid.alloc _ (.cells #[] 34)) oZr;have O1:=Own1.empty (w.alloc (.cells #[.int .i64 r,.int .i64 n0,.slice A es.length c] 26));simp only [World.size_alloc] at O1;have hIF:=fun W h=>spec_IsFolded r n0 A es c W lo hi h (by omega) true (iff_of_true rfl hfo);have HIF:=Lib.hid hIF;have HFO:=Lib.hid hfo;clear hIF hfo;have hib:inB 0 0 ((n0:Int) - 1)=true:=by unfold inB;simp;omega
 have hib4:inB (n:Int) 0 4=true:=by unfold inB;simp;omega
 go_enter Tryz.func214,Tryz.ntmps214
 go_wp2_with fail;generalize (w.alloc (.cells #[.int .i64 r,.int .i64 n0,.slice A es.length c] 26)).alloc (.cells #[] 34)=w1 at hm0 B0 O1 ⊢;have hs1:w.heap.size+1 < w1.heap.size:=(O1.lt rfl).2;with_reducible refine (HIF.out _ (hr.mid hm0 oZl)).mono ?_
 rintro en w2 ⟨rfl,hm2⟩;have hs2:=hm2.size;replace O1:=O1.mid hm2;replace B0:=B0.mid hm2 oZr;replace hm0:=hm0.trans hm2;clear hm2;have p0:=B0.cell 0 rfl;have p1:=B0.cell 1 rfl;have p2:=B0.cell 2 rfl;have hw1:IntKind.i64.wrap ((n0:Int) - 1)=(n0:Int) - 1:=IntWalk.i64_in _ (by omega);go_wp2_with fail;with_reducible refine (l1In_at hib _).mono ?_
 rintro en w3 ⟨rfl,rfl⟩;have hb1:w.heap.size < w2.heap.size:=B0.1;have hb1':w.heap.size < w2.heap.size+1:=by omega
 have P0:=(owns_empty w2 3 1).alloc (.cells #[.slice (some ⟨w2.heap.size,0,none⟩) 0 0] 34);have P1:=owns_lit (w2.alloc (.cells #[] 3)) 34 (.slice (some ⟨w2.heap.size,0,none⟩) 0 0);simp only [World.size_alloc] at P1;have hsw:(w2.alloc (.cells #[] 3)).heap.size≤((w2.alloc (.cells #[] 3)).alloc (.cells #[.slice (some ⟨w2.heap.size,0,none⟩) 0 0] 34)).heap.size:=by simp
 have hL0:Own1 ((w2.alloc (.cells #[] 3)).alloc (.cells #[.slice (some ⟨w2.heap.size,0,none⟩) 0 0] 34)) w2.heap.size (some ⟨w2.heap.size+1,0,none⟩) 1 1 [⟨some ⟨w2.heap.size,0,none⟩,0,[]⟩] :=
  ⟨owns_base P1 (Nat.le_succ _),⟨fun r hr=>by rw [List.mem_singleton] at hr;subst hr;exact ⟨Nat.le_refl _,P0,fun g hg=>(P0.lt g hg).2⟩,by simp⟩⟩
 have hal:Mid 0 0 w2 ((w2.alloc (.cells #[] 3)).alloc (.cells #[.slice (some ⟨w2.heap.size,0,none⟩) 0 0] 34)):=(Mid.alloc _ _).trans (Mid.alloc _ _);go_wp2_with fail;with_reducible refine (l1In_at hib4 _).mono ?_
 rintro en w3 ⟨rfl,rfl⟩;go_wp2_with fail;generalize (w2.alloc (.cells #[] 3)).alloc (.cells #[.slice (some ⟨w2.heap.size,0,none⟩) 0 0] 34)=w3 at hL0 hal ⊢;replace O1:=O1.mid hal;replace B0:=B0.mid hal oZr;replace hm0:=hm0.trans hal;have hs3:=hal.size;have hap0:Apart (some ⟨w.heap.size+1,0,none⟩) 0 0 (some ⟨w2.heap.size+1,0,none⟩) 1 1:=fun g hg e=>by
  injection hg with hg
  injection e with e
  simp only at hg e;omega
 have HL0:=Lib.hid (hL0.base (show w.heap.size+1≤w2.heap.size by omega));have HO0:=Lib.hid O1;have HAP0:=Lib.hid hap0;have HD0:Hid (rowsD [(⟨some ⟨w2.heap.size,0,none⟩,0,[]⟩:Row)]=lay (stepF es) (lets r) 0):=Lib.hid rfl;generalize [(⟨some ⟨w2.heap.size,0,none⟩,0,[]⟩:Row)]=rowsL0 at HL0 HD0;clear O1 hL0 hap0 P0 P1 p0 p1 p2 hal hw1 hsw hb1';generalize (some (⟨w.heap.size+1,0,none⟩:Addr))=AO at HO0 HAP0 ⊢;generalize (some (⟨w2.heap.size+1,0,none⟩:Addr))=AL at HL0 HAP0 ⊢;with_reducible refine (spec_l5LettersO r _ (by omega)).mono ?_
 rintro en w4 ⟨A8,c8,rfl,hL8,hm4⟩;have hs4:=hm4.size;replace HO0:=Lib.hid (HO0.out.mid hm4);replace HL0:=Lib.hid (HL0.out.mid hm4);replace B0:=B0.mid hm4 oZr;replace hm0:=hm0.trans hm4;obtain ⟨LL,hLe⟩:∃ LL,(lets r).length=LL:=⟨_,rfl⟩
 rw [hLe] at hL8 ⊢;have hLL6:LL≤6:=by omega
 have hLpl:w.heap.size < w3.heap.size:=by omega
 have HLe:=Lib.hid hLe;have HLT:=Lib.hid hL8;generalize w3.heap.size=Lp at HLT hLpl;clear hL8 hm4 hLe;go_wp2_with fail;go_loopw [7,8,10] (fun ov lv nv wr=>∃ (k no nl:Nat) (rowsO rowsL:List Row) (A1 A2:Option Addr) (c1 c2:Nat),nv=.int .i64 k∧ov=.slice A1 no c1∧lv=.slice A2 nl c2∧Hid (k≤n+1)∧Hid (rowsD rowsO=(pre (stepF es) (lets r) k).filter (loopB es))∧Hid (rowsD rowsL=lay (stepF es) (lets r) k)∧Hid (Own1 wr (w.heap.size+1) A1 no c1 rowsO)∧Hid (Own1 wr (w.heap.size+1) A2 nl c2 rowsL)∧Hid (Apart A1 no c1 A2 nl c2)∧Hid (wr.ownsRow Lp 3 1 (.slice A8 LL c8) LL (ints (lets r)))∧Box wr w.heap.size [.int .i64 r,.int .i64 n0,.slice A es.length c]∧Mid 0 0 w wr) (fun _ _ nv _=>n+1 - (intOf nv).toNat)
 case atStart=>exact ⟨0,0,1,[],rowsL0,AO,AL,0,1,rfl,rfl,rfl,Lib.hid (Nat.zero_le _),Lib.hid rfl,HD0,HO0,HL0,HAP0,HLT,B0,hm0⟩
 case round =>
  clear HD0 HO0 HL0 HAP0 HLT B0 hm0;obtain ⟨wo,hwo⟩:∃ wo,wo=wr:=⟨_,rfl⟩
  subst hwo;obtain ⟨k,no,nl,rowsO,rowsL,A1,A2,c1,c2,rfl,rfl,rfl,HK,HDO,HDL,HO,HL,HAP,HLT,B0,hm⟩:=hrel;have hkn:=HK.out;by_cases hlt:k < n+1
  ·have d1:decide ((k:Int)≤(n:Int))=true:=by simp;omega
   have hk1:(k:Int)≤(n:Int):=by omega
   have hlb:nl≤7776:=by have h1:=HLB.out k (by omega);have h2:=HL.out.len;rw [← HDL.out,rowsD_len] at h1;omega
   have hob:no≤40000:=by have h1:=HPB.out k (by omega);have h2:=HO.out.len;have h3:=List.length_filter_le (loopB es) (pre (stepF es) (lets r) k);rw [← HDO.out,rowsD_len] at h3;omega
   have hws:w.heap.size+1≤wo.heap.size:=B0.1;have hal:=Mid.alloc wo (.cells #[] 34);have hN0:=(Own1.empty wo).base hws;have hapO:Apart A1 no c1 (some ⟨wo.heap.size,0,none⟩) 0 0:=fun g hg e=>by
    injection e with e
    have:=HO.out.lt hg;simp only at e;omega
   have hapL:Apart A2 nl c2 (some ⟨wo.heap.size,0,none⟩) 0 0:=fun g hg e=>by
    injection e with e
    have:=HL.out.lt hg;simp only at e;omega
   have HN1:=Lib.hid hN0;have HAPO:=Lib.hid hapO;have HAPL:=Lib.hid hapL;have HO1:=Lib.hid (HO.out.mid hal);have HL1:=Lib.hid (HL.out.mid hal);have HLT1:=Lib.hid (owns_mid HLT.out hal oZl);have B1:=B0.mid hal oZr;have hm1:=hm.trans hal;clear hN0 hapO hapL HO HL HLT B0;go_wp2_with fail;generalize wo.alloc (.cells #[] 34)=w5 at hal HN1 HO1 HL1 HLT1 B1 hm1 ⊢;generalize (some (⟨wo.heap.size,0,none⟩:Addr))=AN at HN1 HAPO HAPL ⊢;have HDN1:Hid (rowsD ([]:List Row)=layStep (stepF es) (lets r) ((lay (stepF es) (lets r) k).take 0)):=Lib.hid rfl;have HDO1:Hid (rowsD rowsO=(pre (stepF es) (lets r) k++(lay (stepF es) (lets r) k).take 0).filter (loopB es)):=Lib.hid (by rw [HDO.out];simp);clear hal HDO hm;go_loopw [7,11,12] (fun ov xv iv wr=>∃ (i no1 nn:Nat) (rowsO1 rowsN:List Row) (A3 A4:Option Addr) (c3 c4:Nat),iv=.int .i64 i∧ov=.slice A3 no1 c3∧xv=.slice A4 nn c4∧Hid (i≤nl)∧Hid (rowsD rowsO1=(pre (stepF es) (lets r) k++(lay (stepF es) (lets r) k).take i).filter (loopB es))∧Hid (rowsD rowsN=layStep (stepF es) (lets r) ((lay (stepF es) (lets r) k).take i))∧Hid (Own1 wr (w.heap.size+1) A3 no1 c3 rowsO1)∧Hid (Own1 wr (w.heap.size+1) A2 nl c2 rowsL)∧Hid (Own1 wr (w.heap.size+1) A4 nn c4 rowsN)∧Hid (Apart A3 no1 c3 A2 nl c2)∧Hid (Apart A3 no1 c3 A4 nn c4)∧Hid (Apart A2 nl c2 A4 nn c4)∧Hid (wr.ownsRow Lp 3 1 (.slice A8 LL c8) LL (ints (lets r)))∧Box wr w.heap.size [.int .i64 r,.int .i64 n0,.slice A es.length c]∧Mid 0 0 w wr) (fun _ _ iv _=>nl - (intOf iv).toNat)
   case atStart=>exact ⟨0,no,0,rowsO,[],A1,AN,c1,0,rfl,rfl,rfl,Lib.hid (Nat.zero_le _),HDO1,HDN1,HO1,HL1,HN1,HAP,HAPO,HAPL,HLT1,B1,hm1⟩
   case round =>
    clear HDO1 HDN1 HO1 HL1 HN1 HAP HAPO HAPL HLT1 B1 hm1 hws;obtain ⟨wp,hwp⟩:∃ wp,wp=wr:=⟨_,rfl⟩
    subst hwp;obtain ⟨i,no1,nn,rowsO1,rowsN,A3,A4,c3,c4,rfl,rfl,rfl,HI,HDO,HDN,HO,HL,HN,HAP,HAPO,HAPL,HLT,B0,hm⟩:=hrel;have hin:=HI.out;by_cases hlt2:i < nl
    ·obtain ⟨rr,hrr⟩:=get_of_lt rowsL (show i < rowsL.length by rw [HL.out.len];exact hlt2)
     have hxs:(lay (stepF es) (lets r) k)[i]?=some rr.xs:=by rw [← HDL.out];simp [rowsD,hrr]
     obtain ⟨b2,hA2,hb2l,hb2,hce,hrv,hcap⟩:=HL.out.row hrr;obtain ⟨hwk,hwl⟩:=lay_ok (List.mem_of_getElem? hxs);have HRR:=Lib.hid hrr;have HXS:=Lib.hid hxs;have HWL:=Lib.hid hwl;obtain ⟨Aw,cw,xw⟩:=rr;simp only [Row.v] at hce hrv hcap hwk hwl;simp only at HXS HWL;have hok:OkI xw:=fun x hx=>by have:=mem_lets.1 (hwl x hx);omega
     have hlay:=List.mem_of_getElem? hxs;have hgo:=lay_go HFO.out hlay;obtain ⟨u,hu⟩:∃ u,(rdA es 0 xw).1=u:=⟨_,rfl⟩
     rw [hu] at hgo;have HU:=Lib.hid hu;have hWW:Calls Tryz.prog 108 #[graV r n0 A es.length c,.int .i64 0,.slice Aw xw.length cw] wp fun e w'=>e=.returned (.tuple #[.int .i64 u,.bool true])∧Mid 0 0 wp w':=by
      have h1:=spec_WalkWord r n0 0 A es c Aw xw cw wp lo hi _ _ (hr.mid hm oZl) hrv HFO.out (by omega) (by omega) hok;refine Calls.mono h1 ?_;rintro e w' ⟨u2,b,rfl,h2,h3,h4⟩;have hgo':goV es ((0:Nat):Int) xw=some u:=hgo;cases b with
      | true =>
       have h5:=h2 rfl;rw [hgo'] at h5;injection h5 with h5
       subst h5;exact ⟨rfl,h4⟩
      | false =>
       have h5:=h3 rfl;rw [hgo'] at h5;cases h5
     clear hlay hu;rw [hwk] at hWW;have HWK:=Lib.hid hwk;have HRV:=Lib.hid hrv;have HGO:=Lib.hid hgo;have p0:=B0.cell 0 rfl;have p1:=B0.cell 1 rfl;have p2:=B0.cell 2 rfl;have hi0:(0:Int)≤(i:Int):=by omega
     have hi1:(i:Int) < (nl:Int):=by omega
     have hwc:w.heap.size < wp.heap.size:=B0.1;rw [hwk] at hce;have hHL:=HL;clear hrr hxs hwl hgo hok hrv;subst hA2;go_wp2_with fail;with_reducible refine hWW.mono ?_
     rintro en w6 ⟨rfl,hm6⟩;have hs6:=hm6.size;have HO6:=Lib.hid (HO.out.mid hm6);have HL6:=Lib.hid (HL.out.mid hm6);have HN6:=Lib.hid (HN.out.mid hm6);have HLT6:=Lib.hid (owns_mid HLT.out hm6 oZl);have hrv6:=HRV.out.mid hm6 oZl;have B6:=B0.mid hm6 oZr;replace hm:=hm.trans hm6;clear HO HL HN HLT HRV B0 hm6 p0 p1 p2 hHL hce hWW;obtain ⟨lb,hlb1⟩:∃ lb,loopB es xw=lb:=⟨_,rfl⟩
     have HLB1:=Lib.hid hlb1;have hue:(u == 0)=lb:=by
      rw [← hlb1];unfold loopB;rw [HU.out];by_cases h:u=0
      ·rw [beq_iff_eq.2 h,decide_eq_true h]
      ·rw [beq_eq_false_iff_ne.2 h,decide_eq_false h]
     clear hlb1;cases lb with
     | true =>
      have hoe:=owns_empty w6 3 1;have hal:=Mid.alloc w6 (.cells #[] 3);have hra:=(hrv6.mid hal oZl).rs;have hla:(ints xw).length=k * 1:=by rw [ints_len,hwk];omega
      go_wp2_with (at_builtin;refine wpList_cat rfl _ _ 34 rfl w6.heap.size 3 (.int .i64 0) 1 8 undSI infoI rfl (by decide) _ _ _ rfl hoe Aw k cw _ (ints xw) rfl hra hla (one_of_ints _) ?c4 ?c5 ?c6 ?next)
      case c4=>unfold maxLen;omega
      case c5=>omega
      case c6=>simp
      case next =>
      intro v7 w7 ho7 hgr7 hat7;obtain ⟨A7,c7,rfl, -, -⟩:=owns_shape ho7;try rw [Nat.zero_add,List.nil_append] at ho7
      try rw [Nat.zero_add]
      have hm7:Mid 0 0 w6 w7:=hal.transNew (Mid.of_grownRow hoe hgr7) (Or.inl (Nat.le_refl _));have hs7:=hm7.size;have HR7:Hid (w7.ownsRow w6.heap.size 3 1 (Row.v ⟨A7,c7,xw⟩) xw.length (ints xw)):=Lib.hid (by unfold Row.v;rw [hwk];exact ho7);have HU7:Hid (Row.v ⟨A7,c7,xw⟩=.slice A7 k c7):=Lib.hid (by unfold Row.v;rw [hwk]);clear ho7 hgr7 hat7 hoe hal hra hla;have hno1:no1≤50000:=by
       have h1:=HO6.out.len;have h2:=congrArg List.length HDO.out;have h3:=HPB.out k (by omega);have h4:=HLB.out k (by omega);rw [rowsD_len] at h2;have h5:=List.length_filter_le (loopB es) (pre (stepF es) (lets r) k++(lay (stepF es) (lets r) k).take i);rw [List.length_append,List.length_take] at h5;omega
      go_wp2_with (at_builtin;refine MarkerX.to ?_)
      unfold MarkerX;refine wpList_push1 rfl _ _ rfl rfl HO6.out hm7 ⟨A7,c7,xw⟩ (.slice A7 k c7) HU7.out HR7.out rfl (by omega) (by omega) ?_;intro A9 c9 w9 hO9 hgr9 hat9;have hO7:=HO6.out.mid hm7;have hL7:=HL6.out.mid hm7;have hN7:=HN6.out.mid hm7;have hLT7:=owns_mid HLT6.out hm7 oZl;have B7:=B6.mid hm7 oZr;have hm7':=hm.trans hm7;have hlo:∀ g,obS A3 no1 c3=some g→w.heap.size+1≤g:=fun g hg=>(hO7.lt hg).1;have HO9:=Lib.hid hO9;have HL9:=Lib.hid (hL7.other hO7 HAP.out.symm hgr9);have HN9:=Lib.hid (hN7.other hO7 HAPO.out.symm hgr9);have HLT9:=Lib.hid (hLT7.kept hgr9 (owns_ne hLT7 hO7.out (by decide)));have B9:=B7.grown hgr9 (by intro h0;have:=hlo _ h0;omega);have hm9:=hm7'.grownNew hgr9 (fun g hg=>by have:=hlo g hg;omega);have HAP9:=Lib.hid (HAP.out.push hat9 hL7);have HAPO9:=Lib.hid (HAPO.out.push hat9 hN7);have HDO9:Hid (rowsD (rowsO1++[(⟨A7,c7,xw⟩:Row)])=(pre (stepF es) (lets r) k++(lay (stepF es) (lets r) k).take (i+1)).filter (loopB es)):=Lib.hid (by
       obtain ⟨h1,h2⟩:=List.getElem?_eq_some_iff.1 HXS.out;rw [rowsD_append,HDO.out,List.take_succ_eq_append_getElem h1,h2,← List.append_assoc,List.filter_append (l₁:=pre (stepF es) (lets r) k++(lay (stepF es) (lets r) k).take i),List.filter_cons,if_pos HLB1.out]
       rfl)
      have HDN9:Hid (rowsD rowsN=layStep (stepF es) (lets r) ((lay (stepF es) (lets r) k).take i)++oneW (stepF es) ((lets r).take 0) xw):=Lib.hid (by rw [HDN.out];simp [oneW]);have HLS:=Lib.hid (layStep_take (f:=stepF es) (L:=lets r) HXS.out);have hs9:=hm9.size;clear hO9 hgr9 hat9 hO7 hL7 hN7 hLT7 B7 hm7' hlo HO6 HL6 HN6 HLT6 B6 HAP HAPO HDO HDN hm hm7 hrv6 HU7 HR7;go_wp2_with fail;go_loopw [11,16] (fun xv jv wr=>∃ (j nn1:Nat) (rowsN1:List Row) (A5:Option Addr) (c5:Nat),jv=.int .i64 j∧xv=.slice A5 nn1 c5∧Hid (j≤LL)∧Hid (rowsD rowsN1=layStep (stepF es) (lets r) ((lay (stepF es) (lets r) k).take i)++oneW (stepF es) ((lets r).take j) xw)∧Hid (Own1 wr (w.heap.size+1) A9 (no1+1) c9 (rowsO1++[(⟨A7,c7,xw⟩:Row)]))∧Hid (Own1 wr (w.heap.size+1) (some ⟨b2,0,none⟩) nl c2 rowsL)∧Hid (Own1 wr (w.heap.size+1) A5 nn1 c5 rowsN1)∧Hid (Apart A9 (no1+1) c9 A5 nn1 c5)∧Hid (Apart (some ⟨b2,0,none⟩) nl c2 A5 nn1 c5)∧Hid (wr.ownsRow Lp 3 1 (.slice A8 LL c8) LL (ints (lets r)))∧Box wr w.heap.size [.int .i64 r,.int .i64 n0,.slice A es.length c]∧Mid 0 0 w wr) (fun _ jv _=>LL - (intOf jv).toNat)
      case atStart=>exact ⟨0,nn,rowsN,A4,c4,rfl,rfl,Lib.hid (Nat.zero_le _),HDN9,HO9,HL9,HN9,HAPO9,HAPL,HLT9,B9,hm9⟩
      case round =>
       clear HDN9 HO9 HL9 HN9 HAPO9 HAPL HLT9 B9 hm9 hs9;obtain ⟨wq,hwq⟩:∃ wq,wq=wr:=⟨_,rfl⟩
       subst hwq;obtain ⟨j,nn1,rowsN1,A5,c5,rfl,rfl,HJ,HDN,HO,HL,HN,HAPO,HAPL,HLT,B0,hm⟩:=hrel;have hjl:=HJ.out;by_cases hlt3:j < LL
       ·obtain ⟨x,hx⟩:=get_of_lt (lets r) (show j < (lets r).length by rw [HLe.out];exact hlt3)
        have hxm:=mem_lets.1 (List.mem_of_getElem? hx);obtain ⟨nx,hnx⟩:∃ y,nextV es u x=y:=⟨_,rfl⟩
        have HNX:=Lib.hid hnx;have HX:=Lib.hid hx;obtain ⟨g8,hA8,hg8,hg8s⟩:=owns_addr HLT.out (show 0 < LL by omega);subst hA8;have hcx:wq.cell? ⟨g8,j,none⟩=some (.int .i64 x):=(HLT.out.cellAt j (by omega)).trans (by rw [ints_get,hx];rfl);have hj0:(0:Int)≤(j:Int):=by omega
        have hj1:(j:Int) < (LL:Int):=by omega
        have hrd:=HL.out.row HRR.out;obtain ⟨b2',hA2', -,hb2',hce',hrv',hcap'⟩:=hrd;simp only at hrv' hcap';have hA:=fun m os=>spec_NextVertex r n0 A es c u x (wg wq m os) lo hi (hr.mid (hm.trans (Mid.ofWg wq m os)) oZl) (by omega) HGL.out (by omega) (by omega);rw [hnx] at hA;have k0:=wg_cell B0.1 (B0.cell 0 rfl);have k1:=wg_cell B0.1 (B0.cell 1 rfl);have k2:=wg_cell B0.1 (B0.cell 2 rfl);have k4:=wg_cell hg8s hcx;have HCX:=Lib.hid hcx;clear hx hcx hce' hA2' hb2' hnx;rcases List.eq_nil_or_concat xw with hnil | ⟨ws,y,hcc⟩
        ·have hk0:k=0:=by have:=HWK.out;rw [hnil] at this;exact this.symm
         have hkb:((k:Int) == 0)=true:=by simp [hk0]
         have hokb:okB xw x=true:=by rw [hnil];rfl
         clear hnil hk0;obtain ⟨dd,hdd⟩:∃ dd,decide (0≤nx)=dd:=⟨_,rfl⟩
         have hokF:stepF es xw x=dd:=by unfold stepF;rw [hokb,HU.out,HNX.out,hdd];rfl
         clear hokb;cases dd with
         | false =>
          have HDN4:Hid (rowsD rowsN1=layStep (stepF es) (lets r) ((lay (stepF es) (lets r) k).take i)++oneW (stepF es) ((lets r).take (j+1)) xw):=Lib.hid (by rw [oneW_no HX.out hokF];exact HDN.out);clear hokF HDN;go_wp2_with fail;refine wp_region_quiet_wg (by kernel_rfl) (by kernel_rfl) ?_;repeat
           (with_reducible refine wpQuiet_step (fun K hK=>?_))
           go_simp
           first
            | ((with_reducible refine hK _ ?_);clear hK K)
            | (rw [if_neg (by decide)];(with_reducible refine hK _ ?_);clear hK K)
            | (apply Exists.intro;refine ⟨fun _=>?_,hK _ ?_⟩;((go_at_call 138;exact Calls.wg_of (hA _ _)));clear hK K)
          with_reducible refine wpQuiet_nil ?_
          intro _ hw';obtain ⟨⟨nq,osq⟩,hw''⟩:=hw';subst hw'';have hwg:=Mid.ofWg wq nq osq;generalize wg wq nq osq=wx at hwg ⊢;have HO2:=Lib.hid (HO.out.mid hwg);have HL2:=Lib.hid (HL.out.mid hwg);have HN2:=Lib.hid (HN.out.mid hwg);have HLT2:=Lib.hid (owns_mid HLT.out hwg oZl);have B2:=B0.mid hwg oZr;have hm2:=hm.trans hwg;clear HO HL HN HLT B0 hm hwg hrv' k0 k1 k2 k4 hA;go_wp2_with fail;go_roundw
          case rel=>exact ⟨j+1,nn1,rowsN1,A5,c5,by go_num,rfl,Lib.hid (by omega),HDN4,HO2,HL2,HN2,HAPO,HAPL,HLT2,B2,hm2⟩
          case measure=>simp [intOf];omega
         | true =>
          have hokb:=hokF;clear hokF;go_wp2_with fail;refine wp_region_quiet_wg (by kernel_rfl) (by kernel_rfl) ?_;repeat
           (with_reducible refine wpQuiet_step (fun K hK=>?_))
           go_simp
           first
            | ((with_reducible refine hK _ ?_);clear hK K)
            | (rw [if_neg (by decide)];(with_reducible refine hK _ ?_);clear hK K)
            | (apply Exists.intro;refine ⟨fun _=>?_,hK _ ?_⟩;((go_at_call 138;exact Calls.wg_of (hA _ _)));clear hK K)
          with_reducible refine wpQuiet_nil ?_
          intro _ hw';obtain ⟨⟨nq,osq⟩,hw''⟩:=hw';subst hw'';have hwg:=Mid.ofWg wq nq osq;generalize wg wq nq osq=wx at hwg ⊢;have hmz:=hwg.trans (Mid.drew1 wx);have hsz:=hmz.size;have HO2:=Lib.hid (HO.out.mid hmz);have HL2:=Lib.hid (HL.out.mid hmz);have HN2:=Lib.hid (HN.out.mid hmz);have HLT2:=Lib.hid (owns_mid HLT.out hmz oZl);have B2:=B0.mid hmz oZr;have hm2:=hm.trans hmz;have hrv2:=hrv'.mid hmz oZl;have kz:=cell_keep hmz hg8s oZr HCX.out;have hg8z:g8 < (World.drew wx).heap.size:=Nat.lt_of_lt_of_le hg8s hsz;have hlw:w.heap.size < wq.heap.size:=B0.1;have hlwz:w.heap.size+1≤(World.drew wx).heap.size:=Nat.le_trans hlw hsz;have hla:(ints xw).length=k * 1:=by rw [ints_len,HWK.out];omega
          have hnn:nn1≤1048576:=by
           have h1:=HN.out.len;have h2:=congrArg List.length HDN.out;have h4:=layStep_len (f:=stepF es) (L:=lets r) ((lay (stepF es) (lets r) k).take i);have h5:((lay (stepF es) (lets r) k).take i).length≤1296:=by
            have h6:=lay_len (f:=stepF es) hLL k;have h7:6 ^ k≤6 ^ 4:=Nat.pow_le_pow_right (by omega) (by omega);rw [List.length_take];omega
           have h8:((lay (stepF es) (lets r) k).take i).length * (lets r).length≤1296 * 6:=Nat.mul_le_mul h5 hLL;have h9:=oneW_len (f:=stepF es) (L:=(lets r).take j) xw;have h10:((lets r).take j).length≤6:=by rw [List.length_take];omega
           rw [rowsD_len,List.length_append] at h2;omega
          have hone1:∀ u∈[Value.int .i64 x],u.oneCell'=true:=by
           intro u hu;simp at hu;subst hu
           rfl
          have hmx:k+1≤maxLen:=by unfold maxLen;omega
          have hby:(k+1) * 8≤140737488355328:=by omega
          have hmx3:0+k≤maxLen:=by unfold maxLen;omega
          have hby3:(0+k) * 8≤140737488355328:=by omega
          have HDN4:Hid (∀ R:Row,R.xs=xw++[x]→rowsD (rowsN1++[R])=layStep (stepF es) (lets r) ((lay (stepF es) (lets r) k).take i)++oneW (stepF es) ((lets r).take (j+1)) xw):=Lib.hid (by
           intro R hR;rw [oneW_yes HX.out hokb,rowsD_append,HDN.out];simp [rowsD,hR])
          clear HO HL HN HLT B0 hm hrv' hwg hsz hlw hokb HDN k0 k1 k2 k4 hA hg8s;go_wp2_with fail;refine wp_region_Z (S:=(fun w'=>w'.cell? ⟨g8,j,none⟩=some (.int .i64 x))) [11,12] (by kernel_rfl) kz ?_;generalize World.drew wx=wz at HO2 HL2 HN2 HLT2 B2 hm2 hrv2 kz hg8z hlwz hmz ⊢;refine tkZ [11,12] 0 rfl kz ?_;try simp only [Act.put,zs1,zs2,zs3,zs4,zs5,zs6]
          refine tkZ [3,9,10,11,12] 2 rfl kz ?_;try simp only [Act.put,zs1,zs2,zs3,zs4,zs5,zs6]
          refine tkZ [6,7,8,9,10,11,12] 4 rfl kz ?_;try simp only [Act.put,zs1,zs2,zs3,zs4,zs5,zs6]
          refine tkZ [6,7,8,9,10,11,12] 5 rfl kz ?_;try simp only [Act.put,zs1,zs2,zs3,zs4,zs5,zs6]
          refine tkZ [7,8,9,10,11,12] 6 rfl kz ?_;try simp only [Act.put,zs1,zs2,zs3,zs4,zs5,zs6]
          refine tkZ [8,9,10,11,12] 7 rfl kz ?_;try simp only [Act.put,zs1,zs2,zs3,zs4,zs5,zs6]
          refine wpAnyZ_ready (rs:=[1,8]) (by kernel_rfl) (by simp) (AllReadyZ.cons rfl (fun K hK=>?_) (AllReadyZ.cons rfl (fun K hK=>?_) AllReadyZ.nil))
          ·go_simp
           refine hK.out _ _ (Or.inr (cell_keep (Mid.alloc wz (.cells #[] 3)) hg8z oZr kz)) (fun _=>?_);clear hK K;try simp only [Act.put,zs1,zs2,zs3,zs4,zs5,zs6]
           have hal1:=Mid.alloc wz (.cells #[] 3);have e1:=owns_empty wz 3 1;have hr1:=hrv2.mid hal1 oZl;have k1:=cell_keep hal1 hg8z oZr kz;have hs1:(wz.alloc (.cells #[] 3)).heap.size=wz.heap.size+1:=by simp
           generalize wz.alloc (.cells #[] 3)=wa at hal1 e1 hr1 k1 hs1 ⊢;have hg8a:g8 < wa.heap.size:=by omega
           have hbs3:wz.heap.size≤wa.heap.size:=by omega
           have hlt1:wz.heap.size < wa.heap.size:=by omega
           clear hs1;refine wpAnyZ_ready (rs:=[3,8]) (by kernel_rfl) (by simp) (AllReadyZ.cons rfl (fun K hK=>?_) (AllReadyZ.cons rfl (fun K hK=>?_) AllReadyZ.nil))
           ·(refine step_cat (by rfl) (.tmp 106) (.tmp 107) 34 (by rfl) wz.heap.size 3 (.int .i64 0) 1 8 undSI infoI rfl (by decide) _ 0 _ (by rfl) e1 Aw k cw _ (ints xw) (by rfl) hr1.rs hla (one_of_ints _) hmx3 hby3 hbs3 ?_;intro v3 w3 ho3 hgr3 hat3;obtain ⟨A3x,c3x,rfl, -, -⟩:=owns_shape ho3)
            refine hK.out _ _ (Or.inr (cell_keep (Mid.of_grownRow e1 hgr3) hg8a (Or.inl hg8z) k1)) (fun _=>?_);clear hK K;try simp only [Act.put,zs1,zs2,zs3,zs4,zs5,zs6]
            try rw [Nat.zero_add,List.nil_append] at ho3
            try rw [Nat.zero_add]
            have k3:=cell_keep (Mid.of_grownRow e1 hgr3) hg8a (Or.inl hg8z) k1;have hm3:=hal1.transNew (Mid.of_grownRow e1 hgr3) (Or.inl (Nat.le_refl _));have hg83:g8 < w3.heap.size:=Nat.lt_of_lt_of_le hg8z hm3.size;clear hal1 e1 hr1 k1 hgr3 hat3 hbs3;refine rdZ 8 rfl (fun K hK=>?_);go_simp;refine hK.out _ _ (Or.inr (cell_keep (Mid.alloc w3 (.cells #[.int .i64 x] 3)) hg83 oZr k3)) (fun _=>?_);clear hK K;try simp only [Act.put,zs1,zs2,zs3,zs4,zs5,zs6]
            have hal8:=Mid.alloc w3 (.cells #[.int .i64 x] 3);have kc:=cell_keep hal8 hg83 oZr k3;have hmc:=hm3.trans hal8;have hrow:=ho3.alloc (.cells #[.int .i64 x] 3);have hone:=rs_one (w:=w3.alloc (.cells #[.int .i64 x] 3)) (p:=w3.heap.size) (v:=.int .i64 x) (World.cell?_alloc_at _ _ _ _ rfl);generalize w3.alloc (.cells #[.int .i64 x] 3)=wc at hal8 kc hmc hrow hone ⊢;clear hal8 ho3 hm3 k3;have hg8c:g8 < wc.heap.size:=Nat.lt_of_lt_of_le hg8z hmc.size;refine rdZ 9 rfl (fun K hK=>?_)
            (refine step_cat (by rfl) (.tmp 108) (.tmp 113) 34 (by rfl) wz.heap.size 3 (.int .i64 0) 1 8 undSI infoI rfl (by decide) (.slice A3x k c3x) k _ (by rfl) hrow (some ⟨w3.heap.size,0,none⟩) 1 1 _ [.int .i64 x] (by rfl) hone rfl hone1 hmx hby hmc.size ?_;intro v9 w9 ho9 hgr9 hat9;obtain ⟨A9x,c9x,rfl, -, -⟩:=owns_shape ho9)
            refine hK.out _ _ (Or.inr (cell_keep (Mid.of_grownRow hrow hgr9) hg8c (Or.inl hg8z) kc)) (fun _=>?_);clear hK K;try simp only [Act.put,zs1,zs2,zs3,zs4,zs5,zs6]
            have k9:=cell_keep (Mid.of_grownRow hrow hgr9) hg8c (Or.inl hg8z) kc;have hm9:=hmc.transNew (Mid.of_grownRow hrow hgr9) (Or.inl (Nat.le_refl _));have hg89:g8 < w9.heap.size:=Nat.lt_of_lt_of_le hg8z hm9.size;have hrow9:w9.ownsRow wz.heap.size 3 1 (Row.v ⟨A9x,c9x,xw++[x]⟩) (xw++[x]).length (ints (xw++[x])):=pushE (by rw [ints_append];exact ho9) HWK.out;have hu9:Row.v ⟨A9x,c9x,xw++[x]⟩=.slice A9x (k+1) c9x:=by simp only [Row.v,List.length_append,HWK.out,List.length_singleton]
            clear ho9 hgr9 hat9 hrow hone hmc kc;refine rdZ 10 rfl (fun K hK=>?_);go_simp;refine hK.out _ _ (Or.inr (cell_keep (Mid.alloc w9 (.cells #[.slice A9x (k+1) c9x] 34)) hg89 oZr k9)) (fun _=>?_);clear hK K;try simp only [Act.put,zs1,zs2,zs3,zs4,zs5,zs6]
            refine rdZ 11 rfl (fun K hK=>?_)
            (refine step_push1 (by rfl) (.tmp 105) (.tmp 115) (by rfl) (by rfl) HN2.out hm9 ⟨A9x,c9x,xw++[x]⟩ (.slice A9x (k+1) c9x) hu9 hrow9 (by rfl) hnn hlwz ?_;intro A11 c11 w11 hN11 hgr11 hat11)
            refine hK.out _ _ (Or.inl (by simp)) (fun _=>?_);clear hK K;try simp only [Act.put,zs1,zs2,zs3,zs4,zs5,zs6]
            have hO9:=HO2.out.mid hm9;have hL9:=HL2.out.mid hm9;have hN9:=HN2.out.mid hm9;have hLT9:=owns_mid HLT2.out hm9 oZl;have B9:=B2.mid hm9 oZr;have hm9':=hm2.trans hm9;have hlo:∀ g,obS A5 nn1 c5=some g→w.heap.size+1≤g:=fun g hg=>(hN9.lt hg).1;have HO11:=Lib.hid (hO9.other hN9 HAPO.out hgr11);have HL11:=Lib.hid (hL9.other hN9 HAPL.out hgr11);have HN11:=Lib.hid hN11;have HLT11:=Lib.hid (hLT9.kept hgr11 (owns_ne hLT9 hN9.out (by decide)));have B11:=B9.grown hgr11 (by intro h0;have:=hlo _ h0;omega);have hm11:=hm9'.grownNew hgr11 (fun g hg=>by have:=hlo g hg;omega);have HAPO11:=Lib.hid ((HAPO.out.symm.push hat11 hO9).symm);have HAPL11:=Lib.hid ((HAPL.out.symm.push hat11 hL9).symm);have HDN11:=Lib.hid (HDN4.out ⟨A9x,c9x,xw++[x]⟩ rfl);clear hN11 hgr11 hat11 hO9 hL9 hN9 hLT9 B9 hm9' hlo HO2 HL2 HN2 HLT2 B2 hm2 hm9 hmz HAPO HAPL HDN4 hrow9 hu9 hrv2 kz k9;refine rdZ 12 rfl (fun K hK=>?_);go_simp;refine hK.out _ _ (Or.inl (by simp)) (fun _=>?_);clear hK K;try simp only [Act.put,zs1,zs2,zs3,zs4,zs5,zs6]
            refine wpAnyZ_done (by kernel_rfl) ?_ _;go_wp2_with fail;go_roundw
            case rel=>exact ⟨j+1,nn1+1,_,A11,c11,by go_num,rfl,Lib.hid (by omega),HDN11,HO11,HL11,HN11,HAPO11,HAPL11,HLT11,B11,hm11⟩
            case measure=>simp [intOf];omega
           ·go_simp
            refine hK.out _ _ (Or.inr (cell_keep (Mid.alloc wa (.cells #[.int .i64 x] 3)) hg8a oZr k1)) (fun _=>?_);clear hK K;try simp only [Act.put,zs1,zs2,zs3,zs4,zs5,zs6]
            have hal8:=Mid.alloc wa (.cells #[.int .i64 x] 3);have k8:=cell_keep hal8 hg8a oZr k1;have hm8:=hal1.trans hal8;replace e1:=e1.alloc (.cells #[.int .i64 x] 3);replace hr1:=hr1.mid hal8 oZl;have c8:(wa.alloc (.cells #[.int .i64 x] 3)).cell? ⟨wa.heap.size,0,none⟩=some (.int .i64 x):=World.cell?_alloc_at _ _ _ _ rfl;have hs8:(wa.alloc (.cells #[.int .i64 x] 3)).heap.size=wa.heap.size+1:=by simp
            generalize wa.alloc (.cells #[.int .i64 x] 3)=w8 at hal8 k8 hm8 e1 hr1 c8 hs8 ⊢;have hg88:g8 < w8.heap.size:=by omega
            replace hbs3:wz.heap.size≤w8.heap.size:=by omega
            have hlt8:wa.heap.size < w8.heap.size:=by omega
            clear k1 hal1 hal8 hs8;refine rdZ 3 rfl (fun K hK=>?_)
            (refine step_cat (by rfl) (.tmp 106) (.tmp 107) 34 (by rfl) wz.heap.size 3 (.int .i64 0) 1 8 undSI infoI rfl (by decide) _ 0 _ (by rfl) e1 Aw k cw _ (ints xw) (by rfl) hr1.rs hla (one_of_ints _) hmx3 hby3 hbs3 ?_;intro v3 w3 ho3 hgr3 hat3;obtain ⟨A3x,c3x,rfl, -, -⟩:=owns_shape ho3)
            refine hK.out _ _ (Or.inr (cell_keep (Mid.of_grownRow e1 hgr3) hg88 (Or.inl hg8z) k8)) (fun _=>?_);clear hK K;try simp only [Act.put,zs1,zs2,zs3,zs4,zs5,zs6]
            try rw [Nat.zero_add,List.nil_append] at ho3
            try rw [Nat.zero_add]
            have kc:=cell_keep (Mid.of_grownRow e1 hgr3) hg88 (Or.inl hg8z) k8;have hmc:=hm8.transNew (Mid.of_grownRow e1 hgr3) (Or.inl (Nat.le_refl _));have hrow:=ho3;have hone:=rs_one (cell_grown hgr3 (show wa.heap.size < w8.heap.size by omega) (own_ne (by omega)) c8);generalize w3=wc at kc hmc hrow hone ⊢;clear hm8 k8 e1 hr1 c8 hgr3 hat3 ho3;have hg8c:g8 < wc.heap.size:=Nat.lt_of_lt_of_le hg8z hmc.size;refine rdZ 9 rfl (fun K hK=>?_)
            (refine step_cat (by rfl) (.tmp 108) (.tmp 113) 34 (by rfl) wz.heap.size 3 (.int .i64 0) 1 8 undSI infoI rfl (by decide) (.slice A3x k c3x) k _ (by rfl) hrow (some ⟨wa.heap.size,0,none⟩) 1 1 _ [.int .i64 x] (by rfl) hone rfl hone1 hmx hby hmc.size ?_;intro v9 w9 ho9 hgr9 hat9;obtain ⟨A9x,c9x,rfl, -, -⟩:=owns_shape ho9)
            refine hK.out _ _ (Or.inr (cell_keep (Mid.of_grownRow hrow hgr9) hg8c (Or.inl hg8z) kc)) (fun _=>?_);clear hK K;try simp only [Act.put,zs1,zs2,zs3,zs4,zs5,zs6]
            have k9:=cell_keep (Mid.of_grownRow hrow hgr9) hg8c (Or.inl hg8z) kc;have hm9:=hmc.transNew (Mid.of_grownRow hrow hgr9) (Or.inl (Nat.le_refl _));have hg89:g8 < w9.heap.size:=Nat.lt_of_lt_of_le hg8z hm9.size;have hrow9:w9.ownsRow wz.heap.size 3 1 (Row.v ⟨A9x,c9x,xw++[x]⟩) (xw++[x]).length (ints (xw++[x])):=pushE (by rw [ints_append];exact ho9) HWK.out;have hu9:Row.v ⟨A9x,c9x,xw++[x]⟩=.slice A9x (k+1) c9x:=by simp only [Row.v,List.length_append,HWK.out,List.length_singleton]
            clear ho9 hgr9 hat9 hrow hone hmc kc;refine rdZ 10 rfl (fun K hK=>?_);go_simp;refine hK.out _ _ (Or.inr (cell_keep (Mid.alloc w9 (.cells #[.slice A9x (k+1) c9x] 34)) hg89 oZr k9)) (fun _=>?_);clear hK K;try simp only [Act.put,zs1,zs2,zs3,zs4,zs5,zs6]
            refine rdZ 11 rfl (fun K hK=>?_)
            (refine step_push1 (by rfl) (.tmp 105) (.tmp 115) (by rfl) (by rfl) HN2.out hm9 ⟨A9x,c9x,xw++[x]⟩ (.slice A9x (k+1) c9x) hu9 hrow9 (by rfl) hnn hlwz ?_;intro A11 c11 w11 hN11 hgr11 hat11)
            refine hK.out _ _ (Or.inl (by simp)) (fun _=>?_);clear hK K;try simp only [Act.put,zs1,zs2,zs3,zs4,zs5,zs6]
            have hO9:=HO2.out.mid hm9;have hL9:=HL2.out.mid hm9;have hN9:=HN2.out.mid hm9;have hLT9:=owns_mid HLT2.out hm9 oZl;have B9:=B2.mid hm9 oZr;have hm9':=hm2.trans hm9;have hlo:∀ g,obS A5 nn1 c5=some g→w.heap.size+1≤g:=fun g hg=>(hN9.lt hg).1;have HO11:=Lib.hid (hO9.other hN9 HAPO.out hgr11);have HL11:=Lib.hid (hL9.other hN9 HAPL.out hgr11);have HN11:=Lib.hid hN11;have HLT11:=Lib.hid (hLT9.kept hgr11 (owns_ne hLT9 hN9.out (by decide)));have B11:=B9.grown hgr11 (by intro h0;have:=hlo _ h0;omega);have hm11:=hm9'.grownNew hgr11 (fun g hg=>by have:=hlo g hg;omega);have HAPO11:=Lib.hid ((HAPO.out.symm.push hat11 hO9).symm);have HAPL11:=Lib.hid ((HAPL.out.symm.push hat11 hL9).symm);have HDN11:=Lib.hid (HDN4.out ⟨A9x,c9x,xw++[x]⟩ rfl);clear hN11 hgr11 hat11 hO9 hL9 hN9 hLT9 B9 hm9' hlo HO2 HL2 HN2 HLT2 B2 hm2 hm9 hmz HAPO HAPL HDN4 hrow9 hu9 hrv2 kz k9;refine rdZ 12 rfl (fun K hK=>?_);go_simp;refine hK.out _ _ (Or.inl (by simp)) (fun _=>?_);clear hK K;try simp only [Act.put,zs1,zs2,zs3,zs4,zs5,zs6]
            refine wpAnyZ_done (by kernel_rfl) ?_ _;go_wp2_with fail;go_roundw
            case rel=>exact ⟨j+1,nn1+1,_,A11,c11,by go_num,rfl,Lib.hid (by omega),HDN11,HO11,HL11,HN11,HAPO11,HAPL11,HLT11,B11,hm11⟩
            case measure=>simp [intOf];omega
          ·go_simp
           refine hK.out _ _ (Or.inr (cell_keep (Mid.alloc wz (.cells #[.int .i64 x] 3)) hg8z oZr kz)) (fun _=>?_);clear hK K;try simp only [Act.put,zs1,zs2,zs3,zs4,zs5,zs6]
           have hal8:=Mid.alloc wz (.cells #[.int .i64 x] 3);have k8:=cell_keep hal8 hg8z oZr kz;have hr8:=hrv2.mid hal8 oZl;have c8:(wz.alloc (.cells #[.int .i64 x] 3)).cell? ⟨wz.heap.size,0,none⟩=some (.int .i64 x):=World.cell?_alloc_at _ _ _ _ rfl;have hs8:(wz.alloc (.cells #[.int .i64 x] 3)).heap.size=wz.heap.size+1:=by simp
           generalize wz.alloc (.cells #[.int .i64 x] 3)=w8 at hal8 k8 hr8 c8 hs8 ⊢;have hg88:g8 < w8.heap.size:=by omega
           have hlt8:wz.heap.size < w8.heap.size:=by omega
           clear hs8;refine rdZ 1 rfl (fun K hK=>?_);go_simp;refine hK.out _ _ (Or.inr (cell_keep (Mid.alloc w8 (.cells #[] 3)) hg88 oZr k8)) (fun _=>?_);clear hK K;try simp only [Act.put,zs1,zs2,zs3,zs4,zs5,zs6]
           have hal1:=Mid.alloc w8 (.cells #[] 3);have e1:=owns_empty w8 3 1;have hr1:=hr8.mid hal1 oZl;have c1:=cell_keep hal1 (show wz.heap.size < w8.heap.size by omega) oZr c8;have k1:=cell_keep hal1 hg88 oZr k8;have hm1':=hal8.trans hal1;have hs1:(w8.alloc (.cells #[] 3)).heap.size=w8.heap.size+1:=by simp
           generalize w8.alloc (.cells #[] 3)=wa at hal1 e1 hr1 c1 k1 hm1' hs1 ⊢;have hg8a:g8 < wa.heap.size:=by omega
           have hbs3:w8.heap.size≤wa.heap.size:=by omega
           have hlt1:w8.heap.size < wa.heap.size:=by omega
           clear hal8 hal1 k8 hr8 c8 hs1;refine rdZ 3 rfl (fun K hK=>?_)
           (refine step_cat (by rfl) (.tmp 106) (.tmp 107) 34 (by rfl) w8.heap.size 3 (.int .i64 0) 1 8 undSI infoI rfl (by decide) _ 0 _ (by rfl) e1 Aw k cw _ (ints xw) (by rfl) hr1.rs hla (one_of_ints _) hmx3 hby3 hbs3 ?_;intro v3 w3 ho3 hgr3 hat3;obtain ⟨A3x,c3x,rfl, -, -⟩:=owns_shape ho3)
           refine hK.out _ _ (Or.inr (cell_keep (Mid.of_grownRow e1 hgr3) hg8a (Or.inl hg88) k1)) (fun _=>?_);clear hK K;try simp only [Act.put,zs1,zs2,zs3,zs4,zs5,zs6]
           try rw [Nat.zero_add,List.nil_append] at ho3
           try rw [Nat.zero_add]
           have kc:=cell_keep (Mid.of_grownRow e1 hgr3) hg8a (Or.inl hg88) k1;have hmc:=hm1'.transNew (Mid.of_grownRow e1 hgr3) (Or.inl (by omega));have hrow:=owns_base ho3 (show wz.heap.size≤w8.heap.size by omega);have hone:=rs_one (cell_grown hgr3 (show wz.heap.size < wa.heap.size by omega) (own_ne (by omega)) c1);generalize w3=wc at kc hmc hrow hone ⊢;clear e1 hr1 c1 k1 hm1' hgr3 hat3 ho3;have hg8c:g8 < wc.heap.size:=Nat.lt_of_lt_of_le hg8z hmc.size;refine rdZ 9 rfl (fun K hK=>?_)
           (refine step_cat (by rfl) (.tmp 108) (.tmp 113) 34 (by rfl) wz.heap.size 3 (.int .i64 0) 1 8 undSI infoI rfl (by decide) (.slice A3x k c3x) k _ (by rfl) hrow (some ⟨wz.heap.size,0,none⟩) 1 1 _ [.int .i64 x] (by rfl) hone rfl hone1 hmx hby hmc.size ?_;intro v9 w9 ho9 hgr9 hat9;obtain ⟨A9x,c9x,rfl, -, -⟩:=owns_shape ho9)
           refine hK.out _ _ (Or.inr (cell_keep (Mid.of_grownRow hrow hgr9) hg8c (Or.inl hg8z) kc)) (fun _=>?_);clear hK K;try simp only [Act.put,zs1,zs2,zs3,zs4,zs5,zs6]
           have k9:=cell_keep (Mid.of_grownRow hrow hgr9) hg8c (Or.inl hg8z) kc;have hm9:=hmc.transNew (Mid.of_grownRow hrow hgr9) (Or.inl (Nat.le_refl _));have hg89:g8 < w9.heap.size:=Nat.lt_of_lt_of_le hg8z hm9.size;have hrow9:w9.ownsRow wz.heap.size 3 1 (Row.v ⟨A9x,c9x,xw++[x]⟩) (xw++[x]).length (ints (xw++[x])):=pushE (by rw [ints_append];exact ho9) HWK.out;have hu9:Row.v ⟨A9x,c9x,xw++[x]⟩=.slice A9x (k+1) c9x:=by simp only [Row.v,List.length_append,HWK.out,List.length_singleton]
           clear ho9 hgr9 hat9 hrow hone hmc kc;refine rdZ 10 rfl (fun K hK=>?_);go_simp;refine hK.out _ _ (Or.inr (cell_keep (Mid.alloc w9 (.cells #[.slice A9x (k+1) c9x] 34)) hg89 oZr k9)) (fun _=>?_);clear hK K;try simp only [Act.put,zs1,zs2,zs3,zs4,zs5,zs6]
           refine rdZ 11 rfl (fun K hK=>?_)
           (refine step_push1 (by rfl) (.tmp 105) (.tmp 115) (by rfl) (by rfl) HN2.out hm9 ⟨A9x,c9x,xw++[x]⟩ (.slice A9x (k+1) c9x) hu9 hrow9 (by rfl) hnn hlwz ?_;intro A11 c11 w11 hN11 hgr11 hat11)
           refine hK.out _ _ (Or.inl (by simp)) (fun _=>?_);clear hK K;try simp only [Act.put,zs1,zs2,zs3,zs4,zs5,zs6]
           have hO9:=HO2.out.mid hm9;have hL9:=HL2.out.mid hm9;have hN9:=HN2.out.mid hm9;have hLT9:=owns_mid HLT2.out hm9 oZl;have B9:=B2.mid hm9 oZr;have hm9':=hm2.trans hm9;have hlo:∀ g,obS A5 nn1 c5=some g→w.heap.size+1≤g:=fun g hg=>(hN9.lt hg).1;have HO11:=Lib.hid (hO9.other hN9 HAPO.out hgr11);have HL11:=Lib.hid (hL9.other hN9 HAPL.out hgr11);have HN11:=Lib.hid hN11;have HLT11:=Lib.hid (hLT9.kept hgr11 (owns_ne hLT9 hN9.out (by decide)));have B11:=B9.grown hgr11 (by intro h0;have:=hlo _ h0;omega);have hm11:=hm9'.grownNew hgr11 (fun g hg=>by have:=hlo g hg;omega);have HAPO11:=Lib.hid ((HAPO.out.symm.push hat11 hO9).symm);have HAPL11:=Lib.hid ((HAPL.out.symm.push hat11 hL9).symm);have HDN11:=Lib.hid (HDN4.out ⟨A9x,c9x,xw++[x]⟩ rfl);clear hN11 hgr11 hat11 hO9 hL9 hN9 hLT9 B9 hm9' hlo HO2 HL2 HN2 HLT2 B2 hm2 hm9 hmz HAPO HAPL HDN4 hrow9 hu9 hrv2 kz k9;refine rdZ 12 rfl (fun K hK=>?_);go_simp;refine hK.out _ _ (Or.inl (by simp)) (fun _=>?_);clear hK K;try simp only [Act.put,zs1,zs2,zs3,zs4,zs5,zs6]
           refine wpAnyZ_done (by kernel_rfl) ?_ _;go_wp2_with fail;go_roundw
           case rel=>exact ⟨j+1,nn1+1,_,A11,c11,by go_num,rfl,Lib.hid (by omega),HDN11,HO11,HL11,HN11,HAPO11,HAPL11,HLT11,B11,hm11⟩
           case measure=>simp [intOf];omega
        ·have hkm:k=ws.length+1:=by have:=HWK.out;rw [hcc,List.length_concat] at this;exact this.symm
         have hkb:((k:Int) == 0)=false:=by simp;omega
         obtain ⟨m,hm'⟩:∃ m,ws.length=m:=⟨_,rfl⟩
         have hk1:(k:Int) - 1=(m:Int):=by omega
         have hym:y∈xw:=by rw [hcc];simp
         have hyl:=mem_lets.1 (HWL.out y hym);have hgx:xw[m]?=some y:=by rw [hcc,List.concat_eq_append,List.getElem?_append_right (by omega),← hm'];simp
         obtain ⟨bw,ow,y',hAw,hbw,hgy,hcy⟩:=hrv'.at (k:=m) (by rw [HWK.out];omega);subst hAw;rw [hgx] at hgy;injection hgy with hgy
         subst hgy;have hbws:bw < wq.heap.size:=Nat.lt_of_lt_of_le hbw hrv'.1;have hm0:(0:Int)≤(m:Int):=by omega
         have hm1:(m:Int) < (k:Int):=by omega
         have k5:=wg_cell hbws hcy;have hwk1:IntKind.i64.wrap (m:Int)=(m:Int):=IntWalk.i64_in _ (by omega);have hwn:IntKind.i64.wrap (-y) = -y:=IntWalk.i64_in _ (by omega);obtain ⟨bb,hbb⟩:∃ bb,(x == -y)=bb:=⟨_,rfl⟩
         have hyx:(y == -x)=bb:=by
          rw [← hbb];by_cases h:x = -y
          ·have h2:y = -x:=by omega
           rw [beq_iff_eq.2 h,beq_iff_eq.2 h2]
          ·have h2:¬ y = -x:=by omega
           rw [beq_eq_false_iff_ne.2 h,beq_eq_false_iff_ne.2 h2]
         have hokb:okB xw x=!bb:=by rw [hcc,List.concat_eq_append,okB_snoc,hyx]
         have hbn:(x != -y)=!bb:=by rw [← hbb];rfl
         clear hcc hym hgx hm' hkm hcy hyx;cases bb with
         | true =>
          have hokF:stepF es xw x=false:=by unfold stepF;rw [hokb];rfl
          have HDN4:Hid (rowsD rowsN1=layStep (stepF es) (lets r) ((lay (stepF es) (lets r) k).take i)++oneW (stepF es) ((lets r).take (j+1)) xw):=Lib.hid (by rw [oneW_no HX.out hokF];exact HDN.out);clear hokF HDN;go_wp2_with fail;refine wp_region_quiet_wg (by kernel_rfl) (by kernel_rfl) ?_;repeat
           (with_reducible refine wpQuiet_step (fun K hK=>?_))
           go_simp
           first
            | ((with_reducible refine hK _ ?_);clear hK K)
            | (rw [if_neg (by decide)];(with_reducible refine hK _ ?_);clear hK K)
            | (apply Exists.intro;refine ⟨fun _=>?_,hK _ ?_⟩;((go_at_call 138;exact Calls.wg_of (hA _ _)));clear hK K)
          with_reducible refine wpQuiet_nil ?_
          intro _ hw';obtain ⟨⟨nq,osq⟩,hw''⟩:=hw';subst hw'';have hwg:=Mid.ofWg wq nq osq;generalize wg wq nq osq=wx at hwg ⊢;have HO2:=Lib.hid (HO.out.mid hwg);have HL2:=Lib.hid (HL.out.mid hwg);have HN2:=Lib.hid (HN.out.mid hwg);have HLT2:=Lib.hid (owns_mid HLT.out hwg oZl);have B2:=B0.mid hwg oZr;have hm2:=hm.trans hwg;clear HO HL HN HLT B0 hm hwg hrv' k0 k1 k2 k4 k5 hA;go_wp2_with fail;go_roundw
          case rel=>exact ⟨j+1,nn1,rowsN1,A5,c5,by go_num,rfl,Lib.hid (by omega),HDN4,HO2,HL2,HN2,HAPO,HAPL,HLT2,B2,hm2⟩
          case measure=>simp [intOf];omega
         | false =>
          obtain ⟨dd,hdd⟩:∃ dd,decide (0≤nx)=dd:=⟨_,rfl⟩
          have hokF:stepF es xw x=dd:=by unfold stepF;rw [hokb,HU.out,HNX.out,hdd];rfl
          clear hokb;cases dd with
          | false =>
           have HDN4:Hid (rowsD rowsN1=layStep (stepF es) (lets r) ((lay (stepF es) (lets r) k).take i)++oneW (stepF es) ((lets r).take (j+1)) xw):=Lib.hid (by rw [oneW_no HX.out hokF];exact HDN.out);clear hokF HDN;go_wp2_with fail;refine wp_region_quiet_wg (by kernel_rfl) (by kernel_rfl) ?_;repeat
            (with_reducible refine wpQuiet_step (fun K hK=>?_))
            go_simp
            first
             | ((with_reducible refine hK _ ?_);clear hK K)
             | (rw [if_neg (by decide)];(with_reducible refine hK _ ?_);clear hK K)
             | (apply Exists.intro;refine ⟨fun _=>?_,hK _ ?_⟩;((go_at_call 138;exact Calls.wg_of (hA _ _)));clear hK K)
           with_reducible refine wpQuiet_nil ?_
           intro _ hw';obtain ⟨⟨nq,osq⟩,hw''⟩:=hw';subst hw'';have hwg:=Mid.ofWg wq nq osq;generalize wg wq nq osq=wx at hwg ⊢;have HO2:=Lib.hid (HO.out.mid hwg);have HL2:=Lib.hid (HL.out.mid hwg);have HN2:=Lib.hid (HN.out.mid hwg);have HLT2:=Lib.hid (owns_mid HLT.out hwg oZl);have B2:=B0.mid hwg oZr;have hm2:=hm.trans hwg;clear HO HL HN HLT B0 hm hwg hrv' k0 k1 k2 k4 k5 hA;go_wp2_with fail;go_roundw
           case rel=>exact ⟨j+1,nn1,rowsN1,A5,c5,by go_num,rfl,Lib.hid (by omega),HDN4,HO2,HL2,HN2,HAPO,HAPL,HLT2,B2,hm2⟩
           case measure=>simp [intOf];omega
          | true =>
           have hokb:=hokF;clear hokF;go_wp2_with fail;refine wp_region_quiet_wg (by kernel_rfl) (by kernel_rfl) ?_;repeat
            (with_reducible refine wpQuiet_step (fun K hK=>?_))
            go_simp
            first
             | ((with_reducible refine hK _ ?_);clear hK K)
             | (rw [if_neg (by decide)];(with_reducible refine hK _ ?_);clear hK K)
             | (apply Exists.intro;refine ⟨fun _=>?_,hK _ ?_⟩;((go_at_call 138;exact Calls.wg_of (hA _ _)));clear hK K)
           with_reducible refine wpQuiet_nil ?_
           intro _ hw';obtain ⟨⟨nq,osq⟩,hw''⟩:=hw';subst hw'';have hwg:=Mid.ofWg wq nq osq;generalize wg wq nq osq=wx at hwg ⊢;have hmz:=hwg.trans (Mid.drew1 wx);have hsz:=hmz.size;have HO2:=Lib.hid (HO.out.mid hmz);have HL2:=Lib.hid (HL.out.mid hmz);have HN2:=Lib.hid (HN.out.mid hmz);have HLT2:=Lib.hid (owns_mid HLT.out hmz oZl);have B2:=B0.mid hmz oZr;have hm2:=hm.trans hmz;have hrv2:=hrv'.mid hmz oZl;have kz:=cell_keep hmz hg8s oZr HCX.out;have hg8z:g8 < (World.drew wx).heap.size:=Nat.lt_of_lt_of_le hg8s hsz;have hlw:w.heap.size < wq.heap.size:=B0.1;have hlwz:w.heap.size+1≤(World.drew wx).heap.size:=Nat.le_trans hlw hsz;have hla:(ints xw).length=k * 1:=by rw [ints_len,HWK.out];omega
           have hnn:nn1≤1048576:=by
            have h1:=HN.out.len;have h2:=congrArg List.length HDN.out;have h4:=layStep_len (f:=stepF es) (L:=lets r) ((lay (stepF es) (lets r) k).take i);have h5:((lay (stepF es) (lets r) k).take i).length≤1296:=by
             have h6:=lay_len (f:=stepF es) hLL k;have h7:6 ^ k≤6 ^ 4:=Nat.pow_le_pow_right (by omega) (by omega);rw [List.length_take];omega
            have h8:((lay (stepF es) (lets r) k).take i).length * (lets r).length≤1296 * 6:=Nat.mul_le_mul h5 hLL;have h9:=oneW_len (f:=stepF es) (L:=(lets r).take j) xw;have h10:((lets r).take j).length≤6:=by rw [List.length_take];omega
            rw [rowsD_len,List.length_append] at h2;omega
           have hone1:∀ u∈[Value.int .i64 x],u.oneCell'=true:=by
            intro u hu;simp at hu;subst hu
            rfl
           have hmx:k+1≤maxLen:=by unfold maxLen;omega
           have hby:(k+1) * 8≤140737488355328:=by omega
           have hmx3:0+k≤maxLen:=by unfold maxLen;omega
           have hby3:(0+k) * 8≤140737488355328:=by omega
           have HDN4:Hid (∀ R:Row,R.xs=xw++[x]→rowsD (rowsN1++[R])=layStep (stepF es) (lets r) ((lay (stepF es) (lets r) k).take i)++oneW (stepF es) ((lets r).take (j+1)) xw):=Lib.hid (by
            intro R hR;rw [oneW_yes HX.out hokb,rowsD_append,HDN.out];simp [rowsD,hR])
           clear HO HL HN HLT B0 hm hrv' hwg hsz hlw hokb HDN k0 k1 k2 k4 hA hg8s k5;go_wp2_with fail;refine wp_region_Z (S:=(fun w'=>w'.cell? ⟨g8,j,none⟩=some (.int .i64 x))) [11,12] (by kernel_rfl) kz ?_;generalize World.drew wx=wz at HO2 HL2 HN2 HLT2 B2 hm2 hrv2 kz hg8z hlwz hmz ⊢;refine tkZ [11,12] 0 rfl kz ?_;try simp only [Act.put,zs1,zs2,zs3,zs4,zs5,zs6]
           refine tkZ [3,9,10,11,12] 2 rfl kz ?_;try simp only [Act.put,zs1,zs2,zs3,zs4,zs5,zs6]
           refine tkZ [6,7,8,9,10,11,12] 4 rfl kz ?_;try simp only [Act.put,zs1,zs2,zs3,zs4,zs5,zs6]
           refine tkZ [6,7,8,9,10,11,12] 5 rfl kz ?_;try simp only [Act.put,zs1,zs2,zs3,zs4,zs5,zs6]
           refine tkZ [7,8,9,10,11,12] 6 rfl kz ?_;try simp only [Act.put,zs1,zs2,zs3,zs4,zs5,zs6]
           refine tkZ [8,9,10,11,12] 7 rfl kz ?_;try simp only [Act.put,zs1,zs2,zs3,zs4,zs5,zs6]
           refine wpAnyZ_ready (rs:=[1,8]) (by kernel_rfl) (by simp) (AllReadyZ.cons rfl (fun K hK=>?_) (AllReadyZ.cons rfl (fun K hK=>?_) AllReadyZ.nil))
           ·go_simp
            refine hK.out _ _ (Or.inr (cell_keep (Mid.alloc wz (.cells #[] 3)) hg8z oZr kz)) (fun _=>?_);clear hK K;try simp only [Act.put,zs1,zs2,zs3,zs4,zs5,zs6]
            have hal1:=Mid.alloc wz (.cells #[] 3);have e1:=owns_empty wz 3 1;have hr1:=hrv2.mid hal1 oZl;have k1:=cell_keep hal1 hg8z oZr kz;have hs1:(wz.alloc (.cells #[] 3)).heap.size=wz.heap.size+1:=by simp
            generalize wz.alloc (.cells #[] 3)=wa at hal1 e1 hr1 k1 hs1 ⊢;have hg8a:g8 < wa.heap.size:=by omega
            have hbs3:wz.heap.size≤wa.heap.size:=by omega
            have hlt1:wz.heap.size < wa.heap.size:=by omega
            clear hs1;refine wpAnyZ_ready (rs:=[3,8]) (by kernel_rfl) (by simp) (AllReadyZ.cons rfl (fun K hK=>?_) (AllReadyZ.cons rfl (fun K hK=>?_) AllReadyZ.nil))
            ·(refine step_cat (by rfl) (.tmp 106) (.tmp 107) 34 (by rfl) wz.heap.size 3 (.int .i64 0) 1 8 undSI infoI rfl (by decide) _ 0 _ (by rfl) e1 (some ⟨bw,ow,none⟩) k cw _ (ints xw) (by rfl) hr1.rs hla (one_of_ints _) hmx3 hby3 hbs3 ?_;intro v3 w3 ho3 hgr3 hat3;obtain ⟨A3x,c3x,rfl, -, -⟩:=owns_shape ho3)
             refine hK.out _ _ (Or.inr (cell_keep (Mid.of_grownRow e1 hgr3) hg8a (Or.inl hg8z) k1)) (fun _=>?_);clear hK K;try simp only [Act.put,zs1,zs2,zs3,zs4,zs5,zs6]
             try rw [Nat.zero_add,List.nil_append] at ho3
             try rw [Nat.zero_add]
             have k3:=cell_keep (Mid.of_grownRow e1 hgr3) hg8a (Or.inl hg8z) k1;have hm3:=hal1.transNew (Mid.of_grownRow e1 hgr3) (Or.inl (Nat.le_refl _));have hg83:g8 < w3.heap.size:=Nat.lt_of_lt_of_le hg8z hm3.size;clear hal1 e1 hr1 k1 hgr3 hat3 hbs3;refine rdZ 8 rfl (fun K hK=>?_);go_simp;refine hK.out _ _ (Or.inr (cell_keep (Mid.alloc w3 (.cells #[.int .i64 x] 3)) hg83 oZr k3)) (fun _=>?_);clear hK K;try simp only [Act.put,zs1,zs2,zs3,zs4,zs5,zs6]
             have hal8:=Mid.alloc w3 (.cells #[.int .i64 x] 3);have kc:=cell_keep hal8 hg83 oZr k3;have hmc:=hm3.trans hal8;have hrow:=ho3.alloc (.cells #[.int .i64 x] 3);have hone:=rs_one (w:=w3.alloc (.cells #[.int .i64 x] 3)) (p:=w3.heap.size) (v:=.int .i64 x) (World.cell?_alloc_at _ _ _ _ rfl);generalize w3.alloc (.cells #[.int .i64 x] 3)=wc at hal8 kc hmc hrow hone ⊢;clear hal8 ho3 hm3 k3;have hg8c:g8 < wc.heap.size:=Nat.lt_of_lt_of_le hg8z hmc.size;refine rdZ 9 rfl (fun K hK=>?_)
             (refine step_cat (by rfl) (.tmp 108) (.tmp 113) 34 (by rfl) wz.heap.size 3 (.int .i64 0) 1 8 undSI infoI rfl (by decide) (.slice A3x k c3x) k _ (by rfl) hrow (some ⟨w3.heap.size,0,none⟩) 1 1 _ [.int .i64 x] (by rfl) hone rfl hone1 hmx hby hmc.size ?_;intro v9 w9 ho9 hgr9 hat9;obtain ⟨A9x,c9x,rfl, -, -⟩:=owns_shape ho9)
             refine hK.out _ _ (Or.inr (cell_keep (Mid.of_grownRow hrow hgr9) hg8c (Or.inl hg8z) kc)) (fun _=>?_);clear hK K;try simp only [Act.put,zs1,zs2,zs3,zs4,zs5,zs6]
             have k9:=cell_keep (Mid.of_grownRow hrow hgr9) hg8c (Or.inl hg8z) kc;have hm9:=hmc.transNew (Mid.of_grownRow hrow hgr9) (Or.inl (Nat.le_refl _));have hg89:g8 < w9.heap.size:=Nat.lt_of_lt_of_le hg8z hm9.size;have hrow9:w9.ownsRow wz.heap.size 3 1 (Row.v ⟨A9x,c9x,xw++[x]⟩) (xw++[x]).length (ints (xw++[x])):=pushE (by rw [ints_append];exact ho9) HWK.out;have hu9:Row.v ⟨A9x,c9x,xw++[x]⟩=.slice A9x (k+1) c9x:=by simp only [Row.v,List.length_append,HWK.out,List.length_singleton]
             clear ho9 hgr9 hat9 hrow hone hmc kc;refine rdZ 10 rfl (fun K hK=>?_);go_simp;refine hK.out _ _ (Or.inr (cell_keep (Mid.alloc w9 (.cells #[.slice A9x (k+1) c9x] 34)) hg89 oZr k9)) (fun _=>?_);clear hK K;try simp only [Act.put,zs1,zs2,zs3,zs4,zs5,zs6]
             refine rdZ 11 rfl (fun K hK=>?_)
             (refine step_push1 (by rfl) (.tmp 105) (.tmp 115) (by rfl) (by rfl) HN2.out hm9 ⟨A9x,c9x,xw++[x]⟩ (.slice A9x (k+1) c9x) hu9 hrow9 (by rfl) hnn hlwz ?_;intro A11 c11 w11 hN11 hgr11 hat11)
             refine hK.out _ _ (Or.inl (by simp)) (fun _=>?_);clear hK K;try simp only [Act.put,zs1,zs2,zs3,zs4,zs5,zs6]
             have hO9:=HO2.out.mid hm9;have hL9:=HL2.out.mid hm9;have hN9:=HN2.out.mid hm9;have hLT9:=owns_mid HLT2.out hm9 oZl;have B9:=B2.mid hm9 oZr;have hm9':=hm2.trans hm9;have hlo:∀ g,obS A5 nn1 c5=some g→w.heap.size+1≤g:=fun g hg=>(hN9.lt hg).1;have HO11:=Lib.hid (hO9.other hN9 HAPO.out hgr11);have HL11:=Lib.hid (hL9.other hN9 HAPL.out hgr11);have HN11:=Lib.hid hN11;have HLT11:=Lib.hid (hLT9.kept hgr11 (owns_ne hLT9 hN9.out (by decide)));have B11:=B9.grown hgr11 (by intro h0;have:=hlo _ h0;omega);have hm11:=hm9'.grownNew hgr11 (fun g hg=>by have:=hlo g hg;omega);have HAPO11:=Lib.hid ((HAPO.out.symm.push hat11 hO9).symm);have HAPL11:=Lib.hid ((HAPL.out.symm.push hat11 hL9).symm);have HDN11:=Lib.hid (HDN4.out ⟨A9x,c9x,xw++[x]⟩ rfl);clear hN11 hgr11 hat11 hO9 hL9 hN9 hLT9 B9 hm9' hlo HO2 HL2 HN2 HLT2 B2 hm2 hm9 hmz HAPO HAPL HDN4 hrow9 hu9 hrv2 kz k9;refine rdZ 12 rfl (fun K hK=>?_);go_simp;refine hK.out _ _ (Or.inl (by simp)) (fun _=>?_);clear hK K;try simp only [Act.put,zs1,zs2,zs3,zs4,zs5,zs6]
             refine wpAnyZ_done (by kernel_rfl) ?_ _;go_wp2_with fail;go_roundw
             case rel=>exact ⟨j+1,nn1+1,_,A11,c11,by go_num,rfl,Lib.hid (by omega),HDN11,HO11,HL11,HN11,HAPO11,HAPL11,HLT11,B11,hm11⟩
             case measure=>simp [intOf];omega
            ·go_simp
             refine hK.out _ _ (Or.inr (cell_keep (Mid.alloc wa (.cells #[.int .i64 x] 3)) hg8a oZr k1)) (fun _=>?_);clear hK K;try simp only [Act.put,zs1,zs2,zs3,zs4,zs5,zs6]
             have hal8:=Mid.alloc wa (.cells #[.int .i64 x] 3);have k8:=cell_keep hal8 hg8a oZr k1;have hm8:=hal1.trans hal8;replace e1:=e1.alloc (.cells #[.int .i64 x] 3);replace hr1:=hr1.mid hal8 oZl;have c8:(wa.alloc (.cells #[.int .i64 x] 3)).cell? ⟨wa.heap.size,0,none⟩=some (.int .i64 x):=World.cell?_alloc_at _ _ _ _ rfl;have hs8:(wa.alloc (.cells #[.int .i64 x] 3)).heap.size=wa.heap.size+1:=by simp
             generalize wa.alloc (.cells #[.int .i64 x] 3)=w8 at hal8 k8 hm8 e1 hr1 c8 hs8 ⊢;have hg88:g8 < w8.heap.size:=by omega
             replace hbs3:wz.heap.size≤w8.heap.size:=by omega
             have hlt8:wa.heap.size < w8.heap.size:=by omega
             clear k1 hal1 hal8 hs8;refine rdZ 3 rfl (fun K hK=>?_)
             (refine step_cat (by rfl) (.tmp 106) (.tmp 107) 34 (by rfl) wz.heap.size 3 (.int .i64 0) 1 8 undSI infoI rfl (by decide) _ 0 _ (by rfl) e1 (some ⟨bw,ow,none⟩) k cw _ (ints xw) (by rfl) hr1.rs hla (one_of_ints _) hmx3 hby3 hbs3 ?_;intro v3 w3 ho3 hgr3 hat3;obtain ⟨A3x,c3x,rfl, -, -⟩:=owns_shape ho3)
             refine hK.out _ _ (Or.inr (cell_keep (Mid.of_grownRow e1 hgr3) hg88 (Or.inl hg8z) k8)) (fun _=>?_);clear hK K;try simp only [Act.put,zs1,zs2,zs3,zs4,zs5,zs6]
             try rw [Nat.zero_add,List.nil_append] at ho3
             try rw [Nat.zero_add]
             have kc:=cell_keep (Mid.of_grownRow e1 hgr3) hg88 (Or.inl hg8z) k8;have hmc:=hm8.transNew (Mid.of_grownRow e1 hgr3) (Or.inl (Nat.le_refl _));have hrow:=ho3;have hone:=rs_one (cell_grown hgr3 (show wa.heap.size < w8.heap.size by omega) (own_ne (by omega)) c8);generalize w3=wc at kc hmc hrow hone ⊢;clear hm8 k8 e1 hr1 c8 hgr3 hat3 ho3;have hg8c:g8 < wc.heap.size:=Nat.lt_of_lt_of_le hg8z hmc.size;refine rdZ 9 rfl (fun K hK=>?_)
             (refine step_cat (by rfl) (.tmp 108) (.tmp 113) 34 (by rfl) wz.heap.size 3 (.int .i64 0) 1 8 undSI infoI rfl (by decide) (.slice A3x k c3x) k _ (by rfl) hrow (some ⟨wa.heap.size,0,none⟩) 1 1 _ [.int .i64 x] (by rfl) hone rfl hone1 hmx hby hmc.size ?_;intro v9 w9 ho9 hgr9 hat9;obtain ⟨A9x,c9x,rfl, -, -⟩:=owns_shape ho9)
             refine hK.out _ _ (Or.inr (cell_keep (Mid.of_grownRow hrow hgr9) hg8c (Or.inl hg8z) kc)) (fun _=>?_);clear hK K;try simp only [Act.put,zs1,zs2,zs3,zs4,zs5,zs6]
             have k9:=cell_keep (Mid.of_grownRow hrow hgr9) hg8c (Or.inl hg8z) kc;have hm9:=hmc.transNew (Mid.of_grownRow hrow hgr9) (Or.inl (Nat.le_refl _));have hg89:g8 < w9.heap.size:=Nat.lt_of_lt_of_le hg8z hm9.size;have hrow9:w9.ownsRow wz.heap.size 3 1 (Row.v ⟨A9x,c9x,xw++[x]⟩) (xw++[x]).length (ints (xw++[x])):=pushE (by rw [ints_append];exact ho9) HWK.out;have hu9:Row.v ⟨A9x,c9x,xw++[x]⟩=.slice A9x (k+1) c9x:=by simp only [Row.v,List.length_append,HWK.out,List.length_singleton]
             clear ho9 hgr9 hat9 hrow hone hmc kc;refine rdZ 10 rfl (fun K hK=>?_);go_simp;refine hK.out _ _ (Or.inr (cell_keep (Mid.alloc w9 (.cells #[.slice A9x (k+1) c9x] 34)) hg89 oZr k9)) (fun _=>?_);clear hK K;try simp only [Act.put,zs1,zs2,zs3,zs4,zs5,zs6]
             refine rdZ 11 rfl (fun K hK=>?_)
             (refine step_push1 (by rfl) (.tmp 105) (.tmp 115) (by rfl) (by rfl) HN2.out hm9 ⟨A9x,c9x,xw++[x]⟩ (.slice A9x (k+1) c9x) hu9 hrow9 (by rfl) hnn hlwz ?_;intro A11 c11 w11 hN11 hgr11 hat11)
             refine hK.out _ _ (Or.inl (by simp)) (fun _=>?_);clear hK K;try simp only [Act.put,zs1,zs2,zs3,zs4,zs5,zs6]
             have hO9:=HO2.out.mid hm9;have hL9:=HL2.out.mid hm9;have hN9:=HN2.out.mid hm9;have hLT9:=owns_mid HLT2.out hm9 oZl;have B9:=B2.mid hm9 oZr;have hm9':=hm2.trans hm9;have hlo:∀ g,obS A5 nn1 c5=some g→w.heap.size+1≤g:=fun g hg=>(hN9.lt hg).1;have HO11:=Lib.hid (hO9.other hN9 HAPO.out hgr11);have HL11:=Lib.hid (hL9.other hN9 HAPL.out hgr11);have HN11:=Lib.hid hN11;have HLT11:=Lib.hid (hLT9.kept hgr11 (owns_ne hLT9 hN9.out (by decide)));have B11:=B9.grown hgr11 (by intro h0;have:=hlo _ h0;omega);have hm11:=hm9'.grownNew hgr11 (fun g hg=>by have:=hlo g hg;omega);have HAPO11:=Lib.hid ((HAPO.out.symm.push hat11 hO9).symm);have HAPL11:=Lib.hid ((HAPL.out.symm.push hat11 hL9).symm);have HDN11:=Lib.hid (HDN4.out ⟨A9x,c9x,xw++[x]⟩ rfl);clear hN11 hgr11 hat11 hO9 hL9 hN9 hLT9 B9 hm9' hlo HO2 HL2 HN2 HLT2 B2 hm2 hm9 hmz HAPO HAPL HDN4 hrow9 hu9 hrv2 kz k9;refine rdZ 12 rfl (fun K hK=>?_);go_simp;refine hK.out _ _ (Or.inl (by simp)) (fun _=>?_);clear hK K;try simp only [Act.put,zs1,zs2,zs3,zs4,zs5,zs6]
             refine wpAnyZ_done (by kernel_rfl) ?_ _;go_wp2_with fail;go_roundw
             case rel=>exact ⟨j+1,nn1+1,_,A11,c11,by go_num,rfl,Lib.hid (by omega),HDN11,HO11,HL11,HN11,HAPO11,HAPL11,HLT11,B11,hm11⟩
             case measure=>simp [intOf];omega
           ·go_simp
            refine hK.out _ _ (Or.inr (cell_keep (Mid.alloc wz (.cells #[.int .i64 x] 3)) hg8z oZr kz)) (fun _=>?_);clear hK K;try simp only [Act.put,zs1,zs2,zs3,zs4,zs5,zs6]
            have hal8:=Mid.alloc wz (.cells #[.int .i64 x] 3);have k8:=cell_keep hal8 hg8z oZr kz;have hr8:=hrv2.mid hal8 oZl;have c8:(wz.alloc (.cells #[.int .i64 x] 3)).cell? ⟨wz.heap.size,0,none⟩=some (.int .i64 x):=World.cell?_alloc_at _ _ _ _ rfl;have hs8:(wz.alloc (.cells #[.int .i64 x] 3)).heap.size=wz.heap.size+1:=by simp
            generalize wz.alloc (.cells #[.int .i64 x] 3)=w8 at hal8 k8 hr8 c8 hs8 ⊢;have hg88:g8 < w8.heap.size:=by omega
            have hlt8:wz.heap.size < w8.heap.size:=by omega
            clear hs8;refine rdZ 1 rfl (fun K hK=>?_);go_simp;refine hK.out _ _ (Or.inr (cell_keep (Mid.alloc w8 (.cells #[] 3)) hg88 oZr k8)) (fun _=>?_);clear hK K;try simp only [Act.put,zs1,zs2,zs3,zs4,zs5,zs6]
            have hal1:=Mid.alloc w8 (.cells #[] 3);have e1:=owns_empty w8 3 1;have hr1:=hr8.mid hal1 oZl;have c1:=cell_keep hal1 (show wz.heap.size < w8.heap.size by omega) oZr c8;have k1:=cell_keep hal1 hg88 oZr k8;have hm1':=hal8.trans hal1;have hs1:(w8.alloc (.cells #[] 3)).heap.size=w8.heap.size+1:=by simp
            generalize w8.alloc (.cells #[] 3)=wa at hal1 e1 hr1 c1 k1 hm1' hs1 ⊢;have hg8a:g8 < wa.heap.size:=by omega
            have hbs3:w8.heap.size≤wa.heap.size:=by omega
            have hlt1:w8.heap.size < wa.heap.size:=by omega
            clear hal8 hal1 k8 hr8 c8 hs1;refine rdZ 3 rfl (fun K hK=>?_)
            (refine step_cat (by rfl) (.tmp 106) (.tmp 107) 34 (by rfl) w8.heap.size 3 (.int .i64 0) 1 8 undSI infoI rfl (by decide) _ 0 _ (by rfl) e1 (some ⟨bw,ow,none⟩) k cw _ (ints xw) (by rfl) hr1.rs hla (one_of_ints _) hmx3 hby3 hbs3 ?_;intro v3 w3 ho3 hgr3 hat3;obtain ⟨A3x,c3x,rfl, -, -⟩:=owns_shape ho3)
            refine hK.out _ _ (Or.inr (cell_keep (Mid.of_grownRow e1 hgr3) hg8a (Or.inl hg88) k1)) (fun _=>?_);clear hK K;try simp only [Act.put,zs1,zs2,zs3,zs4,zs5,zs6]
            try rw [Nat.zero_add,List.nil_append] at ho3
            try rw [Nat.zero_add]
            have kc:=cell_keep (Mid.of_grownRow e1 hgr3) hg8a (Or.inl hg88) k1;have hmc:=hm1'.transNew (Mid.of_grownRow e1 hgr3) (Or.inl (by omega));have hrow:=owns_base ho3 (show wz.heap.size≤w8.heap.size by omega);have hone:=rs_one (cell_grown hgr3 (show wz.heap.size < wa.heap.size by omega) (own_ne (by omega)) c1);generalize w3=wc at kc hmc hrow hone ⊢;clear e1 hr1 c1 k1 hm1' hgr3 hat3 ho3;have hg8c:g8 < wc.heap.size:=Nat.lt_of_lt_of_le hg8z hmc.size;refine rdZ 9 rfl (fun K hK=>?_)
            (refine step_cat (by rfl) (.tmp 108) (.tmp 113) 34 (by rfl) wz.heap.size 3 (.int .i64 0) 1 8 undSI infoI rfl (by decide) (.slice A3x k c3x) k _ (by rfl) hrow (some ⟨wz.heap.size,0,none⟩) 1 1 _ [.int .i64 x] (by rfl) hone rfl hone1 hmx hby hmc.size ?_;intro v9 w9 ho9 hgr9 hat9;obtain ⟨A9x,c9x,rfl, -, -⟩:=owns_shape ho9)
            refine hK.out _ _ (Or.inr (cell_keep (Mid.of_grownRow hrow hgr9) hg8c (Or.inl hg8z) kc)) (fun _=>?_);clear hK K;try simp only [Act.put,zs1,zs2,zs3,zs4,zs5,zs6]
            have k9:=cell_keep (Mid.of_grownRow hrow hgr9) hg8c (Or.inl hg8z) kc;have hm9:=hmc.transNew (Mid.of_grownRow hrow hgr9) (Or.inl (Nat.le_refl _));have hg89:g8 < w9.heap.size:=Nat.lt_of_lt_of_le hg8z hm9.size;have hrow9:w9.ownsRow wz.heap.size 3 1 (Row.v ⟨A9x,c9x,xw++[x]⟩) (xw++[x]).length (ints (xw++[x])):=pushE (by rw [ints_append];exact ho9) HWK.out;have hu9:Row.v ⟨A9x,c9x,xw++[x]⟩=.slice A9x (k+1) c9x:=by simp only [Row.v,List.length_append,HWK.out,List.length_singleton]
            clear ho9 hgr9 hat9 hrow hone hmc kc;refine rdZ 10 rfl (fun K hK=>?_);go_simp;refine hK.out _ _ (Or.inr (cell_keep (Mid.alloc w9 (.cells #[.slice A9x (k+1) c9x] 34)) hg89 oZr k9)) (fun _=>?_);clear hK K;try simp only [Act.put,zs1,zs2,zs3,zs4,zs5,zs6]
            refine rdZ 11 rfl (fun K hK=>?_)
            (refine step_push1 (by rfl) (.tmp 105) (.tmp 115) (by rfl) (by rfl) HN2.out hm9 ⟨A9x,c9x,xw++[x]⟩ (.slice A9x (k+1) c9x) hu9 hrow9 (by rfl) hnn hlwz ?_;intro A11 c11 w11 hN11 hgr11 hat11)
            refine hK.out _ _ (Or.inl (by simp)) (fun _=>?_);clear hK K;try simp only [Act.put,zs1,zs2,zs3,zs4,zs5,zs6]
            have hO9:=HO2.out.mid hm9;have hL9:=HL2.out.mid hm9;have hN9:=HN2.out.mid hm9;have hLT9:=owns_mid HLT2.out hm9 oZl;have B9:=B2.mid hm9 oZr;have hm9':=hm2.trans hm9;have hlo:∀ g,obS A5 nn1 c5=some g→w.heap.size+1≤g:=fun g hg=>(hN9.lt hg).1;have HO11:=Lib.hid (hO9.other hN9 HAPO.out hgr11);have HL11:=Lib.hid (hL9.other hN9 HAPL.out hgr11);have HN11:=Lib.hid hN11;have HLT11:=Lib.hid (hLT9.kept hgr11 (owns_ne hLT9 hN9.out (by decide)));have B11:=B9.grown hgr11 (by intro h0;have:=hlo _ h0;omega);have hm11:=hm9'.grownNew hgr11 (fun g hg=>by have:=hlo g hg;omega);have HAPO11:=Lib.hid ((HAPO.out.symm.push hat11 hO9).symm);have HAPL11:=Lib.hid ((HAPL.out.symm.push hat11 hL9).symm);have HDN11:=Lib.hid (HDN4.out ⟨A9x,c9x,xw++[x]⟩ rfl);clear hN11 hgr11 hat11 hO9 hL9 hN9 hLT9 B9 hm9' hlo HO2 HL2 HN2 HLT2 B2 hm2 hm9 hmz HAPO HAPL HDN4 hrow9 hu9 hrv2 kz k9;refine rdZ 12 rfl (fun K hK=>?_);go_simp;refine hK.out _ _ (Or.inl (by simp)) (fun _=>?_);clear hK K;try simp only [Act.put,zs1,zs2,zs3,zs4,zs5,zs6]
            refine wpAnyZ_done (by kernel_rfl) ?_ _;go_wp2_with fail;go_roundw
            case rel=>exact ⟨j+1,nn1+1,_,A11,c11,by go_num,rfl,Lib.hid (by omega),HDN11,HO11,HL11,HN11,HAPO11,HAPL11,HLT11,B11,hm11⟩
            case measure=>simp [intOf];omega
       ·obtain rfl:LL=j:=by omega
        have htk:(lets r).take LL=lets r:=List.take_of_length_le (by rw [HLe.out];exact Nat.le_refl _);have HDN2:Hid (rowsD rowsN1=layStep (stepF es) (lets r) ((lay (stepF es) (lets r) k).take (i+1))):=Lib.hid (by rw [HLS.out,HDN.out,htk]);have hw2:IntKind.i64.wrap ((i:Int)+1)=(i:Int)+1:=IntWalk.i64_in _ (by omega);clear htk HDN;go_wp2_with fail;go_roundw
        case rel =>
         exact ⟨i+1,no1+1,nn1,_,rowsN1,A9,A5,c9,c5,by go_num,rfl,rfl,Lib.hid (by omega),HDO9,HDN2,HO,HL,HN,HAP9,HAPO,HAPL,HLT,B0,hm⟩
        case measure=>simp [intOf];omega
     | false =>
      have HO9:=HO6;have HL9:=HL6;have HN9:=HN6;have HLT9:=HLT6;have B9:=B6;have hm9:=hm;have HAP9:=HAP;have HAPO9:=HAPO;have HDO9:Hid (rowsD rowsO1=(pre (stepF es) (lets r) k++(lay (stepF es) (lets r) k).take (i+1)).filter (loopB es)):=Lib.hid (by
       obtain ⟨h1,h2⟩:=List.getElem?_eq_some_iff.1 HXS.out;rw [HDO.out,List.take_succ_eq_append_getElem h1,h2,← List.append_assoc,List.filter_append (l₁:=pre (stepF es) (lets r) k++(lay (stepF es) (lets r) k).take i),List.filter_cons,if_neg (by rw [HLB1.out];simp)];simp)
      have HDN9:Hid (rowsD rowsN=layStep (stepF es) (lets r) ((lay (stepF es) (lets r) k).take i)++oneW (stepF es) ((lets r).take 0) xw):=Lib.hid (by rw [HDN.out];simp [oneW]);have HLS:=Lib.hid (layStep_take (f:=stepF es) (L:=lets r) HXS.out);have hs9:=hm9.size;clear HO6 HL6 HN6 HLT6 B6 HAP HAPO HDO HDN hm hrv6;go_wp2_with fail;go_loopw [11,16] (fun xv jv wr=>∃ (j nn1:Nat) (rowsN1:List Row) (A5:Option Addr) (c5:Nat),jv=.int .i64 j∧xv=.slice A5 nn1 c5∧Hid (j≤LL)∧Hid (rowsD rowsN1=layStep (stepF es) (lets r) ((lay (stepF es) (lets r) k).take i)++oneW (stepF es) ((lets r).take j) xw)∧Hid (Own1 wr (w.heap.size+1) A3 no1 c3 rowsO1)∧Hid (Own1 wr (w.heap.size+1) (some ⟨b2,0,none⟩) nl c2 rowsL)∧Hid (Own1 wr (w.heap.size+1) A5 nn1 c5 rowsN1)∧Hid (Apart A3 no1 c3 A5 nn1 c5)∧Hid (Apart (some ⟨b2,0,none⟩) nl c2 A5 nn1 c5)∧Hid (wr.ownsRow Lp 3 1 (.slice A8 LL c8) LL (ints (lets r)))∧Box wr w.heap.size [.int .i64 r,.int .i64 n0,.slice A es.length c]∧Mid 0 0 w wr) (fun _ jv _=>LL - (intOf jv).toNat)
      case atStart=>exact ⟨0,nn,rowsN,A4,c4,rfl,rfl,Lib.hid (Nat.zero_le _),HDN9,HO9,HL9,HN9,HAPO9,HAPL,HLT9,B9,hm9⟩
      case round =>
       clear HDN9 HO9 HL9 HN9 HAPO9 HAPL HLT9 B9 hm9 hs9;obtain ⟨wq,hwq⟩:∃ wq,wq=wr:=⟨_,rfl⟩
       subst hwq;obtain ⟨j,nn1,rowsN1,A5,c5,rfl,rfl,HJ,HDN,HO,HL,HN,HAPO,HAPL,HLT,B0,hm⟩:=hrel;have hjl:=HJ.out;by_cases hlt3:j < LL
       ·obtain ⟨x,hx⟩:=get_of_lt (lets r) (show j < (lets r).length by rw [HLe.out];exact hlt3)
        have hxm:=mem_lets.1 (List.mem_of_getElem? hx);obtain ⟨nx,hnx⟩:∃ y,nextV es u x=y:=⟨_,rfl⟩
        have HNX:=Lib.hid hnx;have HX:=Lib.hid hx;obtain ⟨g8,hA8,hg8,hg8s⟩:=owns_addr HLT.out (show 0 < LL by omega);subst hA8;have hcx:wq.cell? ⟨g8,j,none⟩=some (.int .i64 x):=(HLT.out.cellAt j (by omega)).trans (by rw [ints_get,hx];rfl);have hj0:(0:Int)≤(j:Int):=by omega
        have hj1:(j:Int) < (LL:Int):=by omega
        have hrd:=HL.out.row HRR.out;obtain ⟨b2',hA2', -,hb2',hce',hrv',hcap'⟩:=hrd;simp only at hrv' hcap';have hA:=fun m os=>spec_NextVertex r n0 A es c u x (wg wq m os) lo hi (hr.mid (hm.trans (Mid.ofWg wq m os)) oZl) (by omega) HGL.out (by omega) (by omega);rw [hnx] at hA;have k0:=wg_cell B0.1 (B0.cell 0 rfl);have k1:=wg_cell B0.1 (B0.cell 1 rfl);have k2:=wg_cell B0.1 (B0.cell 2 rfl);have k4:=wg_cell hg8s hcx;have HCX:=Lib.hid hcx;clear hx hcx hce' hA2' hb2' hnx;rcases List.eq_nil_or_concat xw with hnil | ⟨ws,y,hcc⟩
        ·have hk0:k=0:=by have:=HWK.out;rw [hnil] at this;exact this.symm
         have hkb:((k:Int) == 0)=true:=by simp [hk0]
         have hokb:okB xw x=true:=by rw [hnil];rfl
         clear hnil hk0;obtain ⟨dd,hdd⟩:∃ dd,decide (0≤nx)=dd:=⟨_,rfl⟩
         have hokF:stepF es xw x=dd:=by unfold stepF;rw [hokb,HU.out,HNX.out,hdd];rfl
         clear hokb;cases dd with
         | false =>
          have HDN4:Hid (rowsD rowsN1=layStep (stepF es) (lets r) ((lay (stepF es) (lets r) k).take i)++oneW (stepF es) ((lets r).take (j+1)) xw):=Lib.hid (by rw [oneW_no HX.out hokF];exact HDN.out);clear hokF HDN;go_wp2_with fail;refine wp_region_quiet_wg (by kernel_rfl) (by kernel_rfl) ?_;repeat
           (with_reducible refine wpQuiet_step (fun K hK=>?_))
           go_simp
           first
            | ((with_reducible refine hK _ ?_);clear hK K)
            | (rw [if_neg (by decide)];(with_reducible refine hK _ ?_);clear hK K)
            | (apply Exists.intro;refine ⟨fun _=>?_,hK _ ?_⟩;((go_at_call 138;exact Calls.wg_of (hA _ _)));clear hK K)
          with_reducible refine wpQuiet_nil ?_
          intro _ hw';obtain ⟨⟨nq,osq⟩,hw''⟩:=hw';subst hw'';have hwg:=Mid.ofWg wq nq osq;generalize wg wq nq osq=wx at hwg ⊢;have HO2:=Lib.hid (HO.out.mid hwg);have HL2:=Lib.hid (HL.out.mid hwg);have HN2:=Lib.hid (HN.out.mid hwg);have HLT2:=Lib.hid (owns_mid HLT.out hwg oZl);have B2:=B0.mid hwg oZr;have hm2:=hm.trans hwg;clear HO HL HN HLT B0 hm hwg hrv' k0 k1 k2 k4 hA;go_wp2_with fail;go_roundw
          case rel=>exact ⟨j+1,nn1,rowsN1,A5,c5,by go_num,rfl,Lib.hid (by omega),HDN4,HO2,HL2,HN2,HAPO,HAPL,HLT2,B2,hm2⟩
          case measure=>simp [intOf];omega
         | true =>
          have hokb:=hokF;clear hokF;go_wp2_with fail;refine wp_region_quiet_wg (by kernel_rfl) (by kernel_rfl) ?_;repeat
           (with_reducible refine wpQuiet_step (fun K hK=>?_))
           go_simp
           first
            | ((with_reducible refine hK _ ?_);clear hK K)
            | (rw [if_neg (by decide)];(with_reducible refine hK _ ?_);clear hK K)
            | (apply Exists.intro;refine ⟨fun _=>?_,hK _ ?_⟩;((go_at_call 138;exact Calls.wg_of (hA _ _)));clear hK K)
          with_reducible refine wpQuiet_nil ?_
          intro _ hw';obtain ⟨⟨nq,osq⟩,hw''⟩:=hw';subst hw'';have hwg:=Mid.ofWg wq nq osq;generalize wg wq nq osq=wx at hwg ⊢;have hmz:=hwg.trans (Mid.drew1 wx);have hsz:=hmz.size;have HO2:=Lib.hid (HO.out.mid hmz);have HL2:=Lib.hid (HL.out.mid hmz);have HN2:=Lib.hid (HN.out.mid hmz);have HLT2:=Lib.hid (owns_mid HLT.out hmz oZl);have B2:=B0.mid hmz oZr;have hm2:=hm.trans hmz;have hrv2:=hrv'.mid hmz oZl;have kz:=cell_keep hmz hg8s oZr HCX.out;have hg8z:g8 < (World.drew wx).heap.size:=Nat.lt_of_lt_of_le hg8s hsz;have hlw:w.heap.size < wq.heap.size:=B0.1;have hlwz:w.heap.size+1≤(World.drew wx).heap.size:=Nat.le_trans hlw hsz;have hla:(ints xw).length=k * 1:=by rw [ints_len,HWK.out];omega
          have hnn:nn1≤1048576:=by
           have h1:=HN.out.len;have h2:=congrArg List.length HDN.out;have h4:=layStep_len (f:=stepF es) (L:=lets r) ((lay (stepF es) (lets r) k).take i);have h5:((lay (stepF es) (lets r) k).take i).length≤1296:=by
            have h6:=lay_len (f:=stepF es) hLL k;have h7:6 ^ k≤6 ^ 4:=Nat.pow_le_pow_right (by omega) (by omega);rw [List.length_take];omega
           have h8:((lay (stepF es) (lets r) k).take i).length * (lets r).length≤1296 * 6:=Nat.mul_le_mul h5 hLL;have h9:=oneW_len (f:=stepF es) (L:=(lets r).take j) xw;have h10:((lets r).take j).length≤6:=by rw [List.length_take];omega
           rw [rowsD_len,List.length_append] at h2;omega
          have hone1:∀ u∈[Value.int .i64 x],u.oneCell'=true:=by
           intro u hu;simp at hu;subst hu
           rfl
          have hmx:k+1≤maxLen:=by unfold maxLen;omega
          have hby:(k+1) * 8≤140737488355328:=by omega
          have hmx3:0+k≤maxLen:=by unfold maxLen;omega
          have hby3:(0+k) * 8≤140737488355328:=by omega
          have HDN4:Hid (∀ R:Row,R.xs=xw++[x]→rowsD (rowsN1++[R])=layStep (stepF es) (lets r) ((lay (stepF es) (lets r) k).take i)++oneW (stepF es) ((lets r).take (j+1)) xw):=Lib.hid (by
           intro R hR;rw [oneW_yes HX.out hokb,rowsD_append,HDN.out];simp [rowsD,hR])
          clear HO HL HN HLT B0 hm hrv' hwg hsz hlw hokb HDN k0 k1 k2 k4 hA hg8s;go_wp2_with fail;refine wp_region_Z (S:=(fun w'=>w'.cell? ⟨g8,j,none⟩=some (.int .i64 x))) [11,12] (by kernel_rfl) kz ?_;generalize World.drew wx=wz at HO2 HL2 HN2 HLT2 B2 hm2 hrv2 kz hg8z hlwz hmz ⊢;refine tkZ [11,12] 0 rfl kz ?_;try simp only [Act.put,zs1,zs2,zs3,zs4,zs5,zs6]
          refine tkZ [3,9,10,11,12] 2 rfl kz ?_;try simp only [Act.put,zs1,zs2,zs3,zs4,zs5,zs6]
          refine tkZ [6,7,8,9,10,11,12] 4 rfl kz ?_;try simp only [Act.put,zs1,zs2,zs3,zs4,zs5,zs6]
          refine tkZ [6,7,8,9,10,11,12] 5 rfl kz ?_;try simp only [Act.put,zs1,zs2,zs3,zs4,zs5,zs6]
          refine tkZ [7,8,9,10,11,12] 6 rfl kz ?_;try simp only [Act.put,zs1,zs2,zs3,zs4,zs5,zs6]
          refine tkZ [8,9,10,11,12] 7 rfl kz ?_;try simp only [Act.put,zs1,zs2,zs3,zs4,zs5,zs6]
          refine wpAnyZ_ready (rs:=[1,8]) (by kernel_rfl) (by simp) (AllReadyZ.cons rfl (fun K hK=>?_) (AllReadyZ.cons rfl (fun K hK=>?_) AllReadyZ.nil))
          ·go_simp
           refine hK.out _ _ (Or.inr (cell_keep (Mid.alloc wz (.cells #[] 3)) hg8z oZr kz)) (fun _=>?_);clear hK K;try simp only [Act.put,zs1,zs2,zs3,zs4,zs5,zs6]
           have hal1:=Mid.alloc wz (.cells #[] 3);have e1:=owns_empty wz 3 1;have hr1:=hrv2.mid hal1 oZl;have k1:=cell_keep hal1 hg8z oZr kz;have hs1:(wz.alloc (.cells #[] 3)).heap.size=wz.heap.size+1:=by simp
           generalize wz.alloc (.cells #[] 3)=wa at hal1 e1 hr1 k1 hs1 ⊢;have hg8a:g8 < wa.heap.size:=by omega
           have hbs3:wz.heap.size≤wa.heap.size:=by omega
           have hlt1:wz.heap.size < wa.heap.size:=by omega
           clear hs1;refine wpAnyZ_ready (rs:=[3,8]) (by kernel_rfl) (by simp) (AllReadyZ.cons rfl (fun K hK=>?_) (AllReadyZ.cons rfl (fun K hK=>?_) AllReadyZ.nil))
           ·(refine step_cat (by rfl) (.tmp 106) (.tmp 107) 34 (by rfl) wz.heap.size 3 (.int .i64 0) 1 8 undSI infoI rfl (by decide) _ 0 _ (by rfl) e1 Aw k cw _ (ints xw) (by rfl) hr1.rs hla (one_of_ints _) hmx3 hby3 hbs3 ?_;intro v3 w3 ho3 hgr3 hat3;obtain ⟨A3x,c3x,rfl, -, -⟩:=owns_shape ho3)
            refine hK.out _ _ (Or.inr (cell_keep (Mid.of_grownRow e1 hgr3) hg8a (Or.inl hg8z) k1)) (fun _=>?_);clear hK K;try simp only [Act.put,zs1,zs2,zs3,zs4,zs5,zs6]
            try rw [Nat.zero_add,List.nil_append] at ho3
            try rw [Nat.zero_add]
            have k3:=cell_keep (Mid.of_grownRow e1 hgr3) hg8a (Or.inl hg8z) k1;have hm3:=hal1.transNew (Mid.of_grownRow e1 hgr3) (Or.inl (Nat.le_refl _));have hg83:g8 < w3.heap.size:=Nat.lt_of_lt_of_le hg8z hm3.size;clear hal1 e1 hr1 k1 hgr3 hat3 hbs3;refine rdZ 8 rfl (fun K hK=>?_);go_simp;refine hK.out _ _ (Or.inr (cell_keep (Mid.alloc w3 (.cells #[.int .i64 x] 3)) hg83 oZr k3)) (fun _=>?_);clear hK K;try simp only [Act.put,zs1,zs2,zs3,zs4,zs5,zs6]
            have hal8:=Mid.alloc w3 (.cells #[.int .i64 x] 3);have kc:=cell_keep hal8 hg83 oZr k3;have hmc:=hm3.trans hal8;have hrow:=ho3.alloc (.cells #[.int .i64 x] 3);have hone:=rs_one (w:=w3.alloc (.cells #[.int .i64 x] 3)) (p:=w3.heap.size) (v:=.int .i64 x) (World.cell?_alloc_at _ _ _ _ rfl);generalize w3.alloc (.cells #[.int .i64 x] 3)=wc at hal8 kc hmc hrow hone ⊢;clear hal8 ho3 hm3 k3;have hg8c:g8 < wc.heap.size:=Nat.lt_of_lt_of_le hg8z hmc.size;refine rdZ 9 rfl (fun K hK=>?_)
            (refine step_cat (by rfl) (.tmp 108) (.tmp 113) 34 (by rfl) wz.heap.size 3 (.int .i64 0) 1 8 undSI infoI rfl (by decide) (.slice A3x k c3x) k _ (by rfl) hrow (some ⟨w3.heap.size,0,none⟩) 1 1 _ [.int .i64 x] (by rfl) hone rfl hone1 hmx hby hmc.size ?_;intro v9 w9 ho9 hgr9 hat9;obtain ⟨A9x,c9x,rfl, -, -⟩:=owns_shape ho9)
            refine hK.out _ _ (Or.inr (cell_keep (Mid.of_grownRow hrow hgr9) hg8c (Or.inl hg8z) kc)) (fun _=>?_);clear hK K;try simp only [Act.put,zs1,zs2,zs3,zs4,zs5,zs6]
            have k9:=cell_keep (Mid.of_grownRow hrow hgr9) hg8c (Or.inl hg8z) kc;have hm9:=hmc.transNew (Mid.of_grownRow hrow hgr9) (Or.inl (Nat.le_refl _));have hg89:g8 < w9.heap.size:=Nat.lt_of_lt_of_le hg8z hm9.size;have hrow9:w9.ownsRow wz.heap.size 3 1 (Row.v ⟨A9x,c9x,xw++[x]⟩) (xw++[x]).length (ints (xw++[x])):=pushE (by rw [ints_append];exact ho9) HWK.out;have hu9:Row.v ⟨A9x,c9x,xw++[x]⟩=.slice A9x (k+1) c9x:=by simp only [Row.v,List.length_append,HWK.out,List.length_singleton]
            clear ho9 hgr9 hat9 hrow hone hmc kc;refine rdZ 10 rfl (fun K hK=>?_);go_simp;refine hK.out _ _ (Or.inr (cell_keep (Mid.alloc w9 (.cells #[.slice A9x (k+1) c9x] 34)) hg89 oZr k9)) (fun _=>?_);clear hK K;try simp only [Act.put,zs1,zs2,zs3,zs4,zs5,zs6]
            refine rdZ 11 rfl (fun K hK=>?_)
            (refine step_push1 (by rfl) (.tmp 105) (.tmp 115) (by rfl) (by rfl) HN2.out hm9 ⟨A9x,c9x,xw++[x]⟩ (.slice A9x (k+1) c9x) hu9 hrow9 (by rfl) hnn hlwz ?_;intro A11 c11 w11 hN11 hgr11 hat11)
            refine hK.out _ _ (Or.inl (by simp)) (fun _=>?_);clear hK K;try simp only [Act.put,zs1,zs2,zs3,zs4,zs5,zs6]
            have hO9:=HO2.out.mid hm9;have hL9:=HL2.out.mid hm9;have hN9:=HN2.out.mid hm9;have hLT9:=owns_mid HLT2.out hm9 oZl;have B9:=B2.mid hm9 oZr;have hm9':=hm2.trans hm9;have hlo:∀ g,obS A5 nn1 c5=some g→w.heap.size+1≤g:=fun g hg=>(hN9.lt hg).1;have HO11:=Lib.hid (hO9.other hN9 HAPO.out hgr11);have HL11:=Lib.hid (hL9.other hN9 HAPL.out hgr11);have HN11:=Lib.hid hN11;have HLT11:=Lib.hid (hLT9.kept hgr11 (owns_ne hLT9 hN9.out (by decide)));have B11:=B9.grown hgr11 (by intro h0;have:=hlo _ h0;omega);have hm11:=hm9'.grownNew hgr11 (fun g hg=>by have:=hlo g hg;omega);have HAPO11:=Lib.hid ((HAPO.out.symm.push hat11 hO9).symm);have HAPL11:=Lib.hid ((HAPL.out.symm.push hat11 hL9).symm);have HDN11:=Lib.hid (HDN4.out ⟨A9x,c9x,xw++[x]⟩ rfl);clear hN11 hgr11 hat11 hO9 hL9 hN9 hLT9 B9 hm9' hlo HO2 HL2 HN2 HLT2 B2 hm2 hm9 hmz HAPO HAPL HDN4 hrow9 hu9 hrv2 kz k9;refine rdZ 12 rfl (fun K hK=>?_);go_simp;refine hK.out _ _ (Or.inl (by simp)) (fun _=>?_);clear hK K;try simp only [Act.put,zs1,zs2,zs3,zs4,zs5,zs6]
            refine wpAnyZ_done (by kernel_rfl) ?_ _;go_wp2_with fail;go_roundw
            case rel=>exact ⟨j+1,nn1+1,_,A11,c11,by go_num,rfl,Lib.hid (by omega),HDN11,HO11,HL11,HN11,HAPO11,HAPL11,HLT11,B11,hm11⟩
            case measure=>simp [intOf];omega
           ·go_simp
            refine hK.out _ _ (Or.inr (cell_keep (Mid.alloc wa (.cells #[.int .i64 x] 3)) hg8a oZr k1)) (fun _=>?_);clear hK K;try simp only [Act.put,zs1,zs2,zs3,zs4,zs5,zs6]
            have hal8:=Mid.alloc wa (.cells #[.int .i64 x] 3);have k8:=cell_keep hal8 hg8a oZr k1;have hm8:=hal1.trans hal8;replace e1:=e1.alloc (.cells #[.int .i64 x] 3);replace hr1:=hr1.mid hal8 oZl;have c8:(wa.alloc (.cells #[.int .i64 x] 3)).cell? ⟨wa.heap.size,0,none⟩=some (.int .i64 x):=World.cell?_alloc_at _ _ _ _ rfl;have hs8:(wa.alloc (.cells #[.int .i64 x] 3)).heap.size=wa.heap.size+1:=by simp
            generalize wa.alloc (.cells #[.int .i64 x] 3)=w8 at hal8 k8 hm8 e1 hr1 c8 hs8 ⊢;have hg88:g8 < w8.heap.size:=by omega
            replace hbs3:wz.heap.size≤w8.heap.size:=by omega
            have hlt8:wa.heap.size < w8.heap.size:=by omega
            clear k1 hal1 hal8 hs8;refine rdZ 3 rfl (fun K hK=>?_)
            (refine step_cat (by rfl) (.tmp 106) (.tmp 107) 34 (by rfl) wz.heap.size 3 (.int .i64 0) 1 8 undSI infoI rfl (by decide) _ 0 _ (by rfl) e1 Aw k cw _ (ints xw) (by rfl) hr1.rs hla (one_of_ints _) hmx3 hby3 hbs3 ?_;intro v3 w3 ho3 hgr3 hat3;obtain ⟨A3x,c3x,rfl, -, -⟩:=owns_shape ho3)
            refine hK.out _ _ (Or.inr (cell_keep (Mid.of_grownRow e1 hgr3) hg88 (Or.inl hg8z) k8)) (fun _=>?_);clear hK K;try simp only [Act.put,zs1,zs2,zs3,zs4,zs5,zs6]
            try rw [Nat.zero_add,List.nil_append] at ho3
            try rw [Nat.zero_add]
            have kc:=cell_keep (Mid.of_grownRow e1 hgr3) hg88 (Or.inl hg8z) k8;have hmc:=hm8.transNew (Mid.of_grownRow e1 hgr3) (Or.inl (Nat.le_refl _));have hrow:=ho3;have hone:=rs_one (cell_grown hgr3 (show wa.heap.size < w8.heap.size by omega) (own_ne (by omega)) c8);generalize w3=wc at kc hmc hrow hone ⊢;clear hm8 k8 e1 hr1 c8 hgr3 hat3 ho3;have hg8c:g8 < wc.heap.size:=Nat.lt_of_lt_of_le hg8z hmc.size;refine rdZ 9 rfl (fun K hK=>?_)
            (refine step_cat (by rfl) (.tmp 108) (.tmp 113) 34 (by rfl) wz.heap.size 3 (.int .i64 0) 1 8 undSI infoI rfl (by decide) (.slice A3x k c3x) k _ (by rfl) hrow (some ⟨wa.heap.size,0,none⟩) 1 1 _ [.int .i64 x] (by rfl) hone rfl hone1 hmx hby hmc.size ?_;intro v9 w9 ho9 hgr9 hat9;obtain ⟨A9x,c9x,rfl, -, -⟩:=owns_shape ho9)
            refine hK.out _ _ (Or.inr (cell_keep (Mid.of_grownRow hrow hgr9) hg8c (Or.inl hg8z) kc)) (fun _=>?_);clear hK K;try simp only [Act.put,zs1,zs2,zs3,zs4,zs5,zs6]
            have k9:=cell_keep (Mid.of_grownRow hrow hgr9) hg8c (Or.inl hg8z) kc;have hm9:=hmc.transNew (Mid.of_grownRow hrow hgr9) (Or.inl (Nat.le_refl _));have hg89:g8 < w9.heap.size:=Nat.lt_of_lt_of_le hg8z hm9.size;have hrow9:w9.ownsRow wz.heap.size 3 1 (Row.v ⟨A9x,c9x,xw++[x]⟩) (xw++[x]).length (ints (xw++[x])):=pushE (by rw [ints_append];exact ho9) HWK.out;have hu9:Row.v ⟨A9x,c9x,xw++[x]⟩=.slice A9x (k+1) c9x:=by simp only [Row.v,List.length_append,HWK.out,List.length_singleton]
            clear ho9 hgr9 hat9 hrow hone hmc kc;refine rdZ 10 rfl (fun K hK=>?_);go_simp;refine hK.out _ _ (Or.inr (cell_keep (Mid.alloc w9 (.cells #[.slice A9x (k+1) c9x] 34)) hg89 oZr k9)) (fun _=>?_);clear hK K;try simp only [Act.put,zs1,zs2,zs3,zs4,zs5,zs6]
            refine rdZ 11 rfl (fun K hK=>?_)
            (refine step_push1 (by rfl) (.tmp 105) (.tmp 115) (by rfl) (by rfl) HN2.out hm9 ⟨A9x,c9x,xw++[x]⟩ (.slice A9x (k+1) c9x) hu9 hrow9 (by rfl) hnn hlwz ?_;intro A11 c11 w11 hN11 hgr11 hat11)
            refine hK.out _ _ (Or.inl (by simp)) (fun _=>?_);clear hK K;try simp only [Act.put,zs1,zs2,zs3,zs4,zs5,zs6]
            have hO9:=HO2.out.mid hm9;have hL9:=HL2.out.mid hm9;have hN9:=HN2.out.mid hm9;have hLT9:=owns_mid HLT2.out hm9 oZl;have B9:=B2.mid hm9 oZr;have hm9':=hm2.trans hm9;have hlo:∀ g,obS A5 nn1 c5=some g→w.heap.size+1≤g:=fun g hg=>(hN9.lt hg).1;have HO11:=Lib.hid (hO9.other hN9 HAPO.out hgr11);have HL11:=Lib.hid (hL9.other hN9 HAPL.out hgr11);have HN11:=Lib.hid hN11;have HLT11:=Lib.hid (hLT9.kept hgr11 (owns_ne hLT9 hN9.out (by decide)));have B11:=B9.grown hgr11 (by intro h0;have:=hlo _ h0;omega);have hm11:=hm9'.grownNew hgr11 (fun g hg=>by have:=hlo g hg;omega);have HAPO11:=Lib.hid ((HAPO.out.symm.push hat11 hO9).symm);have HAPL11:=Lib.hid ((HAPL.out.symm.push hat11 hL9).symm);have HDN11:=Lib.hid (HDN4.out ⟨A9x,c9x,xw++[x]⟩ rfl);clear hN11 hgr11 hat11 hO9 hL9 hN9 hLT9 B9 hm9' hlo HO2 HL2 HN2 HLT2 B2 hm2 hm9 hmz HAPO HAPL HDN4 hrow9 hu9 hrv2 kz k9;refine rdZ 12 rfl (fun K hK=>?_);go_simp;refine hK.out _ _ (Or.inl (by simp)) (fun _=>?_);clear hK K;try simp only [Act.put,zs1,zs2,zs3,zs4,zs5,zs6]
            refine wpAnyZ_done (by kernel_rfl) ?_ _;go_wp2_with fail;go_roundw
            case rel=>exact ⟨j+1,nn1+1,_,A11,c11,by go_num,rfl,Lib.hid (by omega),HDN11,HO11,HL11,HN11,HAPO11,HAPL11,HLT11,B11,hm11⟩
            case measure=>simp [intOf];omega
          ·go_simp
           refine hK.out _ _ (Or.inr (cell_keep (Mid.alloc wz (.cells #[.int .i64 x] 3)) hg8z oZr kz)) (fun _=>?_);clear hK K;try simp only [Act.put,zs1,zs2,zs3,zs4,zs5,zs6]
           have hal8:=Mid.alloc wz (.cells #[.int .i64 x] 3);have k8:=cell_keep hal8 hg8z oZr kz;have hr8:=hrv2.mid hal8 oZl;have c8:(wz.alloc (.cells #[.int .i64 x] 3)).cell? ⟨wz.heap.size,0,none⟩=some (.int .i64 x):=World.cell?_alloc_at _ _ _ _ rfl;have hs8:(wz.alloc (.cells #[.int .i64 x] 3)).heap.size=wz.heap.size+1:=by simp
           generalize wz.alloc (.cells #[.int .i64 x] 3)=w8 at hal8 k8 hr8 c8 hs8 ⊢;have hg88:g8 < w8.heap.size:=by omega
           have hlt8:wz.heap.size < w8.heap.size:=by omega
           clear hs8;refine rdZ 1 rfl (fun K hK=>?_);go_simp;refine hK.out _ _ (Or.inr (cell_keep (Mid.alloc w8 (.cells #[] 3)) hg88 oZr k8)) (fun _=>?_);clear hK K;try simp only [Act.put,zs1,zs2,zs3,zs4,zs5,zs6]
           have hal1:=Mid.alloc w8 (.cells #[] 3);have e1:=owns_empty w8 3 1;have hr1:=hr8.mid hal1 oZl;have c1:=cell_keep hal1 (show wz.heap.size < w8.heap.size by omega) oZr c8;have k1:=cell_keep hal1 hg88 oZr k8;have hm1':=hal8.trans hal1;have hs1:(w8.alloc (.cells #[] 3)).heap.size=w8.heap.size+1:=by simp
           generalize w8.alloc (.cells #[] 3)=wa at hal1 e1 hr1 c1 k1 hm1' hs1 ⊢;have hg8a:g8 < wa.heap.size:=by omega
           have hbs3:w8.heap.size≤wa.heap.size:=by omega
           have hlt1:w8.heap.size < wa.heap.size:=by omega
           clear hal8 hal1 k8 hr8 c8 hs1;refine rdZ 3 rfl (fun K hK=>?_)
           (refine step_cat (by rfl) (.tmp 106) (.tmp 107) 34 (by rfl) w8.heap.size 3 (.int .i64 0) 1 8 undSI infoI rfl (by decide) _ 0 _ (by rfl) e1 Aw k cw _ (ints xw) (by rfl) hr1.rs hla (one_of_ints _) hmx3 hby3 hbs3 ?_;intro v3 w3 ho3 hgr3 hat3;obtain ⟨A3x,c3x,rfl, -, -⟩:=owns_shape ho3)
           refine hK.out _ _ (Or.inr (cell_keep (Mid.of_grownRow e1 hgr3) hg8a (Or.inl hg88) k1)) (fun _=>?_);clear hK K;try simp only [Act.put,zs1,zs2,zs3,zs4,zs5,zs6]
           try rw [Nat.zero_add,List.nil_append] at ho3
           try rw [Nat.zero_add]
           have kc:=cell_keep (Mid.of_grownRow e1 hgr3) hg8a (Or.inl hg88) k1;have hmc:=hm1'.transNew (Mid.of_grownRow e1 hgr3) (Or.inl (by omega));have hrow:=owns_base ho3 (show wz.heap.size≤w8.heap.size by omega);have hone:=rs_one (cell_grown hgr3 (show wz.heap.size < wa.heap.size by omega) (own_ne (by omega)) c1);generalize w3=wc at kc hmc hrow hone ⊢;clear e1 hr1 c1 k1 hm1' hgr3 hat3 ho3;have hg8c:g8 < wc.heap.size:=Nat.lt_of_lt_of_le hg8z hmc.size;refine rdZ 9 rfl (fun K hK=>?_)
           (refine step_cat (by rfl) (.tmp 108) (.tmp 113) 34 (by rfl) wz.heap.size 3 (.int .i64 0) 1 8 undSI infoI rfl (by decide) (.slice A3x k c3x) k _ (by rfl) hrow (some ⟨wz.heap.size,0,none⟩) 1 1 _ [.int .i64 x] (by rfl) hone rfl hone1 hmx hby hmc.size ?_;intro v9 w9 ho9 hgr9 hat9;obtain ⟨A9x,c9x,rfl, -, -⟩:=owns_shape ho9)
           refine hK.out _ _ (Or.inr (cell_keep (Mid.of_grownRow hrow hgr9) hg8c (Or.inl hg8z) kc)) (fun _=>?_);clear hK K;try simp only [Act.put,zs1,zs2,zs3,zs4,zs5,zs6]
           have k9:=cell_keep (Mid.of_grownRow hrow hgr9) hg8c (Or.inl hg8z) kc;have hm9:=hmc.transNew (Mid.of_grownRow hrow hgr9) (Or.inl (Nat.le_refl _));have hg89:g8 < w9.heap.size:=Nat.lt_of_lt_of_le hg8z hm9.size;have hrow9:w9.ownsRow wz.heap.size 3 1 (Row.v ⟨A9x,c9x,xw++[x]⟩) (xw++[x]).length (ints (xw++[x])):=pushE (by rw [ints_append];exact ho9) HWK.out;have hu9:Row.v ⟨A9x,c9x,xw++[x]⟩=.slice A9x (k+1) c9x:=by simp only [Row.v,List.length_append,HWK.out,List.length_singleton]
           clear ho9 hgr9 hat9 hrow hone hmc kc;refine rdZ 10 rfl (fun K hK=>?_);go_simp;refine hK.out _ _ (Or.inr (cell_keep (Mid.alloc w9 (.cells #[.slice A9x (k+1) c9x] 34)) hg89 oZr k9)) (fun _=>?_);clear hK K;try simp only [Act.put,zs1,zs2,zs3,zs4,zs5,zs6]
           refine rdZ 11 rfl (fun K hK=>?_)
           (refine step_push1 (by rfl) (.tmp 105) (.tmp 115) (by rfl) (by rfl) HN2.out hm9 ⟨A9x,c9x,xw++[x]⟩ (.slice A9x (k+1) c9x) hu9 hrow9 (by rfl) hnn hlwz ?_;intro A11 c11 w11 hN11 hgr11 hat11)
           refine hK.out _ _ (Or.inl (by simp)) (fun _=>?_);clear hK K;try simp only [Act.put,zs1,zs2,zs3,zs4,zs5,zs6]
           have hO9:=HO2.out.mid hm9;have hL9:=HL2.out.mid hm9;have hN9:=HN2.out.mid hm9;have hLT9:=owns_mid HLT2.out hm9 oZl;have B9:=B2.mid hm9 oZr;have hm9':=hm2.trans hm9;have hlo:∀ g,obS A5 nn1 c5=some g→w.heap.size+1≤g:=fun g hg=>(hN9.lt hg).1;have HO11:=Lib.hid (hO9.other hN9 HAPO.out hgr11);have HL11:=Lib.hid (hL9.other hN9 HAPL.out hgr11);have HN11:=Lib.hid hN11;have HLT11:=Lib.hid (hLT9.kept hgr11 (owns_ne hLT9 hN9.out (by decide)));have B11:=B9.grown hgr11 (by intro h0;have:=hlo _ h0;omega);have hm11:=hm9'.grownNew hgr11 (fun g hg=>by have:=hlo g hg;omega);have HAPO11:=Lib.hid ((HAPO.out.symm.push hat11 hO9).symm);have HAPL11:=Lib.hid ((HAPL.out.symm.push hat11 hL9).symm);have HDN11:=Lib.hid (HDN4.out ⟨A9x,c9x,xw++[x]⟩ rfl);clear hN11 hgr11 hat11 hO9 hL9 hN9 hLT9 B9 hm9' hlo HO2 HL2 HN2 HLT2 B2 hm2 hm9 hmz HAPO HAPL HDN4 hrow9 hu9 hrv2 kz k9;refine rdZ 12 rfl (fun K hK=>?_);go_simp;refine hK.out _ _ (Or.inl (by simp)) (fun _=>?_);clear hK K;try simp only [Act.put,zs1,zs2,zs3,zs4,zs5,zs6]
           refine wpAnyZ_done (by kernel_rfl) ?_ _;go_wp2_with fail;go_roundw
           case rel=>exact ⟨j+1,nn1+1,_,A11,c11,by go_num,rfl,Lib.hid (by omega),HDN11,HO11,HL11,HN11,HAPO11,HAPL11,HLT11,B11,hm11⟩
           case measure=>simp [intOf];omega
        ·have hkm:k=ws.length+1:=by have:=HWK.out;rw [hcc,List.length_concat] at this;exact this.symm
         have hkb:((k:Int) == 0)=false:=by simp;omega
         obtain ⟨m,hm'⟩:∃ m,ws.length=m:=⟨_,rfl⟩
         have hk1:(k:Int) - 1=(m:Int):=by omega
         have hym:y∈xw:=by rw [hcc];simp
         have hyl:=mem_lets.1 (HWL.out y hym);have hgx:xw[m]?=some y:=by rw [hcc,List.concat_eq_append,List.getElem?_append_right (by omega),← hm'];simp
         obtain ⟨bw,ow,y',hAw,hbw,hgy,hcy⟩:=hrv'.at (k:=m) (by rw [HWK.out];omega);subst hAw;rw [hgx] at hgy;injection hgy with hgy
         subst hgy;have hbws:bw < wq.heap.size:=Nat.lt_of_lt_of_le hbw hrv'.1;have hm0:(0:Int)≤(m:Int):=by omega
         have hm1:(m:Int) < (k:Int):=by omega
         have k5:=wg_cell hbws hcy;have hwk1:IntKind.i64.wrap (m:Int)=(m:Int):=IntWalk.i64_in _ (by omega);have hwn:IntKind.i64.wrap (-y) = -y:=IntWalk.i64_in _ (by omega);obtain ⟨bb,hbb⟩:∃ bb,(x == -y)=bb:=⟨_,rfl⟩
         have hyx:(y == -x)=bb:=by
          rw [← hbb];by_cases h:x = -y
          ·have h2:y = -x:=by omega
           rw [beq_iff_eq.2 h,beq_iff_eq.2 h2]
          ·have h2:¬ y = -x:=by omega
           rw [beq_eq_false_iff_ne.2 h,beq_eq_false_iff_ne.2 h2]
         have hokb:okB xw x=!bb:=by rw [hcc,List.concat_eq_append,okB_snoc,hyx]
         have hbn:(x != -y)=!bb:=by rw [← hbb];rfl
         clear hcc hym hgx hm' hkm hcy hyx;cases bb with
         | true =>
          have hokF:stepF es xw x=false:=by unfold stepF;rw [hokb];rfl
          have HDN4:Hid (rowsD rowsN1=layStep (stepF es) (lets r) ((lay (stepF es) (lets r) k).take i)++oneW (stepF es) ((lets r).take (j+1)) xw):=Lib.hid (by rw [oneW_no HX.out hokF];exact HDN.out);clear hokF HDN;go_wp2_with fail;refine wp_region_quiet_wg (by kernel_rfl) (by kernel_rfl) ?_;repeat
           (with_reducible refine wpQuiet_step (fun K hK=>?_))
           go_simp
           first
            | ((with_reducible refine hK _ ?_);clear hK K)
            | (rw [if_neg (by decide)];(with_reducible refine hK _ ?_);clear hK K)
            | (apply Exists.intro;refine ⟨fun _=>?_,hK _ ?_⟩;((go_at_call 138;exact Calls.wg_of (hA _ _)));clear hK K)
          with_reducible refine wpQuiet_nil ?_
          intro _ hw';obtain ⟨⟨nq,osq⟩,hw''⟩:=hw';subst hw'';have hwg:=Mid.ofWg wq nq osq;generalize wg wq nq osq=wx at hwg ⊢;have HO2:=Lib.hid (HO.out.mid hwg);have HL2:=Lib.hid (HL.out.mid hwg);have HN2:=Lib.hid (HN.out.mid hwg);have HLT2:=Lib.hid (owns_mid HLT.out hwg oZl);have B2:=B0.mid hwg oZr;have hm2:=hm.trans hwg;clear HO HL HN HLT B0 hm hwg hrv' k0 k1 k2 k4 k5 hA;go_wp2_with fail;go_roundw
          case rel=>exact ⟨j+1,nn1,rowsN1,A5,c5,by go_num,rfl,Lib.hid (by omega),HDN4,HO2,HL2,HN2,HAPO,HAPL,HLT2,B2,hm2⟩
          case measure=>simp [intOf];omega
         | false =>
          obtain ⟨dd,hdd⟩:∃ dd,decide (0≤nx)=dd:=⟨_,rfl⟩
          have hokF:stepF es xw x=dd:=by unfold stepF;rw [hokb,HU.out,HNX.out,hdd];rfl
          clear hokb;cases dd with
          | false =>
           have HDN4:Hid (rowsD rowsN1=layStep (stepF es) (lets r) ((lay (stepF es) (lets r) k).take i)++oneW (stepF es) ((lets r).take (j+1)) xw):=Lib.hid (by rw [oneW_no HX.out hokF];exact HDN.out);clear hokF HDN;go_wp2_with fail;refine wp_region_quiet_wg (by kernel_rfl) (by kernel_rfl) ?_;repeat
            (with_reducible refine wpQuiet_step (fun K hK=>?_))
            go_simp
            first
             | ((with_reducible refine hK _ ?_);clear hK K)
             | (rw [if_neg (by decide)];(with_reducible refine hK _ ?_);clear hK K)
             | (apply Exists.intro;refine ⟨fun _=>?_,hK _ ?_⟩;((go_at_call 138;exact Calls.wg_of (hA _ _)));clear hK K)
           with_reducible refine wpQuiet_nil ?_
           intro _ hw';obtain ⟨⟨nq,osq⟩,hw''⟩:=hw';subst hw'';have hwg:=Mid.ofWg wq nq osq;generalize wg wq nq osq=wx at hwg ⊢;have HO2:=Lib.hid (HO.out.mid hwg);have HL2:=Lib.hid (HL.out.mid hwg);have HN2:=Lib.hid (HN.out.mid hwg);have HLT2:=Lib.hid (owns_mid HLT.out hwg oZl);have B2:=B0.mid hwg oZr;have hm2:=hm.trans hwg;clear HO HL HN HLT B0 hm hwg hrv' k0 k1 k2 k4 k5 hA;go_wp2_with fail;go_roundw
           case rel=>exact ⟨j+1,nn1,rowsN1,A5,c5,by go_num,rfl,Lib.hid (by omega),HDN4,HO2,HL2,HN2,HAPO,HAPL,HLT2,B2,hm2⟩
           case measure=>simp [intOf];omega
          | true =>
           have hokb:=hokF;clear hokF;go_wp2_with fail;refine wp_region_quiet_wg (by kernel_rfl) (by kernel_rfl) ?_;repeat
            (with_reducible refine wpQuiet_step (fun K hK=>?_))
            go_simp
            first
             | ((with_reducible refine hK _ ?_);clear hK K)
             | (rw [if_neg (by decide)];(with_reducible refine hK _ ?_);clear hK K)
             | (apply Exists.intro;refine ⟨fun _=>?_,hK _ ?_⟩;((go_at_call 138;exact Calls.wg_of (hA _ _)));clear hK K)
           with_reducible refine wpQuiet_nil ?_
           intro _ hw';obtain ⟨⟨nq,osq⟩,hw''⟩:=hw';subst hw'';have hwg:=Mid.ofWg wq nq osq;generalize wg wq nq osq=wx at hwg ⊢;have hmz:=hwg.trans (Mid.drew1 wx);have hsz:=hmz.size;have HO2:=Lib.hid (HO.out.mid hmz);have HL2:=Lib.hid (HL.out.mid hmz);have HN2:=Lib.hid (HN.out.mid hmz);have HLT2:=Lib.hid (owns_mid HLT.out hmz oZl);have B2:=B0.mid hmz oZr;have hm2:=hm.trans hmz;have hrv2:=hrv'.mid hmz oZl;have kz:=cell_keep hmz hg8s oZr HCX.out;have hg8z:g8 < (World.drew wx).heap.size:=Nat.lt_of_lt_of_le hg8s hsz;have hlw:w.heap.size < wq.heap.size:=B0.1;have hlwz:w.heap.size+1≤(World.drew wx).heap.size:=Nat.le_trans hlw hsz;have hla:(ints xw).length=k * 1:=by rw [ints_len,HWK.out];omega
           have hnn:nn1≤1048576:=by
            have h1:=HN.out.len;have h2:=congrArg List.length HDN.out;have h4:=layStep_len (f:=stepF es) (L:=lets r) ((lay (stepF es) (lets r) k).take i);have h5:((lay (stepF es) (lets r) k).take i).length≤1296:=by
             have h6:=lay_len (f:=stepF es) hLL k;have h7:6 ^ k≤6 ^ 4:=Nat.pow_le_pow_right (by omega) (by omega);rw [List.length_take];omega
            have h8:((lay (stepF es) (lets r) k).take i).length * (lets r).length≤1296 * 6:=Nat.mul_le_mul h5 hLL;have h9:=oneW_len (f:=stepF es) (L:=(lets r).take j) xw;have h10:((lets r).take j).length≤6:=by rw [List.length_take];omega
            rw [rowsD_len,List.length_append] at h2;omega
           have hone1:∀ u∈[Value.int .i64 x],u.oneCell'=true:=by
            intro u hu;simp at hu;subst hu
            rfl
           have hmx:k+1≤maxLen:=by unfold maxLen;omega
           have hby:(k+1) * 8≤140737488355328:=by omega
           have hmx3:0+k≤maxLen:=by unfold maxLen;omega
           have hby3:(0+k) * 8≤140737488355328:=by omega
           have HDN4:Hid (∀ R:Row,R.xs=xw++[x]→rowsD (rowsN1++[R])=layStep (stepF es) (lets r) ((lay (stepF es) (lets r) k).take i)++oneW (stepF es) ((lets r).take (j+1)) xw):=Lib.hid (by
            intro R hR;rw [oneW_yes HX.out hokb,rowsD_append,HDN.out];simp [rowsD,hR])
           clear HO HL HN HLT B0 hm hrv' hwg hsz hlw hokb HDN k0 k1 k2 k4 hA hg8s k5;go_wp2_with fail;refine wp_region_Z (S:=(fun w'=>w'.cell? ⟨g8,j,none⟩=some (.int .i64 x))) [11,12] (by kernel_rfl) kz ?_;generalize World.drew wx=wz at HO2 HL2 HN2 HLT2 B2 hm2 hrv2 kz hg8z hlwz hmz ⊢;refine tkZ [11,12] 0 rfl kz ?_;try simp only [Act.put,zs1,zs2,zs3,zs4,zs5,zs6]
           refine tkZ [3,9,10,11,12] 2 rfl kz ?_;try simp only [Act.put,zs1,zs2,zs3,zs4,zs5,zs6]
           refine tkZ [6,7,8,9,10,11,12] 4 rfl kz ?_;try simp only [Act.put,zs1,zs2,zs3,zs4,zs5,zs6]
           refine tkZ [6,7,8,9,10,11,12] 5 rfl kz ?_;try simp only [Act.put,zs1,zs2,zs3,zs4,zs5,zs6]
           refine tkZ [7,8,9,10,11,12] 6 rfl kz ?_;try simp only [Act.put,zs1,zs2,zs3,zs4,zs5,zs6]
           refine tkZ [8,9,10,11,12] 7 rfl kz ?_;try simp only [Act.put,zs1,zs2,zs3,zs4,zs5,zs6]
           refine wpAnyZ_ready (rs:=[1,8]) (by kernel_rfl) (by simp) (AllReadyZ.cons rfl (fun K hK=>?_) (AllReadyZ.cons rfl (fun K hK=>?_) AllReadyZ.nil))
           ·go_simp
            refine hK.out _ _ (Or.inr (cell_keep (Mid.alloc wz (.cells #[] 3)) hg8z oZr kz)) (fun _=>?_);clear hK K;try simp only [Act.put,zs1,zs2,zs3,zs4,zs5,zs6]
            have hal1:=Mid.alloc wz (.cells #[] 3);have e1:=owns_empty wz 3 1;have hr1:=hrv2.mid hal1 oZl;have k1:=cell_keep hal1 hg8z oZr kz;have hs1:(wz.alloc (.cells #[] 3)).heap.size=wz.heap.size+1:=by simp
            generalize wz.alloc (.cells #[] 3)=wa at hal1 e1 hr1 k1 hs1 ⊢;have hg8a:g8 < wa.heap.size:=by omega
            have hbs3:wz.heap.size≤wa.heap.size:=by omega
            have hlt1:wz.heap.size < wa.heap.size:=by omega
            clear hs1;refine wpAnyZ_ready (rs:=[3,8]) (by kernel_rfl) (by simp) (AllReadyZ.cons rfl (fun K hK=>?_) (AllReadyZ.cons rfl (fun K hK=>?_) AllReadyZ.nil))
            ·(refine step_cat (by rfl) (.tmp 106) (.tmp 107) 34 (by rfl) wz.heap.size 3 (.int .i64 0) 1 8 undSI infoI rfl (by decide) _ 0 _ (by rfl) e1 (some ⟨bw,ow,none⟩) k cw _ (ints xw) (by rfl) hr1.rs hla (one_of_ints _) hmx3 hby3 hbs3 ?_;intro v3 w3 ho3 hgr3 hat3;obtain ⟨A3x,c3x,rfl, -, -⟩:=owns_shape ho3)
             refine hK.out _ _ (Or.inr (cell_keep (Mid.of_grownRow e1 hgr3) hg8a (Or.inl hg8z) k1)) (fun _=>?_);clear hK K;try simp only [Act.put,zs1,zs2,zs3,zs4,zs5,zs6]
             try rw [Nat.zero_add,List.nil_append] at ho3
             try rw [Nat.zero_add]
             have k3:=cell_keep (Mid.of_grownRow e1 hgr3) hg8a (Or.inl hg8z) k1;have hm3:=hal1.transNew (Mid.of_grownRow e1 hgr3) (Or.inl (Nat.le_refl _));have hg83:g8 < w3.heap.size:=Nat.lt_of_lt_of_le hg8z hm3.size;clear hal1 e1 hr1 k1 hgr3 hat3 hbs3;refine rdZ 8 rfl (fun K hK=>?_);go_simp;refine hK.out _ _ (Or.inr (cell_keep (Mid.alloc w3 (.cells #[.int .i64 x] 3)) hg83 oZr k3)) (fun _=>?_);clear hK K;try simp only [Act.put,zs1,zs2,zs3,zs4,zs5,zs6]
             have hal8:=Mid.alloc w3 (.cells #[.int .i64 x] 3);have kc:=cell_keep hal8 hg83 oZr k3;have hmc:=hm3.trans hal8;have hrow:=ho3.alloc (.cells #[.int .i64 x] 3);have hone:=rs_one (w:=w3.alloc (.cells #[.int .i64 x] 3)) (p:=w3.heap.size) (v:=.int .i64 x) (World.cell?_alloc_at _ _ _ _ rfl);generalize w3.alloc (.cells #[.int .i64 x] 3)=wc at hal8 kc hmc hrow hone ⊢;clear hal8 ho3 hm3 k3;have hg8c:g8 < wc.heap.size:=Nat.lt_of_lt_of_le hg8z hmc.size;refine rdZ 9 rfl (fun K hK=>?_)
             (refine step_cat (by rfl) (.tmp 108) (.tmp 113) 34 (by rfl) wz.heap.size 3 (.int .i64 0) 1 8 undSI infoI rfl (by decide) (.slice A3x k c3x) k _ (by rfl) hrow (some ⟨w3.heap.size,0,none⟩) 1 1 _ [.int .i64 x] (by rfl) hone rfl hone1 hmx hby hmc.size ?_;intro v9 w9 ho9 hgr9 hat9;obtain ⟨A9x,c9x,rfl, -, -⟩:=owns_shape ho9)
             refine hK.out _ _ (Or.inr (cell_keep (Mid.of_grownRow hrow hgr9) hg8c (Or.inl hg8z) kc)) (fun _=>?_);clear hK K;try simp only [Act.put,zs1,zs2,zs3,zs4,zs5,zs6]
             have k9:=cell_keep (Mid.of_grownRow hrow hgr9) hg8c (Or.inl hg8z) kc;have hm9:=hmc.transNew (Mid.of_grownRow hrow hgr9) (Or.inl (Nat.le_refl _));have hg89:g8 < w9.heap.size:=Nat.lt_of_lt_of_le hg8z hm9.size;have hrow9:w9.ownsRow wz.heap.size 3 1 (Row.v ⟨A9x,c9x,xw++[x]⟩) (xw++[x]).length (ints (xw++[x])):=pushE (by rw [ints_append];exact ho9) HWK.out;have hu9:Row.v ⟨A9x,c9x,xw++[x]⟩=.slice A9x (k+1) c9x:=by simp only [Row.v,List.length_append,HWK.out,List.length_singleton]
             clear ho9 hgr9 hat9 hrow hone hmc kc;refine rdZ 10 rfl (fun K hK=>?_);go_simp;refine hK.out _ _ (Or.inr (cell_keep (Mid.alloc w9 (.cells #[.slice A9x (k+1) c9x] 34)) hg89 oZr k9)) (fun _=>?_);clear hK K;try simp only [Act.put,zs1,zs2,zs3,zs4,zs5,zs6]
             refine rdZ 11 rfl (fun K hK=>?_)
             (refine step_push1 (by rfl) (.tmp 105) (.tmp 115) (by rfl) (by rfl) HN2.out hm9 ⟨A9x,c9x,xw++[x]⟩ (.slice A9x (k+1) c9x) hu9 hrow9 (by rfl) hnn hlwz ?_;intro A11 c11 w11 hN11 hgr11 hat11)
             refine hK.out _ _ (Or.inl (by simp)) (fun _=>?_);clear hK K;try simp only [Act.put,zs1,zs2,zs3,zs4,zs5,zs6]
             have hO9:=HO2.out.mid hm9;have hL9:=HL2.out.mid hm9;have hN9:=HN2.out.mid hm9;have hLT9:=owns_mid HLT2.out hm9 oZl;have B9:=B2.mid hm9 oZr;have hm9':=hm2.trans hm9;have hlo:∀ g,obS A5 nn1 c5=some g→w.heap.size+1≤g:=fun g hg=>(hN9.lt hg).1;have HO11:=Lib.hid (hO9.other hN9 HAPO.out hgr11);have HL11:=Lib.hid (hL9.other hN9 HAPL.out hgr11);have HN11:=Lib.hid hN11;have HLT11:=Lib.hid (hLT9.kept hgr11 (owns_ne hLT9 hN9.out (by decide)));have B11:=B9.grown hgr11 (by intro h0;have:=hlo _ h0;omega);have hm11:=hm9'.grownNew hgr11 (fun g hg=>by have:=hlo g hg;omega);have HAPO11:=Lib.hid ((HAPO.out.symm.push hat11 hO9).symm);have HAPL11:=Lib.hid ((HAPL.out.symm.push hat11 hL9).symm);have HDN11:=Lib.hid (HDN4.out ⟨A9x,c9x,xw++[x]⟩ rfl);clear hN11 hgr11 hat11 hO9 hL9 hN9 hLT9 B9 hm9' hlo HO2 HL2 HN2 HLT2 B2 hm2 hm9 hmz HAPO HAPL HDN4 hrow9 hu9 hrv2 kz k9;refine rdZ 12 rfl (fun K hK=>?_);go_simp;refine hK.out _ _ (Or.inl (by simp)) (fun _=>?_);clear hK K;try simp only [Act.put,zs1,zs2,zs3,zs4,zs5,zs6]
             refine wpAnyZ_done (by kernel_rfl) ?_ _;go_wp2_with fail;go_roundw
             case rel=>exact ⟨j+1,nn1+1,_,A11,c11,by go_num,rfl,Lib.hid (by omega),HDN11,HO11,HL11,HN11,HAPO11,HAPL11,HLT11,B11,hm11⟩
             case measure=>simp [intOf];omega
            ·go_simp
             refine hK.out _ _ (Or.inr (cell_keep (Mid.alloc wa (.cells #[.int .i64 x] 3)) hg8a oZr k1)) (fun _=>?_);clear hK K;try simp only [Act.put,zs1,zs2,zs3,zs4,zs5,zs6]
             have hal8:=Mid.alloc wa (.cells #[.int .i64 x] 3);have k8:=cell_keep hal8 hg8a oZr k1;have hm8:=hal1.trans hal8;replace e1:=e1.alloc (.cells #[.int .i64 x] 3);replace hr1:=hr1.mid hal8 oZl;have c8:(wa.alloc (.cells #[.int .i64 x] 3)).cell? ⟨wa.heap.size,0,none⟩=some (.int .i64 x):=World.cell?_alloc_at _ _ _ _ rfl;have hs8:(wa.alloc (.cells #[.int .i64 x] 3)).heap.size=wa.heap.size+1:=by simp
             generalize wa.alloc (.cells #[.int .i64 x] 3)=w8 at hal8 k8 hm8 e1 hr1 c8 hs8 ⊢;have hg88:g8 < w8.heap.size:=by omega
             replace hbs3:wz.heap.size≤w8.heap.size:=by omega
             have hlt8:wa.heap.size < w8.heap.size:=by omega
             clear k1 hal1 hal8 hs8;refine rdZ 3 rfl (fun K hK=>?_)
             (refine step_cat (by rfl) (.tmp 106) (.tmp 107) 34 (by rfl) wz.heap.size 3 (.int .i64 0) 1 8 undSI infoI rfl (by decide) _ 0 _ (by rfl) e1 (some ⟨bw,ow,none⟩) k cw _ (ints xw) (by rfl) hr1.rs hla (one_of_ints _) hmx3 hby3 hbs3 ?_;intro v3 w3 ho3 hgr3 hat3;obtain ⟨A3x,c3x,rfl, -, -⟩:=owns_shape ho3)
             refine hK.out _ _ (Or.inr (cell_keep (Mid.of_grownRow e1 hgr3) hg88 (Or.inl hg8z) k8)) (fun _=>?_);clear hK K;try simp only [Act.put,zs1,zs2,zs3,zs4,zs5,zs6]
             try rw [Nat.zero_add,List.nil_append] at ho3
             try rw [Nat.zero_add]
             have kc:=cell_keep (Mid.of_grownRow e1 hgr3) hg88 (Or.inl hg8z) k8;have hmc:=hm8.transNew (Mid.of_grownRow e1 hgr3) (Or.inl (Nat.le_refl _));have hrow:=ho3;have hone:=rs_one (cell_grown hgr3 (show wa.heap.size < w8.heap.size by omega) (own_ne (by omega)) c8);generalize w3=wc at kc hmc hrow hone ⊢;clear hm8 k8 e1 hr1 c8 hgr3 hat3 ho3;have hg8c:g8 < wc.heap.size:=Nat.lt_of_lt_of_le hg8z hmc.size;refine rdZ 9 rfl (fun K hK=>?_)
             (refine step_cat (by rfl) (.tmp 108) (.tmp 113) 34 (by rfl) wz.heap.size 3 (.int .i64 0) 1 8 undSI infoI rfl (by decide) (.slice A3x k c3x) k _ (by rfl) hrow (some ⟨wa.heap.size,0,none⟩) 1 1 _ [.int .i64 x] (by rfl) hone rfl hone1 hmx hby hmc.size ?_;intro v9 w9 ho9 hgr9 hat9;obtain ⟨A9x,c9x,rfl, -, -⟩:=owns_shape ho9)
             refine hK.out _ _ (Or.inr (cell_keep (Mid.of_grownRow hrow hgr9) hg8c (Or.inl hg8z) kc)) (fun _=>?_);clear hK K;try simp only [Act.put,zs1,zs2,zs3,zs4,zs5,zs6]
             have k9:=cell_keep (Mid.of_grownRow hrow hgr9) hg8c (Or.inl hg8z) kc;have hm9:=hmc.transNew (Mid.of_grownRow hrow hgr9) (Or.inl (Nat.le_refl _));have hg89:g8 < w9.heap.size:=Nat.lt_of_lt_of_le hg8z hm9.size;have hrow9:w9.ownsRow wz.heap.size 3 1 (Row.v ⟨A9x,c9x,xw++[x]⟩) (xw++[x]).length (ints (xw++[x])):=pushE (by rw [ints_append];exact ho9) HWK.out;have hu9:Row.v ⟨A9x,c9x,xw++[x]⟩=.slice A9x (k+1) c9x:=by simp only [Row.v,List.length_append,HWK.out,List.length_singleton]
             clear ho9 hgr9 hat9 hrow hone hmc kc;refine rdZ 10 rfl (fun K hK=>?_);go_simp;refine hK.out _ _ (Or.inr (cell_keep (Mid.alloc w9 (.cells #[.slice A9x (k+1) c9x] 34)) hg89 oZr k9)) (fun _=>?_);clear hK K;try simp only [Act.put,zs1,zs2,zs3,zs4,zs5,zs6]
             refine rdZ 11 rfl (fun K hK=>?_)
             (refine step_push1 (by rfl) (.tmp 105) (.tmp 115) (by rfl) (by rfl) HN2.out hm9 ⟨A9x,c9x,xw++[x]⟩ (.slice A9x (k+1) c9x) hu9 hrow9 (by rfl) hnn hlwz ?_;intro A11 c11 w11 hN11 hgr11 hat11)
             refine hK.out _ _ (Or.inl (by simp)) (fun _=>?_);clear hK K;try simp only [Act.put,zs1,zs2,zs3,zs4,zs5,zs6]
             have hO9:=HO2.out.mid hm9;have hL9:=HL2.out.mid hm9;have hN9:=HN2.out.mid hm9;have hLT9:=owns_mid HLT2.out hm9 oZl;have B9:=B2.mid hm9 oZr;have hm9':=hm2.trans hm9;have hlo:∀ g,obS A5 nn1 c5=some g→w.heap.size+1≤g:=fun g hg=>(hN9.lt hg).1;have HO11:=Lib.hid (hO9.other hN9 HAPO.out hgr11);have HL11:=Lib.hid (hL9.other hN9 HAPL.out hgr11);have HN11:=Lib.hid hN11;have HLT11:=Lib.hid (hLT9.kept hgr11 (owns_ne hLT9 hN9.out (by decide)));have B11:=B9.grown hgr11 (by intro h0;have:=hlo _ h0;omega);have hm11:=hm9'.grownNew hgr11 (fun g hg=>by have:=hlo g hg;omega);have HAPO11:=Lib.hid ((HAPO.out.symm.push hat11 hO9).symm);have HAPL11:=Lib.hid ((HAPL.out.symm.push hat11 hL9).symm);have HDN11:=Lib.hid (HDN4.out ⟨A9x,c9x,xw++[x]⟩ rfl);clear hN11 hgr11 hat11 hO9 hL9 hN9 hLT9 B9 hm9' hlo HO2 HL2 HN2 HLT2 B2 hm2 hm9 hmz HAPO HAPL HDN4 hrow9 hu9 hrv2 kz k9;refine rdZ 12 rfl (fun K hK=>?_);go_simp;refine hK.out _ _ (Or.inl (by simp)) (fun _=>?_);clear hK K;try simp only [Act.put,zs1,zs2,zs3,zs4,zs5,zs6]
             refine wpAnyZ_done (by kernel_rfl) ?_ _;go_wp2_with fail;go_roundw
             case rel=>exact ⟨j+1,nn1+1,_,A11,c11,by go_num,rfl,Lib.hid (by omega),HDN11,HO11,HL11,HN11,HAPO11,HAPL11,HLT11,B11,hm11⟩
             case measure=>simp [intOf];omega
           ·go_simp
            refine hK.out _ _ (Or.inr (cell_keep (Mid.alloc wz (.cells #[.int .i64 x] 3)) hg8z oZr kz)) (fun _=>?_);clear hK K;try simp only [Act.put,zs1,zs2,zs3,zs4,zs5,zs6]
            have hal8:=Mid.alloc wz (.cells #[.int .i64 x] 3);have k8:=cell_keep hal8 hg8z oZr kz;have hr8:=hrv2.mid hal8 oZl;have c8:(wz.alloc (.cells #[.int .i64 x] 3)).cell? ⟨wz.heap.size,0,none⟩=some (.int .i64 x):=World.cell?_alloc_at _ _ _ _ rfl;have hs8:(wz.alloc (.cells #[.int .i64 x] 3)).heap.size=wz.heap.size+1:=by simp
            generalize wz.alloc (.cells #[.int .i64 x] 3)=w8 at hal8 k8 hr8 c8 hs8 ⊢;have hg88:g8 < w8.heap.size:=by omega
            have hlt8:wz.heap.size < w8.heap.size:=by omega
            clear hs8;refine rdZ 1 rfl (fun K hK=>?_);go_simp;refine hK.out _ _ (Or.inr (cell_keep (Mid.alloc w8 (.cells #[] 3)) hg88 oZr k8)) (fun _=>?_);clear hK K;try simp only [Act.put,zs1,zs2,zs3,zs4,zs5,zs6]
            have hal1:=Mid.alloc w8 (.cells #[] 3);have e1:=owns_empty w8 3 1;have hr1:=hr8.mid hal1 oZl;have c1:=cell_keep hal1 (show wz.heap.size < w8.heap.size by omega) oZr c8;have k1:=cell_keep hal1 hg88 oZr k8;have hm1':=hal8.trans hal1;have hs1:(w8.alloc (.cells #[] 3)).heap.size=w8.heap.size+1:=by simp
            generalize w8.alloc (.cells #[] 3)=wa at hal1 e1 hr1 c1 k1 hm1' hs1 ⊢;have hg8a:g8 < wa.heap.size:=by omega
            have hbs3:w8.heap.size≤wa.heap.size:=by omega
            have hlt1:w8.heap.size < wa.heap.size:=by omega
            clear hal8 hal1 k8 hr8 c8 hs1;refine rdZ 3 rfl (fun K hK=>?_)
            (refine step_cat (by rfl) (.tmp 106) (.tmp 107) 34 (by rfl) w8.heap.size 3 (.int .i64 0) 1 8 undSI infoI rfl (by decide) _ 0 _ (by rfl) e1 (some ⟨bw,ow,none⟩) k cw _ (ints xw) (by rfl) hr1.rs hla (one_of_ints _) hmx3 hby3 hbs3 ?_;intro v3 w3 ho3 hgr3 hat3;obtain ⟨A3x,c3x,rfl, -, -⟩:=owns_shape ho3)
            refine hK.out _ _ (Or.inr (cell_keep (Mid.of_grownRow e1 hgr3) hg8a (Or.inl hg88) k1)) (fun _=>?_);clear hK K;try simp only [Act.put,zs1,zs2,zs3,zs4,zs5,zs6]
            try rw [Nat.zero_add,List.nil_append] at ho3
            try rw [Nat.zero_add]
            have kc:=cell_keep (Mid.of_grownRow e1 hgr3) hg8a (Or.inl hg88) k1;have hmc:=hm1'.transNew (Mid.of_grownRow e1 hgr3) (Or.inl (by omega));have hrow:=owns_base ho3 (show wz.heap.size≤w8.heap.size by omega);have hone:=rs_one (cell_grown hgr3 (show wz.heap.size < wa.heap.size by omega) (own_ne (by omega)) c1);generalize w3=wc at kc hmc hrow hone ⊢;clear e1 hr1 c1 k1 hm1' hgr3 hat3 ho3;have hg8c:g8 < wc.heap.size:=Nat.lt_of_lt_of_le hg8z hmc.size;refine rdZ 9 rfl (fun K hK=>?_)
            (refine step_cat (by rfl) (.tmp 108) (.tmp 113) 34 (by rfl) wz.heap.size 3 (.int .i64 0) 1 8 undSI infoI rfl (by decide) (.slice A3x k c3x) k _ (by rfl) hrow (some ⟨wz.heap.size,0,none⟩) 1 1 _ [.int .i64 x] (by rfl) hone rfl hone1 hmx hby hmc.size ?_;intro v9 w9 ho9 hgr9 hat9;obtain ⟨A9x,c9x,rfl, -, -⟩:=owns_shape ho9)
            refine hK.out _ _ (Or.inr (cell_keep (Mid.of_grownRow hrow hgr9) hg8c (Or.inl hg8z) kc)) (fun _=>?_);clear hK K;try simp only [Act.put,zs1,zs2,zs3,zs4,zs5,zs6]
            have k9:=cell_keep (Mid.of_grownRow hrow hgr9) hg8c (Or.inl hg8z) kc;have hm9:=hmc.transNew (Mid.of_grownRow hrow hgr9) (Or.inl (Nat.le_refl _));have hg89:g8 < w9.heap.size:=Nat.lt_of_lt_of_le hg8z hm9.size;have hrow9:w9.ownsRow wz.heap.size 3 1 (Row.v ⟨A9x,c9x,xw++[x]⟩) (xw++[x]).length (ints (xw++[x])):=pushE (by rw [ints_append];exact ho9) HWK.out;have hu9:Row.v ⟨A9x,c9x,xw++[x]⟩=.slice A9x (k+1) c9x:=by simp only [Row.v,List.length_append,HWK.out,List.length_singleton]
            clear ho9 hgr9 hat9 hrow hone hmc kc;refine rdZ 10 rfl (fun K hK=>?_);go_simp;refine hK.out _ _ (Or.inr (cell_keep (Mid.alloc w9 (.cells #[.slice A9x (k+1) c9x] 34)) hg89 oZr k9)) (fun _=>?_);clear hK K;try simp only [Act.put,zs1,zs2,zs3,zs4,zs5,zs6]
            refine rdZ 11 rfl (fun K hK=>?_)
            (refine step_push1 (by rfl) (.tmp 105) (.tmp 115) (by rfl) (by rfl) HN2.out hm9 ⟨A9x,c9x,xw++[x]⟩ (.slice A9x (k+1) c9x) hu9 hrow9 (by rfl) hnn hlwz ?_;intro A11 c11 w11 hN11 hgr11 hat11)
            refine hK.out _ _ (Or.inl (by simp)) (fun _=>?_);clear hK K;try simp only [Act.put,zs1,zs2,zs3,zs4,zs5,zs6]
            have hO9:=HO2.out.mid hm9;have hL9:=HL2.out.mid hm9;have hN9:=HN2.out.mid hm9;have hLT9:=owns_mid HLT2.out hm9 oZl;have B9:=B2.mid hm9 oZr;have hm9':=hm2.trans hm9;have hlo:∀ g,obS A5 nn1 c5=some g→w.heap.size+1≤g:=fun g hg=>(hN9.lt hg).1;have HO11:=Lib.hid (hO9.other hN9 HAPO.out hgr11);have HL11:=Lib.hid (hL9.other hN9 HAPL.out hgr11);have HN11:=Lib.hid hN11;have HLT11:=Lib.hid (hLT9.kept hgr11 (owns_ne hLT9 hN9.out (by decide)));have B11:=B9.grown hgr11 (by intro h0;have:=hlo _ h0;omega);have hm11:=hm9'.grownNew hgr11 (fun g hg=>by have:=hlo g hg;omega);have HAPO11:=Lib.hid ((HAPO.out.symm.push hat11 hO9).symm);have HAPL11:=Lib.hid ((HAPL.out.symm.push hat11 hL9).symm);have HDN11:=Lib.hid (HDN4.out ⟨A9x,c9x,xw++[x]⟩ rfl);clear hN11 hgr11 hat11 hO9 hL9 hN9 hLT9 B9 hm9' hlo HO2 HL2 HN2 HLT2 B2 hm2 hm9 hmz HAPO HAPL HDN4 hrow9 hu9 hrv2 kz k9;refine rdZ 12 rfl (fun K hK=>?_);go_simp;refine hK.out _ _ (Or.inl (by simp)) (fun _=>?_);clear hK K;try simp only [Act.put,zs1,zs2,zs3,zs4,zs5,zs6]
            refine wpAnyZ_done (by kernel_rfl) ?_ _;go_wp2_with fail;go_roundw
            case rel=>exact ⟨j+1,nn1+1,_,A11,c11,by go_num,rfl,Lib.hid (by omega),HDN11,HO11,HL11,HN11,HAPO11,HAPL11,HLT11,B11,hm11⟩
            case measure=>simp [intOf];omega
       ·obtain rfl:LL=j:=by omega
        have htk:(lets r).take LL=lets r:=List.take_of_length_le (by rw [HLe.out];exact Nat.le_refl _);have HDN2:Hid (rowsD rowsN1=layStep (stepF es) (lets r) ((lay (stepF es) (lets r) k).take (i+1))):=Lib.hid (by rw [HLS.out,HDN.out,htk]);have hw2:IntKind.i64.wrap ((i:Int)+1)=(i:Int)+1:=IntWalk.i64_in _ (by omega);clear htk HDN;go_wp2_with fail;go_roundw
        case rel =>
         exact ⟨i+1,no1,nn1,_,rowsN1,A3,A5,c3,c5,by go_num,rfl,rfl,Lib.hid (by omega),HDO9,HDN2,HO,HL,HN,HAP9,HAPO,HAPL,HLT,B0,hm⟩
        case measure=>simp [intOf];omega
    ·obtain rfl:nl=i:=by omega
     have htk:(lay (stepF es) (lets r) k).take nl=lay (stepF es) (lets r) k:=List.take_of_length_le (by rw [← HDL.out,rowsD_len,HL.out.len];exact Nat.le_refl _);have HDO2:Hid (rowsD rowsO1=(pre (stepF es) (lets r) (k+1)).filter (loopB es)):=Lib.hid (by rw [HDO.out,htk];rfl);have HDN2:Hid (rowsD rowsN=lay (stepF es) (lets r) (k+1)):=Lib.hid (by rw [HDN.out,htk];rfl);have hw2:IntKind.i64.wrap ((k:Int)+1)=(k:Int)+1:=IntWalk.i64_in _ (by omega);clear htk HDO HDN;go_wp2_with fail;go_roundw
     case rel=>exact ⟨k+1,no1,nn,rowsO1,rowsN,A3,A4,c3,c4,by go_num,rfl,rfl,Lib.hid (by omega),HDO2,HDN2,HO,HN,HAPO,HLT,B0,hm⟩
     case measure=>simp [intOf];omega
  ·obtain rfl:k=n+1:=by omega
   have hk1:¬ (((n+1:Nat):Int)≤(n:Int)):=by omega
   have d1:decide (((n+1:Nat):Int)≤(n:Int))=false:=by simp;omega
   have hln:(loopL es r n).length=no:=by unfold loopL;rw [← HDO.out,rowsD_len];exact HO.out.len
   have HQ:Hid (OSS wo w.heap.size wo.heap.size 34 3 A1 c1 (loopL es r n)):=Lib.hid ((HO.out.base (Nat.le_succ _)).oss HDO.out);subst hln;clear HDO HDL HO HL HAP HLT HLB HPB HFO;go_wp2_with fail;go_ret;exact ⟨_,_,rfl,HQ.out,hm⟩
end
end Go.Proofs.YthampgpcajmopaaGreat
