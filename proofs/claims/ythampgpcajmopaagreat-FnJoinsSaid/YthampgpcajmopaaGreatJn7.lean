/- Contracts and lemmas of this seat, many texts in one: see the words ahead of each. No condition beyond those typed in each lemma. -/
import Derived.Test.YthampgpcajmopaaGreatJn6
import Derived.Test.YthampgpcajmopaaGreatJn1
import Derived.Test.YthampgpcajmopaaGreatJn2
import Derived.Test.YthampgpcajmopaaGreatJn4

namespace Go.Proofs.YthampgpcajmopaaGreat
set_option linter.unusedVariables false
set_option linter.unusedSimpArgs false
set_option maxHeartbeats 40000000
set_option maxRecDepth 100000
section
open Go.RowKit
theorem rdA_is {es:List Ed}:∀ {w:List Int} {v u:Int} {k:Nat},goV es v (w.take k)=some u→k≤w.length→(k=w.length ∨ ∃ x,w[k]?=some x∧nextV es u x < 0)→rdA es v w=(u,k)
 | [],v,u,k,h,hk,h2=>by
  obtain rfl:k=0:=by simpa using hk
  rw [List.take_nil,goV] at h;injection h with h
  subst h
  rfl
 | x :: t,v,u,0,h,hk,h2=>by
  rw [List.take_zero,goV] at h;injection h with h
  subst h;rcases h2 with h2 | ⟨y,hy,hn⟩
  ·simp at h2
  ·simp at hy
   subst hy;rw [rdA,if_pos hn]
 | x :: t,v,u,k+1,h,hk,h2=>by
  rw [List.take_succ_cons,goV] at h;split at h
  ·cases h
  ·rename_i hn
   have ih:=rdA_is (w:=t) h (by simpa using hk) (by
    rcases h2 with h2 | ⟨y,hy,hy2⟩
    ·exact .inl (by simpa using h2)
    ·exact .inr ⟨y,by simpa using hy,hy2⟩)
   rw [rdA,if_neg hn,ih]
end
section
open Go.RowKit
end
section
open Go.RowKit
end
section
open Go.RowKit
end
section
open Go.RowKit
theorem invB_spec {a x:Int} (ha:-9223372036854775808≤a∧a≤9223372036854775807) (hx:-9223372036854775808≤x∧x≤9223372036854775807) :
  invB a x=true↔(x≠0∧a=wrap64 (-x)∧a≠x):=by
 rw [invB_iff,wrap_neg hx.1 hx.2];unfold negI minI;split <;> omega
def RdOut (w wr:World) (v:Value) (out:List Int):Prop:=wr.ownsRow w.heap.size 3 1 v out.length (ints out)∧Below w.heap.size w wr
theorem spec_ReduceLetters (A:Option Addr) (xs:List Int) (c:Nat) (w:World) (B:Nat) (hr:Rs w B A (ints xs)) (hB:B≤w.heap.size) (hok:OkI xs) (hl:xs.length≤268435456) :
  Calls Tryz.prog 109 #[.slice A xs.length c] w fun e w'=>RetI 3 (red [] xs) w e w':=by
 have HOK:=Lib.hid hok;clear hok;have hb0:=(Below.refl w.heap.size w).alloc (Nat.le_refl _) (.cells #[] 3);have ho0:=owns_empty w 3 1;go_enter Tryz.func109,Tryz.ntmps109
 go_wp2_with fail;go_loopw [3,4,5] (fun v i _ wr=>∃ k:Nat,k≤xs.length∧i=.int .i64 k∧RdOut w wr v (red [] (xs.take k))) (fun _ i _ _=>xs.length - (intOf i).toNat)
 case atStart=>exact ⟨0,Nat.zero_le _,rfl,ho0,hb0⟩
 case round =>
  obtain ⟨k,hk,rfl,hown,hb⟩:=hrel;have hsz:=hb.size;by_cases hlt:k < xs.length
  ·obtain ⟨b,off,x,rfl, -,hxx,hc⟩:=((hr.more hB).below hb).int hlt
   have hlt3:(k:Int) < (xs.length:Int):=by omega
   have hst:=red_step xs hxx [];have hbx:=HOK.out x (List.mem_of_getElem? hxx);have hlen:=red_len [] (xs.take k);rw [List.length_take,List.length_nil,Nat.zero_add] at hlen;have hok1:OkI (red [] (xs.take k)):=red_ok fun y hy=>HOK.out y (List.mem_of_mem_take hy);obtain ⟨out1,ho1⟩:∃ o,o=red [] (xs.take k):=⟨_,rfl⟩
   rw [← ho1] at hown hst hlen hok1;have HBX:=Lib.hid hbx;have HST:=Lib.hid hst;clear ho1 hxx hbx hst;rcases Nat.eq_zero_or_pos out1.length with he | hp
   ·obtain rfl:=List.eq_nil_of_length_eq_zero he
    clear he hok1 hlen;obtain ⟨A1,c1,rfl, -, -⟩:=owns_shape hown;go_wp2_with fail;go_quiet (fail)
    go_wp2_with (at_builtin;refine wpList_push rfl _ _ 34 rfl w.heap.size 3 (.int .i64 0) 1 8 undSI infoI rfl (by decide) _ _ _ rfl (owns_drewN hown _) 1 [.int .i64 x] rfl rfl (one_of_ints [x]) (by unfold maxLen;simp) (by simp) hsz ?n1)
    case n1 =>
     intro v' w1 hown1 hgr _;go_wp2_with fail;go_roundw
     case rel =>
      refine ⟨k+1,by omega,by go_num,?_,hb.grown (owns_row hgr) hsz (fun g hg=>(hown.lt g hg).1)⟩;rw [HST.out,redStep_empty];exact hown1
     case measure=>simp [intOf];omega
   ·obtain ⟨ys,a,rfl⟩:=eq_concat out1 hp
    have hba:=hok1 a (by simp);rw [List.length_append] at hown hlen;simp only [List.length_cons,List.length_nil,Nat.zero_add] at hown hlen;clear hp hok1;obtain ⟨A1,c1,rfl,hnc, -⟩:=owns_shape hown;obtain ⟨g,rfl, -, -⟩:=owns_addr hown (Nat.succ_pos _);have hca:wr.cell? ⟨g,ys.length,none⟩=some (.int .i64 a):=by
     rw [hown.cellAt ys.length (by omega)];simp [ints]
    have hiff:=invB_spec hba HBX.out;have HI:=Lib.hid hiff;clear hba hiff;obtain ⟨nx,hnx⟩:∃ nx,wrap64 (-x)=nx:=⟨_,rfl⟩
    have hp0:(0:Int) < (ys.length:Int)+1:=by omega
    have hp1:(ys.length:Int)+1 - 1=(ys.length:Int):=by omega
    have hys:ys.length≤c1:=by omega
    by_cases hpop:invB a x=true
    ·obtain ⟨h1,h2,h3⟩:=HI.out.1 hpop
     have hx0:(x != 0)=true:=by simpa using h1
     have hanx:(a == nx)=true:=by rw [← hnx];simpa using h2
     have hax:(a != x)=true:=by simpa using h3
     have HP:=Lib.hid hpop;clear h1 h2 h3 hpop;go_wp2_with fail;go_quiet (fail)
     go_wp2_with fail;go_roundw
     case rel =>
      refine ⟨k+1,by omega,by go_num,?_,by first | exact below_drewN hb _ | exact hb⟩;rw [HST.out,redStep_pop HP.out];have h1:=owns_cut hown (Nat.le_succ ys.length);rw [Nat.mul_one,ints_append,List.take_left' (ints_len ys)] at h1;exact owns_drewN h1 _
     case measure=>simp [intOf];omega
    ·have hpf:invB a x=false:=by simpa using hpop
     have HP:=Lib.hid hpf;have hcases:(x != 0)=false ∨ ((x != 0)=true∧(a == nx)=false) ∨ ((x != 0)=true∧(a == nx)=true∧(a != x)=false):=by
      rw [← hnx];by_cases h1:x=0
      ·left;simpa using h1
      ·by_cases h2:a=wrap64 (-x)
       ·right;right
        refine ⟨by simpa using h1,by simpa using h2,?_⟩;cases hv:(a != x) with
        | false=>rfl
        | true=>exact absurd (HI.out.2 ⟨h1,h2,by simpa using hv⟩) hpop
       ·right;left
        exact ⟨by simpa using h1,by simpa using h2⟩
     clear hpop hpf;rcases hcases with h1 | ⟨h1,h2⟩ | ⟨h1,h2,h3⟩
     ·go_wp2_with fail
      go_quiet (fail)
      go_wp2_with (at_builtin;refine wpList_push rfl _ _ 34 rfl w.heap.size 3 (.int .i64 0) 1 8 undSI infoI rfl (by decide) _ _ _ rfl (owns_drewN hown _) 1 [.int .i64 x] rfl rfl (one_of_ints [x]) (by unfold maxLen;omega) (by omega) hsz ?n2)
      case n2 =>
       intro v' w1 hown1 hgr _;go_wp2_with fail;go_roundw
       case rel =>
        refine ⟨k+1,by omega,by go_num,?_,hb.grown (owns_row hgr) hsz (fun g hg=>(hown.lt g hg).1)⟩;rw [HST.out,redStep_push HP.out,ints_append,List.length_append,List.length_append];exact hown1
       case measure=>simp [intOf];omega
     ·go_wp2_with fail
      go_quiet (fail)
      go_wp2_with (at_builtin;refine wpList_push rfl _ _ 34 rfl w.heap.size 3 (.int .i64 0) 1 8 undSI infoI rfl (by decide) _ _ _ rfl (owns_drewN hown _) 1 [.int .i64 x] rfl rfl (one_of_ints [x]) (by unfold maxLen;omega) (by omega) hsz ?n3)
      case n3 =>
       intro v' w1 hown1 hgr _;go_wp2_with fail;go_roundw
       case rel =>
        refine ⟨k+1,by omega,by go_num,?_,hb.grown (owns_row hgr) hsz (fun g hg=>(hown.lt g hg).1)⟩;rw [HST.out,redStep_push HP.out,ints_append,List.length_append,List.length_append];exact hown1
       case measure=>simp [intOf];omega
     ·go_wp2_with fail
      go_quiet (fail)
      go_wp2_with (at_builtin;refine wpList_push rfl _ _ 34 rfl w.heap.size 3 (.int .i64 0) 1 8 undSI infoI rfl (by decide) _ _ _ rfl (owns_drewN hown _) 1 [.int .i64 x] rfl rfl (one_of_ints [x]) (by unfold maxLen;omega) (by omega) hsz ?n4)
      case n4 =>
       intro v' w1 hown1 hgr _;go_wp2_with fail;go_roundw
       case rel =>
        refine ⟨k+1,by omega,by go_num,?_,hb.grown (owns_row hgr) hsz (fun g hg=>(hown.lt g hg).1)⟩;rw [HST.out,redStep_push HP.out,ints_append,List.length_append,List.length_append];exact hown1
       case measure=>simp [intOf];omega
  ·obtain rfl:k=xs.length:=by omega
   rw [List.take_length] at hown;have hlr:=red_nil_len xs;obtain ⟨out,hout⟩:∃ o,o=red [] xs:=⟨_,rfl⟩
   rw [← hout] at hown hlr;have HO:=Lib.hid hout;clear hout;obtain ⟨A1,c1,rfl,hnc, -⟩:=owns_shape hown;have ho2:=owns_empty wr 3 1;have ho2':(wr.alloc (.cells #[] 3)).ownsRow w.heap.size 3 1 (.slice (some ⟨wr.heap.size,0,none⟩) 0 0) 0 []:=owns_base ho2 hsz;have hra:Rs (wr.alloc (.cells #[] 3)) wr.heap.size A1 (ints out):=(Rs.of_own hown).alloc (Nat.le_refl _) _;have hla:(ints out).length=out.length * 1:=by rw [ints_len];omega
   go_wp2_with (at_builtin;refine wpList_cat rfl _ _ 34 rfl w.heap.size 3 (.int .i64 0) 1 8 undSI infoI rfl (by decide) _ _ _ rfl ho2' A1 out.length c1 wr.heap.size (ints out) rfl hra hla (one_of_ints _) ?c2 ?c3 (by simp;omega) ?next)
   case c2=>unfold maxLen;omega
   case c3=>omega
   case next =>
    intro v1 w1 hown1 hgr1 _;have hb1:Below w.heap.size w w1:=(hb.grown (World.grownBy_alloc wr _ none) hsz (by intro g h;cases h)).grown hgr1 (by simp;omega) (fun g hg=>(ho2'.lt g hg).1);go_wp2_with fail;go_ret;rw [← HO.out];exact RetI.mk rfl (by simpa using hown1) hb1
end
section
open Go.RowKit
theorem impl_loops (r n:Nat) (A:Option Addr) (es:List Ed) (c:Nat) (Aw:Option Addr) (wd:List Int) (cw:Nat) (w:World) (lo hi lo' hi':Nat) (hr:RG w lo hi A es) (hw:RV w lo' hi' Aw (ints wd)) (hg:IsGr r n es) (hwl:wd.length≤1048576) (hok:OkI wd) (b:Bool) (hb:b=true↔LoopP es wd) :
  Calls Tryz.prog 106 #[graV r n A es.length c,.slice Aw wd.length cw] w fun e w'=>e=.returned (.bool b)∧Mid 0 0 w w':=by
 have hm0:Mid 0 0 w (w.alloc (.cells #[.int .i64 r,.int .i64 n,.slice A es.length c] 26)):=Mid.alloc _ _;have b0:=Box.new w #[.int .i64 r,.int .i64 n,.slice A es.length c] 26;have HB:=Lib.hid hb;clear hb;go_enter Tryz.func106,Tryz.ntmps106
 go_wp2_with fail;with_reducible refine (impl_read r n A es c 0 Aw wd cw _ _ _ _ _ (hr.mid hm0 oZl) (hw.mid hm0 oZl) hg hwl hok).mono ?_
 rintro en w2 ⟨u,k,rfl,hk,hgo,hend,hm2⟩;have hrd:rdA es 0 wd=(u,k):=rdA_is hgo hk hend;have hL:LoopP es wd↔k=wd.length∧u=0:=by unfold LoopP;rw [hrd]
 have HL:=Lib.hid hL;clear hgo hend hrd hL;rcases (Decidable.em (k=wd.length)).symm with h1 | h1
 ·have dk:((k:Int) == (wd.length:Int))=false:=by simp only [beq_eq_false_iff_ne];omega
  obtain rfl:b=false:=bool_no HB.out fun h=>h1 (HL.out.1 h).1;clear h1;go_wp2_with fail;go_ret;exact ⟨rfl,hm0.trans hm2⟩
 ·subst h1
  rcases (Decidable.em (u=0)).symm with h2 | h2
  ·have dk:(u == 0)=false:=by simpa using h2
   obtain rfl:b=false:=bool_no HB.out fun h=>h2 (HL.out.1 h).2;clear h2;go_wp2_with fail;go_ret;exact ⟨rfl,hm0.trans hm2⟩
  ·subst h2
   obtain rfl:b=true:=HB.out.2 (HL.out.2 ⟨rfl,rfl⟩);go_wp2_with fail;go_ret;exact ⟨rfl,hm0.trans hm2⟩
theorem rdA_go (es:List Ed):∀ (w:List Int) (v u:Int),goV es v w=some u↔rdA es v w=(u,w.length)
 | [],v,u=>by simp [goV,rdA]
 | x :: t,v,u=>by
  rw [goV,rdA];split
  ·constructor
   ·intro h;cases h
   ·intro h
    have:=congrArg Prod.snd h;simp at this
  ·rw [rdA_go es t _ u]
   constructor
   ·intro h;rw [h];rfl
   ·intro h
    have h1:=congrArg Prod.fst h;have h2:=congrArg Prod.snd h;simp at h1 h2;exact Prod.ext h1 h2
theorem loop_go {es:List Ed} {w:List Int}:LoopP es w↔goV es 0 w=some 0:=by
 rw [rdA_go];constructor
 ·intro h;exact Prod.ext h.2 h.1
 ·intro h;exact ⟨congrArg Prod.snd h,congrArg Prod.fst h⟩
theorem spec_Contains (r n:Nat) (A:Option Addr) (es:List Ed) (c:Nat) (Aw:Option Addr) (wd:List Int) (cw:Nat) (w:World) (lo hi lo' hi':Nat) (hr:RG w lo hi A es) (hw:RV w lo' hi' Aw (ints wd)) (hc:IsCor r n es) (hword:IsW r wd) (hwl:wd.length≤1048576) (hok:OkI wd) (b:Bool) (hb:b=true↔LoopP es wd) :
  Calls Tryz.prog 24 #[graV r n A es.length c,.slice Aw wd.length cw] w fun e w'=>e=.returned (.bool b)∧Mid 0 0 w w':=by
 have hm0:Mid 0 0 w (w.alloc (.cells #[.int .i64 r,.int .i64 n,.slice A es.length c] 26)):=Mid.alloc _ _;have b0:=Box.new w #[.int .i64 r,.int .i64 n,.slice A es.length c] 26;have HB:Hid (b=true↔goV es 0 wd=some 0):=Lib.hid (hb.trans loop_go);have HOK:=Lib.hid hok;have HC:=Lib.hid hc;have hsz:=hc.gr.size;have hl:=hc.gr.len;have hRL:=fun W (h:RV W lo' hi' Aw (ints wd))=>spec_ReduceLetters Aw wd cw W hi' h.rs h.1 hok (by omega);rw [red_word hword.2.2.2] at hRL;have HRL:=Lib.hid hRL;have hWW:∀ (W:World) (A4:Option Addr) (c4 a4 b4:Nat),RG W lo hi A es→RV W a4 b4 A4 (ints wd)→Calls Tryz.prog 108 #[graV r n A es.length c,.int .i64 0,.slice A4 wd.length c4] W fun e w'=>∃ (u:Int) (b:Bool),e=.returned (.tuple #[.int .i64 u,.bool b])∧(b=true→goV es 0 wd=some u)∧(b=false→goV es 0 wd=none)∧Mid 0 0 W w' :=
  fun W A4 c4 a4 b4 h1 h2=>spec_WalkWord r n 0 A es c A4 wd c4 W lo hi a4 b4 h1 h2 hc.fol (by omega) hwl hok
 have HWW:=Lib.hid hWW;clear hb hok hc hRL hword hWW;go_enter Tryz.func24,Tryz.ntmps24
 go_wp2_with fail;generalize (w.alloc (.cells #[.int .i64 r,.int .i64 n,.slice A es.length c] 26))=w1 at hm0 b0 ⊢;have hmd:=Mid.drew1 w1;replace b0:=b0.mid hmd oZr;replace hm0:=hm0.trans hmd;have p0:=b0.cell 0 rfl;have p1:=b0.cell 1 rfl;have p2:=b0.cell 2 rfl;clear hmd;refine wp_region_Z (S:=(fun w'=>w'.cell? ⟨w.heap.size,0,none⟩=some (.int .i64 r)∧w'.cell? ⟨w.heap.size,1,none⟩=some (.int .i64 n)∧w'.cell? ⟨w.heap.size,2,none⟩=some (.slice A es.length c))) [] (by kernel_rfl) ⟨p0,p1,p2⟩ ?_;generalize World.drew w1=wz at b0 hm0 p0 p1 p2 ⊢;have hS:wz.cell? ⟨w.heap.size,0,none⟩=some (.int .i64 r)∧wz.cell? ⟨w.heap.size,1,none⟩=some (.int .i64 n)∧wz.cell? ⟨w.heap.size,2,none⟩=some (.slice A es.length c):=⟨p0,p1,p2⟩
 refine tkZ [] 0 rfl hS ?_;try simp only [Act.put,zs1,zs2,zs3,zs4,zs5,zs6]
 refine tkZ [] 1 rfl hS ?_;try simp only [Act.put,zs1,zs2,zs3,zs4,zs5,zs6]
 refine rdZ 2 rfl (fun K hK=>?_)
 (go_simp;(with_reducible refine (HRL.out _ (hw.mid hm0 oZl)).mono ?_);rintro en w4 ⟨A4,c4,rfl,ho4,hbe4⟩;have hm4:Mid 0 0 wz w4:=Mid.of_below hbe4;have b04:=b0.mid hm4 oZr;go_wp2_with fail)
 refine hK.out _ _ (Or.inr ⟨b04.cell 0 rfl,b04.cell 1 rfl,b04.cell 2 rfl⟩) (fun _=>?_);clear hK K;try simp only [Act.put,zs1,zs2,zs3,zs4,zs5,zs6]
 replace hm0:=hm0.trans hm4;clear hS p0 p1 p2 b0;refine rdZ 3 rfl (fun K hK=>?_)
 (go_simp;(with_reducible refine (HWW.out w4 A4 c4 _ _ (hr.mid hm0 oZl) (owns_rv ho4)).mono ?_);rintro en w5 ⟨u,bb,rfl,h1,h2,hm5⟩;have b05:=b04.mid hm5 oZr;go_wp2_with fail)
 refine hK.out _ _ (Or.inr ⟨b05.cell 0 rfl,b05.cell 1 rfl,b05.cell 2 rfl⟩) (fun _=>?_);clear hK K;try simp only [Act.put,zs1,zs2,zs3,zs4,zs5,zs6]
 replace hm0:=hm0.trans hm5;have hS5:=And.intro (b05.cell 0 rfl) (And.intro (b05.cell 1 rfl) (b05.cell 2 rfl));clear b04 hm4 hm5 ho4 hbe4;have HH1:=Lib.hid h1;have HH2:=Lib.hid h2;clear h1 h2;refine tkZ [] 4 rfl hS5 ?_;try simp only [Act.put,zs1,zs2,zs3,zs4,zs5,zs6]
 refine tkZ [] 5 rfl hS5 ?_;try simp only [Act.put,zs1,zs2,zs3,zs4,zs5,zs6]
 refine tkZ [] 6 rfl hS5 ?_;try simp only [Act.put,zs1,zs2,zs3,zs4,zs5,zs6]
 refine rdZ 7 rfl (fun K hK=>?_);go_simp;refine hK.out _ _ (Or.inr hS5) (fun _=>?_);clear hK K;try simp only [Act.put,zs1,zs2,zs3,zs4,zs5,zs6]
 refine rdZ 8 rfl (fun K hK=>?_);go_simp;refine hK.out _ _ (Or.inr hS5) (fun _=>?_);clear hK K;try simp only [Act.put,zs1,zs2,zs3,zs4,zs5,zs6]
 refine wpAnyZ_done (by kernel_rfl) ?_ _;clear hS5;have p0:=b05.cell 0 rfl;have p1:=b05.cell 1 rfl;have p2:=b05.cell 2 rfl;go_wp2_with fail;with_reducible refine (spec_IsSubgroup r n A es c _ _ _ (hr.mid hm0 oZl) (by omega) true (iff_of_true rfl HC.out)).mono ?_
 rintro en w6 ⟨rfl,hm6⟩;replace hm0:=hm0.trans hm6;cases bb with
 | false =>
  obtain rfl:b=false:=bool_no HB.out fun h=>by have:=HH2.out rfl;rw [h] at this;cases this
  go_wp2_with fail;go_ret;exact ⟨rfl,hm0⟩
 | true =>
  rcases (Decidable.em (u=0)).symm with hu | hu
  ·have du:(u == 0)=false:=by simpa using hu
   obtain rfl:b=false:=bool_no HB.out fun h=>by have:=HH1.out rfl;rw [h] at this;injection this with this;exact hu this.symm
   clear hu;go_wp2_with fail;go_ret;exact ⟨rfl,hm0⟩
  ·subst hu
   obtain rfl:b=true:=HB.out.2 (HH1.out rfl);go_wp2_with fail;go_ret;exact ⟨rfl,hm0⟩
end
section
open Go.RowKit
end
section
open Go.RowKit
end
section
open Go.RowKit
end
section
open Go.RowKit
end
section
open Go.RowKit
section
variable {w w':World} {lo hi a b:Nat} {A:Option Addr} {xss:List (List Int)}
theorem owns_cap {e:TypeId} {base size n c:Nat} {xs:List Value} (h:w.ownsRow base e size (.slice A n c) n xs):n≤c:=by
 obtain ⟨_,_,e,h1,_⟩:=owns_shape h;injection e with _ _ e
 omega
end
end
end Go.Proofs.YthampgpcajmopaaGreat
