/- Contracts and lemmas of this seat, many texts in one: see the words ahead of each. No condition beyond those typed in each lemma. -/
import Derived.Test.YtkimajabegojoaaGreatNi6
import Derived.Test.YtkimajabegojoaaGreatNi5
import Derived.Test.YtkimajabegojoaaGreatNi2
import Derived.Test.YtkimajabegojoaaGreatNi1
import Derived.Test.YtkimajabegojoaaGreatNi4

namespace Go.Proofs.YtkimajabegojoaaGreat
set_option linter.unusedVariables false
set_option linter.unusedSimpArgs false
set_option maxHeartbeats 40000000
set_option maxRecDepth 100000
section
open Go.RowKit
theorem spec_ReduceNielsen (A:Option Addr) (d:List (List Int)) (c:Nat) (w:World) (lo hi:Nat) (hr:RSS w lo hi A d) (hok:∀ xs∈d,OkI xs) (hl:d.length+sumL d≤1048576) (b:Bool) (hb:b=true↔AreW 3 d) (x:List (List Int)) (ms:List Mv) (hres:runR d b=(x,ms)) :
  Calls Tryz.prog 9 #[.slice A d.length c] w (RetRN x ms w):=by
 have HOK:=Lib.hid hok;have HB:=Lib.hid hb;have HRES:=Lib.hid hres;have H28:=Lib.hid (fun xs (hx:xs∈d)=>show xs.length≤1073741824 by have:=len_le_sumL hx;omega);clear hok hb hres;go_enter Tryz.func9,Tryz.ntmps9
 go_wp2_with fail;with_reducible refine (spec_l20Copy A d c _ _ _ hr (by omega) H28.out).mono ?_
 rintro e w1 ⟨A1,c1,rfl,ho1,hm1⟩;have hal:Mid 0 0 w1 (w1.alloc (.cells #[] 48)):=Mid.alloc _ _;have hmv:=owns_empty w1 48 4;have hoA:=ho1.mid hal oZl;have hmA:=hm1.trans hal;have hvA:ApartM w _ w.heap.size w1.heap.size _ 0 []:=⟨owns_base hmv hm1.size,⟨_,rfl,Or.inr (Nat.le_refl _)⟩,Nat.le_refl _⟩
 clear hal hmv ho1 hm1;go_wp2_with fail;go_loopw [4,5,6,7,8] (fun v4 v5 i _ _ wr=>∃ k cur mv A c lo1 hi1,v4=.slice A (List.length cur) c∧i=.int .i64 ((k:Nat):Int)∧(b=false→k=0)∧RnAt d k cur mv∧OSS wr lo1 hi1 44 3 A c cur∧ApartM w wr lo1 hi1 v5 k mv∧Mid 0 0 w wr∧(b=false→cur=d∧mv=[]))
  (fun _ _ i _ _ _=>400 - (intOf i).toNat)
 case atStart=>exact ⟨0,d,[],A1,c1,_,_,rfl,rfl,fun _=>rfl,RnAt.zero d,hoA,hvA,hmA,fun _=>⟨rfl,rfl⟩⟩
 case round =>
  clear hoA hvA hmA;obtain ⟨k,cur,mv,A2,c2,lo1,hi1,rfl,rfl,hk0,hat,ho,hv,hm,hf⟩:=hrel;have HAT:=Lib.hid hat;have hk4:=hat.le;have hl2:cur.length+sumL cur≤1048576:=by have:=hat.less.len;have:=hat.less.sum;omega
  have HOC:=Lib.hid (hat.less.ok HOK.out);have hszm:=hm.size;have HF:=Lib.hid hf;have HK0:=Lib.hid hk0;clear hat hf hk0;obtain ⟨A3,c3,rfl, -, -⟩:=owns_shape hv.own;have hrw:=hr.mid hm oZl;cases hbc:b with
  | false =>
   subst hbc;have hn:¬ AreW 3 d:=fun h=>by have:=HB.out.2 h;cases this
   have HN:=Lib.hid hn;obtain rfl:=HK0.out rfl;obtain ⟨rfl,rfl⟩:=HF.out rfl;have hx:x=cur∧ms=[]:=by have:=HRES.out;simp [runR] at this;exact ⟨this.1.symm,this.2⟩
   obtain ⟨rfl,rfl⟩:=hx;clear HB hn HRES HF HK0 HAT;go_wp2_with fail;refine (spec_l20Words A x c _ _ _ hrw HOK.out hl false (iff_of_false Bool.false_ne_true HN.out)).mono ?_;rintro e w' ⟨rfl,n,rfl⟩;go_wp2_with fail;go_ret2;have hdn:Mid 0 0 wr (wr.drewN n):=(Mid.refl 0 0 wr).drewN n;exact RetRN.mk (ho.mid hdn oZl) rfl (hv.mid hdn) (hm.trans hdn)
  | true =>
   subst hbc;have HW:=Lib.hid (HB.out.1 rfl);have hrun:runN 400 d=(x,ms):=by have:=HRES.out;simpa [runR] using this
   have HRUN:=Lib.hid hrun;clear HB hrun HRES HF HK0;by_cases hlt:k < 400
   ·have hlt3:(k:Int) < 400:=by omega
    rcases nextM_cases cur with hn | ⟨⟨ka,ia,ja,sa⟩,hn⟩
    ·have HN:=Lib.hid hn
     clear hn;go_wp2_with fail;refine (spec_l20Words A d c _ _ _ hrw HOK.out hl true (iff_of_true rfl HW.out)).mono ?_;rintro e w' ⟨rfl,n,rfl⟩;have hdn:Mid 0 0 wr (wr.drewN n):=(Mid.refl 0 0 wr).drewN n;have hod:=ho.mid hdn oZl;go_wp2_with fail;refine (spec_NextMove0 A2 cur c2 _ _ _ hod.rsc HOC.out hl2 HN.out).mono ?_;rintro e w2 ⟨rfl,hm2⟩;have hal:Mid 0 0 w2 (w2.alloc (.cells #[.int .i64 0,.int .i64 0,.int .i64 0,.int .i64 0] 48)):=Mid.alloc _ _;have hmm:=(hdn.trans hm2).trans hal;go_wp2_with fail;go_ret2;have hd:=HAT.out.done (.inl HN.out);rw [HRUN.out] at hd;injection hd with e1 e2
     subst e1 e2;exact RetRN.mk (ho.mid hmm oZl) HAT.out.len (hv.mid hmm) (hm.trans hmm)
    ·have HN:=Lib.hid hn
     clear hn;obtain ⟨y,t,hy⟩:∃ y t,applyM cur ⟨ka,ia,ja,sa⟩=(y,t):=⟨_,_,rfl⟩
     have HY:=Lib.hid hy;clear hy;go_wp2_with fail;refine (spec_l20Words A d c _ _ _ hrw HOK.out hl true (iff_of_true rfl HW.out)).mono ?_;rintro e w' ⟨rfl,n,rfl⟩;have hdn:Mid 0 0 wr (wr.drewN n):=(Mid.refl 0 0 wr).drewN n;have hod:=ho.mid hdn oZl;go_wp2_with fail;refine (spec_NextMove1 A2 cur c2 _ _ _ hod.rsc HOC.out hl2 HN.out).mono ?_;rintro e w2 ⟨rfl,hm2⟩;have hal:Mid 0 0 w2 (w2.alloc (.cells #[.int .i64 ka,.int .i64 ia,.int .i64 ja,.int .i64 sa] 48)):=Mid.alloc _ _;have hbx:=Box.new w2 #[.int .i64 ka,.int .i64 ia,.int .i64 ja,.int .i64 sa] 48;have hmm:=(hdn.trans hm2).trans hal;have hoB:=ho.mid hmm oZl;have hvB:=owns_mid hv.own hmm oZl;have hblkB:=hv.blk;have hmB:=hm.trans hmm;go_wp2_with fail;refine (spec_ApplyMoveY A2 cur c2 ka ia ja sa _ _ _ hoB.rss HOC.out hl2 y t HY.out).mono ?_;rintro e w3 ⟨A4,c4,rfl,ho4,hm4⟩;have hbx3:=hbx.mid hm4 oZr;have y0:=hbx3.cell 0 rfl;have y1:=hbx3.cell 1 rfl;have y2:=hbx3.cell 2 rfl;have y3:=hbx3.cell 3 rfl;have hvC:=owns_mid hvB hm4 oZl;have hmC:=hmB.trans hm4;have hszB:=hmB.size;have hszC:=hmC.size;go_wp2_with (at_builtin;refine wpList_push rfl _ _ 26 rfl w.heap.size 48 (.agg #[.int .i64 0,.int .i64 0,.int .i64 0,.int .i64 0]) 4 32 undSMvR infoMvR rfl (by decide) _ _ _ rfl hvC 1 [.int .i64 ka,.int .i64 ia,.int .i64 ja,.int .i64 sa] rfl rfl ?c1 ?c2 ?c3 hszC ?next)
     case c1=>simp [Value.oneCell']
     case c2=>unfold maxLen;omega
     case c3=>omega
     case next =>
      intro v6 w6 hv6 hg6 hbk6;obtain ⟨A6,c6,rfl, -, -⟩:=owns_shape hv6;go_wp2_with fail;go_roundw
      case rel =>
       have hat2:=HAT.out.succ hlt HN.out HY.out;have hm6:=hmC.grownNew hg6 (fun g hg=>(hvC.lt g hg).1);have ho6:=ho4.grown hvC (by decide) (by decide) hg6;refine ⟨k+1,y,mv++[⟨ka,ia,ja,sa⟩],A4,c4,_,_,rfl,by go_num,(fun h=>by cases h),hat2,ho6,⟨?_,?_,by simpa using hszB⟩,hm6,(fun h=>by cases h)⟩
       ·rw [mvsI_append,mvsI_one,ints_append]
        exact hv6
       ·obtain ⟨g,hg,hgd⟩:=hblkB
        have hgl:=(hvB.lt g hg).2;rcases hbk6 with hb | hb
        ·exact ⟨g,by rw [hb];exact hg,Or.inl (by simpa using hgl)⟩
        ·exact ⟨_,hb,Or.inr (by simp)⟩
      case measure=>simp [intOf];omega
   ·obtain rfl:k=400:=by omega
    go_wp2_with fail;go_ret2;have hd:=HAT.out.done (.inr rfl);rw [HRUN.out] at hd;injection hd with e1 e2
    subst e1 e2;exact RetRN.mk ho HAT.out.len hv hm
end
section
open Go.RowKit
abbrev LW (l:List (List Int)):Prop:=l.length≤3∧DrWs l
theorem MvB.of {a b j s:Int} (h:MvB a b j s):OkMv ⟨a,b,j,s⟩:=by unfold MvB at h;unfold OkMv In64;simp only;omega
theorem LW.ok {l:List (List Int)} (h:LW l):OkSS l:=h.2.ok
theorem LW.sum {l:List (List Int)} (h:LW l):l.length+sumL l≤18:=by
 have h1:=h.2.len (k:=l.length);rw [List.take_length] at h1;have:=h.1;omega
theorem DrawNextMove_l (A:Option Addr) (bs:List Int) (c:Nat) (w:World) (hi:Nat) (hb:OkB bs) (hl:bs.length≤1048576) (hr:RV w 0 hi A (byts bs)) :
  Calls Tryz.prog 26 #[.slice A bs.length c] w fun e w'=>∃ A' c' l,e=.returned (.slice A' (List.length l) c')∧LW l∧OSS w' w.heap.size w'.heap.size 44 3 A' c' l∧Mid 0 0 w w':=by
 refine (DrawNextMove_any A bs c w hi hb hl hr).mono ?_;rintro e w' ⟨A',c',rows,rfl,h,ho,hm⟩;exact ⟨A',c',rowsD rows,by rw [rowsD_len],h,ho.oss rfl,hm⟩
theorem DrawApplyMove_any (A:Option Addr) (bs:List Int) (c:Nat) (w:World) (hi:Nat) (hb:OkB bs) (hl:bs.length≤1048576) (hr:RV w 0 hi A (byts bs)) :
  Calls Tryz.prog 23 #[.slice A bs.length c] w fun e w'=>∃ A' c' l a b j s,e=.returned (.tuple #[.slice A' (List.length l) c',.agg #[.int .i64 a,.int .i64 b,.int .i64 j,.int .i64 s]])∧LW l∧MvB a b j s∧OSS w' w.heap.size w'.heap.size 44 3 A' c' l∧Mid 0 0 w w':=by
 have hal:=Mid.alloc w (.cells #[.int .i64 0,.int .i64 0,.int .i64 0,.int .i64 0] 48);have B2:=Box.new w #[.int .i64 0,.int .i64 0,.int .i64 0,.int .i64 0] 48;have hr0:=hr.mid hal oZl;go_enter Tryz.func23,Tryz.ntmps23
 go_wp2_with fail;generalize w.alloc (.cells #[.int .i64 0,.int .i64 0,.int .i64 0,.int .i64 0] 48)=w1 at B2 hr0 hal ⊢;have hs1:w.heap.size < w1.heap.size:=B2.1;with_reducible refine (l1New_any A bs c w1 hi hb hl hr0).mono ?_
 rintro e w2 ⟨p,rfl,hp,h2,m2⟩;replace B2:=B2.mid m2 oZr;have hM2:=hal.trans m2;have hs2:=m2.size;clear hal m2 hr0 hr;go_wp2_with fail;with_reducible refine (l20List_any p A bs c _ hb hl h2).mono ?_
 rintro e w3 ⟨Al,cl,rows,rfl,hd,hL,h3,m3⟩;have hs3:=m3.size;have HD:=Lib.hid hd;replace B2:=B2.mid m3 (Or.inl (by omega));have hM3:=hM2.transNew m3 (Or.inl (by omega));have HO:=Lib.hid (hL.oss rfl);obtain ⟨l,hrl⟩:∃ l,rowsD rows=l:=⟨_,rfl⟩
 have hll:rows.length=l.length:=by rw [← hrl,rowsD_len]
 rw [hrl] at HO HD;rw [hll];obtain ⟨N,hN⟩:∃ n,l.length=n:=⟨_,rfl⟩
 have HN:=Lib.hid hN;rw [hN];have hpl:=h2.lt;clear hd hL h2 m3 hM2 hrl hll hN;go_wp2_with fail;with_reducible refine (l20Move_any p A bs c _ hb hl h3).mono ?_
 rintro e w4 ⟨a,b,j,s,rfl,hmv,h4,m4⟩;have HMV:=Lib.hid hmv;replace B2:=B2.mid m4 (Or.inl (by omega));have hs4:=m4.size;have O4:=HO.out.mid m4 (Or.inl (by omega));have hM4:=hM3.transNew m4 (Or.inl (by omega));have p0:=B2.cell 0 rfl;have p1:=B2.cell 1 rfl;have p2:=B2.cell 2 rfl;have p3:=B2.cell 3 rfl;have pf:=B2.2.2;have hst:=(((Mid.setAt w4 w.heap.size 0 (.int .i64 a)).trans (Mid.setAt _ w.heap.size 1 (.int .i64 b))).trans (Mid.setAt _ w.heap.size 2 (.int .i64 j))).trans (Mid.setAt _ w.heap.size 3 (.int .i64 s));have O9:=Lib.hid ((O4.mid hst (Or.inl (by omega))).wide (lo':=w.heap.size) (by omega) (Nat.le_trans O4.size hst.size) (Nat.le_refl _));have M9:=Lib.hid (hM4.transNew hst (Or.inl (Nat.le_refl _)));clear hst O4 HO hM3 hM4 m4 hmv h3 h4;go_wp2_with fail;refine bodyPost_ret (v:=.tuple #[.slice Al N cl,.agg #[.int .i64 a,.int .i64 b,.int .i64 j,.int .i64 s]]) (by simp [results,Tryz.results23,go_sem,p0,p1,p2,p3,pf]) rfl ⟨Al,cl,l,a,b,j,s,?_,HD.out,HMV.out,O9.out,M9.out⟩;rw [HN.out]
theorem mvs_grow {ms:List Mv} {a b j s:Int} {A6:Option Addr} {c6 base k:Nat} {W:World} (hk:ms.length=k) (h:W.ownsRow base 48 4 (.slice A6 (k+1) c6) (k+1) (ints (mvsI ms)++[.int .i64 a,.int .i64 b,.int .i64 j,.int .i64 s])) :
  W.ownsRow base 48 4 (.slice A6 (k+1) c6) (k+1) (ints (mvsI (ms++[⟨a,b,j,s⟩]))):=by
 rw [mvsI_append,mvsI_one,ints_append];exact h
theorem DrawReplayMoves_any (A:Option Addr) (bs:List Int) (c:Nat) (w:World) (hi:Nat) (hb:OkB bs) (hl:bs.length≤1048576) (hr:RV w 0 hi A (byts bs)) :
  Calls Tryz.prog 30 #[.slice A bs.length c] w fun e w'=>∃ A' c' l A2 c2 ms,e=.returned (.tuple #[.slice A' (List.length l) c',.slice A2 (List.length ms) c2])∧LW l∧(ms.length≤3∧∀ m∈ms,MvB m.kind m.i m.j m.sign)∧OSS w' w.heap.size w'.heap.size 44 3 A' c' l∧RV w' w.heap.size w'.heap.size A2 (ints (mvsI ms))∧Mid 0 0 w w':=by
 go_enter Tryz.func30,Tryz.ntmps30
 go_wp2_with fail;with_reducible refine (l1New_any A bs c w hi hb hl hr).mono ?_
 rintro e w2 ⟨p,rfl,hp,h2,m2⟩;have hs2:=m2.size;have hpl:=h2.lt;clear hr;go_wp2_with fail;with_reducible refine (l20List_any p A bs c _ hb hl h2).mono ?_
 rintro e w3 ⟨Al,cl,rows,rfl,hd,hL,h3,m3⟩;have hs3:=m3.size;have HD:=Lib.hid hd;have hM3:=m2.transNew m3 (Or.inl hp);have HO:=Lib.hid (hL.oss rfl);obtain ⟨l,hrl⟩:∃ l,rowsD rows=l:=⟨_,rfl⟩
 have hll:rows.length=l.length:=by rw [← hrl,rowsD_len]
 rw [hrl] at HO HD;rw [hll];obtain ⟨N,hN⟩:∃ n,l.length=n:=⟨_,rfl⟩
 have HN:=Lib.hid hN;rw [hN];clear hd hL h2 m2 m3 hrl hll hN;have hal:=Mid.alloc w3 (.cells #[] 48);have ho:=owns_empty w3 48 4;have h4:=h3.mid hal (Or.inr rfl);have HO4:=Lib.hid (HO.out.mid hal oZl);have hM4:=hM3.trans hal;have hs4:w3.heap.size≤(w3.alloc (.cells #[] 48)).heap.size:=hal.size;clear HO hM3 h3 hal;go_wp2_with fail;generalize w3.alloc (.cells #[] 48)=w4 at ho h4 HO4 hM4 hs4 ⊢;with_reducible refine (l1BelowI 4 (by decide) (by decide) p A bs c _ hb hl h4).mono ?_
 rintro e w5 ⟨n0,rfl,hn0,h5,m5⟩;have ho5:=owns_mid ho m5 (Or.inl (by omega));have HO5:=Lib.hid (HO4.out.mid m5 (Or.inl (by omega)));have hM5:=hM4.transNew m5 (Or.inl (by omega));have hs5:=m5.size;clear ho h4 HO4 hM4 m5;go_wp2_with fail;go_loopw [6,7] (fun mv nv wr=>∃ (ms:List Mv) (n k:Nat) (Ax:Option Addr) (cx:Nat),nv=.int .i64 n∧mv=.slice Ax k cx∧Hid (ms.length=k)∧k+n≤3∧Hid (∀ m∈ms,MvB m.kind m.i m.j m.sign)∧Hid (wr.ownsRow w3.heap.size 48 4 (.slice Ax k cx) k (ints (mvsI ms)))∧Hid (OSS wr w2.heap.size w3.heap.size 44 3 Al cl l)∧Cur wr p A bs c∧Mid 0 0 w wr)
  (fun _ nv _=>natV nv)
 case atStart=>exact ⟨[],n0,0,_,_,rfl,rfl,Lib.hid rfl,by omega,Lib.hid (by simp),Lib.hid ho5,HO5,h5,hM5⟩
 case round =>
  obtain ⟨ms,n,k,Ax,cx,rfl,rfl,HK,hkn,HB,HM,HO,hC,hMr⟩:=hrel;by_cases hlt:0 < n
  ·go_wp2_with fail
   with_reducible refine (l20Move_any p A bs c _ hb hl hC).mono ?_
   rintro e w6 ⟨a,b,j,s,rfl,hmv,h6,m6⟩;have HMV:=Lib.hid hmv;have hal:Mid 0 0 w6 (w6.alloc (.cells #[.int .i64 a,.int .i64 b,.int .i64 j,.int .i64 s] 48)):=Mid.alloc _ _;have hbx:=Box.new w6 #[.int .i64 a,.int .i64 b,.int .i64 j,.int .i64 s] 48;have y0:=hbx.cell 0 rfl;have y1:=hbx.cell 1 rfl;have y2:=hbx.cell 2 rfl;have y3:=hbx.cell 3 rfl;have ow:=owns_mid (owns_mid HM.out m6 (Or.inl (by omega))) hal oZl;have O6:=Lib.hid ((HO.out.mid m6 (Or.inl (by omega))).mid hal oZl);have C6:=h6.mid hal (Or.inr rfl);have M6:=(hMr.transNew m6 (Or.inl (by omega))).trans hal;have hsz:w3.heap.size≤(w6.alloc (.cells #[.int .i64 a,.int .i64 b,.int .i64 j,.int .i64 s] 48)).heap.size:=Nat.le_trans HO.out.size (Nat.le_trans m6.size hal.size);clear h6 m6 hMr HO HM hC hmv;go_wp2_with (at_builtin;refine MarkerX.to ?_)
   unfold MarkerX;rw [← World.size_alloc w6 (.cells #[.int .i64 a,.int .i64 b,.int .i64 j,.int .i64 s] 48)]
   (refine wpList_push rfl _ _ 26 rfl w3.heap.size 48 (.agg #[.int .i64 0,.int .i64 0,.int .i64 0,.int .i64 0]) 4 32 undSMv infoMv rfl (by decide) _ _ _ rfl ow 1 [.int .i64 a,.int .i64 b,.int .i64 j,.int .i64 s] rfl rfl ?c1 ?c2 ?c3 hsz ?next)
   case c1=>simp [Value.oneCell']
   case c2=>unfold maxLen;omega
   case c3=>omega
   case next =>
    intro v7 w7 hv7 hg7 hbk7;obtain ⟨A7,c7,rfl, -, -⟩:=owns_shape hv7;have hmg:=Mid.of_grownRow ow hg7;have hK:=HK.out;have hM7:=Lib.hid (mvs_grow hK hv7);have O7:=Lib.hid (O6.out.mid hmg (Or.inr (Nat.le_refl _)));have C7:=C6.mid hmg (Or.inl (by omega));have M7:=M6.transNew hmg (Or.inl (by omega));have HB7:Hid (∀ m∈ms++[(⟨a,b,j,s⟩:Mv)],MvB m.kind m.i m.j m.sign):=Lib.hid (by
     intro m hm;rcases List.mem_append.1 hm with hm | hm
     ·exact HB.out m hm
     ·simp at hm;subst hm;exact HMV.out)
    have HK7:Hid ((ms++[(⟨a,b,j,s⟩:Mv)]).length=k+1):=Lib.hid (by rw [List.length_append,hK];rfl);clear hmg hv7 hg7 hbk7 ow hal hbx y0 y1 y2 y3 hK O6 C6 M6 HB HMV;go_wp2_with fail;go_roundw
    case rel=>exact ⟨ms++[⟨a,b,j,s⟩],n - 1,k+1,A7,c7,by go_num,rfl,HK7,by omega,HB7,hM7,O7,C7,M7⟩
    case measure=>simp [natV];omega
  ·have HLl:=Lib.hid HK.out
   go_wp2_with fail;go_ret2;refine ⟨Al,cl,l,Ax,cx,ms,?_,HD.out,⟨by have:=HK.out;omega,HB.out⟩,?_,?_,hMr⟩
   ·rw [HN.out,HK.out]
    rfl
   ·exact HO.out.wide (by omega) HO.out.size (Nat.le_refl _)
   ·exact (owns_rv HM.out).wide (by omega) (Nat.le_refl _) (Nat.le_refl _)
theorem DrawFormatMoves_any (A:Option Addr) (bs:List Int) (c:Nat) (w:World) (hi:Nat) (hb:OkB bs) (hl:bs.length≤1048576) (hr:RV w 0 hi A (byts bs)) :
  Calls Tryz.prog 33 #[.slice A bs.length c] w fun e w'=>∃ A2 c2 ms,e=.returned (.slice A2 (List.length ms) c2)∧(ms.length≤3∧∀ m∈ms,MvB m.kind m.i m.j m.sign)∧RV w' w.heap.size w'.heap.size A2 (ints (mvsI ms))∧Mid 0 0 w w':=by
 go_enter Tryz.func33,Tryz.ntmps33
 go_wp2_with fail;with_reducible refine (DrawReplayMoves_any A bs c w hi hb hl hr).mono ?_
 rintro e w2 ⟨A',c',l,A2,c2,ms,rfl,hlw,hms,ho,hrv,hm⟩;have HMS:=Lib.hid hms;clear hms ho hlw;go_wp2_with fail;go_ret;exact ⟨A2,c2,ms,rfl,HMS.out,hrv,hm⟩
theorem DrawIsNielsenReduced_any (A:Option Addr) (bs:List Int) (c:Nat) (w:World) (hi:Nat) (hb:OkB bs) (hl:bs.length≤1048576) (hr:RV w 0 hi A (byts bs)) :
  Calls Tryz.prog 29 #[.slice A bs.length c] w fun e w'=>∃ A' c' l l0,e=.returned (.slice A' (List.length l) c')∧LW l0∧(l=l0 ∨ ∃ ms,runN 400 l0=(l,ms))∧OSS w' w.heap.size w'.heap.size 44 3 A' c' l∧Mid 0 0 w w':=by
 go_enter Tryz.func29,Tryz.ntmps29
 go_wp2_with fail;with_reducible refine (l1New_any A bs c w hi hb hl hr).mono ?_
 rintro e w2 ⟨p,rfl,hp,h2,m2⟩;have hs2:=m2.size;have hpl:=h2.lt;clear hr;go_wp2_with fail;with_reducible refine (l20List_any p A bs c _ hb hl h2).mono ?_
 rintro e w3 ⟨Al,cl,rows,rfl,hd,hL,h3,m3⟩;have hs3:=m3.size;have HD:=Lib.hid hd;have hM3:=m2.transNew m3 (Or.inl hp);have HO:=Lib.hid (hL.oss rfl);obtain ⟨l,hrl⟩:∃ l,rowsD rows=l:=⟨_,rfl⟩
 have hll:rows.length=l.length:=by rw [← hrl,rowsD_len]
 rw [hrl] at HO HD;rw [hll];clear hd hL h2 m2 m3 hrl hll;obtain ⟨x,hx⟩:∃ x,runN 400 l=x:=⟨_,rfl⟩
 obtain ⟨x,ms⟩:=x;have HX:=Lib.hid hx;obtain ⟨bb,hbb⟩:∃ b:Bool,b=true↔AreW 3 l:=bool_ofR _;have hRR:runR l bb=(if bb=true then (x,ms) else (l,[])):=by unfold runR;rw [hx]
 obtain ⟨y,hy⟩:∃ y,(if bb=true then (x,ms) else (l,[]))=y:=⟨_,rfl⟩
 rw [hy] at hRR;obtain ⟨y,my⟩:=y;have HY:Hid (y=l ∨ y=x):=Lib.hid (by cases bb <;> simp at hy <;> simp [hy.1]);have hF:=fun W (h:OSS W w2.heap.size w3.heap.size 44 3 Al cl l)=>spec_ReduceNielsen Al l cl W _ _ h.rss (LW.ok HD.out).2 (by have:=LW.sum HD.out;omega) bb hbb y my hRR;have HF:=Lib.hid hF;clear hF hy hRR hx hbb;obtain ⟨N,hN⟩:∃ n,l.length=n:=⟨_,rfl⟩
 have HN:=Lib.hid hN;rw [hN] at HF ⊢;clear hN;go_wp2_with fail;with_reducible refine (l1OnceI 2 (by decide) (by decide) p A bs c _ hb hl h3).mono ?_
 rintro e w4 ⟨b4,rfl,h4,m4⟩;have hs4:=m4.size;have O4:=HO.out.mid m4 (Or.inl (by omega));have M4:=hM3.transNew m4 (Or.inl (by omega));have HO4:=Lib.hid O4;clear HO hM3 m4 h3 O4;cases b4
 ·have O9:=Lib.hid (HO4.out.wide (lo':=w.heap.size) (by omega) HO4.out.size (Nat.le_refl _))
  clear HF;go_wp2_with fail;go_ret;exact ⟨Al,cl,l,l,by rw [HN.out];rfl,HD.out,Or.inl rfl,O9.out,M4⟩
 ·have hC:=HF.out w4 HO4.out
  clear HF;go_wp2_with fail;with_reducible refine hC.mono ?_
  rintro e w5 ⟨A5,c5,A6,c6,lo,hi5,lo2,hi2,rfl,o5,o6,⟨h51,h52,h53,h54⟩,hx5⟩;have O9:=Lib.hid (o5.wide (lo':=w.heap.size) (by omega) h53 (Nat.le_refl _));have HZ:Hid (y=l ∨ ∃ ms,runN 400 l=(y,ms)):=Lib.hid (by
   rcases HY.out with h | h
   ·exact Or.inl h
   ·exact Or.inr ⟨ms,by rw [h];exact HX.out⟩)
  clear o5 o6 HY HX;go_wp2_with fail;go_ret;exact ⟨A5,c5,y,l,rfl,HD.out,HZ.out,O9.out,M4.trans hx5⟩
end
section
open Go.RowKit
theorem l2Drawn_any (p:Nat) (A:Option Addr) (bs:List Int) (c:Nat) (w:World) (hb:OkB bs) (hl:bs.length≤1048576) (h:Cur w p A bs c) :
  Calls Tryz.prog 238 #[.pointer (some ⟨p,0,none⟩)] w fun e w'=>∃ r A' c' xs,e=.returned (.tuple #[.int .i64 r,.slice A' (List.length xs) c'])∧(xs.length≤8∧OkI xs)∧OI w' w.heap.size w'.heap.size A' c' xs∧Cur w' p A bs c∧Mid p (p+1) w w':=by
 have hpw:=h.lt;have hal:=Mid.alloc w (.cells #[.int .i64 1,.int .i64 2,.int .i64 2,.int .i64 2,.int .i64 2,.int .i64 3] 3);have hbx:=Box.new w #[.int .i64 1,.int .i64 2,.int .i64 2,.int .i64 2,.int .i64 2,.int .i64 3] 3;have h0:=h.mid hal (Or.inr rfl);go_enter Tryz.func238,Tryz.ntmps238
 go_wp2_with fail;generalize w.alloc (.cells #[.int .i64 1,.int .i64 2,.int .i64 2,.int .i64 2,.int .i64 2,.int .i64 3] 3)=w1 at hbx h0 hal ⊢;have hs1:w.heap.size < w1.heap.size:=hbx.1;have hri:RI w1 w.heap.size (w.heap.size+1) (some ⟨w.heap.size,0,none⟩) [1,2,2,2,2,3] :=
  ⟨hs1,fun _=>⟨w.heap.size,0,rfl,Nat.le_refl _,Nat.lt_succ_self _,fun j u hu=>by rw [Nat.zero_add];exact hbx.2.1 j u (by simpa [ints] using hu)⟩⟩
 with_reducible refine (l1PickIntN (some ⟨w.heap.size,0,none⟩) [1,2,2,2,2,3] 6 6 rfl (by decide) (by decide) p A bs c _ w.heap.size _ hri (Or.inl (by omega)) hb hl h0).mono ?_
 rintro e w2 ⟨r,rfl,hrm,h2,m2⟩;have hr:1≤r∧r≤3:=by simp at hrm;omega
 have hm2:=hal.zero.trans m2;have hs2:=hm2.size;clear hri hbx hrm h0 hal m2;go_wp2_with fail;with_reducible refine (l2Of_any r hr.1 hr.2 8 (by decide) (by decide) p A bs c _ hb hl h2).mono ?_
 rintro e w3 ⟨A3,c3,xs,rfl,hx,h3⟩;obtain ⟨ho,hC,m3⟩:=h3;have HX:Hid (xs.length≤8∧OkI xs):=Lib.hid ⟨by have:=hx.1;omega,hx.2.1.ok⟩;have HO:=Lib.hid (OV.wide (lo':=w.heap.size) ho hs2 (Nat.le_refl _) (Nat.le_refl _));clear hx ho;go_wp2_with fail;go_ret2;exact ⟨r,A3,c3,xs,rfl,HX.out,HO.out,hC,hm2.trans m3⟩
theorem l2Any_any (p:Nat) (A:Option Addr) (bs:List Int) (c:Nat) (w:World) (hb:OkB bs) (hl:bs.length≤1048576) (h:Cur w p A bs c) :
  Calls Tryz.prog 190 #[.pointer (some ⟨p,0,none⟩)] w fun e w'=>∃ r A' c' xs,e=.returned (.tuple #[.int .i64 r,.slice A' (List.length xs) c'])∧(xs.length≤9∧OkI xs)∧OI w' w.heap.size w'.heap.size A' c' xs∧Cur w' p A bs c∧Mid p (p+1) w w':=by
 have hpw:=h.lt;go_enter Tryz.func190,Tryz.ntmps190
 go_wp2_with fail;with_reducible refine (l2Drawn_any p A bs c _ hb hl h).mono ?_
 rintro e w2 ⟨r,A2,c2,xs,rfl,hx,ho,h2,m2⟩;have HX:=Lib.hid hx;have HO:=Lib.hid ho;have hs2:=m2.size;obtain ⟨N,hN⟩:∃ n,xs.length=n:=⟨_,rfl⟩
 have HN:=Lib.hid hN;rw [hN];clear hx ho hN;go_wp2_with fail;with_reducible refine (l1BelowI 10 (by decide) (by decide) p A bs c _ hb hl h2).mono ?_
 rintro e w3 ⟨y,rfl,hy,h3,m3⟩;have O3:=Lib.hid (OV.mid HO.out m3 (Or.inl (by omega)));have M3:=m2.trans m3;have hs3:=m3.size;clear HO h2 m2 m3;by_cases hy0:y=0
 ·subst hy0
  have hal:=Mid.alloc w3 (.cells #[.int .i64 (-1),.int .i64 0,.int .i64 4] 3);have hbx:=Box.new w3 #[.int .i64 (-1),.int .i64 0,.int .i64 4] 3;have h0:=h3.mid hal (Or.inr rfl);go_wp2_with fail;generalize w3.alloc (.cells #[.int .i64 (-1),.int .i64 0,.int .i64 4] 3)=w4 at hbx h0 hal ⊢;have hs1:w3.heap.size < w4.heap.size:=hbx.1;have hri:RI w4 w3.heap.size (w3.heap.size+1) (some ⟨w3.heap.size,0,none⟩) [-1,0,4] :=
   ⟨hs1,fun _=>⟨w3.heap.size,0,rfl,Nat.le_refl _,Nat.lt_succ_self _,fun j u hu=>by rw [Nat.zero_add];exact hbx.2.1 j u (by simpa [ints] using hu)⟩⟩
  with_reducible refine (l1PickIntN (some ⟨w3.heap.size,0,none⟩) [-1,0,4] 3 3 rfl (by decide) (by decide) p A bs c _ w3.heap.size _ hri (Or.inl (by omega)) hb hl h0).mono ?_
  rintro e w5 ⟨r2,rfl,hrm,h5,m5⟩;have hm5:=(M3.trans hal.zero).trans m5;have O5:=Lib.hid (OV.wide (lo':=w.heap.size) (OV.mid (OV.mid O3.out hal oZl) m5 (Or.inl (by omega))) (Nat.le_refl _) (by have:=hal.size;have:=m5.size;omega) (Nat.le_refl _));clear hri hbx hrm h0 hal m5 O3;go_wp2_with fail;go_ret2;exact ⟨r2,A2,c2,xs,by rw [HN.out];rfl,⟨by have:=HX.out.1;omega,HX.out.2⟩,O5.out,h5,hm5⟩
 ·have d0:((y:Int) == 0)=false:=by simp;omega
  by_cases hy1:y=1
  ·subst hy1
   have hal:=Mid.alloc w3 (.cells #[.int .i64 0,.int .i64 4,.int .i64 (-4),.int .i64 1,.int .i64 (-1)] 3);have hbx:=Box.new w3 #[.int .i64 0,.int .i64 4,.int .i64 (-4),.int .i64 1,.int .i64 (-1)] 3;have h0:=h3.mid hal (Or.inr rfl);go_wp2_with fail;generalize w3.alloc (.cells #[.int .i64 0,.int .i64 4,.int .i64 (-4),.int .i64 1,.int .i64 (-1)] 3)=w4 at hbx h0 hal ⊢;have hs1:w3.heap.size < w4.heap.size:=hbx.1;have hri:RI w4 w3.heap.size (w3.heap.size+1) (some ⟨w3.heap.size,0,none⟩) [0,4, -4,1, -1] :=
    ⟨hs1,fun _=>⟨w3.heap.size,0,rfl,Nat.le_refl _,Nat.lt_succ_self _,fun j u hu=>by rw [Nat.zero_add];exact hbx.2.1 j u (by simpa [ints] using hu)⟩⟩
   with_reducible refine (l1PickIntN (some ⟨w3.heap.size,0,none⟩) [0,4, -4,1, -1] 5 5 rfl (by decide) (by decide) p A bs c _ w3.heap.size _ hri (Or.inl (by omega)) hb hl h0).mono ?_
   rintro e w5 ⟨x,rfl,hrm,h5,m5⟩;have hxb:-4≤x∧x≤4:=by simp at hrm;omega
   have hm5:=(M3.trans hal.zero).trans m5;have O5:=OV.mid (OV.mid O3.out hal oZl) m5 (Or.inl (by omega));have ow:w5.ownsRow w.heap.size 3 1 (.slice A2 N c2) N (ints xs):=by rw [← HN.out];exact O5.2.1
   have hsz:w.heap.size≤w5.heap.size:=hm5.size;have hN9:N≤8:=by have:=HX.out.1;have:=HN.out;omega
   clear hri hbx hrm h0 hal m5 O3 O5;go_wp2_with (at_builtin;refine wpList_pushI rfl _ _ rfl w.heap.size A2 N c2 xs rfl ow x rfl (by omega) hsz ?_;intro A7 c7 w7 ho7 hm7)
   have C7:=h5.mid hm7 (Or.inl hpw);have M7:=hm5.transNew hm7 (Or.inl (Nat.le_refl _));have HL7:Hid ((xs++[x]).length=N+1):=Lib.hid (by rw [List.length_append,HN.out];rfl);have HO7:Hid (OI w7 w.heap.size w7.heap.size A7 c7 (xs++[x])):=Lib.hid (by
    have:=HL7.out;unfold OI;rw [this];exact OV.new ho7)
   have HX7:Hid (OkI (xs++[x])):=Lib.hid (by
    intro z hz;rcases List.mem_append.1 hz with hz | hz
    ·exact HX.out.2 z hz
    ·simp at hz;omega)
   clear ho7 hm7 ow h5 hm5;go_wp2_with fail;go_ret2;exact ⟨r,A7,c7,xs++[x],by rw [HL7.out];rfl,⟨by have:=HL7.out;omega,HX7.out⟩,HO7.out,C7,M7⟩
  ·have d1:((y:Int) == 1)=false:=by simp;omega
   have O9:=Lib.hid (OV.wide (lo':=w.heap.size) O3.out (Nat.le_refl _) (by omega) (Nat.le_refl _));go_wp2_with fail;go_ret2;exact ⟨r,A2,c2,xs,by rw [HN.out];rfl,⟨by have:=HX.out.1;omega,HX.out.2⟩,O9.out,h3,M3⟩
theorem invW_okA {xs:List Int} (h:OkI xs):OkI (invW xs):=fun x hx=>by
 simp only [invW,List.mem_map,List.mem_reverse] at hx;obtain ⟨y,hy,rfl⟩:=hx;have:=h y hy;unfold negI minI;split <;> omega
abbrev WB (xs:List Int):Prop:=xs.length≤9∧OkI xs
theorem l2Two_any (A:Option Addr) (bs:List Int) (c:Nat) (w:World) (hi:Nat) (hb:OkB bs) (hl:bs.length≤1048576) (hr:RV w 0 hi A (byts bs)) :
  Calls Tryz.prog 112 #[.slice A bs.length c] w fun e w'=>∃ A1 c1 xs A2 c2 ys,e=.returned (.tuple #[.slice A1 (List.length xs) c1,.slice A2 (List.length ys) c2])∧WB xs∧WB ys∧OI w' w.heap.size w'.heap.size A1 c1 xs∧OI w' w.heap.size w'.heap.size A2 c2 ys∧Mid 0 0 w w':=by
 go_enter Tryz.func112,Tryz.ntmps112
 go_wp2_with fail;with_reducible refine (l1New_any A bs c w hi hb hl hr).mono ?_
 rintro e w2 ⟨p,rfl,hp,h2,m2⟩;have hs2:=m2.size;have hpl:=h2.lt;clear hr;go_wp2_with fail;with_reducible refine (l2Any_any p A bs c _ hb hl h2).mono ?_
 rintro e w3 ⟨r,A1,c1,xs,rfl,hx,ho,h3,m3⟩;have hs3:=m3.size;have HX:=Lib.hid hx;have HO:=Lib.hid ho;obtain ⟨N,hN⟩:∃ n,xs.length=n:=⟨_,rfl⟩
 have HN:=Lib.hid hN;rw [hN];have hM3:=m2.transNew m3 (Or.inl hp);clear hx ho hN h2 m2 m3;go_wp2_with fail;with_reducible refine (l2Any_any p A bs c _ hb hl h3).mono ?_
 rintro e w4 ⟨r',A2,c2,ys,rfl,hy,ho,h4,m4⟩;have hs4:=m4.size;have HY:=Lib.hid hy;have HO1:=Lib.hid (OV.wide (lo':=w.heap.size) (OV.mid HO.out m4 (Or.inl (by omega))) hs2 hs4 (Nat.le_refl _));have HO2:=Lib.hid (OV.wide (lo':=w.heap.size) ho (by omega) (Nat.le_refl _) (Nat.le_refl _));have hM4:=hM3.transNew m4 (Or.inl hp);obtain ⟨N2,hN2⟩:∃ n,ys.length=n:=⟨_,rfl⟩
 have HN2:=Lib.hid hN2;rw [hN2];clear hy ho hN2 h3 h4 m4 HO;go_wp2_with fail;go_ret2;exact ⟨A1,c1,xs,A2,c2,ys,by rw [HN.out,HN2.out];rfl,HX.out,HY.out,HO1.out,HO2.out,hM4⟩
theorem DrawCompareNielsen_any (A:Option Addr) (bs:List Int) (c:Nat) (w:World) (hi:Nat) (hb:OkB bs) (hl:bs.length≤1048576) (hr:RV w 0 hi A (byts bs)) :
  Calls Tryz.prog 32 #[.slice A bs.length c] w fun e w'=>∃ A1 c1 xs A2 c2 ys,e=.returned (.tuple #[.slice A1 (List.length xs) c1,.slice A2 (List.length ys) c2])∧WB xs∧WB ys∧OI w' w.heap.size w'.heap.size A1 c1 xs∧OI w' w.heap.size w'.heap.size A2 c2 ys∧Mid 0 0 w w':=by
 go_enter Tryz.func32,Tryz.ntmps32
 go_wp2_with fail;with_reducible refine (l2Two_any A bs c w hi hb hl hr).mono ?_
 rintro e w2 ⟨A1,c1,xs,A2,c2,ys,rfl,hx,hy,ho1,ho2,hm⟩;have HX:=Lib.hid hx;have HY:=Lib.hid hy;have HO1:=Lib.hid ho1;have HO2:=Lib.hid ho2;have HF:=Lib.hid (spec_InvertWordE A1 xs c1 w2 (OV.rv ho1).rsS hx.2 (by have:=hx.1;omega));obtain ⟨N,hN⟩:∃ n,xs.length=n:=⟨_,rfl⟩
 have HN:=Lib.hid hN;rw [hN] at HF ⊢;obtain ⟨N2,hN2⟩:∃ n,ys.length=n:=⟨_,rfl⟩
 have HN2:=Lib.hid hN2;rw [hN2];clear hx hy ho1 ho2 hN hN2 hr;have hs2:=hm.size;by_cases hp:bs.length % 2=0
 ·go_wp2_with fail
  with_reducible refine HF.out.mono ?_
  rintro e w3 ⟨A3,c3,rfl,ho3,hb3⟩;have m3:Mid 0 0 w2 w3:=Mid.of_below hb3;have hs3:=m3.size;have O1:=Lib.hid (OV.wide (lo':=w.heap.size) (OV.mid HO1.out m3 oZl) (Nat.le_refl _) hs3 (Nat.le_refl _));have O3:Hid (OI w3 w.heap.size w3.heap.size A3 c3 (invW xs)):=Lib.hid (OV.wide (OV.new ho3) hs2 (Nat.le_refl _) (Nat.le_refl _));have HZ:Hid (WB (invW xs)):=Lib.hid ⟨by rw [invW_len];exact HX.out.1,invW_okA HX.out.2⟩;clear ho3 hb3 HF HO1 HO2;go_wp2_with fail;go_ret2;exact ⟨A1,c1,xs,A3,c3,invW xs,by rw [HN.out];rfl,HX.out,HZ.out,O1.out,O3.out,hm.trans m3⟩
 ·clear HF
  go_wp2_with fail;go_ret2;exact ⟨A1,c1,xs,A2,c2,ys,by rw [HN.out,HN2.out];rfl,HX.out,HY.out,HO1.out,HO2.out,hm⟩
end
section
open Go.RowKit
def idW (n:Nat):List (List Int):=(List.range n).map fun (i:Nat)=>[(i:Int)+1]
theorem idW_succ (n:Nat):idW (n+1)=idW n++[[(n:Int)+1]]:=by simp [idW,List.range_succ]
theorem idW_len (n:Nat):(idW n).length=n:=by simp [idW]
def idM (r:Int):Mor:=if 1≤r∧r≤3 then ⟨r,idW r.toNat⟩ else ⟨0,[]⟩
def idB (r:Int):Bool:=inB r 1 3
theorem spec_IdentityMorphism (r:Int) (w:World) :
  Calls Tryz.prog 83 #[.int .i64 r] w fun e w'=>∃ A c,e=.returned (.tuple #[.agg #[.int .i64 (idM r).rank,.slice A (idM r).imgs.length c],.bool (idB r)]) ∧
   OSS w' w.heap.size w'.heap.size 44 3 A c (idM r).imgs∧Mid 0 0 w w':=by
 by_cases hb:inB r 1 3=false
 ·have hd:idM r=⟨0,[]⟩:=by
   unfold idM;rw [if_neg];intro h;simp [inB] at hb;omega
  have HD:=Lib.hid hd;clear hd;have HB:=Lib.hid hb;go_enter Tryz.func83,Tryz.ntmps83
  go_wp2_with fail;with_reducible refine (l1In_any _ _ _ _).mono ?_
  rintro e w1 ⟨rfl,rfl⟩;rw [HB.out];go_wp2_with fail;refine bodyPost_ret (v:=.tuple #[.agg #[.int .i64 0,.slice none 0 0],.bool false]) (by simp [results,Tryz.results83,go_sem]) rfl ⟨none,0,?_,?_,?_⟩
  ·rw [HD.out,show idB r=false from HB.out]
   rfl
  ·rw [HD.out]
   exact OSS.nil
  ·repeat (first | exact Mid.alloc _ _ | refine Mid.storeNew ?_ (by simp) _)
 ·have hb':inB r 1 3=true:=by simpa using hb
  have hr:1≤r∧r≤3:=by simpa [inB] using hb'
  obtain ⟨n,rfl⟩:∃ n:Nat,r=(n:Int):=⟨r.toNat,by omega⟩
  have hn:n≤3:=by omega
  have hd:idM n=⟨n,idW n⟩:=by
   unfold idM;rw [if_pos hr];simp
  have HD:=Lib.hid hd;have HB:=Lib.hid hb';clear hd hb hb' hr;go_enter Tryz.func83,Tryz.ntmps83
  go_wp2_with fail;with_reducible refine (l1In_any _ _ _ _).mono ?_
  rintro e w1 ⟨rfl,rfl⟩;rw [HB.out];go_wp2_with fail;have hbx0:=(Box.new (w.alloc (.cells #[.int .i64 0,.slice none 0 0] 76)) #[.int .i64 n,.slice none 0 0] 76)
  have hby0:=(Box.new w #[.int .i64 0,.slice none 0 0] 76).mid (Mid.alloc _ (.cells #[.int .i64 n,.slice none 0 0] 76)) oZr;have hm0:Mid 0 0 w ((w.alloc (.cells #[.int .i64 0,.slice none 0 0] 76)).alloc (.cells #[.int .i64 n,.slice none 0 0] 76)):=(Mid.alloc _ _).trans (Mid.alloc _ _);rw [World.size_alloc] at hbx0;go_loopw [5] (fun i wr=>∃ k:Nat,∃ rows:List Row,∃ A c,k≤n∧i=.int .i64 ((k:Int)+1)∧rowsD rows=idW k ∧
   Box wr (w.heap.size+1) [.int .i64 n,.slice A k c]∧Box wr w.heap.size [.int .i64 0,.slice none 0 0] ∧
   wr.ownsRow (w.heap.size+2) 44 1 (.slice A k c) k (rowsV rows)∧OwnRows wr (w.heap.size+2) wr.heap.size 3 rows∧Mid 0 0 w wr∧w.heap.size+2≤wr.heap.size)
   (fun i _=>n+1 - (intOf i).toNat)
  case atStart=>exact ⟨0,[],none,0,Nat.zero_le _,by simp,by simp [rowsD,idW],hbx0,hby0,⟨rfl,.inl ⟨rfl,rfl⟩⟩,OwnRows.nil,hm0,by simp⟩
  case round =>
   obtain ⟨k,rows,A,c,hk,rfl,hrd,hbx,hby,hown,hrows,hm,hsz⟩:=hrel;have HRD:=Lib.hid hrd;clear hrd;have bx1:=hbx.cell 1 rfl;have bx0:=hbx.cell 0 rfl;have by0:=hby.cell 0 rfl;have by1:=hby.cell 1 rfl;have fx:=hbx.2.2;have fy:=hby.2.2;by_cases hlt:k < n
   ·have hma:Mid 0 0 wr (wr.alloc (.cells #[.int .i64 ((k:Int)+1)] 3)):=Mid.alloc _ _
    have hownA:=hown.alloc (.cells #[.int .i64 ((k:Int)+1)] 3);have hrowsA:=hrows.mid hma oZl;have hrow:=World.ownsRow_lit (e:=3) (size:=1) wr #[.int .i64 ((k:Int)+1)] 1 (Nat.le_refl _) (by decide) rfl;go_wp2_with (at_builtin;refine wpList_push rfl _ _ 24 rfl (w.heap.size+2) 44 (.slice none 0 0) 1 24 undSSI infoSI rfl (by decide) _ _ _ rfl hownA 1 [.slice (some ⟨wr.heap.size,0,none⟩) 1 1] (by simp [go_sem]) rfl ?c1 ?c2 ?c3 (by simp;omega) ?next)
    case c1=>simp [Value.oneCell']
    case c2=>unfold maxLen;omega
    case c3=>omega
    case next =>
     intro v' w1 hown1 hgr _;have hmg:=Mid.of_grownRow hownA hgr;have hs1:=hmg.size;simp only [World.size_alloc] at hs1 hmg;have hbx1:=(hbx.mid hma oZr).mid hmg (Or.inl (by omega));have hby1:=(hby.mid hma oZr).mid hmg (Or.inl (by omega));have bx1':=hbx1.cell 1 rfl;have fx1:=hbx1.2.2;obtain ⟨A',c',rfl, -, -⟩:=owns_shape hown1;go_wp2_with fail;go_roundw
     case rel =>
      have hp:=hrowsA.push (r:=⟨some ⟨wr.heap.size,0,none⟩,1,[(k:Int)+1]⟩) (base:=wr.heap.size) (hi':=wr.heap.size+1) hrow (Nat.le_refl _) hsz (by omega) (by simp)
       (by intro g hg;simp [Row.v,Value.ownBlock] at hg;omega)
      have hp1:=(hp.grown hownA (by decide) hgr).mid (Mid.setCell w1 (lo:=w.heap.size+1) (hi:=w.heap.size+2) (p:=⟨w.heap.size+1,1,none⟩) (.slice A' (k+1) c') (by simp) (by simp)) (Or.inl (Nat.le_refl _));have hms:=Mid.setCell w1 (lo:=w.heap.size+1) (hi:=w.heap.size+2) (p:=⟨w.heap.size+1,1,none⟩) (.slice A' (k+1) c') (by simp) (by simp);refine ⟨k+1,rows++[⟨some ⟨wr.heap.size,0,none⟩,1,[(k:Int)+1]⟩],A',c',by omega,by go_num,?_,hbx1.set 1 _ (by simp) rfl,hby1.mid hms (Or.inl (by omega)),?_,hp1.wide (Nat.le_refl _) (by simpa using hs1) (by simp),?_,by simp;omega⟩
      ·rw [rowsD_append,HRD.out,idW_succ]
       rfl
      ·rw [rowsV_append]
       exact owns_mid hown1 hms (Or.inl (Nat.le_refl _))
      ·exact ((hm.trans hma).transNew hmg (Or.inl (by omega))).storeNew (by simp) _
     case measure=>simp [intOf];omega
   ·obtain rfl:k=n:=by omega
    go_wp2_with fail;have hD:rowsD rows=idW k:=HRD.out;refine bodyPost_ret (v:=.tuple #[.agg #[.int .i64 k,.slice A k c],.bool true]) (by simp [results,Tryz.results83,go_sem,by0,by1,fy]) rfl ⟨A,c,?_,?_,?_⟩
    ·rw [HD.out,show idB k=true from HB.out]
     simp [idW_len]
    ·refine OSS.wide ((OSS.mk' hown hrows (by rw [hD,HD.out])).mid (a:=w.heap.size) (b:=w.heap.size+1) ?_ (Or.inl (by omega))) (by omega) (by simp) (Nat.le_refl _)
     repeat (first | exact Mid.refl _ _ _ | refine Mid.stored ?_ _ (by simp) (by simp))
    ·repeat (first | exact hm | refine Mid.storeNew ?_ (by simp) _)
end
section
open Go.RowKit
section
variable {P:Program} {ops:Array Oper} {Q:Exit→Act→World→Prop} {md:Region.Mode} {S:World→Prop} {Z:List Nat}
def wpAnyZ (P:Program) (md:Region.Mode) (ops:Array Oper) (Q:Exit→Act→World→Prop) (S:World→Prop) (Z:List Nat):Nat→Array Bool→Act→World→Prop
 | 0,listed,a,w=>Region.ready md ops listed=[]∧Q .normal a w
 | fuel+1,listed,a,w =>
  (Region.ready md ops listed=[]→Q .normal a w) ∧
  ∀ i∈Region.ready md ops listed,wpOp P ops Q i (fun a' w'=>(i∈Z ∨ S w')∧wpAnyZ P md ops Q S Z fuel (listed.setIfInBounds i true) a' w') a w
theorem wpAny_of_Z:∀ (fuel:Nat) (listed:Array Bool) (a:Act) (w:World),wpAnyZ P md ops Q S Z fuel listed a w→wpAny P md ops Q fuel listed a w
 | 0,_,_,_,h=>h
 | fuel+1,_,_,_,h=>⟨h.1,fun i hi=>wpOp_mono (fun a' w' h'=>wpAny_of_Z fuel _ a' w' h'.2) (h.2 i hi)⟩
theorem not_lastZ {z i:Nat} {listed:Array Bool} (hz:Region.waitsFor md ops z i=true) (hun:listed.getD i true=false):z ∉ Region.ready md ops listed:=by
 intro hr;obtain ⟨-,oz,hoz,hall⟩:=mem_ready.1 hr;obtain ⟨oz',hoz',e,he,hb,hon⟩:=Region.waitsFor_spec hz;obtain rfl:oz'=oz:=Option.some.inj (hoz'.symm.trans hoz);have h1:=hall e he hb;rw [hon,getD_both hun] at h1;cases h1
theorem not_lastC {i m:Nat} {C:List Nat} {listed:Array Bool} (hC:∀ m∈C,listed.getD m true=false∧∃ p∈i :: C,Region.waitsFor md ops m p=true) (hi:listed.getD i true=false) (hm:m∈C):m ∉ Region.ready md ops listed:=by
 obtain ⟨-,p,hp,hw⟩:=hC m hm;have hun:listed.getD p true=false:=by
  rcases List.mem_cons.1 hp with rfl | hp
  ·exact hi
  ·exact (hC p hp).1
 exact not_lastZ hw hun
theorem wpAnyZ_firstC {i:Nat} {oi:Oper} {v:Value} {C:List Nat} (hi:ops[i]?=some oi) (hsel:∀ (j:Nat) (o:Oper) cs b,ops[j]?=some o→o.op≠.select cs b)
  (hQ:∀ c a w,Q (.panic c) (a.put oi.dst v) w→Q (.panic c) a w) (hZC:∀ z∈Z,z∈C) :
  ∀ (fuel:Nat) (listed:Array Bool) (a:Act) (w:World),
   (∀ j oj,ops[j]?=some oj→j≠i→listed.getD j true=false→(∀ e∈oj.after,Region.binds md e=true→e.on≠i)→oi.apart ops oj=true) →
   (∀ m∈C,listed.getD m true=false∧∃ p∈i :: C,Region.waitsFor md ops m p=true) →
   i∈Region.ready md ops listed→YieldsIf P ops S oi v a→S w →
   wpAnyZ P md ops Q S Z fuel (listed.setIfInBounds i true) (a.put oi.dst v) w→wpAnyZ P md ops Q S Z (fuel+1) listed a w:=by
 intro fuel
 induction fuel with
 | zero =>
  intro listed a w _ _ hr hy hS H;refine ⟨fun h=>(by rw [h] at hr;cases hr),fun j hj=>?_⟩;by_cases hji:j=i
  ·subst hji;exact hy.wpOp hi hS ⟨.inr hS,H⟩
  ·have:=ready_mono hj hji
   rw [H.1] at this;cases this
 | succ fuel ih =>
  intro listed a w hfree hC hr hy hS H;refine ⟨fun h=>(by rw [h] at hr;cases hr),fun j hj=>?_⟩;by_cases hji:j=i
  ·subst hji;exact hy.wpOp hi hS ⟨.inr hS,H⟩
  ·have hjC:j ∉ C:=fun e=>not_lastC hC (mem_ready.1 hr).1 e hj
   have hjz:j ∉ Z:=fun e=>hjC (hZC j e);have h1:=H.2 j (ready_mono hj hji);obtain ⟨hjun,oj,hoj,hall⟩:=mem_ready.1 hj;have hnot:∀ e∈oj.after,Region.binds md e=true→e.on≠i:=fun e he hb heq=>by
    have h1:=hall e he hb;have h0:=(mem_ready.1 hr).1;rw [heq] at h1;rcases Nat.lt_or_ge i listed.size with h' | h'
    ·simp [h'] at h0 h1;rw [h0] at h1;cases h1
    ·simp [Array.getElem?_eq_none h'] at h1
   have h2:=wpOp_putIf hoj (hfree j oj hoj hji hjun hnot) (fun cs b=>hsel i oi cs b hi) (fun cs b=>hsel j oj cs b hoj) hQ hy h1;have hfree':∀ k ok,ops[k]?=some ok→k≠i→(listed.setIfInBounds j true).getD k true=false →
     (∀ e∈ok.after,Region.binds md e=true→e.on≠i)→oi.apart ops ok=true:=fun k ok hk hki hun hno=>by
    refine hfree k ok hk hki ?_ hno;by_cases hjk:j=k
    ·subst hjk;exact hjun
    ·rw [getD_set_ne true hjk] at hun;exact hun
   have hC':∀ m∈C,(listed.setIfInBounds j true).getD m true=false∧∃ p∈i :: C,Region.waitsFor md ops m p=true:=fun m hm=>by
    refine ⟨?_,(hC m hm).2⟩;have hjm:j≠m:=fun e=>hjC (e ▸ hm);rw [getD_set_ne true hjm];exact (hC m hm).1
   refine wpOp_mono (fun a' w' h3=>?_) h2;have hS':S w':=h3.2.1.resolve_left hjz;refine ⟨.inr hS',ih (listed.setIfInBounds j true) a' w' hfree' hC' (ready_mono hr (Ne.symm hji)) h3.1 hS' ?_⟩;rw [Array.setIfInBounds_comm _ _ hji];exact h3.2.2
theorem wpAnyZ_takeC (C:List Nat) {i:Nat} {oi:Oper} {v:Value} {fuel:Nat} {listed:Array Bool} {a:Act} {w:World} (hi:ops[i]?=some oi)
  (hs:Region.noSelect ops=true) (hf:Region.free md ops listed i=true) (hr:(Region.ready md ops listed).contains i=true)
  (hz:((Z.all fun z=>C.contains z) && C.all fun m=>(listed.getD m true == false) && (i :: C).any fun p=>Region.waitsFor md ops m p)=true)
  (hQ:∀ c a w,Q (.panic c) (a.put oi.dst v) w→Q (.panic c) a w) (hy:YieldsIf P ops S oi v a) (hS:S w)
  (h:wpAnyZ P md ops Q S Z fuel (listed.setIfInBounds i true) (a.put oi.dst v) w):wpAnyZ P md ops Q S Z (fuel+1) listed a w:=by
 rw [Bool.and_eq_true] at hz;refine wpAnyZ_firstC hi (Region.noSelect_spec hs) hQ (C:=C) (fun z hzm=>by simpa using List.all_eq_true.1 hz.1 z hzm) fuel listed a w (Region.free_spec hi hf) (fun m hm=>?_) (by simpa using hr) hy hS h;have:=List.all_eq_true.1 hz.2 m hm;rw [Bool.and_eq_true] at this;refine ⟨by simpa using this.1,?_⟩;obtain ⟨p,hp,hw⟩:=List.any_eq_true.1 this.2;exact ⟨p,hp,hw⟩
def AllReadyZ (P:Program) (md:Region.Mode) (ops:Array Oper) (Q:Exit→Act→World→Prop) (S:World→Prop) (Z:List Nat) (fuel:Nat) (listed:Array Bool) (a:Act) (w:World) (rs:List Nat):Prop :=
 ∀ i∈rs,wpOp P ops Q i (fun a' w'=>(i∈Z ∨ S w')∧wpAnyZ P md ops Q S Z fuel (listed.setIfInBounds i true) a' w') a w
theorem AllReadyZ.nil {fuel:Nat} {listed:Array Bool} {a:Act} {w:World}:AllReadyZ P md ops Q S Z fuel listed a w []:=fun _ h=>by cases h
theorem AllReadyZ.cons {fuel:Nat} {listed:Array Bool} {a:Act} {w:World} {i:Nat} {o:Oper} {rs:List Nat} (ho:ops[i]?=some o)
  (h:∀ K':Act→World→Prop,Shut (∀ a w,(i∈Z ∨ S w)→((i∈Z ∨ S w)→wpAnyZ P md ops Q S Z fuel (listed.setIfInBounds i true) a w)→K' a w)→if Region.wanted o (yielded ops a.tmps)=true then Oper.wp P o a w K' Q else K' (a.put o.dst undef) w)
  (hs:AllReadyZ P md ops Q S Z fuel listed a w rs):AllReadyZ P md ops Q S Z fuel listed a w (i :: rs):=fun j hj=>by
 rcases List.mem_cons.1 hj with rfl | hj
 ·exact wpOp_step ho (fun K' hK=>h K' (fun a w hS hW=>hK a w ⟨hS,hW hS⟩))
 ·exact hs j hj
theorem wpAnyZ_ready {rs:List Nat} {fuel:Nat} {listed:Array Bool} {a:Act} {w:World} (hr:Region.ready md ops listed=rs) (hne:rs≠[])
  (h:AllReadyZ P md ops Q S Z fuel listed a w rs):wpAnyZ P md ops Q S Z (fuel+1) listed a w :=
 ⟨fun h0=>absurd (hr.symm.trans h0) hne,fun i hi=>h i (hr ▸ hi)⟩
theorem wpAnyZ_done {listed:Array Bool} {a:Act} {w:World} (hr:Region.ready md ops listed=[]) (h:Q .normal a w):∀ fuel,wpAnyZ P md ops Q S Z fuel listed a w
 | 0=>⟨hr,h⟩
 | _+1=>⟨fun _=>h,by rw [hr];simp⟩
theorem wp_region_Z {id:Nat} {a:Act} {w:World} (Z:List Nat) (hm:P.follows .mixedOrders=true) (hS:S w.drew)
  (h:wpAnyZ P .any ops Q S Z ops.size (Array.replicate ops.size false) a w.drew):(Code.region id ops true).wp P Q a w :=
 wp_region_any hm (wpAny_of_Z _ _ _ _ h)
end
end
section
variable {P:Program} {ops:Array Oper} {Q:Exit→Act→World→Prop} {md:Region.Mode} {S:World→Prop} {Z:List Nat}
theorem tkZ (C:List Nat) (i:Nat) {oi:Oper} {v:Value} {fuel:Nat} {listed:Array Bool} {a:Act} {w:World} (hi:ops[i]?=some oi) (hS:S w)
 (h:wpAnyZ P md ops Q S Z fuel (listed.setIfInBounds i true) (a.put oi.dst v) w)
 (hs:Region.noSelect ops=true:=by kernel_rfl) (hf:Region.free md ops listed i=true:=by kernel_rfl) (hr:(Region.ready md ops listed).contains i=true:=by kernel_rfl)
 (hz:((Z.all fun z=>C.contains z) && C.all fun m=>(listed.getD m true == false) && (i :: C).any fun p=>Region.waitsFor md ops m p)=true:=by kernel_rfl)
 (hy:∀ w,S w→(execOp a.eval oi).run P w=.ok (.value v) w:=by intro w hSw;(try dsimp only at hSw);go_simp;try with_reducible rfl)
 (hQ:∀ c a w,Q (.panic c) (a.put oi.dst v) w→Q (.panic c) a w:=by exact fun _ _ _ h=>h) (hw:Region.wanted oi (yielded ops a.tmps)=true:=by rfl):wpAnyZ P md ops Q S Z (fuel+1) listed a w :=
 wpAnyZ_takeC C hi hs hf hr hz hQ (Or.inl ⟨hw,hy⟩) hS h
theorem rdZ (i:Nat) {fuel:Nat} {listed:Array Bool} {a:Act} {w:World} {o:Oper} (ho:ops[i]?=some o)
 (h:∀ K':Act→World→Prop,Shut (∀ a w,(i∈Z ∨ S w)→((i∈Z ∨ S w)→wpAnyZ P md ops Q S Z fuel (listed.setIfInBounds i true) a w)→K' a w)→if Region.wanted o (yielded ops a.tmps)=true then Oper.wp P o a w K' Q else K' (a.put o.dst undef) w)
 (hr:Region.ready md ops listed=[i]:=by kernel_rfl):wpAnyZ P md ops Q S Z (fuel+1) listed a w:=wpAnyZ_ready hr (by simp) (AllReadyZ.cons ho h AllReadyZ.nil)
end
section
open Go.RowKit
theorem oss_put {w:World} {lo hi c n g c':Nat} {d:List (List Int)} {A':Option Addr} {x:List Int} (h:OSS w lo hi 44 3 (some ⟨g,0,none⟩) c d) (hlo:lo≤hi) (ho:OI w hi w.heap.size A' c' x) :
  OSS (w.setCell ⟨g,n,none⟩ (.slice A' x.length c')) lo w.heap.size 44 3 (some ⟨g,0,none⟩) c (d.set n x):=by
 obtain ⟨rows,hD,hown,hlt,hrows⟩:=h.cut;have hs:=h.size;have hp:=hrows.replace (k:=n) (hi':=w.heap.size) (r:=⟨A',c',x⟩) (base:=hi) ho.2.1 (Nat.le_refl _) hlo hs (Nat.le_refl _) ho.2.2;have hp3:=hp.grown hown (by decide) (grown_of_setCell w g n (.slice A' x.length c'));have hset:=owns_set hown n (.slice A' x.length c') rfl;have hz:(w.setCell ⟨g,n,none⟩ (.slice A' x.length c')).heap.size=w.heap.size:=World.size_setCell _ _ _;have h2:=OSS.mk' (w:=w.setCell ⟨g,n,none⟩ (.slice A' x.length c')) (tI:=3) (rows:=rows.set n ⟨A',c',x⟩) (xss:=d.set n x) (by rw [rowsV_set];exact hset) (by rw [hz];exact hp3) (by rw [rowsD_set,hD]);rw [hz] at h2;exact h2
def fibP:Nat→Nat × Nat
 | 0=>(1,2)
 | n+1=>((fibP n).2,(fibP n).1+(fibP n).2)
theorem fib_le:∀ n,1≤(fibP n).1∧(fibP n).1≤(fibP n).2
 | 0=>by decide
 | n+1=>by have:=fib_le n;simp only [fibP];omega
theorem fib3 {t:Nat} (h:t≤2):(fibP t).1≤3∧(fibP t).2≤5:=by
 rcases (show t=0 ∨ t=1 ∨ t=2 by omega) with rfl | rfl | rfl <;> decide
structure FibW (t:Nat) (l:List (List Int)):Prop where
 one:∀ xs∈l,LtW xs∧Rd xs∧xs.length≤(fibP t).1
 two:∀ (i k:Nat) (a b:List Int),i≠k→l[i]?=some a→l[k]?=some b→a.length+b.length≤(fibP t).2
theorem FibW.put {t i:Nat} {l:List (List Int)} {x:List Int} (h:FibW t l) (hx:LtW x) (hr:Rd x) (hl:x.length≤(fibP t).2):FibW (t+1) (l.set i x):=by
 have hf:=fib_le t;refine ⟨fun xs hm=>?_,fun j k a b hjk ha hb=>?_⟩
 ·rcases List.mem_or_eq_of_mem_set hm with hm | rfl
  ·have:=h.one xs hm
   exact ⟨this.1,this.2.1,by have:=this.2.2;simp only [fibP];omega⟩
  ·exact ⟨hx,hr,by simp only [fibP];omega⟩
 ·have one:∀ {j:Nat} {a:List Int},j≠i→(l.set i x)[j]?=some a→a.length≤(fibP t).1∧l[j]?=some a:=by
   intro j a hj ha;rw [List.getElem?_set_ne (fun e=>hj e.symm)] at ha;exact ⟨(h.one a (List.mem_of_getElem? ha)).2.2,ha⟩
  have eqx:∀ {a:List Int},(l.set i x)[i]?=some a→a=x:=by
   intro a ha;rw [List.getElem?_set] at ha;simp at ha;exact ha.2.symm
  simp only [fibP];by_cases hj:j=i
  ·subst hj
   have h1:=eqx ha;have h2:=(one (fun e=>hjk e.symm) hb).1;subst h1;omega
  ·have h1:=one hj ha
   by_cases hk:k=i
   ·subst hk
    have h2:=eqx hb;subst h2;omega
   ·have:=h.two j k a b hjk h1.2 (one hk hb).2
    omega
theorem fib_id (r:Nat) (hr3:r≤3):FibW 0 (idW r):=by
 refine ⟨fun xs hx=>?_,fun i k a b _ ha hb=>?_⟩
 ·simp only [idW,List.mem_map,List.mem_range] at hx
  obtain ⟨i,hi,rfl⟩:=hx;exact ⟨fun x hx=>by simp at hx;subst hx;unfold Lt3;omega,fun a b x h=>by have:=congrArg List.length h;simp at this;omega,by simp [fibP]⟩
 ·simp only [idW,List.getElem?_map] at ha hb
  obtain ⟨x,_,rfl⟩:=Option.map_eq_some_iff.1 ha;obtain ⟨y,_,rfl⟩:=Option.map_eq_some_iff.1 hb;simp [fibP]
theorem id_any (r:Nat) (hr1:1≤r) (hr3:r≤3) (w:World) :
  Calls Tryz.prog 83 #[.int .i64 r] w fun e w'=>∃ A c,e=.returned (.tuple #[.agg #[.int .i64 r,.slice A r c],.bool true])∧OSS w' w.heap.size w'.heap.size 44 3 A c (idW r)∧Mid 0 0 w w':=by
 have hi:idM (r:Int)=⟨r,idW r⟩:=by unfold idM;rw [if_pos (by omega)];rfl
 have hb:idB (r:Int)=true:=by simp [idB,inB];omega
 have:=spec_IdentityMorphism (r:Int) w;rw [hi,hb] at this;simp only [idW_len] at this;exact this
theorem oss_cell {w:World} {lo hi c n g:Nat} {d:List (List Int)} (h:OSS w lo hi 44 3 (some ⟨g,0,none⟩) c d) (hn:n < d.length):(∃ u,w.cell? ⟨g,n,none⟩=some u)∧w.frozen? ⟨g,n,none⟩=false:=by
 obtain ⟨rows,hD,hown,hlt,hrows⟩:=h.cut;obtain ⟨u,_,hu⟩:=owns_cell hown hn;exact ⟨⟨u,hu⟩,hown.frozenAt n⟩
theorem l19Morphism_any (p:Nat) (A:Option Addr) (bs:List Int) (c:Nat) (w:World) (hb:OkB bs) (hl:bs.length≤1048576) (h:Cur w p A bs c) :
  Calls Tryz.prog 92 #[.pointer (some ⟨p,0,none⟩)] w fun e w'=>∃ r A' c' l,e=.returned (.agg #[.int .i64 r,.slice A' (List.length l) c'])∧(1≤r∧r≤3∧(l.length:Int)=r∧∀ xs∈l,LtW xs∧Rd xs∧xs.length≤5)∧OSS w' w.heap.size w'.heap.size 44 3 A' c' l∧Cur w' p A bs c∧Mid p (p+1) w w':=by
 have hpw:=h.lt;have hal0:=Mid.alloc w (.cells #[.int .i64 0,.slice none 0 0] 76);have B2:=Box.new w #[.int .i64 0,.slice none 0 0] 76;obtain ⟨w1,hw1⟩:∃ x,w.alloc (.cells #[.int .i64 0,.slice none 0 0] 76)=x:=⟨_,rfl⟩
 have h1:=h.mid hal0 (Or.inr rfl);go_enter Tryz.func92,Tryz.ntmps92
 rw [hw1] at B2 hal0 h1;have hs0:w.heap.size < w1.heap.size:=B2.1;have hal:=Mid.alloc w1 (.cells #[.int .i64 1,.int .i64 2,.int .i64 2,.int .i64 2,.int .i64 3] 3);have hbx:=Box.new w1 #[.int .i64 1,.int .i64 2,.int .i64 2,.int .i64 2,.int .i64 3] 3;have h0:=h1.mid hal (Or.inr rfl);have e1:(w.alloc (.cells #[.int .i64 0,.slice none 0 0] 76)).heap.size=w1.heap.size:=by rw [hw1]
 go_wp2_with fail;generalize w1.alloc (.cells #[.int .i64 1,.int .i64 2,.int .i64 2,.int .i64 2,.int .i64 3] 3)=w2 at hbx h0 hal ⊢;have hs1:w1.heap.size < w2.heap.size:=hbx.1;have hri:RI w2 w1.heap.size (w1.heap.size+1) (some ⟨w1.heap.size,0,none⟩) [1,2,2,2,3] :=
  ⟨hs1,fun _=>⟨w1.heap.size,0,rfl,Nat.le_refl _,Nat.lt_succ_self _,fun j u hu=>by rw [Nat.zero_add];exact hbx.2.1 j u (by simpa [ints] using hu)⟩⟩
 with_reducible refine (l1PickIntN (some ⟨w1.heap.size,0,none⟩) [1,2,2,2,3] 5 5 rfl (by decide) (by decide) p A bs c _ w1.heap.size _ hri (Or.inl (by omega)) hb hl h0).mono ?_
 rintro e w3 ⟨r,rfl,hrm,h3,m3⟩;have hr:1≤r∧r≤3:=by simp at hrm;omega
 obtain ⟨R,rfl⟩:=Int.eq_ofNat_of_zero_le (show 0≤r by omega);have hR:1≤R∧R≤3:=by omega
 have hm3:=(hal0.zero.trans hal.zero).trans m3;have B3:=(B2.mid hal oZr).mid m3 (Or.inr (by omega));have hs3:=m3.size;have hs13:w1.heap.size < w3.heap.size:=by omega
 clear hri hbx hrm h0 hal m3 B2 h1 hal0 e1 hr;go_wp2_with fail;with_reducible refine (id_any R hR.1 hR.2 w3).mono ?_
 rintro e w4 ⟨Ai,ci,rfl,ho,m4⟩;have hs4:=m4.size;obtain ⟨g,hg⟩:∃ g,w4.heap.size=g:=⟨_,rfl⟩
 have hal4:=Mid.alloc w4 (.cells #[.int .i64 R,.slice Ai R ci] 76);have B4:=Box.new w4 #[.int .i64 R,.slice Ai R ci] 76;have ho4:=ho.mid hal4 oZl;have h4:=(h3.mid m4 (Or.inr rfl)).mid hal4 (Or.inr rfl);have B5:=(B3.mid m4 oZr).mid hal4 oZr;have hm4:=(hm3.trans m4.zero).trans hal4.zero;obtain ⟨gi,hgi⟩:∃ gi,Ai=some ⟨gi,0,none⟩∧w3.heap.size≤gi∧gi < g:=by
  obtain ⟨rows,hD,hown,hlt,hrows⟩:=ho.cut;obtain ⟨gi,rfl,h1,h2⟩:=owns_addr hown (by rw [idW_len];omega);exact ⟨gi,rfl,h1,by omega⟩
 obtain ⟨rfl,hgl,hgg⟩:=hgi;go_wp2_with fail;obtain ⟨w5,hw5⟩:∃ x,w4.alloc (.cells #[.int .i64 R,.slice (some ⟨gi,0,none⟩) R ci] 76)=x:=⟨_,rfl⟩
 rw [hw5] at hal4 B4 ho4 h4 B5 hm4 ⊢;rw [hg] at B4 ho4;have hg5:g < w5.heap.size:=B4.1;clear h3 m4 hal4 B3 hm3 hw5 ho;with_reducible refine (l1OnceI 3 (by decide) (by decide) p A bs c _ hb hl h4).mono ?_
 rintro e w6 ⟨b6,rfl,h6,m6⟩;have hs6:=m6.size;have O6:=ho4.mid m6 (Or.inl (by omega));replace B4:=B4.mid m6 (Or.inr (by omega));replace B5:=B5.mid m6 (Or.inr (by omega));have hm6:=hm4.trans m6;obtain ⟨lo,hlo⟩:∃ x,w3.heap.size=x:=⟨_,rfl⟩
 rw [hlo] at O6 hgl hs4;have hll:w1.heap.size < lo:=by omega
 have hlg:lo < g:=by omega
 clear ho4 h4 m6 hm4 hlo hs3;cases b6
 ·go_wp2_with fail
  with_reducible refine (l1BelowI 4 (by decide) (by decide) p A bs c _ hb hl h6).mono ?_
  rintro e w7 ⟨n0,rfl,hn0,h7,m7⟩;have hs7:=m7.size;have O7:=Lib.hid ((O6.mid m7 (Or.inl (by omega))).wide (hi':=w7.heap.size) (Nat.le_refl _) (by omega) (Nat.le_refl _));replace B4:=B4.mid m7 (Or.inr (by omega));replace B5:=B5.mid m7 (Or.inr (by omega));have hm7:=hm6.trans m7;clear O6 h6 m7 hm6;go_wp2_with fail;go_loopw [7] (fun nv wr=>∃ (n t:Nat) (l:List (List Int)),nv=.int .i64 n∧t+n≤3∧Hid (l.length=R)∧Hid (FibW t l)∧Hid (OSS wr lo wr.heap.size 44 3 (some ⟨gi,0,none⟩) ci l)∧Box wr g [.int .i64 R,.slice (some ⟨gi,0,none⟩) R ci]∧Box wr w.heap.size [.int .i64 0,.slice none 0 0]∧Cur wr p A bs c∧Mid p (p+1) w wr)
   (fun nv _=>natV nv)
  case atStart=>exact ⟨n0,0,idW R,rfl,by omega,Lib.hid (idW_len R),Lib.hid (fib_id R hR.2),O7,B4,B5,h7,hm7⟩
  case round =>
   obtain ⟨n,t,l,rfl,htn,HLl,HF,HO,hB,hB2,hC,hM⟩:=hrel;have hsr:g < wr.heap.size:=hB.1;by_cases hlt:0 < n
   ·go_wp2_with fail
    with_reducible refine (l1BelowI (R:Int) (by omega) (by omega) p A bs c _ hb hl hC).mono ?_
    rintro e w8 ⟨i,rfl,hi,hC8,m8⟩;have hs8:=m8.size;have M8:=hM.trans m8;have HB8:=hB.mid m8 (Or.inr (by omega));have HB28:=hB2.mid m8 (Or.inr (by omega));have O8:=HO.out.mid m8 (Or.inl (by omega));clear hC hM hB hB2 HO m8;go_wp2_with fail;with_reducible refine (l1BelowI (R:Int) (by omega) (by omega) p A bs c _ hb hl hC8).mono ?_
    rintro e w9 ⟨k,rfl,hk,hC9,m9⟩;have hs9:=m9.size;have M9:=M8.trans m9;have HB9:=HB8.mid m9 (Or.inr (by omega));have HB29:=HB28.mid m9 (Or.inr (by omega));have O9:=(O8.mid m9 (Or.inl (by omega))).wide (hi':=w9.heap.size) (Nat.le_refl _) (by omega) (Nat.le_refl _);have hg9:g < w9.heap.size:=HB9.1;clear hC8 M8 HB8 HB28 O8 m9;have hln:=HLl.out;obtain ⟨b_,off,Aw,cw,v0,hbb,hb1,hb2,hv0,hcv,hrv0⟩:=O9.rss.row (k:=k) (by omega);injection hbb with hbb
    injection hbb with hbb1 hbb2
    subst hbb1;subst hbb2;rw [Nat.zero_add] at hcv;have hone:=HF.out.one v0 (List.mem_of_getElem? hv0);have HV0:=Lib.hid hv0;have HONE:=Lib.hid hone;obtain ⟨V,hV⟩:∃ n,v0.length=n:=⟨_,rfl⟩
    have HV:=Lib.hid hV;rw [hV] at hcv;have k1:=HB9.cell 1 rfl;have hk1:(k:Int) < (R:Int):=hk;have hk0:(0:Int)≤(k:Int):=by omega
    have O9h:=Lib.hid O9;clear hv0 hone hV O9;go_wp2_with fail;with_reducible refine (l1OnceI 2 (by decide) (by decide) p A bs c _ hb hl hC9).mono ?_
    rintro e w10 ⟨b10,rfl,hC10,m10⟩;have hs10:=m10.size;have M10:=M9.trans m10;have HB10:=HB9.mid m10 (Or.inr (by omega));have HB210:=HB29.mid m10 (Or.inr (by omega));have O10:=Lib.hid ((O9h.out.mid m10 (Or.inl (by omega))).wide (hi':=w10.heap.size) (Nat.le_refl _) hs10 (Nat.le_refl _));have hrv10:=RV.wide (hrv0.mid m10 (Or.inl (by omega))) (Nat.le_refl _) hs10 (Nat.le_refl _);clear hC9 M9 HB9 HB29 O9h m10 hrv0 k1 hcv;cases b10
    focus
     obtain ⟨w11,rfl⟩:∃ x,x=w10:=⟨_,rfl⟩
     obtain ⟨Av,rfl⟩:∃ x,x=Aw:=⟨_,rfl⟩
     obtain ⟨cv,rfl⟩:∃ x,x=cw:=⟨_,rfl⟩
     obtain ⟨v,hv⟩:∃ x,x=v0:=⟨_,rfl⟩
     have HVL:Hid (v.length=V):=Lib.hid (by rw [hv];exact HV.out);have HLT:Hid (LtW v∧Rd v):=Lib.hid (by rw [hv];exact ⟨HONE.out.1,HONE.out.2.1⟩);have rv:RV w11 0 w11.heap.size Av (ints v):=by rw [hv];exact hrv10.wide (Nat.zero_le _) (Nat.le_refl _) (Nat.le_refl _)
     have O11:=O10;have HB11:=HB10;have HB211:=HB210;have C11:=hC10;have M11:=M10;clear hv hrv10 O10 HB10 HB210 hC10 M10
    rotate_left
    focus
     have HFi:=spec_InvertWordE Aw v0 cw w10 hrv10.rsS HONE.out.1.ok (by have:=HONE.out.2.2;have:=HV.out;have h9:=fib3 (t:=t) (by omega);omega);rw [HV.out] at HFi;obtain ⟨v,hv⟩:∃ x,invW v0=x:=⟨_,rfl⟩
     have hvl:v.length=V:=by rw [← hv,invW_len];exact HV.out
     rw [hv,hvl] at HFi;have HFi:=Lib.hid HFi;have HVL:=Lib.hid hvl;have HLT:Hid (LtW v∧Rd v):=Lib.hid (by rw [← hv];exact ⟨HONE.out.1.inv,HONE.out.2.1.inv HONE.out.1⟩);clear hvl hv;go_wp2_with fail;with_reducible refine (HFi.out).mono ?_
     rintro e w11 ⟨Av,cv,rfl,ho11,hb11⟩;have m11:Mid 0 0 w10 w11:=Mid.of_below hb11;have hs11:=m11.size;have rv:RV w11 0 w11.heap.size Av (ints v):=(owns_rv ho11).wide (Nat.zero_le _) (Nat.le_refl _) (Nat.le_refl _);have O11:=Lib.hid ((O10.out.mid m11 oZl).wide (hi':=w11.heap.size) (Nat.le_refl _) hs11 (Nat.le_refl _));have HB11:=HB10.mid m11 oZr;have HB211:=HB210.mid m11 oZr;have C11:=hC10.mid m11 (Or.inr rfl);have M11:=M10.trans m11.zero;clear ho11 hb11 m11 HFi hrv10 O10 HB10 HB210 hC10 M10
    rotate_left
    all_goals
     have hV5:V≤3:=by have:=HONE.out.2.2;have:=HV.out;have h9:=fib3 (t:=t) (by omega);omega
     by_cases hik:i=k
     ·subst hik
      have HFI:=Lib.hid (fun W (h:RV W 0 W.heap.size Av (ints v))=>spec_InvertWordE Av v cv W h.rsS HLT.out.1.ok (by have:=HVL.out;omega));obtain ⟨x,hx⟩:∃ x,invW v=x:=⟨_,rfl⟩
      have hxl:x.length=V:=by rw [← hx,invW_len];exact HVL.out
      have HXT:Hid (LtW x∧Rd x):=Lib.hid (by rw [← hx];exact ⟨HLT.out.1.inv,HLT.out.2.inv HLT.out.1⟩);rw [hx,hxl,HVL.out] at HFI;have HXL:=Lib.hid hxl;replace HB11:=HB11.mid (Mid.drew1 w11) oZr;replace HB211:=HB211.mid (Mid.drew1 w11) oZr;replace C11:=C11.mid (Mid.drew1 w11) (Or.inr rfl);replace M11:=M11.trans (Mid.drew1 w11).zero;have O12:=(O11.out.mid (Mid.drew1 w11) oZl).wide (Nat.le_refl _) (Nat.le_refl _) (Nat.le_refl _);have rvz:=(rv.mid (Mid.drew1 w11) oZl).wide (Nat.le_refl _) (Nat.le_refl _) (Nat.le_refl _);have k1:=HB11.cell 1 rfl;clear O11 rv hx hxl;go_wp2_with fail;refine wp_region_Z (S:=(fun w'=>w'.cell? ⟨g,1,none⟩=some (.slice (some ⟨gi,0,none⟩) R ci))) [] (by kernel_rfl) k1 ?_;generalize World.drew w11=wz at HB11 HB211 C11 M11 O12 rvz k1 ⊢;have O12:=O12.wide (hi':=wz.heap.size) (Nat.le_refl _) O12.size (Nat.le_refl _);have rvz:RV wz 0 wz.heap.size Av (ints v):=rvz.wide (Nat.le_refl _) rvz.1 (Nat.le_refl _);have hgz:g < wz.heap.size:=HB11.1;refine tkZ [] 0 rfl k1 ?_;try simp only [Act.put,zs1,zs2,zs3,zs4,zs5,zs6]
      refine tkZ [] 1 rfl k1 ?_;try simp only [Act.put,zs1,zs2,zs3,zs4,zs5,zs6]
      refine tkZ [] 2 rfl k1 ?_;try simp only [Act.put,zs1,zs2,zs3,zs4,zs5,zs6]
      refine tkZ [] 3 rfl k1 ?_;try simp only [Act.put,zs1,zs2,zs3,zs4,zs5,zs6]
      refine rdZ 4 rfl (fun K hK=>?_)
      (go_simp;(with_reducible refine (HFI.out wz rvz).mono ?_);rintro e w12 ⟨A12,c12,rfl,ho12,hb12⟩;have HB12:=HB11.mid (Mid.of_below (lo:=0) (hi:=0) hb12) oZr;go_wp2_with fail)
      refine hK.out _ _ (Or.inr (HB12.cell 1 rfl)) (fun _=>?_);clear hK K;try simp only [Act.put,zs1,zs2,zs3,zs4,zs5,zs6]
      have m12:Mid 0 0 wz w12:=Mid.of_below hb12;have k12:=HB12.cell 1 rfl;have hs12:=m12.size;have O13:=O12.mid m12 oZl;have HB212:=HB211.mid m12 oZr;have C12:=C11.mid m12 (Or.inr rfl);have M12:=M11.trans m12.zero;obtain ⟨⟨z,hz⟩,hfz⟩:=oss_cell (n:=i) O13 (by omega);have ox:OI w12 wz.heap.size w12.heap.size A12 c12 x:=by unfold OI;rw [HXL.out];exact OV.new ho12
      have O14:=oss_put (n:=i) O13 (by omega) ox;rw [HXL.out] at O14;have hst:=Mid.setAt w12 gi i (.slice A12 V c12);have HB13:=HB12.mid hst (by omega);have HB213:=HB212.mid hst (by omega);have C13:=C12.mid hst (by omega);have M13:=M12.transNew hst (Or.inl (by omega));refine tkZ [] 5 rfl k12 ?_;try simp only [Act.put,zs1,zs2,zs3,zs4,zs5,zs6]
      refine rdZ 6 rfl (fun K hK=>?_);go_simp;refine hK.out _ _ (Or.inr (HB13.cell 1 rfl)) (fun _=>?_);clear hK K;try simp only [Act.put,zs1,zs2,zs3,zs4,zs5,zs6]
      refine wpAnyZ_done (by kernel_rfl) ?_ _;have O15:=Lib.hid (O14.wide (hi':=(w12.setCell ⟨gi,i,none⟩ (.slice A12 V c12)).heap.size) (Nat.le_refl _) hst.size (Nat.le_refl _));have HL9:Hid ((l.set i x).length=R):=Lib.hid (by rw [List.length_set];exact hln);have HF9:Hid (FibW (t+1) (l.set i x)):=Lib.hid (HF.out.put HXT.out.1 HXT.out.2 (by have h1:=HXL.out;have h2:=HV.out;have h3:=HONE.out.2.2;have h4:=(fib_le t).2;omega));clear O14 O13 hst HB12 HB212 C12 M12 ox m12 hz hfz O12 HB11 HB211 C11 M11 k1 k12 rvz HFI ho12 hb12;go_wp2_with fail;go_roundw
      case rel=>exact ⟨n - 1,t+1,l.set i x,by go_num,by omega,HL9,HF9,O15,HB13,HB213,C13,M13⟩
      case measure=>simp [natV];omega
     ·have d1:((i:Int) == (k:Int))=false:=by simp;omega
      obtain ⟨b_,off,Au,cu,u0,hbb,hc1,hc2,hu0,hcu,hru⟩:=O11.out.rss.row (k:=i) (by omega);injection hbb with hbb
      injection hbb with hbb1 hbb2
      subst hbb1;subst hbb2;rw [Nat.zero_add] at hcu;have hun:=HF.out.one u0 (List.mem_of_getElem? hu0);have htwo:=HF.out.two i k u0 v0 hik hu0 HV0.out;have h9:=fib3 (t:=t) (by omega);have hUV:u0.length+v.length≤(fibP t).2:=by have h1:=HVL.out;have h2:=HV.out;omega
      have HFM:=spec_MultiplyWordsE Au Av u0 v cu cv w11 hru.rsS rv.rsS hun.1.ok HLT.out.1.ok (by omega);obtain ⟨y,hy⟩:∃ x,red [] (u0++v)=x:=⟨_,rfl⟩
      have hyl:y.length≤u0.length+v.length:=by rw [← hy];have:=red_len [] (u0++v);rw [List.length_append] at this;simpa using this
      have hlt2:LtW (u0++v):=fun z hz=>(List.mem_append.1 hz).elim (hun.1 z) (HLT.out.1 z);have HF9:Hid (FibW (t+1) (l.set i y)):=Lib.hid (HF.out.put (by rw [← hy];exact LtW.red LtW.nil hlt2) (by rw [← hy];exact rd_red hlt2) (by omega));have HL9:Hid ((l.set i y).length=R):=Lib.hid (by rw [List.length_set];exact hln);obtain ⟨U,hU⟩:∃ n,u0.length=n:=⟨_,rfl⟩
      obtain ⟨Y,hY⟩:∃ n,y.length=n:=⟨_,rfl⟩
      have hY8:(Y:Int)≤8:=by omega
      rw [hy,hU,HVL.out,hY] at HFM;rw [hU] at hcu;have HFM:=Lib.hid HFM;have HYL:=Lib.hid hY;have k1:=HB11.cell 1 rfl;have hi0:(0:Int)≤(i:Int):=by omega
      clear hy hyl hlt2 hU hY hUV htwo hun hu0 hru;go_wp2_with fail;with_reducible refine (HFM.out).mono ?_
      rintro e w12 ⟨A12,c12,rfl,ho12,hb12⟩;have m12:Mid 0 0 w11 w12:=Mid.of_below hb12;have hs12:=m12.size;have O13:=O11.out.mid m12 oZl;have HB12:=HB11.mid m12 oZr;have HB212:=HB211.mid m12 oZr;have C12:=C11.mid m12 (Or.inr rfl);have M12:=M11.trans m12.zero;have hg12:g < w12.heap.size:=HB12.1;obtain ⟨⟨z,hz⟩,hfz⟩:=oss_cell (n:=i) O13 (by omega);have ox:OI w12 w11.heap.size w12.heap.size A12 c12 y:=by unfold OI;rw [HYL.out];exact OV.new ho12
      have hg11:g < w11.heap.size:=HB11.1;have O14:=oss_put (n:=i) O13 (by omega) ox;rw [HYL.out] at O14;have hst:=Mid.setAt w12 gi i (.slice A12 Y c12);have HB13:=HB12.mid hst (by omega);have HB213:=HB212.mid hst (by omega);have C13:=C12.mid hst (by omega);have M13:=M12.transNew hst (Or.inl (by omega));have O15:=Lib.hid (O14.wide (hi':=(w12.setCell ⟨gi,i,none⟩ (.slice A12 Y c12)).heap.size) (Nat.le_refl _) hst.size (Nat.le_refl _));have k12:=HB12.cell 1 rfl;clear O14 O13 hst HB12 HB212 C12 M12 ox m12 O11 HB11 HB211 C11 M11 k1 hcu HFM ho12 hb12 rv;go_wp2_with fail;go_roundw
      case rel=>exact ⟨n - 1,t+1,l.set i y,by go_num,by omega,HL9,HF9,O15,HB13,HB213,C13,M13⟩
      case measure=>simp [natV];omega
   ·have HW:Hid (∀ xs∈l,LtW xs∧Rd xs∧xs.length≤5):=Lib.hid (fun xs hx=>by
     have h1:=HF.out.one xs hx;have h2:(fibP t).1≤5:=by
      rcases (show t=0 ∨ t=1 ∨ t=2 ∨ t=3 by omega) with rfl | rfl | rfl | rfl <;> decide
     exact ⟨h1.1,h1.2.1,by omega⟩)
    have q0:=hB.cell 0 rfl;have q1:=hB.cell 1 rfl;have p0:=hB2.cell 0 rfl;have p1:=hB2.cell 1 rfl;have pf:=hB2.2.2;have hbl:=hB2.1;have hst:=(Mid.setAt wr w.heap.size 0 (.int .i64 (R:Int))).trans (Mid.setAt _ w.heap.size 1 (.slice (some ⟨gi,0,none⟩) R ci));have C9:=Lib.hid (hC.mid hst (Or.inl hpw));have M9:=Lib.hid (hM.transNew hst (Or.inl (Nat.le_refl _)));have O9:=Lib.hid ((HO.out.mid hst (Or.inl (by omega))).wide (lo':=w.heap.size) (by omega) hst.size (Nat.le_refl _));clear hst hC hM HO;go_wp2_with fail;refine bodyPost_ret (v:=.agg #[.int .i64 (R:Int),.slice (some ⟨gi,0,none⟩) R ci]) (by simp [results,Tryz.results92,go_sem,p0,p1,pf,q0,q1]) rfl ⟨(R:Int),some ⟨gi,0,none⟩,ci,l,?_,⟨by omega,by omega,by rw [HLl.out],HW.out⟩,O9.out,C9.out,M9.out⟩;rw [HLl.out]
 ·go_wp2_with fail
  go_loopw [6] (fun iv wr=>∃ (i:Nat) (l:List (List Int)),iv=.int .i64 i∧Hid (i≤R)∧Hid (l.length=R)∧Hid (∀ xs∈l,LtW xs∧Rd xs∧xs.length≤5)∧Hid (OSS wr lo wr.heap.size 44 3 (some ⟨gi,0,none⟩) ci l)∧Box wr g [.int .i64 R,.slice (some ⟨gi,0,none⟩) R ci]∧Box wr w.heap.size [.int .i64 0,.slice none 0 0]∧Cur wr p A bs c∧Mid p (p+1) w wr)
   (fun iv _=>R - (intOf iv).toNat)
  case atStart=>exact ⟨0,idW R,rfl,Lib.hid (Nat.zero_le _),Lib.hid (idW_len R),Lib.hid (fun xs hx=>by have:=(fib_id R hR.2).one xs hx;exact ⟨this.1,this.2.1,by have:=this.2.2;simp only [fibP] at this;omega⟩),Lib.hid (O6.wide (Nat.le_refl _) (by omega) (Nat.le_refl _)),B4,B5,h6,hm6⟩
  case round =>
   obtain ⟨i,l,rfl,HI,HLl,HW,HO,hB,hB2,hC,hM⟩:=hrel;have hi:=HI.out;by_cases hlt:i < R
   ·have hi1:(i:Int) < (R:Int):=by omega
    have hi0:(0:Int)≤(i:Int):=by omega
    have hln:=HLl.out;replace hB:=hB.mid (Mid.drew1 wr) oZr;replace hB2:=hB2.mid (Mid.drew1 wr) oZr;replace hC:=hC.mid (Mid.drew1 wr) (Or.inr rfl);replace hM:=hM.trans (Mid.drew1 wr).zero;have hO:=(HO.out.mid (Mid.drew1 wr) oZl).wide (Nat.le_refl _) (Nat.le_refl _) (Nat.le_refl _);have k1:=hB.cell 1 rfl;clear HO;go_wp2_with fail;refine wp_region_Z (S:=(fun w'=>w'.cell? ⟨g,1,none⟩=some (.slice (some ⟨gi,0,none⟩) R ci))) [] (by kernel_rfl) k1 ?_;generalize World.drew wr=wz at hB hB2 hC hM hO k1 ⊢;have hO:=hO.wide (hi':=wz.heap.size) (Nat.le_refl _) hO.size (Nat.le_refl _);have hgz:g < wz.heap.size:=hB.1;refine tkZ [] 0 rfl k1 ?_;try simp only [Act.put,zs1,zs2,zs3,zs4,zs5,zs6]
    refine tkZ [] 1 rfl k1 ?_;try simp only [Act.put,zs1,zs2,zs3,zs4,zs5,zs6]
    refine tkZ [] 2 rfl k1 ?_;try simp only [Act.put,zs1,zs2,zs3,zs4,zs5,zs6]
    refine tkZ [] 3 rfl k1 ?_;try simp only [Act.put,zs1,zs2,zs3,zs4,zs5,zs6]
    refine tkZ [] 4 rfl k1 ?_;try simp only [Act.put,zs1,zs2,zs3,zs4,zs5,zs6]
    refine rdZ 5 rfl (fun K hK=>?_)
    (go_simp;(with_reducible refine (l2Of_any (R:Int) (by omega) (by omega) 3 (by decide) (by decide) p A bs c _ hb hl hC).mono ?_);rintro e w7 ⟨A7,c7,x,rfl,hx,ox,hC7,m7⟩;have hB7:=hB.mid m7 (Or.inr (by omega));go_wp2_with fail)
    refine hK.out _ _ (Or.inr (hB7.cell 1 rfl)) (fun _=>?_);clear hK K;try simp only [Act.put,zs1,zs2,zs3,zs4,zs5,zs6]
    have k17:=hB7.cell 1 rfl;have hs7:=m7.size;have O7:=hO.mid m7 (Or.inl (by omega));have B27:=hB2.mid m7 (Or.inr (by omega));have M7:=hM.trans m7;obtain ⟨⟨u,hu⟩,hfz⟩:=oss_cell (n:=i) O7 (by omega);have O8:=oss_put (n:=i) O7 (by omega) ox;have hst:=Mid.setAt w7 gi i (.slice A7 x.length c7);have hB8:=hB7.mid hst (by omega);have B28:=B27.mid hst (by omega);have C8:=hC7.mid hst (by omega);have M8:=M7.transNew hst (Or.inl (by omega));have HX:=Lib.hid hx;refine tkZ [] 6 rfl k17 ?_;try simp only [Act.put,zs1,zs2,zs3,zs4,zs5,zs6]
    refine rdZ 7 rfl (fun K hK=>?_);go_simp;refine hK.out _ _ (Or.inr (hB8.cell 1 rfl)) (fun _=>?_);clear hK K;try simp only [Act.put,zs1,zs2,zs3,zs4,zs5,zs6]
    refine wpAnyZ_done (by kernel_rfl) ?_ _;have O9:=Lib.hid (O8.wide (hi':=(w7.setCell ⟨gi,i,none⟩ (.slice A7 x.length c7)).heap.size) (Nat.le_refl _) hst.size (Nat.le_refl _));have HL9:Hid ((l.set i x).length=R):=Lib.hid (by rw [List.length_set];exact hln);have HW9:Hid (∀ xs∈l.set i x,LtW xs∧Rd xs∧xs.length≤5):=Lib.hid (by
     intro xs hm;rcases List.mem_or_eq_of_mem_set hm with hm | rfl
     ·exact HW.out xs hm
     ·exact ⟨HX.out.2.1,HX.out.2.2,by have:=HX.out.1;omega⟩)
    clear O8 hst hB7 B27 hC7 M7 O7 ox m7 hx hu hfz hO hB hB2 hC hM k1 k17 HX;go_wp2_with fail;go_roundw
    case rel=>exact ⟨i+1,l.set i x,by go_num,Lib.hid (by omega),HL9,HW9,O9,hB8,B28,C8,M8⟩
    case measure=>simp [intOf];omega
   ·obtain rfl:i=R:=by omega
    have hsr:g < wr.heap.size:=hB.1;have q0:=hB.cell 0 rfl;have q1:=hB.cell 1 rfl;have p0:=hB2.cell 0 rfl;have p1:=hB2.cell 1 rfl;have pf:=hB2.2.2;have hbl:=hB2.1;have hst:=(Mid.setAt wr w.heap.size 0 (.int .i64 (i:Int))).trans (Mid.setAt _ w.heap.size 1 (.slice (some ⟨gi,0,none⟩) i ci));have C9:=Lib.hid (hC.mid hst (Or.inl hpw));have M9:=Lib.hid (hM.transNew hst (Or.inl (Nat.le_refl _)));have O9:=Lib.hid ((HO.out.mid hst (Or.inl (by omega))).wide (lo':=w.heap.size) (by omega) hst.size (Nat.le_refl _));clear hst hC hM HO;go_wp2_with fail;refine bodyPost_ret (v:=.agg #[.int .i64 (i:Int),.slice (some ⟨gi,0,none⟩) i ci]) (by simp [results,Tryz.results92,go_sem,p0,p1,pf,q0,q1]) rfl ⟨(i:Int),some ⟨gi,0,none⟩,ci,l,?_,⟨by omega,by omega,by rw [HLl.out],HW.out⟩,O9.out,C9.out,M9.out⟩;rw [HLl.out]
end
abbrev Ser:=List Int→Int
def oneS:Ser:=fun m=>if m=[] then 1 else 0
def mulP (y:Int) (B:Ser):Ser
 | []=>B []
 | z :: m=>if z=y then B (z :: m)+B m else B (z :: m)
def mulN (y:Int) (B:Ser):Ser
 | []=>B []
 | z :: m=>if z=y then B (z :: m) - mulN y B m else B (z :: m)
def mulL (x:Int) (B:Ser):Ser:=if 0 < x then mulP x B else mulN (-x) B
def co:List Int→Ser
 | []=>oneS
 | x :: w=>mulL x (co w)
def conv (A B:Ser):Ser
 | []=>A [] * B []
 | z :: m=>A [] * B (z :: m)+conv (fun t=>A (z :: t)) B m
def stepE (u x v:Int):Ed:=if x < 0 then ⟨v, -x,u⟩ else ⟨u,x,v⟩
def pathV (u s:Int) (n:Nat) (v:Int) (i:Nat):Int:=if i=0 then u else if i < n then s+(i:Int) - 1 else v
def pathE (u s:Int) (w:List Int) (v:Int) (k:Nat):List Ed:=(List.range k).map fun i=>stepE (pathV u s w.length v i) (w.getD i 0) (pathV u s w.length v (i+1))
theorem pathE_succ {u s v x:Int} {w:List Int} {k:Nat} (h:w[k]?=some x):pathE u s w v (k+1)=pathE u s w v k++[stepE (pathV u s w.length v k) x (pathV u s w.length v (k+1))]:=by
 simp [pathE,List.range_succ,List.getD,h]
theorem pathE_len (u s:Int) (w:List Int) (v:Int) (k:Nat):(pathE u s w v k).length=k:=by simp [pathE]
structure PathOk (r s:Int) (es:List Ed) (u:Int) (w:List Int) (v:Int):Prop where
 gr:IsGr r s es
 u0:0≤u∧u < s
 v0:0≤v∧v < s
 word:IsW r w
 ne:w≠[]
 sz:s+(w.length:Int) - 1≤40
 ln:es.length+w.length≤120
theorem pathV_in {u s v:Int} {n:Nat} (hu:0≤u∧u < s) (hv:0≤v∧v < s) (i:Nat):0≤pathV u s n v i∧(0 < n→pathV u s n v i < s+(n:Int) - 1):=by
 unfold pathV;split
 ·omega
 ·split <;> omega
theorem stepE_in {r s u x v:Int} (hu:0≤u∧u < s) (hv:0≤v∧v < s) (hx:x≠0∧-r≤x∧x≤r):InG r s (stepE u x v):=by
 unfold stepE InG;split <;> simp only <;> omega
theorem path_gr {r s:Int} {es:List Ed} {u:Int} {w:List Int} {v:Int} (h:PathOk r s es u w v):IsGr r (s+(w.length:Int) - 1) (canon (es++pathE u s w v w.length)):=by
 have hs:=h.gr.size;have hn:0 < w.length:=List.length_pos_iff.2 h.ne;refine ⟨h.gr.rank,⟨by omega,h.sz⟩,?_,?_,asc_canon _⟩
 ·have h1:=canon_len (es++pathE u s w v w.length)
  rw [List.length_append,pathE_len] at h1;have:=h.ln;omega
 ·intro e he
  rcases List.mem_append.1 (mem_canon.1 he) with h1 | h1
  ·have:=h.gr.all e h1
   unfold InG at this ⊢;omega
  ·simp only [pathE,List.mem_map,List.mem_range] at h1
   obtain ⟨i,hi,rfl⟩:=h1;have h2:=pathV_in (n:=w.length) h.u0 h.v0 i;have h3:=pathV_in (n:=w.length) h.u0 h.v0 (i+1);refine stepE_in ⟨h2.1,h2.2 hn⟩ ⟨h3.1,h3.2 hn⟩ ?_;have hw:=h.word.2.2.2;have hm:w.getD i 0∈w:=by
    rw [List.getD_eq_getElem?_getD,List.getElem?_eq_getElem hi];exact List.getElem_mem hi
   exact hw.1 _ hm
def rdA (es:List Ed):Int→List Int→Int × Nat
 | v,[]=>(v,0)
 | v,x :: t=>if nextV es v x < 0 then (v,0) else ((rdA es (nextV es v x) t).1,(rdA es (nextV es v x) t).2+1)
def petalA (g:Int × List Ed) (w:List Int):Int × List Ed:=if w=[] then g else (g.1+(w.length:Int) - 1,canon (g.2++pathE 0 g.1 w 0 w.length))
def flowA (l:List (List Int)) (g:Int × List Ed):Int × List Ed:=l.foldl petalA g
theorem flowA_take {l:List (List Int)} {k:Nat} {w:List Int} (h:l[k]?=some w) (g:Int × List Ed):flowA (l.take (k+1)) g=petalA (flowA (l.take k) g) w:=by
 unfold flowA;rw [List.take_add_one,h];simp [List.foldl_append]
def Sp (es:List Ed) (u x v:Int):Prop:=(0 < x∧(⟨u,x,v⟩:Ed)∈es) ∨ (x < 0∧(⟨v, -x,u⟩:Ed)∈es)
def Pa (es:List Ed):Int→List Int→Int→Prop
 | u,[],v=>u=v
 | u,x :: w,v=>∃ t,Sp es u x t∧Pa es t w v
theorem Sp.neg {es:List Ed} {u x v:Int} (h:Sp es u x v):Sp es v (-x) u:=by
 rcases h with ⟨h1,h2⟩ | ⟨h1,h2⟩
 ·exact .inr ⟨by omega,by rw [Int.neg_neg];exact h2⟩
 ·exact .inl ⟨by omega,h2⟩
theorem sp_edge {es:List Ed} {e:Ed} (h:e∈es) (hl:0 < e.l):Sp es e.a e.l e.b:=.inl ⟨hl,h⟩
theorem sp_endOf {es:List Ed} {u x v:Int}:Sp es u x v↔∃ e∈es,endOf u x e=some v:=by
 constructor
 ·rintro (⟨h1,h2⟩ | ⟨h1,h2⟩)
  ·exact ⟨_,h2,endOf_some.2 (.inl ⟨h1,rfl,rfl,rfl⟩)⟩
  ·exact ⟨_,h2,endOf_some.2 (.inr ⟨h1,rfl,rfl,rfl⟩)⟩
 ·rintro ⟨e,he,h⟩
  rcases endOf_some.1 h with ⟨h1,rfl,rfl,rfl⟩ | ⟨h1,h2,rfl,rfl⟩
  ·exact .inl ⟨h1,he⟩
  ·refine .inr ⟨h1,?_⟩
   rw [← h2];exact he
theorem sp_ends {es:List Ed} {u x v:Int}:Sp es u x v↔v∈ends es u x:=sp_endOf.trans mem_ends.symm
theorem Sp.rng {r s:Int} {es:List Ed} (hg:∀ e∈es,InG r s e) {u x v:Int} (h:Sp es u x v):(0≤u∧u < s)∧(0≤v∧v < s)∧x≠0∧-r≤x∧x≤r:=by
 rcases h with ⟨h1,h2⟩ | ⟨h1,h2⟩
 ·have:=hg _ h2
  simp only [InG] at this;omega
 ·have:=hg _ h2
  simp only [InG] at this;omega
theorem Sp.lt3 {r s:Int} {es:List Ed} (hg:IsGr r s es) {u x v:Int} (h:Sp es u x v):Lt3 x:=by
 have h1:=h.rng hg.all;have h2:=hg.rank;unfold Lt3;omega
theorem Sp.mono {es fs:List Ed} (hs:∀ e∈es,e∈fs) {u x v:Int} (h:Sp es u x v):Sp fs u x v:=h.imp (fun h=>⟨h.1,hs _ h.2⟩) (fun h=>⟨h.1,hs _ h.2⟩)
theorem Pa.mono {es fs:List Ed} (hs:∀ e∈es,e∈fs):∀ {w:List Int} {u v:Int},Pa es u w v→Pa fs u w v
 | [],_,_,h=>h
 | _ :: _,_,_,⟨t,h1,h2⟩=>⟨t,h1.mono hs,h2.mono hs⟩
theorem Pa.nil (es:List Ed) (u:Int):Pa es u [] u:=rfl
theorem pa_one {es:List Ed} {u x v:Int}:Pa es u [x] v↔Sp es u x v:=by
 constructor
 ·rintro ⟨t,h,rfl⟩
  exact h
 ·exact fun h=>⟨v,h,rfl⟩
theorem pa_app {es:List Ed} {b:List Int} {v:Int}:∀ {a:List Int} {u:Int},Pa es u (a++b) v↔∃ t,Pa es u a t∧Pa es t b v
 | [],u=>⟨fun h=>⟨u,rfl,h⟩,fun ⟨t,h1,h2⟩=>by cases h1;exact h2⟩
 | x :: a,u=>by
  constructor
  ·rintro ⟨t,h1,h2⟩
   obtain ⟨s,h3,h4⟩:=pa_app.1 h2;exact ⟨s,⟨t,h1,h3⟩,h4⟩
  ·rintro ⟨s,⟨t,h1,h3⟩,h4⟩
   exact ⟨t,h1,pa_app.2 ⟨s,h3,h4⟩⟩
theorem Pa.app {es:List Ed} {a b:List Int} {u t v:Int} (h:Pa es u a t) (k:Pa es t b v):Pa es u (a++b) v:=pa_app.2 ⟨t,h,k⟩
theorem Pa.snoc {es:List Ed} {a:List Int} {u t x v:Int} (h:Pa es u a t) (k:Sp es t x v):Pa es u (a++[x]) v:=h.app (pa_one.2 k)
theorem Pa.lt {r s:Int} {es:List Ed} (hg:IsGr r s es):∀ {w:List Int} {u v:Int},Pa es u w v→LtW w
 | [],_,_,_=>LtW.nil
 | _ :: _,_,_,⟨t,h1,h2⟩=>LtW.cons (h1.lt3 hg) (h2.lt hg)
theorem Pa.rng {r s:Int} {es:List Ed} (hg:∀ e∈es,InG r s e):∀ {w:List Int} {u v:Int},Pa es u w v→0≤u∧u < s→0≤v∧v < s
 | [],_,_,h,hu=>by cases h;exact hu
 | _ :: _,_,_,⟨t,h1,h2⟩,_=>h2.rng hg (h1.rng hg).2.1
theorem Pa.inv {r s:Int} {es:List Ed} (hg:IsGr r s es):∀ {w:List Int} {u v:Int},Pa es u w v→Pa es v (invW w) u
 | [],_,_,h=>by cases h;rfl
 | x :: w,u,v,⟨t,h1,h2⟩=>by
  have e:invW (x :: w)=invW w++[-x]:=by
   rw [show x :: w=[x]++w from rfl,invW_app];simp [invW,(h1.lt3 hg).negI]
  rw [e];exact (h2.inv hg).snoc h1.neg
theorem IsFol.det {r s:Int} {es:List Ed} (h:IsFol r s es) {u x v v':Int} (h1:Sp es u x v) (h2:Sp es u x v'):v=v':=by
 have key:∀ e∈es,∀ f∈es,Clash e f→e=f:=by
  intro e he f hf hc;obtain ⟨i,hi,rfl⟩:=List.getElem_of_mem he;obtain ⟨j,hj,rfl⟩:=List.getElem_of_mem hf;have hp:=List.pairwise_iff_getElem.1 h.fol;rcases Nat.lt_trichotomy i j with hl | rfl | hl
  ·exact absurd hc (hp i j hi hj hl)
  ·rfl
  ·exact absurd hc.symm (hp j i hj hi hl)
 rcases h1 with ⟨a1,b1⟩ | ⟨a1,b1⟩
 ·rcases h2 with ⟨a2,b2⟩ | ⟨a2,b2⟩
  ·have:=key _ b1 _ b2 ⟨rfl,.inl rfl⟩
   injection this
  ·omega
 ·rcases h2 with ⟨a2,b2⟩ | ⟨a2,b2⟩
  ·omega
  ·have:=key _ b1 _ b2 ⟨rfl,.inr rfl⟩
   injection this
theorem Pa.det {r s:Int} {es:List Ed} (h:IsFol r s es):∀ {w:List Int} {u v v':Int},Pa es u w v→Pa es u w v'→v=v'
 | [],_,_,_,h1,h2=>h1.symm.trans h2
 | _ :: _,_,_,_,⟨t,a1,b1⟩,⟨t',a2,b2⟩=>by
  cases h.det a1 a2
  exact b1.det h b2
theorem Pa.det' {r s:Int} {es:List Ed} (h:IsFol r s es) {w:List Int} {u u' v:Int} (h1:Pa es u w v) (h2:Pa es u' w v):u=u':=(h1.inv h.gr).det h (h2.inv h.gr)
theorem nextV_sp {r s:Int} {es:List Ed} (h:IsFol r s es) {u x v:Int} (hs:Sp es u x v):nextV es u x=v:=by
 have hm:=sp_ends.1 hs;exact leastI_eq hm fun y hy=>by
  have:=h.det hs (sp_ends.2 hy);omega
theorem sp_nextV {es:List Ed} {u x:Int} (h:0≤nextV es u x):Sp es u x (nextV es u x):=by
 obtain ⟨e,he,h2⟩:=nextV_edge h;exact sp_endOf.2 ⟨e,he,h2⟩
theorem nextV_no {es:List Ed} {u x:Int} (h:nextV es u x < 0) (hg:∀ e∈es,0≤e.a∧0≤e.b) (v:Int):¬ Sp es u x v:=by
 intro hs;have hm:=sp_ends.1 hs;have hne:ends es u x≠[]:=fun e=>by rw [e] at hm;cases hm
 obtain ⟨h1,h2⟩:=leastI_mem hne;have h3:=sp_ends.2 h1;have:0≤leastI (ends es u x):=by
  rcases h3 with ⟨_,h3⟩ | ⟨_,h3⟩
  ·exact (hg _ h3).2
  ·exact (hg _ h3).1
 unfold nextV at h;omega
theorem IsGr.nn {r s:Int} {es:List Ed} (h:IsGr r s es):∀ e∈es,0≤e.a∧0≤e.b:=fun e he=>⟨(h.all e he).1,(h.all e he).2.2.1⟩
theorem rdA_full {r s:Int} {es:List Ed} (h:IsFol r s es):∀ {w:List Int} {u v:Int},Pa es u w v→rdA es u w=(v,w.length)
 | [],_,_,hp=>by cases hp;rfl
 | x :: w,u,v,⟨t,h1,h2⟩=>by
  have e:=nextV_sp h h1;have ht:=(h1.rng h.gr.all).2.1;rw [rdA,e,if_neg (by omega),rdA_full h h2]
  rfl
theorem pa_red {r s:Int} {es:List Ed} (h:IsFol r s es):∀ {w:List Int} {out:List Int} {u t v:Int},Pa es u out t→Pa es t w v→Pa es u (red out w) v
 | [],out,u,t,v,h1,h2=>by cases h2;exact h1
 | x :: w,out,u,t,v,h1,⟨t2,h2,h3⟩=>by
  rw [red_cons];refine pa_red h ?_ h3;rcases snoc_cases out with rfl | ⟨o,a,rfl⟩
  ·cases h1
   rw [redStep_empty];exact pa_one.2 h2
  ·obtain ⟨p,h4,h5⟩:=pa_app.1 h1
   have h5:=pa_one.1 h5;cases hb:invB a x with
   | false=>rw [redStep_push hb];exact h1.snoc h2
   | true =>
    rw [redStep_pop hb];have e:=(invB_lt (h5.lt3 h.gr) (h2.lt3 h.gr)).1 hb;have e2:x = -a:=by omega
    rw [e2] at h2;rw [h.det h2 h5.neg];exact h4
theorem Pa.red {r s:Int} {es:List Ed} (h:IsFol r s es) {w:List Int} {u v:Int} (hp:Pa es u w v):Pa es u (red [] w) v:=pa_red h (Pa.nil es u) hp
def InS (es:List Ed) (w:List Int):Prop:=Pa es 0 (red [] w) 0
theorem InS.mk {r s:Int} {es:List Ed} (h:IsFol r s es) {w:List Int} (hp:Pa es 0 w 0):InS es w:=hp.red h
theorem InS.eqv {es:List Ed} {a b:List Int} (h:Eqv a b):InS es a↔InS es b:=by unfold InS;rw [h]
theorem clash_eq:∀ {es:List Ed},(es.Pairwise fun e f=>¬ Clash e f)→∀ {e f:Ed},e∈es→f∈es→Clash e f→e=f
 | [],_,e,f,he,_,_=>by cases he
 | g :: t,h,e,f,he,hf,hc=>by
  obtain ⟨h1,h2⟩:=List.pairwise_cons.1 h;rcases List.mem_cons.1 he with ha | ha
  ·rcases List.mem_cons.1 hf with hb | hb
   ·rw [ha,hb]
   ·rw [ha] at hc
    exact absurd hc (h1 f hb)
  ·rcases List.mem_cons.1 hf with hb | hb
   ·rw [hb] at hc
    exact absurd hc.symm (h1 e ha)
   ·exact clash_eq h2 ha hb hc
theorem nextV_inv {r s:Int} {es:List Ed} (h:IsFol r s es) {v x:Int} (hx:0≤nextV es v x):nextV es (nextV es v x) (-x)=v:=by
 obtain ⟨e,he,hv⟩:=nextV_edge hx;generalize nextV es v x=u at hv;have hu:endOf u (-x) e=some v:=by
  rw [endOf_some] at hv ⊢;rcases hv with ⟨h1,h2,h3,h4⟩ | ⟨h1,h2,h3,h4⟩
  ·exact .inr ⟨by omega,by omega,h4,h3⟩
  ·exact .inl ⟨by omega,by omega,h4,h3⟩
 have hm:v∈ends es u (-x):=mem_ends.2 ⟨e,he,hu⟩;refine leastI_eq hm fun y hy=>?_;obtain ⟨f,hf,hy⟩:=mem_ends.1 hy;rw [endOf_some] at hu hy;have hc:Clash e f:=by unfold Clash;omega
 have:=clash_eq h.fol he hf hc;subst this;omega
section
def lastL (w:List Int):Int:=w.getLast?.getD 0
theorem lastL_snoc (w:List Int) (x:Int):lastL (w++[x])=x:=by simp [lastL]
def edgeOf (es:List Ed) (q:Int × List Int):Ed:=stepE (nextV es q.1 (-(lastL q.2))) (lastL q.2) q.1
def treeE (es:List Ed) (st:BS):List Ed:=st.tail.map (edgeOf es)
theorem edgeOf_new {r s:Int} {es:List Ed} (hf:IsFol r s es) {u x:Int} {w:List Int} (h:0≤nextV es u x):edgeOf es (nextV es u x,w++[x])=stepE u x (nextV es u x):=by
 unfold edgeOf;simp only [lastL_snoc];rw [nextV_inv hf h]
structure Par (es:List Ed) (L:List Int) (st:BS):Prop where
 ne:st≠[]
 par:∀ q∈st.tail,∃ p∈st,∃ x∈L,q=(nextV es p.1 x,p.2++[x])∧0≤nextV es p.1 x
theorem Par.step {es:List Ed} {L:List Int} {st:BS} (h:Par es L st) {p:Int × List Int} (hp:p∈st) {x:Int} (hx:x∈L):Par es L (bfsStep es p.1 p.2 st x):=by
 unfold bfsStep;split
 ·exact h
 ·rename_i hc
  refine ⟨by simp,fun q hq=>?_⟩;have ht:(st++[(nextV es p.1 x,p.2++[x])]).tail=st.tail++[(nextV es p.1 x,p.2++[x])]:=by
   cases hst:st with
   | nil=>exact absurd hst h.ne
   | cons a t=>rfl
  rw [ht] at hq;rcases List.mem_append.1 hq with hq | hq
  ·obtain ⟨p',hp',x',hx',h1,h2⟩:=h.par q hq
   exact ⟨p',by simp [hp'],x',hx',h1,h2⟩
  ·simp at hq
   subst hq;exact ⟨p,by simp [hp],x,hx,rfl,by omega⟩
theorem Par.row {es:List Ed} {L:List Int} {p:Int × List Int}:∀ (K:List Int),(∀ x∈K,x∈L)→∀ {st:BS},Par es L st→p∈st→Par es L (bfsRow es K p st)
 | [],_,st,h,_=>h
 | x :: K,hK,st,h,hp=>Par.row K (fun y hy=>hK y (by simp [hy])) (h.step hp (hK x (by simp))) ((bfsStep_pre es p.1 p.2 st x).subset hp)
theorem bfsSt_par (es:List Ed) (L:List Int) (v:Int) (i:Nat):Par es L (bfsSt es L v i):=by
 induction i with
 | zero=>exact ⟨by simp [bfsSt],fun q hq=>by simp [bfsSt] at hq⟩
 | succ i ih =>
  show Par es L (match (bfsSt es L v i)[i]? with | none=>bfsSt es L v i | some p=>bfsRow es L p (bfsSt es L v i))
  split
  ·exact ih
  ·rename_i p hp
   exact Par.row L (fun x hx=>hx) ih (List.mem_of_getElem? hp)
theorem bfs_par (es:List Ed) (L:List Int) (v:Int):Par es L (bfs es L v):=bfsSt_par es L v 41
theorem IsCor.found {r n:Nat} {es:List Ed} (h:IsCor r n es):(bfs es (lets r) 0).length=n:=by
 have h1:=h.canon;unfold canonG at h1;rw [if_pos h.fol] at h1;have h2:=congrArg Prod.fst h1;simp only [ordE,List.length_map,Int.toNat_natCast] at h2;omega
theorem IsCor.has {r n:Nat} {es:List Ed} (h:IsCor r n es) {v:Nat} (hv:v < n):∃ w,((v:Int),w)∈bfs es (lets r) 0:=by
 have hn:0 < n:=by omega
 have hb:=bfs_ok (L:=lets r) (v:=0) h.gr.all (Int.le_refl _) (show (0:Int) < (n:Int) by omega);rcases Classical.em ((v:Int)∈(bfs es (lets r) 0).map Prod.fst) with hm | hm
 ·obtain ⟨p,hp,hpv⟩:=List.mem_map.1 hm
  refine ⟨p.2,?_⟩;rw [← hpv];exact hp
 ·exfalso
  have hk:BfsOk n (lets r) (bfs es (lets r) 0++[((v:Int),[])]):=by
   refine ⟨?_,?_,?_,?_⟩
   ·rw [List.map_append,List.nodup_append]
    refine ⟨hb.nd,by simp,?_⟩;intro a ha b hb' e;simp at hb';subst hb' e;exact hm ha
   ·intro q hq
    rcases List.mem_append.1 hq with hq | hq
    ·exact hb.rng q hq
    ·simp at hq;subst hq;simp only [];omega
   ·intro j q hq
    rcases Nat.lt_or_ge j (bfs es (lets r) 0).length with hj | hj
    ·rw [List.getElem?_append_left hj] at hq;exact hb.wl j q hq
    ·rw [List.getElem?_append_right hj] at hq
     have:=List.mem_of_getElem? hq;simp at this;subst this;simp
   ·intro q hq y hy
    rcases List.mem_append.1 hq with hq | hq
    ·exact hb.wm q hq y hy
    ·simp at hq;subst hq;simp at hy
  have h1:=hk.len (by omega);rw [List.length_append,h.found] at h1;simp at h1;omega
open Classical in
noncomputable def wordV (r:Nat) (es:List Ed) (v:Int):List Int:=if h:∃ w,(v,w)∈bfs es (lets r) 0 then h.choose else []
theorem wordV_eq {r n:Nat} {es:List Ed} (hg:IsGr r n es) {v:Int} {w:List Int} (h:(v,w)∈bfs es (lets r) 0):wordV r es v=w:=by
 have hn:(0:Int) < (n:Int):=by have:=hg.size;omega
 have hb:=bfs_ok (L:=lets r) (v:=0) hg.all (Int.le_refl _) hn;have hex:∃ w,(v,w)∈bfs es (lets r) 0:=⟨w,h⟩
 unfold wordV;rw [dif_pos hex];have h2:=hex.choose_spec;generalize hex.choose=w' at h2;have key:∀ (l:BS),(l.map Prod.fst).Nodup→(v,w)∈l→(v,w')∈l→w'=w:=by
  intro l
  induction l with
  | nil=>intro _ h;cases h
  | cons p t ih =>
   intro hnd ha hb;rw [List.map_cons,List.nodup_cons] at hnd;rcases List.mem_cons.1 ha with ha | ha
   ·rcases List.mem_cons.1 hb with hb | hb
    ·rw [← ha] at hb
     injection hb
    ·rw [← ha] at hnd
     exact absurd (List.mem_map_of_mem (f:=Prod.fst) hb) hnd.1
   ·rcases List.mem_cons.1 hb with hb | hb
    ·rw [← hb] at hnd
     exact absurd (List.mem_map_of_mem (f:=Prod.fst) ha) hnd.1
    ·exact ih hnd.2 ha hb
 exact key _ hb.nd h h2
theorem wordV_mem {r n:Nat} {es:List Ed} (h:IsCor r n es) {v:Nat} (hv:v < n):((v:Int),wordV r es v)∈bfs es (lets r) 0:=by
 obtain ⟨w,hw⟩:=h.has hv;rw [wordV_eq h.gr hw];exact hw
theorem wordV_ok {r n:Nat} {es:List Ed} (h:IsCor r n es) {v:Nat} (hv:v < n):(wordV r es v).length≤40∧∀ x∈wordV r es v,x∈lets r:=by
 have hm:=wordV_mem h hv;have hn:(0:Int) < (n:Int):=by omega
 have hn40:n≤40:=by have:=h.gr.size;omega
 have hb:=bfs_ok (L:=lets r) (v:=0) h.gr.all (Int.le_refl _) hn;refine ⟨?_,hb.wm _ hm⟩;obtain ⟨j,hj,hj2⟩:=List.getElem_of_mem hm;have h1:=hb.wl j _ (by rw [List.getElem?_eq_getElem hj,hj2]);have h2:=h.found;simp only at h1;omega
open Classical in
noncomputable def extraE (r:Nat) (es:List Ed):List Ed:=es.filter fun e=>decide (e ∉ treeE es (bfs es (lets r) 0))
theorem extraE_mem {r:Nat} {es:List Ed} {e:Ed} (h:e∈extraE r es):e∈es:=(List.mem_filter.1 h).1
noncomputable def basisW (r:Nat) (es:List Ed) (e:Ed):List Int:=red [] (wordV r es e.a++[e.l]++invW (wordV r es e.b))
noncomputable def basisG (r:Nat) (es:List Ed):List (List Int):=(extraE r es).map (basisW r es)
end
theorem IsFol.key {r s:Int} {es:List Ed} (h:IsFol r s es):∀ e∈es,∀ f∈es,Clash e f→e=f:=by
 intro e he f hf hc;obtain ⟨i,hi,rfl⟩:=List.getElem_of_mem he;obtain ⟨j,hj,rfl⟩:=List.getElem_of_mem hf;have hp:=List.pairwise_iff_getElem.1 h.fol;rcases Nat.lt_trichotomy i j with hl | rfl | hl
 ·exact absurd hc (hp i j hi hj hl)
 ·rfl
 ·exact absurd hc.symm (hp j i hj hi hl)
theorem IsFol.mk' {r s:Int} {es:List Ed} (h:IsGr r s es) (hk:∀ e∈es,∀ f∈es,Clash e f→e=f):IsFol r s es:=by
 refine ⟨h,List.pairwise_iff_getElem.2 fun i j hi hj hij hc=>?_⟩;have e:=hk _ (List.getElem_mem hi) _ (List.getElem_mem hj) hc;have:=List.pairwise_iff_getElem.1 h.asc i j hi hj hij;exact this.ne e
theorem idxI_mem {ord:List Int} {v:Int}:0≤idxI ord v↔v∈ord:=by
 unfold idxI;split
 ·rename_i h
  exact ⟨fun _=>h,fun _=>Int.natCast_nonneg _⟩
 ·rename_i h
  exact ⟨fun h=>by omega,fun h2=>absurd h2 h⟩
theorem idxI_get {ord:List Int} {v:Int} (h:v∈ord):ord[(idxI ord v).toNat]?=some v:=by
 unfold idxI;rw [if_pos h,Int.toNat_natCast];have hl:=List.idxOf_lt_length_iff.2 h;rw [List.getElem?_eq_getElem hl,List.getElem_idxOf hl]
theorem idxI_inj {ord:List Int} {u v:Int} (hu:u∈ord) (hv:v∈ord) (h:idxI ord u=idxI ord v):u=v:=by
 have h1:=idxI_get hu;rw [h,idxI_get hv] at h1;exact (Option.some.inj h1).symm
theorem mem_partE {ord:List Int} {es:List Ed} {f:Ed}:f∈partE ord es↔∃ e∈es,e.a∈ord∧e.b∈ord∧f=⟨idxI ord e.a,e.l,idxI ord e.b⟩:=by
 unfold partE;rw [mem_canon,List.mem_filterMap];constructor
 ·rintro ⟨e,he,h⟩
  unfold partOf at h;split at h
  ·rename_i hc
   exact ⟨e,he,idxI_mem.1 hc.1,idxI_mem.1 hc.2,(Option.some.inj h).symm⟩
  ·cases h
 ·rintro ⟨e,he,h1,h2,rfl⟩
  refine ⟨e,he,?_⟩;unfold partOf;rw [if_pos ⟨idxI_mem.2 h1,idxI_mem.2 h2⟩]
theorem part_sp {ord:List Int} {es:List Ed} {i x j:Int}:Sp (partE ord es) i x j↔∃ u v,u∈ord∧v∈ord∧idxI ord u=i∧idxI ord v=j∧Sp es u x v:=by
 constructor
 ·rintro (⟨h1,h2⟩ | ⟨h1,h2⟩)
  ·obtain ⟨e,he,ha,hb,h3⟩:=mem_partE.1 h2
   injection h3 with h3 h4 h5
   exact ⟨e.a,e.b,ha,hb,h3.symm,h5.symm,.inl ⟨h1,by rw [h4];exact he⟩⟩
  ·obtain ⟨e,he,ha,hb,h3⟩:=mem_partE.1 h2
   injection h3 with h3 h4 h5
   exact ⟨e.b,e.a,hb,ha,h5.symm,h3.symm,.inr ⟨h1,by rw [h4];exact he⟩⟩
 ·rintro ⟨u,v,hu,hv,rfl,rfl,(⟨h1,h2⟩ | ⟨h1,h2⟩)⟩
  ·exact .inl ⟨h1,mem_partE.2 ⟨_,h2,hu,hv,rfl⟩⟩
  ·exact .inr ⟨h1,mem_partE.2 ⟨_,h2,hv,hu,rfl⟩⟩
theorem part_pa_to {ord:List Int} {es:List Ed}:∀ {w:List Int} {i j:Int},Pa (partE ord es) i w j→∀ u∈ord,idxI ord u=i→∃ v∈ord,idxI ord v=j∧Pa es u w v
 | [],_,_,h,u,hu,hi=>⟨u,hu,hi.trans h,rfl⟩
 | x :: w,i,j,⟨t,h1,h2⟩,u,hu,hi=>by
  obtain ⟨u',t',hu',ht',hi',htt,hs⟩:=part_sp.1 h1;have e:=idxI_inj hu' hu (hi'.trans hi.symm);subst e;obtain ⟨v,hv,hj,hp⟩:=part_pa_to h2 t' ht' htt;exact ⟨v,hv,hj,⟨t',hs,hp⟩⟩
theorem part_pa_of {ord:List Int} {es:List Ed}:∀ {w:List Int} {u v:Int},Pa es u w v→(∀ a b t,w=a++b→Pa es u a t→t∈ord)→Pa (partE ord es) (idxI ord u) w (idxI ord v)
 | [],_,_,h,_=>by cases h;rfl
 | x :: w,u,v,⟨t,h1,h2⟩,hr=>by
  have hu:=hr [] (x :: w) u rfl rfl;have ht:=hr [x] w t rfl (pa_one.2 h1);exact ⟨idxI ord t,part_sp.2 ⟨u,t,hu,ht,rfl,rfl,h1⟩,part_pa_of h2 fun a b t' e hp=>hr (x :: a) b t' (by rw [e];rfl) ⟨t,h1,hp⟩⟩
theorem part_fol {r s:Int} {es:List Ed} {ord:List Int} (h:IsFol r s es) (h0:ord≠[]) (h40:ord.length≤40):IsFol r ord.length (partE ord es):=by
 refine IsFol.mk' (partE_gr h.gr h0 h40) fun e he f hf hc=>?_;obtain ⟨e',he',a1,b1,rfl⟩:=mem_partE.1 he;obtain ⟨f',hf',a2,b2,rfl⟩:=mem_partE.1 hf;have:e'=f':=h.key e' he' f' hf' ⟨hc.1,hc.2.imp (idxI_inj a1 a2) (idxI_inj b1 b2)⟩;rw [this]
theorem bfsRow_closed {es:List Ed} {p:Int × List Int}:∀ (K:List Int) {st:BS},∀ x∈K,0≤nextV es p.1 x→nextV es p.1 x∈(bfsRow es K p st).map Prod.fst
 | [],_,x,hx,_=>by cases hx
 | y :: K,st,x,hx,hn=>by
  rcases List.mem_cons.1 hx with rfl | hx
  ·have h1:nextV es p.1 x∈(bfsStep es p.1 p.2 st x).map Prod.fst:=by
    unfold bfsStep;by_cases hc:nextV es p.1 x < 0 ∨ nextV es p.1 x∈st.map Prod.fst
    ·rw [if_pos hc]
     rcases hc with hc | hc
     ·omega
     ·exact hc
    ·rw [if_neg hc,List.map_append]
     exact List.mem_append_right _ (by simp)
   obtain ⟨q,hq,e⟩:=List.mem_map.1 h1;rw [← e];exact List.mem_map.2 ⟨q,(bfsRow_pre es K p (bfsStep es p.1 p.2 st x)).subset hq,rfl⟩
  ·exact bfsRow_closed K x hx hn
theorem bfsSt_closed {es:List Ed} {L:List Int} {v:Int}:∀ (i j:Nat) {p:Int × List Int},j < i→(bfsSt es L v i)[j]?=some p→∀ x∈L,0≤nextV es p.1 x→nextV es p.1 x∈(bfsSt es L v i).map Prod.fst
 | 0,j,p,h,_=>by omega
 | i+1,j,p,h,hp=>by
  intro x hx hn;cases hq:(bfsSt es L v i)[i]? with
  | none =>
   have hs:bfsSt es L v (i+1)=bfsSt es L v i:=by simp [bfsSt,hq]
   rw [hs] at hp ⊢;have hji:j < i:=by
    have h1:=(List.getElem?_eq_some_iff.1 hp).1;have h2:=List.getElem?_eq_none_iff.1 hq;omega
   exact bfsSt_closed i j hji hp x hx hn
  | some q =>
   have hs:bfsSt es L v (i+1)=bfsRow es L q (bfsSt es L v i):=by simp [bfsSt,hq]
   rw [hs] at hp ⊢;rcases Nat.lt_or_ge j i with hji | hji
   ·have hl:j < (bfsSt es L v i).length:=by
     have:=(List.getElem?_eq_some_iff.1 hq).1;omega
    have hp2:(bfsSt es L v i)[j]?=some p:=by
     have h1:=prefix_get (bfsRow_pre es L q (bfsSt es L v i)) (List.getElem?_eq_getElem hl);rw [hp] at h1;rw [List.getElem?_eq_getElem hl,← h1]
    have h2:=bfsSt_closed i j hji hp2 x hx hn;obtain ⟨z,hz,e⟩:=List.mem_map.1 h2;rw [← e];exact List.mem_map.2 ⟨z,(bfsRow_pre es L q _).subset hz,rfl⟩
   ·have e:j=i:=by omega
    subst e;have h1:=prefix_get (bfsRow_pre es L q (bfsSt es L v j)) hq;rw [hp] at h1;obtain rfl:=Option.some.inj h1;exact bfsRow_closed L x hx hn
theorem bfs_closed {r s v:Int} {es:List Ed} {L:List Int} (hg:∀ e∈es,InG r s e) (h0:0≤v) (h1:v < s) (hs:s≤40) {p:Int × List Int} (hp:p∈bfs es L v) {x:Int} (hx:x∈L) (hn:0≤nextV es p.1 x):nextV es p.1 x∈(bfs es L v).map Prod.fst:=by
 obtain ⟨j,hj⟩:=List.mem_iff_getElem?.1 hp;have hl:=(bfs_ok (L:=L) hg h0 h1).len (by omega);have hjl:=(List.getElem?_eq_some_iff.1 hj).1;exact bfsSt_closed 41 j (by omega) hj x hx hn
theorem bfs_pa (es:List Ed) (L:List Int) (v:Int):∀ p∈bfs es L v,Pa es v p.2 p.1:=by
 have hrow:∀ (K:List Int) (p:Int × List Int) (st:BS),Pa es v p.2 p.1→(∀ q∈st,Pa es v q.2 q.1)→∀ q∈bfsRow es K p st,Pa es v q.2 q.1:=by
  intro K
  induction K with
  | nil=>exact fun p st _ h=>h
  | cons x K ih =>
   intro p st hp h;refine ih p (bfsStep es p.1 p.2 st x) hp fun q hq=>?_;unfold bfsStep at hq;split at hq
   ·exact h q hq
   ·rename_i hc
    rcases List.mem_append.1 hq with hq | hq
    ·exact h q hq
    ·rw [List.mem_singleton] at hq
     subst hq;exact hp.snoc (sp_nextV (by omega))
 have hst:∀ i,∀ q∈bfsSt es L v i,Pa es v q.2 q.1:=by
  intro i
  induction i with
  | zero =>
   intro q hq;simp [bfsSt] at hq;subst hq
   rfl
  | succ i ih =>
   cases hq:(bfsSt es L v i)[i]? with
   | none=>rw [show bfsSt es L v (i+1)=bfsSt es L v i by simp [bfsSt,hq]];exact ih
   | some p =>
    rw [show bfsSt es L v (i+1)=bfsRow es L p (bfsSt es L v i) by simp [bfsSt,hq]];exact hrow L p _ (ih p (List.mem_of_getElem? hq)) ih
 exact hst 41
theorem bfs_reach {r s v:Int} {es:List Ed} (hf:IsFol r s es) (h0:0≤v) (h1:v < s):∀ {w:List Int} {u t:Int},u∈ordE r es v→Pa es u w t→t∈ordE r es v
 | [],u,t,hu,h=>by cases h;exact hu
 | x :: w,u,t,hu,⟨q,h2,h3⟩=>by
  refine bfs_reach hf h0 h1 ?_ h3;obtain ⟨p,hp,rfl⟩:=List.mem_map.1 hu;have hr:=(h2.rng hf.gr.all)
  have hx:x∈lets r.toNat:=mem_lets.2 (by have:=hf.gr.rank;omega);have hn:=nextV_sp hf h2;have:=bfs_closed (L:=lets r.toNat) hf.gr.all h0 h1 hf.gr.size.2 hp hx (by omega)
  rwa [hn] at this
theorem ordE_self (r:Int) (es:List Ed) (v:Int):v∈ordE r es v:=by
 have h:(v,[])∈bfs es (lets r.toNat) v:=by
  have h1:=bfsSt_pre' es (lets r.toNat) v 0 41;rw [Nat.zero_add] at h1;exact h1.subset (by simp [bfsSt])
 exact List.mem_map.2 ⟨_,h,rfl⟩
theorem ordE_head (r:Int) (es:List Ed) (v:Int):(ordE r es v)[0]?=some v:=by
 have h1:=bfsSt_pre' es (lets r.toNat) v 0 41;rw [Nat.zero_add] at h1;have h2:(bfsSt es (lets r.toNat) v 0)[0]?=some (v,[]):=by simp [bfsSt]
 have h3:=prefix_get h1 h2;unfold ordE bfs;rw [List.getElem?_map,h3]
 rfl
theorem bfs_iso {es es':List Ed} {L:List Int} {v:Int} {f:Int→Int} {R:Int→Prop} (hv:R v) (hcl:∀ u,R u→∀ x∈L,0≤nextV es u x→R (nextV es u x))
  (hn:∀ u,R u→∀ x∈L,nextV es u x < 0→nextV es' (f u) x < 0) (hp:∀ u,R u→∀ x∈L,0≤nextV es u x→nextV es' (f u) x=f (nextV es u x)∧0≤f (nextV es u x))
  (hi:∀ u t,R u→R t→f u=f t→u=t):bfs es' L (f v)=(bfs es L v).map fun p=>(f p.1,p.2):=by
 have hstep:∀ (x:Int) (p:Int × List Int) (st:BS),x∈L→R p.1→(∀ q∈st,R q.1)→bfsStep es' (f p.1) p.2 (st.map fun p=>(f p.1,p.2)) x=(bfsStep es p.1 p.2 st x).map (fun p=>(f p.1,p.2))∧∀ q∈bfsStep es p.1 p.2 st x,R q.1:=by
  intro x p st hx hpR hst;unfold bfsStep;by_cases hneg:nextV es p.1 x < 0
  ·rw [if_pos (.inl (hn p.1 hpR x hx hneg)),if_pos (.inl hneg)]
   exact ⟨rfl,hst⟩
  ·have h1:=hp p.1 hpR x hx (by omega)
   have hR:=hcl p.1 hpR x hx (by omega);have hmem:nextV es' (f p.1) x∈(st.map fun p=>(f p.1,p.2)).map Prod.fst↔nextV es p.1 x∈st.map Prod.fst:=by
    rw [h1.1,List.map_map];constructor
    ·intro h
     obtain ⟨q,hq,e⟩:=List.mem_map.1 h;exact List.mem_map.2 ⟨q,hq,hi _ _ (hst q hq) hR e⟩
    ·intro h
     obtain ⟨q,hq,e⟩:=List.mem_map.1 h;exact List.mem_map.2 ⟨q,hq,by rw [Function.comp_apply,e]⟩
   by_cases hin:nextV es p.1 x∈st.map Prod.fst
   ·rw [if_pos (.inr (hmem.2 hin)),if_pos (.inr hin)]
    exact ⟨rfl,hst⟩
   ·rw [if_neg (fun h=>h.elim (fun h=>by omega) (fun h=>hin (hmem.1 h))),if_neg (fun h=>h.elim (fun h=>by omega) hin),List.map_append,h1.1]
    refine ⟨rfl,fun q hq=>?_⟩;rcases List.mem_append.1 hq with hq | hq
    ·exact hst q hq
    ·rw [List.mem_singleton] at hq
     subst hq;exact hR
 have hrow:∀ (K:List Int) (p:Int × List Int) (st:BS),(∀ x∈K,x∈L)→R p.1→(∀ q∈st,R q.1)→bfsRow es' K (f p.1,p.2) (st.map fun p=>(f p.1,p.2))=(bfsRow es K p st).map (fun p=>(f p.1,p.2))∧∀ q∈bfsRow es K p st,R q.1:=by
  intro K
  induction K with
  | nil=>exact fun p st _ _ h=>⟨rfl,h⟩
  | cons x K ih =>
   intro p st hK hpR hst;obtain ⟨h1,h2⟩:=hstep x p st (hK x List.mem_cons_self) hpR hst;have h3:=ih p (bfsStep es p.1 p.2 st x) (fun y hy=>hK y (List.mem_cons_of_mem _ hy)) hpR h2;refine ⟨?_,h3.2⟩
   show bfsRow es' K (f p.1,p.2) (bfsStep es' (f p.1) p.2 (st.map fun p=>(f p.1,p.2)) x)=_
   rw [h1];exact h3.1
 have hst:∀ i,bfsSt es' L (f v) i=(bfsSt es L v i).map (fun p=>(f p.1,p.2))∧∀ q∈bfsSt es L v i,R q.1:=by
  intro i
  induction i with
  | zero =>
   refine ⟨rfl,fun q hq=>?_⟩;simp [bfsSt] at hq;subst hq;exact hv
  | succ i ih =>
   cases hq:(bfsSt es L v i)[i]? with
   | none =>
    have e1:bfsSt es L v (i+1)=bfsSt es L v i:=by simp [bfsSt,hq]
    have e2:bfsSt es' L (f v) (i+1)=bfsSt es' L (f v) i:=by
     have:(bfsSt es' L (f v) i)[i]?=none:=by rw [ih.1,List.getElem?_map,hq];rfl
     simp [bfsSt,this]
    rw [e1,e2];exact ih
   | some p =>
    have e1:bfsSt es L v (i+1)=bfsRow es L p (bfsSt es L v i):=by simp [bfsSt,hq]
    have e2:bfsSt es' L (f v) (i+1)=bfsRow es' L (f p.1,p.2) (bfsSt es' L (f v) i):=by
     have:(bfsSt es' L (f v) i)[i]?=some (f p.1,p.2):=by rw [ih.1,List.getElem?_map,hq];rfl
     simp [bfsSt,this]
    rw [e1,e2,ih.1];exact hrow L p _ (fun x hx=>hx) (ih.2 p (List.mem_of_getElem? hq)) ih.2
 exact (hst 41).1
def GenL (es:List Ed) (w:List Int):Prop:=∃ w2,LtW w2∧Eqv w w2∧Pa es 0 w2 0
theorem genL_inS {r s:Int} {es:List Ed} (h:IsFol r s es) {w:List Int} (hw:LtW w):GenL es w↔InS es w:=by
 constructor
 ·rintro ⟨w2,l2,e,p⟩
  exact (InS.eqv e).2 (InS.mk h p)
 ·exact fun h2=>⟨Go.Proofs.YtkimajabegojoaaGreat.red [] w,lt_red hw,(Eqv.toRed hw).symm,h2⟩
theorem mem_mergeE {p:Int × Int} {es:List Ed} {f:Ed}:f∈mergeE p es↔∃ e∈es,foldE p e=f:=by
 unfold mergeE;rw [mem_canon,List.mem_map]
theorem merge_sp {p:Int × Int} {es:List Ed} {i x j:Int}:Sp (mergeE p es) i x j↔∃ u v,foldV p u=i∧foldV p v=j∧Sp es u x v:=by
 constructor
 ·rintro (⟨h1,h2⟩ | ⟨h1,h2⟩)
  ·obtain ⟨e,he,h3⟩:=mem_mergeE.1 h2
   injection h3 with h3 h4 h5
   exact ⟨e.a,e.b,h3,h5,.inl ⟨h1,by rw [← h4];exact he⟩⟩
  ·obtain ⟨e,he,h3⟩:=mem_mergeE.1 h2
   injection h3 with h3 h4 h5
   exact ⟨e.b,e.a,h5,h3,.inr ⟨h1,by rw [← h4];exact he⟩⟩
 ·rintro ⟨u,v,rfl,rfl,(⟨h1,h2⟩ | ⟨h1,h2⟩)⟩
  ·exact .inl ⟨h1,mem_mergeE.2 ⟨_,h2,rfl⟩⟩
  ·exact .inr ⟨h1,mem_mergeE.2 ⟨_,h2,rfl⟩⟩
theorem merge_pa {p:Int × Int} {es:List Ed}:∀ {w:List Int} {u v:Int},Pa es u w v→Pa (mergeE p es) (foldV p u) w (foldV p v)
 | [],_,_,h=>by cases h;rfl
 | _ :: _,_,_,⟨t,h1,h2⟩=>⟨foldV p t,merge_sp.2 ⟨_,_,rfl,rfl,h1⟩,merge_pa h2⟩
def Apex (es:List Ed) (p:Int × Int):Prop:=∃ c x,Sp es c x p.1∧Sp es c x p.2
theorem apex_AB {r s:Int} {es:List Ed} (hg:∀ e∈es,InG r s e) {e f:Ed} (he:e∈es) (hf:f∈es) {p:Int × Int} (h:p∈foldsAB e f):Apex es p:=by
 have h1:=hg e he;have h2:=hg f hf;simp only [InG] at h1 h2;have se:=sp_edge he (by omega);have sf:=sp_edge hf (by omega);unfold foldsAB at h;split at h
 ·rename_i hl
  rcases List.mem_append.1 h with h | h
  ·split at h
   ·rename_i ha
    rw [List.mem_singleton] at h;subst h;rw [← hl,← ha] at sf;rcases Int.le_total e.b f.b with hm | hm
    ·refine ⟨e.a,e.l,?_,?_⟩
     ·rw [Int.min_eq_left hm];exact se
     ·rw [Int.max_eq_right hm];exact sf
    ·refine ⟨e.a,e.l,?_,?_⟩
     ·rw [Int.min_eq_right hm];exact sf
     ·rw [Int.max_eq_left hm];exact se
   ·cases h
  ·split at h
   ·rename_i hb
    rw [List.mem_singleton] at h;subst h;rw [← hl,← hb] at sf;rcases Int.le_total e.a f.a with hm | hm
    ·refine ⟨e.b, -e.l,?_,?_⟩
     ·rw [Int.min_eq_left hm];exact se.neg
     ·rw [Int.max_eq_right hm];exact sf.neg
    ·refine ⟨e.b, -e.l,?_,?_⟩
     ·rw [Int.min_eq_right hm];exact sf.neg
     ·rw [Int.max_eq_left hm];exact se.neg
   ·cases h
 ·cases h
theorem apex_mem {r s:Int} {es:List Ed} (hg:∀ e∈es,InG r s e) {p:Int × Int}:∀ {fs:List Ed},(∀ e∈fs,e∈es)→p∈folds fs→Apex es p
 | [],_,h=>by cases h
 | e :: t,hs,h=>by
  rcases List.mem_append.1 h with h | h
  ·obtain ⟨f,hf,h⟩:=List.mem_flatMap.1 h
   exact apex_AB hg (hs e List.mem_cons_self) (hs f (List.mem_cons_of_mem _ hf)) h
  ·exact apex_mem hg (fun x hx=>hs x (List.mem_cons_of_mem _ hx)) h
theorem foldV_inj {p:Int × Int} (hp:p.1 < p.2) {u v:Int} (h:foldV p u=foldV p v):u=v ∨ (u=p.1∧v=p.2) ∨ (u=p.2∧v=p.1):=by
 unfold foldV at h;split at h <;> split at h <;> (try split at h) <;> (try split at h) <;> omega
theorem foldV_zero {p:Int × Int} (h0:0≤p.1) (hp:p.1 < p.2):foldV p 0=0:=by
 unfold foldV;rw [if_neg (by omega),if_neg (by omega)]
theorem Apex.jump {r s:Int} {es:List Ed} (hg:IsGr r s es) {p:Int × Int} (ha:Apex es p) (hp:p.1 < p.2) {u v:Int} (h:foldV p u=foldV p v) :
  ∃ j,Pa es u j v∧∀ (out b:List Int),Rd out→LtW out→red out (j++b)=red out b:=by
 obtain ⟨c,x,h1,h2⟩:=ha;have hx:=(h1.lt3 hg).neg;have hr:∀ (out b:List Int),Rd out→LtW out→red out ([-x,x]++b)=red out b:=fun out b ho hl=>by
  have:=red_pair b ho hl hx
  rwa [Int.neg_neg] at this
 rcases foldV_inj hp h with rfl | ⟨rfl,rfl⟩ | ⟨rfl,rfl⟩
 ·exact ⟨[],rfl,fun _ _ _ _=>rfl⟩
 ·exact ⟨[-x,x],⟨c,h1.neg,_,h2,rfl⟩,hr⟩
 ·exact ⟨[-x,x],⟨c,h2.neg,_,h1,rfl⟩,hr⟩
theorem fold_lift {r s:Int} {es:List Ed} (hg:IsGr r s es) {p:Int × Int} (ha:Apex es p) (hp:p.1 < p.2):∀ {w:List Int} {u t:Int},Pa (mergeE p es) (foldV p u) w t →
  ∃ w2 v,foldV p v=t∧Pa es u w2 v∧∀ out,Rd out→LtW out→red out w2=red out w
 | [],u,t,h=>⟨[],u,h,rfl,fun _ _ _=>rfl⟩
 | x :: w,u,t,⟨q,h1,h2⟩=>by
  obtain ⟨u',q',hu',rfl,hs⟩:=merge_sp.1 h1;obtain ⟨j,hj,hjr⟩:=ha.jump hg hp hu'.symm;obtain ⟨w2,v,hv,hw2,hr⟩:=fold_lift hg ha hp h2;refine ⟨j++x :: w2,v,hv,hj.app ⟨q',hs,hw2⟩,fun out ho hl=>?_⟩;have hx:=hs.lt3 hg;rw [hjr out _ ho hl,red_cons,red_cons,hr _ (ho.step hl hx) (LtW.red (w:=[x]) hl (LtW.one hx))]
theorem merge_lang {r s:Int} {es:List Ed} (hg:IsGr r s es) {p:Int × Int} (ha:Apex es p) (h0:0≤p.1) (hp:p.1 < p.2) (w:List Int):GenL (mergeE p es) w↔GenL es w:=by
 have hz:=foldV_zero h0 hp;constructor
 ·rintro ⟨w2,l2,e,h⟩
  rw [← hz] at h;obtain ⟨w3,v,hv,h3,hr⟩:=fold_lift hg ha hp h;obtain ⟨j,hj,hjr⟩:=ha.jump hg hp (u:=v) (v:=0) (by rw [hv]);have h4:=h3.app hj;refine ⟨w3++j,h4.lt hg,e.trans ?_,h4⟩;unfold Eqv;have h5:=hjr (red [] w3) [] (rd_red (h3.lt hg)) (lt_red (h3.lt hg));rw [List.append_nil] at h5;rw [red_append,h5,red_nil,hr [] Rd.nil LtW.nil]
 ·rintro ⟨w2,l2,e,h⟩
  have:=merge_pa (p:=p) h;rw [hz] at this;exact ⟨w2,l2,e,this⟩
theorem foldA_lang {r:Int} (w:List Int):∀ (n:Nat) {g:Int × List Ed},IsGr r g.1 g.2→(GenL (foldA n g).2 w↔GenL g.2 w)
 | 0,g,_=>Iff.rfl
 | n+1,g,h=>by
  cases hf:folds g.2 with
  | nil=>rw [foldA_nil hf]
  | cons p t =>
   rw [foldA_cons hf];have hm:p∈folds g.2:=by rw [hf];exact List.mem_cons_self
   obtain ⟨h1,h2,h3⟩:=mem_folds h.all h.asc hm;exact (foldA_lang w n (mergeE_gr h h1 h2 h3)).trans (merge_lang h (apex_mem h.all (fun e he=>he) hm) h1 h2 w)
theorem deg_one {es:List Ed} {e:Ed} (he:e∈es) (v:Int):degE v e≤deg es v:=by
 induction es with
 | nil=>cases he
 | cons a t ih =>
  have h:deg (a :: t) v=degE v a+deg t v:=by simp [deg]
  rcases List.mem_cons.1 he with rfl | he
  ·omega
  ·have:=ih he
   omega
theorem deg_two {es:List Ed} {e f:Ed} (he:e∈es) (hf:f∈es) (hne:e≠f) (v:Int):degE v e+degE v f≤deg es v:=by
 induction es with
 | nil=>cases he
 | cons a t ih =>
  have h:deg (a :: t) v=degE v a+deg t v:=by simp [deg]
  rcases List.mem_cons.1 he with h1 | h1 <;> rcases List.mem_cons.1 hf with h2 | h2
  ·exact absurd (h1.trans h2.symm) hne
  ·have:=deg_one h2 v
   rw [h1];omega
  ·have:=deg_one h1 v
   rw [h2];omega
  ·have:=ih h1 h2
   omega
theorem Sp.degE {es:List Ed} {v y t:Int} (h:Sp es v y t):∃ e∈es,1≤degE v e∧((0 < y∧e.a=v∧e.l=y∧e.b=t) ∨ (y < 0∧e.b=v∧e.l = -y∧e.a=t)):=by
 rcases h with ⟨h1,h2⟩ | ⟨h1,h2⟩
 ·exact ⟨_,h2,by simp [Go.Proofs.YtkimajabegojoaaGreat.degE],.inl ⟨h1,rfl,rfl,rfl⟩⟩
 ·exact ⟨_,h2,by simp [Go.Proofs.YtkimajabegojoaaGreat.degE],.inr ⟨h1,rfl,rfl,rfl⟩⟩
def Two (es:List Ed) (v:Int):Prop:=∃ y z t t',y≠z∧Sp es v y t∧Sp es v z t'
theorem Two.deg {es:List Ed} {v:Int} (h:Two es v):2≤deg es v:=by
 obtain ⟨y,z,t,t',hne,h1,h2⟩:=h;obtain ⟨e,he,d1,c1⟩:=h1.degE;obtain ⟨f,hf,d2,c2⟩:=h2.degE;by_cases hef:e=f
 ·subst hef
  have:degE v e=2:=by
   unfold Go.Proofs.YtkimajabegojoaaGreat.degE;rcases c1 with ⟨a1,a2,a3,a4⟩ | ⟨a1,a2,a3,a4⟩ <;> rcases c2 with ⟨b1,b2,b3,b4⟩ | ⟨b1,b2,b3,b4⟩
   ·omega
   ·rw [if_pos a2,if_pos b2]
   ·rw [if_pos b2,if_pos a2]
   ·omega
  have:=deg_one he v;omega
 ·have:=deg_two he hf hef v
  omega
theorem two_of_deg {r s:Int} {es:List Ed} (h:IsFol r s es) {v:Int} (hd:2≤deg es v):Two es v:=by
 have key:∀ fs:List Ed,(∀ e∈fs,e∈es)→Asc fs→1≤deg fs v→∃ e∈fs,1≤degE v e:=by
  intro fs
  induction fs with
  | nil=>intro _ _ h;simp [Go.Proofs.YtkimajabegojoaaGreat.deg] at h
  | cons a t ih =>
   intro hs ha hd;have h1:deg (a :: t) v=degE v a+deg t v:=by simp [Go.Proofs.YtkimajabegojoaaGreat.deg]
   by_cases h2:1≤degE v a
   ·exact ⟨a,List.mem_cons_self,h2⟩
   ·obtain ⟨e,he,h3⟩:=ih (fun e he=>hs e (List.mem_cons_of_mem _ he)) (List.pairwise_cons.1 ha).2 (by omega)
    exact ⟨e,List.mem_cons_of_mem _ he,h3⟩
 have key2:∀ fs:List Ed,(∀ e∈fs,e∈es)→Asc fs→2≤deg fs v→(∃ e∈fs,degE v e=2) ∨ ∃ e∈fs,∃ f∈fs,e≠f∧1≤degE v e∧1≤degE v f:=by
  intro fs
  induction fs with
  | nil=>intro _ _ h;simp [Go.Proofs.YtkimajabegojoaaGreat.deg] at h
  | cons a t ih =>
   intro hs ha hd;have h1:deg (a :: t) v=degE v a+deg t v:=by simp [Go.Proofs.YtkimajabegojoaaGreat.deg]
   have hle:degE v a≤2:=by unfold Go.Proofs.YtkimajabegojoaaGreat.degE;split <;> split <;> omega
   obtain ⟨hlt,hasc⟩:=List.pairwise_cons.1 ha;by_cases h2:degE v a=2
   ·exact .inl ⟨a,List.mem_cons_self,h2⟩
   ·by_cases h3:1≤degE v a
    ·obtain ⟨e,he,h4⟩:=key t (fun e he=>hs e (List.mem_cons_of_mem _ he)) hasc (by omega)
     exact .inr ⟨a,List.mem_cons_self,e,List.mem_cons_of_mem _ he,(hlt e he).ne,h3,h4⟩
    ·rcases ih (fun e he=>hs e (List.mem_cons_of_mem _ he)) hasc (by omega) with ⟨e,he,h4⟩ | ⟨e,he,f,hf,h4⟩
     ·exact .inl ⟨e,List.mem_cons_of_mem _ he,h4⟩
     ·exact .inr ⟨e,List.mem_cons_of_mem _ he,f,List.mem_cons_of_mem _ hf,h4⟩
 have way:∀ e∈es,1≤degE v e→(e.a=v∧Sp es v e.l e.b) ∨ (e.b=v∧Sp es v (-e.l) e.a):=by
  intro e he h1;have hl:=h.gr.all e he;simp only [InG] at hl;have hs:=sp_edge he (by omega);unfold Go.Proofs.YtkimajabegojoaaGreat.degE at h1;by_cases ha:e.a=v
  ·exact .inl ⟨ha,by rw [← ha];exact hs⟩
  ·by_cases hb:e.b=v
   ·exact .inr ⟨hb,by rw [← hb];exact hs.neg⟩
   ·rw [if_neg ha,if_neg hb] at h1
    omega
 rcases key2 es (fun e he=>he) h.gr.asc hd with ⟨e,he,h2⟩ | ⟨e,he,f,hf,hne,h1,h2⟩
 ·have hl:=h.gr.all e he
  simp only [InG] at hl;have hs:=sp_edge he (by omega);unfold Go.Proofs.YtkimajabegojoaaGreat.degE at h2;have ha:e.a=v:=by
   apply Classical.byContradiction;intro hc;rw [if_neg hc] at h2;split at h2 <;> omega
  have hb:e.b=v:=by
   apply Classical.byContradiction;intro hc;rw [if_neg hc] at h2;split at h2 <;> omega
  refine ⟨e.l, -e.l,e.b,e.a,by omega,by rw [← ha];exact hs,?_⟩;rw [← hb];exact hs.neg
 ·have le:=h.gr.all e he
  have lf:=h.gr.all f hf;simp only [InG] at le lf;rcases way e he h1 with ⟨a1,s1⟩ | ⟨a1,s1⟩ <;> rcases way f hf h2 with ⟨a2,s2⟩ | ⟨a2,s2⟩
  ·exact ⟨_,_,_,_,fun e1=>hne (h.key e he f hf ⟨e1,.inl (a1.trans a2.symm)⟩),s1,s2⟩
  ·exact ⟨_,_,_,_,by omega,s1,s2⟩
  ·exact ⟨_,_,_,_,by omega,s1,s2⟩
  ·exact ⟨_,_,_,_,fun e1=>hne (h.key e he f hf ⟨by omega,.inr (a1.trans a2.symm)⟩),s1,s2⟩
theorem conn_pa {r s:Int} {es:List Ed} (hg:∀ e∈es,InG r s e) {v u:Int}:Conn es v u↔∃ w,Pa es v w u:=by
 constructor
 ·intro h
  induction h with
  | here=>exact ⟨[],rfl⟩
  | @out e he _ ih =>
   obtain ⟨w,hw⟩:=ih;have hl:=hg e he;simp only [InG] at hl;exact ⟨_,hw.snoc (sp_edge he (by omega))⟩
  | @inn e he _ ih =>
   obtain ⟨w,hw⟩:=ih;have hl:=hg e he;simp only [InG] at hl;exact ⟨_,hw.snoc (sp_edge he (by omega)).neg⟩
 ·rintro ⟨w,hw⟩
  have key:∀ (w:List Int) (t:Int),Conn es v t→Pa es t w u→Conn es v u:=by
   intro w
   induction w with
   | nil=>intro t ht h;cases h;exact ht
   | cons x w ih =>
    rintro t ht ⟨q,h1,h2⟩;refine ih q ?_ h2;rcases h1 with ⟨_,h1⟩ | ⟨_,h1⟩
    ·exact Conn.out h1 ht
    ·exact Conn.inn h1 ht
  exact key w v Conn.here hw
theorem leaf_none_iff {r s:Int} {es:List Ed} (h:IsFol r s es):leaf s es=none↔∀ v,1≤v→v < s→Two es v∧∃ w,Pa es 0 w v:=by
 constructor
 ·intro hl v h1 h2
  rcases leaf_cases s es with ⟨_,hall⟩ | ⟨u,hu,_⟩
  ·have:=hall v.toNat (by omega) (by omega)
   rw [Int.toNat_of_nonneg (by omega)] at this;unfold Bad at this;refine ⟨two_of_deg h (by omega),(conn_pa h.gr.all).1 (Classical.byContradiction fun hc=>this (.inr hc))⟩
  ·rw [hl] at hu
   cases hu
 ·intro hall
  refine leaf_none fun u h1 h2 hb=>?_;obtain ⟨h3,h4⟩:=hall u (by omega) h2;rcases hb with hb | hb
  ·have:=h3.deg
   omega
  ·exact hb ((conn_pa h.gr.all).2 h4)
theorem leaf_avoid {r s:Int} {es:List Ed} (h:IsFol r s es) {v:Int} (hv:v≠0) (hb:Bad es v) {w a b:List Int} (hr:Rd w) (e:w=a++b) (h1:Pa es 0 a v) (h2:Pa es v b 0):False:=by
 rcases hb with hb | hb
 ·rcases snoc_cases a with rfl | ⟨a',x,rfl⟩
  ·cases h1
   exact hv rfl
  ·cases b with
   | nil=>cases h2;exact hv rfl
   | cons y b' =>
    obtain ⟨t,h3,h4⟩:=pa_app.1 h1;have h4:=(pa_one.1 h4).neg;obtain ⟨t',h5,h6⟩:=h2;by_cases hxy:y = -x
    ·subst hxy
     exact hr a' b' x (by rw [e];simp)
    ·have:=Two.deg (es:=es) (v:=v) ⟨y, -x,t',t,hxy,h5,h4⟩
     omega
 ·exact hb ((conn_pa h.gr.all).2 ⟨a,h1⟩)
theorem mem_butV {v:Nat} {n:Nat} {x:Int}:x∈but v n↔0≤x∧x < n∧x≠v:=by
 rw [mem_but];constructor
 ·rintro ⟨u,h1,h2,rfl⟩
  omega
 ·rintro ⟨h1,h2,h3⟩
  exact ⟨x.toNat,by omega,by omega,by omega⟩
theorem but_zero {v n:Nat} (hv:1≤v) (hn:v < n):idxI (but v n) 0=0:=by
 refine idxI_at (but_nodup v n) (k:=0) ?_;obtain ⟨m,rfl⟩:∃ m,n=m+1:=⟨n - 1,by omega⟩
 unfold but;have:List.range (m+1)=0 :: (List.range m).map Nat.succ:=List.range_succ_eq_map;rw [this,List.filter_cons,if_pos (by simp;omega)]
 rfl
theorem cut_fol {r:Int} {g:Int × List Ed} {v:Nat} (h:IsFol r g.1 g.2) (h1:1≤v) (h2:(v:Int) < g.1):IsFol r (cutV g v).1 (cutV g v).2:=by
 have hs:=h.gr.size;have hl:=but_len v (show v < g.1.toNat by omega);refine part_fol h (fun e=>?_) (by omega);rw [e] at hl;simp at hl;omega
theorem cut_lang {r:Int} {g:Int × List Ed} {v:Nat} (h:IsFol r g.1 g.2) (h1:1≤v) (h2:(v:Int) < g.1) (hb:Bad g.2 v) {w:List Int} (hw:LtW w):InS (cutV g v).2 w↔InS g.2 w:=by
 have hz:=but_zero h1 (show v < g.1.toNat by omega);have hs:=h.gr.size;unfold InS;constructor
 ·intro hp
  obtain ⟨u,hu,hi,hp2⟩:=part_pa_to (ord:=but v g.1.toNat) (es:=g.2) hp 0 (mem_butV.2 (by omega)) hz;have:=idxI_inj (mem_butV.2 (by omega)) hu (hz.trans hi.symm);subst this;exact hp2
 ·intro hp
  have:=part_pa_of (ord:=but v g.1.toNat) hp fun a b t e h3=>by
   have ht:=h3.rng h.gr.all (by omega);refine mem_butV.2 ⟨ht.1,by omega,fun e2=>?_⟩;have h4:Pa g.2 t b 0:=by
    rw [e] at hp;obtain ⟨t',h5,h6⟩:=pa_app.1 hp
    rwa [h3.det h h5]
   rw [e2] at h3 h4;exact leaf_avoid h (by omega) hb (rd_red hw) e h3 h4
  rwa [hz] at this
theorem trimA_lang {r:Int} {w:List Int} (hw:LtW w):∀ (n:Nat) {g:Int × List Ed},IsFol r g.1 g.2→IsFol r (trimA n g).1 (trimA n g).2∧(InS (trimA n g).2 w↔InS g.2 w)
 | 0,g,h=>⟨h,Iff.rfl⟩
 | n+1,g,h=>by
  cases hf:leaf g.1 g.2 with
  | none=>rw [trimA_none hf];exact ⟨h,Iff.rfl⟩
  | some v =>
   rw [trimA_some hf];obtain ⟨h1,h2,h3⟩:=leaf_spec hf;have h4:=trimA_lang hw n (cut_fol h h1 h2);exact ⟨h4.1,h4.2.trans (cut_lang h h1 h2 h3 hw)⟩
theorem trimA_fol {r:Int} (n:Nat) {g:Int × List Ed} (h:IsFol r g.1 g.2):IsFol r (trimA n g).1 (trimA n g).2:=(trimA_lang LtW.nil n h).1
theorem trimA_leaf:∀ (n:Nat) {g:Int × List Ed},g.1≤n→leaf (trimA n g).1 (trimA n g).2=none
 | 0,g,h=>by
  cases hf:leaf g.1 g.2 with
  | none=>rw [trimA_none hf];exact hf
  | some v =>
   obtain ⟨h1,h2,h3⟩:=leaf_spec hf;omega
 | n+1,g,h=>by
  cases hf:leaf g.1 g.2 with
  | none=>rw [trimA_none hf];exact hf
  | some v =>
   rw [trimA_some hf];obtain ⟨h1,h2,h3⟩:=leaf_spec hf;exact trimA_leaf n (by rw [cutV_size h2];omega)
theorem ordE_zero {r s:Int} {es:List Ed} (h:IsFol r s es):idxI (ordE r es 0) 0=0:=idxI_at (ordE_len h.gr (Int.le_refl _) (by have:=h.gr.size;omega)).2.2.1 (k:=0) (ordE_head r es 0)
theorem canonG_val {r:Int} {g:Int × List Ed} (h:IsFol r g.1 g.2):canonG r g=(((ordE r g.2 0).length:Int),partE (ordE r g.2 0) g.2):=by
 unfold canonG;rw [if_pos h]
theorem canonG_isfol {r:Int} {g:Int × List Ed} (h:IsFol r g.1 g.2):IsFol r (canonG r g).1 (canonG r g).2:=by
 rw [canonG_val h];have hs:=h.gr.size;have hl:=ordE_len h.gr (v:=0) (Int.le_refl _) (by omega);exact part_fol h (fun e=>by rw [e] at hl;simp at hl) (by omega)
theorem canonG_lang {r:Int} {g:Int × List Ed} (h:IsFol r g.1 g.2) {w:List Int}:InS (canonG r g).2 w↔InS g.2 w:=by
 have hz:=ordE_zero h;have hs:=h.gr.size;rw [canonG_val h];unfold InS;constructor
 ·intro hp
  obtain ⟨u,hu,hi,hp2⟩:=part_pa_to (ord:=ordE r g.2 0) (es:=g.2) hp 0 (ordE_self r g.2 0) hz;have:=idxI_inj (ordE_self r g.2 0) hu (hz.trans hi.symm);subst this;exact hp2
 ·intro hp
  have:=part_pa_of (ord:=ordE r g.2 0) hp fun a b t e h3=>bfs_reach h (Int.le_refl _) (by omega) (ordE_self r g.2 0) h3
  rwa [hz] at this
theorem canonG_two {r:Int} {g:Int × List Ed} (h:IsFol r g.1 g.2) (hl:leaf g.1 g.2=none):leaf (canonG r g).1 (canonG r g).2=none:=by
 have hf:=canonG_isfol h;refine (leaf_none_iff hf).2 fun i h1 h2=>?_;rw [canonG_val h] at h2 ⊢;have hs:=h.gr.size;have hnd:=(ordE_len h.gr (v:=0) (Int.le_refl _) (by omega)).2.2;obtain ⟨k,rfl⟩:=Int.eq_ofNat_of_zero_le (by omega:0≤i);have hk:k < (ordE r g.2 0).length:=by simp only at h2;omega
 have hm:(ordE r g.2 0)[k]∈ordE r g.2 0:=List.getElem_mem hk;have hi:idxI (ordE r g.2 0) ((ordE r g.2 0)[k])=k:=idxI_at hnd.1 (List.getElem?_eq_getElem hk);generalize (ordE r g.2 0)[k]=u at hm hi;have hur:=hnd.2 u hm;have hu0:u≠0:=fun e=>by
  rw [e,ordE_zero h] at hi;omega
 obtain ⟨⟨y,z,t,t',hyz,s1,s2⟩,w,hw⟩:=(leaf_none_iff h).1 hl u (by omega) hur.2;have ht:=bfs_reach h (Int.le_refl _) (by omega) hm (pa_one.2 s1);have ht':=bfs_reach h (Int.le_refl _) (by omega) hm (pa_one.2 s2);refine ⟨⟨y,z,_,_,hyz,part_sp.2 ⟨u,t,hm,ht,hi,rfl,s1⟩,part_sp.2 ⟨u,t',hm,ht',hi,rfl,s2⟩⟩,w,?_⟩;have:=part_pa_of (ord:=ordE r g.2 0) hw fun a b q e h3=>bfs_reach h (Int.le_refl _) (by omega) (ordE_self r g.2 0) h3;rw [ordE_zero h,hi] at this;exact this
theorem map_idx {ord:List Int} (hn:ord.Nodup):ord.map (idxI ord)=(List.range ord.length).map fun (k:Nat)=>(k:Int):=by
 refine List.ext_getElem (by simp) fun k h1 h2=>?_;simp only [List.getElem_map,List.getElem_range];exact idxI_at hn (List.getElem?_eq_getElem (by simpa using h1))
theorem part_upto {r:Int} {n:Nat} {es:List Ed} (hg:∀ e∈es,InG r n e) (ha:Asc es):partE ((List.range n).map fun (k:Nat)=>(k:Int)) es=es:=by
 have hm:∀ v:Int,0≤v→v < n→v∈((List.range n).map fun (k:Nat)=>(k:Int))∧idxI ((List.range n).map fun (k:Nat)=>(k:Int)) v=v:=fun v h1 h2=>by
  have hnd:((List.range n).map fun (k:Nat)=>(k:Int)).Nodup:=by
   unfold List.Nodup;rw [List.pairwise_map];exact (List.pairwise_lt_range (n:=n)).imp fun h=>by omega
  obtain ⟨k,rfl⟩:=Int.eq_ofNat_of_zero_le h1;have hk:((List.range n).map fun (k:Nat)=>(k:Int))[k]?=some (k:Int):=by
   rw [List.getElem?_map,List.getElem?_range (by omega)]
   rfl
  exact ⟨List.mem_of_getElem? hk,idxI_at hnd hk⟩
 refine asc_ext (asc_canon _) ha fun f=>?_;rw [mem_partE];constructor
 ·rintro ⟨e,he,h1,h2,rfl⟩
  have hi:=hg e he;simp only [InG] at hi;rw [(hm e.a (by omega) (by omega)).2,(hm e.b (by omega) (by omega)).2];exact he
 ·intro he
  have hi:=hg f he;simp only [InG] at hi;refine ⟨f,he,(hm f.a (by omega) (by omega)).1,(hm f.b (by omega) (by omega)).1,?_⟩;rw [(hm f.a (by omega) (by omega)).2,(hm f.b (by omega) (by omega)).2]
theorem ordE_def (r:Int) (es:List Ed) (v:Int):ordE r es v=(bfs es (lets r.toNat) v).map Prod.fst:=rfl
theorem bfs_part {r s:Int} {es:List Ed} (h:IsFol r s es):bfs (partE (ordE r es 0) es) (lets r.toNat) 0=(bfs es (lets r.toNat) 0).map fun p=>(idxI (ordE r es 0) p.1,p.2):=by
 have hs:=h.gr.size;have hz:=ordE_zero h;have hord:=ordE_len h.gr (v:=0) (Int.le_refl _) (by omega);have hf2:IsFol r (ordE r es 0).length (partE (ordE r es 0) es):=part_fol h (fun e=>by rw [e] at hord;simp at hord) (by omega);have hre:∀ {u t x:Int},u∈ordE r es 0→Sp es u x t→t∈ordE r es 0:=fun hu hs2=>bfs_reach h (Int.le_refl _) (by omega) hu (pa_one.2 hs2);have h0:=ordE_self r es 0;generalize ordE r es 0=ord at hz hf2 hre h0 ⊢;have:=bfs_iso (es:=es) (es':=partE ord es) (L:=lets r.toNat) (v:=0) (f:=idxI ord) (R:=fun u=>u∈ord) h0
  (fun u hu x hx hn=>hre hu (sp_nextV hn))
  (fun u hu x hx hn=>by
   apply Classical.byContradiction;intro hc;obtain ⟨u',t',hu',ht',e1,e2,hsp⟩:=part_sp.1 (sp_nextV (by omega:0≤nextV (partE ord es) (idxI ord u) x));have:=idxI_inj hu' hu e1;subst this;exact nextV_no hn h.gr.nn _ hsp)
  (fun u hu x hx hn=>by
   have ht:=hre hu (sp_nextV hn);exact ⟨nextV_sp hf2 (part_sp.2 ⟨u,_,hu,ht,rfl,rfl,sp_nextV hn⟩),idxI_mem.2 ht⟩)
  (fun u t hu ht e=>idxI_inj hu ht e)
 rwa [hz] at this
theorem map_fst_idx (st:BS) (ord:List Int):(st.map fun p=>(idxI ord p.1,p.2)).map Prod.fst=(st.map Prod.fst).map (idxI ord):=by
 rw [List.map_map,List.map_map];exact List.map_congr_left fun p _=>rfl
theorem ordE_part {r s:Int} {es:List Ed} (h:IsFol r s es):ordE r (partE (ordE r es 0) es) 0=(List.range (ordE r es 0).length).map fun (k:Nat)=>(k:Int):=by
 have hs:=h.gr.size;have hord:=ordE_len h.gr (v:=0) (Int.le_refl _) (by omega);have hb:=bfs_part h;rw [ordE_def r (partE (ordE r es 0) es) 0,hb,map_fst_idx,← ordE_def r es 0,map_idx hord.2.2.1]
theorem canonG_idem {r:Int} {g:Int × List Ed} (h:IsFol r g.1 g.2):canonG r (canonG r g)=canonG r g:=by
 have hf:=canonG_isfol h;rw [canonG_val hf];rw [canonG_val h] at hf ⊢;simp only at hf ⊢;rw [ordE_part h,part_upto hf.gr.all hf.gr.asc];simp
theorem foldA_isFol {r s:Int} {es:List Ed} (h:IsGr r s es):IsFol r (foldA 40 (s,es)).1 (foldA 40 (s,es)).2:=⟨foldA_gr 40 (g:=(s,es)) h,folds_nil.1 (foldA_fol 40 (g:=(s,es)) h h.size.2)⟩
theorem core_cor {r s:Int} {es:List Ed} (h:IsGr r s es):IsCor r (coreA r (s,es)).1 (coreA r (s,es)).2:=by
 have hf:=foldA_isFol h;have ht:=trimA_fol 40 hf;have hs:=hf.gr.size;have hl:=trimA_leaf 40 (g:=foldA 40 (s,es)) (by omega);unfold coreA;generalize trimA 40 (foldA 40 (s,es))=g at ht hl ⊢;exact ⟨canonG_isfol ht,canonG_two ht hl,canonG_idem ht⟩
theorem core_lang {r s:Int} {es:List Ed} (h:IsGr r s es) {w:List Int} (hw:LtW w):InS (coreA r (s,es)).2 w↔GenL es w:=by
 have hf:=foldA_isFol h;have ht:=trimA_lang hw 40 hf;have h3:=(genL_inS hf hw).symm.trans (foldA_lang w 40 (g:=(s,es)) h);unfold coreA;generalize foldA 40 (s,es)=g2 at hf ht h3 ⊢;generalize trimA 40 g2=g at ht ⊢;exact (canonG_lang ht.1).trans (ht.2.trans h3)
theorem Rd.cons {y:Int} {t:List Int} (h:Rd t) (hh:∀ z s,t=z :: s→z≠-y):Rd (y :: t):=by
 intro c d z e;cases c with
 | nil =>
  injection e with e1 e2
  subst e1;exact hh _ _ e2 rfl
 | cons q c =>
  injection e with e1 e2
  exact h c d z e2
theorem Rd.join:∀ {a:List Int} {x:Int} {b:List Int},Rd (a++[x])→Rd (x :: b)→Rd (a++x :: b)
 | [],_,_,_,h=>h
 | y :: a,x,b,h1,h2=>by
  refine Rd.cons (Rd.join (a:=a) (Rd.right (a:=[y]) h1) h2) fun z s e=>?_;cases a with
  | nil =>
   injection e with e1 e2
   subst e1;intro e3;exact h1 [] [] y (by rw [e3];rfl)
  | cons q a =>
   injection e with e1 e2
   subst e1;intro e3;exact h1 [] (a++[x]) y (by rw [e3];rfl)
theorem stepE_inj {u x v u' x' v':Int} (hx:x≠0) (hx':x'≠0) (h:stepE u x v=stepE u' x' v'):(u=u'∧x=x'∧v=v') ∨ (u=v'∧x = -x'∧v=u'):=by
 unfold stepE at h;split at h <;> split at h <;> (injection h with h1 h2 h3;omega)
theorem sp_stepE {es:List Ed} {u x v:Int}:Sp es u x v↔x≠0∧stepE u x v∈es:=by
 unfold Sp stepE;constructor
 ·rintro (⟨h1,h2⟩ | ⟨h1,h2⟩)
  ·exact ⟨by omega,by rw [if_neg (by omega)];exact h2⟩
  ·exact ⟨by omega,by rw [if_pos h1];exact h2⟩
 ·rintro ⟨h1,h2⟩
  by_cases h:x < 0
  ·rw [if_pos h] at h2
   exact .inr ⟨h,h2⟩
  ·rw [if_neg h] at h2
   exact .inl ⟨by omega,h2⟩
theorem nd_uniq {st:BS} (hn:(st.map Prod.fst).Nodup) {p q:Int × List Int} (hp:p∈st) (hq:q∈st) (h:p.1=q.1):p=q:=by
 obtain ⟨i,hi,rfl⟩:=List.getElem_of_mem hp;obtain ⟨j,hj,rfl⟩:=List.getElem_of_mem hq;have hpw:=List.pairwise_iff_getElem.1 hn;rcases Nat.lt_trichotomy i j with hl | rfl | hl
 ·exact absurd (by rw [List.getElem_map,List.getElem_map];exact h) (hpw i j (by simpa using hi) (by simpa using hj) hl)
 ·rfl
 ·exact absurd (by rw [List.getElem_map,List.getElem_map];exact h.symm) (hpw j i (by simpa using hj) (by simpa using hi) hl)
theorem bfs_uniq {r s v:Int} {es:List Ed} {L:List Int} (hg:∀ e∈es,InG r s e) (h0:0≤v) (h1:v < s) {p q:Int × List Int} (hp:p∈bfs es L v) (hq:q∈bfs es L v) (h:p.1=q.1):p=q :=
 nd_uniq (bfs_ok (L:=L) hg h0 h1).nd hp hq h
theorem bfs_cases {es:List Ed} {L:List Int} {v:Int} {q:Int × List Int} (h:q∈bfs es L v):q=(v,[]) ∨ ∃ p∈bfs es L v,∃ x∈L,q=(nextV es p.1 x,p.2++[x])∧0≤nextV es p.1 x∧q∈(bfs es L v).tail:=by
 have hp:=bfs_par es L v;have h1:=bfsSt_pre' es L v 0 41;rw [Nat.zero_add] at h1;have h2:(bfs es L v)[0]?=some (v,[]):=prefix_get h1 (by simp [bfsSt]);generalize bfs es L v=st at h hp h2;cases st with
 | nil=>cases h
 | cons a t =>
  simp at h2;rcases List.mem_cons.1 h with rfl | h
  ·exact .inl h2
  ·obtain ⟨p,hp1,x,hx,e,hn⟩:=hp.par q h
   exact .inr ⟨p,hp1,x,hx,e,hn,h⟩
theorem bfs_rd {r s v:Int} {es:List Ed} {L:List Int} (hf:IsFol r s es) (h0:0≤v) (h1:v < s):∀ (n:Nat) (q:Int × List Int),q∈bfs es L v→q.2.length≤n→Rd q.2:=by
 intro n
 induction n with
 | zero =>
  intro q _ hl;have e:q.2=[]:=List.eq_nil_of_length_eq_zero (by omega);rw [e];exact Rd.nil
 | succ n ih =>
  intro q hq hl;rcases bfs_cases hq with rfl | ⟨p,hp,x,hx,e,hn, -⟩
  ·exact Rd.nil
  ·have hp2:=ih p hp (by rw [e] at hl;simp at hl;omega)
   have e2:q.2=p.2++[x]:=by rw [e]
   rw [e2];refine hp2.snoc fun t a ha hax=>?_;rcases bfs_cases hp with rfl | ⟨p',hp',y,hy,e',hn', -⟩
   ·simp at ha
   ·have e3:p.2=p'.2++[y]:=by rw [e']
    obtain ⟨rfl,rfl⟩:=snoc_inj (ha.symm.trans e3);have s1:=sp_nextV hn';have s2:=sp_nextV hn;have e4:p.1=nextV es p'.1 a:=by rw [e']
    rw [← e4] at s1;have s3:=s1.neg;rw [hax,Int.neg_neg] at s3;have e5:q.1=p'.1:=by
     have:q.1=nextV es p.1 x:=by rw [e]
     rw [this];exact hf.det s2 s3
    have e6:=bfs_uniq hf.gr.all h0 h1 hq hp' e5;have:q.2=p'.2:=by rw [e6]
    rw [e2,e3] at this;have:=congrArg List.length this;simp at this
theorem wordV_pa {r n:Nat} {es:List Ed} (h:IsCor r n es) {v:Nat} (hv:v < n):Pa es 0 (wordV r es v) v:=bfs_pa es (lets r) 0 _ (wordV_mem h hv)
theorem wordV_rd {r n:Nat} {es:List Ed} (h:IsCor r n es) {v:Nat} (hv:v < n):Rd (wordV r es v):=bfs_rd h.fol (Int.le_refl _) (by omega) _ _ (wordV_mem h hv) (Nat.le_refl _)
theorem wordV_zero {r n:Nat} {es:List Ed} (h:IsCor r n es):wordV r es 0=[]:=by
 have h1:=bfsSt_pre' es (lets r) 0 0 41;rw [Nat.zero_add] at h1;exact wordV_eq h.gr (h1.subset (by simp [bfsSt]))
theorem wordV_last {r n:Nat} {es:List Ed} (h:IsCor r n es) {v:Nat} (hv:v < n) (h0:v≠0):∃ (p:Nat) (x:Int),p < n∧wordV r es v=wordV r es p++[x]∧Sp es p x v∧stepE p x v∈treeE es (bfs es (lets r) 0):=by
 have hm:=wordV_mem h hv;rcases bfs_cases hm with e | ⟨p,hp,x,hx,e,hn,ht⟩
 ·injection e with e1 e2
  omega
 ·have hr:=(bfs_ok (L:=lets r) h.gr.all (Int.le_refl 0) (by omega:(0:Int) < n)).rng p hp
  obtain ⟨k,hk⟩:=Int.eq_ofNat_of_zero_le hr.1;injection e with e1 e2
  have hsp:=sp_nextV hn;rw [← e1,hk] at hsp;have e3:wordV r es (k:Int)=p.2:=wordV_eq h.gr (by rw [← hk];exact hp);refine ⟨k,x,by omega,by rw [e2,e3],hsp,?_⟩;unfold treeE;refine List.mem_map.2 ⟨_,ht,?_⟩;rw [e2];have:(v:Int)=nextV es p.1 x:=e1;rw [this,edgeOf_new h.fol hn,hk]
theorem treeE_word {r n:Nat} {es:List Ed} (h:IsCor r n es) {e:Ed} (he:e∈treeE es (bfs es (lets r) 0)):∃ (p q:Nat) (x:Int),p < n∧q < n∧e=stepE p x q∧Sp es p x q∧wordV r es q=wordV r es p++[x]:=by
 unfold treeE at he;obtain ⟨q,hq,rfl⟩:=List.mem_map.1 he;obtain ⟨p,hp,x,hx,e,hn⟩:=(bfs_par es (lets r) 0).par q hq;have hb:=bfs_ok (L:=lets r) h.gr.all (Int.le_refl 0) (by have:=h.gr.size;omega:(0:Int) < n);have hr:=hb.rng p hp;have hqm:=List.mem_of_mem_tail hq;have hr2:=hb.rng q hqm;obtain ⟨k,hk⟩:=Int.eq_ofNat_of_zero_le hr.1;obtain ⟨j,hj⟩:=Int.eq_ofNat_of_zero_le hr2.1;have e1:q.1=nextV es p.1 x:=by rw [e]
 have e2:q.2=p.2++[x]:=by rw [e]
 have hsp:=sp_nextV hn;rw [← e1,hk,hj] at hsp;refine ⟨k,j,x,by omega,by omega,?_,hsp,?_⟩
 ·rw [e,edgeOf_new h.fol hn,← e1,hk,hj]
 ·rw [wordV_eq h.gr (v:=(j:Int)) (w:=q.2) (by rw [← hj];exact hqm),wordV_eq h.gr (v:=(k:Int)) (w:=p.2) (by rw [← hk];exact hp),e2]
theorem mem_extraE {r:Nat} {es:List Ed} {e:Ed}:e∈extraE r es↔e∈es∧e ∉ treeE es (bfs es (lets r) 0):=by
 unfold extraE;rw [List.mem_filter];simp
theorem loop_rd {r n:Nat} {es:List Ed} (h:IsCor r n es) {a b:Nat} {l:Int} (he:(⟨a,l,b⟩:Ed)∈extraE r es):Rd (wordV r es a++l :: invW (wordV r es b)):=by
 obtain ⟨hm,hx⟩:=mem_extraE.1 he;have hi:=h.gr.all _ hm;simp only [InG] at hi;have hs:Sp es a l b:=sp_edge hm (by simp only;omega);have hn:a < n∧b < n:=by omega
 have hlb:=(wordV_pa h hn.2).lt h.gr;refine Rd.join ?_ ?_
 ·refine (wordV_rd h hn.1).snoc fun t y e hy=>hx ?_
  by_cases ha:a=0
  ·subst ha
   rw [show ((0:Nat):Int)=0 from rfl,wordV_zero h] at e;simp at e
  ·obtain ⟨p,x,hp,ew,hsp,ht⟩:=wordV_last h hn.1 ha
   obtain ⟨-,rfl⟩:=snoc_inj (ew.symm.trans e);have h3:=hsp.neg;rw [hy,Int.neg_neg] at h3;have h4:=h.fol.det hs h3;rw [hy,← h4] at ht;unfold stepE at ht;rw [if_pos (by omega),Int.neg_neg] at ht;exact ht
 ·refine Rd.cons ((wordV_rd h hn.2).inv hlb) fun z s e hz=>hx ?_
  by_cases hb:b=0
  ·subst hb
   rw [show ((0:Nat):Int)=0 from rfl,wordV_zero h,invW_nil] at e;cases e
  ·obtain ⟨p,x,hp,ew,hsp,ht⟩:=wordV_last h hn.2 hb
   rw [ew] at e hlb;rw [invW_app] at e;have e2:invW [x]=[-x]:=by simp [invW,(hsp.lt3 h.gr).negI]
   rw [e2,List.singleton_append] at e;have e3:-x=z:=(List.cons.inj e).1;have e5:x=l:=by omega
   subst e5;have h4:=Pa.det' h.fol (pa_one.2 hs) (pa_one.2 hsp);rw [← h4] at ht;unfold stepE at ht;rw [if_neg (by omega)] at ht;exact ht
theorem basis_pa {r n:Nat} {es:List Ed} (h:IsCor r n es) {a b:Nat} {l:Int} (he:(⟨a,l,b⟩:Ed)∈es):Pa es 0 (wordV r es a++l :: invW (wordV r es b)) 0:=by
 have hi:=h.gr.all _ he;simp only [InG] at hi;exact (wordV_pa h (by omega)).app ⟨_,sp_edge he (by simp only;omega),(wordV_pa h (by omega)).inv h.gr⟩
theorem edge_nat {r n:Nat} {es:List Ed} (h:IsGr r n es) {e:Ed} (he:e∈es):∃ (a b:Nat),e=⟨(a:Int),e.l,(b:Int)⟩∧a < n∧b < n∧1≤e.l∧e.l≤r:=by
 have hi:=h.all e he;simp only [InG] at hi;exact ⟨e.a.toNat,e.b.toNat,Ed.ext' (by simp only;omega) rfl (by simp only;omega),by omega,by omega,by omega,by omega⟩
theorem basisW_eq {r n:Nat} {es:List Ed} (h:IsCor r n es) {a b:Nat} {l:Int} (he:(⟨a,l,b⟩:Ed)∈extraE r es):basisW r es ⟨a,l,b⟩=wordV r es a++l :: invW (wordV r es b):=by
 unfold basisW;have:=red_self (loop_rd h he) ((basis_pa h (extraE_mem he)).lt h.gr)
 simpa using this
theorem basisG_inS {r n:Nat} {es:List Ed} (h:IsCor r n es) {w:List Int} (hw:w∈basisG r es):LtW w∧InS es w:=by
 unfold basisG at hw;obtain ⟨e,he,rfl⟩:=List.mem_map.1 hw;obtain ⟨a,b,e2, -⟩:=edge_nat h.gr (extraE_mem he);rw [e2] at he ⊢;rw [basisW_eq h he];exact ⟨(basis_pa h (extraE_mem he)).lt h.gr,InS.mk h.fol (basis_pa h (extraE_mem he))⟩
theorem extra_above {r n:Nat} {es:List Ed} (h:IsCor r n es) {v:Nat} (hv:v < n) (h0:v≠0):∃ e∈extraE r es,∃ u:Nat,u < n∧(∃ t,wordV r es u=wordV r es v++t)∧((u:Int)=e.a ∨ (u:Int)=e.b):=by
 -- the longest word that goes on
 have key:∀ (k:Nat) (u:Nat),u < n→(∃ t,wordV r es u=wordV r es v++t)→41 - (wordV r es u).length≤k→∃ e∈extraE r es,∃ u:Nat,u < n∧(∃ t,wordV r es u=wordV r es v++t)∧((u:Int)=e.a ∨ (u:Int)=e.b):=by
  intro k
  induction k with
  | zero =>
   intro u hu _ hk;have:=(wordV_ok h hu).1;omega
  | succ k ih =>
   intro u hu ⟨t,ht⟩ hk;have hu0:u≠0:=fun e=>by
    subst e;rw [show ((0:Nat):Int)=0 from rfl,wordV_zero h] at ht;obtain ⟨p,x, -,ew, -⟩:=wordV_last h hv h0;rw [ew] at ht;simp at ht
   obtain ⟨p,x,hp,ew,hsp, -⟩:=wordV_last h hu hu0;obtain ⟨⟨y,z,t1,t2,hyz,s1,s2⟩, -⟩:=(leaf_none_iff h.fol).1 h.leaf u (by omega) (by omega);obtain ⟨y,t1,hy,s1⟩:∃ y t1,y≠-x∧Sp es u y t1:=by
    by_cases hy:y = -x
    ·exact ⟨z,t2,fun hz=>hyz (hy.trans hz.symm),s2⟩
    ·exact ⟨y,t1,hy,s1⟩
   obtain ⟨hy0,he⟩:=sp_stepE.1 s1;have hr:=s1.rng h.gr.all;obtain ⟨j,rfl⟩:=Int.eq_ofNat_of_zero_le hr.2.1.1;by_cases htr:stepE (u:Int) y (j:Int)∈treeE es (bfs es (lets r) 0)
   ·obtain ⟨p',q',x',hp',hq',e,hs',ew'⟩:=treeE_word h htr
    have hx':=(hs'.rng h.gr.all).2.2.1;rcases stepE_inj hy0 hx' e with ⟨e1,e2,e3⟩ | ⟨e1,e2,e3⟩
    ·obtain rfl:u=p':=by omega
     refine ih q' hq' ⟨t++[x'],by rw [ew',ht];simp⟩ ?_;have:=(wordV_ok h hq').1;rw [ew',List.length_append] at this ⊢;simp at this ⊢;omega
    ·obtain rfl:u=q':=by omega
     obtain ⟨-,e4⟩:=snoc_inj (ew.symm.trans ew');exact absurd (by omega) hy
   ·refine ⟨_,mem_extraE.2 ⟨he,htr⟩,u,hu,⟨t,ht⟩,?_⟩
    unfold stepE;split
    ·exact .inr rfl
    ·exact .inl rfl
 exact key 41 v hv ⟨[],by simp⟩ (by omega)
def Hom (n:Nat) (es es':List Ed) (f:Int→Int):Prop:=f 0=0∧∀ u x t,Sp es u x t→Sp es' (f u) x (f t)
theorem Hom.pa {n:Nat} {es es':List Ed} {f:Int→Int} (h:Hom n es es' f):∀ {w:List Int} {u v:Int},Pa es u w v→Pa es' (f u) w (f v)
 | [],_,_,h1=>by cases h1;rfl
 | _ :: _,_,_,⟨t,h1,h2⟩=>⟨f t,h.2 _ _ _ h1,h.pa h2⟩
theorem hom_of_basis {r n:Nat} {es:List Ed} {r' s':Int} {es':List Ed} (h:IsCor r n es) (h':IsFol r' s' es') (hb:∀ w∈basisG r es,InS es' w):∃ f,Hom n es es' f:=by
 have loop:∀ {a b:Nat} {l:Int},(⟨a,l,b⟩:Ed)∈extraE r es→Pa es' 0 (wordV r es a++l :: invW (wordV r es b)) 0:=by
  intro a b l he;have h1:=hb (basisW r es ⟨a,l,b⟩) (List.mem_map.2 ⟨_,he,rfl⟩);rw [basisW_eq h he] at h1;unfold InS at h1
  rwa [red_self (loop_rd h he) ((basis_pa h (extraE_mem he)).lt h.gr)] at h1
 have rd:∀ v:Nat,v < n→∃ t,Pa es' 0 (wordV r es v) t:=by
  intro v hv;by_cases h0:v=0
  ·subst h0
   rw [show ((0:Nat):Int)=0 from rfl,wordV_zero h];exact ⟨0,rfl⟩
  ·obtain ⟨e,he,u,hu,⟨t,ht⟩,hue⟩:=extra_above h hv h0
   obtain ⟨a,b,e2,ha,hb2, -⟩:=edge_nat h.gr (extraE_mem he);rw [e2] at he hue;have hl:=loop he;have:∃ q,Pa es' 0 (wordV r es u) q:=by
    rcases hue with hue | hue
    ·obtain rfl:u=a:=by simp only at hue;omega
     obtain ⟨q,h1, -⟩:=pa_app.1 hl;exact ⟨q,h1⟩
    ·obtain rfl:u=b:=by simp only at hue;omega
     obtain ⟨q, -,q2,h1,h2⟩:=pa_app.1 hl;have h3:=h2.inv h'.gr;rw [invW_invW ((wordV_pa h hu).lt h.gr)] at h3;exact ⟨q2,h3⟩
   obtain ⟨q,hq⟩:=this;rw [ht] at hq;obtain ⟨q2,h1, -⟩:=pa_app.1 hq;exact ⟨q2,h1⟩
 have hf:∀ v:Nat,v < n→Pa es' 0 (wordV r es v) (rdA es' 0 (wordV r es v)).1:=by
  intro v hv;obtain ⟨t,ht⟩:=rd v hv;rw [rdA_full h' ht];exact ht
 have edge:∀ e∈es,Sp es' (rdA es' 0 (wordV r es e.a)).1 e.l (rdA es' 0 (wordV r es e.b)).1:=by
  intro e he;obtain ⟨a,b,e2,ha,hb2,hl, -⟩:=edge_nat h.gr he;have ea:e.a=(a:Int):=by rw [e2]
  have eb:e.b=(b:Int):=by rw [e2]
  by_cases ht:e∈treeE es (bfs es (lets r) 0)
  ·obtain ⟨p,q,x,hp,hq,e3,hs,ew⟩:=treeE_word h ht
   have h1:=hf q hq;rw [ew] at h1;obtain ⟨t,h2,h3⟩:=pa_app.1 h1;have h3:=pa_one.1 h3;rw [← ew,(hf p hp).det h' h2 |>.symm] at h3;have hx:=(hs.rng h.gr.all).2.2.1;rw [e3];unfold stepE;split
   ·exact h3.neg
   ·exact h3
  ·have hm:=mem_extraE.2 ⟨he,ht⟩
   rw [e2] at hm;obtain ⟨t,h1,t2,h2,h3⟩:=pa_app.1 (loop hm);have h4:=h3.inv h'.gr;rw [invW_invW ((wordV_pa h hb2).lt h.gr)] at h4;rw [ea,eb,(hf a ha).det h' h1,(hf b hb2).det h' h4];exact h2
 refine ⟨fun v=>(rdA es' 0 (wordV r es v)).1,?_,?_⟩
 ·show (rdA es' 0 (wordV r es 0)).1=0
  rw [wordV_zero h]
  rfl
 ·rintro u x t (⟨h1,h2⟩ | ⟨h1,h2⟩)
  ·exact edge _ h2
  ·have:=(edge _ h2).neg
   simpa using this
theorem core_ord {r s:Int} {es:List Ed} (h:IsCor r s es):((ordE r es 0).length:Int)=s∧ordE r es 0=(List.range (ordE r es 0).length).map fun (k:Nat)=>(k:Int):=by
 have hc:=h.canon;rw [canonG_val (g:=(s,es)) h.fol] at hc;injection hc with h1 h2
 refine ⟨h1,?_⟩;have:=ordE_part h.fol
 rwa [h2] at this
theorem core_uniq {r n n':Nat} {es es':List Ed} (h:IsCor r n es) (h':IsCor r n' es') (hl:∀ w,LtW w→(InS es w↔InS es' w)):n=n'∧es=es':=by
 obtain ⟨f,hf⟩:=hom_of_basis h h'.fol fun w hw=>(hl w (basisG_inS h hw).1).1 (basisG_inS h hw).2;obtain ⟨g,hg⟩:=hom_of_basis h' h.fol fun w hw=>(hl w (basisG_inS h' hw).1).2 (basisG_inS h' hw).2;have gf:∀ v:Int,0≤v→v < n→g (f v)=v:=by
  intro v h0 h1;obtain ⟨k,rfl⟩:=Int.eq_ofNat_of_zero_le h0;have hw:=wordV_pa h (show k < n by omega);have h2:=hg.pa (hf.pa hw);rw [hf.1,hg.1] at h2;exact h2.det h.fol hw
 have hn0:=h.gr.size;have hb:bfs es' (lets r) (f 0)=(bfs es (lets r) 0).map fun p=>(f p.1,p.2) :=
  bfs_iso (R:=fun u=>0≤u∧u < (n:Int)) (by omega) (fun u hu x hx hn=>((sp_nextV hn).rng h.gr.all).2.1)
   (fun u hu x hx hn=>by
    apply Classical.byContradiction;intro hc;have h1:=hg.2 _ _ _ (sp_nextV (by omega:0≤nextV es' (f u) x));rw [gf u hu.1 hu.2] at h1;exact nextV_no hn h.gr.nn _ h1)
   (fun u hu x hx hn=>by
    have h1:=hf.2 _ _ _ (sp_nextV hn);exact ⟨nextV_sp h'.fol h1,(h1.rng h'.gr.all).2.1.1⟩)
   (fun u t hu ht e=>by rw [← gf u hu.1 hu.2,e,gf t ht.1 ht.2])
 rw [hf.1] at hb;have ho:ordE r es' 0=(ordE r es 0).map f:=by
  rw [ordE_def r es' 0,ordE_def r es 0,Int.toNat_natCast,hb,List.map_map,List.map_map];exact List.map_congr_left fun p _=>rfl
 obtain ⟨l1,o1⟩:=core_ord h;obtain ⟨l2,o2⟩:=core_ord h';have hnn:n=n':=by
  have:=congrArg List.length ho;rw [List.length_map] at this;omega
 subst hnn;have hid:∀ v:Int,0≤v→v < n→f v=v:=by
  intro v h0 h1;obtain ⟨k,rfl⟩:=Int.eq_ofNat_of_zero_le h0;have e1:(ordE r es 0)[k]?=some (k:Int):=by
   rw [o1,List.getElem?_map,List.getElem?_range (by omega)]
   rfl
  have e2:(ordE r es' 0)[k]?=some (k:Int):=by
   rw [o2,List.getElem?_map,List.getElem?_range (by omega)]
   rfl
  rw [ho,List.getElem?_map,e1] at e2
  simpa using e2
 have hgd:∀ v:Int,0≤v→v < n→g v=v:=fun v h0 h1=>by
  have:=gf v h0 h1
  rwa [hid v h0 h1] at this
 refine ⟨rfl,asc_ext h.gr.asc h'.gr.asc fun e=>?_⟩;constructor
 ·intro he
  have hi:=h.gr.all e he;simp only [InG] at hi;have h1:=hf.2 _ _ _ (sp_edge he (by omega));rw [hid e.a (by omega) (by omega),hid e.b (by omega) (by omega)] at h1;have h2:=(sp_stepE.1 h1).2;unfold stepE at h2
  rwa [if_neg (by omega)] at h2
 ·intro he
  have hi:=h'.gr.all e he;simp only [InG] at hi;have h1:=hg.2 _ _ _ (sp_edge he (by omega));rw [hgd e.a (by omega) (by omega),hgd e.b (by omega) (by omega)] at h1;have h2:=(sp_stepE.1 h1).2;unfold stepE at h2
  rwa [if_neg (by omega)] at h2
end Go.Proofs.YtkimajabegojoaaGreat
