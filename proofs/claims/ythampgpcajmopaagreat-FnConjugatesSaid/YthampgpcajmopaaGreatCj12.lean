/- Contracts and lemmas of this seat, many texts in one: see the words ahead of each. No condition beyond those typed in each lemma. -/
import Derived.Test.YthampgpcajmopaaGreatCj11
import Derived.Test.YthampgpcajmopaaGreatCj8
import Derived.Test.YthampgpcajmopaaGreatCj1
import Derived.Test.YthampgpcajmopaaGreatCj6
import Derived.Test.YthampgpcajmopaaGreatCj3

namespace Go.Proofs.YthampgpcajmopaaGreat
set_option linter.unusedVariables false
set_option linter.unusedSimpArgs false
set_option maxHeartbeats 40000000
set_option maxRecDepth 100000
section
open Go.RowKit
theorem DrG.sub {rank:Int} {l:List (List Int)} {rr rs:Int} {res:List Ed} {b:Bool} (h:SubIs rank l rr rs res b):DrG rr rs res:=by
 rcases h with ⟨-,h,rfl,rfl,rfl⟩ | ⟨-, -,rfl,rfl,rfl⟩
 ·exact DrG.of_gr (coreA_gr (flow_gr h))
 ·exact DrG.zero
theorem l9Sub_any (p:Nat) (A:Option Addr) (bs:List Int) (c:Nat) (w:World) (hb:OkB bs) (hl:bs.length≤1048576) (h:Cur w p A bs c) :
  Calls Tryz.prog 213 #[.pointer (some ⟨p,0,none⟩)] w fun e w'=>∃ r s A' c' es,e=.returned (graV r s A' (List.length es) c')∧DrG r s es∧OG w' w.heap.size w'.heap.size A' c' es∧Cur w' p A bs c∧Mid p (p+1) w w':=by
 have hpw:=h.lt;have hal:=Mid.alloc w (.cells #[.int .i64 0,.int .i64 0,.slice none 0 0] 26);have B2:=Box.new w #[.int .i64 0,.int .i64 0,.slice none 0 0] 26;have h0:=h.mid hal (Or.inr rfl);go_enter Tryz.func213,Tryz.ntmps213
 have hal2:=Mid.alloc (w.alloc (.cells #[.int .i64 0,.int .i64 0,.slice none 0 0] 26)) (.cells #[.int .i64 1,.int .i64 2,.int .i64 2,.int .i64 2,.int .i64 2,.int .i64 3] 3);have hbx:=Box.new (w.alloc (.cells #[.int .i64 0,.int .i64 0,.slice none 0 0] 26)) #[.int .i64 1,.int .i64 2,.int .i64 2,.int .i64 2,.int .i64 2,.int .i64 3] 3;rw [World.size_alloc] at hbx;replace B2:=B2.mid hal2 oZr;replace h0:=h0.mid hal2 (Or.inr rfl);have hm0:=hal.trans hal2;go_wp2_with fail;generalize (w.alloc (.cells #[.int .i64 0,.int .i64 0,.slice none 0 0] 26)).alloc (.cells #[.int .i64 1,.int .i64 2,.int .i64 2,.int .i64 2,.int .i64 2,.int .i64 3] 3)=w1 at hbx B2 h0 hm0 ⊢;have hs1:w.heap.size+1 < w1.heap.size:=hbx.1;have hri:RI w1 (w.heap.size+1) (w.heap.size+1+1) (some ⟨w.heap.size+1,0,none⟩) [1,2,2,2,2,3] :=
  ⟨hs1,fun _=>⟨w.heap.size+1,0,rfl,Nat.le_refl _,Nat.lt_succ_self _,fun j u hu=>by rw [Nat.zero_add];exact hbx.2.1 j u (by simpa [ints] using hu)⟩⟩
 with_reducible refine (l1PickIntN (some ⟨w.heap.size+1,0,none⟩) [1,2,2,2,2,3] 6 6 rfl (by decide) (by decide) p A bs c _ (w.heap.size+1) _ hri (Or.inl (by omega)) hb hl h0).mono ?_
 rintro e w2 ⟨r,rfl,hrm,h2,m2⟩;have hr:1≤r∧r≤3:=by simp at hrm;omega
 replace B2:=B2.mid m2 (Or.inr (by omega));have hm2:=hm0.zero.trans m2;have hs2:=m2.size;clear hri hbx hrm h0 hm0 hal hal2 m2;go_wp2_with fail;with_reducible refine (l6Words_any r hr.1 hr.2 p A bs c _ hb hl h2).mono ?_
 rintro e w3 ⟨Al,cl,rows,rfl,⟨hl3,hw⟩,hL,h3,m3⟩;have hs3:=m3.size;replace B2:=B2.mid m3 (Or.inr (by omega));have hm3:=hm2.trans m3;obtain ⟨l,hrl⟩:∃ l,rowsD rows=l:=⟨_,rfl⟩
 have hll:rows.length=l.length:=by rw [← hrl,rowsD_len]
 have hoss:=hL.oss hrl;rw [hrl] at hw hl3;have hsu:=hw.sum;obtain ⟨rr,rs,res,b,hres⟩:=SubIs_ex r l;have hF:=spec_SubgroupOf r Al l cl w3 _ _ hoss.rss hw.ok.2 (by omega) rr rs res b hres;have HD:=Lib.hid (DrG.sub hres);obtain ⟨L,hLe⟩:∃ x,res.length=x:=⟨_,rfl⟩
 rw [hLe] at hF;have HL:=Lib.hid hLe;have HF:Hid (Calls Tryz.prog 226 #[.int .i64 r,.slice Al l.length cl] w3 fun e w'=>∃ A1 c1,e=.returned (.tuple #[.agg #[.int .i64 rr,.int .i64 rs,.slice A1 L c1],.bool b])∧OG w' w3.heap.size w'.heap.size A1 c1 res∧Mid 0 0 w3 w'):=Lib.hid hF;rw [hll];clear hF hres hLe hsu hoss hw hl3 hll hrl hL h2 hm2 m3;go_wp2_with fail;with_reducible refine (HF.out).mono ?_
 rintro e w4 ⟨A1,c1,rfl,hO4,m4⟩;have hs4:=m4.size;replace B2:=B2.mid m4 oZr;have hC:=h3.mid m4 (Or.inr rfl);have hM:=hm3.trans m4.zero;have al5:=Mid.alloc w4 (.cells #[.int .i64 rr,.int .i64 rs,.slice A1 L c1] 26);have G5:=Box.new w4 #[.int .i64 rr,.int .i64 rs,.slice A1 L c1] 26;replace B2:=B2.mid al5 oZr;replace hC:=hC.mid al5 (Or.inr rfl);replace hM:=hM.trans al5.zero;have hO5:=(hO4.mid al5 oZl)
 have hs5:=al5.size;obtain ⟨w5,hw5⟩:∃ x,w4.alloc (.cells #[.int .i64 rr,.int .i64 rs,.slice A1 L c1] 26)=x:=⟨_,rfl⟩
 rw [hw5] at B2 hC hM hO5 hs5 G5;clear h3 hm3 hO4 m4 al5 HF;have g0:=G5.cell 0 rfl;have g1:=G5.cell 1 rfl;have g2:=G5.cell 2 rfl;have gl:=G5.1;have q0:=B2.cell 0 rfl;have q1:=B2.cell 1 rfl;have q2:=B2.cell 2 rfl;have qf:=B2.2.2;have ql:=B2.1;have hst:=((Mid.setCell w5 (lo:=w.heap.size) (hi:=w.heap.size+1) (p:=⟨w.heap.size,0,none⟩) (.int .i64 rr) (Nat.le_refl _) (Nat.lt_succ_self _)).trans (Mid.setCell _ (lo:=w.heap.size) (hi:=w.heap.size+1) (p:=⟨w.heap.size,1,none⟩) (.int .i64 rs) (Nat.le_refl _) (Nat.lt_succ_self _))).trans (Mid.setCell _ (lo:=w.heap.size) (hi:=w.heap.size+1) (p:=⟨w.heap.size,2,none⟩) (.slice A1 L c1) (Nat.le_refl _) (Nat.lt_succ_self _));have O9:=Lib.hid ((hO5.mid hst (Or.inl (by omega))).wide (lo':=w.heap.size) (by omega) (Nat.le_trans hO5.size hst.size) (Nat.le_refl _));have C9:=Lib.hid (hC.mid hst (Or.inl hpw));have M9:=Lib.hid (hM.transNew hst (Or.inl (Nat.le_refl _)));clear hst hO5 hC hM;go_wp2_with fail;refine bodyPost_ret (v:=.agg #[.int .i64 rr,.int .i64 rs,.slice A1 L c1]) (by simp [results,Tryz.results213,go_sem,q0,q1,q2,qf]) rfl ⟨rr,rs,A1,c1,res,?_,HD.out,O9.out,C9.out,M9.out⟩;rw [HL.out]
theorem l9Any_any (p:Nat) (A:Option Addr) (bs:List Int) (c:Nat) (w:World) (hb:OkB bs) (hl:bs.length≤1048576) (h:Cur w p A bs c) :
  Calls Tryz.prog 180 #[.pointer (some ⟨p,0,none⟩)] w fun e w'=>∃ r s A' c' es,e=.returned (graV r s A' (List.length es) c')∧DrG r s es∧OG w' w.heap.size w'.heap.size A' c' es∧Cur w' p A bs c∧Mid p (p+1) w w':=by
 have hpw:=h.lt;have hal:=Mid.alloc w (.cells #[.int .i64 0,.int .i64 0,.slice none 0 0] 26);have B2:=Box.new w #[.int .i64 0,.int .i64 0,.slice none 0 0] 26;have h0:=h.mid hal (Or.inr rfl);go_enter Tryz.func180,Tryz.ntmps180
 go_wp2_with fail;generalize (w.alloc (.cells #[.int .i64 0,.int .i64 0,.slice none 0 0] 26))=w1 at B2 h0 hal ⊢;have hs1:w.heap.size < w1.heap.size:=B2.1;with_reducible refine (l1OnceI 8 (by decide) (by decide) p A bs c _ hb hl h0).mono ?_
 rintro e w2 ⟨q,rfl,h2,m2⟩;have hs2:=m2.size;replace B2:=B2.mid m2 (Or.inr (by omega));replace hal:=hal.zero.trans m2;clear h0 m2;cases q
 ·go_wp2_with fail
  with_reducible refine (l9Sub_any p A bs c _ hb hl h2).mono ?_
  rintro e w3 ⟨r,s,Ae,ce,es,rfl,hg,hO,hC,m3⟩;have hs3:=m3.size;replace B2:=B2.mid m3 (Or.inr (by omega));have hM:=hal.trans m3;have HG:=Lib.hid hg;obtain ⟨L,hL⟩:∃ l,es.length=l:=⟨_,rfl⟩
  have HL:=Lib.hid hL;rw [hL];clear hg hL hal h2 m3;have q0:=B2.cell 0 rfl;have q1:=B2.cell 1 rfl;have q2:=B2.cell 2 rfl;have qf:=B2.2.2;have ql:=B2.1;have hst:=((Mid.setCell w3 (lo:=w.heap.size) (hi:=w.heap.size+1) (p:=⟨w.heap.size,0,none⟩) (.int .i64 r) (Nat.le_refl _) (Nat.lt_succ_self _)).trans (Mid.setCell _ (lo:=w.heap.size) (hi:=w.heap.size+1) (p:=⟨w.heap.size,1,none⟩) (.int .i64 s) (Nat.le_refl _) (Nat.lt_succ_self _))).trans (Mid.setCell _ (lo:=w.heap.size) (hi:=w.heap.size+1) (p:=⟨w.heap.size,2,none⟩) (.slice Ae L ce) (Nat.le_refl _) (Nat.lt_succ_self _));have O9:=Lib.hid ((hO.mid hst (Or.inl (by omega))).wide (lo':=w.heap.size) (by omega) (Nat.le_trans hO.size hst.size) (Nat.le_refl _));have C9:=Lib.hid (hC.mid hst (Or.inl hpw));have M9:=Lib.hid (hM.transNew hst (Or.inl (Nat.le_refl _)));clear hst hO hC hM;go_wp2_with fail;refine bodyPost_ret (v:=.agg #[.int .i64 r,.int .i64 s,.slice Ae L ce]) (by simp [results,Tryz.results180,go_sem,q0,q1,q2,qf]) rfl ⟨r,s,Ae,ce,es,?_,HG.out,O9.out,C9.out,M9.out⟩;rw [HL.out]
 ·go_wp2_with fail
  with_reducible refine (l4Any_any p A bs c _ hb hl h2).mono ?_
  rintro e w3 ⟨r,s,Ae,ce,es,rfl,hg,hO,hC,m3⟩;have hs3:=m3.size;replace B2:=B2.mid m3 (Or.inr (by omega));have hM:=hal.trans m3;have HG:=Lib.hid hg;obtain ⟨L,hL⟩:∃ l,es.length=l:=⟨_,rfl⟩
  have HL:=Lib.hid hL;rw [hL];clear hg hL hal h2 m3;have q0:=B2.cell 0 rfl;have q1:=B2.cell 1 rfl;have q2:=B2.cell 2 rfl;have qf:=B2.2.2;have ql:=B2.1;have hst:=((Mid.setCell w3 (lo:=w.heap.size) (hi:=w.heap.size+1) (p:=⟨w.heap.size,0,none⟩) (.int .i64 r) (Nat.le_refl _) (Nat.lt_succ_self _)).trans (Mid.setCell _ (lo:=w.heap.size) (hi:=w.heap.size+1) (p:=⟨w.heap.size,1,none⟩) (.int .i64 s) (Nat.le_refl _) (Nat.lt_succ_self _))).trans (Mid.setCell _ (lo:=w.heap.size) (hi:=w.heap.size+1) (p:=⟨w.heap.size,2,none⟩) (.slice Ae L ce) (Nat.le_refl _) (Nat.lt_succ_self _));have O9:=Lib.hid ((hO.mid hst (Or.inl (by omega))).wide (lo':=w.heap.size) (by omega) (Nat.le_trans hO.size hst.size) (Nat.le_refl _));have C9:=Lib.hid (hC.mid hst (Or.inl hpw));have M9:=Lib.hid (hM.transNew hst (Or.inl (Nat.le_refl _)));clear hst hO hC hM;go_wp2_with fail;refine bodyPost_ret (v:=.agg #[.int .i64 r,.int .i64 s,.slice Ae L ce]) (by simp [results,Tryz.results180,go_sem,q0,q1,q2,qf]) rfl ⟨r,s,Ae,ce,es,?_,HG.out,O9.out,C9.out,M9.out⟩;rw [HL.out]
end
section
open Go.RowKit
end
section
open Go.RowKit
end
section
open Go.RowKit
theorem big_any (A:Option Addr) (n c:Nat) (w:World) :
  Calls Tryz.prog 7 #[.slice A n c] w fun e w'=>e=.returned (.bool (decide ((n:Int) > 1048576)))∧w=w':=by
 go_enter Tryz.func7,Tryz.ntmps7
 go_wp2_with fail;all_goals
  go_ret;exact ⟨rfl,rfl⟩
theorem sameInts_any (A:Option Addr) (xs:List Int) (c:Nat) (A':Option Addr) (ys:List Int) (c':Nat) (w:World) (lo hi lo' hi':Nat) (h:RI w lo hi A xs) (h':RI w lo' hi' A' ys) (hl:xs.length≤1048576) (hl':ys.length≤1048576) (r:Bool) (hr:r=decide (xs=ys)) :
  Calls Tryz.prog 37 #[.slice A xs.length c,.slice A' ys.length c'] w (Stp (.bool r) w):=by
 have HR:=Lib.hid hr;clear hr;by_cases hne:xs.length=ys.length
 ·obtain ⟨n,hn⟩:∃ n,n=ys.length:=⟨_,rfl⟩
  rw [hne,← hn];have HN1:Hid (xs.length=n):=Lib.hid (by omega);have HN2:Hid (ys.length=n):=Lib.hid (by omega);have hl2:n≤1048576:=by omega
  clear hl hl' hne hn;go_enter Tryz.func37,Tryz.ntmps37
  go_wp2_with fail;go_loopw [5] (fun i wr=>∃ k:Nat,k≤n∧i=.int .i64 k∧Hid (xs.take k=ys.take k)∧(∃ m,wr=w.drewN m)) (fun i _=>n - (intOf i).toNat)
  case atStart=>exact ⟨0,Nat.zero_le _,rfl,Lib.hid rfl,0,rfl⟩
  case round =>
   obtain ⟨k,hk,rfl,HT,m,rfl⟩:=hrel;by_cases hlt:k < n
   ·obtain ⟨b,off,x,rfl, -,hx,hc⟩:=h.rs.int (k:=k) (by rw [HN1.out];exact hlt)
    obtain ⟨b',off',x',rfl, -,hx',hc'⟩:=h'.rs.int (k:=k) (by rw [HN2.out];exact hlt);have HX:=Lib.hid hx;have HX':=Lib.hid hx';clear hx hx';go_wp2_with fail;go_quiet (fail)
    by_cases hxx:x=x'
    ·subst hxx
     go_wp2_with fail;go_roundw
     case rel=>exact ⟨k+1,by omega,by go_num,Lib.hid (by rw [take_succ_of xs HX.out,take_succ_of ys HX'.out,HT.out]),_,rfl⟩
     case measure=>simp [intOf];omega
    ·go_wp2_with fail
     go_ret;have hrf:r=false:=by
      rw [HR.out];refine decide_eq_false fun e=>hxx ?_;have e1:=HX.out;rw [e,HX'.out] at e1;exact (Option.some.inj e1).symm
     rw [hrf];exact ⟨rfl,((Mid.refl 0 0 w).drewN _).drewN _⟩
   ·go_wp2_with fail
    go_ret;have hkn:k=n:=by omega
    have e1:=HT.out;rw [hkn,List.take_of_length_le (by rw [HN1.out];exact Nat.le_refl _),List.take_of_length_le (by rw [HN2.out];exact Nat.le_refl _)] at e1;have hrt:r=true:=by rw [HR.out];exact decide_eq_true e1
    rw [hrt];exact ⟨rfl,(Mid.refl 0 0 w).drewN _⟩
 ·have hrf:r=false:=by
   rw [HR.out];exact decide_eq_false fun e=>hne (by rw [e])
  rw [hrf];go_enter Tryz.func37,Tryz.ntmps37
  go_wp2_with fail;go_ret;exact ⟨rfl,Mid.refl 0 0 w⟩
theorem dropAt_len {xs:List Int} {n k:Nat} (h:xs.length=n) (hk:k < n):(xs.take k++xs.drop (k+1)).length+1=n:=by
 rw [List.length_append,List.length_take,List.length_drop];omega
theorem dropAt_mem {xs:List Int} {k:Nat} {x:Int} (h:x∈xs.take k++xs.drop (k+1)):x∈xs:=by
 rcases List.mem_append.1 h with h | h
 ·exact List.mem_of_mem_take h
 ·exact List.mem_of_mem_drop h
theorem ints_takeD (xs:List Int) (k:Nat):(ints xs).take k=ints (xs.take k):=by simp [ints]
theorem ints_drop (xs:List Int) (k:Nat):(ints xs).drop k=ints (xs.drop k):=by simp [ints]
end
section
open Go.RowKit
theorem l12Finite_any (p:Nat) (A:Option Addr) (bs:List Int) (c:Nat) (w:World) (hb:OkB bs) (hl:bs.length≤1048576) (h:Cur w p A bs c) :
  Calls Tryz.prog 185 #[.pointer (some ⟨p,0,none⟩)] w fun e w'=>∃ r s A' c' es,e=.returned (graV r s A' (List.length es) c')∧DrG r s es∧OG w' w.heap.size w'.heap.size A' c' es∧Cur w' p A bs c∧Mid p (p+1) w w':=by
 have hpw:=h.lt;have hal:=Mid.alloc w (.cells #[.int .i64 0,.int .i64 0,.slice none 0 0] 26);have B2:=Box.new w #[.int .i64 0,.int .i64 0,.slice none 0 0] 26;have h0:=h.mid hal (Or.inr rfl);go_enter Tryz.func185,Tryz.ntmps185
 have hal2:=Mid.alloc (w.alloc (.cells #[.int .i64 0,.int .i64 0,.slice none 0 0] 26)) (.cells #[.int .i64 1,.int .i64 2,.int .i64 2,.int .i64 2,.int .i64 3] 3);have hbx:=Box.new (w.alloc (.cells #[.int .i64 0,.int .i64 0,.slice none 0 0] 26)) #[.int .i64 1,.int .i64 2,.int .i64 2,.int .i64 2,.int .i64 3] 3;rw [World.size_alloc] at hbx;replace B2:=B2.mid hal2 oZr;replace h0:=h0.mid hal2 (Or.inr rfl);have hm0:=hal.trans hal2;go_wp2_with fail;generalize (w.alloc (.cells #[.int .i64 0,.int .i64 0,.slice none 0 0] 26)).alloc (.cells #[.int .i64 1,.int .i64 2,.int .i64 2,.int .i64 2,.int .i64 3] 3)=w1 at hbx B2 h0 hm0 ⊢;have hs1:w.heap.size+1 < w1.heap.size:=hbx.1;have hri:RI w1 (w.heap.size+1) (w.heap.size+1+1) (some ⟨w.heap.size+1,0,none⟩) [1,2,2,2,3] :=
  ⟨hs1,fun _=>⟨w.heap.size+1,0,rfl,Nat.le_refl _,Nat.lt_succ_self _,fun j u hu=>by rw [Nat.zero_add];exact hbx.2.1 j u (by simpa [ints] using hu)⟩⟩
 with_reducible refine (l1PickIntN (some ⟨w.heap.size+1,0,none⟩) [1,2,2,2,3] 5 5 rfl (by decide) (by decide) p A bs c _ (w.heap.size+1) _ hri (Or.inl (by omega)) hb hl h0).mono ?_
 rintro e w2 ⟨r,rfl,hrm,h2,m2⟩;have hr:1≤r∧r≤3:=by simp at hrm;omega
 have B2b:=B2.mid m2 (Or.inr (by omega));have hm2:=hm0.zero.trans m2;clear hri hbx hrm h0 B2 hm0 hal hal2 m2;go_wp2_with fail;with_reducible refine (l1BelowI 5 (by decide) (by decide) p A bs c _ hb hl h2).mono ?_
 rintro e w3 ⟨k,rfl,hk,h3,m3⟩;have B2c:=B2b.mid m3 (Or.inr (by omega));have hm3:=hm2.trans m3;have hs3:=hm3.size;have ek:IntKind.i64.wrap (1+(k:Int))=1+(k:Int):=IntWalk.i64_in _ (by omega);clear h2 B2b hm2 m3;have hal3:=Mid.alloc w3 (.cells #[.int .i64 r,.int .i64 (1+(k:Int)),.slice none 0 0] 26);have G0:=Box.new w3 #[.int .i64 r,.int .i64 (1+(k:Int)),.slice none 0 0] 26;have B2d:=B2c.mid hal3 oZr;have h4:=h3.mid hal3 (Or.inr rfl);have hm4:=hm3.trans hal3.zero;have hgw0:w.heap.size < w3.heap.size:=B2c.1;go_wp2_with fail;obtain ⟨gb,hgb⟩:∃ g,w3.heap.size=g:=⟨_,rfl⟩
 have hgw:w.heap.size < gb:=by omega
 obtain ⟨rn,hrn⟩:=Int.eq_ofNat_of_zero_le (by omega:0≤r);obtain ⟨n,hn⟩:∃ n:Nat,1+(k:Int)=n:=⟨1+k,by omega⟩
 rw [hn,hgb,hrn] at G0 ⊢;rw [hn,hrn] at B2d h4 hm4;generalize w3.alloc (.cells #[.int .i64 (rn:Int),.int .i64 (n:Int),.slice none 0 0] 26)=w4 at G0 B2d h4 hm4 ⊢;have hrn3:1≤(rn:Int)∧(rn:Int)≤3:=by omega
 have hn5:1≤(n:Int)∧(n:Int)≤5:=by omega
 have hg4:gb < w4.heap.size:=G0.1;clear h3 B2c hal3 hm3 ek hn hrn hk hr hgb hgw0;have hog:OG w4 (gb+1) w4.heap.size none 0 []:=OG.nil;go_loopw [6] (fun xv wr=>∃ (x:Nat) (es:List Ed) (Ae:Option Addr) (ce L:Nat),xv=.int .i64 ((x:Int)+1)∧x≤rn∧Hid (es.length=L)∧L≤5 * x∧Hid (IsGr rn n es)∧Box wr gb [.int .i64 rn,.int .i64 n,.slice Ae L ce]∧OG wr (gb+1) wr.heap.size Ae ce es∧Box wr w.heap.size [.int .i64 0,.int .i64 0,.slice none 0 0]∧Cur wr p A bs c∧Mid p (p+1) w wr)
  (fun xv _=>rn+1 - (intOf xv).toNat)
 case atStart=>exact ⟨0,[],none,0,0,by go_num,Nat.zero_le _,Lib.hid rfl,by omega,Lib.hid ⟨hrn3,by omega,by simp,by simp,List.Pairwise.nil⟩,G0,hog,B2d,h4,hm4⟩
 case round =>
  obtain ⟨x,es,Ae,ce,L,rfl,hxr,HL,hLm,HG,hG,hO,hB,hC,hM⟩:=hrel;clear G0 hog B2d h4 hm4 hg4;have hgr:gb < wr.heap.size:=hG.1;have g0:=hG.cell 0 rfl;have g1:=hG.cell 1 rfl;have g2:=hG.cell 2 rfl;by_cases hlt:x < rn
  ·have hle:(x:Int)+1≤(rn:Int):=by omega
   have hal5:=Mid.alloc wr (.cells #[] 3);have ho5:=owns_empty wr 3 1;have hsz5:=hal5.size;obtain ⟨bb,hbb⟩:∃ g,wr.heap.size=g:=⟨_,rfl⟩
   rw [hbb] at ho5 hgr hsz5;clear g0 g1 g2;go_wp2_with fail;have hG5:=hG.mid hal5 oZr;have hO5:=hO.mid hal5 oZl;have hB5:=hB.mid hal5 oZr;have hC5:=hC.mid hal5 (Or.inr rfl);have hM5:=hM.trans hal5.zero;rw [hbb] at hO5;clear hO hB hC hM hG hal5;generalize wr.alloc (.cells #[] 3)=w5 at hsz5 ho5 hG5 hO5 hB5 hC5 hM5 ⊢;clear hbb;go_loopw [7,8] (fun lv vv wq=>∃ (v:Nat) (left:List Int) (Al:Option Addr) (cl:Nat),vv=.int .i64 v∧v≤n∧lv=.slice Al v cl∧Hid (left.length=v)∧Hid (∀ y∈left,0≤y∧y < n)∧wq.ownsRow bb 3 1 (.slice Al v cl) v (ints left)∧Box wq gb [.int .i64 rn,.int .i64 n,.slice Ae L ce]∧OG wq (gb+1) bb Ae ce es∧Box wq w.heap.size [.int .i64 0,.int .i64 0,.slice none 0 0]∧Cur wq p A bs c∧Mid p (p+1) w wq∧bb≤wq.heap.size)
    (fun _ vv _=>n - (intOf vv).toNat)
   case atStart=>exact ⟨0,[],_,_,by go_num,Nat.zero_le _,rfl,Lib.hid rfl,Lib.hid (by simp),ho5,hG5,hO5,hB5,hC5,hM5,hsz5⟩
   case round =>
    obtain ⟨v,left,Al,cl,rfl,hvn,rfl,HLL,HLB,hol,hG6,hO6,hB6,hC6,hM6,hsq⟩:=hrel;clear ho5 hG5 hO5 hB5 hC5 hM5 hsz5;by_cases hv:v < n
    ·have hv2:(v:Int) < (n:Int):=by omega
     go_wp2_with (at_builtin;refine wpList_push rfl _ _ 34 rfl bb 3 (.int .i64 0) 1 8 undSI infoI rfl (by decide) _ _ _ rfl hol 1 [.int .i64 (v:Int)] rfl rfl ?c1 ?c2 ?c3 hsq ?next)
     case c1=>exact one_of_ints [(v:Int)]
     case c2=>unfold maxLen;omega
     case c3=>omega
     case next =>
      intro v3 w3 hol3 hgr3 hat3;have m3:Mid bb wr.heap.size wr w3:=Mid.of_grownRow hol hgr3;have hG7:=hG6.mid m3 (Or.inl (by omega));have hO7:=hO6.mid m3 (Or.inr (Nat.le_refl _));have hB7:=hB6.mid m3 (Or.inl (by omega));have hC7:=hC6.mid m3 (Or.inl (by omega));have hM7:=hM6.transNew m3 (Or.inl (by omega));have hs7:=m3.size;obtain ⟨A3,c3,rfl, -, -⟩:=owns_shape hol3;clear hol hgr3 hat3 m3 hG6 hO6 hB6 hC6 hM6;go_wp2_with fail;go_roundw
      case rel =>
       refine ⟨v+1,left++[(v:Int)],A3,c3,by go_num,by omega,rfl,Lib.hid (by rw [List.length_append,HLL.out];rfl),Lib.hid fun y hy=>?_,by rw [ints_append];exact hol3,hG7,hO7,hB7,hC7,hM7,by omega⟩;rcases List.mem_append.1 hy with hy | hy
       ·exact HLB.out y hy
       ·rw [List.mem_singleton] at hy
        omega
      case measure=>simp [intOf];omega
    ·obtain rfl:v=n:=by omega
     go_wp2_with fail;have hO8:=hO6.wide (Nat.le_refl _) (hi':=wr.heap.size) hsq (Nat.le_refl _);have hol8:=owns_base hol (show gb+1≤bb by omega);clear hol hO6;go_loopw [7,9] (fun lv vv wq=>∃ (u:Nat) (left:List Int) (Al:Option Addr) (cl Lf:Nat) (es:List Ed) (Ae:Option Addr) (ce L:Nat),vv=.int .i64 u∧u+Lf=v∧lv=.slice Al Lf cl∧Hid (left.length=Lf)∧Hid (∀ y∈left,0≤y∧y < v)∧wq.ownsRow (gb+1) 3 1 (.slice Al Lf cl) Lf (ints left)∧Hid (es.length=L)∧L≤5 * x+u∧Hid (IsGr rn v es)∧Box wq gb [.int .i64 rn,.int .i64 v,.slice Ae L ce]∧OG wq (gb+1) wq.heap.size Ae ce es∧Box wq w.heap.size [.int .i64 0,.int .i64 0,.slice none 0 0]∧Cur wq p A bs c∧Mid p (p+1) w wq)
      (fun _ vv _=>v - (intOf vv).toNat)
     case atStart=>exact ⟨0,left,Al,cl,v,es,Ae,ce,L,by go_num,by omega,rfl,HLL,HLB,hol8,HL,by omega,HG,hG6,hO8,hB6,hC6,hM6⟩
     case round =>
      clear hol8 hO8 HLL HLB HL HG hG6 hB6 hC6 hM6 hLm hsq;obtain ⟨u,left,Al,cl,Lf,es,Ae,ce,L,rfl,huv,rfl,HLL,HLB,hol,HL,hLm,HG,hG,hO,hB,hC,hM⟩:=hrel;by_cases hlt:u < v
      ·have hlt2:(u:Int) < (v:Int):=by omega
       have hLf:0 < Lf:=by omega
       go_wp2_with fail;with_reducible refine (l1Below_pos Lf hLf (by omega) p A bs c _ hb hl hC).mono ?_
       rintro e w2 ⟨k,rfl,hk,hC2,m2⟩;have hol2:=owns_mid hol m2 (Or.inl (by omega));have hG2:=hG.mid m2 (Or.inr (by omega));have hO2:=(hO.mid m2 (Or.inl (by omega))).wide (Nat.le_refl _) m2.size (Nat.le_refl _);have hB2:=hB.mid m2 (Or.inr (by omega));have hM2:=hM.trans m2;clear hol hG hO hB hC hM m2;have hmd:=Mid.drew1 w2;replace hol2:=owns_mid hol2 hmd oZl;replace hO2:=hO2.mid hmd oZl;replace hG2:=hG2.mid hmd oZr;replace hB2:=hB2.mid hmd oZr;replace hC2:=hC2.mid hmd (Or.inr rfl);replace hM2:=hM2.trans hmd.zero;replace hO2:OG w2.drew (gb+1) w2.drew.heap.size Ae ce es:=hO2;clear hmd;obtain ⟨b,off,y,hAl,hBx,hy,hcx⟩:=(Rs.of_own hol2).int (k:=k) (by have:=HLL.out;omega);subst hAl;have hyb:=HLB.out y (List.mem_of_getElem? hy);clear hy;have g2:=hG2.cell 2 rfl;go_wp2_with fail;refine wp_region_Z (S:=(fun w'=>w'.cell? ⟨gb,2,none⟩=some (.slice Ae L ce)∧w'.cell? ⟨b,off+k,none⟩=some (.int .i64 y))) [11] (by kernel_rfl) ⟨g2,hcx⟩ ?_;generalize World.drew w2=wz at hol2 hG2 hO2 hB2 hC2 hM2 g2 hcx hBx ⊢;have hS:=And.intro g2 hcx;refine tkZ [11] 0 rfl hS ?_;try simp only [Act.put,zs1,zs2,zs3,zs4,zs5,zs6]
       refine tkZ [11] 1 rfl hS ?_;try simp only [Act.put,zs1,zs2,zs3,zs4,zs5,zs6]
       refine tkZ [11] 2 rfl hS ?_;try simp only [Act.put,zs1,zs2,zs3,zs4,zs5,zs6]
       refine tkZ [11] 3 rfl hS ?_;try simp only [Act.put,zs1,zs2,zs3,zs4,zs5,zs6]
       refine tkZ [11] 4 rfl hS ?_;try simp only [Act.put,zs1,zs2,zs3,zs4,zs5,zs6]
       refine tkZ [11] 5 rfl hS ?_;try simp only [Act.put,zs1,zs2,zs3,zs4,zs5,zs6]
       refine tkZ [11] 6 rfl hS ?_;try simp only [Act.put,zs1,zs2,zs3,zs4,zs5,zs6]
       refine tkZ [11] 7 rfl hS ?_;try simp only [Act.put,zs1,zs2,zs3,zs4,zs5,zs6]
       refine tkZ [11] 8 rfl hS ?_;try simp only [Act.put,zs1,zs2,zs3,zs4,zs5,zs6]
       have hP:=spec_l4Put Ae es ce ⟨(u:Int),(x:Int)+1,y⟩ wz _ _ hO2.rg (by rw [HL.out];omega);have hin:InG rn v ⟨(u:Int),(x:Int)+1,y⟩:=by simp only [InG];omega
       have hgP:=putE_gr HG.out hin (by rw [HL.out];omega);have hPl:=putE_len ⟨(u:Int),(x:Int)+1,y⟩ es;obtain ⟨P,hPe⟩:∃ P,putE ⟨(u:Int),(x:Int)+1,y⟩ es=P:=⟨_,rfl⟩
       rw [hPe,HL.out] at hP hPl;rw [hPe] at hgP;obtain ⟨L2,hL2⟩:∃ l,P.length=l:=⟨_,rfl⟩
       rw [hL2] at hP hPl;have HGP:=Lib.hid hgP;have HL2:=Lib.hid hL2;have hL3:L2≤5 * x+(u+1):=by omega
       have HP:Hid (Calls Tryz.prog 98 #[.slice Ae L ce,.agg #[.int .i64 (u:Int),.int .i64 ((x:Int)+1),.int .i64 y]] wz fun en w'=>∃ A' c',en=.returned (.slice A' L2 c')∧OG w' wz.heap.size w'.heap.size A' c' P∧Mid 0 0 wz w'):=Lib.hid hP;clear hP hin hgP hPl hPe hL2 hS;refine rdZ 9 rfl (fun K hK=>?_)
       (go_simp;(with_reducible refine (HP.out).mono ?_);rintro en wp ⟨A9,c9,rfl,oP,mP⟩;have hG9:=hG2.mid mP oZr;have hcx9:=cell_keep mP hBx oZr hcx;go_wp2_with fail)
       refine hK.out _ _ (Or.inr ⟨hG9.cell 2 rfl,hcx9⟩) (fun _=>?_);clear hK K;try simp only [Act.put,zs1,zs2,zs3,zs4,zs5,zs6]
       have hS9:=And.intro (hG9.cell 2 rfl) hcx9;refine tkZ [11] 10 rfl hS9 ?_;try simp only [Act.put,zs1,zs2,zs3,zs4,zs5,zs6]
       have hol9:=owns_mid hol2 mP oZl;have hB9:=hB2.mid mP oZr;have hC9:=hC2.mid mP (Or.inr rfl);have hM9:=hM2.trans mP.zero;have hzP:=mP.size;have hgz:=hG2.1;clear hol2 hG2 hO2 hB2 hC2 hM2 g2 hcx mP hcx9 hS9 HP hBx;have gl:=hG9.1;have gf:=hG9.2.2;have g2:=hG9.cell 2 rfl;have hst:=Mid.setCell wp (lo:=gb) (hi:=gb+1) (p:=⟨gb,2,none⟩) (.slice A9 L2 c9) (Nat.le_refl _) (Nat.lt_succ_self _);have hG10:=hG9.set 2 (.slice A9 L2 c9) (by simp) rfl;simp only [List.set_cons_succ,List.set_cons_zero] at hG10;have hol10:=owns_mid hol9 hst (Or.inl (Nat.le_refl _));have hO10:=(oP.mid hst (Or.inl (by omega))).wide (lo':=gb+1) (by omega) hst.size (Nat.le_refl _);have hB10:=hB9.mid hst (Or.inl (by omega));have hC10:=hC9.mid hst (Or.inl (by omega));have hM10:=hM9.transNew hst (Or.inl (by omega));clear hst hol9 hB9 hC9 hM9 oP hG9;refine rdZ 11 rfl (fun K hK=>?_);go_simp;refine hK.out _ _ (Or.inl (by simp)) (fun _=>?_);clear hK K;try simp only [Act.put,zs1,zs2,zs3,zs4,zs5,zs6]
       refine wpAnyZ_done (by kernel_rfl) ?_ _;generalize wp.setCell ⟨gb,2,none⟩ (.slice A9 L2 c9)=w11 at hG10 hol10 hO10 hB10 hC10 hM10 ⊢;clear gl gf g2 hzP hgz;have hcl:Lf≤cl:=by
        obtain ⟨A',c',hv,h1,h2⟩:=owns_shape hol10;injection hv with _ _ hc
        omega
       have hrs:=Rs.of_own hol10;have hmd:=Mid.drew1 w11;replace hG10:=hG10.mid hmd oZr;replace hB10:=hB10.mid hmd oZr;replace hO10:OG w11.drew (gb+1) w11.drew.heap.size A9 c9 P:=hO10.mid hmd oZl;replace hC10:=hC10.mid hmd (Or.inr rfl);replace hM10:=hM10.trans hmd.zero;replace hrs:Rs w11.drew w11.drew.heap.size (some ⟨b,off,none⟩) (ints left):=hrs;clear hmd hol10;go_wp2_with fail;refine wp_region_Z (S:=(fun _=>True)) [] (by kernel_rfl) trivial ?_;generalize World.drew w11=wz at hG10 hO10 hB10 hC10 hM10 hrs ⊢;have hgz:gb+1≤wz.heap.size:=hG10.1;have hkc:k≤cl:=by omega
       have hkL:k+1≤Lf:=by omega
       have ek1:IntKind.i64.wrap ((k:Int)+1)=(k:Int)+1:=IntWalk.i64_in _ (by omega);have ek2:(0:Int)≤(k:Int)+1:=by omega
       have ek3:((k:Int)+1).toNat=k+1:=by omega
       have ek4:(k:Int)+1≤(Lf:Int):=by omega
       have hlt1:(ints (left.take k)).length=k * 1:=by have:=HLL.out;rw [ints_len,List.length_take];omega
       have hlt2:(ints (left.drop (k+1))).length=(Lf - (k+1)) * 1:=by have:=HLL.out;rw [ints_len,List.length_drop];omega
       have hrs1:Rs wz wz.heap.size (some ⟨b,off,none⟩) (ints (left.take k)):=by rw [← ints_takeD];exact hrs.take k
       have hrs2:Rs wz wz.heap.size (if cl=k+1 then some ⟨b,off,none⟩ else some ⟨b,off+(k+1),none⟩) (ints (left.drop (k+1))):=by
        have:=hrs.drop (k:=k+1) (n:=Lf) (cap:=cl) 1 (by have:=HLL.out;rw [ints_len];omega) hcl;rw [Nat.mul_one,ints_drop] at this;have e:Option.map (fun x:Addr=>x.add (k+1)) (some (⟨b,off,none⟩:Addr))=some ⟨b,off+(k+1),none⟩:=rfl;rw [e] at this;exact this
       have hmx:0+k≤maxLen:=by unfold maxLen;omega
       have hby:(0+k) * 8≤140737488355328:=by omega
       have hmx2:k+(Lf - (k+1))≤maxLen:=by unfold maxLen;omega
       have hby2:(k+(Lf - (k+1))) * 8≤140737488355328:=by omega
       clear hrs;refine tkZ [] 1 rfl trivial ?_;try simp only [Act.put,zs1,zs2,zs3,zs4,zs5,zs6]
       refine tkZ [] 2 rfl trivial ?_;try simp only [Act.put,zs1,zs2,zs3,zs4,zs5,zs6]
       refine tkZ [] 3 rfl trivial ?_;try simp only [Act.put,zs1,zs2,zs3,zs4,zs5,zs6]
       refine tkZ [] 5 rfl trivial ?_;try simp only [Act.put,zs1,zs2,zs3,zs4,zs5,zs6]
       refine tkZ [] 6 rfl trivial ?_;try simp only [Act.put,zs1,zs2,zs3,zs4,zs5,zs6]
       refine tkZ [] 7 rfl trivial ?_;try simp only [Act.put,zs1,zs2,zs3,zs4,zs5,zs6]
       refine tkZ [] 8 rfl trivial ?_;try simp only [Act.put,zs1,zs2,zs3,zs4,zs5,zs6]
       refine rdZ 0 rfl (fun K hK=>?_);go_simp;refine hK.out _ _ (Or.inr trivial) (fun _=>?_);clear hK K;try simp only [Act.put,zs1,zs2,zs3,zs4,zs5,zs6]
       have hal:=Mid.alloc wz (.cells #[] 3);have e0:=owns_empty wz 3 1;have hrs1a:=hrs1.alloc (Nat.le_refl _) (.cells #[] 3);have hrs2a:=hrs2.alloc (Nat.le_refl _) (.cells #[] 3);have hsa:(wz.alloc (.cells #[] 3)).heap.size=wz.heap.size+1:=by simp
       generalize wz.alloc (.cells #[] 3)=wa at hal e0 hrs1a hrs2a hsa ⊢;have hsa2:wz.heap.size≤wa.heap.size:=by omega
       refine rdZ 4 rfl (fun K hK=>?_)
       (refine step_cat (by rfl) (.tmp 55) (.tmp 58) 34 (by rfl) wz.heap.size 3 (.int .i64 0) 1 8 undSI infoI rfl (by decide) _ 0 [] (by rfl) e0 (some ⟨b,off,none⟩) k cl _ (ints (left.take k)) (by rfl) hrs1a hlt1 (one_of_ints _) hmx hby hsa2 ?_;intro v4 w4 ho4 hgr4 hat4;obtain ⟨A4,c4,rfl, -, -⟩:=owns_shape ho4)
       refine hK.out _ _ (Or.inr trivial) (fun _=>?_);clear hK K;try simp only [Act.put,zs1,zs2,zs3,zs4,zs5,zs6]
       have m4:Mid wz.heap.size wa.heap.size wa w4:=Mid.of_grownRow e0 hgr4;have hm4:Mid 0 0 wz w4:=hal.transNew m4 (Or.inl (Nat.le_refl _));have hrs2b:Rs w4 wz.heap.size _ (ints (left.drop (k+1))):=hrs2a.keep fun q hq=>World.cell?_of_block (m4.block _ (by omega) (by omega));rw [Nat.zero_add,List.nil_append] at ho4;try rw [Nat.zero_add]
       clear hgr4 hat4 e0 hrs1a hrs2a hrs1 hrs2 hal m4;refine rdZ 9 rfl (fun K hK=>?_)
       (refine step_cat (by rfl) (.tmp 59) (.tmp 63) 34 (by rfl) wz.heap.size 3 (.int .i64 0) 1 8 undSI infoI rfl (by decide) (.slice A4 k c4) k _ (by rfl) ho4 _ (Lf - (k+1)) _ _ (ints (left.drop (k+1))) (by rfl) hrs2b hlt2 (one_of_ints _) hmx2 hby2 hm4.size ?_;intro v9 w9 ho9 hgr9 hat9;obtain ⟨A19,c19,rfl, -, -⟩:=owns_shape ho9)
       refine hK.out _ _ (Or.inr trivial) (fun _=>?_);clear hK K;try simp only [Act.put,zs1,zs2,zs3,zs4,zs5,zs6]
       have m9:Mid wz.heap.size w4.heap.size w4 w9:=Mid.of_grownRow ho4 hgr9;have hm9:Mid 0 0 wz w9:=hm4.transNew m9 (Or.inl (Nat.le_refl _));clear hgr9 hat9 hrs2b ho4 m9 hm4;refine tkZ [] 10 rfl trivial ?_;try simp only [Act.put,zs1,zs2,zs3,zs4,zs5,zs6]
       refine wpAnyZ_done (by kernel_rfl) ?_ _;have hbl9:=ho9;go_wp2_with fail;go_roundw
       case rel =>
        have hle:=HLL.out;have hdl:=dropAt_len hle hk;refine ⟨u+1,left.take k++left.drop (k+1),A19,c19,k+(Lf - (k+1)),P,A9,c9,L2,by go_num,by omega,rfl,Lib.hid (by omega),Lib.hid fun y hy=>HLB.out y (dropAt_mem hy),?_,HL2,by omega,HGP,hG10.mid hm9 oZr,(hO10.mid hm9 oZl).wide (Nat.le_refl _) hm9.size (Nat.le_refl _),hB10.mid hm9 oZr,hC10.mid hm9 (Or.inr rfl),hM10.trans hm9.zero⟩;rw [ints_append];exact owns_base ho9 hgz
       case measure=>simp [intOf];omega
      ·obtain rfl:u=v:=by omega
       go_wp2_with fail;go_roundw
       case rel=>exact ⟨x+1,es,Ae,ce,L,by go_num,by omega,HL,by omega,HG,hG,hO,hB,hC,hM⟩
       case measure=>simp [intOf];omega
  ·have hle:¬ ((x:Int)+1≤(rn:Int)):=by omega
   have hF:=spec_CoreGraph rn n Ae es ce wr _ _ hO.rg HG.out;have hD:=DrG.of_gr (coreA_gr (r:=(rn:Int)) (g:=((n:Int),es)) HG.out);obtain ⟨fs,hfs⟩:∃ y,(coreA (rn:Int) ((n:Int),es)).1=y:=⟨_,rfl⟩
   obtain ⟨fe,hfe⟩:∃ y,(coreA (rn:Int) ((n:Int),es)).2=y:=⟨_,rfl⟩
   rw [hfs,hfe] at hF hD;obtain ⟨L2,hL2⟩:∃ l,fe.length=l:=⟨_,rfl⟩
   rw [hL2,HL.out] at hF;have HL2:=Lib.hid hL2;have HD:=Lib.hid hD;have HF:Hid (Calls Tryz.prog 91 #[.agg #[.int .i64 rn,.int .i64 n,.slice Ae L ce]] wr fun e w'=>∃ A1 c1,e=.returned (.agg #[.int .i64 rn,.int .i64 fs,.slice A1 L2 c1])∧OG w' wr.heap.size w'.heap.size A1 c1 fe∧Mid 0 0 wr w'):=Lib.hid hF;clear hF hD hfs hfe hL2;go_wp2_with fail;with_reducible refine (HF.out).mono ?_
   rintro e w9 ⟨A1,c1,rfl,hO9,m9⟩;have B2:=hB.mid m9 oZr;have hC9:=hC.mid m9 (Or.inr rfl);have hM9:=hM.trans m9.zero;have hs9:=m9.size;clear hB hC hM hO hG m9 HF g0 g1 g2;have q0:=B2.cell 0 rfl;have q1:=B2.cell 1 rfl;have q2:=B2.cell 2 rfl;have qf:=B2.2.2;have ql:=B2.1;have hst:=((Mid.setCell w9 (lo:=w.heap.size) (hi:=w.heap.size+1) (p:=⟨w.heap.size,0,none⟩) (.int .i64 (rn:Int)) (Nat.le_refl _) (Nat.lt_succ_self _)).trans (Mid.setCell _ (lo:=w.heap.size) (hi:=w.heap.size+1) (p:=⟨w.heap.size,1,none⟩) (.int .i64 fs) (Nat.le_refl _) (Nat.lt_succ_self _))).trans (Mid.setCell _ (lo:=w.heap.size) (hi:=w.heap.size+1) (p:=⟨w.heap.size,2,none⟩) (.slice A1 L2 c1) (Nat.le_refl _) (Nat.lt_succ_self _));have O9:=Lib.hid ((hO9.mid hst (Or.inl (by omega))).wide (lo':=w.heap.size) (by omega) (Nat.le_trans hO9.size hst.size) (Nat.le_refl _));have C9:=Lib.hid (hC9.mid hst (Or.inl hpw));have M9:=Lib.hid (hM9.transNew hst (Or.inl (Nat.le_refl _)));clear hst hO9 hC9 hM9;go_wp2_with fail;refine bodyPost_ret (v:=.agg #[.int .i64 (rn:Int),.int .i64 fs,.slice A1 L2 c1]) (by simp [results,Tryz.results185,go_sem,q0,q1,q2,qf]) rfl ⟨(rn:Int),fs,A1,c1,fe,?_,HD.out,O9.out,C9.out,M9.out⟩;rw [HL2.out]
theorem l12Any_any (p:Nat) (A:Option Addr) (bs:List Int) (c:Nat) (w:World) (hb:OkB bs) (hl:bs.length≤1048576) (h:Cur w p A bs c) :
  Calls Tryz.prog 111 #[.pointer (some ⟨p,0,none⟩)] w fun e w'=>∃ r s A' c' es,e=.returned (graV r s A' (List.length es) c')∧DrG r s es∧OG w' w.heap.size w'.heap.size A' c' es∧Cur w' p A bs c∧Mid p (p+1) w w':=by
 have hpw:=h.lt;have hal:=Mid.alloc w (.cells #[.int .i64 0,.int .i64 0,.slice none 0 0] 26);have B2:=Box.new w #[.int .i64 0,.int .i64 0,.slice none 0 0] 26;have h0:=h.mid hal (Or.inr rfl);go_enter Tryz.func111,Tryz.ntmps111
 go_wp2_with fail;generalize (w.alloc (.cells #[.int .i64 0,.int .i64 0,.slice none 0 0] 26))=w1 at B2 h0 hal ⊢;have hs1:w.heap.size < w1.heap.size:=B2.1;with_reducible refine (l1OnceI 2 (by decide) (by decide) p A bs c _ hb hl h0).mono ?_
 rintro e w2 ⟨q,rfl,h2,m2⟩;have hs2:=m2.size;replace B2:=B2.mid m2 (Or.inr (by omega));replace hal:=hal.zero.trans m2;clear h0 m2;cases q
 ·go_wp2_with fail
  with_reducible refine (l9Any_any p A bs c _ hb hl h2).mono ?_
  rintro e w3 ⟨r,s,Ae,ce,es,rfl,hg,hO,hC,m3⟩;have hs3:=m3.size;replace B2:=B2.mid m3 (Or.inr (by omega));have hM:=hal.trans m3;have HG:=Lib.hid hg;obtain ⟨L,hL⟩:∃ l,es.length=l:=⟨_,rfl⟩
  have HL:=Lib.hid hL;rw [hL];clear hg hL hal h2 m3;have q0:=B2.cell 0 rfl;have q1:=B2.cell 1 rfl;have q2:=B2.cell 2 rfl;have qf:=B2.2.2;have ql:=B2.1;have hst:=((Mid.setCell w3 (lo:=w.heap.size) (hi:=w.heap.size+1) (p:=⟨w.heap.size,0,none⟩) (.int .i64 r) (Nat.le_refl _) (Nat.lt_succ_self _)).trans (Mid.setCell _ (lo:=w.heap.size) (hi:=w.heap.size+1) (p:=⟨w.heap.size,1,none⟩) (.int .i64 s) (Nat.le_refl _) (Nat.lt_succ_self _))).trans (Mid.setCell _ (lo:=w.heap.size) (hi:=w.heap.size+1) (p:=⟨w.heap.size,2,none⟩) (.slice Ae L ce) (Nat.le_refl _) (Nat.lt_succ_self _));have O9:=Lib.hid ((hO.mid hst (Or.inl (by omega))).wide (lo':=w.heap.size) (by omega) (Nat.le_trans hO.size hst.size) (Nat.le_refl _));have C9:=Lib.hid (hC.mid hst (Or.inl hpw));have M9:=Lib.hid (hM.transNew hst (Or.inl (Nat.le_refl _)));clear hst hO hC hM;go_wp2_with fail;refine bodyPost_ret (v:=.agg #[.int .i64 r,.int .i64 s,.slice Ae L ce]) (by simp [results,Tryz.results111,go_sem,q0,q1,q2,qf]) rfl ⟨r,s,Ae,ce,es,?_,HG.out,O9.out,C9.out,M9.out⟩;rw [HL.out]
 ·go_wp2_with fail
  with_reducible refine (l12Finite_any p A bs c _ hb hl h2).mono ?_
  rintro e w3 ⟨r,s,Ae,ce,es,rfl,hg,hO,hC,m3⟩;have hs3:=m3.size;replace B2:=B2.mid m3 (Or.inr (by omega));have hM:=hal.trans m3;have HG:=Lib.hid hg;obtain ⟨L,hL⟩:∃ l,es.length=l:=⟨_,rfl⟩
  have HL:=Lib.hid hL;rw [hL];clear hg hL hal h2 m3;have q0:=B2.cell 0 rfl;have q1:=B2.cell 1 rfl;have q2:=B2.cell 2 rfl;have qf:=B2.2.2;have ql:=B2.1;have hst:=((Mid.setCell w3 (lo:=w.heap.size) (hi:=w.heap.size+1) (p:=⟨w.heap.size,0,none⟩) (.int .i64 r) (Nat.le_refl _) (Nat.lt_succ_self _)).trans (Mid.setCell _ (lo:=w.heap.size) (hi:=w.heap.size+1) (p:=⟨w.heap.size,1,none⟩) (.int .i64 s) (Nat.le_refl _) (Nat.lt_succ_self _))).trans (Mid.setCell _ (lo:=w.heap.size) (hi:=w.heap.size+1) (p:=⟨w.heap.size,2,none⟩) (.slice Ae L ce) (Nat.le_refl _) (Nat.lt_succ_self _));have O9:=Lib.hid ((hO.mid hst (Or.inl (by omega))).wide (lo':=w.heap.size) (by omega) (Nat.le_trans hO.size hst.size) (Nat.le_refl _));have C9:=Lib.hid (hC.mid hst (Or.inl hpw));have M9:=Lib.hid (hM.transNew hst (Or.inl (Nat.le_refl _)));clear hst hO hC hM;go_wp2_with fail;refine bodyPost_ret (v:=.agg #[.int .i64 r,.int .i64 s,.slice Ae L ce]) (by simp [results,Tryz.results111,go_sem,q0,q1,q2,qf]) rfl ⟨r,s,Ae,ce,es,?_,HG.out,O9.out,C9.out,M9.out⟩;rw [HL.out]
end
end Go.Proofs.YthampgpcajmopaaGreat
