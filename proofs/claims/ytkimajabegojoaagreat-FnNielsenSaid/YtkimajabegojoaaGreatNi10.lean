/- Contracts and lemmas of this seat, many texts in one: see the words ahead of each. No condition beyond those typed in each lemma. -/
import Derived.Test.YtkimajabegojoaaGreatNi9
import Derived.Test.YtkimajabegojoaaGreatNi2
import Derived.ChangeAlike
import Derived.Test.YtkimajabegojoaaGreatNi3
import Derived.Test.YtkimajabegojoaaGreatNi4
import Derived.Test.YtkimajabegojoaaGreatNi7
import Derived.Test.YtkimajabegojoaaGreatNi1
import Derived.Test.YtkimajabegojoaaGreatNi6
import Derived.Test.YtkimajabegojoaaGreatNi5

namespace Go.Proofs.YtkimajabegojoaaGreat
set_option linter.unusedVariables false
set_option linter.unusedSimpArgs false
set_option maxHeartbeats 40000000
set_option maxRecDepth 100000
section
open Go.RowKit
end
section
open Go.RowKit
theorem spec_l7New (p1 p2 v:Int) (w:World) (h0:p1 < p2) (h1:0≤v) (h2:v < 1000000) :
  Calls Tryz.prog 275 #[.int .i64 v,.agg #[.int .i64 p1,.int .i64 p2]] w fun e w'=>e=.returned (.int .i64 (foldV (p1,p2) v))∧Mid 0 0 w w':=by
 have hm0:Mid 0 0 w (w.alloc (.cells #[.int .i64 p1,.int .i64 p2] 179)):=Mid.alloc _ _;have b0:=Box.new w #[.int .i64 p1,.int .i64 p2] 179;go_enter Tryz.func275,Tryz.ntmps275
 have q0:=b0.cell 0 rfl;have q1:=b0.cell 1 rfl;rcases (by omega:v=p2 ∨ p2 < v ∨ v < p2) with h | h | h
 ·subst h
  have d1:(v == v)=true:=by simp
  have d2:decide (v < p1)=false:=by simp;omega
  have hf:foldV (p1,v) v=p1:=by simp [foldV]
  have HF:=Lib.hid hf;clear hf;go_wp2_with fail;go_ret;exact ⟨by rw [HF.out];rfl,hm0⟩
 ·have d1:(v == p2)=false:=by simp only [beq_eq_false_iff_ne];omega
  have hf:foldV (p1,p2) v=v - 1:=by unfold foldV;rw [if_neg (by omega),if_pos (by simpa using h)]
  have HF:=Lib.hid hf;clear hf;go_wp2_with fail;go_ret;exact ⟨by rw [HF.out];rfl,hm0⟩
 ·have d1:(v == p2)=false:=by simp only [beq_eq_false_iff_ne];omega
  have hn:¬ p2 < v:=by omega
  have hf:foldV (p1,p2) v=v:=by unfold foldV;rw [if_neg (by omega),if_neg (by simpa using hn)]
  have HF:=Lib.hid hf;clear hf;go_wp2_with fail;go_ret;exact ⟨by rw [HF.out];rfl,hm0⟩
end
section
open Go.RowKit
theorem spec_MergeVertices (r s:Int) (A:Option Addr) (es:List Ed) (c:Nat) (p1 p2:Int) (w:World) (lo hi:Nat) (hr:RG w lo hi A es) (hg:IsGr r s es) (h0:0≤p1) (h1:p1 < p2) (h2:p2 < s) :
  Calls Tryz.prog 258 #[graV r s A es.length c,.agg #[.int .i64 p1,.int .i64 p2]] w fun e w'=>∃ A1 c1,e=.returned (.tuple #[graV r (s - 1) A1 (mergeE (p1,p2) es).length c1,.bool true])∧OG w' w.heap.size w'.heap.size A1 c1 (mergeE (p1,p2) es)∧Mid 0 0 w w':=by
 have hl:=hg.len;have hs40:=hg.size;have HG:=Lib.hid hg;have hm0:Mid 0 0 w (((w.alloc (.cells #[.int .i64 r,.int .i64 s,.slice A es.length c] 35)).alloc (.cells #[.int .i64 p1,.int .i64 p2] 179)).alloc (.cells #[.int .i64 0,.int .i64 0,.slice none 0 0] 35)):=((Mid.alloc _ _).trans (Mid.alloc _ _)).trans (Mid.alloc _ _);have b0:=((Box.new w #[.int .i64 r,.int .i64 s,.slice A es.length c] 35).mid (Mid.alloc _ (.cells #[.int .i64 p1,.int .i64 p2] 179)) oZr).mid (Mid.alloc _ (.cells #[.int .i64 0,.int .i64 0,.slice none 0 0] 35)) oZr;have bf:=(Box.new (w.alloc (.cells #[.int .i64 r,.int .i64 s,.slice A es.length c] 35)) #[.int .i64 p1,.int .i64 p2] 179).mid (Mid.alloc _ (.cells #[.int .i64 0,.int .i64 0,.slice none 0 0] 35)) oZr;have b2:=Box.new ((w.alloc (.cells #[.int .i64 r,.int .i64 s,.slice A es.length c] 35)).alloc (.cells #[.int .i64 p1,.int .i64 p2] 179)) #[.int .i64 0,.int .i64 0,.slice none 0 0] 35;simp only [World.size_alloc,Nat.add_assoc,Nat.reduceAdd] at bf b2;have d1:decide (p1 < 0)=false:=by simp;omega
 have d2:decide (p2≤p1)=false:=by simp;omega
 have d3:decide (s≤p2)=false:=by simp;omega
 clear hg;go_enter Tryz.func258,Tryz.ntmps258
 go_wp2_with fail;generalize hw1:(((w.alloc (.cells #[.int .i64 r,.int .i64 s,.slice A es.length c] 35)).alloc (.cells #[.int .i64 p1,.int .i64 p2] 179)).alloc (.cells #[.int .i64 0,.int .i64 0,.slice none 0 0] 35))=w1 at hm0 b0 bf b2 ⊢;clear hw1;with_reducible refine (spec_IsGraph r s A es c _ _ _ (hr.mid hm0 oZl).rv (by omega) true (iff_of_true rfl HG.out)).mono ?_
 rintro en w4 ⟨rfl,hm4⟩;replace b0:=b0.mid hm4 oZr;replace bf:=bf.mid hm4 oZr;replace b2:=b2.mid hm4 oZr;replace hm0:=hm0.trans hm4;have hs4:w.heap.size+3≤w4.heap.size:=b2.1;have q0:=b0.cell 0 rfl;have q1:=b0.cell 1 rfl;have q2:=b0.cell 2 rfl;have k0:=bf.cell 0 rfl;have k1:=bf.cell 1 rfl;have hal:=Mid.alloc w4 (.cells #[.int .i64 r,.int .i64 (s - 1),.slice none 0 0] 35);have Y3:=Box.new w4 #[.int .i64 r,.int .i64 (s - 1),.slice none 0 0] 35;replace b0:=b0.mid hal oZr;replace bf:=bf.mid hal oZr;replace b2:=b2.mid hal oZr;replace hm0:=hm0.trans hal;go_wp2_with fail;clear q0 q1 q2 k0 k1;have hs5:(w4.alloc (.cells #[.int .i64 r,.int .i64 (s - 1),.slice none 0 0] 35)).heap.size=w4.heap.size+1:=by simp
 generalize w4.alloc (.cells #[.int .i64 r,.int .i64 (s - 1),.slice none 0 0] 35)=w5 at Y3 b0 bf b2 hm0 hs5 ⊢;obtain ⟨G,hG⟩:∃ G,w4.heap.size=G:=⟨_,rfl⟩
 rw [hG] at Y3 hs4 hs5 ⊢;clear hal hm4 hG;go_loopw [7] (fun i wr=>∃ (q:Nat) (A2:Option Addr) (c2 lo2 hi2:Nat) (xs:List Ed),q≤es.length∧i=.int .i64 q∧Hid (xs=putAll [] ((es.take q).map (foldE (p1,p2)))) ∧
   OG wr lo2 hi2 A2 c2 xs∧G+1≤lo2 ∧
   Box wr w.heap.size [.int .i64 r,.int .i64 s,.slice A es.length c]∧Box wr (w.heap.size+1) [.int .i64 p1,.int .i64 p2]∧Box wr (w.heap.size+2) [.int .i64 0,.int .i64 0,.slice none 0 0]∧Box wr G [.int .i64 r,.int .i64 (s - 1),.slice A2 xs.length c2]∧Mid 0 0 w wr) (fun i _=>es.length - (intOf i).toNat)
 case atStart=>exact ⟨0,none,0,G+1,_,[],Nat.zero_le _,rfl,Lib.hid rfl,⟨Nat.le_of_eq hs5.symm,⟨rfl,.inl ⟨rfl,rfl⟩⟩,fun g hg=>by simp [Value.ownBlock] at hg⟩,Nat.le_refl _,b0,bf,b2,Y3,hm0⟩
 case round =>
  clear b0 bf b2 Y3 hm0 hs5;obtain ⟨q,A2,c2,lo2,hi2,xs,hq,rfl,HX,hown,hlo2,b0,bf,b2,Y3,hm⟩:=hrel;have hxl:xs.length≤120:=by
   have h1:=putAll_len [] ((es.take q).map (foldE (p1,p2)));rw [← HX.out] at h1;simp at h1;omega
  by_cases hlt:q < es.length
  ·obtain ⟨B,off,e,rfl, -,hbh,he,e0,e1,e2⟩:=(hr.mid hm oZl).ed hlt
   have hin:=HG.out.all e (List.mem_of_getElem? he);have htk:(es.take (q+1)).map (foldE (p1,p2))=(es.take q).map (foldE (p1,p2))++[foldE (p1,p2) e]:=by
    rw [take_snoc he,List.map_append]
    rfl
   obtain ⟨i1,i2,i3,i4,i5,i6⟩:=hin;have hq0:(0:Int)≤(q:Int):=by omega
   have hq1:(q:Int) < (es.length:Int):=by omega
   have hal:=Mid.alloc wr (.cells #[.int .i64 e.a,.int .i64 e.l,.int .i64 e.b] 110);have ZE:=Box.new wr #[.int .i64 e.a,.int .i64 e.l,.int .i64 e.b] 110;have hGr:G < wr.heap.size:=Y3.1;have u0:=b0.cell 0 rfl;have u1:=b0.cell 1 rfl;have u2:=b0.cell 2 rfl;replace b0:=b0.mid hal oZr;replace bf:=bf.mid hal oZr;replace b2:=b2.mid hal oZr;replace Y3:=Y3.mid hal oZr;replace hown:=hown.mid hal oZl;replace hm:=hm.trans hal;have HTK:=Lib.hid htk;clear he htk;go_wp2_with fail;clear e0 e1 e2 u0 u1 u2;generalize hwx:wr.alloc (.cells #[.int .i64 e.a,.int .i64 e.l,.int .i64 e.b] 110)=wx at ZE b0 bf b2 Y3 hown hm ⊢;generalize hgE:wr.heap.size=E at ZE hGr ⊢;clear hgE hwx hal;have hmd:=Mid.drew1 wx;replace b0:=b0.mid hmd oZr;replace bf:=bf.mid hmd oZr;replace b2:=b2.mid hmd oZr;replace Y3:=Y3.mid hmd oZr;replace ZE:=ZE.mid hmd oZr;replace hown:=hown.mid hmd oZl;replace hm:=hm.trans hmd;have f0:=ZE.cell 0 rfl;have f1:=ZE.cell 1 rfl;have f2:=ZE.cell 2 rfl;have g2:=Y3.cell 2 rfl;have k0:=bf.cell 0 rfl;have k1:=bf.cell 1 rfl;obtain ⟨x,hx⟩:∃ x,foldV (p1,p2) e.a=x:=⟨_,rfl⟩
   obtain ⟨y,hy⟩:∃ y,foldV (p1,p2) e.b=y:=⟨_,rfl⟩
   have HFE:Hid (foldE (p1,p2) e=⟨x,e.l,y⟩):=Lib.hid (by simp [foldE,hx,hy]);clear hmd;refine wp_region_T (S:=(fun w'=>w'.cell? ⟨E,0,none⟩=some (.int .i64 e.a)∧w'.cell? ⟨E,1,none⟩=some (.int .i64 e.l)∧w'.cell? ⟨E,2,none⟩=some (.int .i64 e.b)∧w'.cell? ⟨G,2,none⟩=some (.slice A2 xs.length c2)∧w'.cell? ⟨w.heap.size+1,0,none⟩=some (.int .i64 p1)∧w'.cell? ⟨w.heap.size+1,1,none⟩=some (.int .i64 p2))) 15 (by kernel_rfl) ⟨f0,f1,f2,g2,k0,k1⟩ ?_;generalize World.drew wx=wz at b0 bf b2 Y3 ZE hown hm f0 f1 f2 g2 k0 k1 ⊢;have hS:wz.cell? ⟨E,0,none⟩=some (.int .i64 e.a)∧wz.cell? ⟨E,1,none⟩=some (.int .i64 e.l)∧wz.cell? ⟨E,2,none⟩=some (.int .i64 e.b)∧wz.cell? ⟨G,2,none⟩=some (.slice A2 xs.length c2)∧wz.cell? ⟨w.heap.size+1,0,none⟩=some (.int .i64 p1)∧wz.cell? ⟨w.heap.size+1,1,none⟩=some (.int .i64 p2):=⟨f0,f1,f2,g2,k0,k1⟩
   have hP1:=spec_l7New p1 p2 e.a wz h1 i1 (by omega);rw [hx] at hP1;refine tkT 0 rfl hS ?_;try simp only [Act.put,zs1,zs2,zs3,zs4,zs5,zs6]
   refine tkT 1 rfl hS ?_;try simp only [Act.put,zs1,zs2,zs3,zs4,zs5,zs6]
   refine tkT 2 rfl hS ?_;try simp only [Act.put,zs1,zs2,zs3,zs4,zs5,zs6]
   refine tkT 3 rfl hS ?_;try simp only [Act.put,zs1,zs2,zs3,zs4,zs5,zs6]
   refine tkT 4 rfl hS ?_;try simp only [Act.put,zs1,zs2,zs3,zs4,zs5,zs6]
   refine tkT 6 rfl hS ?_;try simp only [Act.put,zs1,zs2,zs3,zs4,zs5,zs6]
   refine tkT 7 rfl hS ?_;try simp only [Act.put,zs1,zs2,zs3,zs4,zs5,zs6]
   refine tkT 8 rfl hS ?_;try simp only [Act.put,zs1,zs2,zs3,zs4,zs5,zs6]
   refine tkT 9 rfl hS ?_;try simp only [Act.put,zs1,zs2,zs3,zs4,zs5,zs6]
   refine tkT 10 rfl hS ?_;try simp only [Act.put,zs1,zs2,zs3,zs4,zs5,zs6]
   refine rdT 5 rfl (fun K hK=>?_)
   (go_simp;refine hP1.mono ?_;rintro _ w6 ⟨rfl,hc6⟩;have b06:=b0.mid hc6 oZr;have bf6:=bf.mid hc6 oZr;have b26:=b2.mid hc6 oZr;have Y36:=Y3.mid hc6 oZr;have ZE6:=ZE.mid hc6 oZr;have hown6:=OG.mid hown hc6 oZl;have hm6:=hm.trans hc6;have hS6:w6.cell? ⟨E,0,none⟩=some (.int .i64 e.a)∧w6.cell? ⟨E,1,none⟩=some (.int .i64 e.l)∧w6.cell? ⟨E,2,none⟩=some (.int .i64 e.b)∧w6.cell? ⟨G,2,none⟩=some (.slice A2 xs.length c2)∧w6.cell? ⟨w.heap.size+1,0,none⟩=some (.int .i64 p1)∧w6.cell? ⟨w.heap.size+1,1,none⟩=some (.int .i64 p2):=⟨ZE6.cell 0 rfl,ZE6.cell 1 rfl,ZE6.cell 2 rfl,Y36.cell 2 rfl,bf6.cell 0 rfl,bf6.cell 1 rfl⟩;go_wp2_with fail)
   refine hK.out _ _ (Or.inr hS6) (fun _=>?_);clear hK K;try simp only [Act.put,zs1,zs2,zs3,zs4,zs5,zs6]
   clear hS hP1 b0 bf b2 Y3 ZE hown hm f0 f1 f2 g2 k0 k1 hc6;have hP2:=spec_l7New p1 p2 e.b w6 h1 i3 (by omega);rw [hy] at hP2;clear hx hy;refine rdT 11 rfl (fun K hK=>?_)
   (go_simp;refine hP2.mono ?_;rintro _ w7 ⟨rfl,hc7⟩;have b07:=b06.mid hc7 oZr;have bf7:=bf6.mid hc7 oZr;have b27:=b26.mid hc7 oZr;have Y37:=Y36.mid hc7 oZr;have ZE7:=ZE6.mid hc7 oZr;have hown7:=OG.mid hown6 hc7 oZl;have hm7:=hm6.trans hc7;have hS7:w7.cell? ⟨E,0,none⟩=some (.int .i64 e.a)∧w7.cell? ⟨E,1,none⟩=some (.int .i64 e.l)∧w7.cell? ⟨E,2,none⟩=some (.int .i64 e.b)∧w7.cell? ⟨G,2,none⟩=some (.slice A2 xs.length c2)∧w7.cell? ⟨w.heap.size+1,0,none⟩=some (.int .i64 p1)∧w7.cell? ⟨w.heap.size+1,1,none⟩=some (.int .i64 p2):=⟨ZE7.cell 0 rfl,ZE7.cell 1 rfl,ZE7.cell 2 rfl,Y37.cell 2 rfl,bf7.cell 0 rfl,bf7.cell 1 rfl⟩;go_wp2_with fail)
   refine hK.out _ _ (Or.inr hS7) (fun _=>?_);clear hK K;try simp only [Act.put,zs1,zs2,zs3,zs4,zs5,zs6]
   clear hS6 hP2 b06 bf6 b26 Y36 ZE6 hown6 hm6 hc7;refine tkT 12 rfl hS7 ?_;try simp only [Act.put,zs1,zs2,zs3,zs4,zs5,zs6]
   have hQ:=spec_l4Put A2 xs c2 ⟨x,e.l,y⟩ w7 _ _ hown7.rg (by omega);refine rdT 13 rfl (fun K hK=>?_)
   (go_simp;refine hQ.mono ?_;rintro en w9 ⟨A9,c9,rfl,ho9,hc9⟩;have b09:=b07.mid hc9 oZr;have bf9:=bf7.mid hc9 oZr;have b29:=b27.mid hc9 oZr;have Y39:=Y37.mid hc9 oZr;have ZE9:=ZE7.mid hc9 oZr;have hown9:=OG.mid hown7 hc9 oZl;have hm9:=hm7.trans hc9;go_wp2_with fail)
   refine hK.out _ _ (Or.inr ⟨ZE9.cell 0 rfl,ZE9.cell 1 rfl,ZE9.cell 2 rfl,Y39.cell 2 rfl,bf9.cell 0 rfl,bf9.cell 1 rfl⟩) (fun _=>?_);clear hK K;try simp only [Act.put,zs1,zs2,zs3,zs4,zs5,zs6]
   have hS9:w9.cell? ⟨E,0,none⟩=some (.int .i64 e.a)∧w9.cell? ⟨E,1,none⟩=some (.int .i64 e.l)∧w9.cell? ⟨E,2,none⟩=some (.int .i64 e.b)∧w9.cell? ⟨G,2,none⟩=some (.slice A2 xs.length c2)∧w9.cell? ⟨w.heap.size+1,0,none⟩=some (.int .i64 p1)∧w9.cell? ⟨w.heap.size+1,1,none⟩=some (.int .i64 p2):=⟨ZE9.cell 0 rfl,ZE9.cell 1 rfl,ZE9.cell 2 rfl,Y39.cell 2 rfl,bf9.cell 0 rfl,bf9.cell 1 rfl⟩
   have hr2:=Y39.cell 2 rfl;have hrf:=Y39.2.2;have hG7:G+1≤w7.heap.size:=Y37.1;clear hS7 b07 bf7 b27 Y37 ZE7 hown7 hm7 hc9 hQ;refine tkT 14 rfl hS9 ?_;try simp only [Act.put,zs1,zs2,zs3,zs4,zs5,zs6]
   refine rdT 15 rfl (fun K hK=>?_)
   (go_simp)
   refine hK.out _ _ (Or.inl rfl) (fun _=>?_);clear hK K;try simp only [Act.put,zs1,zs2,zs3,zs4,zs5,zs6]
   refine wpAnyT_done (by kernel_rfl) ?_ _;go_wp2_with fail;go_roundw
   case rel =>
    have hst:=Mid.setAt w9 G 2 (.slice A9 (putE ⟨x,e.l,y⟩ xs).length c9);refine ⟨q+1,A9,c9,_,_,_,by omega,by go_num,Lib.hid ?_,ho9.mid hst (Or.inl hG7),hG7,b09.mid hst (Or.inl (by omega)),bf9.mid hst (Or.inl (by omega)),b29.mid hst (Or.inl (by omega)),Y39.set 2 _ (by simp) rfl,hm9.storeNew (p:=⟨G,2,none⟩) (by show w.heap.size≤G;omega) _⟩;rw [HTK.out,putAll_snoc,← HX.out,HFE.out]
   case measure=>simp [intOf];omega
  ·obtain rfl:q=es.length:=by omega
   have hxx:=HX.out;rw [List.take_length] at hxx;have HXX:=Lib.hid (show xs=mergeE (p1,p2) es from hxx);clear hxx;have u0:=b0.cell 0 rfl;have u1:=b0.cell 1 rfl;have u2:=b0.cell 2 rfl;have a0:=b2.cell 0 rfl;have a1:=b2.cell 1 rfl;have a2:=b2.cell 2 rfl;have x0:=Y3.cell 0 rfl;have x1:=Y3.cell 1 rfl;have x2:=Y3.cell 2 rfl;have af:=b2.2.2;have xf:=Y3.2.2;have hcl:¬ w.heap.size+2=G:=by omega
   have hcl2:¬ G=w.heap.size+2:=by omega
   go_wp2_with fail;have hcl3:(w.heap.size+2 == G)=false:=by simpa using hcl
   refine bodyPost_ret (v:=.tuple #[.agg #[.int .i64 r,.int .i64 (s - 1),.slice A2 xs.length c2],.bool true]) (by simp [results,Tryz.results258,go_sem,a0,a1,a2,x0,x1,x2,af,xf,hcl]) rfl ⟨A2,c2,by rw [HXX.out],?_,?_⟩
   ·rw [← HXX.out]
    refine OG.wide (OG.mid hown (a:=w.heap.size) (b:=G+1) ?_ (Or.inl hlo2)) (by omega) (by have:=hown.size;simpa using this) (Nat.le_refl _);repeat (first | exact Mid.refl _ _ _ | refine Mid.stored ?_ _ (by simp;try omega) (by simp;try omega))
   ·repeat (first | exact hm | refine Mid.storeNew ?_ (by simp;try omega) _)
end
section
open Go.RowKit
theorem spec_l7Folds (r s:Int) (A:Option Addr) (es:List Ed) (c:Nat) (w:World) (lo hi:Nat) (hr:RG w lo hi A es) (hl:es.length≤120) :
  Calls Tryz.prog 274 #[graV r s A es.length c] w fun e w'=>∃ A1 c1,e=.returned (.slice A1 (folds es).length c1)∧RV w' 0 w'.heap.size A1 (ints (fdI (folds es)))∧Mid 0 0 w w':=by
 have hm0:Mid 0 0 w ((w.alloc (.cells #[.int .i64 r,.int .i64 s,.slice A es.length c] 35)).alloc (.cells #[] 179)):=(Mid.alloc _ _).trans (Mid.alloc _ _);have b0:=(Box.new w #[.int .i64 r,.int .i64 s,.slice A es.length c] 35).mid (Mid.alloc _ (.cells #[] 179)) oZr;have O0:=owns_empty (w.alloc (.cells #[.int .i64 r,.int .i64 s,.slice A es.length c] 35)) 179 2;rw [World.size_alloc] at O0;go_enter Tryz.func274,Tryz.ntmps274
 go_wp2_with fail;go_loopw [3,4] (fun out iv wr=>∃ (k:Nat) (A1:Option Addr) (n1 c1:Nat),k≤es.length∧iv=.int .i64 k∧out=.slice A1 n1 c1∧Hid ((foldsUp es k).length=n1)∧wr.ownsRow (w.heap.size+1) 179 2 (.slice A1 n1 c1) n1 (ints (fdI (foldsUp es k))) ∧
   Box wr w.heap.size [.int .i64 r,.int .i64 s,.slice A es.length c]∧Mid 0 0 w wr) (fun _ i _=>es.length - (intOf i).toNat)
 case atStart=>exact ⟨0,_,0,0,Nat.zero_le _,rfl,rfl,Lib.hid rfl,O0,b0,hm0⟩
 case round =>
  clear O0 b0 hm0;obtain ⟨wo,hwo⟩:∃ wo,wo=wr:=⟨_,rfl⟩
  subst hwo;obtain ⟨k,A1,n1,c1,hk,rfl,rfl,HN,hown,b0,hm⟩:=hrel;have q0:=b0.cell 0 rfl;have q1:=b0.cell 1 rfl;have q2:=b0.cell 2 rfl;by_cases hlt:k < es.length
  ·obtain ⟨e,he⟩:=get_of_lt es hlt
   have HE:=Lib.hid he;have hk0:(0:Int)≤(k:Int):=by omega
   have hk1:(k:Int) < (es.length:Int):=by omega
   clear he;go_wp2_with fail;clear q0 q1 q2;go_loopw [3,5] (fun out jv wr=>∃ (j:Nat) (A2:Option Addr) (n2 c2:Nat),k+1+j≤es.length∧jv=.int .i64 ((k+1+j:Nat):Int)∧out=.slice A2 n2 c2∧Hid ((foldsUp es k++((es.drop (k+1)).take j).flatMap (foldsAB e)).length=n2) ∧
     wr.ownsRow (w.heap.size+1) 179 2 (.slice A2 n2 c2) n2 (ints (fdI (foldsUp es k++((es.drop (k+1)).take j).flatMap (foldsAB e)))) ∧
     Box wr w.heap.size [.int .i64 r,.int .i64 s,.slice A es.length c]∧Mid 0 0 w wr) (fun _ j _=>es.length - (intOf j).toNat)
   case atStart=>exact ⟨0,A1,n1,c1,by omega,by go_num,rfl,Lib.hid (by simpa using HN.out),by simpa using hown,b0,hm⟩
   case round =>
    clear hown b0 hm HN;obtain ⟨j,A2,n2,c2,hj,rfl,rfl,HN,hown,b0,hm⟩:=hrel;have hn2:n2≤40000:=by
     have h1:=foldsUp_len es k;have h2:=flat_len e ((es.drop (k+1)).take j);have h3:=HN.out;have h4:k * (2 * es.length)≤120 * 240:=Nat.mul_le_mul (by omega) (by omega);rw [List.length_append] at h3;rw [List.length_take,List.length_drop] at h2;omega
    obtain ⟨m,hmj⟩:∃ m,k+1+j=m:=⟨_,rfl⟩
    rw [hmj];have HM:=Lib.hid hmj;rw [hmj] at hj;clear hmj;have q0:=b0.cell 0 rfl;have q1:=b0.cell 1 rfl;have q2:=b0.cell 2 rfl;by_cases hlt2:m < es.length
    ·obtain ⟨B,off,e',rfl, -,hbh,he',e0,e1c,e2c⟩:=(hr.mid hm oZl).ed hlt
     rw [HE.out] at he';injection he' with he'
     subst he';obtain ⟨B',off',f,hX, -,hbh2,hf,f0,f1,f2⟩:=(hr.mid hm oZl).ed hlt2;injection hX with hX
     injection hX with hX1 hX2
     subst hX1 hX2;have HF:=Lib.hid (flat_take (e:=e) (show (es.drop (k+1))[j]?=some f by rw [List.getElem?_drop,HM.out];exact hf));have hj0:(0:Int)≤(m:Int):=by omega
     have hjn:(m:Int) < (es.length:Int):=by omega
     have zb:B < wr.heap.size:=Nat.lt_of_lt_of_le hbh (hr.mid hm oZl).1;have h0r:w.heap.size < wr.heap.size:=b0.1;have hal:=(Mid.alloc wr (.cells #[.int .i64 e.a,.int .i64 e.l,.int .i64 e.b] 110)).trans (Mid.alloc (wr.alloc (.cells #[.int .i64 e.a,.int .i64 e.l,.int .i64 e.b] 110)) (.cells #[.int .i64 f.a,.int .i64 f.l,.int .i64 f.b] 110));have ZE:=(Box.new wr #[.int .i64 e.a,.int .i64 e.l,.int .i64 e.b] 110).mid (Mid.alloc (wr.alloc (.cells #[.int .i64 e.a,.int .i64 e.l,.int .i64 e.b] 110)) (.cells #[.int .i64 f.a,.int .i64 f.l,.int .i64 f.b] 110)) oZr;have ZF:=Box.new (wr.alloc (.cells #[.int .i64 e.a,.int .i64 e.l,.int .i64 e.b] 110)) #[.int .i64 f.a,.int .i64 f.l,.int .i64 f.b] 110;rw [World.size_alloc] at ZF;have HNE:=Lib.hid (show Value.ownBlock (.slice A2 n2 c2)≠some wr.heap.size from fun h=>by have:=(hown.lt _ h).2;omega);have HFE:=Lib.hid (show Value.ownBlock (.slice A2 n2 c2)≠some (wr.heap.size+1) from fun h=>by have:=(hown.lt _ h).2;omega);have hB0:=Lib.hid (fun (g:Nat) (h:Value.ownBlock (.slice A2 n2 c2)=some g)=>(hown.lt g h).1);replace b0:=b0.mid hal oZr;replace hown:=owns_mid hown hal oZl;replace hm:=hm.trans hal;have HW:=Lib.hid hown;have hszA:w.heap.size+1≤((wr.alloc (.cells #[.int .i64 e.a,.int .i64 e.l,.int .i64 e.b] 110)).alloc (.cells #[.int .i64 f.a,.int .i64 f.l,.int .i64 f.b] 110)).heap.size:=by simp;omega
     clear hf hown hal;by_cases e1:e.l=f.l
     ·have d1:(e.l == f.l)=true:=by simpa using e1
      by_cases e2:e.a=f.a
      ·have d2:(e.a == f.a)=true:=by simpa using e2
       by_cases e3:e.b=f.b
       ·have d3:(e.b == f.b)=true:=by simpa using e3
        have hAB:foldsAB e f=[(min e.b f.b,max e.b f.b),(min e.a f.a,max e.a f.a)]:=by simp [foldsAB,e1,e2,e3]
        have HAB:Hid (foldsUp es k++((es.drop (k+1)).take (j+1)).flatMap (foldsAB e)=(foldsUp es k++((es.drop (k+1)).take j).flatMap (foldsAB e))++[(min e.b f.b,max e.b f.b)]++[(min e.a f.a,max e.a f.a)]):=Lib.hid (by rw [HF.out,hAB];simp);clear e1 e2 e3 hAB;go_wp2_with (first | (at_builtin;refine wpList_pushF rfl _ _ rfl (w.heap.size+1) A2 n2 c2 _ rfl HW.out (min e.b f.b,max e.b f.b) (by rw [World.size_alloc,World.size_alloc];rfl) (by omega) hszA ?_;intro A8 c8 w8 ho8 hgr8 hat8;have ZE8:=ZE.grown hgr8 HNE.out;have ZF8:=ZF.grown hgr8 HFE.out;have g80:=ZE8.cell 0 rfl;have g81:=ZE8.cell 1 rfl;have g82:=ZE8.cell 2 rfl;have h80:=ZF8.cell 0 rfl;have h81:=ZF8.cell 1 rfl;have h82:=ZF8.cell 2 rfl;have HW8:=Lib.hid ho8;have hsz8:=Nat.le_trans hszA hgr8.size;clear ho8) | (at_builtin;refine wpList_pushF rfl _ _ rfl (w.heap.size+1) A8 (n2+1) c8 _ rfl HW8.out (min e.a f.a,max e.a f.a) rfl (by omega) hsz8 ?_;intro A9 c9 w9 ho9 hgr9 hat9))
        have hm8:=Mid.of_grownRow HW.out hgr8;have hm9:=Mid.of_grownRow HW8.out hgr9;have HB8:=Lib.hid (fun (g:Nat) (h:Value.ownBlock (.slice A8 (n2+1) c8)=some g)=>(HW8.out.lt g h).1);clear hat9 hat8;go_roundw
        case rel=>exact ⟨j+1,A9,n2+1+1,c9,by have:=HM.out;omega,by have:=HM.out;go_num,rfl,Lib.hid (by rw [HAB.out,List.length_append,List.length_append,HN.out];rfl),by rw [HAB.out];exact ho9,(b0.grown hgr8 (fun h=>by have:=hB0.out _ h;omega)).grown hgr9 (fun h=>by have:=HB8.out _ h;omega),(hm.transNew hm8 (Or.inl (Nat.le_succ _))).transNew hm9 (Or.inl (Nat.le_succ _))⟩
        case measure=>have:=HM.out;simp [intOf];omega
       ·have d3:(e.b == f.b)=false:=by simpa only [beq_eq_false_iff_ne] using e3
        have hAB:foldsAB e f=[(min e.b f.b,max e.b f.b)]:=by simp [foldsAB,e1,e2,e3]
        have HAB:Hid (foldsUp es k++((es.drop (k+1)).take (j+1)).flatMap (foldsAB e)=(foldsUp es k++((es.drop (k+1)).take j).flatMap (foldsAB e))++[(min e.b f.b,max e.b f.b)]):=Lib.hid (by rw [HF.out,hAB,List.append_assoc]);clear e1 e2 e3 hAB;go_wp2_with (at_builtin;refine wpList_pushF rfl _ _ rfl (w.heap.size+1) A2 n2 c2 _ rfl HW.out (min e.b f.b,max e.b f.b) (by rw [World.size_alloc,World.size_alloc];rfl) (by omega) hszA ?_;intro A9 c9 w9 ho9 hgr9 hat9;have ZE8:=ZE.grown hgr9 HNE.out;have ZF8:=ZF.grown hgr9 HFE.out;have g80:=ZE8.cell 0 rfl;have g81:=ZE8.cell 1 rfl;have g82:=ZE8.cell 2 rfl;have h80:=ZF8.cell 0 rfl;have h81:=ZF8.cell 1 rfl;have h82:=ZF8.cell 2 rfl)
        have hm9:=Mid.of_grownRow HW.out hgr9;clear hat9;go_roundw
        case rel=>exact ⟨j+1,A9,n2+1,c9,by have:=HM.out;omega,by have:=HM.out;go_num,rfl,Lib.hid (by rw [HAB.out,List.length_append,HN.out];rfl),by rw [HAB.out];exact ho9,b0.grown hgr9 (fun h=>by have:=hB0.out _ h;omega),hm.transNew hm9 (Or.inl (Nat.le_succ _))⟩
        case measure=>have:=HM.out;simp [intOf];omega
      ·have d2:(e.a == f.a)=false:=by simpa only [beq_eq_false_iff_ne] using e2
       by_cases e3:e.b=f.b
       ·have d3:(e.b == f.b)=true:=by simpa using e3
        have hAB:foldsAB e f=[(min e.a f.a,max e.a f.a)]:=by simp [foldsAB,e1,e2,e3]
        have HAB:Hid (foldsUp es k++((es.drop (k+1)).take (j+1)).flatMap (foldsAB e)=(foldsUp es k++((es.drop (k+1)).take j).flatMap (foldsAB e))++[(min e.a f.a,max e.a f.a)]):=Lib.hid (by rw [HF.out,hAB,List.append_assoc]);clear e1 e2 e3 hAB;go_wp2_with (at_builtin;refine wpList_pushF rfl _ _ rfl (w.heap.size+1) A2 n2 c2 _ rfl HW.out (min e.a f.a,max e.a f.a) (by rw [World.size_alloc,World.size_alloc];rfl) (by omega) hszA ?_;intro A9 c9 w9 ho9 hgr9 hat9;have ZE8:=ZE.grown hgr9 HNE.out;have ZF8:=ZF.grown hgr9 HFE.out;have g80:=ZE8.cell 0 rfl;have g81:=ZE8.cell 1 rfl;have g82:=ZE8.cell 2 rfl;have h80:=ZF8.cell 0 rfl;have h81:=ZF8.cell 1 rfl;have h82:=ZF8.cell 2 rfl)
        have hm9:=Mid.of_grownRow HW.out hgr9;clear hat9;go_roundw
        case rel=>exact ⟨j+1,A9,n2+1,c9,by have:=HM.out;omega,by have:=HM.out;go_num,rfl,Lib.hid (by rw [HAB.out,List.length_append,HN.out];rfl),by rw [HAB.out];exact ho9,b0.grown hgr9 (fun h=>by have:=hB0.out _ h;omega),hm.transNew hm9 (Or.inl (Nat.le_succ _))⟩
        case measure=>have:=HM.out;simp [intOf];omega
       ·have d3:(e.b == f.b)=false:=by simpa only [beq_eq_false_iff_ne] using e3
        have hAB:foldsAB e f=[]:=by simp [foldsAB,e1,e2,e3]
        have HAB:Hid (((es.drop (k+1)).take (j+1)).flatMap (foldsAB e)=((es.drop (k+1)).take j).flatMap (foldsAB e)):=Lib.hid (by rw [HF.out,hAB,List.append_nil]);clear e1 e2 e3 hAB;go_wp2_with fail;go_roundw
        case rel=>exact ⟨j+1,A2,n2,c2,by have:=HM.out;omega,by have:=HM.out;go_num,rfl,by rw [HAB.out];exact HN,by rw [HAB.out];exact HW.out,b0,hm⟩
        case measure=>have:=HM.out;simp [intOf];omega
     ·have d1:(e.l == f.l)=false:=by simpa only [beq_eq_false_iff_ne] using e1
      have hAB:foldsAB e f=[]:=by unfold foldsAB;rw [if_neg e1]
      have HAB:Hid (((es.drop (k+1)).take (j+1)).flatMap (foldsAB e)=((es.drop (k+1)).take j).flatMap (foldsAB e)):=Lib.hid (by rw [HF.out,hAB,List.append_nil]);clear e1 hAB;go_wp2_with fail;go_roundw
      case rel=>exact ⟨j+1,A2,n2,c2,by have:=HM.out;omega,by have:=HM.out;go_num,rfl,by rw [HAB.out];exact HN,by rw [HAB.out];exact HW.out,b0,hm⟩
      case measure=>have:=HM.out;simp [intOf];omega
    ·have hje:j=es.length - (k+1):=by have:=HM.out;omega
     subst hje;rw [List.take_of_length_le (by rw [List.length_drop];exact Nat.le_refl _),← foldsUp_succ HE.out] at HN hown;obtain rfl:m=es.length:=by omega
     go_wp2_with fail;go_roundw
     case rel=>exact ⟨k+1,A2,n2,c2,by omega,by go_num,rfl,HN,hown,b0,hm⟩
     case measure=>simp [intOf];omega
  ·obtain rfl:k=es.length:=by omega
   rw [foldsUp_all] at HN hown;go_wp2_with fail;go_ret;have hn:=HN.out;subst hn;exact ⟨A1,c1,rfl,(owns_rv hown).wide (Nat.zero_le _) (Nat.le_refl _) (Nat.le_refl _),hm⟩
end
section
open Go.RowKit
theorem spec_FirstFold (r s:Int) (A:Option Addr) (es:List Ed) (c:Nat) (w:World) (lo hi:Nat) (hr:RG w lo hi A es) (hg:IsGr r s es) (p:Int × Int) (b:Bool) (hp:FirstIs es p b) :
  Calls Tryz.prog 257 #[graV r s A es.length c] w fun e w'=>e=.returned (.tuple #[.agg #[.int .i64 p.1,.int .i64 p.2],.bool b])∧Mid 0 0 w w':=by
 have hl:=hg.len;have HG:=Lib.hid hg;have hm0:Mid 0 0 w ((w.alloc (.cells #[.int .i64 r,.int .i64 s,.slice A es.length c] 35)).alloc (.cells #[.int .i64 0,.int .i64 0] 179)):=(Mid.alloc _ _).trans (Mid.alloc _ _);have b0:=(Box.new w #[.int .i64 r,.int .i64 s,.slice A es.length c] 35).mid (Mid.alloc _ (.cells #[.int .i64 0,.int .i64 0] 179)) oZr;have b2:=Box.new (w.alloc (.cells #[.int .i64 r,.int .i64 s,.slice A es.length c] 35)) #[.int .i64 0,.int .i64 0] 179;rw [World.size_alloc] at b2;clear hg;obtain ⟨p1,p2⟩:=p;go_enter Tryz.func257,Tryz.ntmps257
 go_wp2_with fail;with_reducible refine (spec_IsGraph r s A es c _ _ _ (hr.mid hm0 oZl).rv (by omega) true (iff_of_true rfl HG.out)).mono ?_
 rintro en w1 ⟨rfl,hm1⟩;replace b0:=b0.mid hm1 oZr;replace b2:=b2.mid hm1 oZr;replace hm0:=hm0.trans hm1;have q0:=b0.cell 0 rfl;have q1:=b0.cell 1 rfl;have q2:=b0.cell 2 rfl;go_wp2_with fail;with_reducible refine (spec_l7Folds r s A es c _ _ _ (hr.mid hm0 oZl) hl).mono ?_
 rintro en w2 ⟨A2,c2,rfl,hrv,hm2⟩;replace b2:=b2.mid hm2 oZr;replace hm0:=hm0.trans hm2;have zf:=b2.2.2;have z0:=b2.cell 0 rfl;have z1:=b2.cell 1 rfl;clear q0 q1 q2 hm1 hm2;rcases hp with ⟨rfl,hn,hpp⟩ | ⟨rfl,t,ht⟩
 ·injection hpp with h1 h2
  subst h1 h2;have hn0:(folds es).length=0:=by rw [hn];rfl
  clear hn;go_wp2_with fail;refine bodyPost_ret (v:=.tuple #[.agg #[.int .i64 0,.int .i64 0],.bool false]) (by simp [results,Tryz.results257,go_sem,z0,z1,zf]) rfl ⟨rfl,?_⟩;repeat (first | exact hm0 | refine Mid.storeNew ?_ (by simp;try omega) _)
 ·obtain ⟨nl,hnl⟩:∃ nl,(folds es).length=nl+1:=⟨t.length,by rw [ht];rfl⟩
  obtain ⟨g,off,rfl, -, -,hc⟩:=hrv.2 (by rw [ht];simp [fdI_head,ints]);have y0:=hc 0 (.int .i64 p1) (by rw [ht];simp [fdI_head,ints]);have y1:=hc 1 (.int .i64 p2) (by rw [ht];simp [fdI_head,ints]);rw [Nat.add_zero] at y0;have hd:((nl+1:Nat) == 0)=false:=by simp
  rw [hnl];have h1:(0:Int) < ((nl+1:Nat):Int):=by omega
  clear hc ht hrv hnl;go_wp2_with fail;refine bodyPost_ret (v:=.tuple #[.agg #[.int .i64 p1,.int .i64 p2],.bool true]) (by simp [results,Tryz.results257,go_sem,z0,z1,zf]) rfl ⟨rfl,?_⟩;repeat (first | exact hm0 | refine Mid.storeNew ?_ (by simp;try omega) _)
end
section
open Go.RowKit
theorem spec_FoldOnce (r s:Int) (A:Option Addr) (es:List Ed) (c:Nat) (w:World) (lo hi:Nat) (hr:RG w lo hi A es) (hg:IsGr r s es) (p:Int × Int) (b:Bool) (rs:Int) (res:List Ed) (hp:OnceIs s es p b rs res) :
  Calls Tryz.prog 230 #[graV r s A es.length c] w fun e w'=>∃ A1 c1,e=.returned (.tuple #[graV r rs A1 res.length c1,.agg #[.int .i64 p.1,.int .i64 p.2],.bool b])∧OG w' w.heap.size w'.heap.size A1 c1 res∧Mid 0 0 w w':=by
 have hl:=hg.len;have HG:=Lib.hid hg;have hm0:Mid 0 0 w (((w.alloc (.cells #[.int .i64 r,.int .i64 s,.slice A es.length c] 35)).alloc (.cells #[.int .i64 0,.int .i64 0,.slice none 0 0] 35)).alloc (.cells #[.int .i64 0,.int .i64 0] 179)):=((Mid.alloc _ _).trans (Mid.alloc _ _)).trans (Mid.alloc _ _);have b0:=((Box.new w #[.int .i64 r,.int .i64 s,.slice A es.length c] 35).mid (Mid.alloc _ (.cells #[.int .i64 0,.int .i64 0,.slice none 0 0] 35)) oZr).mid (Mid.alloc _ (.cells #[.int .i64 0,.int .i64 0] 179)) oZr;have b2:=(Box.new (w.alloc (.cells #[.int .i64 r,.int .i64 s,.slice A es.length c] 35)) #[.int .i64 0,.int .i64 0,.slice none 0 0] 35).mid (Mid.alloc _ (.cells #[.int .i64 0,.int .i64 0] 179)) oZr;have b3:=Box.new ((w.alloc (.cells #[.int .i64 r,.int .i64 s,.slice A es.length c] 35)).alloc (.cells #[.int .i64 0,.int .i64 0,.slice none 0 0] 35)) #[.int .i64 0,.int .i64 0] 179;simp only [World.size_alloc,Nat.add_assoc,Nat.reduceAdd] at b2 b3;have hF:=hp.first
 have HF:=Lib.hid hF;clear hg hF;obtain ⟨p1,p2⟩:=p;go_enter Tryz.func230,Tryz.ntmps230
 go_wp2_with fail;generalize hw1:(((w.alloc (.cells #[.int .i64 r,.int .i64 s,.slice A es.length c] 35)).alloc (.cells #[.int .i64 0,.int .i64 0,.slice none 0 0] 35)).alloc (.cells #[.int .i64 0,.int .i64 0] 179))=w1 at hm0 b0 b2 b3 ⊢;clear hw1;with_reducible refine (spec_FirstFold r s A es c _ _ _ (hr.mid hm0 oZl) HG.out (p1,p2) b HF.out).mono ?_
 rintro en w2 ⟨rfl,hm2⟩;replace b0:=b0.mid hm2 oZr;replace b2:=b2.mid hm2 oZr;replace b3:=b3.mid hm2 oZr;replace hm0:=hm0.trans hm2;have hbs0:=b0.1;have hbs2:=b2.1;have hbs3:=b3.1;have u0:=b0.cell 0 rfl;have u1:=b0.cell 1 rfl;have u2:=b0.cell 2 rfl;have hal:=Mid.alloc w2 (.cells #[.int .i64 p1,.int .i64 p2] 179);have bf:=Box.new w2 #[.int .i64 p1,.int .i64 p2] 179;replace b0:=b0.mid hal oZr;replace b2:=b2.mid hal oZr;replace b3:=b3.mid hal oZr;replace hm0:=hm0.trans hal;clear hm2;rcases hp with ⟨rfl,hn,hpp,rfl,rfl⟩ | ⟨rfl,⟨t,ht⟩,rfl,hres⟩
 ·injection hpp with h1 h2
  subst h1 h2;clear hn;go_wp2_with fail;clear u0 u1 u2;generalize hw3:w2.alloc (.cells #[.int .i64 0,.int .i64 0] 179)=w3 at b0 b2 b3 bf hm0 ⊢;clear hw3 hal;with_reducible refine (spec_l4Copy r rs A res c _ _ _ (hr.mid hm0 oZl) (by omega)).mono ?_
  rintro en w4 ⟨A4,c4,rfl,hog,hm4⟩;have hs3:w.heap.size+3≤w3.heap.size:=b3.1;replace b2:=b2.mid hm4 oZr;replace b3:=b3.mid hm4 oZr;replace hm0:=hm0.trans hm4;have a0:=b2.cell 0 rfl;have a1:=b2.cell 1 rfl;have a2:=b2.cell 2 rfl;have x0:=b3.cell 0 rfl;have x1:=b3.cell 1 rfl;have af:=b2.2.2;have xf:=b3.2.2;go_wp2_with fail;refine bodyPost_ret (v:=.tuple #[.agg #[.int .i64 r,.int .i64 rs,.slice A4 res.length c4],.agg #[.int .i64 0,.int .i64 0],.bool false]) (by simp [results,Tryz.results230,go_sem,a0,a1,a2,x0,x1,af,xf]) rfl ⟨A4,c4,rfl,?_,?_⟩
  ·refine OG.wide (OG.mid hog (a:=w.heap.size+1) (b:=w.heap.size+3) ?_ (Or.inl (by omega))) (by omega) (by simp) (Nat.le_refl _)
   repeat (first | exact Mid.refl _ _ _ | refine Mid.stored ?_ _ (by simp;try omega) (by simp;try omega))
  ·repeat (first | exact hm0 | refine Mid.storeNew ?_ (by simp;try omega) _)
 ·obtain ⟨k1,k2,k3⟩:=mem_folds HG.out.all HG.out.asc (p:=(p1,p2)) (by rw [ht];simp)
  simp only at k1 k2 k3;have HRES:=Lib.hid hres;clear ht hres;have y0:=bf.cell 0 rfl;have y1:=bf.cell 1 rfl;go_wp2_with fail;clear u0 u1 u2 y0 y1;generalize hw3:w2.alloc (.cells #[.int .i64 p1,.int .i64 p2] 179)=w3 at b0 b2 b3 bf hm0 ⊢;have hs3:w3.heap.size=w2.heap.size+1:=by rw [← hw3];simp
  clear hw3 hal;obtain ⟨F,hF⟩:∃ F,w2.heap.size=F:=⟨_,rfl⟩
  rw [hF] at bf hs3 hbs0 hbs2 hbs3 ⊢;clear hF;with_reducible refine (spec_MergeVertices r s A es c p1 p2 _ _ _ (hr.mid hm0 oZl) HG.out k1 k2 k3).mono ?_
  rintro en w4 ⟨A4,c4,rfl,hog,hm4⟩;rw [← HRES.out] at hog ⊢;have hsz4:=hm4.size;replace b2:=b2.mid hm4 oZr;replace b3:=b3.mid hm4 oZr;replace bf:=bf.mid hm4 oZr;replace hm0:=hm0.trans hm4;have hal4:=Mid.alloc w4 (.cells #[.int .i64 r,.int .i64 (s - 1),.slice A4 res.length c4] 35);have bg:=Box.new w4 #[.int .i64 r,.int .i64 (s - 1),.slice A4 res.length c4] 35;replace b2:=b2.mid hal4 oZr;replace b3:=b3.mid hal4 oZr;replace bf:=bf.mid hal4 oZr;replace hog:=hog.mid hal4 oZl;replace hm0:=hm0.trans hal4;go_wp2_with fail;generalize hw5:w4.alloc (.cells #[.int .i64 r,.int .i64 (s - 1),.slice A4 res.length c4] 35)=w5 at b2 b3 bf bg hog hm0 ⊢;have hs5:w5.heap.size=w4.heap.size+1:=by rw [← hw5];simp
  clear hw5 hal4;obtain ⟨H,hH⟩:∃ H,w4.heap.size=H:=⟨_,rfl⟩
  rw [hH] at bg hsz4 hs5 hog ⊢;clear hH;have a0:=b2.cell 0 rfl;have a1:=b2.cell 1 rfl;have a2:=b2.cell 2 rfl;have x0:=b3.cell 0 rfl;have x1:=b3.cell 1 rfl;have y0:=bf.cell 0 rfl;have y1:=bf.cell 1 rfl;have z0:=bg.cell 0 rfl;have z1:=bg.cell 1 rfl;have z2:=bg.cell 2 rfl;have af:=b2.2.2;have xf:=b3.2.2;have n1:¬ w.heap.size+1=H:=by omega
  have n2:¬ w.heap.size+2=H:=by omega
  have n3:¬ w.heap.size+1=F:=by omega
  have n4:¬ w.heap.size+2=F:=by omega
  have n5:¬ F=H:=by omega
  go_region
  go_wp2_with fail;refine bodyPost_ret (v:=.tuple #[.agg #[.int .i64 r,.int .i64 (s - 1),.slice A4 res.length c4],.agg #[.int .i64 p1,.int .i64 p2],.bool true]) (by simp [results,Tryz.results230,go_sem,a0,a1,a2,x0,x1,af,xf]) rfl ⟨A4,c4,rfl,?_,?_⟩
  ·refine OG.wide (OG.mid hog (a:=w.heap.size+1) (b:=w.heap.size+3) ?_ (Or.inl (by omega))) (by omega) (by have:=hog.size;simp;omega) (Nat.le_refl _)
   refine Mid.trans ?_ (Mid.drew1 _).zero;repeat (first | exact Mid.refl _ _ _ | refine Mid.stored ?_ _ (by simp;try omega) (by simp;try omega))
  ·refine Mid.trans ?_ (Mid.drew1 _)
   repeat (first | exact hm0 | refine Mid.storeNew ?_ (by simp;try omega) _)
end
section
open Go.RowKit
theorem spec_FoldAll (r:Int) (n:Nat) (A:Option Addr) (es:List Ed) (c:Nat) (w:World) (lo hi:Nat) (hr:RG w lo hi A es) (hg:IsGr r n es) :
  Calls Tryz.prog 182 #[graV r n A es.length c] w fun e w'=>∃ A1 c1 Al nl cl,e=.returned (.tuple #[graV r (foldA 40 ((n:Int),es)).1 A1 (foldA 40 ((n:Int),es)).2.length c1,.slice Al nl cl])∧OG w' w.heap.size w'.heap.size A1 c1 (foldA 40 ((n:Int),es)).2∧Mid 0 0 w w':=by
 have hn40:n≤40:=by have:=hg.size;omega
 have hl:=hg.len;have hm0:Mid 0 0 w ((w.alloc (.cells #[.int .i64 r,.int .i64 n,.slice A es.length c] 35)).alloc (.cells #[.int .i64 0,.int .i64 0,.slice none 0 0] 35)):=(Mid.alloc _ _).trans (Mid.alloc _ _);have b0:=(Box.new w #[.int .i64 r,.int .i64 n,.slice A es.length c] 35).mid (Mid.alloc _ (.cells #[.int .i64 0,.int .i64 0,.slice none 0 0] 35)) oZr;have b2:=Box.new (w.alloc (.cells #[.int .i64 r,.int .i64 n,.slice A es.length c] 35)) #[.int .i64 0,.int .i64 0,.slice none 0 0] 35;simp only [World.size_alloc] at b2;have HG:=Lib.hid hg;obtain ⟨T,hT⟩:∃ T,foldA 40 ((n:Int),es)=T:=⟨_,rfl⟩
 rw [hT];have HT:=Lib.hid hT;clear hg hT;go_enter Tryz.func182,Tryz.ntmps182
 go_wp2_with fail;generalize hw1:((w.alloc (.cells #[.int .i64 r,.int .i64 n,.slice A es.length c] 35)).alloc (.cells #[.int .i64 0,.int .i64 0,.slice none 0 0] 35))=w1 at hm0 b0 b2 ⊢;clear hw1;with_reducible refine (spec_l4Copy r n A es c _ _ _ (hr.mid hm0 oZl) (by omega)).mono ?_
 rintro en w2 ⟨A1,c1,rfl,ho,hm2⟩;have hs2:w.heap.size+1 < w1.heap.size:=b2.1;replace b2:=b2.mid hm2 oZr;replace hm0:=hm0.trans hm2;have hsz2:=hm2.size;have hown0:=owns_base (base':=w.heap.size+2) ho.ov.2.1 hs2;have hbk0:Value.ownBlock (.slice A1 es.length c1)≠some w2.heap.size:=fun h=>by have:=ho.ov.2.2 _ h;omega
 have hal:=(Mid.alloc w2 (.cells #[.int .i64 r,.int .i64 n,.slice A1 es.length c1] 35)).trans (Mid.alloc (w2.alloc (.cells #[.int .i64 r,.int .i64 n,.slice A1 es.length c1] 35)) (.cells #[] 179));have Y3:=(Box.new w2 #[.int .i64 r,.int .i64 n,.slice A1 es.length c1] 35).mid (Mid.alloc (w2.alloc (.cells #[.int .i64 r,.int .i64 n,.slice A1 es.length c1] 35)) (.cells #[] 179)) oZr;have O0:=owns_empty (w2.alloc (.cells #[.int .i64 r,.int .i64 n,.slice A1 es.length c1] 35)) 179 2;rw [World.size_alloc] at O0;replace b2:=b2.mid hal oZr;replace hown0:=owns_mid hown0 hal oZl;replace hm0:=hm0.trans hal;go_wp2_with fail;generalize hw3:(w2.alloc (.cells #[.int .i64 r,.int .i64 n,.slice A1 es.length c1] 35)).alloc (.cells #[] 179)=w3 at Y3 O0 b2 hown0 hm0 ⊢;obtain ⟨G,hG⟩:∃ G,w2.heap.size=G:=⟨_,rfl⟩
 rw [hG] at Y3 O0 hbk0 hsz2 ⊢;have hGw:w.heap.size+2≤G:=by omega
 clear hw3 hal hm2 ho hG hsz2 hs2 b0;go_loopw [5,6] (fun l iv wr=>∃ (i m s:Nat) (es1:List Ed) (A2:Option Addr) (c2:Nat) (Al:Option Addr) (nl cl:Nat) (ps:List (Int × Int)),l=.slice Al nl cl∧iv=.int .i64 i∧i+m=40∧nl+s≤40∧Hid (foldA m ((s:Int),es1)=T)∧s≤m∧Hid (IsGr r s es1)∧wr.ownsRow (G+1) 179 2 (.slice Al nl cl) nl (ints (fdI ps)) ∧
   Hid (wr.ownsRow (w.heap.size+2) 110 3 (.slice A2 es1.length c2) es1.length (ints (edI es1)))∧Hid (Value.ownBlock (.slice A2 es1.length c2)≠some G)∧Box wr (w.heap.size+1) [.int .i64 0,.int .i64 0,.slice none 0 0]∧Box wr G [.int .i64 r,.int .i64 s,.slice A2 es1.length c2]∧Mid 0 0 w wr) (fun _ _ wr=>sizeAt wr G)
 case atStart=>exact ⟨0,40,n,es,A1,c1,_,0,0,[],rfl,rfl,by omega,by omega,HT,hn40,HG,O0,Lib.hid hown0,Lib.hid hbk0,b2,Y3,hm0⟩
 case round =>
  clear O0 hown0 b2 Y3 hm0 hbk0;obtain ⟨i,m,s,es1,A2,c2,Al,nl,cl,ps,rfl,rfl,him,hnl,HTm,hsm,HGs,hleft,HE,HBK,b2,Y3,hm⟩:=hrel;have hl1:=HGs.out.len;have hs1:1≤s:=by have:=HGs.out.size;omega
  have hlsz:=Lib.hid (sizeAt_box Y3);have hi40:(i:Int) < 40:=by omega
  have hec:es1.length≤c2:=by
   obtain ⟨A',c',hv0,hsc,hcm⟩:=owns_shape HE.out;injection hv0 with _ _ hv0
   omega
  obtain ⟨p,b,rs,res,hone⟩:=OnceIs.ex (s:Int) es1;have HO:=Lib.hid (spec_FoldOnce r s A2 es1 c2 wr _ _ (owns_rv HE.out).rg HGs.out p b rs res hone);have HON:=Lib.hid hone;obtain ⟨p1,p2⟩:=p;clear hone;have y0:=Y3.cell 0 rfl;have y1:=Y3.cell 1 rfl;have y2:=Y3.cell 2 rfl;go_wp2_with fail;with_reducible refine HO.out.mono ?_
  rintro en w5 ⟨A3,c3,rfl,hog,hm5⟩;have hGr:G < wr.heap.size:=Y3.1;have hw2r:w.heap.size+2≤wr.heap.size:=by omega
  have hE5:=owns_mid HE.out hm5 oZl;replace b2:=b2.mid hm5 oZr;replace Y3:=Y3.mid hm5 oZr;replace hleft:=owns_mid hleft hm5 oZl;replace hm:=hm.trans hm5;clear HO y0 y1 y2 HE;have hal1:=Mid.alloc w5 (.cells #[.int .i64 r,.int .i64 rs,.slice A3 res.length c3] 35);have hal2:=Mid.alloc (w5.alloc (.cells #[.int .i64 r,.int .i64 rs,.slice A3 res.length c3] 35)) (.cells #[.int .i64 p1,.int .i64 p2] 179);have bh:=(Box.new w5 #[.int .i64 r,.int .i64 rs,.slice A3 res.length c3] 35).mid hal2 oZr;have bp:=Box.new (w5.alloc (.cells #[.int .i64 r,.int .i64 rs,.slice A3 res.length c3] 35)) #[.int .i64 p1,.int .i64 p2] 179;rw [World.size_alloc] at bp;have hal:=hal1.trans hal2;have hs5:=hm5.size;have hG5:G < w5.heap.size:=Y3.1;have hG6:G < w5.heap.size+1:=by omega
  have hb5:w.heap.size+1 < w5.heap.size:=b2.1;have hb6:w.heap.size < w5.heap.size:=by omega
  have yf:=Y3.2.2;have y0:=Y3.cell 0 rfl;have y1:=Y3.cell 1 rfl;have y2:=Y3.cell 2 rfl;cases b with
  | false =>
   have af:=b2.2.2;have a0:=b2.cell 0 rfl;have a1:=b2.cell 1 rfl;have a2:=b2.cell 2 rfl;have hfn:folds es1=[]∧True:=by
    rcases HON.out with h | h
    ·exact ⟨h.2.1,trivial⟩
    ·exact absurd h.1 (by decide)
   have hTT:=HTm.out;rw [foldA_nil (g:=((s:Int),es1)) hfn.1] at hTT;have HTT:=Lib.hid hTT;clear hTT hfn;go_wp2_with fail;refine bodyPost_ret (v:=.tuple #[.agg #[.int .i64 r,.int .i64 s,.slice A2 es1.length c2],.slice Al nl cl]) (by simp [results,Tryz.results182,go_sem,a0,a1,a2,af,hb5,hb6,World.cell?_alloc_lt]) rfl ⟨A2,c2,Al,nl,cl,by rw [← HTT.out],?_,?_⟩
   ·rw [← HTT.out]
    have h0:OG w5 (w.heap.size+2) w5.heap.size A2 c2 es1:=⟨Nat.le_refl _,hE5,fun g hg=>(hE5.lt g hg).2⟩
    refine OG.wide (OG.mid h0 (a:=w.heap.size+1) (b:=w.heap.size+2) ?_ (Or.inl (Nat.le_refl _))) (by omega) (by simp;try omega) (Nat.le_refl _);repeat (first | exact Mid.refl _ _ _ | refine Mid.trans ?_ (Mid.alloc _ _).zero | refine Mid.stored ?_ _ (by simp;try omega) (by simp;try omega))
   ·repeat (first | exact hm | refine Mid.trans ?_ (Mid.alloc _ _) | refine Mid.storeNew ?_ (by simp;try omega) _)
  | true =>
   obtain ⟨t,htt⟩:∃ t,folds es1=(p1,p2) :: t:=by
    rcases HON.out with h | h
    ·exact absurd h.1 (by decide)
    ·exact h.2.1
   obtain ⟨rfl,rfl⟩:rs=(s:Int) - 1∧res=mergeE (p1,p2) es1:=by
    rcases HON.out with h | h
    ·exact absurd h.1 (by decide)
    ·exact h.2.2
   obtain ⟨k1,k2,k3⟩:=mem_folds HGs.out.all HGs.out.asc (p:=(p1,p2)) (by rw [htt];simp);obtain ⟨m',rfl⟩:∃ m',m=m'+1:=⟨m - 1,by omega⟩
   have hTT:=HTm.out;rw [foldA_cons (g:=((s:Int),es1)) htt] at hTT;simp only at hTT;have HTT:=Lib.hid hTT;have HG2:=Lib.hid (mergeE_gr HGs.out k1 k2 k3);clear hTT htt k1 k2 k3 HON;obtain ⟨s',rfl⟩:∃ s',s=s'+1:=⟨s - 1,by omega⟩
   rw [show ((s'+1:Nat):Int) - 1=(s':Int) by omega] at HTT HG2 hal hal1 hal2 bh bp ⊢;obtain ⟨me,hme⟩:∃ me,mergeE (p1,p2) es1=me:=⟨_,rfl⟩
   rw [hme] at HTT HG2 hal hal1 hal2 bh bp hog ⊢;clear hme;have hst:=(Mid.setAt w5 G 0 (.int .i64 r)).trans ((Mid.setAt (w5.setCell ⟨G,0,none⟩ (.int .i64 r)) G 1 (.int .i64 s')).trans (Mid.setAt ((w5.setCell ⟨G,0,none⟩ (.int .i64 r)).setCell ⟨G,1,none⟩ (.int .i64 s')) G 2 (.slice A3 me.length c3)));have Y5:=((Y3.set 0 (.int .i64 r) (by simp) rfl).set 1 (.int .i64 s') (by simp) rfl).set 2 (.slice A3 me.length c3) (by simp) rfl;have hm6:=((hm.storeNew (p:=⟨G,0,none⟩) (by show w.heap.size≤G;omega) (.int .i64 r)).storeNew (p:=⟨G,1,none⟩) (by show w.heap.size≤G;omega) (.int .i64 s')).storeNew (p:=⟨G,2,none⟩) (by show w.heap.size≤G;omega) (.slice A3 me.length c3);have b6:=b2.mid hst (Or.inl (by omega));have hleft6:=owns_mid hleft hst (Or.inl (Nat.le_refl _));have hog6:=OG.mid hog hst (Or.inl hGr);have ha2:=(Mid.alloc (((w5.setCell ⟨G,0,none⟩ (.int .i64 r)).setCell ⟨G,1,none⟩ (.int .i64 s')).setCell ⟨G,2,none⟩ (.slice A3 me.length c3)) (.cells #[.int .i64 r,.int .i64 s',.slice A3 me.length c3] 35)).trans (Mid.alloc _ (.cells #[.int .i64 p1,.int .i64 p2] 179));replace b6:=b6.mid ha2 oZr;replace Y5:=Y5.mid ha2 oZr;replace hleft6:=owns_mid hleft6 ha2 oZl;replace hm6:=hm6.trans ha2;replace hog6:=OG.mid hog6 ha2 oZl;have hWs:(((((w5.setCell ⟨G,0,none⟩ (.int .i64 r)).setCell ⟨G,1,none⟩ (.int .i64 s')).setCell ⟨G,2,none⟩ (.slice A3 me.length c3)).alloc (.cells #[.int .i64 r,.int .i64 s',.slice A3 me.length c3] 35)).alloc (.cells #[.int .i64 p1,.int .i64 p2] 179)).heap.size=w5.heap.size+1+1:=by simp
   have HL:=Lib.hid hleft6;have HY:=Lib.hid Y5;have HB:=Lib.hid b6;have HM:=Lib.hid hm6;have HO6:=Lib.hid hog6;clear hleft6 Y5 b6 hm6 hog6 ha2 hst hleft b2 hm hog hE5 hal hal1 hal2 bh bp;go_wp2_with (at_builtin;refine wpList_pushF rfl _ _ rfl (G+1) Al nl cl ps rfl HL.out (p1,p2) (by rw [hWs];rfl) (by omega) (by rw [hWs];omega) ?_;intro A9 c9 w9 hl9 hgr9 hat9)
   have hm9:=Mid.of_grownRow HL.out hgr9;have hmo:=(HO6.out).2.1;have hE9:=(owns_base hmo hw2r).kept hgr9 (owns_ne hmo HL.out (by decide));have hbk9:Value.ownBlock (.slice A3 me.length c3)≠some G:=fun h=>by have:=(hmo.lt _ h).1;omega
   have Y9:=HY.out.mid hm9 (Or.inl (Nat.lt_succ_self _));have hmsz:=hlsz.out;go_roundw
   case rel=>exact ⟨i+1,m',s',me,A3,c3,A9,nl+1,c9,ps++[(p1,p2)],rfl,by go_num,by omega,by omega,HTT,by omega,HG2,hl9,Lib.hid hE9,Lib.hid hbk9,HB.out.mid hm9 (Or.inl (by omega)),Y9,HM.out.transNew hm9 (Or.inl (by omega))⟩
   case measure=>rw [hmsz,sizeAt_box Y9];omega
end
section
open Go.RowKit
theorem spec_TrimGraph (r:Int) (n:Nat) (A:Option Addr) (es:List Ed) (c:Nat) (w:World) (lo hi:Nat) (hr:RG w lo hi A es) (hg:IsGr r n es) :
  Calls Tryz.prog 183 #[graV r n A es.length c] w fun e w'=>∃ A1 c1 Al nl cl,e=.returned (.tuple #[graV r (trimA 40 ((n:Int),es)).1 A1 (trimA 40 ((n:Int),es)).2.length c1,.slice Al nl cl])∧OG w' w.heap.size w'.heap.size A1 c1 (trimA 40 ((n:Int),es)).2∧Mid 0 0 w w':=by
 have hn40:n≤40:=by have:=hg.size;omega
 have hl:=hg.len;have hm0:Mid 0 0 w ((w.alloc (.cells #[.int .i64 r,.int .i64 n,.slice A es.length c] 35)).alloc (.cells #[.int .i64 0,.int .i64 0,.slice none 0 0] 35)):=(Mid.alloc _ _).trans (Mid.alloc _ _);have b0:=(Box.new w #[.int .i64 r,.int .i64 n,.slice A es.length c] 35).mid (Mid.alloc _ (.cells #[.int .i64 0,.int .i64 0,.slice none 0 0] 35)) oZr;have b2:=Box.new (w.alloc (.cells #[.int .i64 r,.int .i64 n,.slice A es.length c] 35)) #[.int .i64 0,.int .i64 0,.slice none 0 0] 35;simp only [World.size_alloc] at b2;have HG:=Lib.hid hg;obtain ⟨T,hT⟩:∃ T,trimA 40 ((n:Int),es)=T:=⟨_,rfl⟩
 rw [hT];have HT:=Lib.hid hT;clear hg hT;go_enter Tryz.func183,Tryz.ntmps183
 go_wp2_with fail;generalize hw1:((w.alloc (.cells #[.int .i64 r,.int .i64 n,.slice A es.length c] 35)).alloc (.cells #[.int .i64 0,.int .i64 0,.slice none 0 0] 35))=w1 at hm0 b0 b2 ⊢;clear hw1;with_reducible refine (spec_l4Copy r n A es c _ _ _ (hr.mid hm0 oZl) (by omega)).mono ?_
 rintro en w2 ⟨A1,c1,rfl,ho,hm2⟩;have hsz12:=hm0.size;have hs2:w.heap.size+1 < w1.heap.size:=b2.1;replace b0:=b0.mid hm2 oZr;replace b2:=b2.mid hm2 oZr;replace hm0:=hm0.trans hm2;have hsz2:=hm2.size;have hown0:=owns_base (base':=w.heap.size+2) ho.ov.2.1 hs2;have hbk0:Value.ownBlock (.slice A1 es.length c1)≠some w2.heap.size:=fun h=>by have:=ho.ov.2.2 _ h;omega
 have hal:=(Mid.alloc w2 (.cells #[.int .i64 r,.int .i64 n,.slice A1 es.length c1] 35)).trans (Mid.alloc (w2.alloc (.cells #[.int .i64 r,.int .i64 n,.slice A1 es.length c1] 35)) (.cells #[] 3));have Y3:=(Box.new w2 #[.int .i64 r,.int .i64 n,.slice A1 es.length c1] 35).mid (Mid.alloc (w2.alloc (.cells #[.int .i64 r,.int .i64 n,.slice A1 es.length c1] 35)) (.cells #[] 3)) oZr;have O0:=owns_empty (w2.alloc (.cells #[.int .i64 r,.int .i64 n,.slice A1 es.length c1] 35)) 3 1;rw [World.size_alloc] at O0;have hbs0:=b0.1;have p0:=b0.cell 0 rfl;have p1:=b0.cell 1 rfl;have p2:=b0.cell 2 rfl;replace b0:=b0.mid hal oZr;replace b2:=b2.mid hal oZr;replace hown0:=owns_mid hown0 hal oZl;replace hm0:=hm0.trans hal;go_wp2_with fail;clear p0 p1 p2;have hsA:((w2.alloc (.cells #[.int .i64 r,.int .i64 n,.slice A1 es.length c1] 35)).alloc (.cells #[] 3)).heap.size=w2.heap.size+2:=by simp
 generalize hw3:(w2.alloc (.cells #[.int .i64 r,.int .i64 n,.slice A1 es.length c1] 35)).alloc (.cells #[] 3)=w3 at Y3 O0 b0 b2 hown0 hm0 hsA ⊢;obtain ⟨G,hG⟩:∃ G,w2.heap.size=G:=⟨_,rfl⟩
 rw [hG] at Y3 O0 hbk0 hsA hsz2 hbs0 ⊢;clear hw3 hal hm2 ho hG;have hGw:w.heap.size+2≤G:=by omega
 clear hsA hsz2 hs2 hsz12 hbs0;go_loopw [5,6] (fun l i wr=>∃ (k:Nat) (Al:Option Addr) (nl cl:Nat),k≤n∧i=.int .i64 k∧l=.slice Al nl cl∧Hid ((upto k).length=nl)∧wr.ownsRow (G+1) 3 1 (.slice Al nl cl) nl (ints (upto k)) ∧
   Hid (wr.ownsRow (w.heap.size+2) 110 3 (.slice A1 es.length c1) es.length (ints (edI es)))∧Box wr w.heap.size [.int .i64 r,.int .i64 n,.slice A es.length c]∧Box wr (w.heap.size+1) [.int .i64 0,.int .i64 0,.slice none 0 0]∧Box wr G [.int .i64 r,.int .i64 n,.slice A1 es.length c1]∧Mid 0 0 w wr) (fun _ i _=>n - (intOf i).toNat)
 case atStart=>exact ⟨0,_,0,0,Nat.zero_le _,rfl,rfl,Lib.hid rfl,O0,Lib.hid hown0,b0,b2,Y3,hm0⟩
 case round =>
  clear O0 hown0 b0 b2 Y3 hm0;obtain ⟨wo,hwo⟩:∃ wo,wo=wr:=⟨_,rfl⟩
  subst hwo;obtain ⟨k,Al,nl,cl,hk,rfl,rfl,HN,hleft,HE,b0,b2,Y3,hm⟩:=hrel;obtain rfl:k=nl:=by rw [← HN.out,upto_len]
  have p0:=b0.cell 0 rfl;have p1:=b0.cell 1 rfl;have p2:=b0.cell 2 rfl;by_cases hlt:k < n
  ·have hk1:(k:Int) < (n:Int):=by omega
   go_wp2_with fail;with_reducible refine (spec_IsGraph r n A es c _ _ _ (hr.mid hm oZl).rv (by omega) true (iff_of_true rfl HG.out)).mono ?_
   rintro en w4 ⟨rfl,hm4⟩;have hE4:=owns_mid HE.out hm4 oZl;replace b0:=b0.mid hm4 oZr;replace b2:=b2.mid hm4 oZr;replace Y3:=Y3.mid hm4 oZr;replace hleft:=owns_mid hleft hm4 oZl;replace hm:=hm.trans hm4;have hGo:G+1≤w4.heap.size:=Y3.1;have HL:=Lib.hid hleft;clear hleft HE;go_wp2_with (at_builtin;refine wpList_pushI2 rfl _ _ rfl (G+1) Al k cl (upto k) rfl HL.out k rfl (by omega) hGo ?_;intro A9 c9 w9 hl9 hgr9 hat9)
   clear hat9;have hm9:=Mid.of_grownRow HL.out hgr9;have hE9:=hE4.kept hgr9 (owns_ne hE4 HL.out (by decide));go_roundw
   case rel=>exact ⟨k+1,A9,k+1,c9,by omega,by go_num,rfl,Lib.hid (by rw [upto_len]),by rw [upto_succ];exact hl9,Lib.hid hE9,b0.mid hm9 (Or.inl (by omega)),b2.mid hm9 (Or.inl (by omega)),Y3.mid hm9 (Or.inl (by omega)),hm.transNew hm9 (Or.inl (by omega))⟩
   case measure=>simp [intOf];omega
  ·obtain rfl:k=n:=by omega
   go_wp2_with fail;clear p0 p1 p2;have hGo:=Y3.1;go_loopw [5,7] (fun l iv wr=>∃ (i m s:Nat) (es1:List Ed) (A2:Option Addr) (c2:Nat) (Al:Option Addr) (cl:Nat) (xs:List Int),l=.slice Al s cl∧iv=.int .i64 i∧i+m=40∧Hid (trimA m ((s:Int),es1)=T)∧s≤m∧Hid (IsGr r s es1)∧wr.ownsRow (G+1) 3 1 (.slice Al s cl) s (ints xs) ∧
     Hid (wr.ownsRow (w.heap.size+2) 110 3 (.slice A2 es1.length c2) es1.length (ints (edI es1)))∧Hid (Value.ownBlock (.slice A2 es1.length c2)≠some G)∧Box wr w.heap.size [.int .i64 r,.int .i64 k,.slice A es.length c]∧Box wr (w.heap.size+1) [.int .i64 0,.int .i64 0,.slice none 0 0]∧Box wr G [.int .i64 r,.int .i64 s,.slice A2 es1.length c2]∧Mid 0 0 w wr) (fun _ iv _=>40 - (intOf iv).toNat)
   case atStart=>exact ⟨0,40,k,es,A1,c1,Al,cl,upto k,rfl,rfl,by omega,HT,hn40,HG,hleft,HE,Lib.hid hbk0,b0,b2,Y3,hm⟩
   case round =>
    clear hleft HE b0 b2 Y3 hm HN hGo;obtain ⟨wj,hwj⟩:∃ wj,wj=wr:=⟨_,rfl⟩
    subst hwj;obtain ⟨i,m,s,es1,A2,c2,Al,cl,xs,rfl,rfl,him,HTm,hsm,HGs,hleft,HE,HBK,b0,b2,Y3,hm⟩:=hrel;have hs1:1≤s:=by have:=HGs.out.size;omega
    have hs40:s≤40:=by have:=HGs.out.size;omega
    have hl1:=HGs.out.len;have hi40:(i:Int) < 40:=by omega
    have p0:=b0.cell 0 rfl;have p1:=b0.cell 1 rfl;have p2:=b0.cell 2 rfl;go_wp2_with fail;with_reducible refine (spec_IsGraph r k A es c _ _ _ (hr.mid hm oZl).rv (by omega) true (iff_of_true rfl HG.out)).mono ?_
    rintro en w4 ⟨rfl,hm4⟩;have hE4:=owns_mid HE.out hm4 oZl;replace HE:=Lib.hid hE4;replace b0:=b0.mid hm4 oZr;replace b2:=b2.mid hm4 oZr;replace Y3:=Y3.mid hm4 oZr;replace hleft:=owns_mid hleft hm4 oZl;replace hm:=hm.trans hm4;clear p0 p1 p2 hE4 hm4;have y0:=Y3.cell 0 rfl;have y1:=Y3.cell 1 rfl;have y2:=Y3.cell 2 rfl;go_wp2_with fail;with_reducible refine (spec_l8Leaf r s A2 es1 c2 _ _ _ (owns_rv HE.out).rg HGs.out).mono ?_
    rintro en w5 ⟨rfl,hm5⟩;have hE5:=owns_mid HE.out hm5 oZl;replace HE:=Lib.hid hE5;replace b0:=b0.mid hm5 oZr;replace b2:=b2.mid hm5 oZr;replace Y3:=Y3.mid hm5 oZr;replace hleft:=owns_mid hleft hm5 oZl;replace hm:=hm.trans hm5;clear y0 y1 y2 hE5 hm5;have y0:=Y3.cell 0 rfl;have y1:=Y3.cell 1 rfl;have y2:=Y3.cell 2 rfl;cases hlf:leaf s es1 with
    | none =>
     have hTT:=HTm.out;rw [trimA_none hlf] at hTT;have HTT:=Lib.hid hTT;rw [leafI_none hlf];have z0:=b2.cell 0 rfl;have z1:=b2.cell 1 rfl;have z2:=b2.cell 2 rfl;have zf:=b2.2.2;have hbs:=b2.1;clear hTT hlf;go_wp2_with fail;have hcl:(w.heap.size+1 == G)=false:=by simp;omega
     refine bodyPost_ret (v:=.tuple #[.agg #[.int .i64 r,.int .i64 s,.slice A2 es1.length c2],.slice Al s cl]) (by simp [results,Tryz.results183,go_sem,z0,z1,z2,zf,y0,y1,y2]) rfl ⟨A2,c2,Al,s,cl,by rw [← HTT.out],?_,?_⟩
     ·rw [← HTT.out]
      have h0:OG w5 (w.heap.size+2) w5.heap.size A2 c2 es1:=⟨Nat.le_refl _,HE.out,fun g hg=>(HE.out.lt g hg).2⟩
      refine OG.wide (OG.mid h0 (a:=w.heap.size+1) (b:=w.heap.size+2) ?_ (Or.inl (Nat.le_refl _))) (by omega) (by simp) (Nat.le_refl _);repeat (first | exact Mid.refl _ _ _ | refine Mid.stored ?_ _ (by simp;try omega) (by simp;try omega))
     ·repeat (first | exact hm | refine Mid.storeNew ?_ (by simp;try omega) _)
    | some g =>
     obtain ⟨hg1,hgs', -⟩:=leaf_spec hlf;have hgs:g < s:=by omega
     obtain ⟨m',rfl⟩:∃ m',m=m'+1:=⟨m - 1,by omega⟩
     have hTT:=HTm.out;rw [trimA_some hlf] at hTT;have HTT:=Lib.hid hTT;have HCG:=Lib.hid (cutV_gr (g:=((s:Int),es1)) HGs.out hg1 hgs');rw [leafI_some hlf];have dg0:decide ((g:Int) < 0)=false:=by simp
     clear hTT hlf hgs';obtain ⟨wk,hwk⟩:∃ wk,wk=w5:=⟨_,rfl⟩
     subst hwk;go_wp2_with fail;have hal:=(Mid.alloc wk (.cells #[] 3)).trans (Mid.alloc (wk.alloc (.cells #[] 3)) (.cells #[] 3));have T0:TwoI ((wk.alloc (.cells #[] 3)).alloc (.cells #[] 3)) wk.heap.size (.slice (some ⟨wk.heap.size,0,none⟩) 0 0) (.slice (some ⟨wk.heap.size+1,0,none⟩) 0 0) 0 0 [] []:=by
      refine ⟨(owns_empty wk 3 1).alloc _,?_,?_⟩
      ·have h:=owns_empty (wk.alloc (.cells #[] 3)) 3 1
       rw [World.size_alloc] at h;exact owns_base h (Nat.le_succ _)
      ·simp [Value.ownBlock]
     clear y0 y1 y2;go_loopw [9,10,11] (fun o rs kv wr=>∃ (kk:Nat) (Ao:Option Addr) (co:Nat) (Ar:Option Addr) (cr no:Nat) (ys:List Int),kk≤s∧kv=.int .i64 kk∧o=.slice Ao no co∧rs=.slice Ar no cr∧Hid ((but g kk).length=no)∧Hid (TwoI wr wk.heap.size (.slice Ao no co) (.slice Ar no cr) no no (but g kk) ys)∧Mid 0 0 wk wr) (fun _ _ kv _=>s - (intOf kv).toNat)
     case atStart=>exact ⟨0,_,0,_,0,0,[],Nat.zero_le _,rfl,rfl,rfl,Lib.hid rfl,Lib.hid T0,hal⟩
     case round =>
      clear T0 hal;obtain ⟨kk,Ao,co,Ar,cr,no,ys,hkk,rfl,rfl,rfl,HNo,HT2,hmy⟩:=hrel;have hno:no≤40:=by
       have h1:(but g kk).length≤kk:=by unfold but;rw [List.length_map];exact Nat.le_trans (List.length_filter_le _ _) (by simp)
       have h2:=HNo.out;omega
      have Y4:=Y3.mid hmy oZr;have y0:=Y4.cell 0 rfl;have y1:=Y4.cell 1 rfl;have y2:=Y4.cell 2 rfl;by_cases hlt:kk < s
      ·have hbs:=but_succ g kk
       have hk3:(kk:Int) < (s:Int):=by omega
       have hk0:(0:Int)≤(kk:Int):=by omega
       by_cases hkg:kk=g
       ·have d3:((kk:Int) != (g:Int))=false:=by simp;omega
        rw [if_pos hkg] at hbs;have HBS:=Lib.hid hbs;clear hbs hkg;go_wp2_with fail;go_roundw
        case rel=>exact ⟨kk+1,Ao,co,Ar,cr,no,ys,by omega,by go_num,rfl,rfl,by rw [HBS.out];exact HNo,by rw [HBS.out];exact HT2,hmy⟩
        case measure=>simp [intOf];omega
       ·have d3:((kk:Int) != (g:Int))=true:=by simp;omega
        rw [if_neg hkg] at hbs;have HBS:=Lib.hid hbs;have hsz:=hmy.size;obtain ⟨gl,rfl,hgl1,hgl2⟩:=owns_addr hleft (show 0 < s by omega);obtain ⟨y,hy⟩:=get_of_lt xs (show kk < xs.length by have h:=hleft.1;simp [ints] at h;omega);have hyc:∀ W:World,Mid wk.heap.size W.heap.size wk W→True:=fun _ _=>trivial;have HLF:=Lib.hid hleft;have HY:=Lib.hid hy;clear hbs hkg hy hyc;go_wp2_with (first | (at_builtin;refine wpList_push2 rfl _ _ rfl wk.heap.size Ao no co (but g kk) _ _ _ rfl HT2.out kk rfl (by omega) hsz ?_;intro A7 c7 w7 ht7 hm7;have hmw:=hmy.transNew hm7 (Or.inl (Nat.le_refl _));have hcx:=((owns_mid HLF.out hmw oZl).cellAt kk (by omega)).trans (show (ints xs)[kk]?=some (.int .i64 y) by simp [ints,HY.out]);have hsz7:=hmw.size;have HT7:=Lib.hid ht7.swap;clear ht7) | (at_builtin;refine wpList_push2 rfl _ _ rfl wk.heap.size Ar no cr ys _ _ _ rfl HT7.out y rfl (by omega) hsz7 ?_;intro A9 c9 w9 ht9 hm9))
        go_roundw
        case rel=>exact ⟨kk+1,A7,c7,A9,c9,no+1,ys++[y],by omega,by go_num,rfl,rfl,Lib.hid (by rw [HBS.out,List.length_append,HNo.out];rfl),Lib.hid (by rw [HBS.out];exact ht9.swap),hmw.transNew hm9 (Or.inl (Nat.le_refl _))⟩
        case measure=>simp [intOf];omega
      ·obtain rfl:kk=s:=by omega
       have hln:(but g kk).length=no:=HNo.out;have hn1:no=kk - 1:=by rw [← hln,but_len g hgs]
       obtain ⟨es2,hes2⟩:∃ es2,partE (but g kk) es1=es2:=⟨_,rfl⟩
       have hcv:cutV ((kk:Int),es1) g=((no:Int),es2):=by unfold cutV;simp only [Int.toNat_natCast];rw [hln,hes2]
       have hE6:=owns_mid HE.out hmy oZl;have hP:=spec_RenumberGraph r kk A2 es1 c2 Ao (but g kk) co wr _ _ _ _ (owns_rv hE6).rg (owns_rv HT2.out.f) HGs.out (but_nodup g kk) (fun x hx=>but_range hx) (by omega);have HN1:=Lib.hid hn1;rw [hln,hes2] at hP;have HP:=Lib.hid hP;have hTT2:=HTT.out;rw [hcv] at hTT2;have hgr2:=HCG.out;rw [hcv] at hgr2;have HTT2:=Lib.hid hTT2;have HG2:=Lib.hid hgr2;have hwks:G+1≤wk.heap.size:=Y3.1;have hto:=HT2.out.t;clear hP hTT2 hgr2 hcv hes2 hln HTT HCG HE hE6 hn1;go_wp2_with fail;with_reducible refine HP.out.mono ?_
       rintro en w8 ⟨A3,c3,rfl,hog,hm8⟩;clear HP;have hogw:wk.heap.size≤wr.heap.size:=hmy.size;replace hto:=owns_mid hto hm8 oZl;have hm28:=hmy.trans hm8;clear Y4 y0 y1 y2;replace b0:=b0.mid hm28 oZr;replace b2:=b2.mid hm28 oZr;replace Y3:=Y3.mid hm28 oZr;replace hm:=hm.trans hm28;clear hmy hm8 hm28;have y0:=Y3.cell 0 rfl;have y1:=Y3.cell 1 rfl;have y2:=Y3.cell 2 rfl;have yf:=Y3.2.2;go_wp2_with fail;have hst:=(Mid.setAt w8 G 0 (.int .i64 r)).trans ((Mid.setAt (w8.setCell ⟨G,0,none⟩ (.int .i64 r)) G 1 (.int .i64 no)).trans (Mid.setAt ((w8.setCell ⟨G,0,none⟩ (.int .i64 r)).setCell ⟨G,1,none⟩ (.int .i64 no)) G 2 (.slice A3 es2.length c3)));have Y5:=((Y3.set 0 (.int .i64 r) (by simp) rfl).set 1 (.int .i64 no) (by simp) rfl).set 2 (.slice A3 es2.length c3) (by simp) rfl;have hm5:=((hm.storeNew (p:=⟨G,0,none⟩) (by show w.heap.size≤G;omega) (.int .i64 r)).storeNew (p:=⟨G,1,none⟩) (by show w.heap.size≤G;omega) (.int .i64 no)).storeNew (p:=⟨G,2,none⟩) (by show w.heap.size≤G;omega) (.slice A3 es2.length c3);replace b0:=b0.mid hst (Or.inl (by omega));replace b2:=b2.mid hst (Or.inl (by omega));replace hto:=owns_base (owns_mid hto hst (Or.inl hwks)) hwks;have hoe:=(OG.mid hog hst (Or.inl (by omega))).ov.2.1;have hbk9:Value.ownBlock (.slice A3 es2.length c3)≠some G:=fun h=>by have:=(hoe.lt _ h).1;omega
       go_roundw
       case rel=>exact ⟨i+1,m',no,es2,A3,c3,Ar,cr,ys,rfl,by go_num,by omega,HTT2,by have:=HN1.out;omega,HG2,hto,Lib.hid (owns_base hoe (by omega)),Lib.hid hbk9,b0,b2,Y5,hm5⟩
       case measure=>simp [intOf];omega
end
section
open Go.RowKit
theorem nat_gr {r:Int} {g:Int × List Ed} (h:IsGr r g.1 g.2):∃ (n:Nat) (es:List Ed),g=((n:Int),es)∧IsGr r n es:=by
 obtain ⟨s,es⟩:=g;have h1:1≤s:=h.size.1;obtain ⟨n,rfl⟩:∃ n:Nat,s=n:=⟨s.toNat,by omega⟩
 exact ⟨n,es,rfl,h⟩
theorem spec_CoreGraph (r n:Nat) (A:Option Addr) (es:List Ed) (c:Nat) (w:World) (lo hi:Nat) (hr:RG w lo hi A es) (hg:IsGr r n es) :
  Calls Tryz.prog 104 #[graV r n A es.length c] w fun e w'=>∃ A1 c1,e=.returned (graV r (coreA r ((n:Int),es)).1 A1 (coreA r ((n:Int),es)).2.length c1)∧OG w' w.heap.size w'.heap.size A1 c1 (coreA r ((n:Int),es)).2∧Mid 0 0 w w':=by
 obtain ⟨f,fs,hF,hgf⟩:=nat_gr (foldA_gr 40 (g:=((n:Int),es)) hg);obtain ⟨t,ts,hT,hgt⟩:=nat_gr (trimA_gr 40 (g:=((f:Int),fs)) hgf);obtain ⟨q,qs,hQ, -⟩:=nat_gr (canonG_gr (g:=((t:Int),ts)) hgt);have hcore:coreA r ((n:Int),es)=((q:Int),qs):=by rw [coreA,hF,hT,hQ]
 rw [hcore];have hm0:Mid 0 0 w ((w.alloc (.cells #[.int .i64 r,.int .i64 n,.slice A es.length c] 35)).alloc (.cells #[.int .i64 0,.int .i64 0,.slice none 0 0] 35)):=(Mid.alloc _ _).trans (Mid.alloc _ _);have b2:=Box.new (w.alloc (.cells #[.int .i64 r,.int .i64 n,.slice A es.length c] 35)) #[.int .i64 0,.int .i64 0,.slice none 0 0] 35;simp only [World.size_alloc] at b2;have HG:=Lib.hid hg;have HGF:=Lib.hid hgf;have HGT:=Lib.hid hgt;have HF:=Lib.hid hF;have HT:=Lib.hid hT;have HQ:=Lib.hid hQ;clear hg hgf hgt hF hT hQ hcore;go_enter Tryz.func104,Tryz.ntmps104
 go_wp2_with fail;generalize ((w.alloc (.cells #[.int .i64 r,.int .i64 n,.slice A es.length c] 35)).alloc (.cells #[.int .i64 0,.int .i64 0,.slice none 0 0] 35))=w1 at hm0 b2 ⊢;have hP1:=spec_FoldAll r n A es c w1 _ _ (hr.mid hm0 oZl) HG.out;rw [HF.out] at hP1;with_reducible refine hP1.mono ?_
 rintro en w2 ⟨A1,c1,Al,nl,cl,rfl,ho1,hm2⟩;clear hP1;have hs1:w.heap.size+1 < w1.heap.size:=b2.1;have hs2:=hm2.size;have ha2:=Mid.alloc w2 (.cells #[.int .i64 r,.int .i64 f,.slice A1 fs.length c1] 35);have Y1:=Box.new w2 #[.int .i64 r,.int .i64 f,.slice A1 fs.length c1] 35;replace b2:=b2.mid hm2 oZr;replace hm0:=hm0.trans hm2;replace b2:=b2.mid ha2 oZr;replace ho1:=ho1.mid ha2 oZl;replace hm0:=hm0.trans ha2;dsimp only;go_wp2_with fail;generalize w2.alloc (.cells #[.int .i64 r,.int .i64 f,.slice A1 fs.length c1] 35)=w3 at hm0 b2 ho1 Y1 ha2 ⊢;have hP2:=spec_TrimGraph r f A1 fs c1 w3 _ _ (OG.rg ho1) HGF.out;rw [HT.out] at hP2;with_reducible refine hP2.mono ?_
 rintro en w4 ⟨A3,c3,Al3,nl3,cl3,rfl,ho3,hm4⟩;clear hP2;have hs3:=ha2.size;have hs4:=hm4.size;have ha4:=Mid.alloc w4 (.cells #[.int .i64 r,.int .i64 t,.slice A3 ts.length c3] 35);replace b2:=b2.mid hm4 oZr;replace hm0:=hm0.trans hm4;replace b2:=b2.mid ha4 oZr;replace ho3:=ho3.mid ha4 oZl;replace hm0:=hm0.trans ha4;dsimp only;go_wp2_with fail;generalize w4.alloc (.cells #[.int .i64 r,.int .i64 t,.slice A3 ts.length c3] 35)=w5 at hm0 b2 ho3 ha4 ⊢;have hP3:=spec_CanonicalGraph r t A3 ts c3 w5 _ _ (OG.rg ho3) HGT.out;rw [HQ.out] at hP3;with_reducible refine hP3.mono ?_
 rintro en w6 ⟨A5,c5,rfl,ho5,hm6⟩;clear hP3;have hs5:=ha4.size;replace b2:=b2.mid hm6 oZr;replace hm0:=hm0.trans hm6;have z0:=b2.cell 0 rfl;have z1:=b2.cell 1 rfl;have z2:=b2.cell 2 rfl;have zf:=b2.2.2;dsimp only at ho5;dsimp only;go_wp2_with fail;refine bodyPost_ret (v:=.agg #[.int .i64 r,.int .i64 q,.slice A5 qs.length c5]) (by simp [results,Tryz.results104,go_sem,z0,z1,z2,zf]) rfl ⟨A5,c5,rfl,?_,?_⟩
 ·refine OG.wide (OG.mid ho5 (a:=w.heap.size+1) (b:=w.heap.size+2) ?_ (Or.inl (by omega))) (by omega) (by simp) (Nat.le_refl _)
  repeat (first | exact Mid.refl _ _ _ | refine Mid.stored ?_ _ (by simp;try omega) (by simp;try omega))
 ·repeat (first | exact hm0 | refine Mid.storeNew ?_ (by simp;try omega) _)
end
section
open Go.RowKit
end
section
open Go.RowKit
theorem spec_AddPetal (r s:Int) (A:Option Addr) (es:List Ed) (c:Nat) (Aw:Option Addr) (wd:List Int) (cw:Nat) (w:World) (lo hi lo' hi':Nat) (hr:RG w lo hi A es) (hw:RV w lo' hi' Aw (ints wd)) (hl:es.length≤1048576) (hwl:wd.length≤1048576) (hok:OkI wd) (rs:Int) (res:List Ed) (b:Bool) (hres:PathIs r s es 0 wd 0 rs res b) :
  Calls Tryz.prog 181 #[graV r s A es.length c,.slice Aw wd.length cw] w fun e w'=>∃ A1 c1,e=.returned (.tuple #[graV r rs A1 res.length c1,.bool b])∧OG w' w.heap.size w'.heap.size A1 c1 res∧Mid 0 0 w w':=by
 have hm0:Mid 0 0 w ((w.alloc (.cells #[.int .i64 r,.int .i64 s,.slice A es.length c] 35)).alloc (.cells #[.int .i64 0,.int .i64 0,.slice none 0 0] 35)):=(Mid.alloc _ _).trans (Mid.alloc _ _);have b0:=(Box.new w #[.int .i64 r,.int .i64 s,.slice A es.length c] 35).mid (Mid.alloc _ (.cells #[.int .i64 0,.int .i64 0,.slice none 0 0] 35)) oZr;have b2:=Box.new (w.alloc (.cells #[.int .i64 r,.int .i64 s,.slice A es.length c] 35)) #[.int .i64 0,.int .i64 0,.slice none 0 0] 35;simp only [World.size_alloc] at b2;have HR:=Lib.hid hres;have HOK:=Lib.hid hok;clear hres hok;go_enter Tryz.func181,Tryz.ntmps181
 go_wp2_with fail;generalize ((w.alloc (.cells #[.int .i64 r,.int .i64 s,.slice A es.length c] 35)).alloc (.cells #[.int .i64 0,.int .i64 0,.slice none 0 0] 35))=w1 at hm0 b0 b2 ⊢;have hs1:w.heap.size+1 < w1.heap.size:=b2.1;with_reducible refine (spec_AddPath r s A es c 0 Aw wd cw 0 w1 _ _ _ _ (hr.mid hm0 oZl) (hw.mid hm0 oZl) hl hwl HOK.out rs res b HR.out).mono ?_
 rintro en w2 ⟨A2,c2,rfl,ho2,hm2⟩;replace b0:=b0.mid hm2 oZr;replace b2:=b2.mid hm2 oZr;replace hm0:=hm0.trans hm2;have hs2:=hm2.size;have ha2:=Mid.alloc w2 (.cells #[.int .i64 r,.int .i64 rs,.slice A2 res.length c2] 35);have Y2:=Box.new w2 #[.int .i64 r,.int .i64 rs,.slice A2 res.length c2] 35;have hs4:w.heap.size+1 < w2.heap.size:=by omega
 have hs5:w.heap.size < w2.heap.size:=by omega
 have q0:=Y2.cell 0 rfl;have q1:=Y2.cell 1 rfl;have q2:=Y2.cell 2 rfl;have z0:=b2.cell 0 rfl;have z1:=b2.cell 1 rfl;have z2:=b2.cell 2 rfl;have zf:=b2.2.2;clear ha2;go_wp2_with fail;refine bodyPost_ret (v:=.tuple #[.agg #[.int .i64 r,.int .i64 rs,.slice A2 res.length c2],.bool b]) (by simp [results,Tryz.results181,go_sem,z0,z1,z2,zf,q0,q1,q2,hs4,hs5,World.cell?_alloc_lt]) rfl ⟨A2,c2,rfl,?_,?_⟩
 ·refine OG.wide (OG.mid ho2 (a:=w.heap.size+1) (b:=w.heap.size+2) ?_ (Or.inl (by omega))) (by omega) (by simp;try omega) (Nat.le_refl _)
  repeat (first | exact Mid.refl _ _ _ | refine Mid.trans ?_ (Mid.zero (Mid.alloc _ _)) | refine Mid.stored ?_ _ (by simp;try omega) (by simp;try omega))
 ·repeat (first | exact hm0 | refine Mid.trans ?_ (Mid.alloc _ _) | refine Mid.storeNew ?_ (by simp;try omega) _)
end
section
open Go.RowKit
theorem inB_rank {x:Int} {b:Bool} (hb:b=true↔1≤x∧x≤3):inB x 1 3=b:=by
 cases b with
 | true=>have:=hb.1 rfl;unfold inB;simp;omega
 | false =>
  have h:¬ (1≤x∧x≤3):=fun h=>by have:=hb.2 h;cases this
  unfold inB;simp;omega
end
section
open Go.RowKit
theorem empty_gr {r:Int} (h:1≤r∧r≤3):IsGr r 1 []:=⟨h,by omega,by simp,by simp,List.Pairwise.nil⟩
structure FlOk (r:Int) (l:List (List Int)) (k:Nat) (g:Int × List Ed):Prop where
 gr:IsGr r g.1 g.2
 sz:g.1≤1+(sumL (l.take k):Nat)
 ln:g.2.length≤sumL (l.take k)
theorem FlOk.path {r:Int} {l:List (List Int)} {k:Nat} {g:Int × List Ed} {w:List Int} (ha:AreW r l) (h:FlOk r l k g) (hw:l[k]?=some w) (hn:w≠[]):PathOk r g.1 g.2 0 w 0:=by
 have h1:=sumL_take_succ hw;have h2:=sumL_take_le l (k+1);have h3:=ha.2.2.2.2;have h4:=h.sz;have h5:=h.ln;have h6:=h.gr.size;exact ⟨h.gr,by omega,by omega,ha.2.2.2.1 w (List.mem_of_getElem? hw),hn,by omega,by omega⟩
theorem FlOk.step {r:Int} {l:List (List Int)} {k:Nat} {g:Int × List Ed} {w:List Int} (ha:AreW r l) (h:FlOk r l k g) (hw:l[k]?=some w):FlOk r l (k+1) (petalA g w):=by
 have h1:=sumL_take_succ hw;by_cases hn:w=[]
 ·subst hn
  have h4:=h.sz;have h5:=h.ln;simp only [List.length_nil] at h1;rw [petalA,if_pos rfl];exact ⟨h.gr,by omega,by omega⟩
 ·have hp:=h.path ha hw hn
  have h4:=h.sz;have h5:=h.ln;have h6:=canon_len (g.2++pathE 0 g.1 w 0 w.length);have h7:0 < w.length:=List.length_pos_iff.2 hn;rw [List.length_append,pathE_len] at h6;rw [petalA,if_neg hn];exact ⟨path_gr hp,by simp only;omega,by simp only;omega⟩
theorem FlOk.zero {r:Int} (l:List (List Int)) (h:1≤r∧r≤3):FlOk r l 0 (1,[]):=⟨empty_gr h,by simp [sumL],by simp⟩
theorem fl_ok {r:Int} {l:List (List Int)} (ha:AreW r l):∀ k,k≤l.length→FlOk r l k (flowA (l.take k) (1,[]))
 | 0,_=>FlOk.zero l ⟨ha.1,ha.2.1⟩
 | k+1,hk=>by
  have hw:=List.getElem?_eq_getElem (l:=l) (i:=k) (by omega);rw [flowA_take hw];exact (fl_ok ha k (by omega)).step ha hw
def FlIs (rank:Int) (l:List (List Int)) (rr rs:Int) (res:List Ed) (b:Bool):Prop :=
 (b=true∧AreW rank l∧rr=rank∧rs=(flowA l (1,[])).1∧res=(flowA l (1,[])).2) ∨ (b=false∧¬ AreW rank l∧rr=0∧rs=0∧res=[])
def SubIs (rank:Int) (l:List (List Int)) (rr rs:Int) (res:List Ed) (b:Bool):Prop :=
 (b=true∧AreW rank l∧rr=rank∧rs=(coreA rank (flowA l (1,[]))).1∧res=(coreA rank (flowA l (1,[]))).2) ∨ (b=false∧¬ AreW rank l∧rr=0∧rs=0∧res=[])
theorem flow_gr {r:Int} {l:List (List Int)} (ha:AreW r l):IsGr r (flowA l (1,[])).1 (flowA l (1,[])).2:=by
 have:=(fl_ok ha l.length (Nat.le_refl _)).gr;rw [List.take_length] at this;exact this
theorem SubIs.lens {rank:Int} {l:List (List Int)} {rr rs:Int} {res:List Ed} {b:Bool} (h:SubIs rank l rr rs res b):res.length≤120:=by
 rcases h with ⟨-,h, -, -,rfl⟩ | ⟨-, -, -, -,rfl⟩
 ·exact (coreA_gr (flow_gr h)).len
 ·simp
theorem spec_NewGraph (rank:Int) (w:World) (h:1≤rank∧rank≤3) :
  Calls Tryz.prog 180 #[.int .i64 rank] w fun e w'=>e=.returned (.tuple #[graV rank 1 none 0 0,.bool true])∧Mid 0 0 w w':=by
 have hm0:Mid 0 0 w (w.alloc (.cells #[.int .i64 0,.int .i64 0,.slice none 0 0] 35)):=Mid.alloc _ _;have b2:=Box.new w #[.int .i64 0,.int .i64 0,.slice none 0 0] 35;have hi1:inB rank 1 3=true:=inB_rank (iff_of_true rfl h);go_enter Tryz.func180,Tryz.ntmps180
 go_wp2_with fail;generalize w.alloc (.cells #[.int .i64 0,.int .i64 0,.slice none 0 0] 35)=w1 at hm0 b2 ⊢;have hs1:w.heap.size < w1.heap.size:=b2.1;with_reducible refine (l1In_at hi1 _).mono ?_
 rintro en w2 ⟨rfl,rfl⟩;have z0:=b2.cell 0 rfl;have z1:=b2.cell 1 rfl;have z2:=b2.cell 2 rfl;have zf:=b2.2.2;go_wp2_with fail;refine bodyPost_ret (v:=.tuple #[.agg #[.int .i64 rank,.int .i64 1,.slice none 0 0],.bool true]) (by simp [results,Tryz.results180,go_sem,z0,z1,z2,zf]) rfl ⟨rfl,?_⟩;repeat (first | exact hm0 | refine Mid.storeNew ?_ (by simp;try omega) _)
theorem spec_FlowerOf (rank:Int) (A:Option Addr) (l:List (List Int)) (c:Nat) (w:World) (lo hi:Nat) (hr:RSS w lo hi A l) (hok:∀ xs∈l,OkI xs) (hl:l.length+sumL l≤1048576) (rr rs:Int) (res:List Ed) (b:Bool) (hres:FlIs rank l rr rs res b) :
  Calls Tryz.prog 103 #[.int .i64 rank,.slice A l.length c] w fun e w'=>∃ A1 c1,e=.returned (.tuple #[graV rr rs A1 res.length c1,.bool b])∧OG w' w.heap.size w'.heap.size A1 c1 res∧Mid 0 0 w w':=by
 have HR:=Lib.hid hres;have HOK:=Lib.hid hok;clear hres hok;obtain ⟨b1,hb1⟩:=bool_of (AreW rank l);have H1:=Lib.hid hb1;clear hb1;have hm0:Mid 0 0 w (w.alloc (.cells #[.int .i64 0,.int .i64 0,.slice none 0 0] 35)):=Mid.alloc _ _;have b2:=Box.new w #[.int .i64 0,.int .i64 0,.slice none 0 0] 35;go_enter Tryz.func103,Tryz.ntmps103
 go_wp2_with fail;generalize w.alloc (.cells #[.int .i64 0,.int .i64 0,.slice none 0 0] 35)=w1 at hm0 b2 ⊢;have hs1:w.heap.size < w1.heap.size:=b2.1;with_reducible refine (spec_AreWords rank A l c w1 _ _ (hr.mid hm0 oZl) HOK.out hl b1 H1.out).mono ?_
 rintro en w2 ⟨rfl,nd,hw2⟩;have hm2:Mid 0 0 w1 w2:=by rw [hw2];exact (Mid.refl 0 0 w1).drewN nd
 replace b2:=b2.mid hm2 oZr;replace hm0:=hm0.trans hm2;clear hw2 hm2;cases b1 with
 | false =>
  have hno:¬ AreW rank l:=fun h=>by have:=H1.out.2 h;cases this
  obtain ⟨rfl,rfl,rfl,rfl⟩:b=false∧rr=0∧rs=0∧res=[]:=by
   rcases HR.out with ⟨-,h, -⟩ | ⟨h1, -,h2⟩
   ·exact absurd h hno
   ·exact ⟨h1,h2⟩
  have z0:=b2.cell 0 rfl;have z1:=b2.cell 1 rfl;have z2:=b2.cell 2 rfl;have zf:=b2.2.2;clear hno HR;go_wp2_with fail;refine bodyPost_ret (v:=.tuple #[.agg #[.int .i64 0,.int .i64 0,.slice none 0 0],.bool false]) (by simp [results,Tryz.results103,go_sem,z0,z1,z2,zf]) rfl ⟨none,0,rfl,?_,?_⟩
  ·exact ⟨Nat.le_refl _,⟨rfl,.inl ⟨rfl,rfl⟩⟩,fun g hg=>by simp [Value.ownBlock] at hg⟩
  ·repeat (first | exact hm0 | refine Mid.trans ?_ (Mid.alloc _ _) | refine Mid.storeNew ?_ (by simp;try omega) _)
 | true =>
 have hare:=H1.out.1 rfl;have HA:=Lib.hid hare;have hrk:1≤rank∧rank≤3:=⟨hare.1,hare.2.1⟩
 obtain ⟨rfl,rfl,hrs,hre⟩:b=true∧rr=rank∧rs=(flowA l (1,[])).1∧res=(flowA l (1,[])).2:=by
  rcases HR.out with ⟨h1, -,h2⟩ | ⟨-,h, -⟩
  ·exact ⟨h1,h2⟩
  ·exact absurd hare h
 have HRS:=Lib.hid hrs;have HRE:=Lib.hid hre;clear hare H1 HR hrs hre;go_wp2_with fail;with_reducible refine (spec_NewGraph rr _ hrk).mono ?_
 rintro en w4 ⟨rfl,hm4⟩;have hs4:=hm4.size;have ha4:=Mid.alloc w4 (.cells #[.int .i64 rr,.int .i64 1,.slice none 0 0] 35);have Y4:=Box.new w4 #[.int .i64 rr,.int .i64 1,.slice none 0 0] 35;replace b2:=b2.mid hm4 oZr;replace hm0:=hm0.trans hm4;have hb4:=b2.1;replace b2:=b2.mid ha4 oZr;replace hm0:=hm0.trans ha4;go_wp2_with fail;generalize w4.alloc (.cells #[.int .i64 rr,.int .i64 1,.slice none 0 0] 35)=w5 at b2 Y4 hm0 ⊢;have hs5:w4.heap.size < w5.heap.size:=Y4.1;clear ha4 hm4;generalize hG:w4.heap.size=Gb at Y4 hb4 hs5;clear hG hs4;have hhi:=hr.size;go_loopw [8] (fun i wr=>∃ (k:Nat) (A2:Option Addr) (c2 hi2:Nat) (g:Int × List Ed),k≤l.length∧i=.int .i64 k∧Hid (g=flowA (l.take k) (1,[]))∧Hid (FlOk rr l k g)∧OG wr (Gb+1) hi2 A2 c2 g.2 ∧
   Box wr w.heap.size [.int .i64 0,.int .i64 0,.slice none 0 0]∧Box wr Gb [.int .i64 rr,.int .i64 g.1,.slice A2 g.2.length c2]∧Mid 0 0 w wr) (fun i _=>l.length - (intOf i).toNat)
 case atStart=>exact ⟨0,none,0,_,(1,[]),Nat.zero_le _,rfl,Lib.hid rfl,Lib.hid (FlOk.zero l hrk),OG.nil,b2,Y4,hm0⟩
 case round =>
  clear b2 Y4 hm0 hs5;obtain ⟨wo,hwo⟩:∃ wo,wo=wr:=⟨_,rfl⟩
  subst hwo;obtain ⟨k,A2,c2,hi2,⟨gs,ge⟩,hk,rfl,HGE,HFL,hown,Z2,Z3,hm⟩:=hrel;dsimp only at hown Z3;have hGo:Gb < wo.heap.size:=Z3.1;have hgl:=HFL.out.gr.len;dsimp only at hgl;by_cases hlt:k < l.length
  ·obtain ⟨Bp,op,Ap,cp,p,rfl, -,hBp,hp,hcp,hrp⟩:=(hr.mid hm oZl).row hlt
   have hpl:p.length≤1048576:=by have:=len_le_sumL (List.mem_of_getElem? hp);omega
   have hk1:(k:Int) < (l.length:Int):=by omega
   have hk0:(0:Int)≤(k:Int):=by omega
   have hBps:Bp < wo.heap.size:=by omega
   have HP:=Lib.hid hp;have hft:=flowA_take hp (1,[]);rw [← HGE.out] at hft;have HFT:=Lib.hid hft;have HST:=Lib.hid (HFL.out.step HA.out hp);clear hp hft;obtain ⟨bb,hPI⟩:∃ bb,PathIs rr gs ge 0 p 0 (petalA (gs,ge) p).1 (petalA (gs,ge) p).2 bb:=by
    by_cases hne:p=[]
    ·subst hne
     rw [petalA,if_pos rfl];exact ⟨false,.inr ⟨rfl,fun h=>h.ne rfl,rfl,rfl⟩⟩
    ·rw [petalA,if_neg hne]
     exact ⟨true,.inl ⟨rfl,HFL.out.path HA.out HP.out hne,rfl,rfl⟩⟩
   obtain ⟨g',hg'⟩:∃ g',petalA (gs,ge) p=g':=⟨_,rfl⟩
   rw [hg'] at hPI;have HG2:Hid (g'=flowA (l.take (k+1)) (1,[])):=Lib.hid (by rw [HFT.out,← hg']);have HF2:Hid (FlOk rr l (k+1) g'):=Lib.hid (by rw [← hg'];exact HST.out);have hP:=fun W (h1:RG W (Gb+1) hi2 A2 ge) (h2:RV W lo hi Ap (ints p))=>spec_AddPetal rr gs A2 ge c2 Ap p cp W _ _ _ _ h1 h2 (by omega) hpl (HOK.out p (List.mem_of_getElem? HP.out)) g'.1 g'.2 bb hPI;have HPP:=Lib.hid hP;clear hg' HST HFT hPI hP;go_wp2_with fail;have hmd:=Mid.drew1 wo;have hsd:=hmd.size;replace Z2:=Z2.mid hmd oZr;replace Z3:=Z3.mid hmd oZr;replace hown:=hown.mid hmd oZl;replace hm:=hm.trans hmd;replace hrp:=hrp.mid hmd oZl;replace hcp:=cell_keep hmd hBps oZr hcp;have q0:=Z3.cell 0 rfl;have q1:=Z3.cell 1 rfl;have q2:=Z3.cell 2 rfl;clear hmd;refine wp_region_Z (S:=(fun w'=>(w'.cell? ⟨Gb,0,none⟩=some (.int .i64 rr)∧w'.cell? ⟨Gb,1,none⟩=some (.int .i64 gs)∧w'.cell? ⟨Gb,2,none⟩=some (.slice A2 ge.length c2))∧w'.cell? ⟨Bp,op+k,none⟩=some (.slice Ap p.length cp))) [] (by kernel_rfl) ⟨⟨q0,q1,q2⟩,hcp⟩ ?_;generalize World.drew wo=wz at Z2 Z3 hown hm hrp hcp q0 q1 q2 hsd ⊢;have hS:(wz.cell? ⟨Gb,0,none⟩=some (.int .i64 rr)∧wz.cell? ⟨Gb,1,none⟩=some (.int .i64 gs)∧wz.cell? ⟨Gb,2,none⟩=some (.slice A2 ge.length c2))∧wz.cell? ⟨Bp,op+k,none⟩=some (.slice Ap p.length cp):=⟨⟨q0,q1,q2⟩,hcp⟩
   have hBz:Bp < wz.heap.size:=by omega
   refine tkZ [] 0 rfl hS ?_;try simp only [Act.put,zs1,zs2,zs3,zs4,zs5,zs6]
   refine tkZ [] 1 rfl hS ?_;try simp only [Act.put,zs1,zs2,zs3,zs4,zs5,zs6]
   refine tkZ [] 2 rfl hS ?_;try simp only [Act.put,zs1,zs2,zs3,zs4,zs5,zs6]
   refine tkZ [] 3 rfl hS ?_;try simp only [Act.put,zs1,zs2,zs3,zs4,zs5,zs6]
   refine tkZ [] 4 rfl hS ?_;try simp only [Act.put,zs1,zs2,zs3,zs4,zs5,zs6]
   refine wpAnyZ_ready (rs:=[5,9]) (by kernel_rfl) (by simp) (AllReadyZ.cons rfl (fun K hK=>?_) (AllReadyZ.cons rfl (fun K hK=>?_) AllReadyZ.nil))
   ·(go_simp;(with_reducible refine (HPP.out _ hown.rg hrp).mono ?_);rintro en w10 ⟨A6,c6,rfl,ho6,hm10⟩;have Z30:=Z3.mid hm10 oZr;have hcp0:=cell_keep hm10 hBz oZr hcp;go_wp2_with fail)
    refine hK.out _ _ (Or.inr ⟨⟨Z30.cell 0 rfl,Z30.cell 1 rfl,Z30.cell 2 rfl⟩,hcp0⟩) (fun _=>?_);clear hK K;try simp only [Act.put,zs1,zs2,zs3,zs4,zs5,zs6]
    replace Z2:=Z2.mid hm10 oZr;replace hm:=hm.trans hm10;have hs10:=hm10.size;have hS10:=And.intro (And.intro (Z30.cell 0 rfl) (And.intro (Z30.cell 1 rfl) (Z30.cell 2 rfl))) hcp0;clear Z3 hS q0 q1 q2 hown HPP;refine tkZ [] 6 rfl hS10 ?_;try simp only [Act.put,zs1,zs2,zs3,zs4,zs5,zs6]
    refine tkZ [] 7 rfl hS10 ?_;try simp only [Act.put,zs1,zs2,zs3,zs4,zs5,zs6]
    refine tkZ [] 8 rfl hS10 ?_;try simp only [Act.put,zs1,zs2,zs3,zs4,zs5,zs6]
    have hal:=Mid.alloc w10 (.cells #[.int .i64 0,.int .i64 0,.slice none 0 0] 35);have Z31:=Z30.mid hal oZr;have hcp1:=cell_keep hal (by omega) oZr hcp0;refine rdZ 9 rfl (fun K hK=>?_);go_simp;refine hK.out _ _ (Or.inr ⟨⟨Z31.cell 0 rfl,Z31.cell 1 rfl,Z31.cell 2 rfl⟩,hcp1⟩) (fun _=>?_);clear hK K;try simp only [Act.put,zs1,zs2,zs3,zs4,zs5,zs6]
    clear hal Z31 hcp1;have hal:=Mid.alloc w10 (.cells #[.int .i64 rr,.int .i64 g'.1,.slice A6 g'.2.length c6] 35);have Z31:=Z30.mid hal oZr;have hcp1:=cell_keep hal (by omega) oZr hcp0;refine rdZ 10 rfl (fun K hK=>?_);go_simp;refine hK.out _ _ (Or.inr ⟨⟨Z31.cell 0 rfl,Z31.cell 1 rfl,Z31.cell 2 rfl⟩,hcp1⟩) (fun _=>?_);clear hK K;try simp only [Act.put,zs1,zs2,zs3,zs4,zs5,zs6]
    refine rdZ 11 rfl (fun K hK=>?_);go_simp;refine hK.out _ _ (Or.inr ⟨⟨Z31.cell 0 rfl,Z31.cell 1 rfl,Z31.cell 2 rfl⟩,hcp1⟩) (fun _=>?_);clear hK K;try simp only [Act.put,zs1,zs2,zs3,zs4,zs5,zs6]
    refine wpAnyZ_done (by kernel_rfl) ?_ _;have Zx:=Box.new w10 #[.int .i64 rr,.int .i64 g'.1,.slice A6 g'.2.length c6] 35;replace ho6:=ho6.mid hal oZl;replace Z2:=Z2.mid hal oZr;replace hm:=hm.trans hal;have hgz:Gb+1≤w10.heap.size:=by omega
    have Z3:=Z31;clear Z30 Z31 hS10 hal hcp0 hcp1 hm10;generalize w10.alloc (.cells #[.int .i64 rr,.int .i64 g'.1,.slice A6 g'.2.length c6] 35)=w11 at Z2 Z3 Zx ho6 hm ⊢;generalize w10.heap.size=Gz at Zx hgz ho6 ⊢;have hst:=((Mid.setCell w11 (lo:=Gb) (hi:=Gb+1) (p:=⟨Gb,0,none⟩) (.int .i64 rr) (Nat.le_refl _) (Nat.lt_succ_self _)).trans (Mid.setCell _ (lo:=Gb) (hi:=Gb+1) (p:=⟨Gb,1,none⟩) (.int .i64 g'.1) (Nat.le_refl _) (Nat.lt_succ_self _))).trans (Mid.setCell _ (lo:=Gb) (hi:=Gb+1) (p:=⟨Gb,2,none⟩) (.slice A6 g'.2.length c6) (Nat.le_refl _) (Nat.lt_succ_self _));have Y7:=((Z3.set 0 (.int .i64 rr) (by simp) rfl).set 1 (.int .i64 g'.1) (by simp) rfl).set 2 (.slice A6 g'.2.length c6) (by simp) rfl;simp only [List.set_cons_succ,List.set_cons_zero] at Y7;have x0:=Zx.cell 0 rfl;have x1:=Zx.cell 1 rfl;have x2:=Zx.cell 2 rfl;have q0:=Z3.cell 0 rfl;have q1:=Z3.cell 1 rfl;have q2:=Z3.cell 2 rfl;have qf:=Z3.2.2;go_wp2_with fail;go_roundw
    case rel=>exact ⟨k+1,A6,c6,_,g',hlt,by go_num,HG2,HF2,(ho6.wide (lo':=Gb+1) (by omega) (Nat.le_refl _) ho6.size).mid hst (Or.inl (Nat.le_refl _)),Z2.mid hst (Or.inl (by omega)),Y7,((hm.storeNew (p:=⟨Gb,0,none⟩) (by show w.heap.size≤Gb;omega) (.int .i64 rr)).storeNew (p:=⟨Gb,1,none⟩) (by show w.heap.size≤Gb;omega) (.int .i64 g'.1)).storeNew (p:=⟨Gb,2,none⟩) (by show w.heap.size≤Gb;omega) (.slice A6 g'.2.length c6)⟩
    case measure=>simp [intOf];omega
   ·have hal:=Mid.alloc wz (.cells #[.int .i64 0,.int .i64 0,.slice none 0 0] 35)
    have Z31:=Z3.mid hal oZr;have hcp1:=cell_keep hal hBz oZr hcp;have Zx:=Box.new wz #[.int .i64 0,.int .i64 0,.slice none 0 0] 35;have hown1:=hown.mid hal oZl;have hrp1:=hrp.mid hal oZl;have hsl:=hal.size;go_simp;refine hK.out _ _ (Or.inr ⟨⟨Z31.cell 0 rfl,Z31.cell 1 rfl,Z31.cell 2 rfl⟩,hcp1⟩) (fun _=>?_);clear hK K;try simp only [Act.put,zs1,zs2,zs3,zs4,zs5,zs6]
    replace Z2:=Z2.mid hal oZr;replace hm:=hm.trans hal;clear Z3 hS q0 q1 q2 hown hrp hcp hal;have hzb:wz.heap.size < (wz.alloc (.cells #[.int .i64 0,.int .i64 0,.slice none 0 0] 35)).heap.size:=Zx.1;generalize wz.alloc (.cells #[.int .i64 0,.int .i64 0,.slice none 0 0] 35)=wy at Z31 Zx hown1 hrp1 hcp1 Z2 hm hsl hzb ⊢;have hBy:Bp < wy.heap.size:=by omega
    refine rdZ 5 rfl (fun K hK=>?_)
    (go_simp;(with_reducible refine (HPP.out _ hown1.rg hrp1).mono ?_);rintro en w10 ⟨A6,c6,rfl,ho6,hm10⟩;have Z30:=Z31.mid hm10 oZr;have hcp0:=cell_keep hm10 hBy oZr hcp1;go_wp2_with fail)
    refine hK.out _ _ (Or.inr ⟨⟨Z30.cell 0 rfl,Z30.cell 1 rfl,Z30.cell 2 rfl⟩,hcp0⟩) (fun _=>?_);clear hK K;try simp only [Act.put,zs1,zs2,zs3,zs4,zs5,zs6]
    replace Z2:=Z2.mid hm10 oZr;replace Zx:=Zx.mid hm10 oZr;replace hm:=hm.trans hm10;have hs10:=hm10.size;have hS10:=And.intro (And.intro (Z30.cell 0 rfl) (And.intro (Z30.cell 1 rfl) (Z30.cell 2 rfl))) hcp0;clear Z31 hown1 HPP hrp1 hcp1;refine tkZ [] 6 rfl hS10 ?_;try simp only [Act.put,zs1,zs2,zs3,zs4,zs5,zs6]
    refine tkZ [] 7 rfl hS10 ?_;try simp only [Act.put,zs1,zs2,zs3,zs4,zs5,zs6]
    refine tkZ [] 8 rfl hS10 ?_;try simp only [Act.put,zs1,zs2,zs3,zs4,zs5,zs6]
    have zzf:=Zx.2.2;have zz0:=Zx.cell 0 rfl;have zz1:=Zx.cell 1 rfl;have zz2:=Zx.cell 2 rfl;have hst:=((Mid.setCell w10 (lo:=wz.heap.size) (hi:=wz.heap.size+1) (p:=⟨wz.heap.size,0,none⟩) (.int .i64 rr) (Nat.le_refl _) (Nat.lt_succ_self _)).trans (Mid.setCell _ (lo:=wz.heap.size) (hi:=wz.heap.size+1) (p:=⟨wz.heap.size,1,none⟩) (.int .i64 g'.1) (Nat.le_refl _) (Nat.lt_succ_self _))).trans (Mid.setCell _ (lo:=wz.heap.size) (hi:=wz.heap.size+1) (p:=⟨wz.heap.size,2,none⟩) (.slice A6 g'.2.length c6) (Nat.le_refl _) (Nat.lt_succ_self _));have Z32:=Z30.mid hst (Or.inl (by omega));have hcp2:=cell_keep hst (by omega) (Or.inl hBz) hcp0;refine rdZ 10 rfl (fun K hK=>?_);go_simp;refine hK.out _ _ (Or.inr ⟨⟨Z32.cell 0 rfl,Z32.cell 1 rfl,Z32.cell 2 rfl⟩,hcp2⟩) (fun _=>?_);clear hK K;try simp only [Act.put,zs1,zs2,zs3,zs4,zs5,zs6]
    refine rdZ 11 rfl (fun K hK=>?_);go_simp;refine hK.out _ _ (Or.inr ⟨⟨Z32.cell 0 rfl,Z32.cell 1 rfl,Z32.cell 2 rfl⟩,hcp2⟩) (fun _=>?_);clear hK K;try simp only [Act.put,zs1,zs2,zs3,zs4,zs5,zs6]
    refine wpAnyZ_done (by kernel_rfl) ?_ _;replace ho6:=ho6.mid hst (Or.inl (by omega));replace Z2:=Z2.mid hst (Or.inl (by omega));replace Zx:=((Zx.set 0 (.int .i64 rr) (by simp) rfl).set 1 (.int .i64 g'.1) (by simp) rfl).set 2 (.slice A6 g'.2.length c6) (by simp) rfl;simp only [List.set_cons_succ,List.set_cons_zero] at Zx;replace hm:=((hm.storeNew (p:=⟨wz.heap.size,0,none⟩) (by show w.heap.size≤wz.heap.size;omega) (.int .i64 rr)).storeNew (p:=⟨wz.heap.size,1,none⟩) (by show w.heap.size≤wz.heap.size;omega) (.int .i64 g'.1)).storeNew (p:=⟨wz.heap.size,2,none⟩) (by show w.heap.size≤wz.heap.size;omega) (.slice A6 g'.2.length c6);have hgz:Gb+1≤wz.heap.size:=by omega
    have Z3:=Z32;clear Z30 Z32 hS10 hst hcp0 hcp2 hm10 zz0 zz1 zz2 zzf;generalize ((w10.setCell ⟨wz.heap.size,0,none⟩ (.int .i64 rr)).setCell ⟨wz.heap.size,1,none⟩ (.int .i64 g'.1)).setCell ⟨wz.heap.size,2,none⟩ (.slice A6 g'.2.length c6)=w11 at Z2 Z3 Zx ho6 hm ⊢;generalize wz.heap.size=Gz at Zx hgz hzb ⊢;have hst:=((Mid.setCell w11 (lo:=Gb) (hi:=Gb+1) (p:=⟨Gb,0,none⟩) (.int .i64 rr) (Nat.le_refl _) (Nat.lt_succ_self _)).trans (Mid.setCell _ (lo:=Gb) (hi:=Gb+1) (p:=⟨Gb,1,none⟩) (.int .i64 g'.1) (Nat.le_refl _) (Nat.lt_succ_self _))).trans (Mid.setCell _ (lo:=Gb) (hi:=Gb+1) (p:=⟨Gb,2,none⟩) (.slice A6 g'.2.length c6) (Nat.le_refl _) (Nat.lt_succ_self _));have Y7:=((Z3.set 0 (.int .i64 rr) (by simp) rfl).set 1 (.int .i64 g'.1) (by simp) rfl).set 2 (.slice A6 g'.2.length c6) (by simp) rfl;simp only [List.set_cons_succ,List.set_cons_zero] at Y7;have x0:=Zx.cell 0 rfl;have x1:=Zx.cell 1 rfl;have x2:=Zx.cell 2 rfl;have q0:=Z3.cell 0 rfl;have q1:=Z3.cell 1 rfl;have q2:=Z3.cell 2 rfl;have qf:=Z3.2.2;go_wp2_with fail;go_roundw
    case rel=>exact ⟨k+1,A6,c6,_,g',hlt,by go_num,HG2,HF2,(ho6.wide (lo':=Gb+1) (by omega) (Nat.le_refl _) ho6.size).mid hst (Or.inl (Nat.le_refl _)),Z2.mid hst (Or.inl (by omega)),Y7,((hm.storeNew (p:=⟨Gb,0,none⟩) (by show w.heap.size≤Gb;omega) (.int .i64 rr)).storeNew (p:=⟨Gb,1,none⟩) (by show w.heap.size≤Gb;omega) (.int .i64 g'.1)).storeNew (p:=⟨Gb,2,none⟩) (by show w.heap.size≤Gb;omega) (.slice A6 g'.2.length c6)⟩
    case measure=>simp [intOf];omega
  ·obtain rfl:k=l.length:=by omega
   rw [List.take_length] at HGE;have hrs2:rs=gs:=by rw [HRS.out,← HGE.out]
   have hre2:res=ge:=by rw [HRE.out,← HGE.out]
   clear HRS HRE HGE HFL;subst hrs2;subst res;have z0:=Z2.cell 0 rfl;have z1:=Z2.cell 1 rfl;have z2:=Z2.cell 2 rfl;have q0:=Z3.cell 0 rfl;have q1:=Z3.cell 1 rfl;have q2:=Z3.cell 2 rfl;have zf:=Z2.2.2;have hcl:(w.heap.size == Gb)=false:=by simp;omega
   go_wp2_with fail;refine bodyPost_ret (v:=.tuple #[.agg #[.int .i64 rr,.int .i64 rs,.slice A2 ge.length c2],.bool true]) (by simp [results,Tryz.results103,go_sem,z0,z1,z2,zf,q0,q1,q2]) rfl ⟨A2,c2,rfl,?_,?_⟩
   ·refine OG.wide (OG.mid hown (a:=w.heap.size) (b:=w.heap.size+1) ?_ (Or.inl (by omega))) (by omega) (by have:=hown.size;simp;omega) (Nat.le_refl _)
    repeat (first | exact Mid.refl _ _ _ | refine Mid.stored ?_ _ (by simp;try omega) (by simp;try omega))
   ·repeat (first | exact hm | refine Mid.storeNew ?_ (by simp;try omega) _)
theorem spec_SubgroupOf (rank:Int) (A:Option Addr) (l:List (List Int)) (c:Nat) (w:World) (lo hi:Nat) (hr:RSS w lo hi A l) (hok:∀ xs∈l,OkI xs) (hl:l.length+sumL l≤1048576) (rr rs:Int) (res:List Ed) (b:Bool) (hres:SubIs rank l rr rs res b) :
  Calls Tryz.prog 15 #[.int .i64 rank,.slice A l.length c] w fun e w'=>∃ A1 c1,e=.returned (.tuple #[graV rr rs A1 res.length c1,.bool b])∧OG w' w.heap.size w'.heap.size A1 c1 res∧Mid 0 0 w w':=by
 have HOK:=Lib.hid hok;clear hok;have hm0:Mid 0 0 w (w.alloc (.cells #[.int .i64 0,.int .i64 0,.slice none 0 0] 35)):=Mid.alloc _ _;have b2:=Box.new w #[.int .i64 0,.int .i64 0,.slice none 0 0] 35;by_cases ha:AreW rank l
 ·obtain ⟨rfl,rfl,hrs,hre⟩:b=true∧rr=rank∧rs=(coreA rank (flowA l (1,[]))).1∧res=(coreA rank (flowA l (1,[]))).2:=by
   rcases hres with ⟨h1, -,h2⟩ | ⟨-,h, -⟩
   ·exact ⟨h1,h2⟩
   ·exact absurd ha h
  have hfg:=flow_gr ha;obtain ⟨rn,rfl⟩:∃ rn:Nat,rr=rn:=⟨rr.toNat,by have:=hfg.rank;omega⟩
  have hFI:FlIs rn l rn (flowA l (1,[])).1 (flowA l (1,[])).2 true:=.inl ⟨rfl,ha,rfl,rfl,rfl⟩;obtain ⟨⟨fs,ms⟩,hF⟩:∃ F,flowA l (1,[])=F:=⟨_,rfl⟩
  rw [hF] at hFI hrs hre hfg;obtain ⟨sn,rfl⟩:∃ sn:Nat,fs=sn:=⟨fs.toNat,by have:=hfg.size;simp only at this;omega⟩
  obtain ⟨q,qs,hQ, -⟩:=nat_gr (coreA_gr (g:=((sn:Int),ms)) hfg);rw [hQ] at hrs hre;subst hrs;subst res;have HFI:=Lib.hid hFI;have HFG:=Lib.hid hfg;have HQ:=Lib.hid hQ;clear hres ha hFI hfg hF hQ;go_enter Tryz.func15,Tryz.ntmps15
  go_wp2_with fail;generalize w.alloc (.cells #[.int .i64 0,.int .i64 0,.slice none 0 0] 35)=w1 at hm0 b2 ⊢;have hs1:w.heap.size < w1.heap.size:=b2.1;with_reducible refine (spec_FlowerOf rn A l c w1 _ _ (hr.mid hm0 oZl) HOK.out hl rn sn ms true HFI.out).mono ?_
  rintro en w4 ⟨A4,c4,rfl,ho4,hm4⟩;have hs4:=hm4.size;have ha4:=Mid.alloc w4 (.cells #[.int .i64 rn,.int .i64 sn,.slice A4 ms.length c4] 35);have Y4:=Box.new w4 #[.int .i64 rn,.int .i64 sn,.slice A4 ms.length c4] 35;replace b2:=b2.mid hm4 oZr;replace hm0:=hm0.trans hm4;replace b2:=b2.mid ha4 oZr;replace ho4:=ho4.mid ha4 oZl;replace hm0:=hm0.trans ha4;have hsa:=ha4.size;have y0:=Y4.cell 0 rfl;have y1:=Y4.cell 1 rfl;have y2:=Y4.cell 2 rfl;have hP:=spec_CoreGraph rn sn A4 ms c4 (w4.alloc (.cells #[.int .i64 rn,.int .i64 sn,.slice A4 ms.length c4] 35)) _ _ (OG.rg ho4) HFG.out;rw [HQ.out] at hP;dsimp only at hP;have HPP:=Lib.hid hP;clear hP;go_wp2_with fail;with_reducible refine HPP.out.mono ?_
  rintro en w6 ⟨A5,c5,rfl,ho5,hm6⟩;clear HPP;replace b2:=b2.mid hm6 oZr;replace hm0:=hm0.trans hm6;have z0:=b2.cell 0 rfl;have z1:=b2.cell 1 rfl;have z2:=b2.cell 2 rfl;have zf:=b2.2.2;go_wp2_with fail;refine bodyPost_ret (v:=.tuple #[.agg #[.int .i64 rn,.int .i64 q,.slice A5 qs.length c5],.bool true]) (by simp [results,Tryz.results15,go_sem,z0,z1,z2,zf]) rfl ⟨A5,c5,rfl,?_,?_⟩
  ·refine OG.wide (OG.mid ho5 (a:=w.heap.size) (b:=w.heap.size+1) ?_ (Or.inl (by omega))) (by omega) (by simp) (Nat.le_refl _)
   repeat (first | exact Mid.refl _ _ _ | refine Mid.stored ?_ _ (by simp;try omega) (by simp;try omega))
  ·repeat (first | exact hm0 | refine Mid.storeNew ?_ (by simp;try omega) _)
 ·obtain ⟨rfl,rfl,rfl,rfl⟩:b=false∧rr=0∧rs=0∧res=[]:=by
   rcases hres with ⟨-,h, -⟩ | ⟨h1, -,h2⟩
   ·exact absurd h ha
   ·exact ⟨h1,h2⟩
  have hFI:FlIs rank l 0 0 [] false:=.inr ⟨rfl,ha,rfl,rfl,rfl⟩;have HFI:=Lib.hid hFI;clear hres ha hFI;go_enter Tryz.func15,Tryz.ntmps15
  go_wp2_with fail;generalize w.alloc (.cells #[.int .i64 0,.int .i64 0,.slice none 0 0] 35)=w1 at hm0 b2 ⊢;have hs1:w.heap.size < w1.heap.size:=b2.1;with_reducible refine (spec_FlowerOf rank A l c w1 _ _ (hr.mid hm0 oZl) HOK.out hl 0 0 [] false HFI.out).mono ?_
  rintro en w4 ⟨A4,c4,rfl, -,hm4⟩;replace b2:=b2.mid hm4 oZr;replace hm0:=hm0.trans hm4;have hb23:w.heap.size < w4.heap.size:=b2.1;have z0:=b2.cell 0 rfl;have z1:=b2.cell 1 rfl;have z2:=b2.cell 2 rfl;have zf:=b2.2.2;go_wp2_with fail;refine bodyPost_ret (v:=.tuple #[.agg #[.int .i64 0,.int .i64 0,.slice none 0 0],.bool false]) (by simp [results,Tryz.results15,go_sem,z0,z1,z2,zf,hb23,World.cell?_alloc_lt]) rfl ⟨none,0,rfl,?_,?_⟩
  ·exact ⟨Nat.le_refl _,⟨rfl,.inl ⟨rfl,rfl⟩⟩,fun g hg=>by simp [Value.ownBlock] at hg⟩
  ·repeat (first | exact hm0 | refine Mid.trans ?_ (Mid.alloc _ _) | refine Mid.storeNew ?_ (by simp;try omega) _)
end
section
open Go.RowKit
noncomputable def subA (r:Int) (l:List (List Int)):Int × List Ed:=coreA r (flowA l (1,[]))
theorem sub_yes {r:Int} {d:List (List Int)} (h:AreW r d):SubIs r d r (subA r d).1 (subA r d).2 true:=.inl ⟨rfl,h,rfl,rfl,rfl⟩
end
end Go.Proofs.YtkimajabegojoaaGreat
