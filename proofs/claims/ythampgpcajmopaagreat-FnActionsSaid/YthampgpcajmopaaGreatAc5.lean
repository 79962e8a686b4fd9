/- Contracts and lemmas of this seat, many texts in one: see the words ahead of each. No condition beyond those typed in each lemma. -/
import Derived.Test.YthampgpcajmopaaGreatAc4
import Derived.ChangeAlike
import Derived.Test.YthampgpcajmopaaGreatAc2
import Derived.Test.YthampgpcajmopaaGreatAc3
import Derived.Test.YthampgpcajmopaaGreatAc1

namespace Go.Proofs.YthampgpcajmopaaGreat
set_option linter.unusedVariables false
set_option linter.unusedSimpArgs false
set_option maxHeartbeats 40000000
set_option maxRecDepth 100000
section
open Go.RowKit
attribute [local go_sem ↓] Go.wp_at_zero Go.wp_at_succ
theorem map_step {es:List Ed} {f:Ed→Ed} {k:Nat} {e:Ed} (h:es[k]?=some e):((es.take k).map f++es.drop k).set k (f e)=(es.take (k+1)).map f++es.drop (k+1):=by
 obtain ⟨hk,h'⟩:=List.getElem?_eq_some_iff.1 h;have hl:((es.take k).map f).length=k:=by rw [List.length_map,List.length_take];omega
 rw [List.drop_eq_getElem_cons hk,h',List.set_append_right _ _ (by omega),hl,Nat.sub_self,List.set_cons_zero,take_snoc h,List.map_append];simp
theorem map_here {es:List Ed} {f:Ed→Ed} {k:Nat} {e:Ed} (h:es[k]?=some e):((es.take k).map f++es.drop k)[k]?=some e:=by
 obtain ⟨hk,h'⟩:=List.getElem?_eq_some_iff.1 h;have hl:((es.take k).map f).length=k:=by rw [List.length_map,List.length_take];omega
 rw [List.getElem?_append_right (by omega),hl,Nat.sub_self,List.getElem?_drop,Nat.add_zero,h]
theorem impl_MergeVertices (r s:Int) (A:Option Addr) (es:List Ed) (c:Nat) (p1 p2:Int) (w:World) (lo hi:Nat) (hr:RG w lo hi A es) (hg:IsGr r s es) (h0:0≤p1) (h1:p1 < p2) (h2:p2 < s) :
  Calls Tryz.prog 228 #[graV r s A es.length c,.agg #[.int .i64 p1,.int .i64 p2]] w fun e w'=>∃ A1 c1,e=.returned (.tuple #[graV r (s - 1) A1 (mergeE (p1,p2) es).length c1,.bool true])∧OG w' w.heap.size w'.heap.size A1 c1 (mergeE (p1,p2) es)∧Mid 0 0 w w':=by
 have hl:=hg.len;have hs40:=hg.size;have HG:=Lib.hid hg;have hm0:Mid 0 0 w (((w.alloc (.cells #[.int .i64 r,.int .i64 s,.slice A es.length c] 26)).alloc (.cells #[.int .i64 p1,.int .i64 p2] 130)).alloc (.cells #[.int .i64 0,.int .i64 0,.slice none 0 0] 26)):=((Mid.alloc _ _).trans (Mid.alloc _ _)).trans (Mid.alloc _ _);have b0:=((Box.new w #[.int .i64 r,.int .i64 s,.slice A es.length c] 26).mid (Mid.alloc _ (.cells #[.int .i64 p1,.int .i64 p2] 130)) oZr).mid (Mid.alloc _ (.cells #[.int .i64 0,.int .i64 0,.slice none 0 0] 26)) oZr;have bf:=(Box.new (w.alloc (.cells #[.int .i64 r,.int .i64 s,.slice A es.length c] 26)) #[.int .i64 p1,.int .i64 p2] 130).mid (Mid.alloc _ (.cells #[.int .i64 0,.int .i64 0,.slice none 0 0] 26)) oZr;have b2:=Box.new ((w.alloc (.cells #[.int .i64 r,.int .i64 s,.slice A es.length c] 26)).alloc (.cells #[.int .i64 p1,.int .i64 p2] 130)) #[.int .i64 0,.int .i64 0,.slice none 0 0] 26;simp only [World.size_alloc,Nat.add_assoc,Nat.reduceAdd] at bf b2;have d1:decide (p1 < 0)=false:=by simp;omega
 have d2:decide (p2≤p1)=false:=by simp;omega
 have d3:decide (s≤p2)=false:=by simp;omega
 clear hg;go_enter Tryz.func228,Tryz.ntmps228
 go_wp2_with fail;generalize hw1:(((w.alloc (.cells #[.int .i64 r,.int .i64 s,.slice A es.length c] 26)).alloc (.cells #[.int .i64 p1,.int .i64 p2] 130)).alloc (.cells #[.int .i64 0,.int .i64 0,.slice none 0 0] 26))=w1 at hm0 b0 bf b2 ⊢;clear hw1;with_reducible refine (impl_copyGraph r s A es c _ _ _ (hr.mid hm0 oZl) (by omega)).mono ?_
 rintro en w2 ⟨A1,c1,rfl,ho,hm2⟩;have hs2:w.heap.size+2 < w1.heap.size:=b2.1;replace b0:=b0.mid hm2 oZr;replace bf:=bf.mid hm2 oZr;replace b2:=b2.mid hm2 oZr;replace hm0:=hm0.trans hm2;have hsz2:=hm2.size;have hown0:=owns_base (base':=w.heap.size+3) ho.ov.2.1 hs2;have hbk0:Value.ownBlock (.slice A1 es.length c1)≠some w2.heap.size:=fun h=>by have:=ho.ov.2.2 _ h;omega
 have hal:=Mid.alloc w2 (.cells #[.int .i64 r,.int .i64 s,.slice A1 es.length c1] 26);have Y3:=Box.new w2 #[.int .i64 r,.int .i64 s,.slice A1 es.length c1] 26;have hbs0:=b0.1;have u0:=b0.cell 0 rfl;have u1:=b0.cell 1 rfl;have u2:=b0.cell 2 rfl;replace b0:=b0.mid hal oZr;replace bf:=bf.mid hal oZr;replace b2:=b2.mid hal oZr;replace hown0:=owns_mid hown0 hal oZl;replace hm0:=hm0.trans hal;go_wp2_with fail;clear u0 u1 u2;generalize hw3:w2.alloc (.cells #[.int .i64 r,.int .i64 s,.slice A1 es.length c1] 26)=w3 at Y3 b0 bf b2 hown0 hm0 ⊢;have hs3:w3.heap.size=w2.heap.size+1:=by rw [← hw3];simp
 obtain ⟨G,hG⟩:∃ G,w2.heap.size=G:=⟨_,rfl⟩
 rw [hG] at Y3 hbk0 hsz2 hbs0 hs3 ⊢;clear hw3 hal hm2 ho hG;with_reducible refine (impl_IsGraph r s A es c _ _ _ (hr.mid hm0 oZl).rv (by omega) true (iff_of_true rfl HG.out)).mono ?_
 rintro en w4 ⟨rfl,hm4⟩;replace b0:=b0.mid hm4 oZr;replace bf:=bf.mid hm4 oZr;replace b2:=b2.mid hm4 oZr;replace Y3:=Y3.mid hm4 oZr;replace hown0:=owns_mid hown0 hm4 oZl;replace hm0:=hm0.trans hm4;have hGw:w.heap.size+3≤G:=by omega
 clear hm4 hs3 hsz2 hs2 hbs0;have q0:=b0.cell 0 rfl;have q1:=b0.cell 1 rfl;have q2:=b0.cell 2 rfl;have k0:=bf.cell 0 rfl;have k1:=bf.cell 1 rfl;have y0:=Y3.cell 0 rfl;have y1:=Y3.cell 1 rfl;have y2:=Y3.cell 2 rfl;go_wp2_with fail;clear q0 q1 q2 k0 k1 y0 y1 y2;have HBK:=Lib.hid hbk0;clear hbk0 b0;go_loopw [39] (fun i wr=>∃ k:Nat,k≤es.length∧i=.int .i64 k∧wr.ownsRow (w.heap.size+3) 68 3 (.slice A1 es.length c1) es.length (ints (edI ((es.take k).map (foldE (p1,p2))++es.drop k))) ∧
   Box wr (w.heap.size+1) [.int .i64 p1,.int .i64 p2]∧Box wr (w.heap.size+2) [.int .i64 0,.int .i64 0,.slice none 0 0]∧Box wr G [.int .i64 r,.int .i64 s,.slice A1 es.length c1]∧Mid 0 0 w wr) (fun i _=>es.length - (intOf i).toNat)
 case atStart=>exact ⟨0,Nat.zero_le _,rfl,by simpa using hown0,bf,b2,Y3,hm0⟩
 case round =>
  clear hown0 bf b2 Y3 hm0;obtain ⟨k,hk,rfl,hown,bf,b2,Y3,hm⟩:=hrel;by_cases hlt:k < es.length
  ·obtain ⟨g,rfl,hg1,hg2⟩:=owns_addr hown (by omega)
   obtain ⟨e,he⟩:=get_of_lt es hlt;have hmh:=map_here (f:=foldE (p1,p2)) he;obtain ⟨e0,e1,e2⟩:=owns_ed hown hmh;have hin:=HG.out.all e (List.mem_of_getElem? he);obtain ⟨i1,i2,i3,i4,i5,i6⟩:=hin;have HE:=Lib.hid he;have hgG:g≠G:=fun h=>HBK.out (by rw [h];rfl);have hk0:(0:Int)≤(k:Int):=by omega
   have hk1:(k:Int) < (es.length:Int):=by omega
   have hal:=Mid.alloc wr (.cells #[.int .i64 e.a,.int .i64 e.l,.int .i64 e.b] 68);have ZE:=Box.new wr #[.int .i64 e.a,.int .i64 e.l,.int .i64 e.b] 68;have hGr:G < wr.heap.size:=Y3.1;replace bf:=bf.mid hal oZr;replace b2:=b2.mid hal oZr;replace Y3:=Y3.mid hal oZr;replace hown:=owns_mid hown hal oZl;replace hm:=hm.trans hal;clear he;go_wp2_with fail;clear e0 e1 e2;generalize hwx:wr.alloc (.cells #[.int .i64 e.a,.int .i64 e.l,.int .i64 e.b] 68)=wx at ZE bf b2 Y3 hown hm ⊢;generalize hgE:wr.heap.size=E at ZE hg2 hGr ⊢;clear hgE hwx hal;have hmd:=Mid.drew1 wx;replace bf:=bf.mid hmd oZr;replace b2:=b2.mid hmd oZr;replace Y3:=Y3.mid hmd oZr;replace ZE:=ZE.mid hmd oZr;replace hown:=owns_mid hown hmd oZl;replace hm:=hm.trans hmd;obtain ⟨c0',c1',c2'⟩:=owns_ed hown hmh;have hfz:=fun i=>hown.frozenAt i;have f0:=ZE.cell 0 rfl;have f1:=ZE.cell 1 rfl;have f2:=ZE.cell 2 rfl;have g2:=Y3.cell 2 rfl;have k0:=bf.cell 0 rfl;have k1:=bf.cell 1 rfl;obtain ⟨x,hx⟩:∃ x,foldV (p1,p2) e.a=x:=⟨_,rfl⟩
   obtain ⟨y,hy⟩:∃ y,foldV (p1,p2) e.b=y:=⟨_,rfl⟩
   have hFE:Hid (foldE (p1,p2) e=⟨x,e.l,y⟩):=Lib.hid (by simp [foldE,hx,hy]);have hP1:=fold_place (w.heap.size+1) p1 p2 e.a _ k0 k1 i1 (by omega);have hP2:=fold_place (w.heap.size+1) p1 p2 e.b _ k0 k1 i3 (by omega);rw [hx] at hP1;rw [hy] at hP2;clear hx hy hmd;refine wp_region_T (S:=(fun w'=>w'.cell? ⟨E,0,none⟩=some (.int .i64 e.a)∧w'.cell? ⟨E,1,none⟩=some (.int .i64 e.l)∧w'.cell? ⟨E,2,none⟩=some (.int .i64 e.b)∧w'.cell? ⟨G,2,none⟩=some (.slice (some ⟨g,0,none⟩) es.length c1))) 15 (by kernel_rfl) ⟨f0,f1,f2,g2⟩ ?_;generalize World.drew wx=wz at bf b2 Y3 ZE hown hm f0 f1 f2 g2 k0 k1 hP1 hP2 c0' c1' c2' hfz ⊢;have hS:wz.cell? ⟨E,0,none⟩=some (.int .i64 e.a)∧wz.cell? ⟨E,1,none⟩=some (.int .i64 e.l)∧wz.cell? ⟨E,2,none⟩=some (.int .i64 e.b)∧wz.cell? ⟨G,2,none⟩=some (.slice (some ⟨g,0,none⟩) es.length c1):=⟨f0,f1,f2,g2⟩
   refine tkT 0 rfl hS ?_;try simp only [Act.put,zs1,zs2,zs3,zs4,zs5,zs6]
   refine tkT 1 rfl hS ?_;try simp only [Act.put,zs1,zs2,zs3,zs4,zs5,zs6]
   refine tkT 2 rfl hS ?_;try simp only [Act.put,zs1,zs2,zs3,zs4,zs5,zs6]
   refine tkT 3 rfl hS ?_;try simp only [Act.put,zs1,zs2,zs3,zs4,zs5,zs6]
   refine tkT 4 rfl hS ?_;try simp only [Act.put,zs1,zs2,zs3,zs4,zs5,zs6]
   refine tkT 5 rfl hS ?_;try simp only [Act.put,zs1,zs2,zs3,zs4,zs5,zs6]
   refine tkT 7 rfl hS ?_;try simp only [Act.put,zs1,zs2,zs3,zs4,zs5,zs6]
   refine tkT 8 rfl hS ?_;try simp only [Act.put,zs1,zs2,zs3,zs4,zs5,zs6]
   refine tkT 9 rfl hS ?_;try simp only [Act.put,zs1,zs2,zs3,zs4,zs5,zs6]
   refine tkT 10 rfl hS ?_;try simp only [Act.put,zs1,zs2,zs3,zs4,zs5,zs6]
   refine tkT 11 rfl hS ?_;try simp only [Act.put,zs1,zs2,zs3,zs4,zs5,zs6]
   refine rdT 6 rfl (fun K hK=>?_)
   (go_simp;refine hP1.mono ?_;rintro _ w' ⟨rfl,h⟩;obtain rfl:=h.symm;go_wp2_with fail)
   refine hK.out _ _ (Or.inr hS) (fun _=>?_);clear hK K;try simp only [Act.put,zs1,zs2,zs3,zs4,zs5,zs6]
   refine rdT 12 rfl (fun K hK=>?_)
   (go_simp;refine hP2.mono ?_;rintro _ w' ⟨rfl,h⟩;obtain rfl:=h.symm;go_wp2_with fail)
   refine hK.out _ _ (Or.inr hS) (fun _=>?_);clear hK K;try simp only [Act.put,zs1,zs2,zs3,zs4,zs5,zs6]
   refine tkT 13 rfl hS ?_;try simp only [Act.put,zs1,zs2,zs3,zs4,zs5,zs6]
   refine tkT 14 rfl hS ?_;try simp only [Act.put,zs1,zs2,zs3,zs4,zs5,zs6]
   clear hP1 hP2;refine rdT 15 rfl (fun K hK=>?_)
   (go_simp)
   refine hK.out _ _ (Or.inl rfl) (fun _=>?_);clear hK K;try simp only [Act.put,zs1,zs2,zs3,zs4,zs5,zs6]
   refine wpAnyT_done (by kernel_rfl) ?_ _;go_wp2_with fail;go_roundw
   case rel =>
    have h1:=owns_setE hown (k:=k) (foldE (p1,p2) e) (by rw [List.length_append,List.length_map,List.length_take,List.length_drop];omega);rw [map_step HE.out,hFE.out] at h1;have hst:=(Mid.setAt wz g (k * 3) (.int .i64 x)).trans ((Mid.setAt (wz.setCell ⟨g,k * 3,none⟩ (.int .i64 x)) g (k * 3+1) (.int .i64 e.l)).trans (Mid.setAt ((wz.setCell ⟨g,k * 3,none⟩ (.int .i64 x)).setCell ⟨g,k * 3+1,none⟩ (.int .i64 e.l)) g (k * 3+2) (.int .i64 y)));exact ⟨k+1,by omega,by go_num,h1,bf.mid hst (Or.inl (by omega)),b2.mid hst (Or.inl (by omega)),Y3.mid hst (by omega),((hm.storeNew (by show w.heap.size≤g;omega) _).storeNew (by show w.heap.size≤g;omega) _).storeNew (by show w.heap.size≤g;omega) _⟩
   case measure=>simp [intOf];omega
  ·obtain rfl:k=es.length:=by omega
   rw [List.take_length,List.drop_length,List.append_nil] at hown;have hml:(es.map (foldE (p1,p2))).length=es.length:=List.length_map _;have hrg:RG wr (w.heap.size+3) wr.heap.size A1 (es.map (foldE (p1,p2))):=owns_rv hown;have hGr:G < wr.heap.size:=Y3.1;have hb2s:=b2.1;have z2:=Y3.cell 2 rfl;have HML:=Lib.hid hml;clear hml;go_wp2_with fail;with_reducible refine (impl_sortedN A1 (es.map (foldE (p1,p2))) es.length c1 _ _ _ HML.out hrg (by omega)).mono ?_
   rintro en w6 ⟨A4,c4,rfl,ho6,hm6⟩;replace b2:=b2.mid hm6 oZr;replace Y3:=Y3.mid hm6 oZr;replace hm:=hm.trans hm6;have hsz6:=hm6.size;clear z2;have a0:=b2.cell 0 rfl;have a1:=b2.cell 1 rfl;have a2:=b2.cell 2 rfl;have x0:=Y3.cell 0 rfl;have x1:=Y3.cell 1 rfl;have x2:=Y3.cell 2 rfl;have af:=b2.2.2;have xf:=Y3.2.2;have hcl:¬ w.heap.size+2=G:=by omega
   have hcl2:¬ G=w.heap.size+2:=by omega
   obtain ⟨ms,hms⟩:∃ ms,canon (es.map (foldE (p1,p2)))=ms:=⟨_,rfl⟩
   rw [hms] at ho6 ⊢;have HMS:=Lib.hid (show mergeE (p1,p2) es=ms from hms);clear hms;go_wp2_with fail;have hcl3:(w.heap.size+2 == G)=false:=by simpa using hcl
   refine bodyPost_ret (v:=.tuple #[.agg #[.int .i64 r,.int .i64 (s - 1),.slice A4 ms.length c4],.bool true]) (by simp [results,Tryz.results228,go_sem,a0,a1,a2,x0,x1,x2,af,xf,hcl]) rfl ⟨A4,c4,by rw [HMS.out],?_,?_⟩
   ·rw [HMS.out]
    refine OG.wide (OG.mid ho6 (a:=w.heap.size) (b:=G+1) ?_ (Or.inl hGr)) (by omega) (by simp) (Nat.le_refl _);repeat (first | exact Mid.refl _ _ _ | refine Mid.stored ?_ _ (by simp;try omega) (by simp;try omega))
   ·repeat (first | exact hm | refine Mid.storeNew ?_ (by simp;try omega) _)
end
section
open Go.RowKit
def OnceIs (s:Int) (es:List Ed) (p:Int × Int) (b:Bool) (rs:Int) (res:List Ed):Prop :=
 (b=false∧folds es=[]∧p=(0,0)∧rs=s∧res=es) ∨ (b=true∧(∃ t,folds es=p :: t)∧rs=s - 1∧res=mergeE p es)
theorem OnceIs.first {s:Int} {es:List Ed} {p:Int × Int} {b:Bool} {rs:Int} {res:List Ed} (h:OnceIs s es p b rs res):FirstIs es p b:=by
 rcases h with ⟨h1,h2,h3, -⟩ | ⟨h1,h2, -⟩
 ·exact .inl ⟨h1,h2,h3⟩
 ·exact .inr ⟨h1,h2⟩
theorem OnceIs.ex (s:Int) (es:List Ed):∃ p b rs res,OnceIs s es p b rs res:=by
 cases h:folds es with
 | nil=>exact ⟨(0,0),false,s,es,.inl ⟨rfl,h,rfl,rfl,rfl⟩⟩
 | cons p t=>exact ⟨p,true,s - 1,mergeE p es,.inr ⟨rfl,⟨t,h⟩,rfl,rfl⟩⟩
theorem impl_FoldOnce (r s:Int) (A:Option Addr) (es:List Ed) (c:Nat) (w:World) (lo hi:Nat) (hr:RG w lo hi A es) (hcl:es.length≤c) (hg:IsGr r s es) (p:Int × Int) (b:Bool) (rs:Int) (res:List Ed) (hp:OnceIs s es p b rs res) :
  Calls Tryz.prog 204 #[graV r s A es.length c] w fun e w'=>∃ A1 c1,e=.returned (.tuple #[graV r rs A1 res.length c1,.agg #[.int .i64 p.1,.int .i64 p.2],.bool b])∧OG w' w.heap.size w'.heap.size A1 c1 res∧Mid 0 0 w w':=by
 have hl:=hg.len;have HG:=Lib.hid hg;have hm0:Mid 0 0 w (((w.alloc (.cells #[.int .i64 r,.int .i64 s,.slice A es.length c] 26)).alloc (.cells #[.int .i64 0,.int .i64 0,.slice none 0 0] 26)).alloc (.cells #[.int .i64 0,.int .i64 0] 130)):=((Mid.alloc _ _).trans (Mid.alloc _ _)).trans (Mid.alloc _ _);have b0:=((Box.new w #[.int .i64 r,.int .i64 s,.slice A es.length c] 26).mid (Mid.alloc _ (.cells #[.int .i64 0,.int .i64 0,.slice none 0 0] 26)) oZr).mid (Mid.alloc _ (.cells #[.int .i64 0,.int .i64 0] 130)) oZr;have b2:=(Box.new (w.alloc (.cells #[.int .i64 r,.int .i64 s,.slice A es.length c] 26)) #[.int .i64 0,.int .i64 0,.slice none 0 0] 26).mid (Mid.alloc _ (.cells #[.int .i64 0,.int .i64 0] 130)) oZr;have b3:=Box.new ((w.alloc (.cells #[.int .i64 r,.int .i64 s,.slice A es.length c] 26)).alloc (.cells #[.int .i64 0,.int .i64 0,.slice none 0 0] 26)) #[.int .i64 0,.int .i64 0] 130;simp only [World.size_alloc,Nat.add_assoc,Nat.reduceAdd] at b2 b3;have hF:=hp.first
 have HF:=Lib.hid hF;clear hg hF;obtain ⟨p1,p2⟩:=p;go_enter Tryz.func204,Tryz.ntmps204
 go_wp2_with fail;generalize hw1:(((w.alloc (.cells #[.int .i64 r,.int .i64 s,.slice A es.length c] 26)).alloc (.cells #[.int .i64 0,.int .i64 0,.slice none 0 0] 26)).alloc (.cells #[.int .i64 0,.int .i64 0] 130))=w1 at hm0 b0 b2 b3 ⊢;clear hw1;with_reducible refine (impl_FirstFold r s A es c _ _ _ (hr.mid hm0 oZl) hcl HG.out (p1,p2) b HF.out).mono ?_
 rintro en w2 ⟨rfl,hm2⟩;replace b0:=b0.mid hm2 oZr;replace b2:=b2.mid hm2 oZr;replace b3:=b3.mid hm2 oZr;replace hm0:=hm0.trans hm2;have hbs0:=b0.1;have hbs2:=b2.1;have hbs3:=b3.1;have u0:=b0.cell 0 rfl;have u1:=b0.cell 1 rfl;have u2:=b0.cell 2 rfl;have hal:=Mid.alloc w2 (.cells #[.int .i64 p1,.int .i64 p2] 130);have bf:=Box.new w2 #[.int .i64 p1,.int .i64 p2] 130;replace b0:=b0.mid hal oZr;replace b2:=b2.mid hal oZr;replace b3:=b3.mid hal oZr;replace hm0:=hm0.trans hal;clear hm2;rcases hp with ⟨rfl,hn,hpp,rfl,rfl⟩ | ⟨rfl,⟨t,ht⟩,rfl,hres⟩
 ·injection hpp with h1 h2
  subst h1 h2;clear hn;go_wp2_with fail;clear u0 u1 u2;generalize hw3:w2.alloc (.cells #[.int .i64 0,.int .i64 0] 130)=w3 at b0 b2 b3 bf hm0 ⊢;clear hw3 hal;with_reducible refine (impl_copyGraph r rs A res c _ _ _ (hr.mid hm0 oZl) (by omega)).mono ?_
  rintro en w4 ⟨A4,c4,rfl,hog,hm4⟩;have hs3:w.heap.size+3≤w3.heap.size:=b3.1;replace b2:=b2.mid hm4 oZr;replace b3:=b3.mid hm4 oZr;replace hm0:=hm0.trans hm4;have a0:=b2.cell 0 rfl;have a1:=b2.cell 1 rfl;have a2:=b2.cell 2 rfl;have x0:=b3.cell 0 rfl;have x1:=b3.cell 1 rfl;have af:=b2.2.2;have xf:=b3.2.2;go_wp2_with fail;refine bodyPost_ret (v:=.tuple #[.agg #[.int .i64 r,.int .i64 rs,.slice A4 res.length c4],.agg #[.int .i64 0,.int .i64 0],.bool false]) (by simp [results,Tryz.results204,go_sem,a0,a1,a2,x0,x1,af,xf]) rfl ⟨A4,c4,rfl,?_,?_⟩
  ·refine OG.wide (OG.mid hog (a:=w.heap.size+1) (b:=w.heap.size+3) ?_ (Or.inl (by omega))) (by omega) (by simp) (Nat.le_refl _)
   repeat (first | exact Mid.refl _ _ _ | refine Mid.stored ?_ _ (by simp;try omega) (by simp;try omega))
  ·repeat (first | exact hm0 | refine Mid.storeNew ?_ (by simp;try omega) _)
 ·obtain ⟨k1,k2,k3⟩:=mem_folds HG.out.all HG.out.asc (p:=(p1,p2)) (by rw [ht];simp)
  simp only at k1 k2 k3;have HRES:=Lib.hid hres;clear ht hres;have y0:=bf.cell 0 rfl;have y1:=bf.cell 1 rfl;go_wp2_with fail;clear u0 u1 u2 y0 y1;generalize hw3:w2.alloc (.cells #[.int .i64 p1,.int .i64 p2] 130)=w3 at b0 b2 b3 bf hm0 ⊢;have hs3:w3.heap.size=w2.heap.size+1:=by rw [← hw3];simp
  clear hw3 hal;obtain ⟨F,hF⟩:∃ F,w2.heap.size=F:=⟨_,rfl⟩
  rw [hF] at bf hs3 hbs0 hbs2 hbs3 ⊢;clear hF;with_reducible refine (impl_MergeVertices r s A es c p1 p2 _ _ _ (hr.mid hm0 oZl) HG.out k1 k2 k3).mono ?_
  rintro en w4 ⟨A4,c4,rfl,hog,hm4⟩;rw [← HRES.out] at hog ⊢;have hsz4:=hm4.size;replace b2:=b2.mid hm4 oZr;replace b3:=b3.mid hm4 oZr;replace bf:=bf.mid hm4 oZr;replace hm0:=hm0.trans hm4;have hal4:=Mid.alloc w4 (.cells #[.int .i64 r,.int .i64 (s - 1),.slice A4 res.length c4] 26);have bg:=Box.new w4 #[.int .i64 r,.int .i64 (s - 1),.slice A4 res.length c4] 26;replace b2:=b2.mid hal4 oZr;replace b3:=b3.mid hal4 oZr;replace bf:=bf.mid hal4 oZr;replace hog:=hog.mid hal4 oZl;replace hm0:=hm0.trans hal4;go_wp2_with fail;generalize hw5:w4.alloc (.cells #[.int .i64 r,.int .i64 (s - 1),.slice A4 res.length c4] 26)=w5 at b2 b3 bf bg hog hm0 ⊢;have hs5:w5.heap.size=w4.heap.size+1:=by rw [← hw5];simp
  clear hw5 hal4;obtain ⟨H,hH⟩:∃ H,w4.heap.size=H:=⟨_,rfl⟩
  rw [hH] at bg hsz4 hs5 hog ⊢;clear hH;have a0:=b2.cell 0 rfl;have a1:=b2.cell 1 rfl;have a2:=b2.cell 2 rfl;have x0:=b3.cell 0 rfl;have x1:=b3.cell 1 rfl;have y0:=bf.cell 0 rfl;have y1:=bf.cell 1 rfl;have z0:=bg.cell 0 rfl;have z1:=bg.cell 1 rfl;have z2:=bg.cell 2 rfl;have af:=b2.2.2;have xf:=b3.2.2;have n1:¬ w.heap.size+1=H:=by omega
  have n2:¬ w.heap.size+2=H:=by omega
  have n3:¬ w.heap.size+1=F:=by omega
  have n4:¬ w.heap.size+2=F:=by omega
  have n5:¬ F=H:=by omega
  go_region
  go_wp2_with fail;refine bodyPost_ret (v:=.tuple #[.agg #[.int .i64 r,.int .i64 (s - 1),.slice A4 res.length c4],.agg #[.int .i64 p1,.int .i64 p2],.bool true]) (by simp [results,Tryz.results204,go_sem,a0,a1,a2,x0,x1,af,xf]) rfl ⟨A4,c4,rfl,?_,?_⟩
  ·refine OG.wide (OG.mid hog (a:=w.heap.size+1) (b:=w.heap.size+3) ?_ (Or.inl (by omega))) (by omega) (by have:=hog.size;simp;omega) (Nat.le_refl _)
   refine Mid.trans ?_ (Mid.drew1 _).zero;repeat (first | exact Mid.refl _ _ _ | refine Mid.stored ?_ _ (by simp;try omega) (by simp;try omega))
  ·refine Mid.trans ?_ (Mid.drew1 _)
   repeat (first | exact hm0 | refine Mid.storeNew ?_ (by simp;try omega) _)
end
section
open Go.RowKit
theorem impl_FoldAll (r:Int) (n:Nat) (A:Option Addr) (es:List Ed) (c:Nat) (w:World) (lo hi:Nat) (hr:RG w lo hi A es) (hg:IsGr r n es) :
  Calls Tryz.prog 165 #[graV r n A es.length c] w fun e w'=>∃ A1 c1 Al nl cl,e=.returned (.tuple #[graV r (foldA 40 ((n:Int),es)).1 A1 (foldA 40 ((n:Int),es)).2.length c1,.slice Al nl cl])∧OG w' w.heap.size w'.heap.size A1 c1 (foldA 40 ((n:Int),es)).2∧Mid 0 0 w w':=by
 have hn40:n≤40:=by have:=hg.size;omega
 have hl:=hg.len;have hm0:Mid 0 0 w ((w.alloc (.cells #[.int .i64 r,.int .i64 n,.slice A es.length c] 26)).alloc (.cells #[.int .i64 0,.int .i64 0,.slice none 0 0] 26)):=(Mid.alloc _ _).trans (Mid.alloc _ _);have b0:=(Box.new w #[.int .i64 r,.int .i64 n,.slice A es.length c] 26).mid (Mid.alloc _ (.cells #[.int .i64 0,.int .i64 0,.slice none 0 0] 26)) oZr;have b2:=Box.new (w.alloc (.cells #[.int .i64 r,.int .i64 n,.slice A es.length c] 26)) #[.int .i64 0,.int .i64 0,.slice none 0 0] 26;simp only [World.size_alloc] at b2;have HG:=Lib.hid hg;obtain ⟨T,hT⟩:∃ T,foldA 40 ((n:Int),es)=T:=⟨_,rfl⟩
 rw [hT];have HT:=Lib.hid hT;clear hg hT;go_enter Tryz.func165,Tryz.ntmps165
 go_wp2_with fail;generalize hw1:((w.alloc (.cells #[.int .i64 r,.int .i64 n,.slice A es.length c] 26)).alloc (.cells #[.int .i64 0,.int .i64 0,.slice none 0 0] 26))=w1 at hm0 b0 b2 ⊢;clear hw1;with_reducible refine (impl_copyGraph r n A es c _ _ _ (hr.mid hm0 oZl) (by omega)).mono ?_
 rintro en w2 ⟨A1,c1,rfl,ho,hm2⟩;have hs2:w.heap.size+1 < w1.heap.size:=b2.1;replace b2:=b2.mid hm2 oZr;replace hm0:=hm0.trans hm2;have hsz2:=hm2.size;have hown0:=owns_base (base':=w.heap.size+2) ho.ov.2.1 hs2;have hbk0:Value.ownBlock (.slice A1 es.length c1)≠some w2.heap.size:=fun h=>by have:=ho.ov.2.2 _ h;omega
 have hal:=(Mid.alloc w2 (.cells #[.int .i64 r,.int .i64 n,.slice A1 es.length c1] 26)).trans (Mid.alloc (w2.alloc (.cells #[.int .i64 r,.int .i64 n,.slice A1 es.length c1] 26)) (.cells #[] 130));have Y3:=(Box.new w2 #[.int .i64 r,.int .i64 n,.slice A1 es.length c1] 26).mid (Mid.alloc (w2.alloc (.cells #[.int .i64 r,.int .i64 n,.slice A1 es.length c1] 26)) (.cells #[] 130)) oZr;have O0:=owns_empty (w2.alloc (.cells #[.int .i64 r,.int .i64 n,.slice A1 es.length c1] 26)) 130 2;rw [World.size_alloc] at O0;replace b2:=b2.mid hal oZr;replace hown0:=owns_mid hown0 hal oZl;replace hm0:=hm0.trans hal;go_wp2_with fail;generalize hw3:(w2.alloc (.cells #[.int .i64 r,.int .i64 n,.slice A1 es.length c1] 26)).alloc (.cells #[] 130)=w3 at Y3 O0 b2 hown0 hm0 ⊢;obtain ⟨G,hG⟩:∃ G,w2.heap.size=G:=⟨_,rfl⟩
 rw [hG] at Y3 O0 hbk0 hsz2 ⊢;have hGw:w.heap.size+2≤G:=by omega
 clear hw3 hal hm2 ho hG hsz2 hs2 b0;go_loopw [5] (fun l wr=>∃ (m s:Nat) (es1:List Ed) (A2:Option Addr) (c2:Nat) (Al:Option Addr) (nl cl:Nat) (ps:List (Int × Int)),l=.slice Al nl cl∧nl+s≤40∧Hid (foldA m ((s:Int),es1)=T)∧s≤m∧Hid (IsGr r s es1)∧wr.ownsRow (G+1) 130 2 (.slice Al nl cl) nl (ints (fdI ps)) ∧
   Hid (wr.ownsRow (w.heap.size+2) 68 3 (.slice A2 es1.length c2) es1.length (ints (edI es1)))∧Hid (Value.ownBlock (.slice A2 es1.length c2)≠some G)∧Box wr (w.heap.size+1) [.int .i64 0,.int .i64 0,.slice none 0 0]∧Box wr G [.int .i64 r,.int .i64 s,.slice A2 es1.length c2]∧Mid 0 0 w wr) (fun _ wr=>sizeAt wr G)
 case atStart=>exact ⟨40,n,es,A1,c1,_,0,0,[],rfl,by omega,HT,hn40,HG,O0,Lib.hid hown0,Lib.hid hbk0,b2,Y3,hm0⟩
 case round =>
  clear O0 hown0 b2 Y3 hm0 hbk0;obtain ⟨m,s,es1,A2,c2,Al,nl,cl,ps,rfl,hnl,HTm,hsm,HGs,hleft,HE,HBK,b2,Y3,hm⟩:=hrel;have hl1:=HGs.out.len;have hs1:1≤s:=by have:=HGs.out.size;omega
  have hlsz:=Lib.hid (sizeAt_box Y3);have hec:es1.length≤c2:=by
   obtain ⟨A',c',hv0,hsc,hcm⟩:=owns_shape HE.out;injection hv0 with _ _ hv0
   omega
  obtain ⟨p,b,rs,res,hone⟩:=OnceIs.ex (s:Int) es1;have HO:=Lib.hid (impl_FoldOnce r s A2 es1 c2 wr _ _ (owns_rv HE.out).rg hec HGs.out p b rs res hone);have HON:=Lib.hid hone;obtain ⟨p1,p2⟩:=p;clear hone;have y0:=Y3.cell 0 rfl;have y1:=Y3.cell 1 rfl;have y2:=Y3.cell 2 rfl;go_wp2_with fail;with_reducible refine HO.out.mono ?_
  rintro en w5 ⟨A3,c3,rfl,hog,hm5⟩;have hGr:G < wr.heap.size:=Y3.1;have hw2r:w.heap.size+2≤wr.heap.size:=by omega
  have hE5:=owns_mid HE.out hm5 oZl;replace b2:=b2.mid hm5 oZr;replace Y3:=Y3.mid hm5 oZr;replace hleft:=owns_mid hleft hm5 oZl;replace hm:=hm.trans hm5;clear HO y0 y1 y2 HE;have hal1:=Mid.alloc w5 (.cells #[.int .i64 r,.int .i64 rs,.slice A3 res.length c3] 26);have hal2:=Mid.alloc (w5.alloc (.cells #[.int .i64 r,.int .i64 rs,.slice A3 res.length c3] 26)) (.cells #[.int .i64 p1,.int .i64 p2] 130);have bh:=(Box.new w5 #[.int .i64 r,.int .i64 rs,.slice A3 res.length c3] 26).mid hal2 oZr;have bp:=Box.new (w5.alloc (.cells #[.int .i64 r,.int .i64 rs,.slice A3 res.length c3] 26)) #[.int .i64 p1,.int .i64 p2] 130;rw [World.size_alloc] at bp;have hal:=hal1.trans hal2;have hs5:=hm5.size;have hG5:G < w5.heap.size:=Y3.1;have hG6:G < w5.heap.size+1:=by omega
  have hb5:w.heap.size+1 < w5.heap.size:=b2.1;have hb6:w.heap.size < w5.heap.size:=by omega
  have yf:=Y3.2.2;have y0:=Y3.cell 0 rfl;have y1:=Y3.cell 1 rfl;have y2:=Y3.cell 2 rfl;cases b with
  | false =>
   have af:=b2.2.2;have a0:=b2.cell 0 rfl;have a1:=b2.cell 1 rfl;have a2:=b2.cell 2 rfl;have hfn:folds es1=[]∧True:=by
    rcases HON.out with h | h
    ·exact ⟨h.2.1,trivial⟩
    ·exact absurd h.1 (by decide)
   have hTT:=HTm.out;rw [foldA_nil (g:=((s:Int),es1)) hfn.1] at hTT;have HTT:=Lib.hid hTT;clear hTT hfn;go_wp2_with fail;refine bodyPost_ret (v:=.tuple #[.agg #[.int .i64 r,.int .i64 s,.slice A2 es1.length c2],.slice Al nl cl]) (by simp [results,Tryz.results165,go_sem,a0,a1,a2,af,hb5,hb6,World.cell?_alloc_lt]) rfl ⟨A2,c2,Al,nl,cl,by rw [← HTT.out],?_,?_⟩
   ·rw [← HTT.out]
    have h0:OG w5 (w.heap.size+2) w5.heap.size A2 c2 es1:=⟨Nat.le_refl _,hE5,fun g hg=>(hE5.lt g hg).2⟩
    refine OG.wide (OG.mid h0 (a:=w.heap.size+1) (b:=w.heap.size+2) ?_ (Or.inl (Nat.le_refl _))) (by omega) (by simp;try omega) (Nat.le_refl _);repeat (first | exact Mid.refl _ _ _ | refine Mid.trans ?_ (Mid.alloc _ _).zero | refine Mid.stored ?_ _ (by simp;try omega) (by simp;try omega))
   ·repeat (first | exact hm | refine Mid.trans ?_ (Mid.alloc _ _) | refine Mid.storeNew ?_ (by simp;try omega) _)
  | true =>
   obtain ⟨t,htt⟩:∃ t,folds es1=(p1,p2) :: t:=by
    rcases HON.out with h | h
    ·exact absurd h.1 (by decide)
    ·exact h.2.1
   obtain ⟨rfl,rfl⟩:rs=(s:Int) - 1∧res=mergeE (p1,p2) es1:=by
    rcases HON.out with h | h
    ·exact absurd h.1 (by decide)
    ·exact h.2.2
   obtain ⟨k1,k2,k3⟩:=mem_folds HGs.out.all HGs.out.asc (p:=(p1,p2)) (by rw [htt];simp);obtain ⟨m',rfl⟩:∃ m',m=m'+1:=⟨m - 1,by omega⟩
   have hTT:=HTm.out;rw [foldA_cons (g:=((s:Int),es1)) htt] at hTT;simp only at hTT;have HTT:=Lib.hid hTT;have HG2:=Lib.hid (mergeE_gr HGs.out k1 k2 k3);clear hTT htt k1 k2 k3 HON;obtain ⟨s',rfl⟩:∃ s',s=s'+1:=⟨s - 1,by omega⟩
   rw [show ((s'+1:Nat):Int) - 1=(s':Int) by omega] at HTT HG2 hal hal1 hal2 bh bp ⊢;obtain ⟨me,hme⟩:∃ me,mergeE (p1,p2) es1=me:=⟨_,rfl⟩
   rw [hme] at HTT HG2 hal hal1 hal2 bh bp hog ⊢;clear hme;have hst:=(Mid.setAt w5 G 0 (.int .i64 r)).trans ((Mid.setAt (w5.setCell ⟨G,0,none⟩ (.int .i64 r)) G 1 (.int .i64 s')).trans (Mid.setAt ((w5.setCell ⟨G,0,none⟩ (.int .i64 r)).setCell ⟨G,1,none⟩ (.int .i64 s')) G 2 (.slice A3 me.length c3)));have Y5:=((Y3.set 0 (.int .i64 r) (by simp) rfl).set 1 (.int .i64 s') (by simp) rfl).set 2 (.slice A3 me.length c3) (by simp) rfl;have hm6:=((hm.storeNew (p:=⟨G,0,none⟩) (by show w.heap.size≤G;omega) (.int .i64 r)).storeNew (p:=⟨G,1,none⟩) (by show w.heap.size≤G;omega) (.int .i64 s')).storeNew (p:=⟨G,2,none⟩) (by show w.heap.size≤G;omega) (.slice A3 me.length c3);have b6:=b2.mid hst (Or.inl (by omega));have hleft6:=owns_mid hleft hst (Or.inl (Nat.le_refl _));have hog6:=OG.mid hog hst (Or.inl hGr);have ha2:=(Mid.alloc (((w5.setCell ⟨G,0,none⟩ (.int .i64 r)).setCell ⟨G,1,none⟩ (.int .i64 s')).setCell ⟨G,2,none⟩ (.slice A3 me.length c3)) (.cells #[.int .i64 r,.int .i64 s',.slice A3 me.length c3] 26)).trans (Mid.alloc _ (.cells #[.int .i64 p1,.int .i64 p2] 130));replace b6:=b6.mid ha2 oZr;replace Y5:=Y5.mid ha2 oZr;replace hleft6:=owns_mid hleft6 ha2 oZl;replace hm6:=hm6.trans ha2;replace hog6:=OG.mid hog6 ha2 oZl;have hWs:(((((w5.setCell ⟨G,0,none⟩ (.int .i64 r)).setCell ⟨G,1,none⟩ (.int .i64 s')).setCell ⟨G,2,none⟩ (.slice A3 me.length c3)).alloc (.cells #[.int .i64 r,.int .i64 s',.slice A3 me.length c3] 26)).alloc (.cells #[.int .i64 p1,.int .i64 p2] 130)).heap.size=w5.heap.size+1+1:=by simp
   have HL:=Lib.hid hleft6;have HY:=Lib.hid Y5;have HB:=Lib.hid b6;have HM:=Lib.hid hm6;have HO6:=Lib.hid hog6;clear hleft6 Y5 b6 hm6 hog6 ha2 hst hleft b2 hm hog hE5 hal hal1 hal2 bh bp;go_wp2_with (at_builtin;refine wpList_pushF rfl _ _ rfl (G+1) Al nl cl ps rfl HL.out (p1,p2) (by rw [hWs];rfl) (by omega) (by rw [hWs];omega) ?_;intro A9 c9 w9 hl9 hgr9 hat9)
   have hm9:=Mid.of_grownRow HL.out hgr9;have hmo:=(HO6.out).2.1;have hE9:=(owns_base hmo hw2r).kept hgr9 (owns_ne hmo HL.out (by decide));have hbk9:Value.ownBlock (.slice A3 me.length c3)≠some G:=fun h=>by have:=(hmo.lt _ h).1;omega
   have Y9:=HY.out.mid hm9 (Or.inl (Nat.lt_succ_self _));have hmsz:=hlsz.out;go_roundw
   case rel=>exact ⟨m',s',me,A3,c3,A9,nl+1,c9,ps++[(p1,p2)],rfl,by omega,HTT,by omega,HG2,hl9,Lib.hid hE9,Lib.hid hbk9,HB.out.mid hm9 (Or.inl (by omega)),Y9,HM.out.transNew hm9 (Or.inl (by omega))⟩
   case measure=>rw [hmsz,sizeAt_box Y9];omega
end
section
open Go.RowKit
theorem spec_l7New (p1 p2 v:Int) (w:World) (h0:p1 < p2) (h1:0≤v) (h2:v < 1000000) :
  Calls Tryz.prog 247 #[.int .i64 v,.agg #[.int .i64 p1,.int .i64 p2]] w fun e w'=>e=.returned (.int .i64 (foldV (p1,p2) v))∧Mid 0 0 w w':=by
 have hm0:Mid 0 0 w (w.alloc (.cells #[.int .i64 p1,.int .i64 p2] 130)):=Mid.alloc _ _;have b0:=Box.new w #[.int .i64 p1,.int .i64 p2] 130;go_enter Tryz.func247,Tryz.ntmps247
 have q0:=b0.cell 0 rfl;have q1:=b0.cell 1 rfl;rcases (by omega:v=p2 ∨ p2 < v ∨ v < p2) with h | h | h
 ·subst h
  have d1:(v == v)=true:=by simp
  have d2:decide (v < p1)=false:=by simp;omega
  have hf:foldV (p1,v) v=p1:=by simp [foldV]
  have HF:=Lib.hid hf;clear hf;go_wp2_with fail;go_ret;exact ⟨by rw [HF.out];rfl,hm0⟩
 ·have d1:(v == p2)=false:=by simp only [beq_eq_false_iff_ne];omega
  have hf:foldV (p1,p2) v=v - 1:=by unfold foldV;rw [if_neg (by omega),if_pos (by simpa using h)]
  have HF:=Lib.hid hf;clear hf;go_wp2_with fail;go_ret;exact ⟨by rw [HF.out];rfl,hm0⟩
 ·have d1:(v == p2)=false:=by simp only [beq_eq_false_iff_ne];omega
  have hn:¬ p2 < v:=by omega
  have hf:foldV (p1,p2) v=v:=by unfold foldV;rw [if_neg (by omega),if_neg (by simpa using hn)]
  have HF:=Lib.hid hf;clear hf;go_wp2_with fail;go_ret;exact ⟨by rw [HF.out];rfl,hm0⟩
end
section
open Go.RowKit
theorem spec_MergeVertices (r s:Int) (A:Option Addr) (es:List Ed) (c:Nat) (p1 p2:Int) (w:World) (lo hi:Nat) (hr:RG w lo hi A es) (hg:IsGr r s es) (h0:0≤p1) (h1:p1 < p2) (h2:p2 < s) :
  Calls Tryz.prog 231 #[graV r s A es.length c,.agg #[.int .i64 p1,.int .i64 p2]] w fun e w'=>∃ A1 c1,e=.returned (.tuple #[graV r (s - 1) A1 (mergeE (p1,p2) es).length c1,.bool true])∧OG w' w.heap.size w'.heap.size A1 c1 (mergeE (p1,p2) es)∧Mid 0 0 w w':=by
 have hl:=hg.len;have hs40:=hg.size;have HG:=Lib.hid hg;have hm0:Mid 0 0 w (((w.alloc (.cells #[.int .i64 r,.int .i64 s,.slice A es.length c] 26)).alloc (.cells #[.int .i64 p1,.int .i64 p2] 130)).alloc (.cells #[.int .i64 0,.int .i64 0,.slice none 0 0] 26)):=((Mid.alloc _ _).trans (Mid.alloc _ _)).trans (Mid.alloc _ _);have b0:=((Box.new w #[.int .i64 r,.int .i64 s,.slice A es.length c] 26).mid (Mid.alloc _ (.cells #[.int .i64 p1,.int .i64 p2] 130)) oZr).mid (Mid.alloc _ (.cells #[.int .i64 0,.int .i64 0,.slice none 0 0] 26)) oZr;have bf:=(Box.new (w.alloc (.cells #[.int .i64 r,.int .i64 s,.slice A es.length c] 26)) #[.int .i64 p1,.int .i64 p2] 130).mid (Mid.alloc _ (.cells #[.int .i64 0,.int .i64 0,.slice none 0 0] 26)) oZr;have b2:=Box.new ((w.alloc (.cells #[.int .i64 r,.int .i64 s,.slice A es.length c] 26)).alloc (.cells #[.int .i64 p1,.int .i64 p2] 130)) #[.int .i64 0,.int .i64 0,.slice none 0 0] 26;simp only [World.size_alloc,Nat.add_assoc,Nat.reduceAdd] at bf b2;have d1:decide (p1 < 0)=false:=by simp;omega
 have d2:decide (p2≤p1)=false:=by simp;omega
 have d3:decide (s≤p2)=false:=by simp;omega
 clear hg;go_enter Tryz.func231,Tryz.ntmps231
 go_wp2_with fail;generalize hw1:(((w.alloc (.cells #[.int .i64 r,.int .i64 s,.slice A es.length c] 26)).alloc (.cells #[.int .i64 p1,.int .i64 p2] 130)).alloc (.cells #[.int .i64 0,.int .i64 0,.slice none 0 0] 26))=w1 at hm0 b0 bf b2 ⊢;clear hw1;with_reducible refine (spec_IsGraph r s A es c _ _ _ (hr.mid hm0 oZl).rv (by omega) true (iff_of_true rfl HG.out)).mono ?_
 rintro en w4 ⟨rfl,hm4⟩;replace b0:=b0.mid hm4 oZr;replace bf:=bf.mid hm4 oZr;replace b2:=b2.mid hm4 oZr;replace hm0:=hm0.trans hm4;have hs4:w.heap.size+3≤w4.heap.size:=b2.1;have q0:=b0.cell 0 rfl;have q1:=b0.cell 1 rfl;have q2:=b0.cell 2 rfl;have k0:=bf.cell 0 rfl;have k1:=bf.cell 1 rfl;have hal:=Mid.alloc w4 (.cells #[.int .i64 r,.int .i64 (s - 1),.slice none 0 0] 26);have Y3:=Box.new w4 #[.int .i64 r,.int .i64 (s - 1),.slice none 0 0] 26;replace b0:=b0.mid hal oZr;replace bf:=bf.mid hal oZr;replace b2:=b2.mid hal oZr;replace hm0:=hm0.trans hal;go_wp2_with fail;clear q0 q1 q2 k0 k1;have hs5:(w4.alloc (.cells #[.int .i64 r,.int .i64 (s - 1),.slice none 0 0] 26)).heap.size=w4.heap.size+1:=by simp
 generalize w4.alloc (.cells #[.int .i64 r,.int .i64 (s - 1),.slice none 0 0] 26)=w5 at Y3 b0 bf b2 hm0 hs5 ⊢;obtain ⟨G,hG⟩:∃ G,w4.heap.size=G:=⟨_,rfl⟩
 rw [hG] at Y3 hs4 hs5 ⊢;clear hal hm4 hG;go_loopw [7] (fun i wr=>∃ (q:Nat) (A2:Option Addr) (c2 lo2 hi2:Nat) (xs:List Ed),q≤es.length∧i=.int .i64 q∧Hid (xs=putAll [] ((es.take q).map (foldE (p1,p2)))) ∧
   OG wr lo2 hi2 A2 c2 xs∧G+1≤lo2 ∧
   Box wr w.heap.size [.int .i64 r,.int .i64 s,.slice A es.length c]∧Box wr (w.heap.size+1) [.int .i64 p1,.int .i64 p2]∧Box wr (w.heap.size+2) [.int .i64 0,.int .i64 0,.slice none 0 0]∧Box wr G [.int .i64 r,.int .i64 (s - 1),.slice A2 xs.length c2]∧Mid 0 0 w wr) (fun i _=>es.length - (intOf i).toNat)
 case atStart=>exact ⟨0,none,0,G+1,_,[],Nat.zero_le _,rfl,Lib.hid rfl,⟨Nat.le_of_eq hs5.symm,⟨rfl,.inl ⟨rfl,rfl⟩⟩,fun g hg=>by simp [Value.ownBlock] at hg⟩,Nat.le_refl _,b0,bf,b2,Y3,hm0⟩
 case round =>
  clear b0 bf b2 Y3 hm0 hs5;obtain ⟨q,A2,c2,lo2,hi2,xs,hq,rfl,HX,hown,hlo2,b0,bf,b2,Y3,hm⟩:=hrel;have hxl:xs.length≤120:=by
   have h1:=putAll_len [] ((es.take q).map (foldE (p1,p2)));rw [← HX.out] at h1;simp at h1;omega
  by_cases hlt:q < es.length
  ·obtain ⟨B,off,e,rfl, -,hbh,he,e0,e1,e2⟩:=(hr.mid hm oZl).ed hlt
   have hin:=HG.out.all e (List.mem_of_getElem? he);have htk:(es.take (q+1)).map (foldE (p1,p2))=(es.take q).map (foldE (p1,p2))++[foldE (p1,p2) e]:=by
    rw [take_snoc he,List.map_append]
    rfl
   obtain ⟨i1,i2,i3,i4,i5,i6⟩:=hin;have hq0:(0:Int)≤(q:Int):=by omega
   have hq1:(q:Int) < (es.length:Int):=by omega
   have hal:=Mid.alloc wr (.cells #[.int .i64 e.a,.int .i64 e.l,.int .i64 e.b] 68);have ZE:=Box.new wr #[.int .i64 e.a,.int .i64 e.l,.int .i64 e.b] 68;have hGr:G < wr.heap.size:=Y3.1;have u0:=b0.cell 0 rfl;have u1:=b0.cell 1 rfl;have u2:=b0.cell 2 rfl;replace b0:=b0.mid hal oZr;replace bf:=bf.mid hal oZr;replace b2:=b2.mid hal oZr;replace Y3:=Y3.mid hal oZr;replace hown:=hown.mid hal oZl;replace hm:=hm.trans hal;have HTK:=Lib.hid htk;clear he htk;go_wp2_with fail;clear e0 e1 e2 u0 u1 u2;generalize hwx:wr.alloc (.cells #[.int .i64 e.a,.int .i64 e.l,.int .i64 e.b] 68)=wx at ZE b0 bf b2 Y3 hown hm ⊢;generalize hgE:wr.heap.size=E at ZE hGr ⊢;clear hgE hwx hal;have hmd:=Mid.drew1 wx;replace b0:=b0.mid hmd oZr;replace bf:=bf.mid hmd oZr;replace b2:=b2.mid hmd oZr;replace Y3:=Y3.mid hmd oZr;replace ZE:=ZE.mid hmd oZr;replace hown:=hown.mid hmd oZl;replace hm:=hm.trans hmd;have f0:=ZE.cell 0 rfl;have f1:=ZE.cell 1 rfl;have f2:=ZE.cell 2 rfl;have g2:=Y3.cell 2 rfl;have k0:=bf.cell 0 rfl;have k1:=bf.cell 1 rfl;obtain ⟨x,hx⟩:∃ x,foldV (p1,p2) e.a=x:=⟨_,rfl⟩
   obtain ⟨y,hy⟩:∃ y,foldV (p1,p2) e.b=y:=⟨_,rfl⟩
   have HFE:Hid (foldE (p1,p2) e=⟨x,e.l,y⟩):=Lib.hid (by simp [foldE,hx,hy]);clear hmd;refine wp_region_T (S:=(fun w'=>w'.cell? ⟨E,0,none⟩=some (.int .i64 e.a)∧w'.cell? ⟨E,1,none⟩=some (.int .i64 e.l)∧w'.cell? ⟨E,2,none⟩=some (.int .i64 e.b)∧w'.cell? ⟨G,2,none⟩=some (.slice A2 xs.length c2)∧w'.cell? ⟨w.heap.size+1,0,none⟩=some (.int .i64 p1)∧w'.cell? ⟨w.heap.size+1,1,none⟩=some (.int .i64 p2))) 15 (by kernel_rfl) ⟨f0,f1,f2,g2,k0,k1⟩ ?_;generalize World.drew wx=wz at b0 bf b2 Y3 ZE hown hm f0 f1 f2 g2 k0 k1 ⊢;have hS:wz.cell? ⟨E,0,none⟩=some (.int .i64 e.a)∧wz.cell? ⟨E,1,none⟩=some (.int .i64 e.l)∧wz.cell? ⟨E,2,none⟩=some (.int .i64 e.b)∧wz.cell? ⟨G,2,none⟩=some (.slice A2 xs.length c2)∧wz.cell? ⟨w.heap.size+1,0,none⟩=some (.int .i64 p1)∧wz.cell? ⟨w.heap.size+1,1,none⟩=some (.int .i64 p2):=⟨f0,f1,f2,g2,k0,k1⟩
   have hP1:=spec_l7New p1 p2 e.a wz h1 i1 (by omega);rw [hx] at hP1;refine tkT 0 rfl hS ?_;try simp only [Act.put,zs1,zs2,zs3,zs4,zs5,zs6]
   refine tkT 1 rfl hS ?_;try simp only [Act.put,zs1,zs2,zs3,zs4,zs5,zs6]
   refine tkT 2 rfl hS ?_;try simp only [Act.put,zs1,zs2,zs3,zs4,zs5,zs6]
   refine tkT 3 rfl hS ?_;try simp only [Act.put,zs1,zs2,zs3,zs4,zs5,zs6]
   refine tkT 4 rfl hS ?_;try simp only [Act.put,zs1,zs2,zs3,zs4,zs5,zs6]
   refine tkT 6 rfl hS ?_;try simp only [Act.put,zs1,zs2,zs3,zs4,zs5,zs6]
   refine tkT 7 rfl hS ?_;try simp only [Act.put,zs1,zs2,zs3,zs4,zs5,zs6]
   refine tkT 8 rfl hS ?_;try simp only [Act.put,zs1,zs2,zs3,zs4,zs5,zs6]
   refine tkT 9 rfl hS ?_;try simp only [Act.put,zs1,zs2,zs3,zs4,zs5,zs6]
   refine tkT 10 rfl hS ?_;try simp only [Act.put,zs1,zs2,zs3,zs4,zs5,zs6]
   refine rdT 5 rfl (fun K hK=>?_)
   (go_simp;refine hP1.mono ?_;rintro _ w6 ⟨rfl,hc6⟩;have b06:=b0.mid hc6 oZr;have bf6:=bf.mid hc6 oZr;have b26:=b2.mid hc6 oZr;have Y36:=Y3.mid hc6 oZr;have ZE6:=ZE.mid hc6 oZr;have hown6:=OG.mid hown hc6 oZl;have hm6:=hm.trans hc6;have hS6:w6.cell? ⟨E,0,none⟩=some (.int .i64 e.a)∧w6.cell? ⟨E,1,none⟩=some (.int .i64 e.l)∧w6.cell? ⟨E,2,none⟩=some (.int .i64 e.b)∧w6.cell? ⟨G,2,none⟩=some (.slice A2 xs.length c2)∧w6.cell? ⟨w.heap.size+1,0,none⟩=some (.int .i64 p1)∧w6.cell? ⟨w.heap.size+1,1,none⟩=some (.int .i64 p2):=⟨ZE6.cell 0 rfl,ZE6.cell 1 rfl,ZE6.cell 2 rfl,Y36.cell 2 rfl,bf6.cell 0 rfl,bf6.cell 1 rfl⟩;go_wp2_with fail)
   refine hK.out _ _ (Or.inr hS6) (fun _=>?_);clear hK K;try simp only [Act.put,zs1,zs2,zs3,zs4,zs5,zs6]
   clear hS hP1 b0 bf b2 Y3 ZE hown hm f0 f1 f2 g2 k0 k1 hc6;have hP2:=spec_l7New p1 p2 e.b w6 h1 i3 (by omega);rw [hy] at hP2;clear hx hy;refine rdT 11 rfl (fun K hK=>?_)
   (go_simp;refine hP2.mono ?_;rintro _ w7 ⟨rfl,hc7⟩;have b07:=b06.mid hc7 oZr;have bf7:=bf6.mid hc7 oZr;have b27:=b26.mid hc7 oZr;have Y37:=Y36.mid hc7 oZr;have ZE7:=ZE6.mid hc7 oZr;have hown7:=OG.mid hown6 hc7 oZl;have hm7:=hm6.trans hc7;have hS7:w7.cell? ⟨E,0,none⟩=some (.int .i64 e.a)∧w7.cell? ⟨E,1,none⟩=some (.int .i64 e.l)∧w7.cell? ⟨E,2,none⟩=some (.int .i64 e.b)∧w7.cell? ⟨G,2,none⟩=some (.slice A2 xs.length c2)∧w7.cell? ⟨w.heap.size+1,0,none⟩=some (.int .i64 p1)∧w7.cell? ⟨w.heap.size+1,1,none⟩=some (.int .i64 p2):=⟨ZE7.cell 0 rfl,ZE7.cell 1 rfl,ZE7.cell 2 rfl,Y37.cell 2 rfl,bf7.cell 0 rfl,bf7.cell 1 rfl⟩;go_wp2_with fail)
   refine hK.out _ _ (Or.inr hS7) (fun _=>?_);clear hK K;try simp only [Act.put,zs1,zs2,zs3,zs4,zs5,zs6]
   clear hS6 hP2 b06 bf6 b26 Y36 ZE6 hown6 hm6 hc7;refine tkT 12 rfl hS7 ?_;try simp only [Act.put,zs1,zs2,zs3,zs4,zs5,zs6]
   have hQ:=spec_l4Put A2 xs c2 ⟨x,e.l,y⟩ w7 _ _ hown7.rg (by omega);refine rdT 13 rfl (fun K hK=>?_)
   (go_simp;refine hQ.mono ?_;rintro en w9 ⟨A9,c9,rfl,ho9,hc9⟩;have b09:=b07.mid hc9 oZr;have bf9:=bf7.mid hc9 oZr;have b29:=b27.mid hc9 oZr;have Y39:=Y37.mid hc9 oZr;have ZE9:=ZE7.mid hc9 oZr;have hown9:=OG.mid hown7 hc9 oZl;have hm9:=hm7.trans hc9;go_wp2_with fail)
   refine hK.out _ _ (Or.inr ⟨ZE9.cell 0 rfl,ZE9.cell 1 rfl,ZE9.cell 2 rfl,Y39.cell 2 rfl,bf9.cell 0 rfl,bf9.cell 1 rfl⟩) (fun _=>?_);clear hK K;try simp only [Act.put,zs1,zs2,zs3,zs4,zs5,zs6]
   have hS9:w9.cell? ⟨E,0,none⟩=some (.int .i64 e.a)∧w9.cell? ⟨E,1,none⟩=some (.int .i64 e.l)∧w9.cell? ⟨E,2,none⟩=some (.int .i64 e.b)∧w9.cell? ⟨G,2,none⟩=some (.slice A2 xs.length c2)∧w9.cell? ⟨w.heap.size+1,0,none⟩=some (.int .i64 p1)∧w9.cell? ⟨w.heap.size+1,1,none⟩=some (.int .i64 p2):=⟨ZE9.cell 0 rfl,ZE9.cell 1 rfl,ZE9.cell 2 rfl,Y39.cell 2 rfl,bf9.cell 0 rfl,bf9.cell 1 rfl⟩
   have hr2:=Y39.cell 2 rfl;have hrf:=Y39.2.2;have hG7:G+1≤w7.heap.size:=Y37.1;clear hS7 b07 bf7 b27 Y37 ZE7 hown7 hm7 hc9 hQ;refine tkT 14 rfl hS9 ?_;try simp only [Act.put,zs1,zs2,zs3,zs4,zs5,zs6]
   refine rdT 15 rfl (fun K hK=>?_)
   (go_simp)
   refine hK.out _ _ (Or.inl rfl) (fun _=>?_);clear hK K;try simp only [Act.put,zs1,zs2,zs3,zs4,zs5,zs6]
   refine wpAnyT_done (by kernel_rfl) ?_ _;go_wp2_with fail;go_roundw
   case rel =>
    have hst:=Mid.setAt w9 G 2 (.slice A9 (putE ⟨x,e.l,y⟩ xs).length c9);refine ⟨q+1,A9,c9,_,_,_,by omega,by go_num,Lib.hid ?_,ho9.mid hst (Or.inl hG7),hG7,b09.mid hst (Or.inl (by omega)),bf9.mid hst (Or.inl (by omega)),b29.mid hst (Or.inl (by omega)),Y39.set 2 _ (by simp) rfl,hm9.storeNew (p:=⟨G,2,none⟩) (by show w.heap.size≤G;omega) _⟩;rw [HTK.out,putAll_snoc,← HX.out,HFE.out]
   case measure=>simp [intOf];omega
  ·obtain rfl:q=es.length:=by omega
   have hxx:=HX.out;rw [List.take_length] at hxx;have HXX:=Lib.hid (show xs=mergeE (p1,p2) es from hxx);clear hxx;have u0:=b0.cell 0 rfl;have u1:=b0.cell 1 rfl;have u2:=b0.cell 2 rfl;have a0:=b2.cell 0 rfl;have a1:=b2.cell 1 rfl;have a2:=b2.cell 2 rfl;have x0:=Y3.cell 0 rfl;have x1:=Y3.cell 1 rfl;have x2:=Y3.cell 2 rfl;have af:=b2.2.2;have xf:=Y3.2.2;have hcl:¬ w.heap.size+2=G:=by omega
   have hcl2:¬ G=w.heap.size+2:=by omega
   go_wp2_with fail;have hcl3:(w.heap.size+2 == G)=false:=by simpa using hcl
   refine bodyPost_ret (v:=.tuple #[.agg #[.int .i64 r,.int .i64 (s - 1),.slice A2 xs.length c2],.bool true]) (by simp [results,Tryz.results231,go_sem,a0,a1,a2,x0,x1,x2,af,xf,hcl]) rfl ⟨A2,c2,by rw [HXX.out],?_,?_⟩
   ·rw [← HXX.out]
    refine OG.wide (OG.mid hown (a:=w.heap.size) (b:=G+1) ?_ (Or.inl hlo2)) (by omega) (by have:=hown.size;simpa using this) (Nat.le_refl _);repeat (first | exact Mid.refl _ _ _ | refine Mid.stored ?_ _ (by simp;try omega) (by simp;try omega))
   ·repeat (first | exact hm | refine Mid.storeNew ?_ (by simp;try omega) _)
end
section
open Go.RowKit
theorem spec_l7Folds (r s:Int) (A:Option Addr) (es:List Ed) (c:Nat) (w:World) (lo hi:Nat) (hr:RG w lo hi A es) (hl:es.length≤120) :
  Calls Tryz.prog 246 #[graV r s A es.length c] w fun e w'=>∃ A1 c1,e=.returned (.slice A1 (folds es).length c1)∧RV w' 0 w'.heap.size A1 (ints (fdI (folds es)))∧Mid 0 0 w w':=by
 have hm0:Mid 0 0 w ((w.alloc (.cells #[.int .i64 r,.int .i64 s,.slice A es.length c] 26)).alloc (.cells #[] 130)):=(Mid.alloc _ _).trans (Mid.alloc _ _);have b0:=(Box.new w #[.int .i64 r,.int .i64 s,.slice A es.length c] 26).mid (Mid.alloc _ (.cells #[] 130)) oZr;have O0:=owns_empty (w.alloc (.cells #[.int .i64 r,.int .i64 s,.slice A es.length c] 26)) 130 2;rw [World.size_alloc] at O0;go_enter Tryz.func246,Tryz.ntmps246
 go_wp2_with fail;go_loopw [3,4] (fun out iv wr=>∃ (k:Nat) (A1:Option Addr) (n1 c1:Nat),k≤es.length∧iv=.int .i64 k∧out=.slice A1 n1 c1∧Hid ((foldsUp es k).length=n1)∧wr.ownsRow (w.heap.size+1) 130 2 (.slice A1 n1 c1) n1 (ints (fdI (foldsUp es k))) ∧
   Box wr w.heap.size [.int .i64 r,.int .i64 s,.slice A es.length c]∧Mid 0 0 w wr) (fun _ i _=>es.length - (intOf i).toNat)
 case atStart=>exact ⟨0,_,0,0,Nat.zero_le _,rfl,rfl,Lib.hid rfl,O0,b0,hm0⟩
 case round =>
  clear O0 b0 hm0;obtain ⟨wo,hwo⟩:∃ wo,wo=wr:=⟨_,rfl⟩
  subst hwo;obtain ⟨k,A1,n1,c1,hk,rfl,rfl,HN,hown,b0,hm⟩:=hrel;have q0:=b0.cell 0 rfl;have q1:=b0.cell 1 rfl;have q2:=b0.cell 2 rfl;by_cases hlt:k < es.length
  ·obtain ⟨e,he⟩:=get_of_lt es hlt
   have HE:=Lib.hid he;have hk0:(0:Int)≤(k:Int):=by omega
   have hk1:(k:Int) < (es.length:Int):=by omega
   clear he;go_wp2_with fail;clear q0 q1 q2;go_loopw [3,5] (fun out jv wr=>∃ (j:Nat) (A2:Option Addr) (n2 c2:Nat),k+1+j≤es.length∧jv=.int .i64 ((k+1+j:Nat):Int)∧out=.slice A2 n2 c2∧Hid ((foldsUp es k++((es.drop (k+1)).take j).flatMap (foldsAB e)).length=n2) ∧
     wr.ownsRow (w.heap.size+1) 130 2 (.slice A2 n2 c2) n2 (ints (fdI (foldsUp es k++((es.drop (k+1)).take j).flatMap (foldsAB e)))) ∧
     Box wr w.heap.size [.int .i64 r,.int .i64 s,.slice A es.length c]∧Mid 0 0 w wr) (fun _ j _=>es.length - (intOf j).toNat)
   case atStart=>exact ⟨0,A1,n1,c1,by omega,by go_num,rfl,Lib.hid (by simpa using HN.out),by simpa using hown,b0,hm⟩
   case round =>
    clear hown b0 hm HN;obtain ⟨j,A2,n2,c2,hj,rfl,rfl,HN,hown,b0,hm⟩:=hrel;have hn2:n2≤40000:=by
     have h1:=foldsUp_len es k;have h2:=flat_len e ((es.drop (k+1)).take j);have h3:=HN.out;have h4:k * (2 * es.length)≤120 * 240:=Nat.mul_le_mul (by omega) (by omega);rw [List.length_append] at h3;rw [List.length_take,List.length_drop] at h2;omega
    obtain ⟨m,hmj⟩:∃ m,k+1+j=m:=⟨_,rfl⟩
    rw [hmj];have HM:=Lib.hid hmj;rw [hmj] at hj;clear hmj;have q0:=b0.cell 0 rfl;have q1:=b0.cell 1 rfl;have q2:=b0.cell 2 rfl;by_cases hlt2:m < es.length
    ·obtain ⟨B,off,e',rfl, -,hbh,he',e0,e1c,e2c⟩:=(hr.mid hm oZl).ed hlt
     rw [HE.out] at he';injection he' with he'
     subst he';obtain ⟨B',off',f,hX, -,hbh2,hf,f0,f1,f2⟩:=(hr.mid hm oZl).ed hlt2;injection hX with hX
     injection hX with hX1 hX2
     subst hX1 hX2;have HF:=Lib.hid (flat_take (e:=e) (show (es.drop (k+1))[j]?=some f by rw [List.getElem?_drop,HM.out];exact hf));have hj0:(0:Int)≤(m:Int):=by omega
     have hjn:(m:Int) < (es.length:Int):=by omega
     have zb:B < wr.heap.size:=Nat.lt_of_lt_of_le hbh (hr.mid hm oZl).1;have h0r:w.heap.size < wr.heap.size:=b0.1;have hal:=(Mid.alloc wr (.cells #[.int .i64 e.a,.int .i64 e.l,.int .i64 e.b] 68)).trans (Mid.alloc (wr.alloc (.cells #[.int .i64 e.a,.int .i64 e.l,.int .i64 e.b] 68)) (.cells #[.int .i64 f.a,.int .i64 f.l,.int .i64 f.b] 68));have ZE:=(Box.new wr #[.int .i64 e.a,.int .i64 e.l,.int .i64 e.b] 68).mid (Mid.alloc (wr.alloc (.cells #[.int .i64 e.a,.int .i64 e.l,.int .i64 e.b] 68)) (.cells #[.int .i64 f.a,.int .i64 f.l,.int .i64 f.b] 68)) oZr;have ZF:=Box.new (wr.alloc (.cells #[.int .i64 e.a,.int .i64 e.l,.int .i64 e.b] 68)) #[.int .i64 f.a,.int .i64 f.l,.int .i64 f.b] 68;rw [World.size_alloc] at ZF;have HNE:=Lib.hid (show Value.ownBlock (.slice A2 n2 c2)≠some wr.heap.size from fun h=>by have:=(hown.lt _ h).2;omega);have HFE:=Lib.hid (show Value.ownBlock (.slice A2 n2 c2)≠some (wr.heap.size+1) from fun h=>by have:=(hown.lt _ h).2;omega);have hB0:=Lib.hid (fun (g:Nat) (h:Value.ownBlock (.slice A2 n2 c2)=some g)=>(hown.lt g h).1);replace b0:=b0.mid hal oZr;replace hown:=owns_mid hown hal oZl;replace hm:=hm.trans hal;have HW:=Lib.hid hown;have hszA:w.heap.size+1≤((wr.alloc (.cells #[.int .i64 e.a,.int .i64 e.l,.int .i64 e.b] 68)).alloc (.cells #[.int .i64 f.a,.int .i64 f.l,.int .i64 f.b] 68)).heap.size:=by simp;omega
     clear hf hown hal;by_cases e1:e.l=f.l
     ·have d1:(e.l == f.l)=true:=by simpa using e1
      by_cases e2:e.a=f.a
      ·have d2:(e.a == f.a)=true:=by simpa using e2
       by_cases e3:e.b=f.b
       ·have d3:(e.b == f.b)=true:=by simpa using e3
        have hAB:foldsAB e f=[(min e.b f.b,max e.b f.b),(min e.a f.a,max e.a f.a)]:=by simp [foldsAB,e1,e2,e3]
        have HAB:Hid (foldsUp es k++((es.drop (k+1)).take (j+1)).flatMap (foldsAB e)=(foldsUp es k++((es.drop (k+1)).take j).flatMap (foldsAB e))++[(min e.b f.b,max e.b f.b)]++[(min e.a f.a,max e.a f.a)]):=Lib.hid (by rw [HF.out,hAB];simp);clear e1 e2 e3 hAB;go_wp2_with (first | (at_builtin;refine wpList_pushF rfl _ _ rfl (w.heap.size+1) A2 n2 c2 _ rfl HW.out (min e.b f.b,max e.b f.b) (by rw [World.size_alloc,World.size_alloc];rfl) (by omega) hszA ?_;intro A8 c8 w8 ho8 hgr8 hat8;have ZE8:=ZE.grown hgr8 HNE.out;have ZF8:=ZF.grown hgr8 HFE.out;have g80:=ZE8.cell 0 rfl;have g81:=ZE8.cell 1 rfl;have g82:=ZE8.cell 2 rfl;have h80:=ZF8.cell 0 rfl;have h81:=ZF8.cell 1 rfl;have h82:=ZF8.cell 2 rfl;have HW8:=Lib.hid ho8;have hsz8:=Nat.le_trans hszA hgr8.size;clear ho8) | (at_builtin;refine wpList_pushF rfl _ _ rfl (w.heap.size+1) A8 (n2+1) c8 _ rfl HW8.out (min e.a f.a,max e.a f.a) rfl (by omega) hsz8 ?_;intro A9 c9 w9 ho9 hgr9 hat9))
        have hm8:=Mid.of_grownRow HW.out hgr8;have hm9:=Mid.of_grownRow HW8.out hgr9;have HB8:=Lib.hid (fun (g:Nat) (h:Value.ownBlock (.slice A8 (n2+1) c8)=some g)=>(HW8.out.lt g h).1);clear hat9 hat8;go_roundw
        case rel=>exact ⟨j+1,A9,n2+1+1,c9,by have:=HM.out;omega,by have:=HM.out;go_num,rfl,Lib.hid (by rw [HAB.out,List.length_append,List.length_append,HN.out];rfl),by rw [HAB.out];exact ho9,(b0.grown hgr8 (fun h=>by have:=hB0.out _ h;omega)).grown hgr9 (fun h=>by have:=HB8.out _ h;omega),(hm.transNew hm8 (Or.inl (Nat.le_succ _))).transNew hm9 (Or.inl (Nat.le_succ _))⟩
        case measure=>have:=HM.out;simp [intOf];omega
       ·have d3:(e.b == f.b)=false:=by simpa only [beq_eq_false_iff_ne] using e3
        have hAB:foldsAB e f=[(min e.b f.b,max e.b f.b)]:=by simp [foldsAB,e1,e2,e3]
        have HAB:Hid (foldsUp es k++((es.drop (k+1)).take (j+1)).flatMap (foldsAB e)=(foldsUp es k++((es.drop (k+1)).take j).flatMap (foldsAB e))++[(min e.b f.b,max e.b f.b)]):=Lib.hid (by rw [HF.out,hAB,List.append_assoc]);clear e1 e2 e3 hAB;go_wp2_with (at_builtin;refine wpList_pushF rfl _ _ rfl (w.heap.size+1) A2 n2 c2 _ rfl HW.out (min e.b f.b,max e.b f.b) (by rw [World.size_alloc,World.size_alloc];rfl) (by omega) hszA ?_;intro A9 c9 w9 ho9 hgr9 hat9;have ZE8:=ZE.grown hgr9 HNE.out;have ZF8:=ZF.grown hgr9 HFE.out;have g80:=ZE8.cell 0 rfl;have g81:=ZE8.cell 1 rfl;have g82:=ZE8.cell 2 rfl;have h80:=ZF8.cell 0 rfl;have h81:=ZF8.cell 1 rfl;have h82:=ZF8.cell 2 rfl)
        have hm9:=Mid.of_grownRow HW.out hgr9;clear hat9;go_roundw
        case rel=>exact ⟨j+1,A9,n2+1,c9,by have:=HM.out;omega,by have:=HM.out;go_num,rfl,Lib.hid (by rw [HAB.out,List.length_append,HN.out];rfl),by rw [HAB.out];exact ho9,b0.grown hgr9 (fun h=>by have:=hB0.out _ h;omega),hm.transNew hm9 (Or.inl (Nat.le_succ _))⟩
        case measure=>have:=HM.out;simp [intOf];omega
      ·have d2:(e.a == f.a)=false:=by simpa only [beq_eq_false_iff_ne] using e2
       by_cases e3:e.b=f.b
       ·have d3:(e.b == f.b)=true:=by simpa using e3
        have hAB:foldsAB e f=[(min e.a f.a,max e.a f.a)]:=by simp [foldsAB,e1,e2,e3]
        have HAB:Hid (foldsUp es k++((es.drop (k+1)).take (j+1)).flatMap (foldsAB e)=(foldsUp es k++((es.drop (k+1)).take j).flatMap (foldsAB e))++[(min e.a f.a,max e.a f.a)]):=Lib.hid (by rw [HF.out,hAB,List.append_assoc]);clear e1 e2 e3 hAB;go_wp2_with (at_builtin;refine wpList_pushF rfl _ _ rfl (w.heap.size+1) A2 n2 c2 _ rfl HW.out (min e.a f.a,max e.a f.a) (by rw [World.size_alloc,World.size_alloc];rfl) (by omega) hszA ?_;intro A9 c9 w9 ho9 hgr9 hat9;have ZE8:=ZE.grown hgr9 HNE.out;have ZF8:=ZF.grown hgr9 HFE.out;have g80:=ZE8.cell 0 rfl;have g81:=ZE8.cell 1 rfl;have g82:=ZE8.cell 2 rfl;have h80:=ZF8.cell 0 rfl;have h81:=ZF8.cell 1 rfl;have h82:=ZF8.cell 2 rfl)
        have hm9:=Mid.of_grownRow HW.out hgr9;clear hat9;go_roundw
        case rel=>exact ⟨j+1,A9,n2+1,c9,by have:=HM.out;omega,by have:=HM.out;go_num,rfl,Lib.hid (by rw [HAB.out,List.length_append,HN.out];rfl),by rw [HAB.out];exact ho9,b0.grown hgr9 (fun h=>by have:=hB0.out _ h;omega),hm.transNew hm9 (Or.inl (Nat.le_succ _))⟩
        case measure=>have:=HM.out;simp [intOf];omega
       ·have d3:(e.b == f.b)=false:=by simpa only [beq_eq_false_iff_ne] using e3
        have hAB:foldsAB e f=[]:=by simp [foldsAB,e1,e2,e3]
        have HAB:Hid (((es.drop (k+1)).take (j+1)).flatMap (foldsAB e)=((es.drop (k+1)).take j).flatMap (foldsAB e)):=Lib.hid (by rw [HF.out,hAB,List.append_nil]);clear e1 e2 e3 hAB;go_wp2_with fail;go_roundw
        case rel=>exact ⟨j+1,A2,n2,c2,by have:=HM.out;omega,by have:=HM.out;go_num,rfl,by rw [HAB.out];exact HN,by rw [HAB.out];exact HW.out,b0,hm⟩
        case measure=>have:=HM.out;simp [intOf];omega
     ·have d1:(e.l == f.l)=false:=by simpa only [beq_eq_false_iff_ne] using e1
      have hAB:foldsAB e f=[]:=by unfold foldsAB;rw [if_neg e1]
      have HAB:Hid (((es.drop (k+1)).take (j+1)).flatMap (foldsAB e)=((es.drop (k+1)).take j).flatMap (foldsAB e)):=Lib.hid (by rw [HF.out,hAB,List.append_nil]);clear e1 hAB;go_wp2_with fail;go_roundw
      case rel=>exact ⟨j+1,A2,n2,c2,by have:=HM.out;omega,by have:=HM.out;go_num,rfl,by rw [HAB.out];exact HN,by rw [HAB.out];exact HW.out,b0,hm⟩
      case measure=>have:=HM.out;simp [intOf];omega
    ·have hje:j=es.length - (k+1):=by have:=HM.out;omega
     subst hje;rw [List.take_of_length_le (by rw [List.length_drop];exact Nat.le_refl _),← foldsUp_succ HE.out] at HN hown;obtain rfl:m=es.length:=by omega
     go_wp2_with fail;go_roundw
     case rel=>exact ⟨k+1,A2,n2,c2,by omega,by go_num,rfl,HN,hown,b0,hm⟩
     case measure=>simp [intOf];omega
  ·obtain rfl:k=es.length:=by omega
   rw [foldsUp_all] at HN hown;go_wp2_with fail;go_ret;have hn:=HN.out;subst hn;exact ⟨A1,c1,rfl,(owns_rv hown).wide (Nat.zero_le _) (Nat.le_refl _) (Nat.le_refl _),hm⟩
end
section
open Go.RowKit
theorem spec_FirstFold (r s:Int) (A:Option Addr) (es:List Ed) (c:Nat) (w:World) (lo hi:Nat) (hr:RG w lo hi A es) (hg:IsGr r s es) (p:Int × Int) (b:Bool) (hp:FirstIs es p b) :
  Calls Tryz.prog 230 #[graV r s A es.length c] w fun e w'=>e=.returned (.tuple #[.agg #[.int .i64 p.1,.int .i64 p.2],.bool b])∧Mid 0 0 w w':=by
 have hl:=hg.len;have HG:=Lib.hid hg;have hm0:Mid 0 0 w ((w.alloc (.cells #[.int .i64 r,.int .i64 s,.slice A es.length c] 26)).alloc (.cells #[.int .i64 0,.int .i64 0] 130)):=(Mid.alloc _ _).trans (Mid.alloc _ _);have b0:=(Box.new w #[.int .i64 r,.int .i64 s,.slice A es.length c] 26).mid (Mid.alloc _ (.cells #[.int .i64 0,.int .i64 0] 130)) oZr;have b2:=Box.new (w.alloc (.cells #[.int .i64 r,.int .i64 s,.slice A es.length c] 26)) #[.int .i64 0,.int .i64 0] 130;rw [World.size_alloc] at b2;clear hg;obtain ⟨p1,p2⟩:=p;go_enter Tryz.func230,Tryz.ntmps230
 go_wp2_with fail;with_reducible refine (spec_IsGraph r s A es c _ _ _ (hr.mid hm0 oZl).rv (by omega) true (iff_of_true rfl HG.out)).mono ?_
 rintro en w1 ⟨rfl,hm1⟩;replace b0:=b0.mid hm1 oZr;replace b2:=b2.mid hm1 oZr;replace hm0:=hm0.trans hm1;have q0:=b0.cell 0 rfl;have q1:=b0.cell 1 rfl;have q2:=b0.cell 2 rfl;go_wp2_with fail;with_reducible refine (spec_l7Folds r s A es c _ _ _ (hr.mid hm0 oZl) hl).mono ?_
 rintro en w2 ⟨A2,c2,rfl,hrv,hm2⟩;replace b2:=b2.mid hm2 oZr;replace hm0:=hm0.trans hm2;have zf:=b2.2.2;have z0:=b2.cell 0 rfl;have z1:=b2.cell 1 rfl;clear q0 q1 q2 hm1 hm2;rcases hp with ⟨rfl,hn,hpp⟩ | ⟨rfl,t,ht⟩
 ·injection hpp with h1 h2
  subst h1 h2;have hn0:(folds es).length=0:=by rw [hn];rfl
  clear hn;go_wp2_with fail;refine bodyPost_ret (v:=.tuple #[.agg #[.int .i64 0,.int .i64 0],.bool false]) (by simp [results,Tryz.results230,go_sem,z0,z1,zf]) rfl ⟨rfl,?_⟩;repeat (first | exact hm0 | refine Mid.storeNew ?_ (by simp;try omega) _)
 ·obtain ⟨nl,hnl⟩:∃ nl,(folds es).length=nl+1:=⟨t.length,by rw [ht];rfl⟩
  obtain ⟨g,off,rfl, -, -,hc⟩:=hrv.2 (by rw [ht];simp [fdI_head,ints]);have y0:=hc 0 (.int .i64 p1) (by rw [ht];simp [fdI_head,ints]);have y1:=hc 1 (.int .i64 p2) (by rw [ht];simp [fdI_head,ints]);rw [Nat.add_zero] at y0;have hd:((nl+1:Nat) == 0)=false:=by simp
  rw [hnl];have h1:(0:Int) < ((nl+1:Nat):Int):=by omega
  clear hc ht hrv hnl;go_wp2_with fail;refine bodyPost_ret (v:=.tuple #[.agg #[.int .i64 p1,.int .i64 p2],.bool true]) (by simp [results,Tryz.results230,go_sem,z0,z1,zf]) rfl ⟨rfl,?_⟩;repeat (first | exact hm0 | refine Mid.storeNew ?_ (by simp;try omega) _)
end
section
open Go.RowKit
theorem spec_FoldOnce (r s:Int) (A:Option Addr) (es:List Ed) (c:Nat) (w:World) (lo hi:Nat) (hr:RG w lo hi A es) (hg:IsGr r s es) (p:Int × Int) (b:Bool) (rs:Int) (res:List Ed) (hp:OnceIs s es p b rs res) :
  Calls Tryz.prog 206 #[graV r s A es.length c] w fun e w'=>∃ A1 c1,e=.returned (.tuple #[graV r rs A1 res.length c1,.agg #[.int .i64 p.1,.int .i64 p.2],.bool b])∧OG w' w.heap.size w'.heap.size A1 c1 res∧Mid 0 0 w w':=by
 have hl:=hg.len;have HG:=Lib.hid hg;have hm0:Mid 0 0 w (((w.alloc (.cells #[.int .i64 r,.int .i64 s,.slice A es.length c] 26)).alloc (.cells #[.int .i64 0,.int .i64 0,.slice none 0 0] 26)).alloc (.cells #[.int .i64 0,.int .i64 0] 130)):=((Mid.alloc _ _).trans (Mid.alloc _ _)).trans (Mid.alloc _ _);have b0:=((Box.new w #[.int .i64 r,.int .i64 s,.slice A es.length c] 26).mid (Mid.alloc _ (.cells #[.int .i64 0,.int .i64 0,.slice none 0 0] 26)) oZr).mid (Mid.alloc _ (.cells #[.int .i64 0,.int .i64 0] 130)) oZr;have b2:=(Box.new (w.alloc (.cells #[.int .i64 r,.int .i64 s,.slice A es.length c] 26)) #[.int .i64 0,.int .i64 0,.slice none 0 0] 26).mid (Mid.alloc _ (.cells #[.int .i64 0,.int .i64 0] 130)) oZr;have b3:=Box.new ((w.alloc (.cells #[.int .i64 r,.int .i64 s,.slice A es.length c] 26)).alloc (.cells #[.int .i64 0,.int .i64 0,.slice none 0 0] 26)) #[.int .i64 0,.int .i64 0] 130;simp only [World.size_alloc,Nat.add_assoc,Nat.reduceAdd] at b2 b3;have hF:=hp.first
 have HF:=Lib.hid hF;clear hg hF;obtain ⟨p1,p2⟩:=p;go_enter Tryz.func206,Tryz.ntmps206
 go_wp2_with fail;generalize hw1:(((w.alloc (.cells #[.int .i64 r,.int .i64 s,.slice A es.length c] 26)).alloc (.cells #[.int .i64 0,.int .i64 0,.slice none 0 0] 26)).alloc (.cells #[.int .i64 0,.int .i64 0] 130))=w1 at hm0 b0 b2 b3 ⊢;clear hw1;with_reducible refine (spec_FirstFold r s A es c _ _ _ (hr.mid hm0 oZl) HG.out (p1,p2) b HF.out).mono ?_
 rintro en w2 ⟨rfl,hm2⟩;replace b0:=b0.mid hm2 oZr;replace b2:=b2.mid hm2 oZr;replace b3:=b3.mid hm2 oZr;replace hm0:=hm0.trans hm2;have hbs0:=b0.1;have hbs2:=b2.1;have hbs3:=b3.1;have u0:=b0.cell 0 rfl;have u1:=b0.cell 1 rfl;have u2:=b0.cell 2 rfl;have hal:=Mid.alloc w2 (.cells #[.int .i64 p1,.int .i64 p2] 130);have bf:=Box.new w2 #[.int .i64 p1,.int .i64 p2] 130;replace b0:=b0.mid hal oZr;replace b2:=b2.mid hal oZr;replace b3:=b3.mid hal oZr;replace hm0:=hm0.trans hal;clear hm2;rcases hp with ⟨rfl,hn,hpp,rfl,rfl⟩ | ⟨rfl,⟨t,ht⟩,rfl,hres⟩
 ·injection hpp with h1 h2
  subst h1 h2;clear hn;go_wp2_with fail;clear u0 u1 u2;generalize hw3:w2.alloc (.cells #[.int .i64 0,.int .i64 0] 130)=w3 at b0 b2 b3 bf hm0 ⊢;clear hw3 hal;with_reducible refine (spec_l4Copy r rs A res c _ _ _ (hr.mid hm0 oZl) (by omega)).mono ?_
  rintro en w4 ⟨A4,c4,rfl,hog,hm4⟩;have hs3:w.heap.size+3≤w3.heap.size:=b3.1;replace b2:=b2.mid hm4 oZr;replace b3:=b3.mid hm4 oZr;replace hm0:=hm0.trans hm4;have a0:=b2.cell 0 rfl;have a1:=b2.cell 1 rfl;have a2:=b2.cell 2 rfl;have x0:=b3.cell 0 rfl;have x1:=b3.cell 1 rfl;have af:=b2.2.2;have xf:=b3.2.2;go_wp2_with fail;refine bodyPost_ret (v:=.tuple #[.agg #[.int .i64 r,.int .i64 rs,.slice A4 res.length c4],.agg #[.int .i64 0,.int .i64 0],.bool false]) (by simp [results,Tryz.results206,go_sem,a0,a1,a2,x0,x1,af,xf]) rfl ⟨A4,c4,rfl,?_,?_⟩
  ·refine OG.wide (OG.mid hog (a:=w.heap.size+1) (b:=w.heap.size+3) ?_ (Or.inl (by omega))) (by omega) (by simp) (Nat.le_refl _)
   repeat (first | exact Mid.refl _ _ _ | refine Mid.stored ?_ _ (by simp;try omega) (by simp;try omega))
  ·repeat (first | exact hm0 | refine Mid.storeNew ?_ (by simp;try omega) _)
 ·obtain ⟨k1,k2,k3⟩:=mem_folds HG.out.all HG.out.asc (p:=(p1,p2)) (by rw [ht];simp)
  simp only at k1 k2 k3;have HRES:=Lib.hid hres;clear ht hres;have y0:=bf.cell 0 rfl;have y1:=bf.cell 1 rfl;go_wp2_with fail;clear u0 u1 u2 y0 y1;generalize hw3:w2.alloc (.cells #[.int .i64 p1,.int .i64 p2] 130)=w3 at b0 b2 b3 bf hm0 ⊢;have hs3:w3.heap.size=w2.heap.size+1:=by rw [← hw3];simp
  clear hw3 hal;obtain ⟨F,hF⟩:∃ F,w2.heap.size=F:=⟨_,rfl⟩
  rw [hF] at bf hs3 hbs0 hbs2 hbs3 ⊢;clear hF;with_reducible refine (spec_MergeVertices r s A es c p1 p2 _ _ _ (hr.mid hm0 oZl) HG.out k1 k2 k3).mono ?_
  rintro en w4 ⟨A4,c4,rfl,hog,hm4⟩;rw [← HRES.out] at hog ⊢;have hsz4:=hm4.size;replace b2:=b2.mid hm4 oZr;replace b3:=b3.mid hm4 oZr;replace bf:=bf.mid hm4 oZr;replace hm0:=hm0.trans hm4;have hal4:=Mid.alloc w4 (.cells #[.int .i64 r,.int .i64 (s - 1),.slice A4 res.length c4] 26);have bg:=Box.new w4 #[.int .i64 r,.int .i64 (s - 1),.slice A4 res.length c4] 26;replace b2:=b2.mid hal4 oZr;replace b3:=b3.mid hal4 oZr;replace bf:=bf.mid hal4 oZr;replace hog:=hog.mid hal4 oZl;replace hm0:=hm0.trans hal4;go_wp2_with fail;generalize hw5:w4.alloc (.cells #[.int .i64 r,.int .i64 (s - 1),.slice A4 res.length c4] 26)=w5 at b2 b3 bf bg hog hm0 ⊢;have hs5:w5.heap.size=w4.heap.size+1:=by rw [← hw5];simp
  clear hw5 hal4;obtain ⟨H,hH⟩:∃ H,w4.heap.size=H:=⟨_,rfl⟩
  rw [hH] at bg hsz4 hs5 hog ⊢;clear hH;have a0:=b2.cell 0 rfl;have a1:=b2.cell 1 rfl;have a2:=b2.cell 2 rfl;have x0:=b3.cell 0 rfl;have x1:=b3.cell 1 rfl;have y0:=bf.cell 0 rfl;have y1:=bf.cell 1 rfl;have z0:=bg.cell 0 rfl;have z1:=bg.cell 1 rfl;have z2:=bg.cell 2 rfl;have af:=b2.2.2;have xf:=b3.2.2;have n1:¬ w.heap.size+1=H:=by omega
  have n2:¬ w.heap.size+2=H:=by omega
  have n3:¬ w.heap.size+1=F:=by omega
  have n4:¬ w.heap.size+2=F:=by omega
  have n5:¬ F=H:=by omega
  go_region
  go_wp2_with fail;refine bodyPost_ret (v:=.tuple #[.agg #[.int .i64 r,.int .i64 (s - 1),.slice A4 res.length c4],.agg #[.int .i64 p1,.int .i64 p2],.bool true]) (by simp [results,Tryz.results206,go_sem,a0,a1,a2,x0,x1,af,xf]) rfl ⟨A4,c4,rfl,?_,?_⟩
  ·refine OG.wide (OG.mid hog (a:=w.heap.size+1) (b:=w.heap.size+3) ?_ (Or.inl (by omega))) (by omega) (by have:=hog.size;simp;omega) (Nat.le_refl _)
   refine Mid.trans ?_ (Mid.drew1 _).zero;repeat (first | exact Mid.refl _ _ _ | refine Mid.stored ?_ _ (by simp;try omega) (by simp;try omega))
  ·refine Mid.trans ?_ (Mid.drew1 _)
   repeat (first | exact hm0 | refine Mid.storeNew ?_ (by simp;try omega) _)
end
section
open Go.RowKit
theorem spec_FoldAll (r:Int) (n:Nat) (A:Option Addr) (es:List Ed) (c:Nat) (w:World) (lo hi:Nat) (hr:RG w lo hi A es) (hg:IsGr r n es) :
  Calls Tryz.prog 167 #[graV r n A es.length c] w fun e w'=>∃ A1 c1 Al nl cl,e=.returned (.tuple #[graV r (foldA 40 ((n:Int),es)).1 A1 (foldA 40 ((n:Int),es)).2.length c1,.slice Al nl cl])∧OG w' w.heap.size w'.heap.size A1 c1 (foldA 40 ((n:Int),es)).2∧Mid 0 0 w w':=by
 have hn40:n≤40:=by have:=hg.size;omega
 have hl:=hg.len;have hm0:Mid 0 0 w ((w.alloc (.cells #[.int .i64 r,.int .i64 n,.slice A es.length c] 26)).alloc (.cells #[.int .i64 0,.int .i64 0,.slice none 0 0] 26)):=(Mid.alloc _ _).trans (Mid.alloc _ _);have b0:=(Box.new w #[.int .i64 r,.int .i64 n,.slice A es.length c] 26).mid (Mid.alloc _ (.cells #[.int .i64 0,.int .i64 0,.slice none 0 0] 26)) oZr;have b2:=Box.new (w.alloc (.cells #[.int .i64 r,.int .i64 n,.slice A es.length c] 26)) #[.int .i64 0,.int .i64 0,.slice none 0 0] 26;simp only [World.size_alloc] at b2;have HG:=Lib.hid hg;obtain ⟨T,hT⟩:∃ T,foldA 40 ((n:Int),es)=T:=⟨_,rfl⟩
 rw [hT];have HT:=Lib.hid hT;clear hg hT;go_enter Tryz.func167,Tryz.ntmps167
 go_wp2_with fail;generalize hw1:((w.alloc (.cells #[.int .i64 r,.int .i64 n,.slice A es.length c] 26)).alloc (.cells #[.int .i64 0,.int .i64 0,.slice none 0 0] 26))=w1 at hm0 b0 b2 ⊢;clear hw1;with_reducible refine (spec_l4Copy r n A es c _ _ _ (hr.mid hm0 oZl) (by omega)).mono ?_
 rintro en w2 ⟨A1,c1,rfl,ho,hm2⟩;have hs2:w.heap.size+1 < w1.heap.size:=b2.1;replace b2:=b2.mid hm2 oZr;replace hm0:=hm0.trans hm2;have hsz2:=hm2.size;have hown0:=owns_base (base':=w.heap.size+2) ho.ov.2.1 hs2;have hbk0:Value.ownBlock (.slice A1 es.length c1)≠some w2.heap.size:=fun h=>by have:=ho.ov.2.2 _ h;omega
 have hal:=(Mid.alloc w2 (.cells #[.int .i64 r,.int .i64 n,.slice A1 es.length c1] 26)).trans (Mid.alloc (w2.alloc (.cells #[.int .i64 r,.int .i64 n,.slice A1 es.length c1] 26)) (.cells #[] 130));have Y3:=(Box.new w2 #[.int .i64 r,.int .i64 n,.slice A1 es.length c1] 26).mid (Mid.alloc (w2.alloc (.cells #[.int .i64 r,.int .i64 n,.slice A1 es.length c1] 26)) (.cells #[] 130)) oZr;have O0:=owns_empty (w2.alloc (.cells #[.int .i64 r,.int .i64 n,.slice A1 es.length c1] 26)) 130 2;rw [World.size_alloc] at O0;replace b2:=b2.mid hal oZr;replace hown0:=owns_mid hown0 hal oZl;replace hm0:=hm0.trans hal;go_wp2_with fail;generalize hw3:(w2.alloc (.cells #[.int .i64 r,.int .i64 n,.slice A1 es.length c1] 26)).alloc (.cells #[] 130)=w3 at Y3 O0 b2 hown0 hm0 ⊢;obtain ⟨G,hG⟩:∃ G,w2.heap.size=G:=⟨_,rfl⟩
 rw [hG] at Y3 O0 hbk0 hsz2 ⊢;have hGw:w.heap.size+2≤G:=by omega
 clear hw3 hal hm2 ho hG hsz2 hs2 b0;go_loopw [5,6] (fun l iv wr=>∃ (i m s:Nat) (es1:List Ed) (A2:Option Addr) (c2:Nat) (Al:Option Addr) (nl cl:Nat) (ps:List (Int × Int)),l=.slice Al nl cl∧iv=.int .i64 i∧i+m=40∧nl+s≤40∧Hid (foldA m ((s:Int),es1)=T)∧s≤m∧Hid (IsGr r s es1)∧wr.ownsRow (G+1) 130 2 (.slice Al nl cl) nl (ints (fdI ps)) ∧
   Hid (wr.ownsRow (w.heap.size+2) 68 3 (.slice A2 es1.length c2) es1.length (ints (edI es1)))∧Hid (Value.ownBlock (.slice A2 es1.length c2)≠some G)∧Box wr (w.heap.size+1) [.int .i64 0,.int .i64 0,.slice none 0 0]∧Box wr G [.int .i64 r,.int .i64 s,.slice A2 es1.length c2]∧Mid 0 0 w wr) (fun _ _ wr=>sizeAt wr G)
 case atStart=>exact ⟨0,40,n,es,A1,c1,_,0,0,[],rfl,rfl,by omega,by omega,HT,hn40,HG,O0,Lib.hid hown0,Lib.hid hbk0,b2,Y3,hm0⟩
 case round =>
  clear O0 hown0 b2 Y3 hm0 hbk0;obtain ⟨i,m,s,es1,A2,c2,Al,nl,cl,ps,rfl,rfl,him,hnl,HTm,hsm,HGs,hleft,HE,HBK,b2,Y3,hm⟩:=hrel;have hl1:=HGs.out.len;have hs1:1≤s:=by have:=HGs.out.size;omega
  have hlsz:=Lib.hid (sizeAt_box Y3);have hi40:(i:Int) < 40:=by omega
  have hec:es1.length≤c2:=by
   obtain ⟨A',c',hv0,hsc,hcm⟩:=owns_shape HE.out;injection hv0 with _ _ hv0
   omega
  obtain ⟨p,b,rs,res,hone⟩:=OnceIs.ex (s:Int) es1;have HO:=Lib.hid (spec_FoldOnce r s A2 es1 c2 wr _ _ (owns_rv HE.out).rg HGs.out p b rs res hone);have HON:=Lib.hid hone;obtain ⟨p1,p2⟩:=p;clear hone;have y0:=Y3.cell 0 rfl;have y1:=Y3.cell 1 rfl;have y2:=Y3.cell 2 rfl;go_wp2_with fail;with_reducible refine HO.out.mono ?_
  rintro en w5 ⟨A3,c3,rfl,hog,hm5⟩;have hGr:G < wr.heap.size:=Y3.1;have hw2r:w.heap.size+2≤wr.heap.size:=by omega
  have hE5:=owns_mid HE.out hm5 oZl;replace b2:=b2.mid hm5 oZr;replace Y3:=Y3.mid hm5 oZr;replace hleft:=owns_mid hleft hm5 oZl;replace hm:=hm.trans hm5;clear HO y0 y1 y2 HE;have hal1:=Mid.alloc w5 (.cells #[.int .i64 r,.int .i64 rs,.slice A3 res.length c3] 26);have hal2:=Mid.alloc (w5.alloc (.cells #[.int .i64 r,.int .i64 rs,.slice A3 res.length c3] 26)) (.cells #[.int .i64 p1,.int .i64 p2] 130);have bh:=(Box.new w5 #[.int .i64 r,.int .i64 rs,.slice A3 res.length c3] 26).mid hal2 oZr;have bp:=Box.new (w5.alloc (.cells #[.int .i64 r,.int .i64 rs,.slice A3 res.length c3] 26)) #[.int .i64 p1,.int .i64 p2] 130;rw [World.size_alloc] at bp;have hal:=hal1.trans hal2;have hs5:=hm5.size;have hG5:G < w5.heap.size:=Y3.1;have hG6:G < w5.heap.size+1:=by omega
  have hb5:w.heap.size+1 < w5.heap.size:=b2.1;have hb6:w.heap.size < w5.heap.size:=by omega
  have yf:=Y3.2.2;have y0:=Y3.cell 0 rfl;have y1:=Y3.cell 1 rfl;have y2:=Y3.cell 2 rfl;cases b with
  | false =>
   have af:=b2.2.2;have a0:=b2.cell 0 rfl;have a1:=b2.cell 1 rfl;have a2:=b2.cell 2 rfl;have hfn:folds es1=[]∧True:=by
    rcases HON.out with h | h
    ·exact ⟨h.2.1,trivial⟩
    ·exact absurd h.1 (by decide)
   have hTT:=HTm.out;rw [foldA_nil (g:=((s:Int),es1)) hfn.1] at hTT;have HTT:=Lib.hid hTT;clear hTT hfn;go_wp2_with fail;refine bodyPost_ret (v:=.tuple #[.agg #[.int .i64 r,.int .i64 s,.slice A2 es1.length c2],.slice Al nl cl]) (by simp [results,Tryz.results167,go_sem,a0,a1,a2,af,hb5,hb6,World.cell?_alloc_lt]) rfl ⟨A2,c2,Al,nl,cl,by rw [← HTT.out],?_,?_⟩
   ·rw [← HTT.out]
    have h0:OG w5 (w.heap.size+2) w5.heap.size A2 c2 es1:=⟨Nat.le_refl _,hE5,fun g hg=>(hE5.lt g hg).2⟩
    refine OG.wide (OG.mid h0 (a:=w.heap.size+1) (b:=w.heap.size+2) ?_ (Or.inl (Nat.le_refl _))) (by omega) (by simp;try omega) (Nat.le_refl _);repeat (first | exact Mid.refl _ _ _ | refine Mid.trans ?_ (Mid.alloc _ _).zero | refine Mid.stored ?_ _ (by simp;try omega) (by simp;try omega))
   ·repeat (first | exact hm | refine Mid.trans ?_ (Mid.alloc _ _) | refine Mid.storeNew ?_ (by simp;try omega) _)
  | true =>
   obtain ⟨t,htt⟩:∃ t,folds es1=(p1,p2) :: t:=by
    rcases HON.out with h | h
    ·exact absurd h.1 (by decide)
    ·exact h.2.1
   obtain ⟨rfl,rfl⟩:rs=(s:Int) - 1∧res=mergeE (p1,p2) es1:=by
    rcases HON.out with h | h
    ·exact absurd h.1 (by decide)
    ·exact h.2.2
   obtain ⟨k1,k2,k3⟩:=mem_folds HGs.out.all HGs.out.asc (p:=(p1,p2)) (by rw [htt];simp);obtain ⟨m',rfl⟩:∃ m',m=m'+1:=⟨m - 1,by omega⟩
   have hTT:=HTm.out;rw [foldA_cons (g:=((s:Int),es1)) htt] at hTT;simp only at hTT;have HTT:=Lib.hid hTT;have HG2:=Lib.hid (mergeE_gr HGs.out k1 k2 k3);clear hTT htt k1 k2 k3 HON;obtain ⟨s',rfl⟩:∃ s',s=s'+1:=⟨s - 1,by omega⟩
   rw [show ((s'+1:Nat):Int) - 1=(s':Int) by omega] at HTT HG2 hal hal1 hal2 bh bp ⊢;obtain ⟨me,hme⟩:∃ me,mergeE (p1,p2) es1=me:=⟨_,rfl⟩
   rw [hme] at HTT HG2 hal hal1 hal2 bh bp hog ⊢;clear hme;have hst:=(Mid.setAt w5 G 0 (.int .i64 r)).trans ((Mid.setAt (w5.setCell ⟨G,0,none⟩ (.int .i64 r)) G 1 (.int .i64 s')).trans (Mid.setAt ((w5.setCell ⟨G,0,none⟩ (.int .i64 r)).setCell ⟨G,1,none⟩ (.int .i64 s')) G 2 (.slice A3 me.length c3)));have Y5:=((Y3.set 0 (.int .i64 r) (by simp) rfl).set 1 (.int .i64 s') (by simp) rfl).set 2 (.slice A3 me.length c3) (by simp) rfl;have hm6:=((hm.storeNew (p:=⟨G,0,none⟩) (by show w.heap.size≤G;omega) (.int .i64 r)).storeNew (p:=⟨G,1,none⟩) (by show w.heap.size≤G;omega) (.int .i64 s')).storeNew (p:=⟨G,2,none⟩) (by show w.heap.size≤G;omega) (.slice A3 me.length c3);have b6:=b2.mid hst (Or.inl (by omega));have hleft6:=owns_mid hleft hst (Or.inl (Nat.le_refl _));have hog6:=OG.mid hog hst (Or.inl hGr);have ha2:=(Mid.alloc (((w5.setCell ⟨G,0,none⟩ (.int .i64 r)).setCell ⟨G,1,none⟩ (.int .i64 s')).setCell ⟨G,2,none⟩ (.slice A3 me.length c3)) (.cells #[.int .i64 r,.int .i64 s',.slice A3 me.length c3] 26)).trans (Mid.alloc _ (.cells #[.int .i64 p1,.int .i64 p2] 130));replace b6:=b6.mid ha2 oZr;replace Y5:=Y5.mid ha2 oZr;replace hleft6:=owns_mid hleft6 ha2 oZl;replace hm6:=hm6.trans ha2;replace hog6:=OG.mid hog6 ha2 oZl;have hWs:(((((w5.setCell ⟨G,0,none⟩ (.int .i64 r)).setCell ⟨G,1,none⟩ (.int .i64 s')).setCell ⟨G,2,none⟩ (.slice A3 me.length c3)).alloc (.cells #[.int .i64 r,.int .i64 s',.slice A3 me.length c3] 26)).alloc (.cells #[.int .i64 p1,.int .i64 p2] 130)).heap.size=w5.heap.size+1+1:=by simp
   have HL:=Lib.hid hleft6;have HY:=Lib.hid Y5;have HB:=Lib.hid b6;have HM:=Lib.hid hm6;have HO6:=Lib.hid hog6;clear hleft6 Y5 b6 hm6 hog6 ha2 hst hleft b2 hm hog hE5 hal hal1 hal2 bh bp;go_wp2_with (at_builtin;refine wpList_pushF rfl _ _ rfl (G+1) Al nl cl ps rfl HL.out (p1,p2) (by rw [hWs];rfl) (by omega) (by rw [hWs];omega) ?_;intro A9 c9 w9 hl9 hgr9 hat9)
   have hm9:=Mid.of_grownRow HL.out hgr9;have hmo:=(HO6.out).2.1;have hE9:=(owns_base hmo hw2r).kept hgr9 (owns_ne hmo HL.out (by decide));have hbk9:Value.ownBlock (.slice A3 me.length c3)≠some G:=fun h=>by have:=(hmo.lt _ h).1;omega
   have Y9:=HY.out.mid hm9 (Or.inl (Nat.lt_succ_self _));have hmsz:=hlsz.out;go_roundw
   case rel=>exact ⟨i+1,m',s',me,A3,c3,A9,nl+1,c9,ps++[(p1,p2)],rfl,by go_num,by omega,by omega,HTT,by omega,HG2,hl9,Lib.hid hE9,Lib.hid hbk9,HB.out.mid hm9 (Or.inl (by omega)),Y9,HM.out.transNew hm9 (Or.inl (by omega))⟩
   case measure=>rw [hmsz,sizeAt_box Y9];omega
end
section
open Go.RowKit
theorem spec_TrimGraph (r:Int) (n:Nat) (A:Option Addr) (es:List Ed) (c:Nat) (w:World) (lo hi:Nat) (hr:RG w lo hi A es) (hg:IsGr r n es) :
  Calls Tryz.prog 168 #[graV r n A es.length c] w fun e w'=>∃ A1 c1 Al nl cl,e=.returned (.tuple #[graV r (trimA 40 ((n:Int),es)).1 A1 (trimA 40 ((n:Int),es)).2.length c1,.slice Al nl cl])∧OG w' w.heap.size w'.heap.size A1 c1 (trimA 40 ((n:Int),es)).2∧Mid 0 0 w w':=by
 have hn40:n≤40:=by have:=hg.size;omega
 have hl:=hg.len;have hm0:Mid 0 0 w ((w.alloc (.cells #[.int .i64 r,.int .i64 n,.slice A es.length c] 26)).alloc (.cells #[.int .i64 0,.int .i64 0,.slice none 0 0] 26)):=(Mid.alloc _ _).trans (Mid.alloc _ _);have b0:=(Box.new w #[.int .i64 r,.int .i64 n,.slice A es.length c] 26).mid (Mid.alloc _ (.cells #[.int .i64 0,.int .i64 0,.slice none 0 0] 26)) oZr;have b2:=Box.new (w.alloc (.cells #[.int .i64 r,.int .i64 n,.slice A es.length c] 26)) #[.int .i64 0,.int .i64 0,.slice none 0 0] 26;simp only [World.size_alloc] at b2;have HG:=Lib.hid hg;obtain ⟨T,hT⟩:∃ T,trimA 40 ((n:Int),es)=T:=⟨_,rfl⟩
 rw [hT];have HT:=Lib.hid hT;clear hg hT;go_enter Tryz.func168,Tryz.ntmps168
 go_wp2_with fail;generalize hw1:((w.alloc (.cells #[.int .i64 r,.int .i64 n,.slice A es.length c] 26)).alloc (.cells #[.int .i64 0,.int .i64 0,.slice none 0 0] 26))=w1 at hm0 b0 b2 ⊢;clear hw1;with_reducible refine (spec_l4Copy r n A es c _ _ _ (hr.mid hm0 oZl) (by omega)).mono ?_
 rintro en w2 ⟨A1,c1,rfl,ho,hm2⟩;have hsz12:=hm0.size;have hs2:w.heap.size+1 < w1.heap.size:=b2.1;replace b0:=b0.mid hm2 oZr;replace b2:=b2.mid hm2 oZr;replace hm0:=hm0.trans hm2;have hsz2:=hm2.size;have hown0:=owns_base (base':=w.heap.size+2) ho.ov.2.1 hs2;have hbk0:Value.ownBlock (.slice A1 es.length c1)≠some w2.heap.size:=fun h=>by have:=ho.ov.2.2 _ h;omega
 have hal:=(Mid.alloc w2 (.cells #[.int .i64 r,.int .i64 n,.slice A1 es.length c1] 26)).trans (Mid.alloc (w2.alloc (.cells #[.int .i64 r,.int .i64 n,.slice A1 es.length c1] 26)) (.cells #[] 3));have Y3:=(Box.new w2 #[.int .i64 r,.int .i64 n,.slice A1 es.length c1] 26).mid (Mid.alloc (w2.alloc (.cells #[.int .i64 r,.int .i64 n,.slice A1 es.length c1] 26)) (.cells #[] 3)) oZr;have O0:=owns_empty (w2.alloc (.cells #[.int .i64 r,.int .i64 n,.slice A1 es.length c1] 26)) 3 1;rw [World.size_alloc] at O0;have hbs0:=b0.1;have p0:=b0.cell 0 rfl;have p1:=b0.cell 1 rfl;have p2:=b0.cell 2 rfl;replace b0:=b0.mid hal oZr;replace b2:=b2.mid hal oZr;replace hown0:=owns_mid hown0 hal oZl;replace hm0:=hm0.trans hal;go_wp2_with fail;clear p0 p1 p2;have hsA:((w2.alloc (.cells #[.int .i64 r,.int .i64 n,.slice A1 es.length c1] 26)).alloc (.cells #[] 3)).heap.size=w2.heap.size+2:=by simp
 generalize hw3:(w2.alloc (.cells #[.int .i64 r,.int .i64 n,.slice A1 es.length c1] 26)).alloc (.cells #[] 3)=w3 at Y3 O0 b0 b2 hown0 hm0 hsA ⊢;obtain ⟨G,hG⟩:∃ G,w2.heap.size=G:=⟨_,rfl⟩
 rw [hG] at Y3 O0 hbk0 hsA hsz2 hbs0 ⊢;clear hw3 hal hm2 ho hG;have hGw:w.heap.size+2≤G:=by omega
 clear hsA hsz2 hs2 hsz12 hbs0;go_loopw [5,6] (fun l i wr=>∃ (k:Nat) (Al:Option Addr) (nl cl:Nat),k≤n∧i=.int .i64 k∧l=.slice Al nl cl∧Hid ((upto k).length=nl)∧wr.ownsRow (G+1) 3 1 (.slice Al nl cl) nl (ints (upto k)) ∧
   Hid (wr.ownsRow (w.heap.size+2) 68 3 (.slice A1 es.length c1) es.length (ints (edI es)))∧Box wr w.heap.size [.int .i64 r,.int .i64 n,.slice A es.length c]∧Box wr (w.heap.size+1) [.int .i64 0,.int .i64 0,.slice none 0 0]∧Box wr G [.int .i64 r,.int .i64 n,.slice A1 es.length c1]∧Mid 0 0 w wr) (fun _ i _=>n - (intOf i).toNat)
 case atStart=>exact ⟨0,_,0,0,Nat.zero_le _,rfl,rfl,Lib.hid rfl,O0,Lib.hid hown0,b0,b2,Y3,hm0⟩
 case round =>
  clear O0 hown0 b0 b2 Y3 hm0;obtain ⟨wo,hwo⟩:∃ wo,wo=wr:=⟨_,rfl⟩
  subst hwo;obtain ⟨k,Al,nl,cl,hk,rfl,rfl,HN,hleft,HE,b0,b2,Y3,hm⟩:=hrel;obtain rfl:k=nl:=by rw [← HN.out,upto_len]
  have p0:=b0.cell 0 rfl;have p1:=b0.cell 1 rfl;have p2:=b0.cell 2 rfl;by_cases hlt:k < n
  ·have hk1:(k:Int) < (n:Int):=by omega
   go_wp2_with fail;with_reducible refine (spec_IsGraph r n A es c _ _ _ (hr.mid hm oZl).rv (by omega) true (iff_of_true rfl HG.out)).mono ?_
   rintro en w4 ⟨rfl,hm4⟩;have hE4:=owns_mid HE.out hm4 oZl;replace b0:=b0.mid hm4 oZr;replace b2:=b2.mid hm4 oZr;replace Y3:=Y3.mid hm4 oZr;replace hleft:=owns_mid hleft hm4 oZl;replace hm:=hm.trans hm4;have hGo:G+1≤w4.heap.size:=Y3.1;have HL:=Lib.hid hleft;clear hleft HE;go_wp2_with (at_builtin;refine wpList_pushI2 rfl _ _ rfl (G+1) Al k cl (upto k) rfl HL.out k rfl (by omega) hGo ?_;intro A9 c9 w9 hl9 hgr9 hat9)
   clear hat9;have hm9:=Mid.of_grownRow HL.out hgr9;have hE9:=hE4.kept hgr9 (owns_ne hE4 HL.out (by decide));go_roundw
   case rel=>exact ⟨k+1,A9,k+1,c9,by omega,by go_num,rfl,Lib.hid (by rw [upto_len]),by rw [upto_succ];exact hl9,Lib.hid hE9,b0.mid hm9 (Or.inl (by omega)),b2.mid hm9 (Or.inl (by omega)),Y3.mid hm9 (Or.inl (by omega)),hm.transNew hm9 (Or.inl (by omega))⟩
   case measure=>simp [intOf];omega
  ·obtain rfl:k=n:=by omega
   go_wp2_with fail;clear p0 p1 p2;have hGo:=Y3.1;go_loopw [5,7] (fun l iv wr=>∃ (i m s:Nat) (es1:List Ed) (A2:Option Addr) (c2:Nat) (Al:Option Addr) (cl:Nat) (xs:List Int),l=.slice Al s cl∧iv=.int .i64 i∧i+m=40∧Hid (trimA m ((s:Int),es1)=T)∧s≤m∧Hid (IsGr r s es1)∧wr.ownsRow (G+1) 3 1 (.slice Al s cl) s (ints xs) ∧
     Hid (wr.ownsRow (w.heap.size+2) 68 3 (.slice A2 es1.length c2) es1.length (ints (edI es1)))∧Hid (Value.ownBlock (.slice A2 es1.length c2)≠some G)∧Box wr w.heap.size [.int .i64 r,.int .i64 k,.slice A es.length c]∧Box wr (w.heap.size+1) [.int .i64 0,.int .i64 0,.slice none 0 0]∧Box wr G [.int .i64 r,.int .i64 s,.slice A2 es1.length c2]∧Mid 0 0 w wr) (fun _ iv _=>40 - (intOf iv).toNat)
   case atStart=>exact ⟨0,40,k,es,A1,c1,Al,cl,upto k,rfl,rfl,by omega,HT,hn40,HG,hleft,HE,Lib.hid hbk0,b0,b2,Y3,hm⟩
   case round =>
    clear hleft HE b0 b2 Y3 hm HN hGo;obtain ⟨wj,hwj⟩:∃ wj,wj=wr:=⟨_,rfl⟩
    subst hwj;obtain ⟨i,m,s,es1,A2,c2,Al,cl,xs,rfl,rfl,him,HTm,hsm,HGs,hleft,HE,HBK,b0,b2,Y3,hm⟩:=hrel;have hs1:1≤s:=by have:=HGs.out.size;omega
    have hs40:s≤40:=by have:=HGs.out.size;omega
    have hl1:=HGs.out.len;have hi40:(i:Int) < 40:=by omega
    have p0:=b0.cell 0 rfl;have p1:=b0.cell 1 rfl;have p2:=b0.cell 2 rfl;go_wp2_with fail;with_reducible refine (spec_IsGraph r k A es c _ _ _ (hr.mid hm oZl).rv (by omega) true (iff_of_true rfl HG.out)).mono ?_
    rintro en w4 ⟨rfl,hm4⟩;have hE4:=owns_mid HE.out hm4 oZl;replace HE:=Lib.hid hE4;replace b0:=b0.mid hm4 oZr;replace b2:=b2.mid hm4 oZr;replace Y3:=Y3.mid hm4 oZr;replace hleft:=owns_mid hleft hm4 oZl;replace hm:=hm.trans hm4;clear p0 p1 p2 hE4 hm4;have y0:=Y3.cell 0 rfl;have y1:=Y3.cell 1 rfl;have y2:=Y3.cell 2 rfl;go_wp2_with fail;with_reducible refine (spec_l8Leaf r s A2 es1 c2 _ _ _ (owns_rv HE.out).rg HGs.out).mono ?_
    rintro en w5 ⟨rfl,hm5⟩;have hE5:=owns_mid HE.out hm5 oZl;replace HE:=Lib.hid hE5;replace b0:=b0.mid hm5 oZr;replace b2:=b2.mid hm5 oZr;replace Y3:=Y3.mid hm5 oZr;replace hleft:=owns_mid hleft hm5 oZl;replace hm:=hm.trans hm5;clear y0 y1 y2 hE5 hm5;have y0:=Y3.cell 0 rfl;have y1:=Y3.cell 1 rfl;have y2:=Y3.cell 2 rfl;cases hlf:leaf s es1 with
    | none =>
     have hTT:=HTm.out;rw [trimA_none hlf] at hTT;have HTT:=Lib.hid hTT;rw [leafI_none hlf];have z0:=b2.cell 0 rfl;have z1:=b2.cell 1 rfl;have z2:=b2.cell 2 rfl;have zf:=b2.2.2;have hbs:=b2.1;clear hTT hlf;go_wp2_with fail;have hcl:(w.heap.size+1 == G)=false:=by simp;omega
     refine bodyPost_ret (v:=.tuple #[.agg #[.int .i64 r,.int .i64 s,.slice A2 es1.length c2],.slice Al s cl]) (by simp [results,Tryz.results168,go_sem,z0,z1,z2,zf,y0,y1,y2]) rfl ⟨A2,c2,Al,s,cl,by rw [← HTT.out],?_,?_⟩
     ·rw [← HTT.out]
      have h0:OG w5 (w.heap.size+2) w5.heap.size A2 c2 es1:=⟨Nat.le_refl _,HE.out,fun g hg=>(HE.out.lt g hg).2⟩
      refine OG.wide (OG.mid h0 (a:=w.heap.size+1) (b:=w.heap.size+2) ?_ (Or.inl (Nat.le_refl _))) (by omega) (by simp) (Nat.le_refl _);repeat (first | exact Mid.refl _ _ _ | refine Mid.stored ?_ _ (by simp;try omega) (by simp;try omega))
     ·repeat (first | exact hm | refine Mid.storeNew ?_ (by simp;try omega) _)
    | some g =>
     obtain ⟨hg1,hgs', -⟩:=leaf_spec hlf;have hgs:g < s:=by omega
     obtain ⟨m',rfl⟩:∃ m',m=m'+1:=⟨m - 1,by omega⟩
     have hTT:=HTm.out;rw [trimA_some hlf] at hTT;have HTT:=Lib.hid hTT;have HCG:=Lib.hid (cutV_gr (g:=((s:Int),es1)) HGs.out hg1 hgs');rw [leafI_some hlf];have dg0:decide ((g:Int) < 0)=false:=by simp
     clear hTT hlf hgs';obtain ⟨wk,hwk⟩:∃ wk,wk=w5:=⟨_,rfl⟩
     subst hwk;go_wp2_with fail;have hal:=(Mid.alloc wk (.cells #[] 3)).trans (Mid.alloc (wk.alloc (.cells #[] 3)) (.cells #[] 3));have T0:TwoI ((wk.alloc (.cells #[] 3)).alloc (.cells #[] 3)) wk.heap.size (.slice (some ⟨wk.heap.size,0,none⟩) 0 0) (.slice (some ⟨wk.heap.size+1,0,none⟩) 0 0) 0 0 [] []:=by
      refine ⟨(owns_empty wk 3 1).alloc _,?_,?_⟩
      ·have h:=owns_empty (wk.alloc (.cells #[] 3)) 3 1
       rw [World.size_alloc] at h;exact owns_base h (Nat.le_succ _)
      ·simp [Value.ownBlock]
     clear y0 y1 y2;go_loopw [9,10,11] (fun o rs kv wr=>∃ (kk:Nat) (Ao:Option Addr) (co:Nat) (Ar:Option Addr) (cr no:Nat) (ys:List Int),kk≤s∧kv=.int .i64 kk∧o=.slice Ao no co∧rs=.slice Ar no cr∧Hid ((but g kk).length=no)∧Hid (TwoI wr wk.heap.size (.slice Ao no co) (.slice Ar no cr) no no (but g kk) ys)∧Mid 0 0 wk wr) (fun _ _ kv _=>s - (intOf kv).toNat)
     case atStart=>exact ⟨0,_,0,_,0,0,[],Nat.zero_le _,rfl,rfl,rfl,Lib.hid rfl,Lib.hid T0,hal⟩
     case round =>
      clear T0 hal;obtain ⟨kk,Ao,co,Ar,cr,no,ys,hkk,rfl,rfl,rfl,HNo,HT2,hmy⟩:=hrel;have hno:no≤40:=by
       have h1:(but g kk).length≤kk:=by unfold but;rw [List.length_map];exact Nat.le_trans (List.length_filter_le _ _) (by simp)
       have h2:=HNo.out;omega
      have Y4:=Y3.mid hmy oZr;have y0:=Y4.cell 0 rfl;have y1:=Y4.cell 1 rfl;have y2:=Y4.cell 2 rfl;by_cases hlt:kk < s
      ·have hbs:=but_succ g kk
       have hk3:(kk:Int) < (s:Int):=by omega
       have hk0:(0:Int)≤(kk:Int):=by omega
       by_cases hkg:kk=g
       ·have d3:((kk:Int) != (g:Int))=false:=by simp;omega
        rw [if_pos hkg] at hbs;have HBS:=Lib.hid hbs;clear hbs hkg;go_wp2_with fail;go_roundw
        case rel=>exact ⟨kk+1,Ao,co,Ar,cr,no,ys,by omega,by go_num,rfl,rfl,by rw [HBS.out];exact HNo,by rw [HBS.out];exact HT2,hmy⟩
        case measure=>simp [intOf];omega
       ·have d3:((kk:Int) != (g:Int))=true:=by simp;omega
        rw [if_neg hkg] at hbs;have HBS:=Lib.hid hbs;have hsz:=hmy.size;obtain ⟨gl,rfl,hgl1,hgl2⟩:=owns_addr hleft (show 0 < s by omega);obtain ⟨y,hy⟩:=get_of_lt xs (show kk < xs.length by have h:=hleft.1;simp [ints] at h;omega);have hyc:∀ W:World,Mid wk.heap.size W.heap.size wk W→True:=fun _ _=>trivial;have HLF:=Lib.hid hleft;have HY:=Lib.hid hy;clear hbs hkg hy hyc;go_wp2_with (first | (at_builtin;refine wpList_push2 rfl _ _ rfl wk.heap.size Ao no co (but g kk) _ _ _ rfl HT2.out kk rfl (by omega) hsz ?_;intro A7 c7 w7 ht7 hm7;have hmw:=hmy.transNew hm7 (Or.inl (Nat.le_refl _));have hcx:=((owns_mid HLF.out hmw oZl).cellAt kk (by omega)).trans (show (ints xs)[kk]?=some (.int .i64 y) by simp [ints,HY.out]);have hsz7:=hmw.size;have HT7:=Lib.hid ht7.swap;clear ht7) | (at_builtin;refine wpList_push2 rfl _ _ rfl wk.heap.size Ar no cr ys _ _ _ rfl HT7.out y rfl (by omega) hsz7 ?_;intro A9 c9 w9 ht9 hm9))
        go_roundw
        case rel=>exact ⟨kk+1,A7,c7,A9,c9,no+1,ys++[y],by omega,by go_num,rfl,rfl,Lib.hid (by rw [HBS.out,List.length_append,HNo.out];rfl),Lib.hid (by rw [HBS.out];exact ht9.swap),hmw.transNew hm9 (Or.inl (Nat.le_refl _))⟩
        case measure=>simp [intOf];omega
      ·obtain rfl:kk=s:=by omega
       have hln:(but g kk).length=no:=HNo.out;have hn1:no=kk - 1:=by rw [← hln,but_len g hgs]
       obtain ⟨es2,hes2⟩:∃ es2,partE (but g kk) es1=es2:=⟨_,rfl⟩
       have hcv:cutV ((kk:Int),es1) g=((no:Int),es2):=by unfold cutV;simp only [Int.toNat_natCast];rw [hln,hes2]
       have hE6:=owns_mid HE.out hmy oZl;have hP:=spec_RenumberGraph r kk A2 es1 c2 Ao (but g kk) co wr _ _ _ _ (owns_rv hE6).rg (owns_rv HT2.out.f) HGs.out (but_nodup g kk) (fun x hx=>but_range hx) (by omega);have HN1:=Lib.hid hn1;rw [hln,hes2] at hP;have HP:=Lib.hid hP;have hTT2:=HTT.out;rw [hcv] at hTT2;have hgr2:=HCG.out;rw [hcv] at hgr2;have HTT2:=Lib.hid hTT2;have HG2:=Lib.hid hgr2;have hwks:G+1≤wk.heap.size:=Y3.1;have hto:=HT2.out.t;clear hP hTT2 hgr2 hcv hes2 hln HTT HCG HE hE6 hn1;go_wp2_with fail;with_reducible refine HP.out.mono ?_
       rintro en w8 ⟨A3,c3,rfl,hog,hm8⟩;clear HP;have hogw:wk.heap.size≤wr.heap.size:=hmy.size;replace hto:=owns_mid hto hm8 oZl;have hm28:=hmy.trans hm8;clear Y4 y0 y1 y2;replace b0:=b0.mid hm28 oZr;replace b2:=b2.mid hm28 oZr;replace Y3:=Y3.mid hm28 oZr;replace hm:=hm.trans hm28;clear hmy hm8 hm28;have y0:=Y3.cell 0 rfl;have y1:=Y3.cell 1 rfl;have y2:=Y3.cell 2 rfl;have yf:=Y3.2.2;go_wp2_with fail;have hst:=(Mid.setAt w8 G 0 (.int .i64 r)).trans ((Mid.setAt (w8.setCell ⟨G,0,none⟩ (.int .i64 r)) G 1 (.int .i64 no)).trans (Mid.setAt ((w8.setCell ⟨G,0,none⟩ (.int .i64 r)).setCell ⟨G,1,none⟩ (.int .i64 no)) G 2 (.slice A3 es2.length c3)));have Y5:=((Y3.set 0 (.int .i64 r) (by simp) rfl).set 1 (.int .i64 no) (by simp) rfl).set 2 (.slice A3 es2.length c3) (by simp) rfl;have hm5:=((hm.storeNew (p:=⟨G,0,none⟩) (by show w.heap.size≤G;omega) (.int .i64 r)).storeNew (p:=⟨G,1,none⟩) (by show w.heap.size≤G;omega) (.int .i64 no)).storeNew (p:=⟨G,2,none⟩) (by show w.heap.size≤G;omega) (.slice A3 es2.length c3);replace b0:=b0.mid hst (Or.inl (by omega));replace b2:=b2.mid hst (Or.inl (by omega));replace hto:=owns_base (owns_mid hto hst (Or.inl hwks)) hwks;have hoe:=(OG.mid hog hst (Or.inl (by omega))).ov.2.1;have hbk9:Value.ownBlock (.slice A3 es2.length c3)≠some G:=fun h=>by have:=(hoe.lt _ h).1;omega
       go_roundw
       case rel=>exact ⟨i+1,m',no,es2,A3,c3,Ar,cr,ys,rfl,by go_num,by omega,HTT2,by have:=HN1.out;omega,HG2,hto,Lib.hid (owns_base hoe (by omega)),Lib.hid hbk9,b0,b2,Y5,hm5⟩
       case measure=>simp [intOf];omega
end
section
open Go.RowKit
theorem nat_gr {r:Int} {g:Int × List Ed} (h:IsGr r g.1 g.2):∃ (n:Nat) (es:List Ed),g=((n:Int),es)∧IsGr r n es:=by
 obtain ⟨s,es⟩:=g;have h1:1≤s:=h.size.1;obtain ⟨n,rfl⟩:∃ n:Nat,s=n:=⟨s.toNat,by omega⟩
 exact ⟨n,es,rfl,h⟩
theorem hcl_of {w:World} {lo hi:Nat} {A:Option Addr} {c:Nat} {es:List Ed} (h:OG w lo hi A c es):es.length≤c:=by
 obtain ⟨A',c',hv0,hsc,hcm⟩:=owns_shape h.ov.2.1;injection hv0 with _ _ hv0
 omega
theorem spec_CoreGraph (r n:Nat) (A:Option Addr) (es:List Ed) (c:Nat) (w:World) (lo hi:Nat) (hr:RG w lo hi A es) (hg:IsGr r n es) :
  Calls Tryz.prog 91 #[graV r n A es.length c] w fun e w'=>∃ A1 c1,e=.returned (graV r (coreA r ((n:Int),es)).1 A1 (coreA r ((n:Int),es)).2.length c1)∧OG w' w.heap.size w'.heap.size A1 c1 (coreA r ((n:Int),es)).2∧Mid 0 0 w w':=by
 obtain ⟨f,fs,hF,hgf⟩:=nat_gr (foldA_gr 40 (g:=((n:Int),es)) hg);obtain ⟨t,ts,hT,hgt⟩:=nat_gr (trimA_gr 40 (g:=((f:Int),fs)) hgf);obtain ⟨q,qs,hQ, -⟩:=nat_gr (canonG_gr (g:=((t:Int),ts)) hgt);have hcore:coreA r ((n:Int),es)=((q:Int),qs):=by rw [coreA,hF,hT,hQ]
 rw [hcore];have hm0:Mid 0 0 w ((w.alloc (.cells #[.int .i64 r,.int .i64 n,.slice A es.length c] 26)).alloc (.cells #[.int .i64 0,.int .i64 0,.slice none 0 0] 26)):=(Mid.alloc _ _).trans (Mid.alloc _ _);have b2:=Box.new (w.alloc (.cells #[.int .i64 r,.int .i64 n,.slice A es.length c] 26)) #[.int .i64 0,.int .i64 0,.slice none 0 0] 26;simp only [World.size_alloc] at b2;have HG:=Lib.hid hg;have HGF:=Lib.hid hgf;have HGT:=Lib.hid hgt;have HF:=Lib.hid hF;have HT:=Lib.hid hT;have HQ:=Lib.hid hQ;clear hg hgf hgt hF hT hQ hcore;go_enter Tryz.func91,Tryz.ntmps91
 go_wp2_with fail;generalize ((w.alloc (.cells #[.int .i64 r,.int .i64 n,.slice A es.length c] 26)).alloc (.cells #[.int .i64 0,.int .i64 0,.slice none 0 0] 26))=w1 at hm0 b2 ⊢;have hP1:=spec_FoldAll r n A es c w1 _ _ (hr.mid hm0 oZl) HG.out;rw [HF.out] at hP1;with_reducible refine hP1.mono ?_
 rintro en w2 ⟨A1,c1,Al,nl,cl,rfl,ho1,hm2⟩;clear hP1;have hs1:w.heap.size+1 < w1.heap.size:=b2.1;have hs2:=hm2.size;have ha2:=Mid.alloc w2 (.cells #[.int .i64 r,.int .i64 f,.slice A1 fs.length c1] 26);have Y1:=Box.new w2 #[.int .i64 r,.int .i64 f,.slice A1 fs.length c1] 26;replace b2:=b2.mid hm2 oZr;replace hm0:=hm0.trans hm2;replace b2:=b2.mid ha2 oZr;replace ho1:=ho1.mid ha2 oZl;replace hm0:=hm0.trans ha2;dsimp only;go_wp2_with fail;generalize w2.alloc (.cells #[.int .i64 r,.int .i64 f,.slice A1 fs.length c1] 26)=w3 at hm0 b2 ho1 Y1 ha2 ⊢;have hP2:=spec_TrimGraph r f A1 fs c1 w3 _ _ (OG.rg ho1) HGF.out;rw [HT.out] at hP2;with_reducible refine hP2.mono ?_
 rintro en w4 ⟨A3,c3,Al3,nl3,cl3,rfl,ho3,hm4⟩;clear hP2;have hs3:=ha2.size;have hs4:=hm4.size;have ha4:=Mid.alloc w4 (.cells #[.int .i64 r,.int .i64 t,.slice A3 ts.length c3] 26);replace b2:=b2.mid hm4 oZr;replace hm0:=hm0.trans hm4;replace b2:=b2.mid ha4 oZr;replace ho3:=ho3.mid ha4 oZl;replace hm0:=hm0.trans ha4;dsimp only;go_wp2_with fail;generalize w4.alloc (.cells #[.int .i64 r,.int .i64 t,.slice A3 ts.length c3] 26)=w5 at hm0 b2 ho3 ha4 ⊢;have hP3:=spec_CanonicalGraph r t A3 ts c3 w5 _ _ (OG.rg ho3) HGT.out;rw [HQ.out] at hP3;with_reducible refine hP3.mono ?_
 rintro en w6 ⟨A5,c5,rfl,ho5,hm6⟩;clear hP3;have hs5:=ha4.size;replace b2:=b2.mid hm6 oZr;replace hm0:=hm0.trans hm6;have z0:=b2.cell 0 rfl;have z1:=b2.cell 1 rfl;have z2:=b2.cell 2 rfl;have zf:=b2.2.2;dsimp only at ho5;dsimp only;go_wp2_with fail;refine bodyPost_ret (v:=.agg #[.int .i64 r,.int .i64 q,.slice A5 qs.length c5]) (by simp [results,Tryz.results91,go_sem,z0,z1,z2,zf]) rfl ⟨A5,c5,rfl,?_,?_⟩
 ·refine OG.wide (OG.mid ho5 (a:=w.heap.size+1) (b:=w.heap.size+2) ?_ (Or.inl (by omega))) (by omega) (by simp) (Nat.le_refl _)
  repeat (first | exact Mid.refl _ _ _ | refine Mid.stored ?_ _ (by simp;try omega) (by simp;try omega))
 ·repeat (first | exact hm0 | refine Mid.storeNew ?_ (by simp;try omega) _)
theorem impl_CoreGraph (r n:Nat) (A:Option Addr) (es:List Ed) (c:Nat) (w:World) (lo hi:Nat) (hr:RG w lo hi A es) (hg:IsGr r n es) :
  Calls Tryz.prog 89 #[graV r n A es.length c] w fun e w'=>∃ A1 c1,e=.returned (graV r (coreA r ((n:Int),es)).1 A1 (coreA r ((n:Int),es)).2.length c1)∧OG w' w.heap.size w'.heap.size A1 c1 (coreA r ((n:Int),es)).2∧Mid 0 0 w w':=by
 obtain ⟨f,fs,hF,hgf⟩:=nat_gr (foldA_gr 40 (g:=((n:Int),es)) hg);obtain ⟨t,ts,hT,hgt⟩:=nat_gr (trimA_gr 40 (g:=((f:Int),fs)) hgf);obtain ⟨q,qs,hQ, -⟩:=nat_gr (canonG_gr (g:=((t:Int),ts)) hgt);have hcore:coreA r ((n:Int),es)=((q:Int),qs):=by rw [coreA,hF,hT,hQ]
 rw [hcore];have hm0:Mid 0 0 w ((w.alloc (.cells #[.int .i64 r,.int .i64 n,.slice A es.length c] 26)).alloc (.cells #[.int .i64 0,.int .i64 0,.slice none 0 0] 26)):=(Mid.alloc _ _).trans (Mid.alloc _ _);have b2:=Box.new (w.alloc (.cells #[.int .i64 r,.int .i64 n,.slice A es.length c] 26)) #[.int .i64 0,.int .i64 0,.slice none 0 0] 26;simp only [World.size_alloc] at b2;have HG:=Lib.hid hg;have HGF:=Lib.hid hgf;have HGT:=Lib.hid hgt;have HF:=Lib.hid hF;have HT:=Lib.hid hT;have HQ:=Lib.hid hQ;clear hg hgf hgt hF hT hQ hcore;go_enter Tryz.func89,Tryz.ntmps89
 go_wp2_with fail;generalize ((w.alloc (.cells #[.int .i64 r,.int .i64 n,.slice A es.length c] 26)).alloc (.cells #[.int .i64 0,.int .i64 0,.slice none 0 0] 26))=w1 at hm0 b2 ⊢;have hP1:=impl_FoldAll r n A es c w1 _ _ (hr.mid hm0 oZl) HG.out;rw [HF.out] at hP1;with_reducible refine hP1.mono ?_
 rintro en w2 ⟨A1,c1,Al,nl,cl,rfl,ho1,hm2⟩;clear hP1;have hs1:w.heap.size+1 < w1.heap.size:=b2.1;have hs2:=hm2.size;have ha2:=Mid.alloc w2 (.cells #[.int .i64 r,.int .i64 f,.slice A1 fs.length c1] 26);have Y1:=Box.new w2 #[.int .i64 r,.int .i64 f,.slice A1 fs.length c1] 26;replace b2:=b2.mid hm2 oZr;replace hm0:=hm0.trans hm2;replace b2:=b2.mid ha2 oZr;replace ho1:=ho1.mid ha2 oZl;replace hm0:=hm0.trans ha2;dsimp only;go_wp2_with fail;generalize w2.alloc (.cells #[.int .i64 r,.int .i64 f,.slice A1 fs.length c1] 26)=w3 at hm0 b2 ho1 Y1 ha2 ⊢;have hP2:=impl_TrimGraph r f A1 fs c1 w3 _ _ (OG.rg ho1) HGF.out;rw [HT.out] at hP2;with_reducible refine hP2.mono ?_
 rintro en w4 ⟨A3,c3,Al3,nl3,cl3,rfl,ho3,hm4⟩;clear hP2;have hs3:=ha2.size;have hs4:=hm4.size;have ha4:=Mid.alloc w4 (.cells #[.int .i64 r,.int .i64 t,.slice A3 ts.length c3] 26);replace b2:=b2.mid hm4 oZr;replace hm0:=hm0.trans hm4;replace b2:=b2.mid ha4 oZr;replace ho3:=ho3.mid ha4 oZl;replace hm0:=hm0.trans ha4;dsimp only;go_wp2_with fail;generalize w4.alloc (.cells #[.int .i64 r,.int .i64 t,.slice A3 ts.length c3] 26)=w5 at hm0 b2 ho3 ha4 ⊢;have hP3:=impl_CanonicalGraph r t A3 ts c3 w5 _ _ (OG.rg ho3) (hcl_of ho3) HGT.out;rw [HQ.out] at hP3;with_reducible refine hP3.mono ?_
 rintro en w6 ⟨A5,c5,rfl,ho5,hm6⟩;clear hP3;have hs5:=ha4.size;replace b2:=b2.mid hm6 oZr;replace hm0:=hm0.trans hm6;have z0:=b2.cell 0 rfl;have z1:=b2.cell 1 rfl;have z2:=b2.cell 2 rfl;have zf:=b2.2.2;dsimp only at ho5;dsimp only;go_wp2_with fail;refine bodyPost_ret (v:=.agg #[.int .i64 r,.int .i64 q,.slice A5 qs.length c5]) (by simp [results,Tryz.results89,go_sem,z0,z1,z2,zf]) rfl ⟨A5,c5,rfl,?_,?_⟩
 ·refine OG.wide (OG.mid ho5 (a:=w.heap.size+1) (b:=w.heap.size+2) ?_ (Or.inl (by omega))) (by omega) (by simp) (Nat.le_refl _)
  repeat (first | exact Mid.refl _ _ _ | refine Mid.stored ?_ _ (by simp;try omega) (by simp;try omega))
 ·repeat (first | exact hm0 | refine Mid.storeNew ?_ (by simp;try omega) _)
end
section
open Go.RowKit
theorem owns_lit (w:World) (e:TypeId) (u:Value):(w.alloc (.cells #[u] e)).ownsRow w.heap.size e 1 (.slice (some ⟨w.heap.size,0,none⟩) 1 1) 1 [u] :=
 ⟨rfl,.inr ⟨w.heap.size,1,#[u],rfl,Nat.le_refl _,heap_alloc_new w _,Nat.le_refl _,by unfold maxLen;omega,rfl,rfl⟩⟩
end
section
open Go.RowKit
theorem MoveIs.no {r s:Int} {es:List Ed} {v rs:Int} {res:List Ed} {b:Bool} (h:MoveIs r s es v rs res b) (hn:¬ (IsFol r s es∧0≤v∧v < s)):b=false∧rs=s∧res=es:=by
 rcases h with ⟨-,h, -⟩ | ⟨h1, -,h2⟩
 ·exact absurd h hn
 ·exact ⟨h1,h2⟩
theorem MoveIs.yes {r s:Int} {es:List Ed} {v rs:Int} {res:List Ed} {b:Bool} (h:MoveIs r s es v rs res b) (hn:IsFol r s es∧0≤v∧v < s):b=true∧rs=(moveA r s es v).1∧res=(moveA r s es v).2:=by
 rcases h with ⟨h1, -,h2⟩ | ⟨-,h, -⟩
 ·exact ⟨h1,h2⟩
 ·exact absurd hn h
theorem impl_MoveBase (r s:Int) (A:Option Addr) (es:List Ed) (c:Nat) (v:Int) (w:World) (lo hi:Nat) (hr:RG w lo hi A es) (hl:es.length≤1048576) (hcl:es.length≤c) (hvw:-9223372036854775808≤v∧v≤9223372036854775807) (rs:Int) (res:List Ed) (b:Bool) (hres:MoveIs r s es v rs res b) :
  Calls Tryz.prog 39 #[graV r s A es.length c,.int .i64 v] w fun e w'=>∃ A1 c1,e=.returned (.tuple #[graV r rs A1 res.length c1,.bool b])∧OG w' w.heap.size w'.heap.size A1 c1 res∧Mid 0 0 w w':=by
 have hm0:Mid 0 0 w ((w.alloc (.cells #[.int .i64 r,.int .i64 s,.slice A es.length c] 26)).alloc (.cells #[.int .i64 0,.int .i64 0,.slice none 0 0] 26)):=(Mid.alloc _ _).trans (Mid.alloc _ _);have b0:=(Box.new w #[.int .i64 r,.int .i64 s,.slice A es.length c] 26).mid (Mid.alloc _ (.cells #[.int .i64 0,.int .i64 0,.slice none 0 0] 26)) oZr;have b2:=Box.new (w.alloc (.cells #[.int .i64 r,.int .i64 s,.slice A es.length c] 26)) #[.int .i64 0,.int .i64 0,.slice none 0 0] 26;simp only [World.size_alloc] at b2;have HR:=Lib.hid hres;clear hres;obtain ⟨b1,hb1⟩:=bool_of (IsFol r s es);have H1:=Lib.hid hb1;clear hb1;go_enter Tryz.func39,Tryz.ntmps39
 go_wp2_with fail;generalize ((w.alloc (.cells #[.int .i64 r,.int .i64 s,.slice A es.length c] 26)).alloc (.cells #[.int .i64 0,.int .i64 0,.slice none 0 0] 26))=w1 at hm0 b0 b2 ⊢;have hs1:w.heap.size+1 < w1.heap.size:=b2.1;with_reducible refine (impl_IsFolded r s A es c _ _ _ (hr.mid hm0 oZl) hl hcl b1 H1.out).mono ?_
 rintro en w2 ⟨rfl,hm2⟩;replace b0:=b0.mid hm2 oZr;replace b2:=b2.mid hm2 oZr;replace hm0:=hm0.trans hm2;have hs2:=hm2.size;have p0:=b0.cell 0 rfl;have p1:=b0.cell 1 rfl;have p2:=b0.cell 2 rfl;cases b1 with
 | false =>
  have hno:¬ (IsFol r s es∧0≤v∧v < s):=fun h=>by have:=H1.out.2 h.1;cases this
  obtain ⟨rfl,rfl,rfl⟩:=HR.out.no hno;clear hno HR;go_wp2_with fail;with_reducible refine (impl_copyGraph r rs A res c _ _ _ (hr.mid hm0 oZl) hl).mono ?_
  rintro en w8 ⟨A8,c8,rfl,ho8,hm8⟩;replace b2:=b2.mid hm8 oZr;replace hm0:=hm0.trans hm8;have hs8:=hm8.size;have hbx:=b2.1;have z0:=b2.cell 0 rfl;have z1:=b2.cell 1 rfl;have z2:=b2.cell 2 rfl;have zf:=b2.2.2;clear p0 p1 p2;go_wp2_with fail;refine bodyPost_ret (v:=.tuple #[.agg #[.int .i64 r,.int .i64 rs,.slice A8 res.length c8],.bool false]) (by simp [results,Tryz.results39,go_sem,z0,z1,z2,zf]) rfl ⟨A8,c8,rfl,?_,?_⟩
  ·refine OG.wide (OG.mid ho8 (a:=w.heap.size+1) (b:=w.heap.size+2) ?_ (Or.inl (by omega))) (by omega) (by simp) (Nat.le_refl _)
   repeat (first | exact Mid.refl _ _ _ | refine Mid.stored ?_ _ (by simp;try omega) (by simp;try omega))
  ·repeat (first | exact hm0 | refine Mid.storeNew ?_ (by simp;try omega) _)
 | true =>
 have hfol:=H1.out.1 rfl;have hsz:=hfol.gr.size;have HF:=Lib.hid hfol;clear hfol H1;obtain ⟨b3,hb3⟩:=bool_of (0≤v∧v < s);have H3:=Lib.hid hb3;clear hb3;have hwsub:IntKind.i64.wrap (s - 1)=s - 1:=IntWalk.i64_in _ (by omega);go_wp2_with fail;with_reducible refine (impl_has r s A es.length c v _ b3 (has_bool hsz.1 hsz.2 H3.out).1).mono ?_
 rintro en w3 ⟨rfl,hm3⟩;replace b0:=b0.mid hm3 oZr;replace b2:=b2.mid hm3 oZr;replace hm0:=hm0.trans hm3;have hs3:=hm3.size;clear hm3;clear p0 p1 p2;have p0:=b0.cell 0 rfl;have p1:=b0.cell 1 rfl;have p2:=b0.cell 2 rfl;cases b3 with
 | false =>
  have hno:¬ (IsFol r s es∧0≤v∧v < s):=fun h=>by have:=H3.out.2 h.2;cases this
  obtain ⟨rfl,rfl,rfl⟩:=HR.out.no hno;clear hno HR;go_wp2_with fail;with_reducible refine (impl_copyGraph r rs A res c _ _ _ (hr.mid hm0 oZl) hl).mono ?_
  rintro en w8 ⟨A8,c8,rfl,ho8,hm8⟩;replace b2:=b2.mid hm8 oZr;replace hm0:=hm0.trans hm8;have hs8:=hm8.size;have hbx:=b2.1;have z0:=b2.cell 0 rfl;have z1:=b2.cell 1 rfl;have z2:=b2.cell 2 rfl;have zf:=b2.2.2;clear p0 p1 p2;go_wp2_with fail;refine bodyPost_ret (v:=.tuple #[.agg #[.int .i64 r,.int .i64 rs,.slice A8 res.length c8],.bool false]) (by simp [results,Tryz.results39,go_sem,z0,z1,z2,zf]) rfl ⟨A8,c8,rfl,?_,?_⟩
  ·refine OG.wide (OG.mid ho8 (a:=w.heap.size+1) (b:=w.heap.size+2) ?_ (Or.inl (by omega))) (by omega) (by simp) (Nat.le_refl _)
   repeat (first | exact Mid.refl _ _ _ | refine Mid.stored ?_ _ (by simp;try omega) (by simp;try omega))
  ·repeat (first | exact hm0 | refine Mid.storeNew ?_ (by simp;try omega) _)
 | true =>
 have hv:=H3.out.1 rfl;obtain ⟨rfl,hrs,hre⟩:=HR.out.yes ⟨HF.out,hv⟩;obtain ⟨rn,rfl⟩:∃ rn:Nat,r=rn:=⟨r.toNat,by have:=HF.out.gr.rank;omega⟩
 obtain ⟨sn,rfl⟩:∃ sn:Nat,s=sn:=⟨s.toNat,by omega⟩
 obtain ⟨vn,rfl⟩:∃ vn:Nat,v=vn:=⟨v.toNat,by omega⟩
 have hvn:vn < sn:=by omega
 have hsn40:sn≤40:=by omega
 have hmo:=mvOrd_ok (s:=(sn:Int)) (v:=(vn:Int)) hv;have hgm:=mv_gr HF.out.gr hv;have hmd:moveA (rn:Int) sn es vn=coreA rn ((sn:Int),partE (mvOrd sn vn) es):=rfl;rw [hmd] at hrs hre;obtain ⟨q,qs,hQ, -⟩:=nat_gr (coreA_gr (g:=((sn:Int),partE (mvOrd sn vn) es)) hgm);rw [hQ] at hrs hre;subst hrs;subst res;have hord:mvOrd (sn:Int) vn=((vn:Nat):Int) :: but vn sn:=by simp [mvOrd]
 rw [hord] at hmo hgm hQ;obtain ⟨ord,hord2⟩:∃ ord,((vn:Nat):Int) :: but vn sn=ord:=⟨_,rfl⟩
 have HORD:=Lib.hid hord2;rw [hord2] at hmo hgm hQ;have hol:ord.length=sn:=by have:=hmo.1;omega
 have HOL:=Lib.hid hol;have HMO:=Lib.hid hmo;have HGM:=Lib.hid hgm;have HQ:=Lib.hid hQ;have O0:=owns_lit w3 3 (.int .i64 (vn:Int));have hal:=Mid.alloc w3 (.cells #[.int .i64 (vn:Int)] 3);have hw3:w.heap.size+1 < w3.heap.size:=b2.1;replace b0:=b0.mid hal oZr;replace b2:=b2.mid hal oZr;replace hm0:=hm0.trans hal;clear HR H3 hmd hord hord2 hmo hgm hQ hol hv;clear p0 p1 p2;go_wp2_with fail;go_loopw [6,7] (fun out i wr=>∃ (k n1:Nat) (A1:Option Addr) (c1:Nat),k≤sn∧i=.int .i64 k∧out=.slice A1 n1 c1∧Hid (n1=(but vn k).length+1)∧w3.heap.size≤wr.heap.size∧wr.ownsRow w3.heap.size 3 1 (.slice A1 n1 c1) n1 (ints (((vn:Nat):Int) :: but vn k)) ∧
   Box wr w.heap.size [.int .i64 rn,.int .i64 sn,.slice A es.length c]∧Box wr (w.heap.size+1) [.int .i64 0,.int .i64 0,.slice none 0 0]∧Mid 0 0 w wr) (fun _ i _=>sn - (intOf i).toNat)
 case atStart=>exact ⟨0,1,_,1,Nat.zero_le _,rfl,rfl,Lib.hid rfl,by simp,O0,b0,b2,hm0⟩
 case round =>
  clear O0 b0 b2 hm0 hal;obtain ⟨k,n1,A1,c1,hk,rfl,rfl,HN,hwr,hown,b0,b2,hm⟩:=hrel;have p0:=b0.cell 0 rfl;have p1:=b0.cell 1 rfl;have p2:=b0.cell 2 rfl;have hn1:n1≤100:=by
   have h1:=HN.out;have h2:(but vn k).length≤k:=by rw [but,List.length_map];exact Nat.le_trans (List.length_filter_le _ _) (by simp)
   omega
  by_cases hlt:k < sn
  ·have hbs:=but_succ vn k
   have hk1:(k:Int) < (sn:Int):=by omega
   by_cases hkv:k=vn
   ·rw [if_pos hkv] at hbs
    have HBS:=Lib.hid hbs;have dk:((k:Int) != (vn:Int))=false:=by rw [hkv];simp
    clear hbs;have HKV:=Lib.hid hkv;clear hkv;go_wp2_with fail;go_roundw
    case rel=>exact ⟨k+1,n1,A1,c1,hlt,by go_num,rfl,Lib.hid (by rw [HBS.out];exact HN.out),hwr,by rw [HBS.out];exact hown,b0,b2,hm⟩
    case measure=>simp [intOf];omega
   ·rw [if_neg hkv] at hbs
    have HBS:=Lib.hid hbs;have dk:((k:Int) != (vn:Int))=true:=by rw [bne_iff_ne];omega
    have HO:=Lib.hid hown;clear hbs hkv hown;go_wp2_with (at_builtin;refine wpList_pushI rfl _ _ rfl w3.heap.size A1 n1 c1 _ rfl HO.out (k:Int) rfl (by omega) hwr ?_;intro A9 c9 w9 ho9 hm9)
    go_roundw
    case rel=>exact ⟨k+1,n1+1,A9,c9,hlt,by go_num,rfl,Lib.hid (by rw [HBS.out,List.length_append,HN.out];rfl),Nat.le_trans hwr hm9.size,by rw [HBS.out];exact ho9,b0.mid hm9 (Or.inl (by omega)),b2.mid hm9 (Or.inl (by omega)),hm.transNew hm9 (Or.inl (by omega))⟩
    case measure=>simp [intOf];omega
  ·obtain rfl:k=sn:=by omega
   rw [HORD.out] at hown;have hnn:n1=ord.length:=by rw [HN.out,← HORD.out];rfl
   have hrv:=owns_rv hown;clear HN;subst hnn;have hlo:w.heap.size+1 < wr.heap.size:=b2.1;go_wp2_with fail;with_reducible refine (impl_part rn k A es c A1 ord c1 _ _ _ _ _ (hr.mid hm oZl) hrv HF.out.gr HMO.out.2.1 HMO.out.2.2).mono ?_
   rintro en w6 ⟨A6,c6,rfl,ho6,hm6⟩;rw [HOL.out];replace b2:=b2.mid hm6 oZr;replace hm:=hm.trans hm6;clear p0 p1 p2;go_wp2_with fail;have hP:=impl_CoreGraph rn k A6 (partE ord es) c6 w6 _ _ (OG.rg ho6) HGM.out;rw [HQ.out] at hP;dsimp only at hP;have HPP:=Lib.hid hP;clear hP;with_reducible refine HPP.out.mono ?_
   rintro en w8 ⟨A5,c5,rfl,ho8,hm8⟩;clear HPP;replace b2:=b2.mid hm8 oZr;replace hm:=hm.trans hm8;have hbx:=b2.1;have z0:=b2.cell 0 rfl;have z1:=b2.cell 1 rfl;have z2:=b2.cell 2 rfl;have zf:=b2.2.2;go_wp2_with fail;refine bodyPost_ret (v:=.tuple #[.agg #[.int .i64 rn,.int .i64 q,.slice A5 qs.length c5],.bool true]) (by simp [results,Tryz.results39,go_sem,z0,z1,z2,zf]) rfl ⟨A5,c5,rfl,?_,?_⟩
   ·refine OG.wide (OG.mid ho8 (a:=w.heap.size+1) (b:=w.heap.size+2) ?_ (Or.inl (by have:=hm6.size;simp;omega))) (by have:=hm6.size;simp;omega) (by simp) (Nat.le_refl _)
    repeat (first | exact Mid.refl _ _ _ | refine Mid.stored ?_ _ (by simp;try omega) (by simp;try omega))
   ·repeat (first | exact hm | refine Mid.storeNew ?_ (by simp;try omega) _)
end
section
open Go.RowKit
theorem impl_PathWord (r n v:Nat) (A:Option Addr) (es:List Ed) (c:Nat) (w:World) (lo hi:Nat) (hr:RG w lo hi A es) (hcl:es.length≤c) (hco:IsCor r n es) (hv:v < n) :
  Calls Tryz.prog 189 #[graV r n A es.length c,.int .i64 0,.int .i64 v] w fun e w'=>∃ A1 c1,e=.returned (.tuple #[.slice A1 (wordV r es v).length c1,.bool true])∧RV w' 0 w'.heap.size A1 (ints (wordV r es v))∧Mid 0 0 w w':=by
 have hn1:0 < n:=by omega
 have hn40:n≤40:=by have:=hco.gr.size;omega
 have hl:=hco.gr.len;have HCO:=Lib.hid hco;have hmem:=wordV_mem hco hv;generalize hW:wordV r es (v:Int)=wd at hmem ⊢;have HME:=Lib.hid hmem;clear hco hmem hW;have hm0:Mid 0 0 w (w.alloc (.cells #[.int .i64 r,.int .i64 n,.slice A es.length c] 26)):=Mid.alloc _ _;have B0:=Box.new w #[.int .i64 r,.int .i64 n,.slice A es.length c] 26;obtain ⟨b0,hb0⟩:=bool_of ((0:Int)≤0∧(0:Int) < (n:Int));obtain ⟨bv,hbv⟩:=bool_of ((0:Int)≤(v:Int)∧(v:Int) < (n:Int));obtain rfl:b0=true:=hb0.2 (by omega);obtain rfl:bv=true:=hbv.2 (by omega);have hsz:=HCO.out.gr.size;have H0:=Lib.hid (has_bool hsz.1 hsz.2 hb0).1;have HV:=Lib.hid (has_bool hsz.1 hsz.2 hbv).1;have hwsub:IntKind.i64.wrap ((n:Int) - 1)=(n:Int) - 1:=IntWalk.i64_in _ (by omega);clear hb0 hbv;have p0:=B0.cell 0 rfl;have p1:=B0.cell 1 rfl;have p2:=B0.cell 2 rfl;go_enter Tryz.func189,Tryz.ntmps189
 go_wp2_with fail;generalize w.alloc (.cells #[.int .i64 r,.int .i64 n,.slice A es.length c] 26)=w1 at hm0 B0 p0 p1 p2 ⊢;have hs1:w.heap.size < w1.heap.size:=B0.1;with_reducible refine (impl_IsFolded r n A es c w1 lo hi (hr.mid hm0 oZl) (by omega) hcl true (iff_of_true rfl HCO.out.fol)).mono ?_
 rintro en w2 ⟨rfl,hm2⟩;clear p0 p1 p2;replace B0:=B0.mid hm2 oZr;replace hm0:=hm0.trans hm2;have p0:=B0.cell 0 rfl;have p1:=B0.cell 1 rfl;have p2:=B0.cell 2 rfl;go_wp2_with fail;with_reducible refine (impl_has r n A es.length c 0 _ true H0.out).mono ?_
 rintro en w3 ⟨rfl,hm3⟩;clear p0 p1 p2;replace B0:=B0.mid hm3 oZr;replace hm0:=hm0.trans hm3;have p0:=B0.cell 0 rfl;have p1:=B0.cell 1 rfl;have p2:=B0.cell 2 rfl;go_wp2_with fail;with_reducible refine (impl_has r n A es.length c v _ true HV.out).mono ?_
 rintro en w4 ⟨rfl,hm4⟩;clear p0 p1 p2;replace B0:=B0.mid hm4 oZr;replace hm0:=hm0.trans hm4;have p0:=B0.cell 0 rfl;have p1:=B0.cell 1 rfl;have p2:=B0.cell 2 rfl;have hT:=impl_tree r n 0 A es c w4 lo hi (hr.mid hm0 oZl) HCO.out.gr hn1;have h00:((0:Nat):Int)=0:=rfl;rw [h00] at hT;have hor:ordE r es 0=(bfs es (lets r) 0).map Prod.fst:=by unfold ordE;rw [Int.toNat_natCast]
 rw [hor] at hT;obtain ⟨ST,hST⟩:∃ ST,bfs es (lets r) 0=ST:=⟨_,rfl⟩
 have hmm:=HME.out;rw [hST] at hT hmm;have HMM:=Lib.hid hmm;have HTL:=Lib.hid hT;clear hT h00 hor hST hmm;go_wp2_with fail;with_reducible refine HTL.out.mono ?_
 rintro en w5 ⟨A1,c1,rfl,hm5, -,vals,hval,hts⟩;obtain ⟨bw,cw,hvw,hrv⟩:=hts.word HMM.out;simp only [Int.toNat_natCast] at hvw hrv;have hcw:w5.cell? ⟨w4.heap.size+1,v,none⟩=some (.slice (some ⟨bw,0,none⟩) wd.length cw):=(hval.cellAt v (by omega)).trans hvw;have hgw:=(hval.lt _ rfl).2;have hv0:(0:Int)≤(v:Int):=by omega
 have hvn:(v:Int) < (n:Int):=by omega
 have hm6:=hm0.trans hm5;have HRV:=Lib.hid hrv;clear p0 p1 p2 hval hts hvw hm5 hm0 B0 hrv HTL;have hq:=fun W=>nilS_some ⟨bw,0,none⟩ wd.length cw W;go_wp2_with fail;go_ret2;exact ⟨_,cw,rfl,HRV.out,hm6⟩
theorem impl_TreeWord (r n v:Nat) (A:Option Addr) (es:List Ed) (c:Nat) (w:World) (lo hi:Nat) (hr:RG w lo hi A es) (hcl:es.length≤c) (hco:IsCor r n es) (hv:v < n) :
  Calls Tryz.prog 123 #[graV r n A es.length c,.int .i64 v] w fun e w'=>∃ A1 c1,e=.returned (.slice A1 (wordV r es v).length c1)∧RV w' 0 w'.heap.size A1 (ints (wordV r es v))∧Mid 0 0 w w':=by
 have hm0:Mid 0 0 w (w.alloc (.cells #[.int .i64 r,.int .i64 n,.slice A es.length c] 26)):=Mid.alloc _ _;have B0:=Box.new w #[.int .i64 r,.int .i64 n,.slice A es.length c] 26;have hP:=impl_PathWord r n v A es c (w.alloc (.cells #[.int .i64 r,.int .i64 n,.slice A es.length c] 26)) lo hi (hr.mid hm0 oZl) hcl hco hv;generalize wordV r es (v:Int)=wd at hP ⊢;have p0:=B0.cell 0 rfl;have p1:=B0.cell 1 rfl;have p2:=B0.cell 2 rfl;go_enter Tryz.func123,Tryz.ntmps123
 go_wp2_with fail;with_reducible refine hP.mono ?_
 rintro en w2 ⟨A1,c1,rfl,hrv,hm2⟩;go_wp2_with fail;go_ret;exact ⟨A1,c1,rfl,hrv,hm0.trans hm2⟩
end
def Lt3 (x:Int):Prop:=x≠0∧-3≤x∧x≤3
def LtW (w:List Int):Prop:=∀ x∈w,Lt3 x
def Rd (w:List Int):Prop:=∀ (a b:List Int) (x:Int),w≠a++x :: -x :: b
theorem Lt3.neg {x:Int} (h:Lt3 x):Lt3 (-x):=by unfold Lt3 at *;omega
theorem Lt3.negI {x:Int} (h:Lt3 x):negI x = -x:=by
 unfold Lt3 at h;unfold Go.Proofs.YthampgpcajmopaaGreat.negI minI;rw [if_neg (by omega)]
theorem LtW.nil:LtW []:=fun x h=>by simp at h
theorem LtW.left {a b:List Int} (h:LtW (a++b)):LtW a:=fun x hx=>h x (List.mem_append_left _ hx)
theorem LtW.right {a b:List Int} (h:LtW (a++b)):LtW b:=fun x hx=>h x (List.mem_append_right _ hx)
theorem LtW.app {a b:List Int} (h:LtW a) (k:LtW b):LtW (a++b):=fun x hx=>(List.mem_append.1 hx).elim (h x) (k x)
theorem LtW.head {x:Int} {t:List Int} (h:LtW (x :: t)):Lt3 x:=h x List.mem_cons_self
theorem LtW.tail {x:Int} {t:List Int} (h:LtW (x :: t)):LtW t:=fun y hy=>h y (List.mem_cons_of_mem _ hy)
theorem LtW.cons {x:Int} {t:List Int} (h:Lt3 x) (k:LtW t):LtW (x :: t):=fun y hy=>by
 rcases List.mem_cons.1 hy with rfl | hy
 ·exact h
 ·exact k y hy
theorem LtW.one {x:Int} (h:Lt3 x):LtW [x]:=LtW.cons h LtW.nil
theorem LtW.red {out w:List Int} (h:LtW out) (k:LtW w):LtW (red out w):=fun x hx=>(red_mem hx).elim (h x) (k x)
theorem invB_lt {x y:Int} (hx:Lt3 x) (hy:Lt3 y):invB x y=true↔x = -y:=by
 rw [invB_iff];unfold Lt3 at *;unfold minI;omega
theorem Rd.nil:Rd []:=fun a b x h=>by simp at h
theorem Rd.one (y:Int):Rd [y]:=fun a b x h=>by
 have:=congrArg List.length h;simp at this;omega
theorem Rd.left {a b:List Int} (h:Rd (a++b)):Rd a:=fun c d x e=>h c (d++b) x (by rw [e];simp)
theorem Rd.right {a b:List Int} (h:Rd (a++b)):Rd b:=fun c d x e=>h (a++c) d x (by rw [e];simp)
theorem snoc_cases {α:Type} (l:List α):l=[] ∨ ∃ t x,l=t++[x]:=by
 rcases List.eq_nil_or_concat l with h | ⟨t,x,h⟩
 ·exact .inl h
 ·exact .inr ⟨t,x,by simpa using h⟩
theorem snoc_inj {α:Type} {a b:List α} {x y:α} (h:a++[x]=b++[y]):a=b∧x=y:=by
 have:=List.append_inj' h rfl;exact ⟨this.1,by simpa using this.2⟩
theorem Rd.snoc {w:List Int} {x:Int} (h:Rd w) (hl:∀ t a,w=t++[a]→a≠-x):Rd (w++[x]):=by
 intro a b y e;rcases snoc_cases b with rfl | ⟨b',z,rfl⟩
 ·have e2:w++[x]=(a++[y])++[-y]:=by rw [e];simp
  obtain ⟨h1,h2⟩:=snoc_inj e2;exact hl a y h1 (by omega)
 ·have e2:w++[x]=(a++y :: -y :: b')++[z]:=by rw [e];simp
  exact h a b' y (snoc_inj e2).1
theorem Rd.last {w:List Int} {a x:Int} (h:Rd (w++[a]++[x])):a≠-x:=fun e=>h w [] a (by rw [e];simp)
theorem Rd.step {out:List Int} {x:Int} (h:Rd out) (hw:LtW out) (hx:Lt3 x):Rd (redStep out x):=by
 rcases snoc_cases out with rfl | ⟨o,a,rfl⟩
 ·rw [redStep_empty]
  exact Rd.one x
 ·have ha:=hw.right.head
  cases hb:invB a x with
  | true=>rw [redStep_pop hb];exact h.left
  | false =>
   rw [redStep_push hb];refine h.snoc fun t b e=>?_;obtain ⟨-,rfl⟩:=snoc_inj e;intro e2;rw [(invB_lt ha hx).2 e2] at hb;cases hb
theorem Rd.red {w:List Int}:∀ {out:List Int},Rd out→LtW out→LtW w→Rd (red out w):=by
 induction w with
 | nil=>exact fun h _ _=>h
 | cons x t ih =>
  intro out h ho hw;rw [red_cons];exact ih (h.step ho hw.head) (LtW.red (w:=[x]) ho (LtW.one hw.head)) hw.tail
theorem red_rd {w:List Int}:∀ {out:List Int},Rd (out++w)→LtW (out++w)→red out w=out++w:=by
 induction w with
 | nil=>intro out _ _;simp [red_nil]
 | cons x t ih =>
  intro out h hw;have hx:=hw.right.head;have e:redStep out x=out++[x]:=by
   rcases snoc_cases out with rfl | ⟨o,a,rfl⟩
   ·rfl
   ·refine redStep_push ?_
    have ha:=hw.left.right.head;cases hb:invB a x with
    | false=>rfl
    | true =>
     have e2:=(invB_lt ha hx).1 hb;exact absurd (by rw [e2];simp) (h o t a)
  rw [red_cons,e,ih (by simpa using h) (by simpa using hw)];simp
theorem red_self {w:List Int} (h:Rd w) (hw:LtW w):red [] w=w:=by
 have:=red_rd (out:=[]) (w:=w) (by simpa using h) (by simpa using hw)
 simpa using this
theorem rd_red {w:List Int} (hw:LtW w):Rd (red [] w):=Rd.nil.red LtW.nil hw
theorem lt_red {w:List Int} (hw:LtW w):LtW (red [] w):=LtW.red LtW.nil hw
theorem red_idem {w:List Int} (hw:LtW w):red [] (red [] w)=red [] w:=red_self (rd_red hw) (lt_red hw)
theorem redStep_inv {out:List Int} {x:Int} (h:Rd out) (hw:LtW out) (hx:Lt3 x):redStep (redStep out x) (-x)=out:=by
 rcases snoc_cases out with rfl | ⟨o,a,rfl⟩
 ·rw [redStep_empty]
  exact redStep_pop (out:=[]) ((invB_lt hx hx.neg).2 (by omega))
 ·have ha:=hw.right.head
  cases hb:invB a x with
  | true =>
   rw [redStep_pop hb];have e:=(invB_lt ha hx).1 hb;rcases snoc_cases o with rfl | ⟨p,b,rfl⟩
   ·rw [redStep_empty,e];rfl
   ·have hb2:=hw.left.right.head
    have:invB b (-x)=false:=by
     cases h2:invB b (-x) with
     | false=>rfl
     | true =>
      have e2:=(invB_lt hb2 hx.neg).1 h2;exact absurd e2 (by rw [← e];exact h.last)
    rw [redStep_push this,e]
  | false =>
   rw [redStep_push hb];exact redStep_pop ((invB_lt hx hx.neg).2 (by omega))
theorem red_pair {out:List Int} {x:Int} (b:List Int) (h:Rd out) (hw:LtW out) (hx:Lt3 x):red out (x :: -x :: b)=red out b:=by
 rw [red_cons,red_cons,redStep_inv h hw hx]
theorem red_app {b:List Int}:∀ {s out:List Int},Rd out→LtW out→LtW s→LtW b→red out (s++b)=red out (red s b):=by
 induction b with
 | nil=>intro s out _ _ _ _;simp [red_nil]
 | cons x t ih =>
  intro s out h ho hs hb;have hx:=hb.head;have hst:LtW (redStep s x):=LtW.red (w:=[x]) hs (LtW.one hx);rw [red_cons,← ih h ho hst hb.tail];rcases snoc_cases s with rfl | ⟨o,a,rfl⟩
  ·rw [redStep_empty];rfl
  ·cases hc:invB a x with
   | false=>rw [redStep_push hc];simp
   | true =>
    rw [redStep_pop hc];have ha:=hs.right.head;have e:=(invB_lt ha hx).1 hc;have e2:x = -a:=by omega
    subst e2;have h1:(o++[a])++-a :: t=o++(a :: -a :: t):=by simp
    rw [h1,red_append,red_append,red_pair t (h.red ho hs.left) (LtW.red ho hs.left) ha]
theorem red_right {a b:List Int} (ha:LtW a) (hb:LtW b):red [] (a++red [] b)=red [] (a++b):=by
 rw [red_append,red_append,← red_app (s:=[]) (rd_red ha) (lt_red ha) LtW.nil hb]
 rfl
theorem red_left (a b:List Int) (ha:LtW a):red [] (red [] a++b)=red [] (a++b):=by
 rw [red_append,red_append,red_idem ha]
def Eqv (a b:List Int):Prop:=red [] a=red [] b
theorem Eqv.app {a b c d:List Int} (ha:LtW a) (hb:LtW b) (hc:LtW c) (hd:LtW d) (h:Eqv a b) (k:Eqv c d):Eqv (a++c) (b++d):=by
 unfold Eqv at *;rw [← red_left _ _ ha,← red_right (lt_red ha) hc,h,k,red_right (lt_red hb) hd,red_left _ _ hb]
theorem Eqv.toRed {a:List Int} (ha:LtW a):Eqv (red [] a) a:=red_idem ha
theorem invW_nil:invW []=[]:=rfl
theorem invW_app (a b:List Int):invW (a++b)=invW b++invW a:=by simp [invW]
theorem invW_lt {w:List Int} (h:LtW w):invW w=(w.map (- ·)).reverse:=by
 unfold invW
 congr 1
 exact List.map_congr_left fun x hx=>(h x hx).negI
theorem LtW.inv {w:List Int} (h:LtW w):LtW (invW w):=by
 rw [invW_lt h];intro x hx;rw [List.mem_reverse,List.mem_map] at hx;obtain ⟨y,hy,rfl⟩:=hx;exact (h y hy).neg
theorem invW_invW {w:List Int} (h:LtW w):invW (invW w)=w:=by
 rw [invW_lt h.inv,invW_lt h,List.map_reverse,List.reverse_reverse,List.map_map]
 conv=>rhs;rw [← List.map_id w]
 exact List.map_congr_left fun x _=>by simp
theorem red_inv_cancel {w:List Int} (h:LtW w):∀ {out:List Int},Rd out→LtW out→red out (w++invW w)=out:=by
 induction w with
 | nil=>intro out _ _;rfl
 | cons x t ih =>
  intro out ho hl;have hx:=h.head;have e:invW (x :: t)=invW t++[-x]:=by rw [show x :: t=[x]++t from rfl,invW_app];simp [invW,hx.negI]
  rw [e,List.cons_append,red_cons,← List.append_assoc,red_append,ih h.tail (ho.step hl hx) (LtW.red (w:=[x]) hl (LtW.one hx))]
  show redStep (redStep out x) (-x)=out
  exact redStep_inv ho hl hx
theorem Eqv.inv_right {w:List Int} (h:LtW w):Eqv (w++invW w) []:=red_inv_cancel h Rd.nil LtW.nil
theorem Eqv.inv_left {w:List Int} (h:LtW w):Eqv (invW w++w) []:=by
 have:=Eqv.inv_right h.inv
 rwa [invW_invW h] at this
theorem Eqv.symm {a b:List Int} (h:Eqv a b):Eqv b a:=Eq.symm h
theorem Eqv.trans {a b c:List Int} (h:Eqv a b) (k:Eqv b c):Eqv a c:=Eq.trans h k
theorem Eqv.inv {a b:List Int} (ha:LtW a) (hb:LtW b) (h:Eqv a b):Eqv (invW a) (invW b):=by
 -- invW a=invW a (b invW b)=(invW a a) invW b
 have h1:Eqv (invW a++(b++invW b)) (invW a++[]):=Eqv.app ha.inv ha.inv (hb.app hb.inv) LtW.nil rfl (Eqv.inv_right hb);have h2:Eqv (invW a++b) []:=(Eqv.app ha.inv ha.inv hb ha rfl h.symm).trans (Eqv.inv_left ha);have h3:Eqv ((invW a++b)++invW b) ([]++invW b):=Eqv.app (ha.inv.app hb) LtW.nil hb.inv hb.inv h2 rfl;rw [List.append_nil] at h1;rw [List.append_assoc] at h3;exact h1.symm.trans h3
theorem Rd.inv {w:List Int} (h:Rd w) (hw:LtW w):Rd (invW w):=by
 intro a b x e;have hl:=hw.inv;rw [e] at hl;have ex:Lt3 x:=hl.right.head;have e2:w=invW (a++x :: -x :: b):=by rw [← e,invW_invW hw]
 have e3:a++x :: -x :: b=a++([x]++([-x]++b)):=rfl;rw [e3,invW_app,invW_app,invW_app] at e2;have e4:invW [x]=[-x]:=by simp [invW,ex.negI]
 have e5:invW [-x]=[x]:=by simp [invW,ex.neg.negI]
 rw [e4,e5] at e2;exact h (invW b) (invW a) x (by rw [e2];simp)
def Sp (es:List Ed) (u x v:Int):Prop:=(0 < x∧(⟨u,x,v⟩:Ed)∈es) ∨ (x < 0∧(⟨v, -x,u⟩:Ed)∈es)
def Pa (es:List Ed):Int→List Int→Int→Prop
 | u,[],v=>u=v
 | u,x :: w,v=>∃ t,Sp es u x t∧Pa es t w v
theorem Sp.neg {es:List Ed} {u x v:Int} (h:Sp es u x v):Sp es v (-x) u:=by
 rcases h with ⟨h1,h2⟩ | ⟨h1,h2⟩
 ·exact .inr ⟨by omega,by rw [Int.neg_neg];exact h2⟩
 ·exact .inl ⟨by omega,h2⟩
theorem sp_edge {es:List Ed} {e:Ed} (h:e∈es) (hl:0 < e.l):Sp es e.a e.l e.b:=.inl ⟨hl,h⟩
theorem sp_endOf {es:List Ed} {u x v:Int}:Sp es u x v↔∃ e∈es,endOf u x e=some v:=by
 constructor
 ·rintro (⟨h1,h2⟩ | ⟨h1,h2⟩)
  ·exact ⟨_,h2,endOf_some.2 (.inl ⟨h1,rfl,rfl,rfl⟩)⟩
  ·exact ⟨_,h2,endOf_some.2 (.inr ⟨h1,rfl,rfl,rfl⟩)⟩
 ·rintro ⟨e,he,h⟩
  rcases endOf_some.1 h with ⟨h1,rfl,rfl,rfl⟩ | ⟨h1,h2,rfl,rfl⟩
  ·exact .inl ⟨h1,he⟩
  ·refine .inr ⟨h1,?_⟩
   rw [← h2];exact he
theorem sp_ends {es:List Ed} {u x v:Int}:Sp es u x v↔v∈ends es u x:=sp_endOf.trans mem_ends.symm
theorem Sp.rng {r s:Int} {es:List Ed} (hg:∀ e∈es,InG r s e) {u x v:Int} (h:Sp es u x v):(0≤u∧u < s)∧(0≤v∧v < s)∧x≠0∧-r≤x∧x≤r:=by
 rcases h with ⟨h1,h2⟩ | ⟨h1,h2⟩
 ·have:=hg _ h2
  simp only [InG] at this;omega
 ·have:=hg _ h2
  simp only [InG] at this;omega
theorem Sp.lt3 {r s:Int} {es:List Ed} (hg:IsGr r s es) {u x v:Int} (h:Sp es u x v):Lt3 x:=by
 have h1:=h.rng hg.all;have h2:=hg.rank;unfold Lt3;omega
theorem Pa.nil (es:List Ed) (u:Int):Pa es u [] u:=rfl
theorem pa_one {es:List Ed} {u x v:Int}:Pa es u [x] v↔Sp es u x v:=by
 constructor
 ·rintro ⟨t,h,rfl⟩
  exact h
 ·exact fun h=>⟨v,h,rfl⟩
theorem pa_app {es:List Ed} {b:List Int} {v:Int}:∀ {a:List Int} {u:Int},Pa es u (a++b) v↔∃ t,Pa es u a t∧Pa es t b v
 | [],u=>⟨fun h=>⟨u,rfl,h⟩,fun ⟨t,h1,h2⟩=>by cases h1;exact h2⟩
 | x :: a,u=>by
  constructor
  ·rintro ⟨t,h1,h2⟩
   obtain ⟨s,h3,h4⟩:=pa_app.1 h2;exact ⟨s,⟨t,h1,h3⟩,h4⟩
  ·rintro ⟨s,⟨t,h1,h3⟩,h4⟩
   exact ⟨t,h1,pa_app.2 ⟨s,h3,h4⟩⟩
theorem Pa.app {es:List Ed} {a b:List Int} {u t v:Int} (h:Pa es u a t) (k:Pa es t b v):Pa es u (a++b) v:=pa_app.2 ⟨t,h,k⟩
theorem Pa.snoc {es:List Ed} {a:List Int} {u t x v:Int} (h:Pa es u a t) (k:Sp es t x v):Pa es u (a++[x]) v:=h.app (pa_one.2 k)
theorem Pa.lt {r s:Int} {es:List Ed} (hg:IsGr r s es):∀ {w:List Int} {u v:Int},Pa es u w v→LtW w
 | [],_,_,_=>LtW.nil
 | _ :: _,_,_,⟨t,h1,h2⟩=>LtW.cons (h1.lt3 hg) (h2.lt hg)
theorem Pa.lets {r s:Int} {es:List Ed} (hg:∀ e∈es,InG r s e):∀ {w:List Int} {u v:Int},Pa es u w v→∀ x∈w,x≠0∧-r≤x∧x≤r
 | [],_,_,_=>by simp
 | y :: w,_,_,⟨t,h1,h2⟩=>fun x hx=>by
  rcases List.mem_cons.1 hx with rfl | hx
  ·exact (h1.rng hg).2.2
  ·exact h2.lets hg x hx
theorem Pa.rng {r s:Int} {es:List Ed} (hg:∀ e∈es,InG r s e):∀ {w:List Int} {u v:Int},Pa es u w v→0≤u∧u < s→0≤v∧v < s
 | [],_,_,h,hu=>by cases h;exact hu
 | _ :: _,_,_,⟨t,h1,h2⟩,_=>h2.rng hg (h1.rng hg).2.1
theorem Pa.inv {r s:Int} {es:List Ed} (hg:IsGr r s es):∀ {w:List Int} {u v:Int},Pa es u w v→Pa es v (invW w) u
 | [],_,_,h=>by cases h;rfl
 | x :: w,u,v,⟨t,h1,h2⟩=>by
  have e:invW (x :: w)=invW w++[-x]:=by
   rw [show x :: w=[x]++w from rfl,invW_app];simp [invW,(h1.lt3 hg).negI]
  rw [e];exact (h2.inv hg).snoc h1.neg
theorem IsFol.det {r s:Int} {es:List Ed} (h:IsFol r s es) {u x v v':Int} (h1:Sp es u x v) (h2:Sp es u x v'):v=v':=by
 have key:∀ e∈es,∀ f∈es,Clash e f→e=f:=by
  intro e he f hf hc;obtain ⟨i,hi,rfl⟩:=List.getElem_of_mem he;obtain ⟨j,hj,rfl⟩:=List.getElem_of_mem hf;have hp:=List.pairwise_iff_getElem.1 h.fol;rcases Nat.lt_trichotomy i j with hl | rfl | hl
  ·exact absurd hc (hp i j hi hj hl)
  ·rfl
  ·exact absurd hc.symm (hp j i hj hi hl)
 rcases h1 with ⟨a1,b1⟩ | ⟨a1,b1⟩
 ·rcases h2 with ⟨a2,b2⟩ | ⟨a2,b2⟩
  ·have:=key _ b1 _ b2 ⟨rfl,.inl rfl⟩
   injection this
  ·omega
 ·rcases h2 with ⟨a2,b2⟩ | ⟨a2,b2⟩
  ·omega
  ·have:=key _ b1 _ b2 ⟨rfl,.inr rfl⟩
   injection this
theorem Pa.det {r s:Int} {es:List Ed} (h:IsFol r s es):∀ {w:List Int} {u v v':Int},Pa es u w v→Pa es u w v'→v=v'
 | [],_,_,_,h1,h2=>h1.symm.trans h2
 | _ :: _,_,_,_,⟨t,a1,b1⟩,⟨t',a2,b2⟩=>by
  cases h.det a1 a2
  exact b1.det h b2
theorem Pa.det' {r s:Int} {es:List Ed} (h:IsFol r s es) {w:List Int} {u u' v:Int} (h1:Pa es u w v) (h2:Pa es u' w v):u=u':=(h1.inv h.gr).det h (h2.inv h.gr)
theorem nextV_sp {r s:Int} {es:List Ed} (h:IsFol r s es) {u x v:Int} (hs:Sp es u x v):nextV es u x=v:=by
 have hm:=sp_ends.1 hs;exact leastI_eq hm fun y hy=>by
  have:=h.det hs (sp_ends.2 hy);omega
theorem sp_nextV {es:List Ed} {u x:Int} (h:0≤nextV es u x):Sp es u x (nextV es u x):=by
 obtain ⟨e,he,h2⟩:=nextV_edge h;exact sp_endOf.2 ⟨e,he,h2⟩
theorem nextV_no {es:List Ed} {u x:Int} (h:nextV es u x < 0) (hg:∀ e∈es,0≤e.a∧0≤e.b) (v:Int):¬ Sp es u x v:=by
 intro hs;have hm:=sp_ends.1 hs;have hne:ends es u x≠[]:=fun e=>by rw [e] at hm;cases hm
 obtain ⟨h1,h2⟩:=leastI_mem hne;have h3:=sp_ends.2 h1;have:0≤leastI (ends es u x):=by
  rcases h3 with ⟨_,h3⟩ | ⟨_,h3⟩
  ·exact (hg _ h3).2
  ·exact (hg _ h3).1
 unfold nextV at h;omega
theorem IsGr.nn {r s:Int} {es:List Ed} (h:IsGr r s es):∀ e∈es,0≤e.a∧0≤e.b:=fun e he=>⟨(h.all e he).1,(h.all e he).2.2.1⟩
theorem rdA_full {r s:Int} {es:List Ed} (h:IsFol r s es):∀ {w:List Int} {u v:Int},Pa es u w v→rdA es u w=(v,w.length)
 | [],_,_,hp=>by cases hp;rfl
 | x :: w,u,v,⟨t,h1,h2⟩=>by
  have e:=nextV_sp h h1;have ht:=(h1.rng h.gr.all).2.1;rw [rdA,e,if_neg (by omega),rdA_full h h2]
  rfl
theorem rdA_pa {es:List Ed}:∀ {w:List Int} {u:Int},(rdA es u w).2=w.length→Pa es u w (rdA es u w).1
 | [],_,_=>rfl
 | x :: w,u,h=>by
  rw [rdA] at h ⊢;by_cases hn:nextV es u x < 0
  ·rw [if_pos hn] at h
   simp at h
  ·rw [if_neg hn] at h ⊢
   exact ⟨_,sp_nextV (by omega),rdA_pa (by simpa using h)⟩
theorem rdA_iff {r s:Int} {es:List Ed} (h:IsFol r s es) {w:List Int} {u v:Int}:Pa es u w v↔rdA es u w=(v,w.length):=by
 refine ⟨rdA_full h,fun e=>?_⟩;have h2:(rdA es u w).2=w.length:=by rw [e]
 have:=rdA_pa h2
 rwa [e] at this
theorem pa_red {r s:Int} {es:List Ed} (h:IsFol r s es):∀ {w:List Int} {out:List Int} {u t v:Int},Pa es u out t→Pa es t w v→Pa es u (red out w) v
 | [],out,u,t,v,h1,h2=>by cases h2;exact h1
 | x :: w,out,u,t,v,h1,⟨t2,h2,h3⟩=>by
  rw [red_cons];refine pa_red h ?_ h3;rcases snoc_cases out with rfl | ⟨o,a,rfl⟩
  ·cases h1
   rw [redStep_empty];exact pa_one.2 h2
  ·obtain ⟨p,h4,h5⟩:=pa_app.1 h1
   have h5:=pa_one.1 h5;cases hb:invB a x with
   | false=>rw [redStep_push hb];exact h1.snoc h2
   | true =>
    rw [redStep_pop hb];have e:=(invB_lt (h5.lt3 h.gr) (h2.lt3 h.gr)).1 hb;have e2:x = -a:=by omega
    rw [e2] at h2;rw [h.det h2 h5.neg];exact h4
theorem Pa.red {r s:Int} {es:List Ed} (h:IsFol r s es) {w:List Int} {u v:Int} (hp:Pa es u w v):Pa es u (red [] w) v:=pa_red h (Pa.nil es u) hp
def InS (es:List Ed) (w:List Int):Prop:=Pa es 0 (red [] w) 0
theorem InS.mk {r s:Int} {es:List Ed} (h:IsFol r s es) {w:List Int} (hp:Pa es 0 w 0):InS es w:=hp.red h
theorem InS.eqv {es:List Ed} {a b:List Int} (h:Eqv a b):InS es a↔InS es b:=by unfold InS;rw [h]
theorem inS_rdA {r s:Int} {es:List Ed} (h:IsFol r s es) (w:List Int):InS es w↔rdA es 0 (red [] w)=(0,(red [] w).length):=rdA_iff h
theorem IsFol.key {r s:Int} {es:List Ed} (h:IsFol r s es):∀ e∈es,∀ f∈es,Clash e f→e=f:=by
 intro e he f hf hc;obtain ⟨i,hi,rfl⟩:=List.getElem_of_mem he;obtain ⟨j,hj,rfl⟩:=List.getElem_of_mem hf;have hp:=List.pairwise_iff_getElem.1 h.fol;rcases Nat.lt_trichotomy i j with hl | rfl | hl
 ·exact absurd hc (hp i j hi hj hl)
 ·rfl
 ·exact absurd hc.symm (hp j i hj hi hl)
theorem IsFol.mk' {r s:Int} {es:List Ed} (h:IsGr r s es) (hk:∀ e∈es,∀ f∈es,Clash e f→e=f):IsFol r s es:=by
 refine ⟨h,List.pairwise_iff_getElem.2 fun i j hi hj hij hc=>?_⟩;have e:=hk _ (List.getElem_mem hi) _ (List.getElem_mem hj) hc;have:=List.pairwise_iff_getElem.1 h.asc i j hi hj hij;exact this.ne e
theorem idxI_mem {ord:List Int} {v:Int}:0≤idxI ord v↔v∈ord:=by
 unfold idxI;split
 ·rename_i h
  exact ⟨fun _=>h,fun _=>Int.natCast_nonneg _⟩
 ·rename_i h
  exact ⟨fun h=>by omega,fun h2=>absurd h2 h⟩
theorem idxI_get {ord:List Int} {v:Int} (h:v∈ord):ord[(idxI ord v).toNat]?=some v:=by
 unfold idxI;rw [if_pos h,Int.toNat_natCast];have hl:=List.idxOf_lt_length_iff.2 h;rw [List.getElem?_eq_getElem hl,List.getElem_idxOf hl]
theorem idxI_inj {ord:List Int} {u v:Int} (hu:u∈ord) (hv:v∈ord) (h:idxI ord u=idxI ord v):u=v:=by
 have h1:=idxI_get hu;rw [h,idxI_get hv] at h1;exact (Option.some.inj h1).symm
theorem mem_partE {ord:List Int} {es:List Ed} {f:Ed}:f∈partE ord es↔∃ e∈es,e.a∈ord∧e.b∈ord∧f=⟨idxI ord e.a,e.l,idxI ord e.b⟩:=by
 unfold partE;rw [mem_canon,List.mem_filterMap];constructor
 ·rintro ⟨e,he,h⟩
  unfold partOf at h;split at h
  ·rename_i hc
   exact ⟨e,he,idxI_mem.1 hc.1,idxI_mem.1 hc.2,(Option.some.inj h).symm⟩
  ·cases h
 ·rintro ⟨e,he,h1,h2,rfl⟩
  refine ⟨e,he,?_⟩;unfold partOf;rw [if_pos ⟨idxI_mem.2 h1,idxI_mem.2 h2⟩]
theorem part_sp {ord:List Int} {es:List Ed} {i x j:Int}:Sp (partE ord es) i x j↔∃ u v,u∈ord∧v∈ord∧idxI ord u=i∧idxI ord v=j∧Sp es u x v:=by
 constructor
 ·rintro (⟨h1,h2⟩ | ⟨h1,h2⟩)
  ·obtain ⟨e,he,ha,hb,h3⟩:=mem_partE.1 h2
   injection h3 with h3 h4 h5
   exact ⟨e.a,e.b,ha,hb,h3.symm,h5.symm,.inl ⟨h1,by rw [h4];exact he⟩⟩
  ·obtain ⟨e,he,ha,hb,h3⟩:=mem_partE.1 h2
   injection h3 with h3 h4 h5
   exact ⟨e.b,e.a,hb,ha,h5.symm,h3.symm,.inr ⟨h1,by rw [h4];exact he⟩⟩
 ·rintro ⟨u,v,hu,hv,rfl,rfl,(⟨h1,h2⟩ | ⟨h1,h2⟩)⟩
  ·exact .inl ⟨h1,mem_partE.2 ⟨_,h2,hu,hv,rfl⟩⟩
  ·exact .inr ⟨h1,mem_partE.2 ⟨_,h2,hv,hu,rfl⟩⟩
theorem part_pa_to {ord:List Int} {es:List Ed}:∀ {w:List Int} {i j:Int},Pa (partE ord es) i w j→∀ u∈ord,idxI ord u=i→∃ v∈ord,idxI ord v=j∧Pa es u w v
 | [],_,_,h,u,hu,hi=>⟨u,hu,hi.trans h,rfl⟩
 | x :: w,i,j,⟨t,h1,h2⟩,u,hu,hi=>by
  obtain ⟨u',t',hu',ht',hi',htt,hs⟩:=part_sp.1 h1;have e:=idxI_inj hu' hu (hi'.trans hi.symm);subst e;obtain ⟨v,hv,hj,hp⟩:=part_pa_to h2 t' ht' htt;exact ⟨v,hv,hj,⟨t',hs,hp⟩⟩
theorem part_pa_of {ord:List Int} {es:List Ed}:∀ {w:List Int} {u v:Int},Pa es u w v→(∀ a b t,w=a++b→Pa es u a t→t∈ord)→Pa (partE ord es) (idxI ord u) w (idxI ord v)
 | [],_,_,h,_=>by cases h;rfl
 | x :: w,u,v,⟨t,h1,h2⟩,hr=>by
  have hu:=hr [] (x :: w) u rfl rfl;have ht:=hr [x] w t rfl (pa_one.2 h1);exact ⟨idxI ord t,part_sp.2 ⟨u,t,hu,ht,rfl,rfl,h1⟩,part_pa_of h2 fun a b t' e hp=>hr (x :: a) b t' (by rw [e];rfl) ⟨t,h1,hp⟩⟩
theorem part_fol {r s:Int} {es:List Ed} {ord:List Int} (h:IsFol r s es) (h0:ord≠[]) (h40:ord.length≤40):IsFol r ord.length (partE ord es):=by
 refine IsFol.mk' (partE_gr h.gr h0 h40) fun e he f hf hc=>?_;obtain ⟨e',he',a1,b1,rfl⟩:=mem_partE.1 he;obtain ⟨f',hf',a2,b2,rfl⟩:=mem_partE.1 hf;have:e'=f':=h.key e' he' f' hf' ⟨hc.1,hc.2.imp (idxI_inj a1 a2) (idxI_inj b1 b2)⟩;rw [this]
theorem bfsRow_closed {es:List Ed} {p:Int × List Int}:∀ (K:List Int) {st:BS},∀ x∈K,0≤nextV es p.1 x→nextV es p.1 x∈(bfsRow es K p st).map Prod.fst
 | [],_,x,hx,_=>by cases hx
 | y :: K,st,x,hx,hn=>by
  rcases List.mem_cons.1 hx with rfl | hx
  ·have h1:nextV es p.1 x∈(bfsStep es p.1 p.2 st x).map Prod.fst:=by
    unfold bfsStep;by_cases hc:nextV es p.1 x < 0 ∨ nextV es p.1 x∈st.map Prod.fst
    ·rw [if_pos hc]
     rcases hc with hc | hc
     ·omega
     ·exact hc
    ·rw [if_neg hc,List.map_append]
     exact List.mem_append_right _ (by simp)
   obtain ⟨q,hq,e⟩:=List.mem_map.1 h1;rw [← e];exact List.mem_map.2 ⟨q,(bfsRow_pre es K p (bfsStep es p.1 p.2 st x)).subset hq,rfl⟩
  ·exact bfsRow_closed K x hx hn
theorem bfsSt_closed {es:List Ed} {L:List Int} {v:Int}:∀ (i j:Nat) {p:Int × List Int},j < i→(bfsSt es L v i)[j]?=some p→∀ x∈L,0≤nextV es p.1 x→nextV es p.1 x∈(bfsSt es L v i).map Prod.fst
 | 0,j,p,h,_=>by omega
 | i+1,j,p,h,hp=>by
  intro x hx hn;cases hq:(bfsSt es L v i)[i]? with
  | none =>
   have hs:bfsSt es L v (i+1)=bfsSt es L v i:=by simp [bfsSt,hq]
   rw [hs] at hp ⊢;have hji:j < i:=by
    have h1:=(List.getElem?_eq_some_iff.1 hp).1;have h2:=List.getElem?_eq_none_iff.1 hq;omega
   exact bfsSt_closed i j hji hp x hx hn
  | some q =>
   have hs:bfsSt es L v (i+1)=bfsRow es L q (bfsSt es L v i):=by simp [bfsSt,hq]
   rw [hs] at hp ⊢;rcases Nat.lt_or_ge j i with hji | hji
   ·have hl:j < (bfsSt es L v i).length:=by
     have:=(List.getElem?_eq_some_iff.1 hq).1;omega
    have hp2:(bfsSt es L v i)[j]?=some p:=by
     have h1:=prefix_get (bfsRow_pre es L q (bfsSt es L v i)) (List.getElem?_eq_getElem hl);rw [hp] at h1;rw [List.getElem?_eq_getElem hl,← h1]
    have h2:=bfsSt_closed i j hji hp2 x hx hn;obtain ⟨z,hz,e⟩:=List.mem_map.1 h2;rw [← e];exact List.mem_map.2 ⟨z,(bfsRow_pre es L q _).subset hz,rfl⟩
   ·have e:j=i:=by omega
    subst e;have h1:=prefix_get (bfsRow_pre es L q (bfsSt es L v j)) hq;rw [hp] at h1;obtain rfl:=Option.some.inj h1;exact bfsRow_closed L x hx hn
theorem bfs_closed {r s v:Int} {es:List Ed} {L:List Int} (hg:∀ e∈es,InG r s e) (h0:0≤v) (h1:v < s) (hs:s≤40) {p:Int × List Int} (hp:p∈bfs es L v) {x:Int} (hx:x∈L) (hn:0≤nextV es p.1 x):nextV es p.1 x∈(bfs es L v).map Prod.fst:=by
 obtain ⟨j,hj⟩:=List.mem_iff_getElem?.1 hp;have hl:=(bfs_ok (L:=L) hg h0 h1).len (by omega);have hjl:=(List.getElem?_eq_some_iff.1 hj).1;exact bfsSt_closed 41 j (by omega) hj x hx hn
theorem bfs_pa (es:List Ed) (L:List Int) (v:Int):∀ p∈bfs es L v,Pa es v p.2 p.1:=by
 have hrow:∀ (K:List Int) (p:Int × List Int) (st:BS),Pa es v p.2 p.1→(∀ q∈st,Pa es v q.2 q.1)→∀ q∈bfsRow es K p st,Pa es v q.2 q.1:=by
  intro K
  induction K with
  | nil=>exact fun p st _ h=>h
  | cons x K ih =>
   intro p st hp h;refine ih p (bfsStep es p.1 p.2 st x) hp fun q hq=>?_;unfold bfsStep at hq;split at hq
   ·exact h q hq
   ·rename_i hc
    rcases List.mem_append.1 hq with hq | hq
    ·exact h q hq
    ·rw [List.mem_singleton] at hq
     subst hq;exact hp.snoc (sp_nextV (by omega))
 have hst:∀ i,∀ q∈bfsSt es L v i,Pa es v q.2 q.1:=by
  intro i
  induction i with
  | zero =>
   intro q hq;simp [bfsSt] at hq;subst hq
   rfl
  | succ i ih =>
   cases hq:(bfsSt es L v i)[i]? with
   | none=>rw [show bfsSt es L v (i+1)=bfsSt es L v i by simp [bfsSt,hq]];exact ih
   | some p =>
    rw [show bfsSt es L v (i+1)=bfsRow es L p (bfsSt es L v i) by simp [bfsSt,hq]];exact hrow L p _ (ih p (List.mem_of_getElem? hq)) ih
 exact hst 41
theorem bfs_reach {r s v:Int} {es:List Ed} (hf:IsFol r s es) (h0:0≤v) (h1:v < s):∀ {w:List Int} {u t:Int},u∈ordE r es v→Pa es u w t→t∈ordE r es v
 | [],u,t,hu,h=>by cases h;exact hu
 | x :: w,u,t,hu,⟨q,h2,h3⟩=>by
  refine bfs_reach hf h0 h1 ?_ h3;obtain ⟨p,hp,rfl⟩:=List.mem_map.1 hu;have hr:=(h2.rng hf.gr.all)
  have hx:x∈lets r.toNat:=mem_lets.2 (by have:=hf.gr.rank;omega);have hn:=nextV_sp hf h2;have:=bfs_closed (L:=lets r.toNat) hf.gr.all h0 h1 hf.gr.size.2 hp hx (by omega)
  rwa [hn] at this
theorem ordE_self (r:Int) (es:List Ed) (v:Int):v∈ordE r es v:=by
 have h:(v,[])∈bfs es (lets r.toNat) v:=by
  have h1:=bfsSt_pre' es (lets r.toNat) v 0 41;rw [Nat.zero_add] at h1;exact h1.subset (by simp [bfsSt])
 exact List.mem_map.2 ⟨_,h,rfl⟩
theorem ordE_head (r:Int) (es:List Ed) (v:Int):(ordE r es v)[0]?=some v:=by
 have h1:=bfsSt_pre' es (lets r.toNat) v 0 41;rw [Nat.zero_add] at h1;have h2:(bfsSt es (lets r.toNat) v 0)[0]?=some (v,[]):=by simp [bfsSt]
 have h3:=prefix_get h1 h2;unfold ordE bfs;rw [List.getElem?_map,h3]
 rfl
theorem bfs_iso {es es':List Ed} {L:List Int} {v:Int} {f:Int→Int} {R:Int→Prop} (hv:R v) (hcl:∀ u,R u→∀ x∈L,0≤nextV es u x→R (nextV es u x))
  (hn:∀ u,R u→∀ x∈L,nextV es u x < 0→nextV es' (f u) x < 0) (hp:∀ u,R u→∀ x∈L,0≤nextV es u x→nextV es' (f u) x=f (nextV es u x)∧0≤f (nextV es u x))
  (hi:∀ u t,R u→R t→f u=f t→u=t):bfs es' L (f v)=(bfs es L v).map fun p=>(f p.1,p.2):=by
 have hstep:∀ (x:Int) (p:Int × List Int) (st:BS),x∈L→R p.1→(∀ q∈st,R q.1)→bfsStep es' (f p.1) p.2 (st.map fun p=>(f p.1,p.2)) x=(bfsStep es p.1 p.2 st x).map (fun p=>(f p.1,p.2))∧∀ q∈bfsStep es p.1 p.2 st x,R q.1:=by
  intro x p st hx hpR hst;unfold bfsStep;by_cases hneg:nextV es p.1 x < 0
  ·rw [if_pos (.inl (hn p.1 hpR x hx hneg)),if_pos (.inl hneg)]
   exact ⟨rfl,hst⟩
  ·have h1:=hp p.1 hpR x hx (by omega)
   have hR:=hcl p.1 hpR x hx (by omega);have hmem:nextV es' (f p.1) x∈(st.map fun p=>(f p.1,p.2)).map Prod.fst↔nextV es p.1 x∈st.map Prod.fst:=by
    rw [h1.1,List.map_map];constructor
    ·intro h
     obtain ⟨q,hq,e⟩:=List.mem_map.1 h;exact List.mem_map.2 ⟨q,hq,hi _ _ (hst q hq) hR e⟩
    ·intro h
     obtain ⟨q,hq,e⟩:=List.mem_map.1 h;exact List.mem_map.2 ⟨q,hq,by rw [Function.comp_apply,e]⟩
   by_cases hin:nextV es p.1 x∈st.map Prod.fst
   ·rw [if_pos (.inr (hmem.2 hin)),if_pos (.inr hin)]
    exact ⟨rfl,hst⟩
   ·rw [if_neg (fun h=>h.elim (fun h=>by omega) (fun h=>hin (hmem.1 h))),if_neg (fun h=>h.elim (fun h=>by omega) hin),List.map_append,h1.1]
    refine ⟨rfl,fun q hq=>?_⟩;rcases List.mem_append.1 hq with hq | hq
    ·exact hst q hq
    ·rw [List.mem_singleton] at hq
     subst hq;exact hR
 have hrow:∀ (K:List Int) (p:Int × List Int) (st:BS),(∀ x∈K,x∈L)→R p.1→(∀ q∈st,R q.1)→bfsRow es' K (f p.1,p.2) (st.map fun p=>(f p.1,p.2))=(bfsRow es K p st).map (fun p=>(f p.1,p.2))∧∀ q∈bfsRow es K p st,R q.1:=by
  intro K
  induction K with
  | nil=>exact fun p st _ _ h=>⟨rfl,h⟩
  | cons x K ih =>
   intro p st hK hpR hst;obtain ⟨h1,h2⟩:=hstep x p st (hK x List.mem_cons_self) hpR hst;have h3:=ih p (bfsStep es p.1 p.2 st x) (fun y hy=>hK y (List.mem_cons_of_mem _ hy)) hpR h2;refine ⟨?_,h3.2⟩
   show bfsRow es' K (f p.1,p.2) (bfsStep es' (f p.1) p.2 (st.map fun p=>(f p.1,p.2)) x)=_
   rw [h1];exact h3.1
 have hst:∀ i,bfsSt es' L (f v) i=(bfsSt es L v i).map (fun p=>(f p.1,p.2))∧∀ q∈bfsSt es L v i,R q.1:=by
  intro i
  induction i with
  | zero =>
   refine ⟨rfl,fun q hq=>?_⟩;simp [bfsSt] at hq;subst hq;exact hv
  | succ i ih =>
   cases hq:(bfsSt es L v i)[i]? with
   | none =>
    have e1:bfsSt es L v (i+1)=bfsSt es L v i:=by simp [bfsSt,hq]
    have e2:bfsSt es' L (f v) (i+1)=bfsSt es' L (f v) i:=by
     have:(bfsSt es' L (f v) i)[i]?=none:=by rw [ih.1,List.getElem?_map,hq];rfl
     simp [bfsSt,this]
    rw [e1,e2];exact ih
   | some p =>
    have e1:bfsSt es L v (i+1)=bfsRow es L p (bfsSt es L v i):=by simp [bfsSt,hq]
    have e2:bfsSt es' L (f v) (i+1)=bfsRow es' L (f p.1,p.2) (bfsSt es' L (f v) i):=by
     have:(bfsSt es' L (f v) i)[i]?=some (f p.1,p.2):=by rw [ih.1,List.getElem?_map,hq];rfl
     simp [bfsSt,this]
    rw [e1,e2,ih.1];exact hrow L p _ (fun x hx=>hx) (ih.2 p (List.mem_of_getElem? hq)) ih.2
 exact (hst 41).1
end Go.Proofs.YthampgpcajmopaaGreat
