/- Lemmas. -/
import Derived.Test.YtkimajabegojoaaGreatMt5
import Derived.ChangeAlike
import Derived.Test.YtkimajabegojoaaGreatMt2
import Derived.Test.YtkimajabegojoaaGreatMt4
import Derived.Test.YtkimajabegojoaaGreatMt3
namespace Go.Proofs.YtkimajabegojoaaGreat
set_option linter.unusedVariables false
set_option linter.unusedSimpArgs false
set_option maxHeartbeats 40000000
set_option maxRecDepth 100000
open Go.RowKit
section
open Go.RowKit
attribute [local go_sem ↓] Go.wp_at_zero Go.wp_at_succ
def aME(es:List Ed)(p:Int × Int)(b:Bool):Prop:=(b=false/\aBU es=[]/\p=(0,0)) \/ (b=true/\∃ t,aBU es=p::t)
theorem aJr(r s:Int)(A:Option Addr)(es:List Ed)(c:Nat)(w:World)(lo hi:Nat)(hr:RG w lo hi A es)(hcl:es.length<=c)(hg:IsGr r s es)(p:Int × Int)(b:Bool)(hp:aME es p b) :
  Calls Tryz.prog 259 #[aAw r s A es.length c] w fun e w'=>e=.returned (.tuple #[.agg #[.int .i64 p.1,.int .i64 p.2],.bool b])/\Mid 0 0 w w':=by
 have hl:=hg.len;have HG:=oH hg;have hm0:Mid 0 0 w ((w.alloc (.cells #[.int .i64 r,.int .i64 s,.slice A es.length c] 35)).alloc (.cells #[.int .i64 0,.int .i64 0] 179)):=(Mid.alloc _ _).trans (Mid.alloc _ _);have b0:=(Box.new w #[.int .i64 r,.int .i64 s,.slice A es.length c] 35).mid (Mid.alloc _ (.cells #[.int .i64 0,.int .i64 0] 179)) oZr;have b2:=Box.new (w.alloc (.cells #[.int .i64 r,.int .i64 s,.slice A es.length c] 35)) #[.int .i64 0,.int .i64 0] 179;rw[World.size_alloc] at b2;clear hg;obtain⟨p1,p2⟩:=p;go_enter Tryz.func259,Tryz.ntmps259
 go_wp2_with fail;with_reducible refine(aCj r s A es c _ _ _ (hr.mid hm0 oZl).rv (by omega) true (iff_of_true rfl HG.out)).mono ?_
 rintro en w1 ⟨rfl,hm1⟩;replace b0:=b0.mid hm1 oZr;replace b2:=b2.mid hm1 oZr;replace hm0:=hm0.trans hm1;obtain⟨q0,q1,q2⟩:=b0.c3 rfl;go_wp2_with fail;with_reducible refine(aPc r s A es c _ _ _ (hr.mid hm0 oZl) hl hcl).mono ?_
 rintro en w2 ⟨A2,c2,rfl,hrv,hm2⟩;replace b2:=b2.mid hm2 oZr;replace hm0:=hm0.trans hm2;have zf:=b2.2.2;have z0:=b2.cell 0 rfl;have z1:=b2.cell 1 rfl;clear q0 q1 q2 hm1 hm2;rcases hp with⟨rfl,hn,hpp⟩|⟨rfl,t,ht⟩
 .injection hpp with h1 h2
  subst h1 h2;have hn0:(aBU es).length=0:=by rw[hn];rfl
  clear hn;go_wp2_with fail;refine bodyPost_ret (v:=.tuple #[.agg #[.int .i64 0,.int .i64 0],.bool false]) (by simp[results,Tryz.results259,go_sem,z0,z1,zf]) rfl ⟨rfl,?_⟩;repeat (first|exact hm0|refine Mid.storeNew ?_ (by simp;try omega) _)
 obtain⟨nl,hnl⟩:∃ nl,(aBU es).length=nl+1:=⟨t.length,by rw[ht];rfl⟩
 obtain⟨g,off,rfl, -, -,hc⟩:=hrv.2 (by rw[ht];simp[aFr,aAd]);have y0:=hc 0 (.int .i64 p1) (by rw[ht];simp[aFr,aAd]);have y1:=hc 1 (.int .i64 p2) (by rw[ht];simp[aFr,aAd]);rw[Nat.add_zero] at y0;have hd:((nl+1:Nat) == 0)=false:=by simp
 rw[hnl];have h1:(0:Int)<((nl+1:Nat):Int):=by omega
 clear hc ht hrv hnl;go_wp2_with fail;refine bodyPost_ret (v:=.tuple #[.agg #[.int .i64 p1,.int .i64 p2],.bool true]) (by simp[results,Tryz.results259,go_sem,z0,z1,zf]) rfl ⟨rfl,?_⟩;repeat (first|exact hm0|refine Mid.storeNew ?_ (by simp;try omega) _)
theorem aJN(B:Nat)(p1 p2 v:Int)(w:World)(hc:w.cell? ⟨B,0,none⟩=some (.int .i64 p1))(hc1:w.cell? ⟨B,1,none⟩=some (.int .i64 p2))(h3:0<=v)(h4:v<40) :
  Calls Tryz.prog 277 #[.int .i64 v,.pointer (some ⟨B,0,none⟩)] w fun e w'=>e=.returned (.int .i64 (aBI (p1,p2) v))/\w'=w:=by
 by_cases h0:v=p2
 .have hv:aBI (p1,p2) v=p1:=by simp[aBI,h0]
  have hb:(v == p2)=true:=by simpa using h0
  rw[hv];clear hv h0;go_enter Tryz.func277,Tryz.ntmps277
  go_wp2_with fail;go_ret;exact⟨rfl,rfl⟩
 have hb:(v == p2)=false:=by simpa only[beq_eq_false_iff_ne] using h0
 by_cases h1:p2<v
 .have hv:aBI (p1,p2) v=v - 1:=by simp[aBI,h0,h1]
  have hd:decide (p2<v)=true:=by simpa using h1
  rw[hv];clear hv h0;go_enter Tryz.func277,Tryz.ntmps277
  go_wp2_with fail;go_ret;exact⟨rfl,rfl⟩
 have hv:aBI (p1,p2) v=v:=by simp[aBI,h0,h1]
 have hd:decide (p2<v)=false:=by simpa using h1
 rw[hv];clear hv h0;go_enter Tryz.func277,Tryz.ntmps277
 go_wp2_with fail;go_ret;exact⟨rfl,rfl⟩
end
section
open Go.RowKit
attribute [local go_sem ↓] Go.wp_at_zero Go.wp_at_succ
theorem aSp{es:List Ed}{f:Ed->Ed}{k:Nat}{e:Ed}(h:es[k]?=some e):((es.take k).map f++es.drop k).set k (f e)=(es.take (k+1)).map f++es.drop (k+1):=by
 obtain⟨hk,h'⟩:=List.getElem?_eq_some_iff.1 h;have hl:((es.take k).map f).length=k:=by rw[List.length_map,List.length_take];omega
 rw[List.drop_eq_getElem_cons hk,h',List.set_append_right _ _ (by omega),hl,Nat.sub_self,List.set_cons_zero,aAV h,List.map_append];simp
theorem aSo{es:List Ed}{f:Ed->Ed}{k:Nat}{e:Ed}(h:es[k]?=some e):((es.take k).map f++es.drop k)[k]?=some e:=by
 obtain⟨hk,h'⟩:=List.getElem?_eq_some_iff.1 h;have hl:((es.take k).map f).length=k:=by rw[List.length_map,List.length_take];omega
 rw[List.getElem?_append_right (by omega),hl,Nat.sub_self,List.getElem?_drop,Nat.add_zero,h]
theorem aGG(r s:Int)(A:Option Addr)(es:List Ed)(c:Nat)(p1 p2:Int)(w:World)(lo hi:Nat)(hr:RG w lo hi A es)(hg:IsGr r s es)(h0:0<=p1)(h1:p1<p2)(h2:p2<s) :
  Calls Tryz.prog 260 #[aAw r s A es.length c,.agg #[.int .i64 p1,.int .i64 p2]] w fun e w'=>∃ A1 c1,e=.returned (.tuple #[aAw r (s - 1) A1 (aBY (p1,p2) es).length c1,.bool true])/\OG w' w.heap.size w'.heap.size A1 c1 (aBY (p1,p2) es)/\Mid 0 0 w w':=by
 have hl:=hg.len;have hs40:=hg.size;have HG:=oH hg;have hm0:Mid 0 0 w (((w.alloc (.cells #[.int .i64 r,.int .i64 s,.slice A es.length c] 35)).alloc (.cells #[.int .i64 p1,.int .i64 p2] 179)).alloc (.cells #[.int .i64 0,.int .i64 0,.slice none 0 0] 35)):=((Mid.alloc _ _).trans (Mid.alloc _ _)).trans (Mid.alloc _ _);have b0:=((Box.new w #[.int .i64 r,.int .i64 s,.slice A es.length c] 35).mid (Mid.alloc _ (.cells #[.int .i64 p1,.int .i64 p2] 179)) oZr).mid (Mid.alloc _ (.cells #[.int .i64 0,.int .i64 0,.slice none 0 0] 35)) oZr;have bf:=(Box.new (w.alloc (.cells #[.int .i64 r,.int .i64 s,.slice A es.length c] 35)) #[.int .i64 p1,.int .i64 p2] 179).mid (Mid.alloc _ (.cells #[.int .i64 0,.int .i64 0,.slice none 0 0] 35)) oZr;have b2:=Box.new ((w.alloc (.cells #[.int .i64 r,.int .i64 s,.slice A es.length c] 35)).alloc (.cells #[.int .i64 p1,.int .i64 p2] 179)) #[.int .i64 0,.int .i64 0,.slice none 0 0] 35;simp only[World.size_alloc,Nat.add_assoc,Nat.reduceAdd] at bf b2;have d1:decide (p1<0)=false:=by simp;omega
 have d2:decide (p2<=p1)=false:=by simp;omega
 have d3:decide (s<=p2)=false:=by simp;omega
 clear hg;go_enter Tryz.func260,Tryz.ntmps260
 go_wp2_with fail;generalize hw1:(((w.alloc (.cells #[.int .i64 r,.int .i64 s,.slice A es.length c] 35)).alloc (.cells #[.int .i64 p1,.int .i64 p2] 179)).alloc (.cells #[.int .i64 0,.int .i64 0,.slice none 0 0] 35))=w1 at hm0 b0 bf b2 |-;clear hw1;with_reducible refine(aAS r s A es c _ _ _ (hr.mid hm0 oZl) (by omega)).mono ?_
 rintro en w2 ⟨A1,c1,rfl,ho,hm2⟩;have hs2:w.heap.size+2<w1.heap.size:=b2.1;replace b0:=b0.mid hm2 oZr;replace bf:=bf.mid hm2 oZr;replace b2:=b2.mid hm2 oZr;replace hm0:=hm0.trans hm2;have hsz2:=hm2.size;have hown0:=aAp (base':=w.heap.size+3) ho.ov.2.1 hs2;have hbk0:Value.ownBlock (.slice A1 es.length c1)≠some w2.heap.size:=fun h=>by have:=ho.ov.2.2 _ h;omega
 have hal:=Mid.alloc w2 (.cells #[.int .i64 r,.int .i64 s,.slice A1 es.length c1] 35);have Y3:=Box.new w2 #[.int .i64 r,.int .i64 s,.slice A1 es.length c1] 35;have hbs0:=b0.1;obtain⟨u0,u1,u2⟩:=b0.c3 rfl;replace b0:=b0.mid hal oZr;replace bf:=bf.mid hal oZr;replace b2:=b2.mid hal oZr;replace hown0:=aAc hown0 hal oZl;replace hm0:=hm0.trans hal;go_wp2_with fail;clear u0 u1 u2;generalize hw3:w2.alloc (.cells #[.int .i64 r,.int .i64 s,.slice A1 es.length c1] 35)=w3 at Y3 b0 bf b2 hown0 hm0 |-;have hs3:w3.heap.size=w2.heap.size+1:=by rw[<- hw3];simp
 obtain⟨G,hG⟩:∃ G,w2.heap.size=G:=⟨_,rfl⟩
 rw[hG] at Y3 hbk0 hsz2 hbs0 hs3 |-;clear hw3 hal hm2 ho hG;with_reducible refine(aCj r s A es c _ _ _ (hr.mid hm0 oZl).rv (by omega) true (iff_of_true rfl HG.out)).mono ?_
 rintro en w4 ⟨rfl,hm4⟩;replace b0:=b0.mid hm4 oZr;replace bf:=bf.mid hm4 oZr;replace b2:=b2.mid hm4 oZr;replace Y3:=Y3.mid hm4 oZr;replace hown0:=aAc hown0 hm4 oZl;replace hm0:=hm0.trans hm4;have hGw:w.heap.size+3<=G:=by omega
 clear hm4 hs3 hsz2 hs2 hbs0;obtain⟨q0,q1,q2⟩:=b0.c3 rfl;have k0:=bf.cell 0 rfl;have k1:=bf.cell 1 rfl;obtain⟨y0,y1,y2⟩:=Y3.c3 rfl;go_wp2_with fail;clear q0 q1 q2 k0 k1 y0 y1 y2;have HBK:=oH hbk0;clear hbk0 b0;go_loopw [39] (fun i wr=>∃ k:Nat,k<=es.length/\i=.int .i64 k/\wr.ownsRow (w.heap.size+3) 110 3 (.slice A1 es.length c1) es.length (aAd (edI ((es.take k).map (aEd (p1,p2))++es.drop k))) /\
   Box wr (w.heap.size+1) [.int .i64 p1,.int .i64 p2]/\Box wr (w.heap.size+2) [.int .i64 0,.int .i64 0,.slice none 0 0]/\Box wr G [.int .i64 r,.int .i64 s,.slice A1 es.length c1]/\Mid 0 0 w wr) (fun i _=>es.length - (intOf i).toNat)
 case atStart=>exact⟨0,oZ,rfl,by simpa using hown0,bf,b2,Y3,hm0⟩
 clear hown0 bf b2 Y3 hm0;obtain⟨k,hk,rfl,hown,bf,b2,Y3,hm⟩:=hrel;by_cases hlt:k<es.length
 .obtain⟨g,rfl,hg1,hg2⟩:=aAU hown (by omega)
  obtain⟨e,he⟩:=aAs es hlt;have hmh:=aSo (f:=aEd (p1,p2)) he;obtain⟨e0,e1,e2⟩:=aGn hown hmh;have hin:=HG.out.all e (List.mem_of_getElem? he);obtain⟨i1,i2,i3,i4,i5,i6⟩:=hin;have HE:=oH he;have hgG:g≠G:=fun h=>HBK.out (by rw[h];rfl);have hk0:(0:Int)<=(k:Int):=by omega
  have hk1:(k:Int)<(es.length:Int):=by omega
  have hal:=Mid.alloc wr (.cells #[.int .i64 e.a,.int .i64 e.l,.int .i64 e.b] 110);have ZE:=Box.new wr #[.int .i64 e.a,.int .i64 e.l,.int .i64 e.b] 110;have hGr:G<wr.heap.size:=Y3.1;replace bf:=bf.mid hal oZr;replace b2:=b2.mid hal oZr;replace Y3:=Y3.mid hal oZr;replace hown:=aAc hown hal oZl;replace hm:=hm.trans hal;clear he;go_wp2_with fail;clear e0 e1 e2;generalize hwx:wr.alloc (.cells #[.int .i64 e.a,.int .i64 e.l,.int .i64 e.b] 110)=wx at ZE bf b2 Y3 hown hm |-;generalize hgE:wr.heap.size=E at ZE hg2 hGr |-;clear hgE hwx hal;have hmd:=Mid.drew1 wx;replace bf:=bf.mid hmd oZr;replace b2:=b2.mid hmd oZr;replace Y3:=Y3.mid hmd oZr;replace ZE:=ZE.mid hmd oZr;replace hown:=aAc hown hmd oZl;replace hm:=hm.trans hmd;obtain⟨c0',c1',c2'⟩:=aGn hown hmh;have hfz:=fun i=>hown.frozenAt i;obtain⟨f0,f1,f2⟩:=ZE.c3 rfl;have g2:=Y3.cell 2 rfl;have k0:=bf.cell 0 rfl;have k1:=bf.cell 1 rfl;obtain⟨x,hx⟩:∃ x,aBI (p1,p2) e.a=x:=⟨_,rfl⟩
  obtain⟨y,hy⟩:∃ y,aBI (p1,p2) e.b=y:=⟨_,rfl⟩
  have hFE:Hid (aEd (p1,p2) e=⟨x,e.l,y⟩):=oH (by simp[aEd,hx,hy]);have hP1:=aJN (w.heap.size+1) p1 p2 e.a _ k0 k1 i1 (by omega);have hP2:=aJN (w.heap.size+1) p1 p2 e.b _ k0 k1 i3 (by omega);rw[hx] at hP1;rw[hy] at hP2;clear hx hy hmd;refine aAB (S:=(fun w'=>w'.cell? ⟨E,0,none⟩=some (.int .i64 e.a)/\w'.cell? ⟨E,1,none⟩=some (.int .i64 e.l)/\w'.cell? ⟨E,2,none⟩=some (.int .i64 e.b)/\w'.cell? ⟨G,2,none⟩=some (.slice (some ⟨g,0,none⟩) es.length c1))) 15 (by kernel_rfl) ⟨f0,f1,f2,g2⟩ ?_;generalize World.drew wx=wz at bf b2 Y3 ZE hown hm f0 f1 f2 g2 k0 k1 hP1 hP2 c0' c1' c2' hfz |-;have hS:wz.cell? ⟨E,0,none⟩=some (.int .i64 e.a)/\wz.cell? ⟨E,1,none⟩=some (.int .i64 e.l)/\wz.cell? ⟨E,2,none⟩=some (.int .i64 e.b)/\wz.cell? ⟨G,2,none⟩=some (.slice (some ⟨g,0,none⟩) es.length c1):=⟨f0,f1,f2,g2⟩
  refine tkT 0 rfl hS ?_;try simp only[oP]
  refine tkT 1 rfl hS ?_;try simp only[oP]
  refine tkT 2 rfl hS ?_;try simp only[oP]
  refine tkT 3 rfl hS ?_;try simp only[oP]
  refine tkT 4 rfl hS ?_;try simp only[oP]
  refine tkT 5 rfl hS ?_;try simp only[oP]
  refine tkT 7 rfl hS ?_;try simp only[oP]
  refine tkT 8 rfl hS ?_;try simp only[oP]
  refine tkT 9 rfl hS ?_;try simp only[oP]
  refine tkT 10 rfl hS ?_;try simp only[oP]
  refine tkT 11 rfl hS ?_;try simp only[oP]
  refine rdT 6 rfl (fun K hK=>?_)
  (go_simp;refine hP1.mono ?_;rintro _ w' ⟨rfl,h⟩;obtain rfl:=h.symm;go_wp2_with fail)
  refine hK.out _ _ (Or.inr hS) (fun _=>?_);clear hK K;try simp only[oP]
  refine rdT 12 rfl (fun K hK=>?_)
  (go_simp;refine hP2.mono ?_;rintro _ w' ⟨rfl,h⟩;obtain rfl:=h.symm;go_wp2_with fail)
  refine hK.out _ _ (Or.inr hS) (fun _=>?_);clear hK K;try simp only[oP]
  refine tkT 13 rfl hS ?_;try simp only[oP]
  refine tkT 14 rfl hS ?_;try simp only[oP]
  clear hP1 hP2;refine rdT 15 rfl (fun K hK=>?_)
  (go_simp)
  refine hK.out _ _ (Or.inl rfl) (fun _=>?_);clear hK K;try simp only[oP]
  refine aAE (by kernel_rfl) ?_ _;go_wp2_with fail;go_roundw
  case rel=>
   have h1:=aMf hown (k:=k) (aEd (p1,p2) e) (by rw[List.length_append,List.length_map,List.length_take,List.length_drop];omega);rw[aSp HE.out,hFE.out] at h1;have hst:=(Mid.setAt wz g (k * 3) (.int .i64 x)).trans ((Mid.setAt (wz.setCell ⟨g,k * 3,none⟩ (.int .i64 x)) g (k * 3+1) (.int .i64 e.l)).trans (Mid.setAt ((wz.setCell ⟨g,k * 3,none⟩ (.int .i64 x)).setCell ⟨g,k * 3+1,none⟩ (.int .i64 e.l)) g (k * 3+2) (.int .i64 y)));exact⟨k+1,by omega,by go_num,h1,bf.mid hst (Or.inl (by omega)),b2.mid hst (Or.inl (by omega)),Y3.mid hst (by omega),((hm.storeNew (by show w.heap.size<=g;omega) _).storeNew (by show w.heap.size<=g;omega) _).storeNew (by show w.heap.size<=g;omega) _⟩
  simp[intOf];omega
 obtain rfl:k=es.length:=by omega
 rw[List.take_length,List.drop_length,List.append_nil] at hown;have hml:(es.map (aEd (p1,p2))).length=es.length:=List.length_map _;have hrg:RG wr (w.heap.size+3) wr.heap.size A1 (es.map (aEd (p1,p2))):=aAy hown;have hGr:G<wr.heap.size:=Y3.1;have hb2s:=b2.1;have z2:=Y3.cell 2 rfl;have HML:=oH hml;clear hml;go_wp2_with fail;with_reducible refine(aCk A1 (es.map (aEd (p1,p2))) es.length c1 _ _ _ HML.out hrg (by omega)).mono ?_
 rintro en w6 ⟨A4,c4,rfl,ho6,hm6⟩;replace b2:=b2.mid hm6 oZr;replace Y3:=Y3.mid hm6 oZr;replace hm:=hm.trans hm6;have hsz6:=hm6.size;clear z2;obtain⟨a0,a1,a2⟩:=b2.c3 rfl;obtain⟨x0,x1,x2⟩:=Y3.c3 rfl;have af:=b2.2.2;have xf:=Y3.2.2;have hcl:¬ w.heap.size+2=G:=by omega
 have hcl2:¬ G=w.heap.size+2:=by omega
 obtain⟨ms,hms⟩:∃ ms,canon (es.map (aEd (p1,p2)))=ms:=⟨_,rfl⟩
 rw[hms] at ho6 |-;have HMS:=oH (show aBY (p1,p2) es=ms from hms);clear hms;go_wp2_with fail;have hcl3:(w.heap.size+2 == G)=false:=by simpa using hcl
 refine bodyPost_ret (v:=.tuple #[.agg #[.int .i64 r,.int .i64 (s - 1),.slice A4 ms.length c4],.bool true]) (by simp[results,Tryz.results260,go_sem,a0,a1,a2,x0,x1,x2,af,xf,hcl]) rfl ⟨A4,c4,by rw[HMS.out],?_,?_⟩
 .rw[HMS.out]
  refine OG.wide (OG.mid ho6 (a:=w.heap.size) (b:=G+1) ?_ (Or.inl hGr)) (by omega) (by simp) oN;repeat (first|exact Mid.refl _ _ _|refine Mid.stored ?_ _ (by simp;try omega) (by simp;try omega))
 repeat (first|exact hm|refine Mid.storeNew ?_ (by simp;try omega) _)
end
def OnceIs(s:Int)(es:List Ed)(p:Int × Int)(b:Bool)(rs:Int)(res:List Ed):Prop:=
 (b=false/\aBU es=[]/\p=(0,0)/\rs=s/\res=es) \/ (b=true/\(∃ t,aBU es=p::t)/\rs=s - 1/\res=aBY p es)
theorem OnceIs.first{s:Int}{es:List Ed}{p:Int × Int}{b:Bool}{rs:Int}{res:List Ed}(h:OnceIs s es p b rs res):aME es p b:=by
 rcases h with⟨h1,h2,h3, -⟩|⟨h1,h2, -⟩
 .exact .inl ⟨h1,h2,h3⟩
 exact .inr ⟨h1,h2⟩
theorem OnceIs.ex(s:Int)(es:List Ed):∃ p b rs res,OnceIs s es p b rs res:=by
 cases h:aBU es with
|nil=>exact⟨(0,0),false,s,es,.inl ⟨rfl,h,rfl,rfl,rfl⟩⟩
|cons p t=>exact⟨p,true,s - 1,aBY p es,.inr ⟨rfl,⟨t,h⟩,rfl,rfl⟩⟩
theorem aKE(r s:Int)(A:Option Addr)(es:List Ed)(c:Nat)(w:World)(lo hi:Nat)(hr:RG w lo hi A es)(hcl:es.length<=c)(hg:IsGr r s es)(p:Int × Int)(b:Bool)(rs:Int)(res:List Ed)(hp:OnceIs s es p b rs res) :
  Calls Tryz.prog 240 #[aAw r s A es.length c] w fun e w'=>∃ A1 c1,e=.returned (.tuple #[aAw r rs A1 res.length c1,.agg #[.int .i64 p.1,.int .i64 p.2],.bool b])/\OG w' w.heap.size w'.heap.size A1 c1 res/\Mid 0 0 w w':=by
 have hl:=hg.len;have HG:=oH hg;have hm0:Mid 0 0 w (((w.alloc (.cells #[.int .i64 r,.int .i64 s,.slice A es.length c] 35)).alloc (.cells #[.int .i64 0,.int .i64 0,.slice none 0 0] 35)).alloc (.cells #[.int .i64 0,.int .i64 0] 179)):=((Mid.alloc _ _).trans (Mid.alloc _ _)).trans (Mid.alloc _ _);have b0:=((Box.new w #[.int .i64 r,.int .i64 s,.slice A es.length c] 35).mid (Mid.alloc _ (.cells #[.int .i64 0,.int .i64 0,.slice none 0 0] 35)) oZr).mid (Mid.alloc _ (.cells #[.int .i64 0,.int .i64 0] 179)) oZr;have b2:=(Box.new (w.alloc (.cells #[.int .i64 r,.int .i64 s,.slice A es.length c] 35)) #[.int .i64 0,.int .i64 0,.slice none 0 0] 35).mid (Mid.alloc _ (.cells #[.int .i64 0,.int .i64 0] 179)) oZr;have b3:=Box.new ((w.alloc (.cells #[.int .i64 r,.int .i64 s,.slice A es.length c] 35)).alloc (.cells #[.int .i64 0,.int .i64 0,.slice none 0 0] 35)) #[.int .i64 0,.int .i64 0] 179;simp only[World.size_alloc,Nat.add_assoc,Nat.reduceAdd] at b2 b3;have hF:=hp.first
 have HF:=oH hF;clear hg hF;obtain⟨p1,p2⟩:=p;go_enter Tryz.func240,Tryz.ntmps240
 go_wp2_with fail;generalize hw1:(((w.alloc (.cells #[.int .i64 r,.int .i64 s,.slice A es.length c] 35)).alloc (.cells #[.int .i64 0,.int .i64 0,.slice none 0 0] 35)).alloc (.cells #[.int .i64 0,.int .i64 0] 179))=w1 at hm0 b0 b2 b3 |-;clear hw1;with_reducible refine(aJr r s A es c _ _ _ (hr.mid hm0 oZl) hcl HG.out (p1,p2) b HF.out).mono ?_
 rintro en w2 ⟨rfl,hm2⟩;replace b0:=b0.mid hm2 oZr;replace b2:=b2.mid hm2 oZr;replace b3:=b3.mid hm2 oZr;replace hm0:=hm0.trans hm2;have hbs0:=b0.1;have hbs2:=b2.1;have hbs3:=b3.1;obtain⟨u0,u1,u2⟩:=b0.c3 rfl;have hal:=Mid.alloc w2 (.cells #[.int .i64 p1,.int .i64 p2] 179);have bf:=Box.new w2 #[.int .i64 p1,.int .i64 p2] 179;replace b0:=b0.mid hal oZr;replace b2:=b2.mid hal oZr;replace b3:=b3.mid hal oZr;replace hm0:=hm0.trans hal;clear hm2;rcases hp with⟨rfl,hn,hpp,rfl,rfl⟩|⟨rfl,⟨t,ht⟩,rfl,hres⟩
 .injection hpp with h1 h2
  subst h1 h2;clear hn;go_wp2_with fail;clear u0 u1 u2;generalize hw3:w2.alloc (.cells #[.int .i64 0,.int .i64 0] 179)=w3 at b0 b2 b3 bf hm0 |-;clear hw3 hal;with_reducible refine(aAS r rs A res c _ _ _ (hr.mid hm0 oZl) (by omega)).mono ?_
  rintro en w4 ⟨A4,c4,rfl,hog,hm4⟩;have hs3:w.heap.size+3<=w3.heap.size:=b3.1;replace b2:=b2.mid hm4 oZr;replace b3:=b3.mid hm4 oZr;replace hm0:=hm0.trans hm4;obtain⟨a0,a1,a2⟩:=b2.c3 rfl;have x0:=b3.cell 0 rfl;have x1:=b3.cell 1 rfl;have af:=b2.2.2;have xf:=b3.2.2;go_wp2_with fail;refine bodyPost_ret (v:=.tuple #[.agg #[.int .i64 r,.int .i64 rs,.slice A4 res.length c4],.agg #[.int .i64 0,.int .i64 0],.bool false]) (by simp[results,Tryz.results240,go_sem,a0,a1,a2,x0,x1,af,xf]) rfl ⟨A4,c4,rfl,?_,?_⟩
  .refine OG.wide (OG.mid hog (a:=w.heap.size+1) (b:=w.heap.size+3) ?_ (Or.inl (by omega))) (by omega) (by simp) oN
   repeat (first|exact Mid.refl _ _ _|refine Mid.stored ?_ _ (by simp;try omega) (by simp;try omega))
  repeat (first|exact hm0|refine Mid.storeNew ?_ (by simp;try omega) _)
 obtain⟨k1,k2,k3⟩:=aDu HG.out.all HG.out.asc (p:=(p1,p2)) (by rw[ht];simp);simp only at k1 k2 k3;have HRES:=oH hres;clear ht hres;have y0:=bf.cell 0 rfl;have y1:=bf.cell 1 rfl;go_wp2_with fail;clear u0 u1 u2 y0 y1;generalize hw3:w2.alloc (.cells #[.int .i64 p1,.int .i64 p2] 179)=w3 at b0 b2 b3 bf hm0 |-;have hs3:w3.heap.size=w2.heap.size+1:=by rw[<- hw3];simp
 clear hw3 hal;obtain⟨F,hF⟩:∃ F,w2.heap.size=F:=⟨_,rfl⟩
 rw[hF] at bf hs3 hbs0 hbs2 hbs3 |-;clear hF;with_reducible refine(aGG r s A es c p1 p2 _ _ _ (hr.mid hm0 oZl) HG.out k1 k2 k3).mono ?_
 rintro en w4 ⟨A4,c4,rfl,hog,hm4⟩;rw[<- HRES.out] at hog |-;have hsz4:=hm4.size;replace b2:=b2.mid hm4 oZr;replace b3:=b3.mid hm4 oZr;replace bf:=bf.mid hm4 oZr;replace hm0:=hm0.trans hm4;have hal4:=Mid.alloc w4 (.cells #[.int .i64 r,.int .i64 (s - 1),.slice A4 res.length c4] 35);have bg:=Box.new w4 #[.int .i64 r,.int .i64 (s - 1),.slice A4 res.length c4] 35;replace b2:=b2.mid hal4 oZr;replace b3:=b3.mid hal4 oZr;replace bf:=bf.mid hal4 oZr;replace hog:=hog.mid hal4 oZl;replace hm0:=hm0.trans hal4;go_wp2_with fail;generalize hw5:w4.alloc (.cells #[.int .i64 r,.int .i64 (s - 1),.slice A4 res.length c4] 35)=w5 at b2 b3 bf bg hog hm0 |-;have hs5:w5.heap.size=w4.heap.size+1:=by rw[<- hw5];simp
 clear hw5 hal4;obtain⟨H,hH⟩:∃ H,w4.heap.size=H:=⟨_,rfl⟩
 rw[hH] at bg hsz4 hs5 hog |-;clear hH;obtain⟨a0,a1,a2⟩:=b2.c3 rfl;have x0:=b3.cell 0 rfl;have x1:=b3.cell 1 rfl;have y0:=bf.cell 0 rfl;have y1:=bf.cell 1 rfl;obtain⟨z0,z1,z2⟩:=bg.c3 rfl;have af:=b2.2.2;have xf:=b3.2.2;have n1:¬ w.heap.size+1=H:=by omega
 have n2:¬ w.heap.size+2=H:=by omega
 have n3:¬ w.heap.size+1=F:=by omega
 have n4:¬ w.heap.size+2=F:=by omega
 have n5:¬ F=H:=by omega
 go_region
 go_wp2_with fail;refine bodyPost_ret (v:=.tuple #[.agg #[.int .i64 r,.int .i64 (s - 1),.slice A4 res.length c4],.agg #[.int .i64 p1,.int .i64 p2],.bool true]) (by simp[results,Tryz.results240,go_sem,a0,a1,a2,x0,x1,af,xf]) rfl ⟨A4,c4,rfl,?_,?_⟩
 .refine OG.wide (OG.mid hog (a:=w.heap.size+1) (b:=w.heap.size+3) ?_ (Or.inl (by omega))) (by omega) (by have:=hog.size;simp;omega) oN
  refine Mid.trans ?_ (Mid.drew1 _).zero;repeat (first|exact Mid.refl _ _ _|refine Mid.stored ?_ _ (by simp;try omega) (by simp;try omega))
 refine Mid.trans ?_ (Mid.drew1 _);repeat (first|exact hm0|refine Mid.storeNew ?_ (by simp;try omega) _)
theorem aLN(r:Int)(n:Nat)(A:Option Addr)(es:List Ed)(c:Nat)(w:World)(lo hi:Nat)(hr:RG w lo hi A es)(hg:IsGr r n es) :
  Calls Tryz.prog 195 #[aAw r n A es.length c] w fun e w'=>∃ A1 c1 Al nl cl,e=.returned (.tuple #[aAw r (aCR 40 ((n:Int),es)).1 A1 (aCR 40 ((n:Int),es)).2.length c1,.slice Al nl cl])/\OG w' w.heap.size w'.heap.size A1 c1 (aCR 40 ((n:Int),es)).2/\Mid 0 0 w w':=by
 have hn40:n<=40:=by have:=hg.size;omega
 have hl:=hg.len;have hm0:Mid 0 0 w ((w.alloc (.cells #[.int .i64 r,.int .i64 n,.slice A es.length c] 35)).alloc (.cells #[.int .i64 0,.int .i64 0,.slice none 0 0] 35)):=(Mid.alloc _ _).trans (Mid.alloc _ _);have b0:=(Box.new w #[.int .i64 r,.int .i64 n,.slice A es.length c] 35).mid (Mid.alloc _ (.cells #[.int .i64 0,.int .i64 0,.slice none 0 0] 35)) oZr;have b2:=Box.new (w.alloc (.cells #[.int .i64 r,.int .i64 n,.slice A es.length c] 35)) #[.int .i64 0,.int .i64 0,.slice none 0 0] 35;simp only[World.size_alloc] at b2;have HG:=oH hg;obtain⟨T,hT⟩:∃ T,aCR 40 ((n:Int),es)=T:=⟨_,rfl⟩
 rw[hT];have HT:=oH hT;clear hg hT;go_enter Tryz.func195,Tryz.ntmps195
 go_wp2_with fail;generalize hw1:((w.alloc (.cells #[.int .i64 r,.int .i64 n,.slice A es.length c] 35)).alloc (.cells #[.int .i64 0,.int .i64 0,.slice none 0 0] 35))=w1 at hm0 b0 b2 |-;clear hw1;with_reducible refine(aAS r n A es c _ _ _ (hr.mid hm0 oZl) (by omega)).mono ?_
 rintro en w2 ⟨A1,c1,rfl,ho,hm2⟩;have hs2:w.heap.size+1<w1.heap.size:=b2.1;replace b2:=b2.mid hm2 oZr;replace hm0:=hm0.trans hm2;have hsz2:=hm2.size;have hown0:=aAp (base':=w.heap.size+2) ho.ov.2.1 hs2;have hbk0:Value.ownBlock (.slice A1 es.length c1)≠some w2.heap.size:=fun h=>by have:=ho.ov.2.2 _ h;omega
 have hal:=(Mid.alloc w2 (.cells #[.int .i64 r,.int .i64 n,.slice A1 es.length c1] 35)).trans (Mid.alloc (w2.alloc (.cells #[.int .i64 r,.int .i64 n,.slice A1 es.length c1] 35)) (.cells #[] 179));have Y3:=(Box.new w2 #[.int .i64 r,.int .i64 n,.slice A1 es.length c1] 35).mid (Mid.alloc (w2.alloc (.cells #[.int .i64 r,.int .i64 n,.slice A1 es.length c1] 35)) (.cells #[] 179)) oZr;have O0:=aAi (w2.alloc (.cells #[.int .i64 r,.int .i64 n,.slice A1 es.length c1] 35)) 179 2;rw[World.size_alloc] at O0;replace b2:=b2.mid hal oZr;replace hown0:=aAc hown0 hal oZl;replace hm0:=hm0.trans hal;go_wp2_with fail;generalize hw3:(w2.alloc (.cells #[.int .i64 r,.int .i64 n,.slice A1 es.length c1] 35)).alloc (.cells #[] 179)=w3 at Y3 O0 b2 hown0 hm0 |-;obtain⟨G,hG⟩:∃ G,w2.heap.size=G:=⟨_,rfl⟩
 rw[hG] at Y3 O0 hbk0 hsz2 |-;have hGw:w.heap.size+2<=G:=by omega
 clear hw3 hal hm2 ho hG hsz2 hs2 b0;go_loopw [5] (fun l wr=>∃(m s:Nat) (es1:List Ed) (A2:Option Addr) (c2:Nat) (Al:Option Addr) (nl cl:Nat) (ps:List (Int × Int)),l=.slice Al nl cl/\nl+s<=40/\Hid (aCR m ((s:Int),es1)=T)/\s<=m/\Hid (IsGr r s es1)/\wr.ownsRow (G+1) 179 2 (.slice Al nl cl) nl (aAd (fdI ps)) /\
   Hid (wr.ownsRow (w.heap.size+2) 110 3 (.slice A2 es1.length c2) es1.length (aAd (edI es1)))/\Hid (Value.ownBlock (.slice A2 es1.length c2)≠some G)/\Box wr (w.heap.size+1) [.int .i64 0,.int .i64 0,.slice none 0 0]/\Box wr G [.int .i64 r,.int .i64 s,.slice A2 es1.length c2]/\Mid 0 0 w wr) (fun _ wr=>aMq wr G)
 case atStart=>exact⟨40,n,es,A1,c1,_,0,0,[],rfl,by omega,HT,hn40,HG,O0,oH hown0,oH hbk0,b2,Y3,hm0⟩
 clear O0 hown0 b2 Y3 hm0 hbk0;obtain⟨m,s,es1,A2,c2,Al,nl,cl,ps,rfl,hnl,HTm,hsm,HGs,hleft,HE,HBK,b2,Y3,hm⟩:=hrel;have hl1:=HGs.out.len;have hs1:1<=s:=by have:=HGs.out.size;omega
 have hlsz:=oH (aCJ Y3);have hec:es1.length<=c2:=by
  obtain⟨A',c',hv0,hsc,hcm⟩:=aAg HE.out;injection hv0 with _ _ hv0
  omega
 obtain⟨p,b,rs,res,hone⟩:=OnceIs.ex (s:Int) es1;have HO:=oH (aKE r s A2 es1 c2 wr _ _ (aAy HE.out).rg hec HGs.out p b rs res hone);have HON:=oH hone;obtain⟨p1,p2⟩:=p;clear hone;obtain⟨y0,y1,y2⟩:=Y3.c3 rfl;go_wp2_with fail;with_reducible refine HO.out.mono ?_
 rintro en w5 ⟨A3,c3,rfl,hog,hm5⟩;have hGr:G<wr.heap.size:=Y3.1;have hw2r:w.heap.size+2<=wr.heap.size:=by omega
 have hE5:=aAc HE.out hm5 oZl;replace b2:=b2.mid hm5 oZr;replace Y3:=Y3.mid hm5 oZr;replace hleft:=aAc hleft hm5 oZl;replace hm:=hm.trans hm5;clear HO y0 y1 y2 HE;have hal1:=Mid.alloc w5 (.cells #[.int .i64 r,.int .i64 rs,.slice A3 res.length c3] 35);have hal2:=Mid.alloc (w5.alloc (.cells #[.int .i64 r,.int .i64 rs,.slice A3 res.length c3] 35)) (.cells #[.int .i64 p1,.int .i64 p2] 179);have bh:=(Box.new w5 #[.int .i64 r,.int .i64 rs,.slice A3 res.length c3] 35).mid hal2 oZr;have bp:=Box.new (w5.alloc (.cells #[.int .i64 r,.int .i64 rs,.slice A3 res.length c3] 35)) #[.int .i64 p1,.int .i64 p2] 179;rw[World.size_alloc] at bp;have hal:=hal1.trans hal2;have hs5:=hm5.size;have hG5:G<w5.heap.size:=Y3.1;have hG6:G<w5.heap.size+1:=by omega
 have hb5:w.heap.size+1<w5.heap.size:=b2.1;have hb6:w.heap.size<w5.heap.size:=by omega
 have yf:=Y3.2.2;obtain⟨y0,y1,y2⟩:=Y3.c3 rfl;cases b
 .have af:=b2.2.2
  obtain⟨a0,a1,a2⟩:=b2.c3 rfl;have hfn:aBU es1=[]/\True:=by
   rcases HON.out with h|h
   .exact⟨h.2.1,trivial⟩
   exact absurd h.1 (by decide)
  have hTT:=HTm.out;rw[aEc (g:=((s:Int),es1)) hfn.1] at hTT;have HTT:=oH hTT;clear hTT hfn;go_wp2_with fail;refine bodyPost_ret (v:=.tuple #[.agg #[.int .i64 r,.int .i64 s,.slice A2 es1.length c2],.slice Al nl cl]) (by simp[results,Tryz.results195,go_sem,a0,a1,a2,af,hb5,hb6,World.cell?_alloc_lt]) rfl ⟨A2,c2,Al,nl,cl,by rw[<- HTT.out],?_,?_⟩
  .rw[<- HTT.out]
   have h0:OG w5 (w.heap.size+2) w5.heap.size A2 c2 es1:=⟨oN,hE5,fun g hg=>(hE5.lt g hg).2⟩
   refine OG.wide (OG.mid h0 (a:=w.heap.size+1) (b:=w.heap.size+2) ?_ (Or.inl oN)) (by omega) (by simp;try omega) oN;repeat (first|exact Mid.refl _ _ _|refine Mid.trans ?_ (Mid.alloc _ _).zero|refine Mid.stored ?_ _ (by simp;try omega) (by simp;try omega))
  repeat (first|exact hm|refine Mid.trans ?_ (Mid.alloc _ _)|refine Mid.storeNew ?_ (by simp;try omega) _)
 obtain⟨t,htt⟩:∃ t,aBU es1=(p1,p2)::t:=by
  rcases HON.out with h|h
  .exact absurd h.1 (by decide)
  exact h.2.1
 obtain⟨rfl,rfl⟩:rs=(s:Int) - 1/\res=aBY (p1,p2) es1:=by
  rcases HON.out with h|h
  .exact absurd h.1 (by decide)
  exact h.2.2
 obtain⟨k1,k2,k3⟩:=aDu HGs.out.all HGs.out.asc (p:=(p1,p2)) (by rw[htt];simp);obtain⟨m',rfl⟩:∃ m',m=m'+1:=⟨m - 1,by omega⟩
 have hTT:=HTm.out;rw[aEb (g:=((s:Int),es1)) htt] at hTT;simp only at hTT;have HTT:=oH hTT;have HG2:=oH (aFh HGs.out k1 k2 k3);clear hTT htt k1 k2 k3 HON;obtain⟨s',rfl⟩:∃ s',s=s'+1:=⟨s - 1,by omega⟩
 rw[show((s'+1:Nat):Int) - 1=(s':Int) by omega] at HTT HG2 hal hal1 hal2 bh bp |-;obtain⟨me,hme⟩:∃ me,aBY (p1,p2) es1=me:=⟨_,rfl⟩
 rw[hme] at HTT HG2 hal hal1 hal2 bh bp hog |-;clear hme;have hst:=(Mid.setAt w5 G 0 (.int .i64 r)).trans ((Mid.setAt (w5.setCell ⟨G,0,none⟩ (.int .i64 r)) G 1 (.int .i64 s')).trans (Mid.setAt ((w5.setCell ⟨G,0,none⟩ (.int .i64 r)).setCell ⟨G,1,none⟩ (.int .i64 s')) G 2 (.slice A3 me.length c3)));have Y5:=Y3.s3 (.int .i64 r) (.int .i64 s') (.slice A3 me.length c3);have hm6:=hm.n3 G (by omega) (.int .i64 r) (.int .i64 s') (.slice A3 me.length c3);have b6:=b2.mid hst (Or.inl (by omega));have hleft6:=aAc hleft hst (Or.inl oN);have hog6:=OG.mid hog hst (Or.inl hGr);have ha2:=(Mid.alloc (((w5.setCell ⟨G,0,none⟩ (.int .i64 r)).setCell ⟨G,1,none⟩ (.int .i64 s')).setCell ⟨G,2,none⟩ (.slice A3 me.length c3)) (.cells #[.int .i64 r,.int .i64 s',.slice A3 me.length c3] 35)).trans (Mid.alloc _ (.cells #[.int .i64 p1,.int .i64 p2] 179));replace b6:=b6.mid ha2 oZr;replace Y5:=Y5.mid ha2 oZr;replace hleft6:=aAc hleft6 ha2 oZl;replace hm6:=hm6.trans ha2;replace hog6:=OG.mid hog6 ha2 oZl;have hWs:(((((w5.setCell ⟨G,0,none⟩ (.int .i64 r)).setCell ⟨G,1,none⟩ (.int .i64 s')).setCell ⟨G,2,none⟩ (.slice A3 me.length c3)).alloc (.cells #[.int .i64 r,.int .i64 s',.slice A3 me.length c3] 35)).alloc (.cells #[.int .i64 p1,.int .i64 p2] 179)).heap.size=w5.heap.size+1+1:=by simp
 have HL:=oH hleft6;have HY:=oH Y5;have HB:=oH b6;have HM:=oH hm6;have HO6:=oH hog6;clear hleft6 Y5 b6 hm6 hog6 ha2 hst hleft b2 hm hog hE5 hal hal1 hal2 bh bp;go_wp2_with (at_builtin;refine aAY rfl _ _ rfl (G+1) Al nl cl ps rfl HL.out (p1,p2) (by rw[hWs];rfl) (by omega) (by rw[hWs];omega) ?_;intro A9 c9 w9 hl9 hgr9 hat9)
 have hm9:=Mid.of_grownRow HL.out hgr9;have hmo:=(HO6.out).2.1;have hE9:=(aAp hmo hw2r).kept hgr9 (aBP hmo HL.out (by decide));have hbk9:Value.ownBlock (.slice A3 me.length c3)≠some G:=fun h=>by have:=(hmo.lt _ h).1;omega
 have Y9:=HY.out.mid hm9 (Or.inl oS);have hmsz:=hlsz.out;go_roundw
 case rel=>exact⟨m',s',me,A3,c3,A9,nl+1,c9,ps++[(p1,p2)],rfl,by omega,HTT,by omega,HG2,hl9,oH hE9,oH hbk9,HB.out.mid hm9 (Or.inl (by omega)),Y9,HM.out.transNew hm9 (Or.inl (by omega))⟩
 rw[hmsz,aCJ Y9];omega
theorem aKg(p1 p2 v:Int)(w:World)(h0:p1<p2)(h1:0<=v)(h2:v<1000000) :
  Calls Tryz.prog 275 #[.int .i64 v,.agg #[.int .i64 p1,.int .i64 p2]] w fun e w'=>e=.returned (.int .i64 (aBI (p1,p2) v))/\Mid 0 0 w w':=by
 have hm0:Mid 0 0 w (w.alloc (.cells #[.int .i64 p1,.int .i64 p2] 179)):=Mid.alloc _ _;have b0:=Box.new w #[.int .i64 p1,.int .i64 p2] 179;go_enter Tryz.func275,Tryz.ntmps275
 have q0:=b0.cell 0 rfl;have q1:=b0.cell 1 rfl;rcases(by omega:v=p2 \/ p2<v \/ v<p2) with h|h|h
 .subst h
  have d1:(v == v)=true:=by simp
  have d2:decide (v<p1)=false:=by simp;omega
  have hf:aBI (p1,v) v=p1:=by simp[aBI]
  have HF:=oH hf;clear hf;go_wp2_with fail;go_ret;exact⟨by rw[HF.out];rfl,hm0⟩
 .have d1:(v == p2)=false:=by simp only[beq_eq_false_iff_ne];omega
  have hf:aBI (p1,p2) v=v - 1:=by unfold aBI;rw[if_neg (by omega),if_pos (by simpa using h)]
  have HF:=oH hf;clear hf;go_wp2_with fail;go_ret;exact⟨by rw[HF.out];rfl,hm0⟩
 have d1:(v == p2)=false:=by simp only[beq_eq_false_iff_ne];omega
 have hn:¬ p2<v:=by omega
 have hf:aBI (p1,p2) v=v:=by unfold aBI;rw[if_neg (by omega),if_neg (by simpa using hn)]
 have HF:=oH hf;clear hf;go_wp2_with fail;go_ret;exact⟨by rw[HF.out];rfl,hm0⟩
theorem aHd(r s:Int)(A:Option Addr)(es:List Ed)(c:Nat)(p1 p2:Int)(w:World)(lo hi:Nat)(hr:RG w lo hi A es)(hg:IsGr r s es)(h0:0<=p1)(h1:p1<p2)(h2:p2<s) :
  Calls Tryz.prog 258 #[aAw r s A es.length c,.agg #[.int .i64 p1,.int .i64 p2]] w fun e w'=>∃ A1 c1,e=.returned (.tuple #[aAw r (s - 1) A1 (aBY (p1,p2) es).length c1,.bool true])/\OG w' w.heap.size w'.heap.size A1 c1 (aBY (p1,p2) es)/\Mid 0 0 w w':=by
 have hl:=hg.len;have hs40:=hg.size;have HG:=oH hg;have hm0:Mid 0 0 w (((w.alloc (.cells #[.int .i64 r,.int .i64 s,.slice A es.length c] 35)).alloc (.cells #[.int .i64 p1,.int .i64 p2] 179)).alloc (.cells #[.int .i64 0,.int .i64 0,.slice none 0 0] 35)):=((Mid.alloc _ _).trans (Mid.alloc _ _)).trans (Mid.alloc _ _);have b0:=((Box.new w #[.int .i64 r,.int .i64 s,.slice A es.length c] 35).mid (Mid.alloc _ (.cells #[.int .i64 p1,.int .i64 p2] 179)) oZr).mid (Mid.alloc _ (.cells #[.int .i64 0,.int .i64 0,.slice none 0 0] 35)) oZr;have bf:=(Box.new (w.alloc (.cells #[.int .i64 r,.int .i64 s,.slice A es.length c] 35)) #[.int .i64 p1,.int .i64 p2] 179).mid (Mid.alloc _ (.cells #[.int .i64 0,.int .i64 0,.slice none 0 0] 35)) oZr;have b2:=Box.new ((w.alloc (.cells #[.int .i64 r,.int .i64 s,.slice A es.length c] 35)).alloc (.cells #[.int .i64 p1,.int .i64 p2] 179)) #[.int .i64 0,.int .i64 0,.slice none 0 0] 35;simp only[World.size_alloc,Nat.add_assoc,Nat.reduceAdd] at bf b2;have d1:decide (p1<0)=false:=by simp;omega
 have d2:decide (p2<=p1)=false:=by simp;omega
 have d3:decide (s<=p2)=false:=by simp;omega
 clear hg;go_enter Tryz.func258,Tryz.ntmps258
 go_wp2_with fail;generalize hw1:(((w.alloc (.cells #[.int .i64 r,.int .i64 s,.slice A es.length c] 35)).alloc (.cells #[.int .i64 p1,.int .i64 p2] 179)).alloc (.cells #[.int .i64 0,.int .i64 0,.slice none 0 0] 35))=w1 at hm0 b0 bf b2 |-;clear hw1;with_reducible refine(aAM r s A es c _ _ _ (hr.mid hm0 oZl).rv (by omega) true (iff_of_true rfl HG.out)).mono ?_
 rintro en w4 ⟨rfl,hm4⟩;replace b0:=b0.mid hm4 oZr;replace bf:=bf.mid hm4 oZr;replace b2:=b2.mid hm4 oZr;replace hm0:=hm0.trans hm4;have hs4:w.heap.size+3<=w4.heap.size:=b2.1;obtain⟨q0,q1,q2⟩:=b0.c3 rfl;have k0:=bf.cell 0 rfl;have k1:=bf.cell 1 rfl;have hal:=Mid.alloc w4 (.cells #[.int .i64 r,.int .i64 (s - 1),.slice none 0 0] 35);have Y3:=Box.new w4 #[.int .i64 r,.int .i64 (s - 1),.slice none 0 0] 35;replace b0:=b0.mid hal oZr;replace bf:=bf.mid hal oZr;replace b2:=b2.mid hal oZr;replace hm0:=hm0.trans hal;go_wp2_with fail;clear q0 q1 q2 k0 k1;have hs5:(w4.alloc (.cells #[.int .i64 r,.int .i64 (s - 1),.slice none 0 0] 35)).heap.size=w4.heap.size+1:=by simp
 generalize w4.alloc (.cells #[.int .i64 r,.int .i64 (s - 1),.slice none 0 0] 35)=w5 at Y3 b0 bf b2 hm0 hs5 |-;obtain⟨G,hG⟩:∃ G,w4.heap.size=G:=⟨_,rfl⟩
 rw[hG] at Y3 hs4 hs5 |-;clear hal hm4 hG;go_loopw [7] (fun i wr=>∃(q:Nat) (A2:Option Addr) (c2 lo2 hi2:Nat) (xs:List Ed),q<=es.length/\i=.int .i64 q/\Hid (xs=aCx [] ((es.take q).map (aEd (p1,p2)))) /\
   OG wr lo2 hi2 A2 c2 xs/\G+1<=lo2 /\
   Box wr w.heap.size [.int .i64 r,.int .i64 s,.slice A es.length c]/\Box wr (w.heap.size+1) [.int .i64 p1,.int .i64 p2]/\Box wr (w.heap.size+2) [.int .i64 0,.int .i64 0,.slice none 0 0]/\Box wr G [.int .i64 r,.int .i64 (s - 1),.slice A2 xs.length c2]/\Mid 0 0 w wr) (fun i _=>es.length - (intOf i).toNat)
 case atStart=>exact⟨0,none,0,G+1,_,[],oZ,rfl,oH rfl,⟨Nat.le_of_eq hs5.symm,⟨rfl,.inl ⟨rfl,rfl⟩⟩,fun g hg=>by simp[Value.ownBlock] at hg⟩,oN,b0,bf,b2,Y3,hm0⟩
 clear b0 bf b2 Y3 hm0 hs5;obtain⟨q,A2,c2,lo2,hi2,xs,hq,rfl,HX,hown,hlo2,b0,bf,b2,Y3,hm⟩:=hrel;have hxl:xs.length<=120:=by
  have h1:=aEn [] ((es.take q).map (aEd (p1,p2)));rw[<- HX.out] at h1;simp at h1;omega
 by_cases hlt:q<es.length
 .obtain⟨B,off,e,rfl, -,hbh,he,e0,e1,e2⟩:=(hr.mid hm oZl).ed hlt
  have hin:=HG.out.all e (List.mem_of_getElem? he);have htk:(es.take (q+1)).map (aEd (p1,p2))=(es.take q).map (aEd (p1,p2))++[aEd (p1,p2) e]:=by
   rw[aAV he,List.map_append]
   rfl
  obtain⟨i1,i2,i3,i4,i5,i6⟩:=hin;have hq0:(0:Int)<=(q:Int):=by omega
  have hq1:(q:Int)<(es.length:Int):=by omega
  have hal:=Mid.alloc wr (.cells #[.int .i64 e.a,.int .i64 e.l,.int .i64 e.b] 110);have ZE:=Box.new wr #[.int .i64 e.a,.int .i64 e.l,.int .i64 e.b] 110;have hGr:G<wr.heap.size:=Y3.1;obtain⟨u0,u1,u2⟩:=b0.c3 rfl;replace b0:=b0.mid hal oZr;replace bf:=bf.mid hal oZr;replace b2:=b2.mid hal oZr;replace Y3:=Y3.mid hal oZr;replace hown:=hown.mid hal oZl;replace hm:=hm.trans hal;have HTK:=oH htk;clear he htk;go_wp2_with fail;clear e0 e1 e2 u0 u1 u2;generalize hwx:wr.alloc (.cells #[.int .i64 e.a,.int .i64 e.l,.int .i64 e.b] 110)=wx at ZE b0 bf b2 Y3 hown hm |-;generalize hgE:wr.heap.size=E at ZE hGr |-;clear hgE hwx hal;have hmd:=Mid.drew1 wx;replace b0:=b0.mid hmd oZr;replace bf:=bf.mid hmd oZr;replace b2:=b2.mid hmd oZr;replace Y3:=Y3.mid hmd oZr;replace ZE:=ZE.mid hmd oZr;replace hown:=hown.mid hmd oZl;replace hm:=hm.trans hmd;obtain⟨f0,f1,f2⟩:=ZE.c3 rfl;have g2:=Y3.cell 2 rfl;have k0:=bf.cell 0 rfl;have k1:=bf.cell 1 rfl;obtain⟨x,hx⟩:∃ x,aBI (p1,p2) e.a=x:=⟨_,rfl⟩
  obtain⟨y,hy⟩:∃ y,aBI (p1,p2) e.b=y:=⟨_,rfl⟩
  have HFE:Hid (aEd (p1,p2) e=⟨x,e.l,y⟩):=oH (by simp[aEd,hx,hy]);clear hmd;refine aAB (S:=(fun w'=>w'.cell? ⟨E,0,none⟩=some (.int .i64 e.a)/\w'.cell? ⟨E,1,none⟩=some (.int .i64 e.l)/\w'.cell? ⟨E,2,none⟩=some (.int .i64 e.b)/\w'.cell? ⟨G,2,none⟩=some (.slice A2 xs.length c2)/\w'.cell? ⟨w.heap.size+1,0,none⟩=some (.int .i64 p1)/\w'.cell? ⟨w.heap.size+1,1,none⟩=some (.int .i64 p2))) 15 (by kernel_rfl) ⟨f0,f1,f2,g2,k0,k1⟩ ?_;generalize World.drew wx=wz at b0 bf b2 Y3 ZE hown hm f0 f1 f2 g2 k0 k1 |-;have hS:wz.cell? ⟨E,0,none⟩=some (.int .i64 e.a)/\wz.cell? ⟨E,1,none⟩=some (.int .i64 e.l)/\wz.cell? ⟨E,2,none⟩=some (.int .i64 e.b)/\wz.cell? ⟨G,2,none⟩=some (.slice A2 xs.length c2)/\wz.cell? ⟨w.heap.size+1,0,none⟩=some (.int .i64 p1)/\wz.cell? ⟨w.heap.size+1,1,none⟩=some (.int .i64 p2):=⟨f0,f1,f2,g2,k0,k1⟩
  have hP1:=aKg p1 p2 e.a wz h1 i1 (by omega);rw[hx] at hP1;refine tkT 0 rfl hS ?_;try simp only[oP]
  refine tkT 1 rfl hS ?_;try simp only[oP]
  refine tkT 2 rfl hS ?_;try simp only[oP]
  refine tkT 3 rfl hS ?_;try simp only[oP]
  refine tkT 4 rfl hS ?_;try simp only[oP]
  refine tkT 6 rfl hS ?_;try simp only[oP]
  refine tkT 7 rfl hS ?_;try simp only[oP]
  refine tkT 8 rfl hS ?_;try simp only[oP]
  refine tkT 9 rfl hS ?_;try simp only[oP]
  refine tkT 10 rfl hS ?_;try simp only[oP]
  refine rdT 5 rfl (fun K hK=>?_)
  (go_simp;refine hP1.mono ?_;rintro _ w6 ⟨rfl,hc6⟩;have b06:=b0.mid hc6 oZr;have bf6:=bf.mid hc6 oZr;have b26:=b2.mid hc6 oZr;have Y36:=Y3.mid hc6 oZr;have ZE6:=ZE.mid hc6 oZr;have hown6:=OG.mid hown hc6 oZl;have hm6:=hm.trans hc6;have hS6:w6.cell? ⟨E,0,none⟩=some (.int .i64 e.a)/\w6.cell? ⟨E,1,none⟩=some (.int .i64 e.l)/\w6.cell? ⟨E,2,none⟩=some (.int .i64 e.b)/\w6.cell? ⟨G,2,none⟩=some (.slice A2 xs.length c2)/\w6.cell? ⟨w.heap.size+1,0,none⟩=some (.int .i64 p1)/\w6.cell? ⟨w.heap.size+1,1,none⟩=some (.int .i64 p2):=⟨ZE6.cell 0 rfl,ZE6.cell 1 rfl,ZE6.cell 2 rfl,Y36.cell 2 rfl,bf6.cell 0 rfl,bf6.cell 1 rfl⟩;go_wp2_with fail)
  refine hK.out _ _ (Or.inr hS6) (fun _=>?_);clear hK K;try simp only[oP]
  clear hS hP1 b0 bf b2 Y3 ZE hown hm f0 f1 f2 g2 k0 k1 hc6;have hP2:=aKg p1 p2 e.b w6 h1 i3 (by omega);rw[hy] at hP2;clear hx hy;refine rdT 11 rfl (fun K hK=>?_)
  (go_simp;refine hP2.mono ?_;rintro _ w7 ⟨rfl,hc7⟩;have b07:=b06.mid hc7 oZr;have bf7:=bf6.mid hc7 oZr;have b27:=b26.mid hc7 oZr;have Y37:=Y36.mid hc7 oZr;have ZE7:=ZE6.mid hc7 oZr;have hown7:=OG.mid hown6 hc7 oZl;have hm7:=hm6.trans hc7;have hS7:w7.cell? ⟨E,0,none⟩=some (.int .i64 e.a)/\w7.cell? ⟨E,1,none⟩=some (.int .i64 e.l)/\w7.cell? ⟨E,2,none⟩=some (.int .i64 e.b)/\w7.cell? ⟨G,2,none⟩=some (.slice A2 xs.length c2)/\w7.cell? ⟨w.heap.size+1,0,none⟩=some (.int .i64 p1)/\w7.cell? ⟨w.heap.size+1,1,none⟩=some (.int .i64 p2):=⟨ZE7.cell 0 rfl,ZE7.cell 1 rfl,ZE7.cell 2 rfl,Y37.cell 2 rfl,bf7.cell 0 rfl,bf7.cell 1 rfl⟩;go_wp2_with fail)
  refine hK.out _ _ (Or.inr hS7) (fun _=>?_);clear hK K;try simp only[oP]
  clear hS6 hP2 b06 bf6 b26 Y36 ZE6 hown6 hm6 hc7;refine tkT 12 rfl hS7 ?_;try simp only[oP]
  have hQ:=aBW A2 xs c2 ⟨x,e.l,y⟩ w7 _ _ hown7.rg (by omega);refine rdT 13 rfl (fun K hK=>?_)
  (go_simp;refine hQ.mono ?_;rintro en w9 ⟨A9,c9,rfl,ho9,hc9⟩;have b09:=b07.mid hc9 oZr;have bf9:=bf7.mid hc9 oZr;have b29:=b27.mid hc9 oZr;have Y39:=Y37.mid hc9 oZr;have ZE9:=ZE7.mid hc9 oZr;have hown9:=OG.mid hown7 hc9 oZl;have hm9:=hm7.trans hc9;go_wp2_with fail)
  refine hK.out _ _ (Or.inr ⟨ZE9.cell 0 rfl,ZE9.cell 1 rfl,ZE9.cell 2 rfl,Y39.cell 2 rfl,bf9.cell 0 rfl,bf9.cell 1 rfl⟩) (fun _=>?_);clear hK K;try simp only[oP]
  have hS9:w9.cell? ⟨E,0,none⟩=some (.int .i64 e.a)/\w9.cell? ⟨E,1,none⟩=some (.int .i64 e.l)/\w9.cell? ⟨E,2,none⟩=some (.int .i64 e.b)/\w9.cell? ⟨G,2,none⟩=some (.slice A2 xs.length c2)/\w9.cell? ⟨w.heap.size+1,0,none⟩=some (.int .i64 p1)/\w9.cell? ⟨w.heap.size+1,1,none⟩=some (.int .i64 p2):=⟨ZE9.cell 0 rfl,ZE9.cell 1 rfl,ZE9.cell 2 rfl,Y39.cell 2 rfl,bf9.cell 0 rfl,bf9.cell 1 rfl⟩
  have hr2:=Y39.cell 2 rfl;have hrf:=Y39.2.2;have hG7:G+1<=w7.heap.size:=Y37.1;clear hS7 b07 bf7 b27 Y37 ZE7 hown7 hm7 hc9 hQ;refine tkT 14 rfl hS9 ?_;try simp only[oP]
  refine rdT 15 rfl (fun K hK=>?_)
  (go_simp)
  refine hK.out _ _ (Or.inl rfl) (fun _=>?_);clear hK K;try simp only[oP]
  refine aAE (by kernel_rfl) ?_ _;go_wp2_with fail;go_roundw
  case rel=>
   have hst:=Mid.setAt w9 G 2 (.slice A9 (aCy ⟨x,e.l,y⟩ xs).length c9);refine⟨q+1,A9,c9,_,_,_,by omega,by go_num,oH ?_,ho9.mid hst (Or.inl hG7),hG7,b09.mid hst (Or.inl (by omega)),bf9.mid hst (Or.inl (by omega)),b29.mid hst (Or.inl (by omega)),Y39.set 2 _ (by simp) rfl,hm9.storeNew (p:=⟨G,2,none⟩) (by show w.heap.size<=G;omega) _⟩;rw[HTK.out,aCG,<- HX.out,HFE.out]
  simp[intOf];omega
 obtain rfl:q=es.length:=by omega
 have hxx:=HX.out;rw[List.take_length] at hxx;have HXX:=oH (show xs=aBY (p1,p2) es from hxx);clear hxx;obtain⟨u0,u1,u2⟩:=b0.c3 rfl;obtain⟨a0,a1,a2⟩:=b2.c3 rfl;obtain⟨x0,x1,x2⟩:=Y3.c3 rfl;have af:=b2.2.2;have xf:=Y3.2.2;have hcl:¬ w.heap.size+2=G:=by omega
 have hcl2:¬ G=w.heap.size+2:=by omega
 go_wp2_with fail;have hcl3:(w.heap.size+2 == G)=false:=by simpa using hcl
 refine bodyPost_ret (v:=.tuple #[.agg #[.int .i64 r,.int .i64 (s - 1),.slice A2 xs.length c2],.bool true]) (by simp[results,Tryz.results258,go_sem,a0,a1,a2,x0,x1,x2,af,xf,hcl]) rfl ⟨A2,c2,by rw[HXX.out],?_,?_⟩
 .rw[<- HXX.out]
  refine OG.wide (OG.mid hown (a:=w.heap.size) (b:=G+1) ?_ (Or.inl hlo2)) (by omega) (by have:=hown.size;simpa using this) oN;repeat (first|exact Mid.refl _ _ _|refine Mid.stored ?_ _ (by simp;try omega) (by simp;try omega))
 repeat (first|exact hm|refine Mid.storeNew ?_ (by simp;try omega) _)
theorem aMs(r s:Int)(A:Option Addr)(es:List Ed)(c:Nat)(w:World)(lo hi:Nat)(hr:RG w lo hi A es)(hl:es.length<=120) :
  Calls Tryz.prog 274 #[aAw r s A es.length c] w fun e w'=>∃ A1 c1,e=.returned (.slice A1 (aBU es).length c1)/\RV w' 0 w'.heap.size A1 (aAd (fdI (aBU es)))/\Mid 0 0 w w':=by
 have hm0:Mid 0 0 w ((w.alloc (.cells #[.int .i64 r,.int .i64 s,.slice A es.length c] 35)).alloc (.cells #[] 179)):=(Mid.alloc _ _).trans (Mid.alloc _ _);have b0:=(Box.new w #[.int .i64 r,.int .i64 s,.slice A es.length c] 35).mid (Mid.alloc _ (.cells #[] 179)) oZr;have O0:=aAi (w.alloc (.cells #[.int .i64 r,.int .i64 s,.slice A es.length c] 35)) 179 2;rw[World.size_alloc] at O0;go_enter Tryz.func274,Tryz.ntmps274
 go_wp2_with fail;go_loopw [3,4] (fun out iv wr=>∃(k:Nat) (A1:Option Addr) (n1 c1:Nat),k<=es.length/\iv=.int .i64 k/\out=.slice A1 n1 c1/\Hid ((aAD es k).length=n1)/\wr.ownsRow (w.heap.size+1) 179 2 (.slice A1 n1 c1) n1 (aAd (fdI (aAD es k))) /\
   Box wr w.heap.size [.int .i64 r,.int .i64 s,.slice A es.length c]/\Mid 0 0 w wr) (fun _ i _=>es.length - (intOf i).toNat)
 case atStart=>exact⟨0,_,0,0,oZ,rfl,rfl,oH rfl,O0,b0,hm0⟩
 clear O0 b0 hm0;obtain⟨wo,hwo⟩:∃ wo,wo=wr:=⟨_,rfl⟩
 subst hwo;obtain⟨k,A1,n1,c1,hk,rfl,rfl,HN,hown,b0,hm⟩:=hrel;obtain⟨q0,q1,q2⟩:=b0.c3 rfl;by_cases hlt:k<es.length
 .obtain⟨e,he⟩:=aAs es hlt
  have HE:=oH he;have hk0:(0:Int)<=(k:Int):=by omega
  have hk1:(k:Int)<(es.length:Int):=by omega
  clear he;go_wp2_with fail;clear q0 q1 q2;go_loopw [3,5] (fun out jv wr=>∃(j:Nat) (A2:Option Addr) (n2 c2:Nat),k+1+j<=es.length/\jv=.int .i64 ((k+1+j:Nat):Int)/\out=.slice A2 n2 c2/\Hid ((aAD es k++((es.drop (k+1)).take j).flatMap (aAk e)).length=n2) /\
    wr.ownsRow (w.heap.size+1) 179 2 (.slice A2 n2 c2) n2 (aAd (fdI (aAD es k++((es.drop (k+1)).take j).flatMap (aAk e)))) /\
    Box wr w.heap.size [.int .i64 r,.int .i64 s,.slice A es.length c]/\Mid 0 0 w wr) (fun _ j _=>es.length - (intOf j).toNat)
  case atStart=>exact⟨0,A1,n1,c1,by omega,by go_num,rfl,oH (by simpa using HN.out),by simpa using hown,b0,hm⟩
  clear hown b0 hm HN;obtain⟨j,A2,n2,c2,hj,rfl,rfl,HN,hown,b0,hm⟩:=hrel;have hn2:n2<=40000:=by
   have h1:=aGg es k;have h2:=aIh e ((es.drop (k+1)).take j);have h3:=HN.out;have h4:k * (2 * es.length)<=120 * 240:=Nat.mul_le_mul (by omega) (by omega);rw[List.length_append] at h3;rw[List.length_take,List.length_drop] at h2;omega
  obtain⟨m,hmj⟩:∃ m,k+1+j=m:=⟨_,rfl⟩
  rw[hmj];have HM:=oH hmj;rw[hmj] at hj;clear hmj;obtain⟨q0,q1,q2⟩:=b0.c3 rfl;by_cases hlt2:m<es.length
  .obtain⟨B,off,e',rfl, -,hbh,he',e0,e1c,e2c⟩:=(hr.mid hm oZl).ed hlt
   rw[HE.out] at he';injection he' with he'
   subst he';obtain⟨B',off',f,hX, -,hbh2,hf,f0,f1,f2⟩:=(hr.mid hm oZl).ed hlt2;injection hX with hX
   injection hX with hX1 hX2
   subst hX1 hX2;have HF:=oH (aLD (e:=e) (show(es.drop (k+1))[j]?=some f by rw[List.getElem?_drop,HM.out];exact hf));have hj0:(0:Int)<=(m:Int):=by omega
   have hjn:(m:Int)<(es.length:Int):=by omega
   have zb:B<wr.heap.size:=Nat.lt_of_lt_of_le hbh (hr.mid hm oZl).1;have h0r:w.heap.size<wr.heap.size:=b0.1;have hal:=(Mid.alloc wr (.cells #[.int .i64 e.a,.int .i64 e.l,.int .i64 e.b] 110)).trans (Mid.alloc (wr.alloc (.cells #[.int .i64 e.a,.int .i64 e.l,.int .i64 e.b] 110)) (.cells #[.int .i64 f.a,.int .i64 f.l,.int .i64 f.b] 110));have ZE:=(Box.new wr #[.int .i64 e.a,.int .i64 e.l,.int .i64 e.b] 110).mid (Mid.alloc (wr.alloc (.cells #[.int .i64 e.a,.int .i64 e.l,.int .i64 e.b] 110)) (.cells #[.int .i64 f.a,.int .i64 f.l,.int .i64 f.b] 110)) oZr;have ZF:=Box.new (wr.alloc (.cells #[.int .i64 e.a,.int .i64 e.l,.int .i64 e.b] 110)) #[.int .i64 f.a,.int .i64 f.l,.int .i64 f.b] 110;rw[World.size_alloc] at ZF;have HNE:=oH (show Value.ownBlock (.slice A2 n2 c2)≠some wr.heap.size from fun h=>by have:=(hown.lt _ h).2;omega);have HFE:=oH (show Value.ownBlock (.slice A2 n2 c2)≠some (wr.heap.size+1) from fun h=>by have:=(hown.lt _ h).2;omega);have hB0:=oH (fun(g:Nat) (h:Value.ownBlock (.slice A2 n2 c2)=some g)=>(hown.lt g h).1);replace b0:=b0.mid hal oZr;replace hown:=aAc hown hal oZl;replace hm:=hm.trans hal;have HW:=oH hown;have hszA:w.heap.size+1<=((wr.alloc (.cells #[.int .i64 e.a,.int .i64 e.l,.int .i64 e.b] 110)).alloc (.cells #[.int .i64 f.a,.int .i64 f.l,.int .i64 f.b] 110)).heap.size:=by simp;omega
   clear hf hown hal;by_cases e1:e.l=f.l
   .have d1:(e.l == f.l)=true:=by simpa using e1
    by_cases e2:e.a=f.a
    .have d2:(e.a == f.a)=true:=by simpa using e2
     by_cases e3:e.b=f.b
     .have d3:(e.b == f.b)=true:=by simpa using e3
      have hAB:aAk e f=[(min e.b f.b,max e.b f.b),(min e.a f.a,max e.a f.a)]:=by simp[aAk,e1,e2,e3]
      have HAB:Hid (aAD es k++((es.drop (k+1)).take (j+1)).flatMap (aAk e)=(aAD es k++((es.drop (k+1)).take j).flatMap (aAk e))++[(min e.b f.b,max e.b f.b)]++[(min e.a f.a,max e.a f.a)]):=oH (by rw[HF.out,hAB];simp);clear e1 e2 e3 hAB;go_wp2_with (first|(at_builtin;refine aAY rfl _ _ rfl (w.heap.size+1) A2 n2 c2 _ rfl HW.out (min e.b f.b,max e.b f.b) (by rw[World.size_alloc,World.size_alloc];rfl) (by omega) hszA ?_;intro A8 c8 w8 ho8 hgr8 hat8;have ZE8:=ZE.grown hgr8 HNE.out;have ZF8:=ZF.grown hgr8 HFE.out;obtain⟨g80,g81,g82⟩:=ZE8.c3 rfl;obtain⟨h80,h81,h82⟩:=ZF8.c3 rfl;have HW8:=oH ho8;have hsz8:=Nat.le_trans hszA hgr8.size;clear ho8)|(at_builtin;refine aAY rfl _ _ rfl (w.heap.size+1) A8 (n2+1) c8 _ rfl HW8.out (min e.a f.a,max e.a f.a) rfl (by omega) hsz8 ?_;intro A9 c9 w9 ho9 hgr9 hat9))
      have hm8:=Mid.of_grownRow HW.out hgr8;have hm9:=Mid.of_grownRow HW8.out hgr9;have HB8:=oH (fun(g:Nat) (h:Value.ownBlock (.slice A8 (n2+1) c8)=some g)=>(HW8.out.lt g h).1);clear hat9 hat8;go_roundw
      case rel=>exact⟨j+1,A9,n2+1+1,c9,by have:=HM.out;omega,by have:=HM.out;go_num,rfl,oH (by rw[HAB.out,List.length_append,List.length_append,HN.out];rfl),by rw[HAB.out];exact ho9,(b0.grown hgr8 (fun h=>by have:=hB0.out _ h;omega)).grown hgr9 (fun h=>by have:=HB8.out _ h;omega),(hm.transNew hm8 (Or.inl (Nat.le_succ _))).transNew hm9 (Or.inl (Nat.le_succ _))⟩
      have:=HM.out;simp[intOf];omega
     have d3:(e.b == f.b)=false:=by simpa only[beq_eq_false_iff_ne] using e3
     have hAB:aAk e f=[(min e.b f.b,max e.b f.b)]:=by simp[aAk,e1,e2,e3]
     have HAB:Hid (aAD es k++((es.drop (k+1)).take (j+1)).flatMap (aAk e)=(aAD es k++((es.drop (k+1)).take j).flatMap (aAk e))++[(min e.b f.b,max e.b f.b)]):=oH (by rw[HF.out,hAB,List.append_assoc]);clear e1 e2 e3 hAB;go_wp2_with (at_builtin;refine aAY rfl _ _ rfl (w.heap.size+1) A2 n2 c2 _ rfl HW.out (min e.b f.b,max e.b f.b) (by rw[World.size_alloc,World.size_alloc];rfl) (by omega) hszA ?_;intro A9 c9 w9 ho9 hgr9 hat9;have ZE8:=ZE.grown hgr9 HNE.out;have ZF8:=ZF.grown hgr9 HFE.out;obtain⟨g80,g81,g82⟩:=ZE8.c3 rfl;obtain⟨h80,h81,h82⟩:=ZF8.c3 rfl)
     have hm9:=Mid.of_grownRow HW.out hgr9;clear hat9;go_roundw
     case rel=>exact⟨j+1,A9,n2+1,c9,by have:=HM.out;omega,by have:=HM.out;go_num,rfl,oH (by rw[HAB.out,List.length_append,HN.out];rfl),by rw[HAB.out];exact ho9,b0.grown hgr9 (fun h=>by have:=hB0.out _ h;omega),hm.transNew hm9 (Or.inl (Nat.le_succ _))⟩
     have:=HM.out;simp[intOf];omega
    have d2:(e.a == f.a)=false:=by simpa only[beq_eq_false_iff_ne] using e2
    by_cases e3:e.b=f.b
    .have d3:(e.b == f.b)=true:=by simpa using e3
     have hAB:aAk e f=[(min e.a f.a,max e.a f.a)]:=by simp[aAk,e1,e2,e3]
     have HAB:Hid (aAD es k++((es.drop (k+1)).take (j+1)).flatMap (aAk e)=(aAD es k++((es.drop (k+1)).take j).flatMap (aAk e))++[(min e.a f.a,max e.a f.a)]):=oH (by rw[HF.out,hAB,List.append_assoc]);clear e1 e2 e3 hAB;go_wp2_with (at_builtin;refine aAY rfl _ _ rfl (w.heap.size+1) A2 n2 c2 _ rfl HW.out (min e.a f.a,max e.a f.a) (by rw[World.size_alloc,World.size_alloc];rfl) (by omega) hszA ?_;intro A9 c9 w9 ho9 hgr9 hat9;have ZE8:=ZE.grown hgr9 HNE.out;have ZF8:=ZF.grown hgr9 HFE.out;obtain⟨g80,g81,g82⟩:=ZE8.c3 rfl;obtain⟨h80,h81,h82⟩:=ZF8.c3 rfl)
     have hm9:=Mid.of_grownRow HW.out hgr9;clear hat9;go_roundw
     case rel=>exact⟨j+1,A9,n2+1,c9,by have:=HM.out;omega,by have:=HM.out;go_num,rfl,oH (by rw[HAB.out,List.length_append,HN.out];rfl),by rw[HAB.out];exact ho9,b0.grown hgr9 (fun h=>by have:=hB0.out _ h;omega),hm.transNew hm9 (Or.inl (Nat.le_succ _))⟩
     have:=HM.out;simp[intOf];omega
    have d3:(e.b == f.b)=false:=by simpa only[beq_eq_false_iff_ne] using e3
    have hAB:aAk e f=[]:=by simp[aAk,e1,e2,e3]
    have HAB:Hid (((es.drop (k+1)).take (j+1)).flatMap (aAk e)=((es.drop (k+1)).take j).flatMap (aAk e)):=oH (by rw[HF.out,hAB,List.append_nil]);clear e1 e2 e3 hAB;go_wp2_with fail;go_roundw
    case rel=>exact⟨j+1,A2,n2,c2,by have:=HM.out;omega,by have:=HM.out;go_num,rfl,by rw[HAB.out];exact HN,by rw[HAB.out];exact HW.out,b0,hm⟩
    have:=HM.out;simp[intOf];omega
   have d1:(e.l == f.l)=false:=by simpa only[beq_eq_false_iff_ne] using e1
   have hAB:aAk e f=[]:=by unfold aAk;rw[if_neg e1]
   have HAB:Hid (((es.drop (k+1)).take (j+1)).flatMap (aAk e)=((es.drop (k+1)).take j).flatMap (aAk e)):=oH (by rw[HF.out,hAB,List.append_nil]);clear e1 hAB;go_wp2_with fail;go_roundw
   case rel=>exact⟨j+1,A2,n2,c2,by have:=HM.out;omega,by have:=HM.out;go_num,rfl,by rw[HAB.out];exact HN,by rw[HAB.out];exact HW.out,b0,hm⟩
   have:=HM.out;simp[intOf];omega
  have hje:j=es.length - (k+1):=by have:=HM.out;omega
  subst hje;rw[List.take_of_length_le (by rw[List.length_drop];exact oN),<- aHH HE.out] at HN hown;obtain rfl:m=es.length:=by omega
  go_wp2_with fail;go_roundw
  case rel=>exact⟨k+1,A2,n2,c2,by omega,by go_num,rfl,HN,hown,b0,hm⟩
  simp[intOf];omega
 obtain rfl:k=es.length:=by omega
 rw[aGf] at HN hown;go_wp2_with fail;go_ret;have hn:=HN.out;subst hn;exact⟨A1,c1,rfl,(aAy hown).wide oZ oN oN,hm⟩
theorem aJy(r s:Int)(A:Option Addr)(es:List Ed)(c:Nat)(w:World)(lo hi:Nat)(hr:RG w lo hi A es)(hg:IsGr r s es)(p:Int × Int)(b:Bool)(hp:aME es p b) :
  Calls Tryz.prog 257 #[aAw r s A es.length c] w fun e w'=>e=.returned (.tuple #[.agg #[.int .i64 p.1,.int .i64 p.2],.bool b])/\Mid 0 0 w w':=by
 have hl:=hg.len;have HG:=oH hg;have hm0:Mid 0 0 w ((w.alloc (.cells #[.int .i64 r,.int .i64 s,.slice A es.length c] 35)).alloc (.cells #[.int .i64 0,.int .i64 0] 179)):=(Mid.alloc _ _).trans (Mid.alloc _ _);have b0:=(Box.new w #[.int .i64 r,.int .i64 s,.slice A es.length c] 35).mid (Mid.alloc _ (.cells #[.int .i64 0,.int .i64 0] 179)) oZr;have b2:=Box.new (w.alloc (.cells #[.int .i64 r,.int .i64 s,.slice A es.length c] 35)) #[.int .i64 0,.int .i64 0] 179;rw[World.size_alloc] at b2;clear hg;obtain⟨p1,p2⟩:=p;go_enter Tryz.func257,Tryz.ntmps257
 go_wp2_with fail;with_reducible refine(aAM r s A es c _ _ _ (hr.mid hm0 oZl).rv (by omega) true (iff_of_true rfl HG.out)).mono ?_
 rintro en w1 ⟨rfl,hm1⟩;replace b0:=b0.mid hm1 oZr;replace b2:=b2.mid hm1 oZr;replace hm0:=hm0.trans hm1;obtain⟨q0,q1,q2⟩:=b0.c3 rfl;go_wp2_with fail;with_reducible refine(aMs r s A es c _ _ _ (hr.mid hm0 oZl) hl).mono ?_
 rintro en w2 ⟨A2,c2,rfl,hrv,hm2⟩;replace b2:=b2.mid hm2 oZr;replace hm0:=hm0.trans hm2;have zf:=b2.2.2;have z0:=b2.cell 0 rfl;have z1:=b2.cell 1 rfl;clear q0 q1 q2 hm1 hm2;rcases hp with⟨rfl,hn,hpp⟩|⟨rfl,t,ht⟩
 .injection hpp with h1 h2
  subst h1 h2;have hn0:(aBU es).length=0:=by rw[hn];rfl
  clear hn;go_wp2_with fail;refine bodyPost_ret (v:=.tuple #[.agg #[.int .i64 0,.int .i64 0],.bool false]) (by simp[results,Tryz.results257,go_sem,z0,z1,zf]) rfl ⟨rfl,?_⟩;repeat (first|exact hm0|refine Mid.storeNew ?_ (by simp;try omega) _)
 obtain⟨nl,hnl⟩:∃ nl,(aBU es).length=nl+1:=⟨t.length,by rw[ht];rfl⟩
 obtain⟨g,off,rfl, -, -,hc⟩:=hrv.2 (by rw[ht];simp[aFr,aAd]);have y0:=hc 0 (.int .i64 p1) (by rw[ht];simp[aFr,aAd]);have y1:=hc 1 (.int .i64 p2) (by rw[ht];simp[aFr,aAd]);rw[Nat.add_zero] at y0;have hd:((nl+1:Nat) == 0)=false:=by simp
 rw[hnl];have h1:(0:Int)<((nl+1:Nat):Int):=by omega
 clear hc ht hrv hnl;go_wp2_with fail;refine bodyPost_ret (v:=.tuple #[.agg #[.int .i64 p1,.int .i64 p2],.bool true]) (by simp[results,Tryz.results257,go_sem,z0,z1,zf]) rfl ⟨rfl,?_⟩;repeat (first|exact hm0|refine Mid.storeNew ?_ (by simp;try omega) _)
theorem aLf(r s:Int)(A:Option Addr)(es:List Ed)(c:Nat)(w:World)(lo hi:Nat)(hr:RG w lo hi A es)(hg:IsGr r s es)(p:Int × Int)(b:Bool)(rs:Int)(res:List Ed)(hp:OnceIs s es p b rs res) :
  Calls Tryz.prog 230 #[aAw r s A es.length c] w fun e w'=>∃ A1 c1,e=.returned (.tuple #[aAw r rs A1 res.length c1,.agg #[.int .i64 p.1,.int .i64 p.2],.bool b])/\OG w' w.heap.size w'.heap.size A1 c1 res/\Mid 0 0 w w':=by
 have hl:=hg.len;have HG:=oH hg;have hm0:Mid 0 0 w (((w.alloc (.cells #[.int .i64 r,.int .i64 s,.slice A es.length c] 35)).alloc (.cells #[.int .i64 0,.int .i64 0,.slice none 0 0] 35)).alloc (.cells #[.int .i64 0,.int .i64 0] 179)):=((Mid.alloc _ _).trans (Mid.alloc _ _)).trans (Mid.alloc _ _);have b0:=((Box.new w #[.int .i64 r,.int .i64 s,.slice A es.length c] 35).mid (Mid.alloc _ (.cells #[.int .i64 0,.int .i64 0,.slice none 0 0] 35)) oZr).mid (Mid.alloc _ (.cells #[.int .i64 0,.int .i64 0] 179)) oZr;have b2:=(Box.new (w.alloc (.cells #[.int .i64 r,.int .i64 s,.slice A es.length c] 35)) #[.int .i64 0,.int .i64 0,.slice none 0 0] 35).mid (Mid.alloc _ (.cells #[.int .i64 0,.int .i64 0] 179)) oZr;have b3:=Box.new ((w.alloc (.cells #[.int .i64 r,.int .i64 s,.slice A es.length c] 35)).alloc (.cells #[.int .i64 0,.int .i64 0,.slice none 0 0] 35)) #[.int .i64 0,.int .i64 0] 179;simp only[World.size_alloc,Nat.add_assoc,Nat.reduceAdd] at b2 b3;have hF:=hp.first
 have HF:=oH hF;clear hg hF;obtain⟨p1,p2⟩:=p;go_enter Tryz.func230,Tryz.ntmps230
 go_wp2_with fail;generalize hw1:(((w.alloc (.cells #[.int .i64 r,.int .i64 s,.slice A es.length c] 35)).alloc (.cells #[.int .i64 0,.int .i64 0,.slice none 0 0] 35)).alloc (.cells #[.int .i64 0,.int .i64 0] 179))=w1 at hm0 b0 b2 b3 |-;clear hw1;with_reducible refine(aJy r s A es c _ _ _ (hr.mid hm0 oZl) HG.out (p1,p2) b HF.out).mono ?_
 rintro en w2 ⟨rfl,hm2⟩;replace b0:=b0.mid hm2 oZr;replace b2:=b2.mid hm2 oZr;replace b3:=b3.mid hm2 oZr;replace hm0:=hm0.trans hm2;have hbs0:=b0.1;have hbs2:=b2.1;have hbs3:=b3.1;obtain⟨u0,u1,u2⟩:=b0.c3 rfl;have hal:=Mid.alloc w2 (.cells #[.int .i64 p1,.int .i64 p2] 179);have bf:=Box.new w2 #[.int .i64 p1,.int .i64 p2] 179;replace b0:=b0.mid hal oZr;replace b2:=b2.mid hal oZr;replace b3:=b3.mid hal oZr;replace hm0:=hm0.trans hal;clear hm2;rcases hp with⟨rfl,hn,hpp,rfl,rfl⟩|⟨rfl,⟨t,ht⟩,rfl,hres⟩
 .injection hpp with h1 h2
  subst h1 h2;clear hn;go_wp2_with fail;clear u0 u1 u2;generalize hw3:w2.alloc (.cells #[.int .i64 0,.int .i64 0] 179)=w3 at b0 b2 b3 bf hm0 |-;clear hw3 hal;with_reducible refine(aBp r rs A res c _ _ _ (hr.mid hm0 oZl) (by omega)).mono ?_
  rintro en w4 ⟨A4,c4,rfl,hog,hm4⟩;have hs3:w.heap.size+3<=w3.heap.size:=b3.1;replace b2:=b2.mid hm4 oZr;replace b3:=b3.mid hm4 oZr;replace hm0:=hm0.trans hm4;obtain⟨a0,a1,a2⟩:=b2.c3 rfl;have x0:=b3.cell 0 rfl;have x1:=b3.cell 1 rfl;have af:=b2.2.2;have xf:=b3.2.2;go_wp2_with fail;refine bodyPost_ret (v:=.tuple #[.agg #[.int .i64 r,.int .i64 rs,.slice A4 res.length c4],.agg #[.int .i64 0,.int .i64 0],.bool false]) (by simp[results,Tryz.results230,go_sem,a0,a1,a2,x0,x1,af,xf]) rfl ⟨A4,c4,rfl,?_,?_⟩
  .refine OG.wide (OG.mid hog (a:=w.heap.size+1) (b:=w.heap.size+3) ?_ (Or.inl (by omega))) (by omega) (by simp) oN
   repeat (first|exact Mid.refl _ _ _|refine Mid.stored ?_ _ (by simp;try omega) (by simp;try omega))
  repeat (first|exact hm0|refine Mid.storeNew ?_ (by simp;try omega) _)
 obtain⟨k1,k2,k3⟩:=aDu HG.out.all HG.out.asc (p:=(p1,p2)) (by rw[ht];simp);simp only at k1 k2 k3;have HRES:=oH hres;clear ht hres;have y0:=bf.cell 0 rfl;have y1:=bf.cell 1 rfl;go_wp2_with fail;clear u0 u1 u2 y0 y1;generalize hw3:w2.alloc (.cells #[.int .i64 p1,.int .i64 p2] 179)=w3 at b0 b2 b3 bf hm0 |-;have hs3:w3.heap.size=w2.heap.size+1:=by rw[<- hw3];simp
 clear hw3 hal;obtain⟨F,hF⟩:∃ F,w2.heap.size=F:=⟨_,rfl⟩
 rw[hF] at bf hs3 hbs0 hbs2 hbs3 |-;clear hF;with_reducible refine(aHd r s A es c p1 p2 _ _ _ (hr.mid hm0 oZl) HG.out k1 k2 k3).mono ?_
 rintro en w4 ⟨A4,c4,rfl,hog,hm4⟩;rw[<- HRES.out] at hog |-;have hsz4:=hm4.size;replace b2:=b2.mid hm4 oZr;replace b3:=b3.mid hm4 oZr;replace bf:=bf.mid hm4 oZr;replace hm0:=hm0.trans hm4;have hal4:=Mid.alloc w4 (.cells #[.int .i64 r,.int .i64 (s - 1),.slice A4 res.length c4] 35);have bg:=Box.new w4 #[.int .i64 r,.int .i64 (s - 1),.slice A4 res.length c4] 35;replace b2:=b2.mid hal4 oZr;replace b3:=b3.mid hal4 oZr;replace bf:=bf.mid hal4 oZr;replace hog:=hog.mid hal4 oZl;replace hm0:=hm0.trans hal4;go_wp2_with fail;generalize hw5:w4.alloc (.cells #[.int .i64 r,.int .i64 (s - 1),.slice A4 res.length c4] 35)=w5 at b2 b3 bf bg hog hm0 |-;have hs5:w5.heap.size=w4.heap.size+1:=by rw[<- hw5];simp
 clear hw5 hal4;obtain⟨H,hH⟩:∃ H,w4.heap.size=H:=⟨_,rfl⟩
 rw[hH] at bg hsz4 hs5 hog |-;clear hH;obtain⟨a0,a1,a2⟩:=b2.c3 rfl;have x0:=b3.cell 0 rfl;have x1:=b3.cell 1 rfl;have y0:=bf.cell 0 rfl;have y1:=bf.cell 1 rfl;obtain⟨z0,z1,z2⟩:=bg.c3 rfl;have af:=b2.2.2;have xf:=b3.2.2;have n1:¬ w.heap.size+1=H:=by omega
 have n2:¬ w.heap.size+2=H:=by omega
 have n3:¬ w.heap.size+1=F:=by omega
 have n4:¬ w.heap.size+2=F:=by omega
 have n5:¬ F=H:=by omega
 go_region
 go_wp2_with fail;refine bodyPost_ret (v:=.tuple #[.agg #[.int .i64 r,.int .i64 (s - 1),.slice A4 res.length c4],.agg #[.int .i64 p1,.int .i64 p2],.bool true]) (by simp[results,Tryz.results230,go_sem,a0,a1,a2,x0,x1,af,xf]) rfl ⟨A4,c4,rfl,?_,?_⟩
 .refine OG.wide (OG.mid hog (a:=w.heap.size+1) (b:=w.heap.size+3) ?_ (Or.inl (by omega))) (by omega) (by have:=hog.size;simp;omega) oN
  refine Mid.trans ?_ (Mid.drew1 _).zero;repeat (first|exact Mid.refl _ _ _|refine Mid.stored ?_ _ (by simp;try omega) (by simp;try omega))
 refine Mid.trans ?_ (Mid.drew1 _);repeat (first|exact hm0|refine Mid.storeNew ?_ (by simp;try omega) _)
theorem aMr(r:Int)(n:Nat)(A:Option Addr)(es:List Ed)(c:Nat)(w:World)(lo hi:Nat)(hr:RG w lo hi A es)(hg:IsGr r n es) :
  Calls Tryz.prog 182 #[aAw r n A es.length c] w fun e w'=>∃ A1 c1 Al nl cl,e=.returned (.tuple #[aAw r (aCR 40 ((n:Int),es)).1 A1 (aCR 40 ((n:Int),es)).2.length c1,.slice Al nl cl])/\OG w' w.heap.size w'.heap.size A1 c1 (aCR 40 ((n:Int),es)).2/\Mid 0 0 w w':=by
 have hn40:n<=40:=by have:=hg.size;omega
 have hl:=hg.len;have hm0:Mid 0 0 w ((w.alloc (.cells #[.int .i64 r,.int .i64 n,.slice A es.length c] 35)).alloc (.cells #[.int .i64 0,.int .i64 0,.slice none 0 0] 35)):=(Mid.alloc _ _).trans (Mid.alloc _ _);have b0:=(Box.new w #[.int .i64 r,.int .i64 n,.slice A es.length c] 35).mid (Mid.alloc _ (.cells #[.int .i64 0,.int .i64 0,.slice none 0 0] 35)) oZr;have b2:=Box.new (w.alloc (.cells #[.int .i64 r,.int .i64 n,.slice A es.length c] 35)) #[.int .i64 0,.int .i64 0,.slice none 0 0] 35;simp only[World.size_alloc] at b2;have HG:=oH hg;obtain⟨T,hT⟩:∃ T,aCR 40 ((n:Int),es)=T:=⟨_,rfl⟩
 rw[hT];have HT:=oH hT;clear hg hT;go_enter Tryz.func182,Tryz.ntmps182
 go_wp2_with fail;generalize hw1:((w.alloc (.cells #[.int .i64 r,.int .i64 n,.slice A es.length c] 35)).alloc (.cells #[.int .i64 0,.int .i64 0,.slice none 0 0] 35))=w1 at hm0 b0 b2 |-;clear hw1;with_reducible refine(aBp r n A es c _ _ _ (hr.mid hm0 oZl) (by omega)).mono ?_
 rintro en w2 ⟨A1,c1,rfl,ho,hm2⟩;have hs2:w.heap.size+1<w1.heap.size:=b2.1;replace b2:=b2.mid hm2 oZr;replace hm0:=hm0.trans hm2;have hsz2:=hm2.size;have hown0:=aAp (base':=w.heap.size+2) ho.ov.2.1 hs2;have hbk0:Value.ownBlock (.slice A1 es.length c1)≠some w2.heap.size:=fun h=>by have:=ho.ov.2.2 _ h;omega
 have hal:=(Mid.alloc w2 (.cells #[.int .i64 r,.int .i64 n,.slice A1 es.length c1] 35)).trans (Mid.alloc (w2.alloc (.cells #[.int .i64 r,.int .i64 n,.slice A1 es.length c1] 35)) (.cells #[] 179));have Y3:=(Box.new w2 #[.int .i64 r,.int .i64 n,.slice A1 es.length c1] 35).mid (Mid.alloc (w2.alloc (.cells #[.int .i64 r,.int .i64 n,.slice A1 es.length c1] 35)) (.cells #[] 179)) oZr;have O0:=aAi (w2.alloc (.cells #[.int .i64 r,.int .i64 n,.slice A1 es.length c1] 35)) 179 2;rw[World.size_alloc] at O0;replace b2:=b2.mid hal oZr;replace hown0:=aAc hown0 hal oZl;replace hm0:=hm0.trans hal;go_wp2_with fail;generalize hw3:(w2.alloc (.cells #[.int .i64 r,.int .i64 n,.slice A1 es.length c1] 35)).alloc (.cells #[] 179)=w3 at Y3 O0 b2 hown0 hm0 |-;obtain⟨G,hG⟩:∃ G,w2.heap.size=G:=⟨_,rfl⟩
 rw[hG] at Y3 O0 hbk0 hsz2 |-;have hGw:w.heap.size+2<=G:=by omega
 clear hw3 hal hm2 ho hG hsz2 hs2 b0;go_loopw [5,6] (fun l iv wr=>∃(i m s:Nat) (es1:List Ed) (A2:Option Addr) (c2:Nat) (Al:Option Addr) (nl cl:Nat) (ps:List (Int × Int)),l=.slice Al nl cl/\iv=.int .i64 i/\i+m=40/\nl+s<=40/\Hid (aCR m ((s:Int),es1)=T)/\s<=m/\Hid (IsGr r s es1)/\wr.ownsRow (G+1) 179 2 (.slice Al nl cl) nl (aAd (fdI ps)) /\
   Hid (wr.ownsRow (w.heap.size+2) 110 3 (.slice A2 es1.length c2) es1.length (aAd (edI es1)))/\Hid (Value.ownBlock (.slice A2 es1.length c2)≠some G)/\Box wr (w.heap.size+1) [.int .i64 0,.int .i64 0,.slice none 0 0]/\Box wr G [.int .i64 r,.int .i64 s,.slice A2 es1.length c2]/\Mid 0 0 w wr) (fun _ _ wr=>aMq wr G)
 case atStart=>exact⟨0,40,n,es,A1,c1,_,0,0,[],rfl,rfl,by omega,by omega,HT,hn40,HG,O0,oH hown0,oH hbk0,b2,Y3,hm0⟩
 clear O0 hown0 b2 Y3 hm0 hbk0;obtain⟨i,m,s,es1,A2,c2,Al,nl,cl,ps,rfl,rfl,him,hnl,HTm,hsm,HGs,hleft,HE,HBK,b2,Y3,hm⟩:=hrel;have hl1:=HGs.out.len;have hs1:1<=s:=by have:=HGs.out.size;omega
 have hlsz:=oH (aCJ Y3);have hi40:(i:Int)<40:=by omega
 have hec:es1.length<=c2:=by
  obtain⟨A',c',hv0,hsc,hcm⟩:=aAg HE.out;injection hv0 with _ _ hv0
  omega
 obtain⟨p,b,rs,res,hone⟩:=OnceIs.ex (s:Int) es1;have HO:=oH (aLf r s A2 es1 c2 wr _ _ (aAy HE.out).rg HGs.out p b rs res hone);have HON:=oH hone;obtain⟨p1,p2⟩:=p;clear hone;obtain⟨y0,y1,y2⟩:=Y3.c3 rfl;go_wp2_with fail;with_reducible refine HO.out.mono ?_
 rintro en w5 ⟨A3,c3,rfl,hog,hm5⟩;have hGr:G<wr.heap.size:=Y3.1;have hw2r:w.heap.size+2<=wr.heap.size:=by omega
 have hE5:=aAc HE.out hm5 oZl;replace b2:=b2.mid hm5 oZr;replace Y3:=Y3.mid hm5 oZr;replace hleft:=aAc hleft hm5 oZl;replace hm:=hm.trans hm5;clear HO y0 y1 y2 HE;have hal1:=Mid.alloc w5 (.cells #[.int .i64 r,.int .i64 rs,.slice A3 res.length c3] 35);have hal2:=Mid.alloc (w5.alloc (.cells #[.int .i64 r,.int .i64 rs,.slice A3 res.length c3] 35)) (.cells #[.int .i64 p1,.int .i64 p2] 179);have bh:=(Box.new w5 #[.int .i64 r,.int .i64 rs,.slice A3 res.length c3] 35).mid hal2 oZr;have bp:=Box.new (w5.alloc (.cells #[.int .i64 r,.int .i64 rs,.slice A3 res.length c3] 35)) #[.int .i64 p1,.int .i64 p2] 179;rw[World.size_alloc] at bp;have hal:=hal1.trans hal2;have hs5:=hm5.size;have hG5:G<w5.heap.size:=Y3.1;have hG6:G<w5.heap.size+1:=by omega
 have hb5:w.heap.size+1<w5.heap.size:=b2.1;have hb6:w.heap.size<w5.heap.size:=by omega
 have yf:=Y3.2.2;obtain⟨y0,y1,y2⟩:=Y3.c3 rfl;cases b
 .have af:=b2.2.2
  obtain⟨a0,a1,a2⟩:=b2.c3 rfl;have hfn:aBU es1=[]/\True:=by
   rcases HON.out with h|h
   .exact⟨h.2.1,trivial⟩
   exact absurd h.1 (by decide)
  have hTT:=HTm.out;rw[aEc (g:=((s:Int),es1)) hfn.1] at hTT;have HTT:=oH hTT;clear hTT hfn;go_wp2_with fail;refine bodyPost_ret (v:=.tuple #[.agg #[.int .i64 r,.int .i64 s,.slice A2 es1.length c2],.slice Al nl cl]) (by simp[results,Tryz.results182,go_sem,a0,a1,a2,af,hb5,hb6,World.cell?_alloc_lt]) rfl ⟨A2,c2,Al,nl,cl,by rw[<- HTT.out],?_,?_⟩
  .rw[<- HTT.out]
   have h0:OG w5 (w.heap.size+2) w5.heap.size A2 c2 es1:=⟨oN,hE5,fun g hg=>(hE5.lt g hg).2⟩
   refine OG.wide (OG.mid h0 (a:=w.heap.size+1) (b:=w.heap.size+2) ?_ (Or.inl oN)) (by omega) (by simp;try omega) oN;repeat (first|exact Mid.refl _ _ _|refine Mid.trans ?_ (Mid.alloc _ _).zero|refine Mid.stored ?_ _ (by simp;try omega) (by simp;try omega))
  repeat (first|exact hm|refine Mid.trans ?_ (Mid.alloc _ _)|refine Mid.storeNew ?_ (by simp;try omega) _)
 obtain⟨t,htt⟩:∃ t,aBU es1=(p1,p2)::t:=by
  rcases HON.out with h|h
  .exact absurd h.1 (by decide)
  exact h.2.1
 obtain⟨rfl,rfl⟩:rs=(s:Int) - 1/\res=aBY (p1,p2) es1:=by
  rcases HON.out with h|h
  .exact absurd h.1 (by decide)
  exact h.2.2
 obtain⟨k1,k2,k3⟩:=aDu HGs.out.all HGs.out.asc (p:=(p1,p2)) (by rw[htt];simp);obtain⟨m',rfl⟩:∃ m',m=m'+1:=⟨m - 1,by omega⟩
 have hTT:=HTm.out;rw[aEb (g:=((s:Int),es1)) htt] at hTT;simp only at hTT;have HTT:=oH hTT;have HG2:=oH (aFh HGs.out k1 k2 k3);clear hTT htt k1 k2 k3 HON;obtain⟨s',rfl⟩:∃ s',s=s'+1:=⟨s - 1,by omega⟩
 rw[show((s'+1:Nat):Int) - 1=(s':Int) by omega] at HTT HG2 hal hal1 hal2 bh bp |-;obtain⟨me,hme⟩:∃ me,aBY (p1,p2) es1=me:=⟨_,rfl⟩
 rw[hme] at HTT HG2 hal hal1 hal2 bh bp hog |-;clear hme;have hst:=(Mid.setAt w5 G 0 (.int .i64 r)).trans ((Mid.setAt (w5.setCell ⟨G,0,none⟩ (.int .i64 r)) G 1 (.int .i64 s')).trans (Mid.setAt ((w5.setCell ⟨G,0,none⟩ (.int .i64 r)).setCell ⟨G,1,none⟩ (.int .i64 s')) G 2 (.slice A3 me.length c3)));have Y5:=Y3.s3 (.int .i64 r) (.int .i64 s') (.slice A3 me.length c3);have hm6:=hm.n3 G (by omega) (.int .i64 r) (.int .i64 s') (.slice A3 me.length c3);have b6:=b2.mid hst (Or.inl (by omega));have hleft6:=aAc hleft hst (Or.inl oN);have hog6:=OG.mid hog hst (Or.inl hGr);have ha2:=(Mid.alloc (((w5.setCell ⟨G,0,none⟩ (.int .i64 r)).setCell ⟨G,1,none⟩ (.int .i64 s')).setCell ⟨G,2,none⟩ (.slice A3 me.length c3)) (.cells #[.int .i64 r,.int .i64 s',.slice A3 me.length c3] 35)).trans (Mid.alloc _ (.cells #[.int .i64 p1,.int .i64 p2] 179));replace b6:=b6.mid ha2 oZr;replace Y5:=Y5.mid ha2 oZr;replace hleft6:=aAc hleft6 ha2 oZl;replace hm6:=hm6.trans ha2;replace hog6:=OG.mid hog6 ha2 oZl;have hWs:(((((w5.setCell ⟨G,0,none⟩ (.int .i64 r)).setCell ⟨G,1,none⟩ (.int .i64 s')).setCell ⟨G,2,none⟩ (.slice A3 me.length c3)).alloc (.cells #[.int .i64 r,.int .i64 s',.slice A3 me.length c3] 35)).alloc (.cells #[.int .i64 p1,.int .i64 p2] 179)).heap.size=w5.heap.size+1+1:=by simp
 have HL:=oH hleft6;have HY:=oH Y5;have HB:=oH b6;have HM:=oH hm6;have HO6:=oH hog6;clear hleft6 Y5 b6 hm6 hog6 ha2 hst hleft b2 hm hog hE5 hal hal1 hal2 bh bp;go_wp2_with (at_builtin;refine aAY rfl _ _ rfl (G+1) Al nl cl ps rfl HL.out (p1,p2) (by rw[hWs];rfl) (by omega) (by rw[hWs];omega) ?_;intro A9 c9 w9 hl9 hgr9 hat9)
 have hm9:=Mid.of_grownRow HL.out hgr9;have hmo:=(HO6.out).2.1;have hE9:=(aAp hmo hw2r).kept hgr9 (aBP hmo HL.out (by decide));have hbk9:Value.ownBlock (.slice A3 me.length c3)≠some G:=fun h=>by have:=(hmo.lt _ h).1;omega
 have Y9:=HY.out.mid hm9 (Or.inl oS);have hmsz:=hlsz.out;go_roundw
 case rel=>exact⟨i+1,m',s',me,A3,c3,A9,nl+1,c9,ps++[(p1,p2)],rfl,by go_num,by omega,by omega,HTT,by omega,HG2,hl9,oH hE9,oH hbk9,HB.out.mid hm9 (Or.inl (by omega)),Y9,HM.out.transNew hm9 (Or.inl (by omega))⟩
 rw[hmsz,aCJ Y9];omega
theorem aJA(r:Int)(n:Nat)(A:Option Addr)(es:List Ed)(c:Nat)(w:World)(lo hi:Nat)(hr:RG w lo hi A es)(hg:IsGr r n es) :
  Calls Tryz.prog 183 #[aAw r n A es.length c] w fun e w'=>∃ A1 c1 Al nl cl,e=.returned (.tuple #[aAw r (trimA 40 ((n:Int),es)).1 A1 (trimA 40 ((n:Int),es)).2.length c1,.slice Al nl cl])/\OG w' w.heap.size w'.heap.size A1 c1 (trimA 40 ((n:Int),es)).2/\Mid 0 0 w w':=by
 have hn40:n<=40:=by have:=hg.size;omega
 have hl:=hg.len;have hm0:Mid 0 0 w ((w.alloc (.cells #[.int .i64 r,.int .i64 n,.slice A es.length c] 35)).alloc (.cells #[.int .i64 0,.int .i64 0,.slice none 0 0] 35)):=(Mid.alloc _ _).trans (Mid.alloc _ _);have b0:=(Box.new w #[.int .i64 r,.int .i64 n,.slice A es.length c] 35).mid (Mid.alloc _ (.cells #[.int .i64 0,.int .i64 0,.slice none 0 0] 35)) oZr;have b2:=Box.new (w.alloc (.cells #[.int .i64 r,.int .i64 n,.slice A es.length c] 35)) #[.int .i64 0,.int .i64 0,.slice none 0 0] 35;simp only[World.size_alloc] at b2;have HG:=oH hg;obtain⟨T,hT⟩:∃ T,trimA 40 ((n:Int),es)=T:=⟨_,rfl⟩
 rw[hT];have HT:=oH hT;clear hg hT;go_enter Tryz.func183,Tryz.ntmps183
 go_wp2_with fail;generalize hw1:((w.alloc (.cells #[.int .i64 r,.int .i64 n,.slice A es.length c] 35)).alloc (.cells #[.int .i64 0,.int .i64 0,.slice none 0 0] 35))=w1 at hm0 b0 b2 |-;clear hw1;with_reducible refine(aBp r n A es c _ _ _ (hr.mid hm0 oZl) (by omega)).mono ?_
 rintro en w2 ⟨A1,c1,rfl,ho,hm2⟩;have hsz12:=hm0.size;have hs2:w.heap.size+1<w1.heap.size:=b2.1;replace b0:=b0.mid hm2 oZr;replace b2:=b2.mid hm2 oZr;replace hm0:=hm0.trans hm2;have hsz2:=hm2.size;have hown0:=aAp (base':=w.heap.size+2) ho.ov.2.1 hs2;have hbk0:Value.ownBlock (.slice A1 es.length c1)≠some w2.heap.size:=fun h=>by have:=ho.ov.2.2 _ h;omega
 have hal:=(Mid.alloc w2 (.cells #[.int .i64 r,.int .i64 n,.slice A1 es.length c1] 35)).trans (Mid.alloc (w2.alloc (.cells #[.int .i64 r,.int .i64 n,.slice A1 es.length c1] 35)) (.cells #[] 3));have Y3:=(Box.new w2 #[.int .i64 r,.int .i64 n,.slice A1 es.length c1] 35).mid (Mid.alloc (w2.alloc (.cells #[.int .i64 r,.int .i64 n,.slice A1 es.length c1] 35)) (.cells #[] 3)) oZr;have O0:=aAi (w2.alloc (.cells #[.int .i64 r,.int .i64 n,.slice A1 es.length c1] 35)) 3 1;rw[World.size_alloc] at O0;have hbs0:=b0.1;obtain⟨p0,p1,p2⟩:=b0.c3 rfl;replace b0:=b0.mid hal oZr;replace b2:=b2.mid hal oZr;replace hown0:=aAc hown0 hal oZl;replace hm0:=hm0.trans hal;go_wp2_with fail;clear p0 p1 p2;have hsA:((w2.alloc (.cells #[.int .i64 r,.int .i64 n,.slice A1 es.length c1] 35)).alloc (.cells #[] 3)).heap.size=w2.heap.size+2:=by simp
 generalize hw3:(w2.alloc (.cells #[.int .i64 r,.int .i64 n,.slice A1 es.length c1] 35)).alloc (.cells #[] 3)=w3 at Y3 O0 b0 b2 hown0 hm0 hsA |-;obtain⟨G,hG⟩:∃ G,w2.heap.size=G:=⟨_,rfl⟩
 rw[hG] at Y3 O0 hbk0 hsA hsz2 hbs0 |-;clear hw3 hal hm2 ho hG;have hGw:w.heap.size+2<=G:=by omega
 clear hsA hsz2 hs2 hsz12 hbs0;go_loopw [5,6] (fun l i wr=>∃(k:Nat) (Al:Option Addr) (nl cl:Nat),k<=n/\i=.int .i64 k/\l=.slice Al nl cl/\Hid ((aPB k).length=nl)/\wr.ownsRow (G+1) 3 1 (.slice Al nl cl) nl (aAd (aPB k)) /\
   Hid (wr.ownsRow (w.heap.size+2) 110 3 (.slice A1 es.length c1) es.length (aAd (edI es)))/\Box wr w.heap.size [.int .i64 r,.int .i64 n,.slice A es.length c]/\Box wr (w.heap.size+1) [.int .i64 0,.int .i64 0,.slice none 0 0]/\Box wr G [.int .i64 r,.int .i64 n,.slice A1 es.length c1]/\Mid 0 0 w wr) (fun _ i _=>n - (intOf i).toNat)
 case atStart=>exact⟨0,_,0,0,oZ,rfl,rfl,oH rfl,O0,oH hown0,b0,b2,Y3,hm0⟩
 clear O0 hown0 b0 b2 Y3 hm0;obtain⟨wo,hwo⟩:∃ wo,wo=wr:=⟨_,rfl⟩
 subst hwo;obtain⟨k,Al,nl,cl,hk,rfl,rfl,HN,hleft,HE,b0,b2,Y3,hm⟩:=hrel;obtain rfl:k=nl:=by rw[<- HN.out,aIq]
 obtain⟨p0,p1,p2⟩:=b0.c3 rfl;by_cases hlt:k<n
 .have hk1:(k:Int)<(n:Int):=by omega
  go_wp2_with fail;with_reducible refine(aAM r n A es c _ _ _ (hr.mid hm oZl).rv (by omega) true (iff_of_true rfl HG.out)).mono ?_
  rintro en w4 ⟨rfl,hm4⟩;have hE4:=aAc HE.out hm4 oZl;replace b0:=b0.mid hm4 oZr;replace b2:=b2.mid hm4 oZr;replace Y3:=Y3.mid hm4 oZr;replace hleft:=aAc hleft hm4 oZl;replace hm:=hm.trans hm4;have hGo:G+1<=w4.heap.size:=Y3.1;have HL:=oH hleft;clear hleft HE;go_wp2_with (at_builtin;refine aBl rfl _ _ rfl (G+1) Al k cl (aPB k) rfl HL.out k rfl (by omega) hGo ?_;intro A9 c9 w9 hl9 hgr9 hat9)
  clear hat9;have hm9:=Mid.of_grownRow HL.out hgr9;have hE9:=hE4.kept hgr9 (aBP hE4 HL.out (by decide));go_roundw
  case rel=>exact⟨k+1,A9,k+1,c9,by omega,by go_num,rfl,oH (by rw[aIq]),by rw[aMx];exact hl9,oH hE9,b0.mid hm9 (Or.inl (by omega)),b2.mid hm9 (Or.inl (by omega)),Y3.mid hm9 (Or.inl (by omega)),hm.transNew hm9 (Or.inl (by omega))⟩
  simp[intOf];omega
 obtain rfl:k=n:=by omega
 go_wp2_with fail;clear p0 p1 p2;have hGo:=Y3.1;go_loopw [5,7] (fun l iv wr=>∃(i m s:Nat) (es1:List Ed) (A2:Option Addr) (c2:Nat) (Al:Option Addr) (cl:Nat) (xs:List Int),l=.slice Al s cl/\iv=.int .i64 i/\i+m=40/\Hid (trimA m ((s:Int),es1)=T)/\s<=m/\Hid (IsGr r s es1)/\wr.ownsRow (G+1) 3 1 (.slice Al s cl) s (aAd xs) /\
   Hid (wr.ownsRow (w.heap.size+2) 110 3 (.slice A2 es1.length c2) es1.length (aAd (edI es1)))/\Hid (Value.ownBlock (.slice A2 es1.length c2)≠some G)/\Box wr w.heap.size [.int .i64 r,.int .i64 k,.slice A es.length c]/\Box wr (w.heap.size+1) [.int .i64 0,.int .i64 0,.slice none 0 0]/\Box wr G [.int .i64 r,.int .i64 s,.slice A2 es1.length c2]/\Mid 0 0 w wr) (fun _ iv _=>40 - (intOf iv).toNat)
 case atStart=>exact⟨0,40,k,es,A1,c1,Al,cl,aPB k,rfl,rfl,by omega,HT,hn40,HG,hleft,HE,oH hbk0,b0,b2,Y3,hm⟩
 clear hleft HE b0 b2 Y3 hm HN hGo;obtain⟨wj,hwj⟩:∃ wj,wj=wr:=⟨_,rfl⟩
 subst hwj;obtain⟨i,m,s,es1,A2,c2,Al,cl,xs,rfl,rfl,him,HTm,hsm,HGs,hleft,HE,HBK,b0,b2,Y3,hm⟩:=hrel;have hs1:1<=s:=by have:=HGs.out.size;omega
 have hs40:s<=40:=by have:=HGs.out.size;omega
 have hl1:=HGs.out.len;have hi40:(i:Int)<40:=by omega
 obtain⟨p0,p1,p2⟩:=b0.c3 rfl;go_wp2_with fail;with_reducible refine(aAM r k A es c _ _ _ (hr.mid hm oZl).rv (by omega) true (iff_of_true rfl HG.out)).mono ?_
 rintro en w4 ⟨rfl,hm4⟩;have hE4:=aAc HE.out hm4 oZl;replace HE:=oH hE4;replace b0:=b0.mid hm4 oZr;replace b2:=b2.mid hm4 oZr;replace Y3:=Y3.mid hm4 oZr;replace hleft:=aAc hleft hm4 oZl;replace hm:=hm.trans hm4;clear p0 p1 p2 hE4 hm4;obtain⟨y0,y1,y2⟩:=Y3.c3 rfl;go_wp2_with fail;with_reducible refine(aJm r s A2 es1 c2 _ _ _ (aAy HE.out).rg HGs.out).mono ?_
 rintro en w5 ⟨rfl,hm5⟩;have hE5:=aAc HE.out hm5 oZl;replace HE:=oH hE5;replace b0:=b0.mid hm5 oZr;replace b2:=b2.mid hm5 oZr;replace Y3:=Y3.mid hm5 oZr;replace hleft:=aAc hleft hm5 oZl;replace hm:=hm.trans hm5;clear y0 y1 y2 hE5 hm5;obtain⟨y0,y1,y2⟩:=Y3.c3 rfl;cases hlf:leaf s es1 with
|none=>
  have hTT:=HTm.out;rw[aBX hlf] at hTT;have HTT:=oH hTT;rw[aHs hlf];obtain⟨z0,z1,z2⟩:=b2.c3 rfl;have zf:=b2.2.2;have hbs:=b2.1;clear hTT hlf;go_wp2_with fail;have hcl:(w.heap.size+1 == G)=false:=by simp;omega
  refine bodyPost_ret (v:=.tuple #[.agg #[.int .i64 r,.int .i64 s,.slice A2 es1.length c2],.slice Al s cl]) (by simp[results,Tryz.results183,go_sem,z0,z1,z2,zf,y0,y1,y2]) rfl ⟨A2,c2,Al,s,cl,by rw[<- HTT.out],?_,?_⟩
  .rw[<- HTT.out]
   have h0:OG w5 (w.heap.size+2) w5.heap.size A2 c2 es1:=⟨oN,HE.out,fun g hg=>(HE.out.lt g hg).2⟩
   refine OG.wide (OG.mid h0 (a:=w.heap.size+1) (b:=w.heap.size+2) ?_ (Or.inl oN)) (by omega) (by simp) oN;repeat (first|exact Mid.refl _ _ _|refine Mid.stored ?_ _ (by simp;try omega) (by simp;try omega))
  repeat (first|exact hm|refine Mid.storeNew ?_ (by simp;try omega) _)
|some g=>
  obtain⟨hg1,hgs', -⟩:=aCS hlf;have hgs:g<s:=by omega
  obtain⟨m',rfl⟩:∃ m',m=m'+1:=⟨m - 1,by omega⟩
  have hTT:=HTm.out;rw[aCp hlf] at hTT;have HTT:=oH hTT;have HCG:=oH (aMN (g:=((s:Int),es1)) HGs.out hg1 hgs');rw[aFt hlf];have dg0:decide ((g:Int)<0)=false:=by simp
  clear hTT hlf hgs';obtain⟨wk,hwk⟩:∃ wk,wk=w5:=⟨_,rfl⟩
  subst hwk;go_wp2_with fail;have hal:=(Mid.alloc wk (.cells #[] 3)).trans (Mid.alloc (wk.alloc (.cells #[] 3)) (.cells #[] 3));have T0:TwoI ((wk.alloc (.cells #[] 3)).alloc (.cells #[] 3)) wk.heap.size (.slice (some ⟨wk.heap.size,0,none⟩) 0 0) (.slice (some ⟨wk.heap.size+1,0,none⟩) 0 0) 0 0 [] []:=by
   refine⟨(aAi wk 3 1).alloc _,?_,?_⟩
   .have h:=aAi (wk.alloc (.cells #[] 3)) 3 1
    rw[World.size_alloc] at h;exact aAp h (Nat.le_succ _)
   simp[Value.ownBlock]
  clear y0 y1 y2;go_loopw [9,10,11] (fun o rs kv wr=>∃(kk:Nat) (Ao:Option Addr) (co:Nat) (Ar:Option Addr) (cr no:Nat) (ys:List Int),kk<=s/\kv=.int .i64 kk/\o=.slice Ao no co/\rs=.slice Ar no cr/\Hid ((but g kk).length=no)/\Hid (TwoI wr wk.heap.size (.slice Ao no co) (.slice Ar no cr) no no (but g kk) ys)/\Mid 0 0 wk wr) (fun _ _ kv _=>s - (intOf kv).toNat)
  case atStart=>exact⟨0,_,0,_,0,0,[],oZ,rfl,rfl,rfl,oH rfl,oH T0,hal⟩
  clear T0 hal;obtain⟨kk,Ao,co,Ar,cr,no,ys,hkk,rfl,rfl,rfl,HNo,HT2,hmy⟩:=hrel;have hno:no<=40:=by
   have h1:(but g kk).length<=kk:=by unfold but;rw[List.length_map];exact Nat.le_trans (List.length_filter_le _ _) (by simp)
   have h2:=HNo.out;omega
  have Y4:=Y3.mid hmy oZr;obtain⟨y0,y1,y2⟩:=Y4.c3 rfl;by_cases hlt:kk<s
  .have hbs:=aEu g kk
   have hk3:(kk:Int)<(s:Int):=by omega
   have hk0:(0:Int)<=(kk:Int):=by omega
   by_cases hkg:kk=g
   .have d3:((kk:Int) != (g:Int))=false:=by simp;omega
    rw[if_pos hkg] at hbs;have HBS:=oH hbs;clear hbs hkg;go_wp2_with fail;go_roundw
    case rel=>exact⟨kk+1,Ao,co,Ar,cr,no,ys,by omega,by go_num,rfl,rfl,by rw[HBS.out];exact HNo,by rw[HBS.out];exact HT2,hmy⟩
    simp[intOf];omega
   have d3:((kk:Int) != (g:Int))=true:=by simp;omega
   rw[if_neg hkg] at hbs;have HBS:=oH hbs;have hsz:=hmy.size;obtain⟨gl,rfl,hgl1,hgl2⟩:=aAU hleft (show 0<s by omega);obtain⟨y,hy⟩:=aAs xs (show kk<xs.length by have h:=hleft.1;simp[aAd] at h;omega);have hyc:∀ W:World,Mid wk.heap.size W.heap.size wk W->True:=fun _ _=>trivial;have HLF:=oH hleft;have HY:=oH hy;clear hbs hkg hy hyc;go_wp2_with (first|(at_builtin;refine aHR rfl _ _ rfl wk.heap.size Ao no co (but g kk) _ _ _ rfl HT2.out kk rfl (by omega) hsz ?_;intro A7 c7 w7 ht7 hm7;have hmw:=hmy.transNew hm7 (Or.inl oN);have hcx:=((aAc HLF.out hmw oZl).cellAt kk (by omega)).trans (show(aAd xs)[kk]?=some (.int .i64 y) by simp[aAd,HY.out]);have hsz7:=hmw.size;have HT7:=oH ht7.swap;clear ht7)|(at_builtin;refine aHR rfl _ _ rfl wk.heap.size Ar no cr ys _ _ _ rfl HT7.out y rfl (by omega) hsz7 ?_;intro A9 c9 w9 ht9 hm9))
   go_roundw
   case rel=>exact⟨kk+1,A7,c7,A9,c9,no+1,ys++[y],by omega,by go_num,rfl,rfl,oH (by rw[HBS.out,List.length_append,HNo.out];rfl),oH (by rw[HBS.out];exact ht9.swap),hmw.transNew hm9 (Or.inl oN)⟩
   simp[intOf];omega
  obtain rfl:kk=s:=by omega
  have hln:(but g kk).length=no:=HNo.out;have hn1:no=kk - 1:=by rw[<- hln,aET g hgs]
  obtain⟨es2,hes2⟩:∃ es2,aBn (but g kk) es1=es2:=⟨_,rfl⟩
  have hcv:aJJ ((kk:Int),es1) g=((no:Int),es2):=by unfold aJJ;simp only[Int.toNat_natCast];rw[hln,hes2]
  have hE6:=aAc HE.out hmy oZl;have hP:=aCz r kk A2 es1 c2 Ao (but g kk) co wr _ _ _ _ (aAy hE6).rg (aAy HT2.out.f) HGs.out (aDZ g kk) (fun x hx=>aGy hx) (by omega);have HN1:=oH hn1;rw[hln,hes2] at hP;have HP:=oH hP;have hTT2:=HTT.out;rw[hcv] at hTT2;have hgr2:=HCG.out;rw[hcv] at hgr2;have HTT2:=oH hTT2;have HG2:=oH hgr2;have hwks:G+1<=wk.heap.size:=Y3.1;have hto:=HT2.out.t;clear hP hTT2 hgr2 hcv hes2 hln HTT HCG HE hE6 hn1;go_wp2_with fail;with_reducible refine HP.out.mono ?_
  rintro en w8 ⟨A3,c3,rfl,hog,hm8⟩;clear HP;have hogw:wk.heap.size<=wr.heap.size:=hmy.size;replace hto:=aAc hto hm8 oZl;have hm28:=hmy.trans hm8;clear Y4 y0 y1 y2;replace b0:=b0.mid hm28 oZr;replace b2:=b2.mid hm28 oZr;replace Y3:=Y3.mid hm28 oZr;replace hm:=hm.trans hm28;clear hmy hm8 hm28;obtain⟨y0,y1,y2⟩:=Y3.c3 rfl;have yf:=Y3.2.2;go_wp2_with fail;have hst:=(Mid.setAt w8 G 0 (.int .i64 r)).trans ((Mid.setAt (w8.setCell ⟨G,0,none⟩ (.int .i64 r)) G 1 (.int .i64 no)).trans (Mid.setAt ((w8.setCell ⟨G,0,none⟩ (.int .i64 r)).setCell ⟨G,1,none⟩ (.int .i64 no)) G 2 (.slice A3 es2.length c3)));have Y5:=Y3.s3 (.int .i64 r) (.int .i64 no) (.slice A3 es2.length c3);have hm5:=hm.n3 G (by omega) (.int .i64 r) (.int .i64 no) (.slice A3 es2.length c3);replace b0:=b0.mid hst (Or.inl (by omega));replace b2:=b2.mid hst (Or.inl (by omega));replace hto:=aAp (aAc hto hst (Or.inl hwks)) hwks;have hoe:=(OG.mid hog hst (Or.inl (by omega))).ov.2.1;have hbk9:Value.ownBlock (.slice A3 es2.length c3)≠some G:=fun h=>by have:=(hoe.lt _ h).1;omega
  go_roundw
  case rel=>exact⟨i+1,m',no,es2,A3,c3,Ar,cr,ys,rfl,by go_num,by omega,HTT2,by have:=HN1.out;omega,HG2,hto,oH (aAp hoe (by omega)),oH hbk9,b0,b2,Y5,hm5⟩
  simp[intOf];omega
theorem aFj{r:Int}{g:Int × List Ed}(h:IsGr r g.1 g.2):∃(n:Nat) (es:List Ed),g=((n:Int),es)/\IsGr r n es:=by
 obtain⟨s,es⟩:=g;have h1:1<=s:=h.size.1;obtain⟨n,rfl⟩:∃ n:Nat,s=n:=⟨s.toNat,by omega⟩
 exact⟨n,es,rfl,h⟩
theorem aUt{w:World}{lo hi:Nat}{A:Option Addr}{c:Nat}{es:List Ed}(h:OG w lo hi A c es):es.length<=c:=by
 obtain⟨A',c',hv0,hsc,hcm⟩:=aAg h.ov.2.1;injection hv0 with _ _ hv0
 omega
theorem aCO(r n:Nat)(A:Option Addr)(es:List Ed)(c:Nat)(w:World)(lo hi:Nat)(hr:RG w lo hi A es)(hg:IsGr r n es) :
  Calls Tryz.prog 104 #[aAw r n A es.length c] w fun e w'=>∃ A1 c1,e=.returned (aAw r (coreA r ((n:Int),es)).1 A1 (coreA r ((n:Int),es)).2.length c1)/\OG w' w.heap.size w'.heap.size A1 c1 (coreA r ((n:Int),es)).2/\Mid 0 0 w w':=by
 obtain⟨f,fs,hF,hgf⟩:=aFj (aGD 40 (g:=((n:Int),es)) hg);obtain⟨t,ts,hT,hgt⟩:=aFj (aHg 40 (g:=((f:Int),fs)) hgf);obtain⟨q,qs,hQ, -⟩:=aFj (aEU (g:=((t:Int),ts)) hgt);have hcore:coreA r ((n:Int),es)=((q:Int),qs):=by rw[coreA,hF,hT,hQ]
 rw[hcore];have hm0:Mid 0 0 w ((w.alloc (.cells #[.int .i64 r,.int .i64 n,.slice A es.length c] 35)).alloc (.cells #[.int .i64 0,.int .i64 0,.slice none 0 0] 35)):=(Mid.alloc _ _).trans (Mid.alloc _ _);have b2:=Box.new (w.alloc (.cells #[.int .i64 r,.int .i64 n,.slice A es.length c] 35)) #[.int .i64 0,.int .i64 0,.slice none 0 0] 35;simp only[World.size_alloc] at b2;have HG:=oH hg;have HGF:=oH hgf;have HGT:=oH hgt;have HF:=oH hF;have HT:=oH hT;have HQ:=oH hQ;clear hg hgf hgt hF hT hQ hcore;go_enter Tryz.func104,Tryz.ntmps104
 go_wp2_with fail;generalize ((w.alloc (.cells #[.int .i64 r,.int .i64 n,.slice A es.length c] 35)).alloc (.cells #[.int .i64 0,.int .i64 0,.slice none 0 0] 35))=w1 at hm0 b2 |-;have hP1:=aMr r n A es c w1 _ _ (hr.mid hm0 oZl) HG.out;rw[HF.out] at hP1;with_reducible refine hP1.mono ?_
 rintro en w2 ⟨A1,c1,Al,nl,cl,rfl,ho1,hm2⟩;clear hP1;have hs1:w.heap.size+1<w1.heap.size:=b2.1;have hs2:=hm2.size;have ha2:=Mid.alloc w2 (.cells #[.int .i64 r,.int .i64 f,.slice A1 fs.length c1] 35);have Y1:=Box.new w2 #[.int .i64 r,.int .i64 f,.slice A1 fs.length c1] 35;replace b2:=b2.mid hm2 oZr;replace hm0:=hm0.trans hm2;replace b2:=b2.mid ha2 oZr;replace ho1:=ho1.mid ha2 oZl;replace hm0:=hm0.trans ha2;dsimp only;go_wp2_with fail;generalize w2.alloc (.cells #[.int .i64 r,.int .i64 f,.slice A1 fs.length c1] 35)=w3 at hm0 b2 ho1 Y1 ha2 |-;have hP2:=aJA r f A1 fs c1 w3 _ _ (OG.rg ho1) HGF.out;rw[HT.out] at hP2;with_reducible refine hP2.mono ?_
 rintro en w4 ⟨A3,c3,Al3,nl3,cl3,rfl,ho3,hm4⟩;clear hP2;have hs3:=ha2.size;have hs4:=hm4.size;have ha4:=Mid.alloc w4 (.cells #[.int .i64 r,.int .i64 t,.slice A3 ts.length c3] 35);replace b2:=b2.mid hm4 oZr;replace hm0:=hm0.trans hm4;replace b2:=b2.mid ha4 oZr;replace ho3:=ho3.mid ha4 oZl;replace hm0:=hm0.trans ha4;dsimp only;go_wp2_with fail;generalize w4.alloc (.cells #[.int .i64 r,.int .i64 t,.slice A3 ts.length c3] 35)=w5 at hm0 b2 ho3 ha4 |-;have hP3:=aDA r t A3 ts c3 w5 _ _ (OG.rg ho3) HGT.out;rw[HQ.out] at hP3;with_reducible refine hP3.mono ?_
 rintro en w6 ⟨A5,c5,rfl,ho5,hm6⟩;clear hP3;have hs5:=ha4.size;replace b2:=b2.mid hm6 oZr;replace hm0:=hm0.trans hm6;obtain⟨z0,z1,z2⟩:=b2.c3 rfl;have zf:=b2.2.2;dsimp only at ho5;dsimp only;go_wp2_with fail;refine bodyPost_ret (v:=.agg #[.int .i64 r,.int .i64 q,.slice A5 qs.length c5]) (by simp[results,Tryz.results104,go_sem,z0,z1,z2,zf]) rfl ⟨A5,c5,rfl,?_,?_⟩
 .refine OG.wide (OG.mid ho5 (a:=w.heap.size+1) (b:=w.heap.size+2) ?_ (Or.inl (by omega))) (by omega) (by simp) oN
  repeat (first|exact Mid.refl _ _ _|refine Mid.stored ?_ _ (by simp;try omega) (by simp;try omega))
 repeat (first|exact hm0|refine Mid.storeNew ?_ (by simp;try omega) _)
theorem aFS(r n:Nat)(A:Option Addr)(es:List Ed)(c:Nat)(w:World)(lo hi:Nat)(hr:RG w lo hi A es)(hg:IsGr r n es) :
  Calls Tryz.prog 119 #[aAw r n A es.length c] w fun e w'=>∃ A1 c1,e=.returned (aAw r (coreA r ((n:Int),es)).1 A1 (coreA r ((n:Int),es)).2.length c1)/\OG w' w.heap.size w'.heap.size A1 c1 (coreA r ((n:Int),es)).2/\Mid 0 0 w w':=by
 obtain⟨f,fs,hF,hgf⟩:=aFj (aGD 40 (g:=((n:Int),es)) hg);obtain⟨t,ts,hT,hgt⟩:=aFj (aHg 40 (g:=((f:Int),fs)) hgf);obtain⟨q,qs,hQ, -⟩:=aFj (aEU (g:=((t:Int),ts)) hgt);have hcore:coreA r ((n:Int),es)=((q:Int),qs):=by rw[coreA,hF,hT,hQ]
 rw[hcore];have hm0:Mid 0 0 w ((w.alloc (.cells #[.int .i64 r,.int .i64 n,.slice A es.length c] 35)).alloc (.cells #[.int .i64 0,.int .i64 0,.slice none 0 0] 35)):=(Mid.alloc _ _).trans (Mid.alloc _ _);have b2:=Box.new (w.alloc (.cells #[.int .i64 r,.int .i64 n,.slice A es.length c] 35)) #[.int .i64 0,.int .i64 0,.slice none 0 0] 35;simp only[World.size_alloc] at b2;have HG:=oH hg;have HGF:=oH hgf;have HGT:=oH hgt;have HF:=oH hF;have HT:=oH hT;have HQ:=oH hQ;clear hg hgf hgt hF hT hQ hcore;go_enter Tryz.func119,Tryz.ntmps119
 go_wp2_with fail;generalize ((w.alloc (.cells #[.int .i64 r,.int .i64 n,.slice A es.length c] 35)).alloc (.cells #[.int .i64 0,.int .i64 0,.slice none 0 0] 35))=w1 at hm0 b2 |-;have hP1:=aLN r n A es c w1 _ _ (hr.mid hm0 oZl) HG.out;rw[HF.out] at hP1;with_reducible refine hP1.mono ?_
 rintro en w2 ⟨A1,c1,Al,nl,cl,rfl,ho1,hm2⟩;clear hP1;have hs1:w.heap.size+1<w1.heap.size:=b2.1;have hs2:=hm2.size;have ha2:=Mid.alloc w2 (.cells #[.int .i64 r,.int .i64 f,.slice A1 fs.length c1] 35);have Y1:=Box.new w2 #[.int .i64 r,.int .i64 f,.slice A1 fs.length c1] 35;replace b2:=b2.mid hm2 oZr;replace hm0:=hm0.trans hm2;replace b2:=b2.mid ha2 oZr;replace ho1:=ho1.mid ha2 oZl;replace hm0:=hm0.trans ha2;dsimp only;go_wp2_with fail;generalize w2.alloc (.cells #[.int .i64 r,.int .i64 f,.slice A1 fs.length c1] 35)=w3 at hm0 b2 ho1 Y1 ha2 |-;have hP2:=aFU r f A1 fs c1 w3 _ _ (OG.rg ho1) HGF.out;rw[HT.out] at hP2;with_reducible refine hP2.mono ?_
 rintro en w4 ⟨A3,c3,Al3,nl3,cl3,rfl,ho3,hm4⟩;clear hP2;have hs3:=ha2.size;have hs4:=hm4.size;have ha4:=Mid.alloc w4 (.cells #[.int .i64 r,.int .i64 t,.slice A3 ts.length c3] 35);replace b2:=b2.mid hm4 oZr;replace hm0:=hm0.trans hm4;replace b2:=b2.mid ha4 oZr;replace ho3:=ho3.mid ha4 oZl;replace hm0:=hm0.trans ha4;dsimp only;go_wp2_with fail;generalize w4.alloc (.cells #[.int .i64 r,.int .i64 t,.slice A3 ts.length c3] 35)=w5 at hm0 b2 ho3 ha4 |-;have hP3:=aDq r t A3 ts c3 w5 _ _ (OG.rg ho3) (aUt ho3) HGT.out;rw[HQ.out] at hP3;with_reducible refine hP3.mono ?_
 rintro en w6 ⟨A5,c5,rfl,ho5,hm6⟩;clear hP3;have hs5:=ha4.size;replace b2:=b2.mid hm6 oZr;replace hm0:=hm0.trans hm6;obtain⟨z0,z1,z2⟩:=b2.c3 rfl;have zf:=b2.2.2;dsimp only at ho5;dsimp only;go_wp2_with fail;refine bodyPost_ret (v:=.agg #[.int .i64 r,.int .i64 q,.slice A5 qs.length c5]) (by simp[results,Tryz.results119,go_sem,z0,z1,z2,zf]) rfl ⟨A5,c5,rfl,?_,?_⟩
 .refine OG.wide (OG.mid ho5 (a:=w.heap.size+1) (b:=w.heap.size+2) ?_ (Or.inl (by omega))) (by omega) (by simp) oN
  repeat (first|exact Mid.refl _ _ _|refine Mid.stored ?_ _ (by simp;try omega) (by simp;try omega))
 repeat (first|exact hm0|refine Mid.storeNew ?_ (by simp;try omega) _)
def aUa(r s:Int)(es:List Ed)(rs:Int)(b:Bool):Prop:=(b=true/\(IsGr r s es/\s<40)/\rs=s+1) \/ (b=false/\¬ (IsGr r s es/\s<40)/\rs=s)
theorem MoveIs.no{r s:Int}{es:List Ed}{v rs:Int}{res:List Ed}{b:Bool}(h:MoveIs r s es v rs res b)(hn:¬ (IsFol r s es/\0<=v/\v<s)):b=false/\rs=s/\res=es:=by
 rcases h with⟨-,h, -⟩|⟨h1, -,h2⟩
 .exact absurd h hn
 exact⟨h1,h2⟩
theorem MoveIs.yes{r s:Int}{es:List Ed}{v rs:Int}{res:List Ed}{b:Bool}(h:MoveIs r s es v rs res b)(hn:IsFol r s es/\0<=v/\v<s):b=true/\rs=(moveA r s es v).1/\res=(moveA r s es v).2:=by
 rcases h with⟨h1, -,h2⟩|⟨-,h, -⟩
 .exact⟨h1,h2⟩
 exact absurd hn h
theorem aPE(r s:Int)(es:List Ed)(v:Int):∃ rs res b,MoveIs r s es v rs res b:=by
 by_cases h:IsFol r s es/\0<=v/\v<s
 .exact⟨_,_,_,.inl ⟨rfl,h,rfl,rfl⟩⟩
 exact⟨_,_,_,.inr ⟨rfl,h,rfl,rfl⟩⟩
theorem aFW(r s:Int)(A:Option Addr)(es:List Ed)(c:Nat)(w:World)(lo hi:Nat)(hr:RG w lo hi A es)(hl:es.length<=1048576)(rs:Int)(b:Bool)(hres:aUa r s es rs b) :
  Calls Tryz.prog 211 #[aAw r s A es.length c] w fun e w'=>∃ A1 c1,e=.returned (.tuple #[aAw r rs A1 es.length c1,.bool b])/\OG w' w.heap.size w'.heap.size A1 c1 es/\Mid 0 0 w w':=by
 have hm0:Mid 0 0 w ((w.alloc (.cells #[.int .i64 r,.int .i64 s,.slice A es.length c] 35)).alloc (.cells #[.int .i64 0,.int .i64 0,.slice none 0 0] 35)):=(Mid.alloc _ _).trans (Mid.alloc _ _);have B0:=(Box.new w #[.int .i64 r,.int .i64 s,.slice A es.length c] 35).mid (Mid.alloc _ (.cells #[.int .i64 0,.int .i64 0,.slice none 0 0] 35)) oZr;have B2:=Box.new (w.alloc (.cells #[.int .i64 r,.int .i64 s,.slice A es.length c] 35)) #[.int .i64 0,.int .i64 0,.slice none 0 0] 35;simp only[World.size_alloc] at B2;obtain⟨b1,hb1⟩:=aAC (IsGr r s es);have H1:=oH hb1;clear hb1;go_enter Tryz.func211,Tryz.ntmps211
 go_wp2_with fail;generalize ((w.alloc (.cells #[.int .i64 r,.int .i64 s,.slice A es.length c] 35)).alloc (.cells #[.int .i64 0,.int .i64 0,.slice none 0 0] 35))=w1 at hm0 B0 B2 |-;have hs1:w.heap.size+1<w1.heap.size:=B2.1;with_reducible refine(aBp r s A es c _ _ _ (hr.mid hm0 oZl) hl).mono ?_
 rintro en w2 ⟨A1,c1,rfl,ho2,hm2⟩;have hal:=Mid.alloc w2 (.cells #[.int .i64 r,.int .i64 s,.slice A1 es.length c1] 35);have Y3:=Box.new w2 #[.int .i64 r,.int .i64 s,.slice A1 es.length c1] 35;have hs2:=hm2.size;replace B0:=B0.mid hm2 oZr;replace B2:=B2.mid hm2 oZr;replace hm0:=hm0.trans hm2;replace B0:=B0.mid hal oZr;replace B2:=B2.mid hal oZr;replace hm0:=hm0.trans hal;have ho5:=(ho2.mid hal oZl)
 obtain⟨p0,p1,p2⟩:=B0.c3 rfl;go_wp2_with fail;generalize w2.alloc (.cells #[.int .i64 r,.int .i64 s,.slice A1 es.length c1] 35)=w3 at hm0 B0 B2 Y3 ho5 p0 p1 p2 |-;have hG3:w2.heap.size<w3.heap.size:=Y3.1;with_reducible refine(aAM r s A es c _ _ _ (hr.mid hm0 oZl).rv hl b1 H1.out).mono ?_
 rintro en w4 ⟨rfl,hm4⟩;replace B0:=B0.mid hm4 oZr;replace B2:=B2.mid hm4 oZr;replace Y3:=Y3.mid hm4 oZr;replace ho5:=ho5.mid hm4 oZl;replace hm0:=hm0.trans hm4;have hs4:=hm4.size;clear p0 p1 p2 hm4 ho2 hal;obtain⟨p0,p1,p2⟩:=B0.c3 rfl;obtain⟨q0,q1,q2⟩:=Y3.c3 rfl;cases b1 with
|false=>
  have hno:¬ (IsGr r s es/\s<40):=fun h=>by have:=H1.out.2 h.1;cases this
  obtain⟨rfl,rfl⟩:b=false/\rs=s:=by
   rcases hres with⟨-,h, -⟩|⟨h1, -,h2⟩
   .exact absurd h hno
   exact⟨h1,h2⟩
  clear hres hno;obtain⟨a0,a1,a2⟩:=B2.c3 rfl;have af:=B2.2.2;go_wp2_with fail;refine bodyPost_ret (v:=.tuple #[.agg #[.int .i64 r,.int .i64 rs,.slice A1 es.length c1],.bool false]) (by simp[results,Tryz.results211,go_sem,a0,a1,a2,af,q0,q1,q2]) rfl ⟨A1,c1,rfl,?_,?_⟩
  .refine OG.wide (OG.mid ho5 (a:=w.heap.size) (b:=w.heap.size+2) ?_ (Or.inl (by omega))) (by omega) (by have:=ho5.size;simp;omega) oN
   repeat (first|exact Mid.refl _ _ _|refine Mid.stored ?_ _ (by simp;try omega) (by simp;try omega))
  repeat (first|exact hm0|refine Mid.storeNew ?_ (by simp;try omega) _)
|true=>
 have hgr:=H1.out.1 rfl;have hsz:=hgr.size;have GR:=oH hgr;clear hgr H1;by_cases h40:s<40
 .obtain⟨rfl,rfl⟩:b=true/\rs=s+1:=by
   rcases hres with⟨h1, -,h2⟩|⟨-,h, -⟩
   .exact⟨h1,h2⟩
   exact absurd ⟨GR.out,h40⟩ h
  have d40:(s == 40)=false:=by simp only[beq_eq_false_iff_ne];omega
  have d40':decide ((40:Int)<=s)=false:=by simp;omega
  have hw1:IntKind.i64.wrap (s+1)=s+1:=IntWalk.i64_in _ (by omega);have hst:=Mid.setCell w4 (lo:=w2.heap.size) (hi:=w2.heap.size+1) (p:=⟨w2.heap.size,1,none⟩) (.int .i64 (s+1)) oN oS;have qf:=Y3.2.2;have Y4:=Y3.set 1 (.int .i64 (s+1)) (by simp) rfl;simp only[List.set_cons_succ,List.set_cons_zero] at Y4;obtain⟨r0,r1,r2⟩:=Y4.c3 rfl;have B4:=B2.mid hst (Or.inl (by omega));have hm9:=hm0.storeNew (p:=⟨w2.heap.size,1,none⟩) (by show w.heap.size<=w2.heap.size;omega) (.int .i64 (s+1));have ho9:=ho5.mid hst (Or.inr oN);have hcl:(w.heap.size+1 == w2.heap.size)=false:=by simp;omega
  have hsp:w.heap.size+1<w2.heap.size:=by omega
  obtain⟨a0,a1,a2⟩:=B2.c3 rfl;have af:=B2.2.2;clear hres;go_wp2_with fail;refine bodyPost_ret (v:=.tuple #[.agg #[.int .i64 r,.int .i64 (s+1),.slice A1 es.length c1],.bool true]) (by simp[results,Tryz.results211,go_sem,a0,a1,a2,af,q0,q1,q2,qf]) rfl ⟨A1,c1,rfl,?_,?_⟩
  .refine OG.wide (OG.mid ho9 (a:=w.heap.size) (b:=w.heap.size+2) ?_ (Or.inl (by omega))) (by omega) (by have:=ho9.size;simp at this |-;omega) oN
   repeat (first|exact Mid.refl _ _ _|refine Mid.stored ?_ _ (by simp;try omega) (by simp;try omega))
  repeat (first|exact hm9|refine Mid.storeNew ?_ (by simp;try omega) _)
 obtain⟨rfl,rfl⟩:b=false/\rs=s:=by
  rcases hres with⟨-,h, -⟩|⟨h1, -,h2⟩
  .exact absurd h.2 h40
  exact⟨h1,h2⟩
 have d40:(rs == 40)=true:=by simp only[beq_iff_eq];omega
 have d40':decide ((40:Int)<=rs)=true:=by simp;omega
 clear hres;obtain⟨a0,a1,a2⟩:=B2.c3 rfl;have af:=B2.2.2;go_wp2_with fail;refine bodyPost_ret (v:=.tuple #[.agg #[.int .i64 r,.int .i64 rs,.slice A1 es.length c1],.bool false]) (by simp[results,Tryz.results211,go_sem,a0,a1,a2,af,q0,q1,q2]) rfl ⟨A1,c1,rfl,?_,?_⟩
 .refine OG.wide (OG.mid ho5 (a:=w.heap.size) (b:=w.heap.size+2) ?_ (Or.inl (by omega))) (by omega) (by have:=ho5.size;simp;omega) oN
  repeat (first|exact Mid.refl _ _ _|refine Mid.stored ?_ _ (by simp;try omega) (by simp;try omega))
 repeat (first|exact hm0|refine Mid.storeNew ?_ (by simp;try omega) _)
theorem aHe(r s:Int)(A:Option Addr)(es:List Ed)(c:Nat)(v:Int)(w:World)(lo hi:Nat)(hr:RG w lo hi A es)(hl:es.length<=1048576)(hvw:-9223372036854775808<=v/\v<=9223372036854775807)(rs:Int)(res:List Ed)(b:Bool)(hres:MoveIs r s es v rs res b) :
  Calls Tryz.prog 213 #[aAw r s A es.length c,.int .i64 v] w fun e w'=>∃ A1 c1,e=.returned (.tuple #[aAw r rs A1 res.length c1,.bool b])/\OG w' w.heap.size w'.heap.size A1 c1 res/\Mid 0 0 w w':=by
 have hm0:Mid 0 0 w ((w.alloc (.cells #[.int .i64 r,.int .i64 s,.slice A es.length c] 35)).alloc (.cells #[.int .i64 0,.int .i64 0,.slice none 0 0] 35)):=(Mid.alloc _ _).trans (Mid.alloc _ _);have b0:=(Box.new w #[.int .i64 r,.int .i64 s,.slice A es.length c] 35).mid (Mid.alloc _ (.cells #[.int .i64 0,.int .i64 0,.slice none 0 0] 35)) oZr;have b2:=Box.new (w.alloc (.cells #[.int .i64 r,.int .i64 s,.slice A es.length c] 35)) #[.int .i64 0,.int .i64 0,.slice none 0 0] 35;simp only[World.size_alloc] at b2;have HR:=oH hres;clear hres;obtain⟨b1,hb1⟩:=aAC (IsFol r s es);have H1:=oH hb1;clear hb1;go_enter Tryz.func213,Tryz.ntmps213
 go_wp2_with fail;generalize ((w.alloc (.cells #[.int .i64 r,.int .i64 s,.slice A es.length c] 35)).alloc (.cells #[.int .i64 0,.int .i64 0,.slice none 0 0] 35))=w1 at hm0 b0 b2 |-;have hs1:w.heap.size+1<w1.heap.size:=b2.1;with_reducible refine(aAT r s A es c _ _ _ (hr.mid hm0 oZl) hl b1 H1.out).mono ?_
 rintro en w2 ⟨rfl,hm2⟩;replace b0:=b0.mid hm2 oZr;replace b2:=b2.mid hm2 oZr;replace hm0:=hm0.trans hm2;have hs2:=hm2.size;obtain⟨p0,p1,p2⟩:=b0.c3 rfl;cases b1 with
|false=>
  have hno:¬ (IsFol r s es/\0<=v/\v<s):=fun h=>by have:=H1.out.2 h.1;cases this
  obtain⟨rfl,rfl,rfl⟩:=HR.out.no hno;clear hno HR;go_wp2_with fail;with_reducible refine(aBp r rs A res c _ _ _ (hr.mid hm0 oZl) hl).mono ?_
  rintro en w8 ⟨A8,c8,rfl,ho8,hm8⟩;replace b2:=b2.mid hm8 oZr;replace hm0:=hm0.trans hm8;have hs8:=hm8.size;have hbx:=b2.1;obtain⟨z0,z1,z2⟩:=b2.c3 rfl;have zf:=b2.2.2;clear p0 p1 p2;go_wp2_with fail;refine bodyPost_ret (v:=.tuple #[.agg #[.int .i64 r,.int .i64 rs,.slice A8 res.length c8],.bool false]) (by simp[results,Tryz.results213,go_sem,z0,z1,z2,zf]) rfl ⟨A8,c8,rfl,?_,?_⟩
  .refine OG.wide (OG.mid ho8 (a:=w.heap.size+1) (b:=w.heap.size+2) ?_ (Or.inl (by omega))) (by omega) (by simp) oN
   repeat (first|exact Mid.refl _ _ _|refine Mid.stored ?_ _ (by simp;try omega) (by simp;try omega))
  repeat (first|exact hm0|refine Mid.storeNew ?_ (by simp;try omega) _)
|true=>
 have hfol:=H1.out.1 rfl;have hsz:=hfol.gr.size;have HF:=oH hfol;clear hfol H1;obtain⟨b3,hb3⟩:=aAC (0<=v/\v<s);have H3:=oH hb3;clear hb3;have hwsub:IntKind.i64.wrap (s - 1)=s - 1:=IntWalk.i64_in _ (by omega);go_wp2_with fail;with_reducible refine(aBJ (aFs hsz.1 hsz.2 H3.out).2 _).mono ?_
 rintro en w3 ⟨rfl,rfl⟩;clear p0 p1 p2;obtain⟨p0,p1,p2⟩:=b0.c3 rfl;cases b3 with
|false=>
  have hno:¬ (IsFol r s es/\0<=v/\v<s):=fun h=>by have:=H3.out.2 h.2;cases this
  obtain⟨rfl,rfl,rfl⟩:=HR.out.no hno;clear hno HR;go_wp2_with fail;with_reducible refine(aBp r rs A res c _ _ _ (hr.mid hm0 oZl) hl).mono ?_
  rintro en w8 ⟨A8,c8,rfl,ho8,hm8⟩;replace b2:=b2.mid hm8 oZr;replace hm0:=hm0.trans hm8;have hs8:=hm8.size;have hbx:=b2.1;obtain⟨z0,z1,z2⟩:=b2.c3 rfl;have zf:=b2.2.2;clear p0 p1 p2;go_wp2_with fail;refine bodyPost_ret (v:=.tuple #[.agg #[.int .i64 r,.int .i64 rs,.slice A8 res.length c8],.bool false]) (by simp[results,Tryz.results213,go_sem,z0,z1,z2,zf]) rfl ⟨A8,c8,rfl,?_,?_⟩
  .refine OG.wide (OG.mid ho8 (a:=w.heap.size+1) (b:=w.heap.size+2) ?_ (Or.inl (by omega))) (by omega) (by simp) oN
   repeat (first|exact Mid.refl _ _ _|refine Mid.stored ?_ _ (by simp;try omega) (by simp;try omega))
  repeat (first|exact hm0|refine Mid.storeNew ?_ (by simp;try omega) _)
|true=>
 have hv:=H3.out.1 rfl;obtain⟨rfl,hrs,hre⟩:=HR.out.yes ⟨HF.out,hv⟩;obtain⟨rn,rfl⟩:∃ rn:Nat,r=rn:=⟨r.toNat,by have:=HF.out.gr.rank;omega⟩
 obtain⟨sn,rfl⟩:∃ sn:Nat,s=sn:=⟨s.toNat,by omega⟩
 obtain⟨vn,rfl⟩:∃ vn:Nat,v=vn:=⟨v.toNat,by omega⟩
 have hvn:vn<sn:=by omega
 have hsn40:sn<=40:=by omega
 have hmo:=aKN (s:=(sn:Int)) (v:=(vn:Int)) hv;have hgm:=aTD HF.out.gr hv;have hmd:moveA (rn:Int) sn es vn=coreA rn ((sn:Int),aBn (aFi sn vn) es):=rfl;rw[hmd] at hrs hre;obtain⟨q,qs,hQ, -⟩:=aFj (aDb (g:=((sn:Int),aBn (aFi sn vn) es)) hgm);rw[hQ] at hrs hre;subst hrs;subst res;have hord:aFi (sn:Int) vn=((vn:Nat):Int)::but vn sn:=by simp[aFi]
 rw[hord] at hmo hgm hQ;obtain⟨ord,hord2⟩:∃ ord,((vn:Nat):Int)::but vn sn=ord:=⟨_,rfl⟩
 have HORD:=oH hord2;rw[hord2] at hmo hgm hQ;have hol:ord.length=sn:=by have:=hmo.1;omega
 have HOL:=oH hol;have HMO:=oH hmo;have HGM:=oH hgm;have HQ:=oH hQ;have O0:=aGR w2 3 (.int .i64 (vn:Int));have hal:=Mid.alloc w2 (.cells #[.int .i64 (vn:Int)] 3);have hw3:w.heap.size+1<w2.heap.size:=b2.1;replace b0:=b0.mid hal oZr;replace b2:=b2.mid hal oZr;replace hm0:=hm0.trans hal;clear HR H3 hmd hord hord2 hmo hgm hQ hol hv;clear p0 p1 p2;go_wp2_with fail;go_loopw [6,7] (fun out i wr=>∃(k n1:Nat) (A1:Option Addr) (c1:Nat),k<=sn/\i=.int .i64 k/\out=.slice A1 n1 c1/\Hid (n1=(but vn k).length+1)/\w2.heap.size<=wr.heap.size/\wr.ownsRow w2.heap.size 3 1 (.slice A1 n1 c1) n1 (aAd (((vn:Nat):Int)::but vn k)) /\
   Box wr w.heap.size [.int .i64 rn,.int .i64 sn,.slice A es.length c]/\Box wr (w.heap.size+1) [.int .i64 0,.int .i64 0,.slice none 0 0]/\Mid 0 0 w wr) (fun _ i _=>sn - (intOf i).toNat)
 case atStart=>exact⟨0,1,_,1,oZ,rfl,rfl,oH rfl,by simp,O0,b0,b2,hm0⟩
 clear O0 b0 b2 hm0 hal;obtain⟨k,n1,A1,c1,hk,rfl,rfl,HN,hwr,hown,b0,b2,hm⟩:=hrel;obtain⟨p0,p1,p2⟩:=b0.c3 rfl;have hn1:n1<=100:=by
  have h1:=HN.out;have h2:(but vn k).length<=k:=by rw[but,List.length_map];exact Nat.le_trans (List.length_filter_le _ _) (by simp)
  omega
 by_cases hlt:k<sn
 .have hbs:=aEu vn k
  have hk1:(k:Int)<(sn:Int):=by omega
  by_cases hkv:k=vn
  .rw[if_pos hkv] at hbs
   have HBS:=oH hbs;have dk:((k:Int) != (vn:Int))=false:=by rw[hkv];simp
   clear hbs;have HKV:=oH hkv;clear hkv;go_wp2_with fail;go_roundw
   case rel=>exact⟨k+1,n1,A1,c1,hlt,by go_num,rfl,oH (by rw[HBS.out];exact HN.out),hwr,by rw[HBS.out];exact hown,b0,b2,hm⟩
   simp[intOf];omega
  rw[if_neg hkv] at hbs;have HBS:=oH hbs;have dk:((k:Int) != (vn:Int))=true:=by rw[bne_iff_ne];omega
  have HO:=oH hown;clear hbs hkv hown;go_wp2_with (at_builtin;refine aAv rfl _ _ rfl w2.heap.size A1 n1 c1 _ rfl HO.out (k:Int) rfl (by omega) hwr ?_;intro A9 c9 w9 ho9 hm9)
  go_roundw
  case rel=>exact⟨k+1,n1+1,A9,c9,hlt,by go_num,rfl,oH (by rw[HBS.out,List.length_append,HN.out];rfl),Nat.le_trans hwr hm9.size,by rw[HBS.out];exact ho9,b0.mid hm9 (Or.inl (by omega)),b2.mid hm9 (Or.inl (by omega)),hm.transNew hm9 (Or.inl (by omega))⟩
  simp[intOf];omega
 obtain rfl:k=sn:=by omega
 rw[HORD.out] at hown;have hnn:n1=ord.length:=by rw[HN.out,<- HORD.out];rfl
 have hrv:=aAy hown;clear HN;subst hnn;have hlo:w.heap.size+1<wr.heap.size:=b2.1;go_wp2_with fail;with_reducible refine(aCz rn k A es c A1 ord c1 _ _ _ _ _ (hr.mid hm oZl) hrv HF.out.gr HMO.out.2.1 HMO.out.2.2 (by rw[HOL.out];omega)).mono ?_
 rintro en w6 ⟨A6,c6,rfl,ho6,hm6⟩;rw[HOL.out];replace b2:=b2.mid hm6 oZr;replace hm:=hm.trans hm6;have ha6:=Mid.alloc w6 (.cells #[.int .i64 rn,.int .i64 k,.slice A6 (aBn ord es).length c6] 35);have Y6:=Box.new w6 #[.int .i64 rn,.int .i64 k,.slice A6 (aBn ord es).length c6] 35;replace b2:=b2.mid ha6 oZr;replace ho6:=ho6.mid ha6 oZl;replace hm:=hm.trans ha6;obtain⟨y0,y1,y2⟩:=Y6.c3 rfl;clear p0 p1 p2;go_wp2_with fail;have hP:=aCO rn k A6 (aBn ord es) c6 _ _ _ (OG.rg ho6) HGM.out;rw[HQ.out] at hP;dsimp only at hP;have HPP:=oH hP;clear hP;with_reducible refine HPP.out.mono ?_
 rintro en w8 ⟨A5,c5,rfl,ho8,hm8⟩;clear HPP;replace b2:=b2.mid hm8 oZr;replace hm:=hm.trans hm8;have hbx:=b2.1;obtain⟨z0,z1,z2⟩:=b2.c3 rfl;have zf:=b2.2.2;go_wp2_with fail;refine bodyPost_ret (v:=.tuple #[.agg #[.int .i64 rn,.int .i64 q,.slice A5 qs.length c5],.bool true]) (by simp[results,Tryz.results213,go_sem,z0,z1,z2,zf]) rfl ⟨A5,c5,rfl,?_,?_⟩
 .refine OG.wide (OG.mid ho8 (a:=w.heap.size+1) (b:=w.heap.size+2) ?_ (Or.inl (by have:=hm6.size;simp;omega))) (by have:=hm6.size;simp;omega) (by simp) oN
  repeat (first|exact Mid.refl _ _ _|refine Mid.stored ?_ _ (by simp;try omega) (by simp;try omega))
 repeat (first|exact hm|refine Mid.storeNew ?_ (by simp;try omega) _)
theorem aFR(r s:Int)(A:Option Addr)(es:List Ed)(c:Nat)(w:World)(lo hi:Nat)(hr:RG w lo hi A es)(hl:es.length<=1048576)(rs:Int)(b:Bool)(hres:aUa r s es rs b) :
  Calls Tryz.prog 252 #[aAw r s A es.length c] w fun e w'=>∃ A1 c1,e=.returned (.tuple #[aAw r rs A1 es.length c1,.bool b])/\OG w' w.heap.size w'.heap.size A1 c1 es/\Mid 0 0 w w':=by
 have hm0:Mid 0 0 w ((w.alloc (.cells #[.int .i64 r,.int .i64 s,.slice A es.length c] 35)).alloc (.cells #[.int .i64 0,.int .i64 0,.slice none 0 0] 35)):=(Mid.alloc _ _).trans (Mid.alloc _ _);have B0:=(Box.new w #[.int .i64 r,.int .i64 s,.slice A es.length c] 35).mid (Mid.alloc _ (.cells #[.int .i64 0,.int .i64 0,.slice none 0 0] 35)) oZr;have B2:=Box.new (w.alloc (.cells #[.int .i64 r,.int .i64 s,.slice A es.length c] 35)) #[.int .i64 0,.int .i64 0,.slice none 0 0] 35;simp only[World.size_alloc] at B2;obtain⟨b1,hb1⟩:=aAC (IsGr r s es);have H1:=oH hb1;clear hb1;go_enter Tryz.func252,Tryz.ntmps252
 go_wp2_with fail;generalize ((w.alloc (.cells #[.int .i64 r,.int .i64 s,.slice A es.length c] 35)).alloc (.cells #[.int .i64 0,.int .i64 0,.slice none 0 0] 35))=w1 at hm0 B0 B2 |-;have hs1:w.heap.size+1<w1.heap.size:=B2.1;with_reducible refine(aAS r s A es c _ _ _ (hr.mid hm0 oZl) hl).mono ?_
 rintro en w2 ⟨A1,c1,rfl,ho2,hm2⟩;have hal:=Mid.alloc w2 (.cells #[.int .i64 r,.int .i64 s,.slice A1 es.length c1] 35);have Y3:=Box.new w2 #[.int .i64 r,.int .i64 s,.slice A1 es.length c1] 35;have hs2:=hm2.size;replace B0:=B0.mid hm2 oZr;replace B2:=B2.mid hm2 oZr;replace hm0:=hm0.trans hm2;replace B0:=B0.mid hal oZr;replace B2:=B2.mid hal oZr;replace hm0:=hm0.trans hal;have ho5:=(ho2.mid hal oZl)
 obtain⟨p0,p1,p2⟩:=B0.c3 rfl;go_wp2_with fail;generalize w2.alloc (.cells #[.int .i64 r,.int .i64 s,.slice A1 es.length c1] 35)=w3 at hm0 B0 B2 Y3 ho5 p0 p1 p2 |-;have hG3:w2.heap.size<w3.heap.size:=Y3.1;with_reducible refine(aCj r s A es c _ _ _ (hr.mid hm0 oZl).rv hl b1 H1.out).mono ?_
 rintro en w4 ⟨rfl,hm4⟩;replace B0:=B0.mid hm4 oZr;replace B2:=B2.mid hm4 oZr;replace Y3:=Y3.mid hm4 oZr;replace ho5:=ho5.mid hm4 oZl;replace hm0:=hm0.trans hm4;have hs4:=hm4.size;clear p0 p1 p2 hm4 ho2 hal;obtain⟨p0,p1,p2⟩:=B0.c3 rfl;obtain⟨q0,q1,q2⟩:=Y3.c3 rfl;cases b1 with
|false=>
  have hno:¬ (IsGr r s es/\s<40):=fun h=>by have:=H1.out.2 h.1;cases this
  obtain⟨rfl,rfl⟩:b=false/\rs=s:=by
   rcases hres with⟨-,h, -⟩|⟨h1, -,h2⟩
   .exact absurd h hno
   exact⟨h1,h2⟩
  clear hres hno;obtain⟨a0,a1,a2⟩:=B2.c3 rfl;have af:=B2.2.2;go_wp2_with fail;refine bodyPost_ret (v:=.tuple #[.agg #[.int .i64 r,.int .i64 rs,.slice A1 es.length c1],.bool false]) (by simp[results,Tryz.results252,go_sem,a0,a1,a2,af,q0,q1,q2]) rfl ⟨A1,c1,rfl,?_,?_⟩
  .refine OG.wide (OG.mid ho5 (a:=w.heap.size) (b:=w.heap.size+2) ?_ (Or.inl (by omega))) (by omega) (by have:=ho5.size;simp;omega) oN
   repeat (first|exact Mid.refl _ _ _|refine Mid.stored ?_ _ (by simp;try omega) (by simp;try omega))
  repeat (first|exact hm0|refine Mid.storeNew ?_ (by simp;try omega) _)
|true=>
 have hgr:=H1.out.1 rfl;have hsz:=hgr.size;have GR:=oH hgr;clear hgr H1;by_cases h40:s<40
 .obtain⟨rfl,rfl⟩:b=true/\rs=s+1:=by
   rcases hres with⟨h1, -,h2⟩|⟨-,h, -⟩
   .exact⟨h1,h2⟩
   exact absurd ⟨GR.out,h40⟩ h
  have d40:(s == 40)=false:=by simp only[beq_eq_false_iff_ne];omega
  have d40':decide ((40:Int)<=s)=false:=by simp;omega
  have hw1:IntKind.i64.wrap (s+1)=s+1:=IntWalk.i64_in _ (by omega);have hst:=Mid.setCell w4 (lo:=w2.heap.size) (hi:=w2.heap.size+1) (p:=⟨w2.heap.size,1,none⟩) (.int .i64 (s+1)) oN oS;have qf:=Y3.2.2;have Y4:=Y3.set 1 (.int .i64 (s+1)) (by simp) rfl;simp only[List.set_cons_succ,List.set_cons_zero] at Y4;obtain⟨r0,r1,r2⟩:=Y4.c3 rfl;have B4:=B2.mid hst (Or.inl (by omega));have hm9:=hm0.storeNew (p:=⟨w2.heap.size,1,none⟩) (by show w.heap.size<=w2.heap.size;omega) (.int .i64 (s+1));have ho9:=ho5.mid hst (Or.inr oN);have hcl:(w.heap.size+1 == w2.heap.size)=false:=by simp;omega
  have hsp:w.heap.size+1<w2.heap.size:=by omega
  obtain⟨a0,a1,a2⟩:=B2.c3 rfl;have af:=B2.2.2;clear hres;go_wp2_with fail;refine bodyPost_ret (v:=.tuple #[.agg #[.int .i64 r,.int .i64 (s+1),.slice A1 es.length c1],.bool true]) (by simp[results,Tryz.results252,go_sem,a0,a1,a2,af,q0,q1,q2,qf]) rfl ⟨A1,c1,rfl,?_,?_⟩
  .refine OG.wide (OG.mid ho9 (a:=w.heap.size) (b:=w.heap.size+2) ?_ (Or.inl (by omega))) (by omega) (by have:=ho9.size;simp at this |-;omega) oN
   repeat (first|exact Mid.refl _ _ _|refine Mid.stored ?_ _ (by simp;try omega) (by simp;try omega))
  repeat (first|exact hm9|refine Mid.storeNew ?_ (by simp;try omega) _)
 obtain⟨rfl,rfl⟩:b=false/\rs=s:=by
  rcases hres with⟨-,h, -⟩|⟨h1, -,h2⟩
  .exact absurd h.2 h40
  exact⟨h1,h2⟩
 have d40:(rs == 40)=true:=by simp only[beq_iff_eq];omega
 have d40':decide ((40:Int)<=rs)=true:=by simp;omega
 clear hres;obtain⟨a0,a1,a2⟩:=B2.c3 rfl;have af:=B2.2.2;go_wp2_with fail;refine bodyPost_ret (v:=.tuple #[.agg #[.int .i64 r,.int .i64 rs,.slice A1 es.length c1],.bool false]) (by simp[results,Tryz.results252,go_sem,a0,a1,a2,af,q0,q1,q2]) rfl ⟨A1,c1,rfl,?_,?_⟩
 .refine OG.wide (OG.mid ho5 (a:=w.heap.size) (b:=w.heap.size+2) ?_ (Or.inl (by omega))) (by omega) (by have:=ho5.size;simp;omega) oN
  repeat (first|exact Mid.refl _ _ _|refine Mid.stored ?_ _ (by simp;try omega) (by simp;try omega))
 repeat (first|exact hm0|refine Mid.storeNew ?_ (by simp;try omega) _)
theorem aKG(r s:Int)(A:Option Addr)(es:List Ed)(c:Nat)(v:Int)(w:World)(lo hi:Nat)(hr:RG w lo hi A es)(hl:es.length<=1048576)(hcl:es.length<=c)(hvw:-9223372036854775808<=v/\v<=9223372036854775807)(rs:Int)(res:List Ed)(b:Bool)(hres:MoveIs r s es v rs res b) :
  Calls Tryz.prog 208 #[aAw r s A es.length c,.int .i64 v] w fun e w'=>∃ A1 c1,e=.returned (.tuple #[aAw r rs A1 res.length c1,.bool b])/\OG w' w.heap.size w'.heap.size A1 c1 res/\Mid 0 0 w w':=by
 have hm0:Mid 0 0 w ((w.alloc (.cells #[.int .i64 r,.int .i64 s,.slice A es.length c] 35)).alloc (.cells #[.int .i64 0,.int .i64 0,.slice none 0 0] 35)):=(Mid.alloc _ _).trans (Mid.alloc _ _);have b0:=(Box.new w #[.int .i64 r,.int .i64 s,.slice A es.length c] 35).mid (Mid.alloc _ (.cells #[.int .i64 0,.int .i64 0,.slice none 0 0] 35)) oZr;have b2:=Box.new (w.alloc (.cells #[.int .i64 r,.int .i64 s,.slice A es.length c] 35)) #[.int .i64 0,.int .i64 0,.slice none 0 0] 35;simp only[World.size_alloc] at b2;have HR:=oH hres;clear hres;obtain⟨b1,hb1⟩:=aAC (IsFol r s es);have H1:=oH hb1;clear hb1;go_enter Tryz.func208,Tryz.ntmps208
 go_wp2_with fail;generalize ((w.alloc (.cells #[.int .i64 r,.int .i64 s,.slice A es.length c] 35)).alloc (.cells #[.int .i64 0,.int .i64 0,.slice none 0 0] 35))=w1 at hm0 b0 b2 |-;have hs1:w.heap.size+1<w1.heap.size:=b2.1;with_reducible refine(aAR r s A es c _ _ _ (hr.mid hm0 oZl) hl hcl b1 H1.out).mono ?_
 rintro en w2 ⟨rfl,hm2⟩;replace b0:=b0.mid hm2 oZr;replace b2:=b2.mid hm2 oZr;replace hm0:=hm0.trans hm2;have hs2:=hm2.size;obtain⟨p0,p1,p2⟩:=b0.c3 rfl;cases b1 with
|false=>
  have hno:¬ (IsFol r s es/\0<=v/\v<s):=fun h=>by have:=H1.out.2 h.1;cases this
  obtain⟨rfl,rfl,rfl⟩:=HR.out.no hno;clear hno HR;go_wp2_with fail;with_reducible refine(aAS r rs A res c _ _ _ (hr.mid hm0 oZl) hl).mono ?_
  rintro en w8 ⟨A8,c8,rfl,ho8,hm8⟩;replace b2:=b2.mid hm8 oZr;replace hm0:=hm0.trans hm8;have hs8:=hm8.size;have hbx:=b2.1;obtain⟨z0,z1,z2⟩:=b2.c3 rfl;have zf:=b2.2.2;clear p0 p1 p2;go_wp2_with fail;refine bodyPost_ret (v:=.tuple #[.agg #[.int .i64 r,.int .i64 rs,.slice A8 res.length c8],.bool false]) (by simp[results,Tryz.results208,go_sem,z0,z1,z2,zf]) rfl ⟨A8,c8,rfl,?_,?_⟩
  .refine OG.wide (OG.mid ho8 (a:=w.heap.size+1) (b:=w.heap.size+2) ?_ (Or.inl (by omega))) (by omega) (by simp) oN
   repeat (first|exact Mid.refl _ _ _|refine Mid.stored ?_ _ (by simp;try omega) (by simp;try omega))
  repeat (first|exact hm0|refine Mid.storeNew ?_ (by simp;try omega) _)
|true=>
 have hfol:=H1.out.1 rfl;have hsz:=hfol.gr.size;have HF:=oH hfol;clear hfol H1;obtain⟨b3,hb3⟩:=aAC (0<=v/\v<s);have H3:=oH hb3;clear hb3;have hwsub:IntKind.i64.wrap (s - 1)=s - 1:=IntWalk.i64_in _ (by omega);go_wp2_with fail;with_reducible refine(aCe r s A es.length c v _ b3 (aFs hsz.1 hsz.2 H3.out).1).mono ?_
 rintro en w3 ⟨rfl,hm3⟩;replace b0:=b0.mid hm3 oZr;replace b2:=b2.mid hm3 oZr;replace hm0:=hm0.trans hm3;have hs3:=hm3.size;clear hm3;clear p0 p1 p2;obtain⟨p0,p1,p2⟩:=b0.c3 rfl;cases b3 with
|false=>
  have hno:¬ (IsFol r s es/\0<=v/\v<s):=fun h=>by have:=H3.out.2 h.2;cases this
  obtain⟨rfl,rfl,rfl⟩:=HR.out.no hno;clear hno HR;go_wp2_with fail;with_reducible refine(aAS r rs A res c _ _ _ (hr.mid hm0 oZl) hl).mono ?_
  rintro en w8 ⟨A8,c8,rfl,ho8,hm8⟩;replace b2:=b2.mid hm8 oZr;replace hm0:=hm0.trans hm8;have hs8:=hm8.size;have hbx:=b2.1;obtain⟨z0,z1,z2⟩:=b2.c3 rfl;have zf:=b2.2.2;clear p0 p1 p2;go_wp2_with fail;refine bodyPost_ret (v:=.tuple #[.agg #[.int .i64 r,.int .i64 rs,.slice A8 res.length c8],.bool false]) (by simp[results,Tryz.results208,go_sem,z0,z1,z2,zf]) rfl ⟨A8,c8,rfl,?_,?_⟩
  .refine OG.wide (OG.mid ho8 (a:=w.heap.size+1) (b:=w.heap.size+2) ?_ (Or.inl (by omega))) (by omega) (by simp) oN
   repeat (first|exact Mid.refl _ _ _|refine Mid.stored ?_ _ (by simp;try omega) (by simp;try omega))
  repeat (first|exact hm0|refine Mid.storeNew ?_ (by simp;try omega) _)
|true=>
 have hv:=H3.out.1 rfl;obtain⟨rfl,hrs,hre⟩:=HR.out.yes ⟨HF.out,hv⟩;obtain⟨rn,rfl⟩:∃ rn:Nat,r=rn:=⟨r.toNat,by have:=HF.out.gr.rank;omega⟩
 obtain⟨sn,rfl⟩:∃ sn:Nat,s=sn:=⟨s.toNat,by omega⟩
 obtain⟨vn,rfl⟩:∃ vn:Nat,v=vn:=⟨v.toNat,by omega⟩
 have hvn:vn<sn:=by omega
 have hsn40:sn<=40:=by omega
 have hmo:=aKN (s:=(sn:Int)) (v:=(vn:Int)) hv;have hgm:=aTD HF.out.gr hv;have hmd:moveA (rn:Int) sn es vn=coreA rn ((sn:Int),aBn (aFi sn vn) es):=rfl;rw[hmd] at hrs hre;obtain⟨q,qs,hQ, -⟩:=aFj (aDb (g:=((sn:Int),aBn (aFi sn vn) es)) hgm);rw[hQ] at hrs hre;subst hrs;subst res;have hord:aFi (sn:Int) vn=((vn:Nat):Int)::but vn sn:=by simp[aFi]
 rw[hord] at hmo hgm hQ;obtain⟨ord,hord2⟩:∃ ord,((vn:Nat):Int)::but vn sn=ord:=⟨_,rfl⟩
 have HORD:=oH hord2;rw[hord2] at hmo hgm hQ;have hol:ord.length=sn:=by have:=hmo.1;omega
 have HOL:=oH hol;have HMO:=oH hmo;have HGM:=oH hgm;have HQ:=oH hQ;have O0:=aGR w3 3 (.int .i64 (vn:Int));have hal:=Mid.alloc w3 (.cells #[.int .i64 (vn:Int)] 3);have hw3:w.heap.size+1<w3.heap.size:=b2.1;replace b0:=b0.mid hal oZr;replace b2:=b2.mid hal oZr;replace hm0:=hm0.trans hal;clear HR H3 hmd hord hord2 hmo hgm hQ hol hv;clear p0 p1 p2;go_wp2_with fail;go_loopw [6,7] (fun out i wr=>∃(k n1:Nat) (A1:Option Addr) (c1:Nat),k<=sn/\i=.int .i64 k/\out=.slice A1 n1 c1/\Hid (n1=(but vn k).length+1)/\w3.heap.size<=wr.heap.size/\wr.ownsRow w3.heap.size 3 1 (.slice A1 n1 c1) n1 (aAd (((vn:Nat):Int)::but vn k)) /\
   Box wr w.heap.size [.int .i64 rn,.int .i64 sn,.slice A es.length c]/\Box wr (w.heap.size+1) [.int .i64 0,.int .i64 0,.slice none 0 0]/\Mid 0 0 w wr) (fun _ i _=>sn - (intOf i).toNat)
 case atStart=>exact⟨0,1,_,1,oZ,rfl,rfl,oH rfl,by simp,O0,b0,b2,hm0⟩
 clear O0 b0 b2 hm0 hal;obtain⟨k,n1,A1,c1,hk,rfl,rfl,HN,hwr,hown,b0,b2,hm⟩:=hrel;obtain⟨p0,p1,p2⟩:=b0.c3 rfl;have hn1:n1<=100:=by
  have h1:=HN.out;have h2:(but vn k).length<=k:=by rw[but,List.length_map];exact Nat.le_trans (List.length_filter_le _ _) (by simp)
  omega
 by_cases hlt:k<sn
 .have hbs:=aEu vn k
  have hk1:(k:Int)<(sn:Int):=by omega
  by_cases hkv:k=vn
  .rw[if_pos hkv] at hbs
   have HBS:=oH hbs;have dk:((k:Int) != (vn:Int))=false:=by rw[hkv];simp
   clear hbs;have HKV:=oH hkv;clear hkv;go_wp2_with fail;go_roundw
   case rel=>exact⟨k+1,n1,A1,c1,hlt,by go_num,rfl,oH (by rw[HBS.out];exact HN.out),hwr,by rw[HBS.out];exact hown,b0,b2,hm⟩
   simp[intOf];omega
  rw[if_neg hkv] at hbs;have HBS:=oH hbs;have dk:((k:Int) != (vn:Int))=true:=by rw[bne_iff_ne];omega
  have HO:=oH hown;clear hbs hkv hown;go_wp2_with (at_builtin;refine aAv rfl _ _ rfl w3.heap.size A1 n1 c1 _ rfl HO.out (k:Int) rfl (by omega) hwr ?_;intro A9 c9 w9 ho9 hm9)
  go_roundw
  case rel=>exact⟨k+1,n1+1,A9,c9,hlt,by go_num,rfl,oH (by rw[HBS.out,List.length_append,HN.out];rfl),Nat.le_trans hwr hm9.size,by rw[HBS.out];exact ho9,b0.mid hm9 (Or.inl (by omega)),b2.mid hm9 (Or.inl (by omega)),hm.transNew hm9 (Or.inl (by omega))⟩
  simp[intOf];omega
 obtain rfl:k=sn:=by omega
 rw[HORD.out] at hown;have hnn:n1=ord.length:=by rw[HN.out,<- HORD.out];rfl
 have hrv:=aAy hown;clear HN;subst hnn;have hlo:w.heap.size+1<wr.heap.size:=b2.1;go_wp2_with fail;with_reducible refine(aGH rn k A es c A1 ord c1 _ _ _ _ _ (hr.mid hm oZl) hrv HF.out.gr HMO.out.2.1 HMO.out.2.2).mono ?_
 rintro en w6 ⟨A6,c6,rfl,ho6,hm6⟩;rw[HOL.out];replace b2:=b2.mid hm6 oZr;replace hm:=hm.trans hm6;clear p0 p1 p2;go_wp2_with fail;have hP:=aFS rn k A6 (aBn ord es) c6 w6 _ _ (OG.rg ho6) HGM.out;rw[HQ.out] at hP;dsimp only at hP;have HPP:=oH hP;clear hP;with_reducible refine HPP.out.mono ?_
 rintro en w8 ⟨A5,c5,rfl,ho8,hm8⟩;clear HPP;replace b2:=b2.mid hm8 oZr;replace hm:=hm.trans hm8;have hbx:=b2.1;obtain⟨z0,z1,z2⟩:=b2.c3 rfl;have zf:=b2.2.2;go_wp2_with fail;refine bodyPost_ret (v:=.tuple #[.agg #[.int .i64 rn,.int .i64 q,.slice A5 qs.length c5],.bool true]) (by simp[results,Tryz.results208,go_sem,z0,z1,z2,zf]) rfl ⟨A5,c5,rfl,?_,?_⟩
 .refine OG.wide (OG.mid ho8 (a:=w.heap.size+1) (b:=w.heap.size+2) ?_ (Or.inl (by have:=hm6.size;simp;omega))) (by have:=hm6.size;simp;omega) (by simp) oN
  repeat (first|exact Mid.refl _ _ _|refine Mid.stored ?_ _ (by simp;try omega) (by simp;try omega))
 repeat (first|exact hm|refine Mid.storeNew ?_ (by simp;try omega) _)
theorem aDD(rank:Int)(A:Option Addr)(xs:List Int)(c:Nat)(w:World)(B:Nat)(hr:Rs w B A (aAd xs))(hok:OkI xs)(hl:xs.length<=4194304)(r:Bool)(hres:r=true↔IsW rank xs) :
  Calls Tryz.prog 101 #[.int .i64 rank,.slice A xs.length c] w fun e w'=>e=.returned (.bool r)/\∃ n,w'=w.drewN n:=by
 have HOK:=oH hok;have hR2:r=true↔(RawTo rank xs xs.length/\inB rank 1 3=true/\xs.length<=24):=hres.trans ⟨fun h=>⟨(aMj h.1 h.2.1).2 h.2.2.2,by simp[inB];exact⟨h.1,h.2.1⟩,h.2.2.1⟩,fun h=>by
  have h13:1<=rank/\rank<=3:=by simpa [inB] using h.2.1
  exact⟨h13.1,h13.2,h.2.2,(aMj h13.1 h13.2).1 h.1⟩⟩
 have HR:=oH hR2;clear hok hres hR2;obtain⟨nr,hnr⟩:∃ nr,wrap64 (-rank)=nr:=⟨_,rfl⟩
 go_enter Tryz.func101,Tryz.ntmps101
 go_wp2_with fail;go_loopw [5] (fun i wr=>∃ k:Nat,k<=xs.length/\i=.int .i64 k/\(∃ n,wr=w.drewN n)/\RawTo rank xs k) (fun i _=>xs.length - (intOf i).toNat)
 case atStart=>exact⟨0,oZ,rfl,⟨0,rfl⟩,RawTo.zero _ _⟩
 obtain⟨k,hk,rfl,⟨nd,rfl⟩,hto⟩:=hrel;have HT:=oH hto;clear hto;by_cases hlt:k<xs.length
 .obtain⟨b,off,x,rfl, -,hx,hc⟩:=hr.int hlt
  have HX:=oH hx;clear hx;have hlt3:(k:Int)<(xs.length:Int):=by omega
  have hno:∀(P:Prop),(aRJ rank xs k x->P)->r=true->P:=fun P h hr1=>h ((HR.out.1 hr1).1 k x hlt HX.out);have HNO:=oH hno;clear hno;by_cases hx0:(x == 0)=true
  .have hf:r=false:=by
    cases r
    .rfl
    refine(HNO.out False (fun h=>?_) rfl).elim;rw[h.1] at hx0;cases hx0
   subst hf;go_wp2_with fail;go_quiet (fail)
   go_wp2_with fail;go_ret;exact⟨rfl,_,by first|rfl|exact dn _ _ _⟩
  have hx0':(x == 0)=false:=by simpa using hx0
  clear hx0;have hC:=fun n:Nat=>pq (aCM x nr rank (w.drewN n));by_cases hi:inB x nr rank=false
  .have hf:r=false:=by
    cases r
    .rfl
    refine(HNO.out False (fun h=>?_) rfl).elim;have h2:=h.2.1;rw[hnr,hi] at h2;cases h2
   subst hf;rw[hi] at hC;have HC:=oH hC;clear hC hi;go_wp2_with fail;go_quiet ((go_at_call 102;first|exact qz0 (HC.out _)|exact qz1 (HC.out _)))
   go_wp2_with fail;go_ret;exact⟨rfl,_,by first|rfl|exact dn _ _ _⟩
  have hi':inB x nr rank=true:=by simpa using hi
  rw[hi'] at hC;have HC:=oH hC;have HI:=oH hi';clear hC hi hi';cases k with
 |zero=>
   have hc0:w.cell? ⟨b,off,none⟩=some (.int .i64 x):=hc;go_wp2_with fail;go_quiet ((go_at_call 102;first|exact qz0 (HC.out _)|exact qz1 (HC.out _)))
   go_wp2_with fail;go_roundw
   case rel=>exact⟨1,by omega,by go_num,⟨_,by first|rfl|exact dn _ _ _⟩,HT.out.succ HX.out ⟨hx0',by rw[hnr];exact HI.out,fun y h=>absurd h (Nat.lt_irrefl 0)⟩⟩
   simp[intOf];omega
 |succ m=>
   obtain⟨b',off',y,he, -,hy,hcy⟩:=hr.int (show m<xs.length by omega);injection he with he
   injection he with he1 he2 _
   subst he1 he2;have HY:=oH hy;clear hy;have hlm3:(m:Int)<(xs.length:Int):=by omega
   have hm0:(0:Int)<(m:Int)+1:=by omega
   have hp1:(m:Int)+1 - 1=(m:Int):=by omega
   obtain⟨ny,hny⟩:∃ ny,wrap64 (-y)=ny:=⟨_,rfl⟩
   by_cases hxy:(x == ny)=true
   .have hf:r=false:=by
     cases r
     .rfl
     refine(HNO.out False (fun h=>?_) rfl).elim;have h2:=h.2.2 y (Nat.succ_pos m) HY.out;rw[hny,hxy] at h2;cases h2
    subst hf;go_wp2_with fail;go_quiet ((go_at_call 102;first|exact qz0 (HC.out _)|exact qz1 (HC.out _)))
    go_wp2_with fail;go_ret;exact⟨rfl,_,by first|rfl|exact dn _ _ _⟩
   have hxy':(x == ny)=false:=by simpa using hxy
   clear hxy;go_wp2_with fail;go_quiet ((go_at_call 102;first|exact qz0 (HC.out _)|exact qz1 (HC.out _)))
   go_wp2_with fail;go_roundw
   case rel=>
    refine⟨m+1+1,by omega,by go_num,⟨_,by first|rfl|exact dn _ _ _⟩,HT.out.succ HX.out ⟨hx0',by rw[hnr];exact HI.out,fun z _ hz=>?_⟩⟩;rw[Nat.add_sub_cancel,HY.out] at hz;obtain rfl:=Option.some.inj hz;rw[hny];exact hxy'
   simp[intOf];omega
 obtain rfl:k=xs.length:=by omega
 have hrv:r=(inB rank 1 3 && decide ((xs.length:Int)<=24)):=by
  rw[Bool.eq_iff_iff,HR.out];simp only[Bool.and_eq_true,decide_eq_true_eq];exact⟨fun h=>⟨h.2.1,by omega⟩,fun h=>⟨HT.out,h.1,by omega⟩⟩
 by_cases hib:inB rank 1 3=false
 .rw[hib] at hrv
  have HI:=oH hib;clear hib;simp only[Bool.false_and] at hrv;subst hrv;go_wp2_with fail;refine(aCM _ _ _ _).mono ?_;rintro e w' ⟨rfl,rfl⟩;rw[HI.out];go_wp2_with fail;go_ret;exact⟨rfl,_,rfl⟩
 have hib':inB rank 1 3=true:=by simpa using hib
 rw[hib'] at hrv;have HI:=oH hib';simp only[Bool.true_and] at hrv;clear hib hib';subst hrv;go_wp2_with fail;refine(aCM _ _ _ _).mono ?_;rintro e w' ⟨rfl,rfl⟩;rw[HI.out];go_wp2_with fail;go_ret;exact⟨rfl,_,rfl⟩
theorem aHP(r s:Int)(A:Option Addr)(es:List Ed)(c:Nat)(u:Int)(Aw:Option Addr)(wd:List Int)(cw:Nat)(v:Int)(w:World)(lo hi lo' hi':Nat)(hr:RG w lo hi A es)(hw:RV w lo' hi' Aw (aAd wd))(hl:es.length<=1048576)(hwl:wd.length<=1048576)(hok:OkI wd)(rs:Int)(res:List Ed)(b:Bool)(hres:PathIs r s es u wd v rs res b) :
  Calls Tryz.prog 212 #[aAw r s A es.length c,.int .i64 u,.slice Aw wd.length cw,.int .i64 v] w fun e w'=>∃ A1 c1,e=.returned (.tuple #[aAw r rs A1 res.length c1,.bool b])/\OG w' w.heap.size w'.heap.size A1 c1 res/\Mid 0 0 w w':=by
 have HR:=oH hres;have HOK:=oH hok;clear hres hok;obtain⟨b1,hb1⟩:=aAC (IsGr r s es);obtain⟨b2,hb2⟩:=aAC (0<=u/\u<s);obtain⟨b3,hb3⟩:=aAC (0<=v/\v<s);obtain⟨b4,hb4⟩:=aAC (IsW r wd);have H1:=oH hb1;have H2:=oH hb2;have H3:=oH hb3;have H4:=oH hb4;clear hb1 hb2 hb3 hb4;have hm0:Mid 0 0 w ((w.alloc (.cells #[.int .i64 r,.int .i64 s,.slice A es.length c] 35)).alloc (.cells #[.int .i64 0,.int .i64 0,.slice none 0 0] 35)):=(Mid.alloc _ _).trans (Mid.alloc _ _);have B0:=(Box.new w #[.int .i64 r,.int .i64 s,.slice A es.length c] 35).mid (Mid.alloc _ (.cells #[.int .i64 0,.int .i64 0,.slice none 0 0] 35)) oZr;have B2:=Box.new (w.alloc (.cells #[.int .i64 r,.int .i64 s,.slice A es.length c] 35)) #[.int .i64 0,.int .i64 0,.slice none 0 0] 35;simp only[World.size_alloc] at B2;go_enter Tryz.func212,Tryz.ntmps212
 go_wp2_with fail;generalize hw1:((w.alloc (.cells #[.int .i64 r,.int .i64 s,.slice A es.length c] 35)).alloc (.cells #[.int .i64 0,.int .i64 0,.slice none 0 0] 35))=w1 at hm0 B0 B2 |-;have hs1:w1.heap.size=w.heap.size+1+1:=by rw[<- hw1];simp
 have HS:=oH hs1;clear hw1 hs1;with_reducible refine(aBp r s A es c _ _ _ (hr.mid hm0 oZl) hl).mono ?_
 rintro en w2 ⟨A1,c1,rfl,ho2,hm2⟩;have hal:=Mid.alloc w2 (.cells #[.int .i64 r,.int .i64 s,.slice A1 es.length c1] 35);have Y3:=Box.new w2 #[.int .i64 r,.int .i64 s,.slice A1 es.length c1] 35;replace B0:=B0.mid hm2 oZr;replace B2:=B2.mid hm2 oZr;replace hm0:=hm0.trans hm2;replace B0:=B0.mid hal oZr;replace B2:=B2.mid hal oZr;replace hm0:=hm0.trans hal;have hG2:w.heap.size+1<w2.heap.size:=by have:=HS.out;have:=hm2.size;omega
 have ho5:=(ho2.mid hal oZl)
 have hlt2:=ho2.ov.2.2;have hb2k:Value.ownBlock (.slice A1 es.length c1)≠some w2.heap.size:=fun h=>by have:=hlt2 _ h;omega
 obtain⟨p0,p1,p2⟩:=B0.c3 rfl;go_wp2_with fail;generalize w2.alloc (.cells #[.int .i64 r,.int .i64 s,.slice A1 es.length c1] 35)=w3 at hm0 B0 B2 Y3 ho5 p0 p1 p2 |-;have hG3:w2.heap.size<w3.heap.size:=Y3.1;have HOW:=oH ho5.ov.2.1;have HBK:=oH hb2k;have ho6:=ho5.wide oN oN (Nat.le_of_lt hG3);generalize hG:w2.heap.size=G at Y3 hG2 hG3 ho5 HBK |-;have HGW:=oH (show w1.heap.size<=G by rw[<- hG];exact hm2.size);clear hG hal hm2 hlt2 hb2k ho2 ho6;with_reducible refine(aAM r s A es c _ _ _ (hr.mid hm0 oZl).rv hl b1 H1.out).mono ?_
 rintro en w4 ⟨rfl,hm4⟩;replace B0:=B0.mid hm4 oZr;replace B2:=B2.mid hm4 oZr;replace Y3:=Y3.mid hm4 oZr;replace ho5:=ho5.mid hm4 oZl;replace hm0:=hm0.trans hm4;replace HOW:=oH (aAc HOW.out hm4 oZl);clear hm4;cases b1 with
|false=>
  have hno:¬ PathOk r s es u wd v:=fun h=>by have:=H1.out.2 h.gr;cases this
  clear p0 p1 p2;obtain⟨rfl,rfl,rfl⟩:=HR.out.no hno;obtain⟨a0,a1,a2⟩:=B2.c3 rfl;obtain⟨q0,q1,q2⟩:=Y3.c3 rfl;have af:=B2.2.2;go_wp2_with fail;refine bodyPost_ret (v:=.tuple #[.agg #[.int .i64 r,.int .i64 rs,.slice A1 res.length c1],.bool false]) (by simp[results,Tryz.results212,go_sem,a0,a1,a2,af,q0,q1,q2]) rfl ⟨A1,c1,rfl,?_,?_⟩
  .refine OG.wide (OG.mid ho5 (a:=w.heap.size) (b:=w.heap.size+2) ?_ (Or.inl (by have:=HS.out;omega))) (by have:=HS.out;omega) (by have:=ho5.size;simp;omega) oN
   repeat (first|exact Mid.refl _ _ _|refine Mid.stored ?_ _ (by simp;try omega) (by simp;try omega))
  repeat (first|exact hm0|refine Mid.storeNew ?_ (by simp;try omega) _)
|true=>
 have hgr:=H1.out.1 rfl;have hsz:=hgr.size;have hln:=hgr.len;have hrk:=hgr.rank;have GR:=oH hgr;clear hgr H1;have hwsub:IntKind.i64.wrap (s - 1)=s - 1:=IntWalk.i64_in _ (by omega);clear p0 p1 p2;obtain⟨p0,p1,p2⟩:=B0.c3 rfl;go_wp2_with fail;with_reducible refine(aBJ (aFs hsz.1 hsz.2 H2.out).2 _).mono ?_
 rintro en w5 ⟨rfl,rfl⟩;cases b2 with
|false=>
  have hno:¬ PathOk r s es u wd v:=fun h=>by have:=H2.out.2 h.u0;cases this
  clear p0 p1 p2;obtain⟨rfl,rfl,rfl⟩:=HR.out.no hno;obtain⟨a0,a1,a2⟩:=B2.c3 rfl;obtain⟨q0,q1,q2⟩:=Y3.c3 rfl;have af:=B2.2.2;go_wp2_with fail;refine bodyPost_ret (v:=.tuple #[.agg #[.int .i64 r,.int .i64 rs,.slice A1 res.length c1],.bool false]) (by simp[results,Tryz.results212,go_sem,a0,a1,a2,af,q0,q1,q2]) rfl ⟨A1,c1,rfl,?_,?_⟩
  .refine OG.wide (OG.mid ho5 (a:=w.heap.size) (b:=w.heap.size+2) ?_ (Or.inl (by have:=HS.out;omega))) (by have:=HS.out;omega) (by have:=ho5.size;simp;omega) oN
   repeat (first|exact Mid.refl _ _ _|refine Mid.stored ?_ _ (by simp;try omega) (by simp;try omega))
  repeat (first|exact hm0|refine Mid.storeNew ?_ (by simp;try omega) _)
|true=>
 have hxu:=H2.out.1 rfl;clear H2;clear p0 p1 p2;obtain⟨p0,p1,p2⟩:=B0.c3 rfl;go_wp2_with fail;with_reducible refine(aBJ (aFs hsz.1 hsz.2 H3.out).2 _).mono ?_
 rintro en w6 ⟨rfl,rfl⟩;cases b3 with
|false=>
  have hno:¬ PathOk r s es u wd v:=fun h=>by have:=H3.out.2 h.v0;cases this
  clear p0 p1 p2;obtain⟨rfl,rfl,rfl⟩:=HR.out.no hno;obtain⟨a0,a1,a2⟩:=B2.c3 rfl;obtain⟨q0,q1,q2⟩:=Y3.c3 rfl;have af:=B2.2.2;go_wp2_with fail;refine bodyPost_ret (v:=.tuple #[.agg #[.int .i64 r,.int .i64 rs,.slice A1 res.length c1],.bool false]) (by simp[results,Tryz.results212,go_sem,a0,a1,a2,af,q0,q1,q2]) rfl ⟨A1,c1,rfl,?_,?_⟩
  .refine OG.wide (OG.mid ho5 (a:=w.heap.size) (b:=w.heap.size+2) ?_ (Or.inl (by have:=HS.out;omega))) (by have:=HS.out;omega) (by have:=ho5.size;simp;omega) oN
   repeat (first|exact Mid.refl _ _ _|refine Mid.stored ?_ _ (by simp;try omega) (by simp;try omega))
  repeat (first|exact hm0|refine Mid.storeNew ?_ (by simp;try omega) _)
|true=>
 have hxv:=H3.out.1 rfl;clear H3;clear p0 p1 p2;obtain⟨p0,p1,p2⟩:=B0.c3 rfl;go_wp2_with fail;with_reducible refine(aDD r Aw wd cw _ _ ((hw.mid hm0 oZl).rs) HOK.out (by omega) b4 H4.out).mono ?_
 rintro en w7 ⟨rfl,nd,hwd7⟩;have hm7:Mid 0 0 w4 w7:=by rw[hwd7];exact(Mid.refl 0 0 w4).drewN nd
 clear hwd7;replace B0:=B0.mid hm7 oZr;replace B2:=B2.mid hm7 oZr;replace Y3:=Y3.mid hm7 oZr;replace ho5:=ho5.mid hm7 oZl;replace hm0:=hm0.trans hm7;replace HOW:=oH (aAc HOW.out hm7 oZl);clear hm7;cases b4 with
|false=>
  have hno:¬ PathOk r s es u wd v:=fun h=>by have:=H4.out.2 h.word;cases this
  clear p0 p1 p2;obtain⟨rfl,rfl,rfl⟩:=HR.out.no hno;obtain⟨a0,a1,a2⟩:=B2.c3 rfl;obtain⟨q0,q1,q2⟩:=Y3.c3 rfl;have af:=B2.2.2;go_wp2_with fail;refine bodyPost_ret (v:=.tuple #[.agg #[.int .i64 r,.int .i64 rs,.slice A1 res.length c1],.bool false]) (by simp[results,Tryz.results212,go_sem,a0,a1,a2,af,q0,q1,q2]) rfl ⟨A1,c1,rfl,?_,?_⟩
  .refine OG.wide (OG.mid ho5 (a:=w.heap.size) (b:=w.heap.size+2) ?_ (Or.inl (by have:=HS.out;omega))) (by have:=HS.out;omega) (by have:=ho5.size;simp;omega) oN
   repeat (first|exact Mid.refl _ _ _|refine Mid.stored ?_ _ (by simp;try omega) (by simp;try omega))
  repeat (first|exact hm0|refine Mid.storeNew ?_ (by simp;try omega) _)
|true=>
 have hwd:=H4.out.1 rfl;have hwd24:=hwd.2.2.1;have HWD:=oH hwd;clear hwd H4;clear p0 p1 p2;obtain⟨p0,p1,p2⟩:=B0.c3 rfl;by_cases hne:wd=[]
 .subst hne
  have hno:¬ PathOk r s es u [] v:=fun h=>h.ne rfl;clear p0 p1 p2;obtain⟨rfl,rfl,rfl⟩:=HR.out.no hno;obtain⟨a0,a1,a2⟩:=B2.c3 rfl;obtain⟨q0,q1,q2⟩:=Y3.c3 rfl;have af:=B2.2.2;go_wp2_with fail;refine bodyPost_ret (v:=.tuple #[.agg #[.int .i64 r,.int .i64 rs,.slice A1 res.length c1],.bool false]) (by simp[results,Tryz.results212,go_sem,a0,a1,a2,af,q0,q1,q2]) rfl ⟨A1,c1,rfl,?_,?_⟩
  .refine OG.wide (OG.mid ho5 (a:=w.heap.size) (b:=w.heap.size+2) ?_ (Or.inl (by have:=HS.out;omega))) (by have:=HS.out;omega) (by have:=ho5.size;simp;omega) oN
   repeat (first|exact Mid.refl _ _ _|refine Mid.stored ?_ _ (by simp;try omega) (by simp;try omega))
  repeat (first|exact hm0|refine Mid.storeNew ?_ (by simp;try omega) _)
 have hpos:0<wd.length:=List.length_pos_iff.2 hne;have d4:((wd.length:Int) == 0)=false:=by simp only[beq_eq_false_iff_ne];omega
 have HNE:=oH hne;clear hne;clear p0 p1 p2;obtain⟨p0,p1,p2⟩:=B0.c3 rfl;have d5':IntKind.i64.wrap (s+(wd.length:Int))=s+(wd.length:Int):=IntWalk.i64_in _ (by omega);have d5'':IntKind.i64.wrap (s+(wd.length:Int) - 1)=s+(wd.length:Int) - 1:=IntWalk.i64_in _ (by omega);by_cases hsl:40<s+(wd.length:Int) - 1
 .have hno:¬ PathOk r s es u wd v:=fun h=>by have:=h.sz;omega
  have d5:decide (40<s+(wd.length:Int) - 1)=true:=by simpa using hsl
  clear p1;clear p0 p2;obtain⟨p0,p1,p2⟩:=B0.c3 rfl;obtain⟨rfl,rfl,rfl⟩:=HR.out.no hno;obtain⟨a0,a1,a2⟩:=B2.c3 rfl;obtain⟨q0,q1,q2⟩:=Y3.c3 rfl;have af:=B2.2.2;go_wp2_with fail;refine bodyPost_ret (v:=.tuple #[.agg #[.int .i64 r,.int .i64 rs,.slice A1 res.length c1],.bool false]) (by simp[results,Tryz.results212,go_sem,a0,a1,a2,af,q0,q1,q2]) rfl ⟨A1,c1,rfl,?_,?_⟩
  .refine OG.wide (OG.mid ho5 (a:=w.heap.size) (b:=w.heap.size+2) ?_ (Or.inl (by have:=HS.out;omega))) (by have:=HS.out;omega) (by have:=ho5.size;simp;omega) oN
   repeat (first|exact Mid.refl _ _ _|refine Mid.stored ?_ _ (by simp;try omega) (by simp;try omega))
  repeat (first|exact hm0|refine Mid.storeNew ?_ (by simp;try omega) _)
 have d5:decide (40<s+(wd.length:Int) - 1)=false:=by simpa using hsl
 by_cases hll:120<es.length+wd.length
 .have hno:¬ PathOk r s es u wd v:=fun h=>by have:=h.ln;omega
  have d6:decide (120<(es.length:Int)+(wd.length:Int))=true:=by simp;omega
  obtain⟨rfl,rfl,rfl⟩:=HR.out.no hno;obtain⟨a0,a1,a2⟩:=B2.c3 rfl;obtain⟨q0,q1,q2⟩:=Y3.c3 rfl;have af:=B2.2.2;go_wp2_with fail;refine bodyPost_ret (v:=.tuple #[.agg #[.int .i64 r,.int .i64 rs,.slice A1 res.length c1],.bool false]) (by simp[results,Tryz.results212,go_sem,a0,a1,a2,af,q0,q1,q2]) rfl ⟨A1,c1,rfl,?_,?_⟩
  .refine OG.wide (OG.mid ho5 (a:=w.heap.size) (b:=w.heap.size+2) ?_ (Or.inl (by have:=HS.out;omega))) (by have:=HS.out;omega) (by have:=ho5.size;simp;omega) oN
   repeat (first|exact Mid.refl _ _ _|refine Mid.stored ?_ _ (by simp;try omega) (by simp;try omega))
  repeat (first|exact hm0|refine Mid.storeNew ?_ (by simp;try omega) _)
 have d6:decide (120<(es.length:Int)+(wd.length:Int))=false:=by simp;omega
 obtain⟨rfl,hrs,hre⟩:=HR.out.yes ⟨GR.out,hxu,hxv,HWD.out,HNE.out,by omega,by omega⟩;have HRS:=oH hrs;have HRE:=oH hre;have hasc:=oH GR.out.asc;clear hrs hre HR;have hwn:IntKind.i64.wrap ((wd.length:Int) - 1)=(wd.length:Int) - 1:=IntWalk.i64_in _ (by omega);have hletb:=oH HWD.out.2.2.2.1;obtain⟨q0,q1,q2⟩:=Y3.c3 rfl;go_wp2_with fail;clear p0 p1 p2 q0 q1 q2;go_loopw [11,12] (fun at_ i wr=>∃(k:Nat) (A2:Option Addr) (c2 lo2 hi2:Nat) (xs:List Ed) (sz:Int),k<=wd.length/\i=.int .i64 k/\at_=.int .i64 (aDx u s wd.length v k)/\Hid (sz=s+((min k (wd.length - 1):Nat):Int))/\Hid (xs=aCx es (aDw u s wd v k)) /\
  OG wr lo2 hi2 A2 c2 xs/\(hi2<=G \/ G+1<=lo2)/\w1.heap.size<=lo2 /\
  Box wr w.heap.size [.int .i64 r,.int .i64 s,.slice A es.length c]/\Box wr (w.heap.size+1) [.int .i64 0,.int .i64 0,.slice none 0 0] /\
  Box wr G [.int .i64 r,.int .i64 sz,.slice A2 xs.length c2]/\Mid 0 0 w wr) (fun _ i _=>wd.length - (intOf i).toNat)
 case atStart=>exact⟨0,A1,c1,_,_,es,s,oZ,rfl,rfl,oH (by simp),oH (by simp[aDw,aCx]),ho5,.inl oN,oN,B0,B2,Y3,hm0⟩
 clear B0 B2 Y3 hm0 ho5 HOW HBK hG3;obtain⟨k,A2,c2,lo2,hi2,xs,sz,hk,rfl,rfl,HSZ,HX,hown,hdis,hlo2,Z0,Z2,Z3,hmr⟩:=hrel;have hszv:=HSZ.out;have hxl:xs.length<=1000:=by
  have h1:=aEn es (aDw u s wd v k);rw[<- HX.out,aGW] at h1;omega
 by_cases hlt:k<wd.length
 .obtain⟨B,off,x,rfl,hbh,hx,hcx⟩:=(hw.mid hmr oZl).at hlt
  have hxb:=hletb.out x (List.mem_of_getElem? hx);have hkn:(k:Int)<(wd.length:Int):=by omega
  have hk0:(0:Int)<=(k:Int):=by omega
  have hpe:=aKb (u:=u) (s:=s) (v:=v) hx;have HPE:=oH hpe;have hGr:G<wr.heap.size:=Z3.1;have hBw:B<wr.heap.size:=by have:=hw.1;have:=hmr.size;omega
  have hBG:B<G:=by have:=hw.1;omega
  have hw1r:w1.heap.size<=wr.heap.size:=by have:=HGW.out;omega
  clear hx hpe;generalize hat:aDx u s wd.length v k=at0 at HPE |-;clear hat;rcases(by omega:0<x \/ x<0) with hx0|hx0
  .have dx:decide (0<x)=true:=by simpa using hx0
   have hst0:∀ t,aCA at0 x t=⟨at0,x,t⟩:=fun t=>by rw[aCA,if_neg (by omega)]
   rw[hst0] at HPE;clear hst0;by_cases hlast:k+1<wd.length
   .have hmin:((min k (wd.length - 1):Nat):Int)=(k:Int):=by rw[Nat.min_eq_left (by omega)]
    have hmin2:((min (k+1) (wd.length - 1):Nat):Int)=(k:Int)+1:=by rw[Nat.min_eq_left (by omega)];rfl
    rw[hmin] at hszv;subst hszv;have hto:aDx u s wd.length v (k+1)=s+(k:Int):=by
     rw[aDx,if_neg (by omega),if_pos hlast];omega
    rw[hto] at HPE;have dk:decide ((k:Int)+1<(wd.length:Int))=true:=by simp;omega
    have hws:IntKind.i64.wrap (s+(k:Int)+1)=s+(k:Int)+1:=IntWalk.i64_in _ (by omega);have q1:=Z3.cell 1 rfl;have qf:=Z3.2.2;have hst:=Mid.setCell wr (lo:=G) (hi:=G+1) (p:=⟨G,1,none⟩) (.int .i64 (s+(k:Int)+1)) oN oS;have V0:=Z0.mid hst (Or.inl (by omega));have V2:=Z2.mid hst (Or.inl (by omega));have V3:=Z3.set 1 (.int .i64 (s+(k:Int)+1)) (by simp) rfl;have hownV:=hown.mid hst (by omega);have hcV:=aAa hst hBw (Or.inl hBG) hcx;have hmv:=hmr.storeNew (p:=⟨G,1,none⟩) (by show w.heap.size<=G;omega) (.int .i64 (s+(k:Int)+1));have hsV:(wr.setCell ⟨G,1,none⟩ (.int .i64 (s+(k:Int)+1))).heap.size=wr.heap.size:=by simp
    go_wp2_with fail;clear dk dx;generalize wr.setCell ⟨G,1,none⟩ (.int .i64 (s+(k:Int)+1))=wx at V0 V2 V3 hownV hmv hsV hcV |-;have hnsz:Hid (s+(k:Int)+1=s+((min (k+1) (wd.length - 1):Nat):Int)):=oH (by rw[hmin2];omega);clear Z0 Z2 Z3 hown hmr q1 qf hst hcx hmin hmin2 HSZ;simp only[List.set_cons_succ,List.set_cons_zero] at V3;generalize s+(k:Int)+1=sz' at V3 hnsz;generalize s+(k:Int)=tz at HPE hto |-;have hGx:G<wx.heap.size:=V3.1;have hmd:=Mid.drew1 wx;have U0:=V0.mid hmd oZr;have U2:=V2.mid hmd oZr;have U3:=V3.mid hmd oZr;have hownU:=hownV.mid hmd oZl;have hmu:=hmv.trans hmd;have g2:=U3.cell 2 rfl;have f0:=aAa hmd (by omega) oZr hcV;clear V0 V2 V3 hownV hmv hmd hcV;refine aAB (S:=(fun w'=>w'.cell? ⟨G,2,none⟩=some (.slice A2 xs.length c2)/\w'.cell? ⟨B,off+k,none⟩=some (.int .i64 x))) 11 (by kernel_rfl) ⟨g2,f0⟩ ?_;generalize World.drew wx=wz at U0 U2 U3 hownU hmu f0 g2 |-;have hS:wz.cell? ⟨G,2,none⟩=some (.slice A2 xs.length c2)/\wz.cell? ⟨B,off+k,none⟩=some (.int .i64 x):=⟨g2,f0⟩
    refine tkT 0 rfl hS ?_;try simp only[oP]
    refine tkT 1 rfl hS ?_;try simp only[oP]
    refine tkT 2 rfl hS ?_;try simp only[oP]
    refine tkT 3 rfl hS ?_;try simp only[oP]
    refine tkT 4 rfl hS ?_;try simp only[oP]
    refine tkT 5 rfl hS ?_;try simp only[oP]
    refine tkT 6 rfl hS ?_;try simp only[oP]
    refine tkT 7 rfl hS ?_;try simp only[oP]
    refine tkT 8 rfl hS ?_;try simp only[oP]
    have hP:=aBW A2 xs c2 ⟨at0,x,tz⟩ wz _ _ hownU.rg (by omega);refine rdT 9 rfl (fun K hK=>?_)
    (go_simp;(with_reducible refine hP.mono ?_);rintro en w9 ⟨A9,c9,rfl,ho9,hm9⟩;have T0':=U0.mid hm9 oZr;have T2':=U2.mid hm9 oZr;have T3':=U3.mid hm9 oZr;have f0':=aAa hm9 (by have:=U3.1;omega) oZr f0;go_wp2_with fail)
    refine hK.out _ _ (Or.inr ⟨T3'.cell 2 rfl,f0'⟩) (fun _=>?_);clear hK K;try simp only[oP]
    have hmr9:=hmu.trans hm9;have hGz:G<wz.heap.size:=U3.1;have hS3:=And.intro (T3'.cell 2 rfl) f0';have hr2:=T3'.cell 2 rfl;have hrf:=T3'.2.2;clear hS U0 U2 U3 hmu hP;refine tkT 10 rfl hS3 ?_;try simp only[oP]
    refine rdT 11 rfl (fun K hK=>?_)
    (go_simp)
    refine hK.out _ _ (Or.inl rfl) (fun _=>?_);clear hK K;try simp only[oP]
    refine aAE (by kernel_rfl) ?_ _;go_wp2_with fail;go_roundw
    case rel=>
     have hst:=Mid.setCell w9 (lo:=G) (hi:=G+1) (p:=⟨G,2,none⟩) (.slice A9 (aCy ⟨at0,x,tz⟩ xs).length c9) oN oS;refine⟨k+1,A9,c9,_,_,aCy ⟨at0,x,tz⟩ xs,sz',by omega,by go_num,by rw[hto],hnsz,oH ?_,ho9.mid hst (Or.inl (by omega)),.inr (by omega),by have:=HGW.out;omega,T0'.mid hst (Or.inl (by omega)),T2'.mid hst (Or.inl (by omega)),T3'.set 2 _ (by simp) rfl,hmr9.storeNew (by show w.heap.size<=G;omega) _⟩;rw[HPE.out,aCG,<- HX.out]
    simp[intOf];omega
   have hkl:k+1=wd.length:=by omega
   have hmin:min k (wd.length - 1)=min (k+1) (wd.length - 1):=by omega
   have hnsz:Hid (sz=s+((min (k+1) (wd.length - 1):Nat):Int)):=oH (by rw[hszv,hmin]);have hto:aDx u s wd.length v (k+1)=v:=by
    rw[aDx,if_neg (by omega),if_neg (by omega)]
   rw[hto] at HPE;have dk:decide ((k:Int)+1<(wd.length:Int))=false:=by simp;omega
   clear hszv hmin HSZ;generalize sz=sz' at Z3 hnsz;go_wp2_with fail;clear dk dx;have V0:=Z0;have V2:=Z2;have V3:=Z3;have hownV:=hown;have hmv:=hmr;have hcV:=hcx;obtain⟨wx,hwx⟩:∃ wx,wr=wx:=⟨_,rfl⟩
   have hsV:wx.heap.size=wr.heap.size:=by rw[hwx]
   rw[hwx] at V0 V2 V3 hownV hmv hcV |-;clear Z0 Z2 Z3 hown hmr hcx;have hGx:G<wx.heap.size:=V3.1;have hmd:=Mid.drew1 wx;have U0:=V0.mid hmd oZr;have U2:=V2.mid hmd oZr;have U3:=V3.mid hmd oZr;have hownU:=hownV.mid hmd oZl;have hmu:=hmv.trans hmd;have g2:=U3.cell 2 rfl;have f0:=aAa hmd (by omega) oZr hcV;clear V0 V2 V3 hownV hmv hmd hcV;refine aAB (S:=(fun w'=>w'.cell? ⟨G,2,none⟩=some (.slice A2 xs.length c2)/\w'.cell? ⟨B,off+k,none⟩=some (.int .i64 x))) 11 (by kernel_rfl) ⟨g2,f0⟩ ?_;generalize World.drew wx=wz at U0 U2 U3 hownU hmu f0 g2 |-;have hS:wz.cell? ⟨G,2,none⟩=some (.slice A2 xs.length c2)/\wz.cell? ⟨B,off+k,none⟩=some (.int .i64 x):=⟨g2,f0⟩
   refine tkT 0 rfl hS ?_;try simp only[oP]
   refine tkT 1 rfl hS ?_;try simp only[oP]
   refine tkT 2 rfl hS ?_;try simp only[oP]
   refine tkT 3 rfl hS ?_;try simp only[oP]
   refine tkT 4 rfl hS ?_;try simp only[oP]
   refine tkT 5 rfl hS ?_;try simp only[oP]
   refine tkT 6 rfl hS ?_;try simp only[oP]
   refine tkT 7 rfl hS ?_;try simp only[oP]
   refine tkT 8 rfl hS ?_;try simp only[oP]
   have hP:=aBW A2 xs c2 ⟨at0,x,v⟩ wz _ _ hownU.rg (by omega);refine rdT 9 rfl (fun K hK=>?_)
   (go_simp;(with_reducible refine hP.mono ?_);rintro en w9 ⟨A9,c9,rfl,ho9,hm9⟩;have T0':=U0.mid hm9 oZr;have T2':=U2.mid hm9 oZr;have T3':=U3.mid hm9 oZr;have f0':=aAa hm9 (by have:=U3.1;omega) oZr f0;go_wp2_with fail)
   refine hK.out _ _ (Or.inr ⟨T3'.cell 2 rfl,f0'⟩) (fun _=>?_);clear hK K;try simp only[oP]
   have hmr9:=hmu.trans hm9;have hGz:G<wz.heap.size:=U3.1;have hS3:=And.intro (T3'.cell 2 rfl) f0';have hr2:=T3'.cell 2 rfl;have hrf:=T3'.2.2;clear hS U0 U2 U3 hmu hP;refine tkT 10 rfl hS3 ?_;try simp only[oP]
   refine rdT 11 rfl (fun K hK=>?_)
   (go_simp)
   refine hK.out _ _ (Or.inl rfl) (fun _=>?_);clear hK K;try simp only[oP]
   refine aAE (by kernel_rfl) ?_ _;go_wp2_with fail;go_roundw
   case rel=>
    have hst:=Mid.setCell w9 (lo:=G) (hi:=G+1) (p:=⟨G,2,none⟩) (.slice A9 (aCy ⟨at0,x,v⟩ xs).length c9) oN oS;refine⟨k+1,A9,c9,_,_,aCy ⟨at0,x,v⟩ xs,sz',by omega,by go_num,by rw[hto],hnsz,oH ?_,ho9.mid hst (Or.inl (by omega)),.inr (by omega),by have:=HGW.out;omega,T0'.mid hst (Or.inl (by omega)),T2'.mid hst (Or.inl (by omega)),T3'.set 2 _ (by simp) rfl,hmr9.storeNew (by show w.heap.size<=G;omega) _⟩;rw[HPE.out,aCG,<- HX.out]
   simp[intOf];omega
  have dx:decide (0<x)=false:=by simp;omega
  have hst0:∀ t,aCA at0 x t=⟨t, -x,at0⟩:=fun t=>by rw[aCA,if_pos hx0]
  have hwx1:IntKind.i64.wrap (-x) = -x:=IntWalk.i64_in _ (by omega);have hwx2:wrap64 (-x) = -x:=by unfold wrap64;omega
  rw[hst0] at HPE;clear hst0;by_cases hlast:k+1<wd.length
  .have hmin:((min k (wd.length - 1):Nat):Int)=(k:Int):=by rw[Nat.min_eq_left (by omega)]
   have hmin2:((min (k+1) (wd.length - 1):Nat):Int)=(k:Int)+1:=by rw[Nat.min_eq_left (by omega)];rfl
   rw[hmin] at hszv;subst hszv;have hto:aDx u s wd.length v (k+1)=s+(k:Int):=by
    rw[aDx,if_neg (by omega),if_pos hlast];omega
   rw[hto] at HPE;have dk:decide ((k:Int)+1<(wd.length:Int))=true:=by simp;omega
   have hws:IntKind.i64.wrap (s+(k:Int)+1)=s+(k:Int)+1:=IntWalk.i64_in _ (by omega);have q1:=Z3.cell 1 rfl;have qf:=Z3.2.2;have hst:=Mid.setCell wr (lo:=G) (hi:=G+1) (p:=⟨G,1,none⟩) (.int .i64 (s+(k:Int)+1)) oN oS;have V0:=Z0.mid hst (Or.inl (by omega));have V2:=Z2.mid hst (Or.inl (by omega));have V3:=Z3.set 1 (.int .i64 (s+(k:Int)+1)) (by simp) rfl;have hownV:=hown.mid hst (by omega);have hcV:=aAa hst hBw (Or.inl hBG) hcx;have hmv:=hmr.storeNew (p:=⟨G,1,none⟩) (by show w.heap.size<=G;omega) (.int .i64 (s+(k:Int)+1));have hsV:(wr.setCell ⟨G,1,none⟩ (.int .i64 (s+(k:Int)+1))).heap.size=wr.heap.size:=by simp
   go_wp2_with fail;clear dk dx;generalize wr.setCell ⟨G,1,none⟩ (.int .i64 (s+(k:Int)+1))=wx at V0 V2 V3 hownV hmv hsV hcV |-;have hnsz:Hid (s+(k:Int)+1=s+((min (k+1) (wd.length - 1):Nat):Int)):=oH (by rw[hmin2];omega);clear Z0 Z2 Z3 hown hmr q1 qf hst hcx hmin hmin2 HSZ;simp only[List.set_cons_succ,List.set_cons_zero] at V3;generalize s+(k:Int)+1=sz' at V3 hnsz;generalize s+(k:Int)=tz at HPE hto |-;have hGx:G<wx.heap.size:=V3.1;have hmd:=Mid.drew1 wx;have U0:=V0.mid hmd oZr;have U2:=V2.mid hmd oZr;have U3:=V3.mid hmd oZr;have hownU:=hownV.mid hmd oZl;have hmu:=hmv.trans hmd;have g2:=U3.cell 2 rfl;have f0:=aAa hmd (by omega) oZr hcV;clear V0 V2 V3 hownV hmv hmd hcV;refine aAB (S:=(fun w'=>w'.cell? ⟨G,2,none⟩=some (.slice A2 xs.length c2)/\w'.cell? ⟨B,off+k,none⟩=some (.int .i64 x))) 12 (by kernel_rfl) ⟨g2,f0⟩ ?_;generalize World.drew wx=wz at U0 U2 U3 hownU hmu f0 g2 |-;have hS:wz.cell? ⟨G,2,none⟩=some (.slice A2 xs.length c2)/\wz.cell? ⟨B,off+k,none⟩=some (.int .i64 x):=⟨g2,f0⟩
   refine tkT 0 rfl hS ?_;try simp only[oP]
   refine tkT 1 rfl hS ?_;try simp only[oP]
   refine tkT 2 rfl hS ?_;try simp only[oP]
   refine tkT 3 rfl hS ?_;try simp only[oP]
   refine tkT 4 rfl hS ?_;try simp only[oP]
   refine tkT 5 rfl hS ?_;try simp only[oP]
   refine tkT 6 rfl hS ?_;try simp only[oP]
   refine tkT 7 rfl hS ?_;try simp only[oP]
   refine tkT 8 rfl hS ?_;try simp only[oP]
   refine tkT 9 rfl hS ?_;try simp only[oP]
   have hP:=aBW A2 xs c2 ⟨tz, -x,at0⟩ wz _ _ hownU.rg (by omega);refine rdT 10 rfl (fun K hK=>?_)
   (go_simp;(try simp only[hwx1,hwx2]);(with_reducible refine hP.mono ?_);rintro en w9 ⟨A9,c9,rfl,ho9,hm9⟩;have T0':=U0.mid hm9 oZr;have T2':=U2.mid hm9 oZr;have T3':=U3.mid hm9 oZr;have f0':=aAa hm9 (by have:=U3.1;omega) oZr f0;go_wp2_with fail)
   refine hK.out _ _ (Or.inr ⟨T3'.cell 2 rfl,f0'⟩) (fun _=>?_);clear hK K;try simp only[oP]
   have hmr9:=hmu.trans hm9;have hGz:G<wz.heap.size:=U3.1;have hS3:=And.intro (T3'.cell 2 rfl) f0';have hr2:=T3'.cell 2 rfl;have hrf:=T3'.2.2;clear hS U0 U2 U3 hmu hP;refine tkT 11 rfl hS3 ?_;try simp only[oP]
   refine rdT 12 rfl (fun K hK=>?_)
   (go_simp)
   refine hK.out _ _ (Or.inl rfl) (fun _=>?_);clear hK K;try simp only[oP]
   refine aAE (by kernel_rfl) ?_ _;go_wp2_with fail;go_roundw
   case rel=>
    have hst:=Mid.setCell w9 (lo:=G) (hi:=G+1) (p:=⟨G,2,none⟩) (.slice A9 (aCy ⟨tz, -x,at0⟩ xs).length c9) oN oS;refine⟨k+1,A9,c9,_,_,aCy ⟨tz, -x,at0⟩ xs,sz',by omega,by go_num,by rw[hto],hnsz,oH ?_,ho9.mid hst (Or.inl (by omega)),.inr (by omega),by have:=HGW.out;omega,T0'.mid hst (Or.inl (by omega)),T2'.mid hst (Or.inl (by omega)),T3'.set 2 _ (by simp) rfl,hmr9.storeNew (by show w.heap.size<=G;omega) _⟩;rw[HPE.out,aCG,<- HX.out]
   simp[intOf];omega
  have hkl:k+1=wd.length:=by omega
  have hmin:min k (wd.length - 1)=min (k+1) (wd.length - 1):=by omega
  have hnsz:Hid (sz=s+((min (k+1) (wd.length - 1):Nat):Int)):=oH (by rw[hszv,hmin]);have hto:aDx u s wd.length v (k+1)=v:=by
   rw[aDx,if_neg (by omega),if_neg (by omega)]
  rw[hto] at HPE;have dk:decide ((k:Int)+1<(wd.length:Int))=false:=by simp;omega
  clear hszv hmin HSZ;generalize sz=sz' at Z3 hnsz;go_wp2_with fail;clear dk dx;have V0:=Z0;have V2:=Z2;have V3:=Z3;have hownV:=hown;have hmv:=hmr;have hcV:=hcx;obtain⟨wx,hwx⟩:∃ wx,wr=wx:=⟨_,rfl⟩
  have hsV:wx.heap.size=wr.heap.size:=by rw[hwx]
  rw[hwx] at V0 V2 V3 hownV hmv hcV |-;clear Z0 Z2 Z3 hown hmr hcx;have hGx:G<wx.heap.size:=V3.1;have hmd:=Mid.drew1 wx;have U0:=V0.mid hmd oZr;have U2:=V2.mid hmd oZr;have U3:=V3.mid hmd oZr;have hownU:=hownV.mid hmd oZl;have hmu:=hmv.trans hmd;have g2:=U3.cell 2 rfl;have f0:=aAa hmd (by omega) oZr hcV;clear V0 V2 V3 hownV hmv hmd hcV;refine aAB (S:=(fun w'=>w'.cell? ⟨G,2,none⟩=some (.slice A2 xs.length c2)/\w'.cell? ⟨B,off+k,none⟩=some (.int .i64 x))) 12 (by kernel_rfl) ⟨g2,f0⟩ ?_;generalize World.drew wx=wz at U0 U2 U3 hownU hmu f0 g2 |-;have hS:wz.cell? ⟨G,2,none⟩=some (.slice A2 xs.length c2)/\wz.cell? ⟨B,off+k,none⟩=some (.int .i64 x):=⟨g2,f0⟩
  refine tkT 0 rfl hS ?_;try simp only[oP]
  refine tkT 1 rfl hS ?_;try simp only[oP]
  refine tkT 2 rfl hS ?_;try simp only[oP]
  refine tkT 3 rfl hS ?_;try simp only[oP]
  refine tkT 4 rfl hS ?_;try simp only[oP]
  refine tkT 5 rfl hS ?_;try simp only[oP]
  refine tkT 6 rfl hS ?_;try simp only[oP]
  refine tkT 7 rfl hS ?_;try simp only[oP]
  refine tkT 8 rfl hS ?_;try simp only[oP]
  refine tkT 9 rfl hS ?_;try simp only[oP]
  have hP:=aBW A2 xs c2 ⟨v, -x,at0⟩ wz _ _ hownU.rg (by omega);refine rdT 10 rfl (fun K hK=>?_)
  (go_simp;(try simp only[hwx1,hwx2]);(with_reducible refine hP.mono ?_);rintro en w9 ⟨A9,c9,rfl,ho9,hm9⟩;have T0':=U0.mid hm9 oZr;have T2':=U2.mid hm9 oZr;have T3':=U3.mid hm9 oZr;have f0':=aAa hm9 (by have:=U3.1;omega) oZr f0;go_wp2_with fail)
  refine hK.out _ _ (Or.inr ⟨T3'.cell 2 rfl,f0'⟩) (fun _=>?_);clear hK K;try simp only[oP]
  have hmr9:=hmu.trans hm9;have hGz:G<wz.heap.size:=U3.1;have hS3:=And.intro (T3'.cell 2 rfl) f0';have hr2:=T3'.cell 2 rfl;have hrf:=T3'.2.2;clear hS U0 U2 U3 hmu hP;refine tkT 11 rfl hS3 ?_;try simp only[oP]
  refine rdT 12 rfl (fun K hK=>?_)
  (go_simp)
  refine hK.out _ _ (Or.inl rfl) (fun _=>?_);clear hK K;try simp only[oP]
  refine aAE (by kernel_rfl) ?_ _;go_wp2_with fail;go_roundw
  case rel=>
   have hst:=Mid.setCell w9 (lo:=G) (hi:=G+1) (p:=⟨G,2,none⟩) (.slice A9 (aCy ⟨v, -x,at0⟩ xs).length c9) oN oS;refine⟨k+1,A9,c9,_,_,aCy ⟨v, -x,at0⟩ xs,sz',by omega,by go_num,by rw[hto],hnsz,oH ?_,ho9.mid hst (Or.inl (by omega)),.inr (by omega),by have:=HGW.out;omega,T0'.mid hst (Or.inl (by omega)),T2'.mid hst (Or.inl (by omega)),T3'.set 2 _ (by simp) rfl,hmr9.storeNew (by show w.heap.size<=G;omega) _⟩;rw[HPE.out,aCG,<- HX.out]
  simp[intOf];omega
 obtain rfl:k=wd.length:=by omega
 have hszf:sz=s+(wd.length:Int) - 1:=by rw[hszv,Nat.min_eq_right (by omega)];omega
 subst hszf;have hxx:=HX.out;rw[aMh hasc.out] at hxx;have hGr:G<wr.heap.size:=Z3.1;have HXX:=oH hxx;clear hszv hxx;obtain⟨a0,a1,a2⟩:=Z2.c3 rfl;obtain⟨b0,b1,b2⟩:=Z3.c3 rfl;have af:=Z2.2.2;have bf:=Z3.2.2;go_wp2_with fail;have hcl:(w.heap.size+1 == G)=false:=by simp;omega
 refine bodyPost_ret (v:=.tuple #[.agg #[.int .i64 r,.int .i64 (s+(wd.length:Int) - 1),.slice A2 xs.length c2],.bool true]) (by simp[results,Tryz.results212,go_sem,a0,a1,a2,b0,b1,b2,af,bf]) rfl ⟨A2,c2,?_,?_,?_⟩
 .rw[HRS.out,HRE.out,HXX.out]
 .rw[HRE.out,<- HXX.out]
  refine OG.wide (OG.mid hown (a:=w.heap.size) (b:=w.heap.size+2) ?_ (Or.inl (by have:=HS.out;omega))) (by have:=HS.out;omega) (by have:=hown.size;simp;omega) oN;repeat (first|exact Mid.refl _ _ _|refine Mid.stored ?_ _ (by simp;try omega) (by simp;try omega))
 repeat (first|exact hmr|refine Mid.storeNew ?_ (by simp;try omega) _)
end Go.Proofs.YtkimajabegojoaaGreat
