/- Lemmas. -/
import Derived.Test.YtkimajabegojoaaGreatMt5
import Derived.Test.YtkimajabegojoaaGreatMt8
import Derived.Test.YtkimajabegojoaaGreatMt2
import Derived.Test.YtkimajabegojoaaGreatMt4
import Derived.Test.YtkimajabegojoaaGreatMt7
import Derived.Test.YtkimajabegojoaaGreatMt3
import Derived.Test.YtkimajabegojoaaGreatMt1
import Derived.IntWalk
import Derived.Outline
namespace Go.Proofs.YtkimajabegojoaaGreat
set_option linter.unusedVariables false
set_option linter.unusedSimpArgs false
set_option maxHeartbeats 40000000
set_option maxRecDepth 100000
open Go.RowKit
def WordsR(w:World)(H B:Nat)(vals:List Value)(st:BS):Prop:=∀ p∈st,∃ Aw cw,vals[p.1.toNat]?=some (.slice Aw p.2.length cw)/\(p.2≠[]->∃ b,Aw=some ⟨b,0,none⟩/\b<H/\b≠B/\b<w.heap.size/\∀ j u,(aAd p.2)[j]?=some u->w.cell? ⟨b,j,none⟩=some u)
theorem WordsR.mid{w w':World}{H B:Nat}{vals:List Value}{st:BS}(h:WordsR w H B vals st)(m:Mid 0 0 w w'):WordsR w' H B vals st:=fun p hp=>by
 obtain⟨Aw,cw,h1,h2⟩:=h p hp;refine⟨Aw,cw,h1,fun hn=>?_⟩;obtain⟨b,hA,h3,h4,h5,h6⟩:=h2 hn;exact⟨b,hA,h3,h4,Nat.lt_of_lt_of_le h5 m.size,fun j u hu=>aAa m h5 oZr (h6 j u hu)⟩
theorem WordsR.grown{w w':World}{H B:Nat}{vals:List Value}{st:BS}{row:Option Nat}(h:WordsR w H B vals st)(hg:w.grownBy w' row)(hd:∀ g,row=some g->g=B \/ H<=g):WordsR w' H B vals st:=fun p hp=>by
 obtain⟨Aw,cw,h1,h2⟩:=h p hp;refine⟨Aw,cw,h1,fun hn=>?_⟩;obtain⟨b,hA,h3,h4,h5,h6⟩:=h2 hn;refine⟨b,hA,h3,h4,Nat.lt_of_lt_of_le h5 hg.size,fun j u hu=>(World.cell?_of_block (hg.block b h5 (fun e=>?_))).trans (h6 j u hu)⟩;rcases hd b e.symm with h0|h0
 .exact h4 h0
 .omega
theorem TreeSt.wordsR{w:World}{g n:Nat}{oB:Option Nat}{vals:List Value}{st:BS}{B:Nat}(h:TreeSt w g oB n vals st)(hB:∀ j,w.cell? ⟨B,j,none⟩=none):WordsR w w.heap.size B vals st:=fun p hp=>by
 obtain⟨b,c,h1,h2,h3,h4,h5⟩:=h.on p hp;refine⟨_,c,h1,fun hn=>⟨b,rfl,h5,?_,h5,h2⟩⟩;intro hb;subst hb;have hl:0<p.2.length:=List.length_pos_iff.2 hn;have:=h2 0 (.int .i64 p.2[0]) (by rw[aAF,List.getElem?_eq_getElem hl];rfl);rw[hB] at this;cases this
theorem WordsR.rv{w:World}{H B:Nat}{vals:List Value}{st:BS}(h:WordsR w H B vals st)(hH:H<=w.heap.size){p:Int × List Int}(hp:p∈st):∃ Aw cw,vals[p.1.toNat]?=some (.slice Aw p.2.length cw)/\RV w 0 H Aw (aAd p.2):=by
 obtain⟨Aw,cw,h1,h2⟩:=h p hp;refine⟨Aw,cw,h1,hH,fun hn=>?_⟩;obtain⟨b,hA,h3,h4,h5,h6⟩:=h2 (by intro h0;rw[h0] at hn;exact hn rfl);exact⟨b,0,hA,oZ,h3,fun j u hu=>by rw[Nat.zero_add];exact h6 j u hu⟩
theorem aTI{b g n c:Nat}(h:Value.ownBlock (.slice (some ⟨b,0,none⟩) n c)=some g):g=b:=(Option.some.inj (show some b=some g from h)).symm
theorem aOC{w:World}{lo hi b j:Nat}{cs:List Value}{u:Value}(h:RV w lo hi (some ⟨b,0,none⟩) cs)(hu:cs[j]?=some u):b<hi/\w.cell? ⟨b,j,none⟩=some u:=by
 obtain⟨b',off,e, -,h2,hc⟩:=h.2 (by intro h0;subst h0;simp at hu);injection e with e
 injection e with e1 e2
 subst e1 e2;have:=hc j u hu;rw[Nat.zero_add] at this;exact⟨h2,this⟩
theorem aOB{w:World}(A1 A2 A3:Option Addr)(c1 c2 c3:Nat)(x1 x2 x3:List Int)(h1:Rs w w.heap.size A1 (aAd x1))(h2:Rs w w.heap.size A2 (aAd x2))(h3:Rs w w.heap.size A3 (aAd x3)) :
  RSS (w.alloc (.cells #[.slice A1 x1.length c1,.slice A2 x2.length c2,.slice A3 x3.length c3] 44)) 0 (w.heap.size+1) (some ⟨w.heap.size,0,none⟩) [x1,x2,x3]:=by
 have hk:∀ {A:Option Addr} {x:List Int},Rs w w.heap.size A (aAd x)->RV (w.alloc (.cells #[.slice A1 x1.length c1,.slice A2 x2.length c2,.slice A3 x3.length c3] 44)) 0 (w.heap.size+1) A (aAd x):=fun h=>by
  refine⟨by simp,fun hn=>?_⟩;obtain⟨b,off,e,hb,hc⟩:=(h.alloc oN (.cells #[.slice A1 x1.length c1,.slice A2 x2.length c2,.slice A3 x3.length c3] 44)) hn;exact⟨b,off,e,oZ,by omega,hc⟩
 refine⟨[⟨A1,c1,x1⟩,⟨A2,c2,x2⟩,⟨A3,c3,x3⟩],rfl,⟨by simp,fun _=>⟨w.heap.size,0,rfl,oZ,oS,fun j u hu=>?_⟩⟩,fun r hr=>?_⟩
 .rw[Nat.zero_add,World.cell?_alloc_new]
  simpa [aDV,Row.v] using hu
 simp at hr;rcases hr with rfl|rfl|rfl
 .exact hk h1
 .exact hk h2
 exact hk h3
theorem aLM(r n:Nat)(A:Option Addr)(es:List Ed)(c:Nat)(w:World)(lo hi:Nat)(hr:RG w lo hi A es)(hcl:es.length<=c)(hco:IsCor r n es)(X:List Ed)(hX:∀ e∈X,e∈es)(hXl:X.length<=120)(hE:∀ W,RG W lo hi A es->Calls Tryz.prog 198 #[aAw r n A es.length c] W fun e w'=>∃ A1 c1,e=.returned (.slice A1 X.length c1)/\OG w' W.heap.size w'.heap.size A1 c1 X/\Mid 0 0 W w') :
  Calls Tryz.prog 125 #[aAw r n A es.length c] w fun e w'=>∃ A1 c1,e=.returned (.slice A1 (X.map (basisW r es)).length c1)/\OSS w' w.heap.size w'.heap.size 44 3 A1 c1 (X.map (basisW r es))/\Mid 0 0 w w':=by
 have hg:=hco.gr;have hn1:0<n:=by have:=hg.size;omega
 have hn40:n<=40:=by have:=hg.size;omega
 have hl:=hg.len;have hr3:r<=3:=by have:=hg.rank;omega
 have HCO:=oH hco;have HE:=oH hE;have HX:=oH hX;clear hco hE hX;have hm0:Mid 0 0 w ((w.alloc (.cells #[.int .i64 r,.int .i64 n,.slice A es.length c] 35)).alloc (.cells #[] 44)):=(Mid.alloc _ _).trans (Mid.alloc _ _);have B0:=(Box.new w #[.int .i64 r,.int .i64 n,.slice A es.length c] 35).mid (Mid.alloc _ (.cells #[] 44)) oZr;have O0:=Own1.empty (w.alloc (.cells #[.int .i64 r,.int .i64 n,.slice A es.length c] 35));have hB:∀ j,((w.alloc (.cells #[.int .i64 r,.int .i64 n,.slice A es.length c] 35)).alloc (.cells #[] 44)).cell? ⟨w.heap.size+1,j,none⟩=none:=fun j=>by
  have h:=World.cell?_alloc_new (w.alloc (.cells #[.int .i64 r,.int .i64 n,.slice A es.length c] 35)) #[] 44 j;rw[World.size_alloc] at h;rw[h]
  rfl
 simp only[World.size_alloc] at O0;obtain⟨p0,p1,p2⟩:=B0.c3 rfl;go_enter Tryz.func125,Tryz.ntmps125
 go_wp2_with fail;generalize (w.alloc (.cells #[.int .i64 r,.int .i64 n,.slice A es.length c] 35)).alloc (.cells #[] 44)=w1 at hm0 B0 O0 hB p0 p1 p2 |-;have hs1:w.heap.size+1<w1.heap.size:=(O0.lt rfl).2;with_reducible refine(aAt r n A es c w1 lo hi (hr.mid hm0 oZl) (by omega) hcl true (iff_of_true rfl HCO.out)).mono ?_
 rintro en w2 ⟨rfl,hm2⟩;have hs2:=hm2.size;have hB2:∀ j,w2.cell? ⟨w.heap.size+1,j,none⟩=none:=fun j=>(World.cell?_of_block (hm2.block _ (by simpa using hs1) (by omega))).trans (hB j);clear p0 p1 p2 hB;replace O0:=O0.mid hm2;replace B0:=B0.mid hm2 oZr;replace hm0:=hm0.trans hm2;obtain⟨p0,p1,p2⟩:=B0.c3 rfl;clear hm2;have hT:=aIJ r n 0 A es c w2 lo hi (hr.mid hm0 oZl) hg hn1;have h00:((0:Nat):Int)=0:=rfl;rw[h00] at hT;have hor:aBO r es 0=(bfs es (lets r) 0).map Prod.fst:=by unfold aBO;rw[Int.toNat_natCast]
 rw[hor] at hT;obtain⟨ST,hST⟩:∃ ST,bfs es (lets r) 0=ST:=⟨_,rfl⟩
 rw[hST] at hT;have HSTE:=oH hST;have HTL:=oH hT;clear hT h00 hor hST;go_wp2_with fail;with_reducible refine HTL.out.mono ?_
 rintro en w3 ⟨A1,c1,rfl,hm3, -,vals,hval,hts⟩;have hs3:=hm3.size;have hWR:=hts.wordsR (B:=w.heap.size+1) (fun j=>(World.cell?_of_block (hm3.block _ (show w.heap.size+1<w2.heap.size by omega) (by omega))).trans (hB2 j));have hRV:=(aAy hval).wide (lo':=w.heap.size+2) (hi':=w3.heap.size) (by omega) oN oN;clear p0 p1 p2 hval hts hB2 HTL;replace O0:=O0.mid hm3;replace B0:=B0.mid hm3 oZr;replace hm0:=hm0.trans hm3;obtain⟨p0,p1,p2⟩:=B0.c3 rfl;clear hm3;have HWR:=oH hWR;have HRV:=oH hRV;have HO:=oH O0;clear hWR hRV O0;go_wp2_with fail;with_reducible refine(HE.out w3 (hr.mid hm0 oZl)).mono ?_
 rintro en w4 ⟨AX,cX,rfl,hOX,hm4⟩;have hs4:=hm4.size;have HWR4:=oH (HWR.out.mid hm4);have HRV4:=oH (HRV.out.mid hm4 oZl);have HO4:=oH (HO.out.mid hm4);have HRX:=oH (hOX.rg.wide (lo':=w.heap.size+2) (hi':=w4.heap.size) (by omega) oN oN);have HRV4':=oH (HRV4.out.wide (lo':=w.heap.size+2) (hi':=w4.heap.size) oN hs4 oN);have hm05:=hm0.trans hm4;have HWR4':Hid (WordsR w4 w4.heap.size (w.heap.size+1) vals ST):=oH (fun p hp=>by
  obtain⟨Aw,cw,h1,h2⟩:=HWR4.out p hp;refine⟨Aw,cw,h1,fun hn=>?_⟩;obtain⟨b,hA,h3,h4,h5,h6⟩:=h2 hn;exact⟨b,hA,by omega,h4,h5,h6⟩)
 have HD0:Hid (∀ g,obS (some (⟨w.heap.size+1,0,none⟩:Addr)) 0 0=some g->g=w.heap.size+1 \/ w4.heap.size<=g):=oH (fun g hg=>.inl (aTI hg));have HN0:Hid (aBe ([]:List Row)=(X.take 0).map (basisW r es)):=oH rfl;clear HWR HRV HO HWR4 HRV4 hOX B0 p0 p1 p2 hm0 hm4 HE;generalize (some (⟨w.heap.size+1,0,none⟩:Addr))=A0 at HO4 HD0 |-;generalize hH:w4.heap.size=H4 at HRX HRV4' HWR4' HD0;have hsz4:H4<=w4.heap.size:=Nat.le_of_eq hH.symm;have hw4:w.heap.size+2<=H4:=by omega
 generalize w2.heap.size+1=gv at HRV4' |-;clear hH;go_wp2_with fail;go_loopw [3,21] (fun ov kv wr=>∃(k:Nat) (rows:List Row) (A2:Option Addr) (c2:Nat),kv=.int .i64 k/\ov=.slice A2 k c2/\k<=X.length/\Hid (aBe rows=(X.take k).map (basisW r es))/\Hid (Own1 wr (w.heap.size+1) A2 k c2 rows)/\Hid (∀ g,obS A2 k c2=some g->g=w.heap.size+1 \/ H4<=g)/\Hid (RG wr (w.heap.size+2) H4 AX X)/\Hid (RV wr (w.heap.size+2) H4 (some ⟨gv,0,none⟩) vals)/\Hid (WordsR wr H4 (w.heap.size+1) vals ST)/\H4<=wr.heap.size/\Mid 0 0 w wr) (fun _ kv _=>X.length - (intOf kv).toNat)
 case atStart=>exact⟨0,[],A0,0,rfl,rfl,oZ,HN0,HO4,HD0,HRX,HRV4',HWR4',hsz4,hm05⟩
 clear HN0 HO4 HD0 HRX HRV4' HWR4' hsz4 hm05;obtain⟨wo,hwo⟩:∃ wo,wo=wr:=⟨_,rfl⟩
 subst hwo;obtain⟨k,rows,A2,c2,rfl,rfl,hk,HN,HO,HD,HRX,HRV,HWR,hsz,hm0⟩:=hrel;by_cases hlt:k<X.length
 .obtain⟨b,off,⟨ea,el,ebb⟩,hA, -,hbh,he,x0,x1,x2⟩:=(HRX.out).ed hlt
  simp only at x0 x1 x2;subst hA;have hbs:b<wo.heap.size:=Nat.lt_of_lt_of_le hbh hsz;have hk0:(0:Int)<=(k:Int):=by omega
  have hkm:(k:Int)<(X.length:Int):=by omega
  have hin:=hg.all _ (HX.out _ (List.mem_of_getElem? he));unfold InG at hin;simp only at hin;obtain⟨pa,rfl⟩:∃ m:Nat,ea=m:=⟨ea.toNat,by omega⟩
  obtain⟨pb,rfl⟩:∃ m:Nat,ebb=m:=⟨ebb.toNat,by omega⟩
  have hpan:pa<n:=by omega
  have hpbn:pb<n:=by omega
  have hwa:=aEs HCO.out hpan;have hwb:=aEs HCO.out hpbn;obtain⟨hla,hlla⟩:=aIr HCO.out hpan;obtain⟨hlb,hllb⟩:=aIr HCO.out hpbn;have hbas:basisW r es ⟨(pa:Int),el,(pb:Int)⟩=red [] (wordV r es (pa:Int)++[el]++aAx (wordV r es (pb:Int))):=rfl;rw[HSTE.out] at hwa hwb;generalize wordV r es (pa:Int)=wa at hwa hla hlla hbas;generalize wordV r es (pb:Int)=wb at hwb hlb hllb hbas;obtain⟨Aa,ca,hva,hra⟩:=HWR.out.rv hsz hwa;obtain⟨Ab,cb,hvb,hrb⟩:=HWR.out.rv hsz hwb;simp only[Int.toNat_natCast] at hva hvb;obtain⟨hgvH,hca⟩:=aOC HRV.out hva;have hcb:=(aOC HRV.out hvb).2;have hal:=Mid.alloc wo (.cells #[.int .i64 (pa:Int),.int .i64 el,.int .i64 (pb:Int)] 110);have B1:=Box.new wo #[.int .i64 (pa:Int),.int .i64 el,.int .i64 (pb:Int)] 110;have hgvo:gv<wo.heap.size:=by omega
  have HEK:=oH he;have HBAS:=oH hbas;have hel:-3<=el/\el<=3:=by omega
  have hoka:OkI wa:=fun x hx=>by have:=aBz.1 (hlla x hx);omega
  have hokb:OkI wb:=fun x hx=>by have:=aBz.1 (hllb x hx);omega
  have HOKA:=oH hoka;have HOKB:=oH hokb;have hpa0:(0:Int)<=(pa:Int):=by omega
  have hpan':(pa:Int)<(n:Int):=by omega
  have hpb0:(0:Int)<=(pb:Int):=by omega
  have hpbn':(pb:Int)<(n:Int):=by omega
  clear he hbas hva hvb hwa hwb hlla hllb hoka hokb hin;go_wp2_with fail;generalize wo.alloc (.cells #[.int .i64 (pa:Int),.int .i64 el,.int .i64 (pb:Int)] 110)=wbx at hal B1 |-;clear x0 x1 x2;have hmz:=hal.trans (Mid.drew1 wbx);have HO1:=oH (HO.out.mid hmz);have HRX1:=oH (HRX.out.mid hmz oZl);have HRV1:=oH (HRV.out.mid hmz oZl);have HWR1:=oH (HWR.out.mid hmz);have hra1:=hra.mid hmz oZl;have hrb1:=hrb.mid hmz oZl;have hca1:=aAa hmz hgvo oZr hca;have hcb1:=aAa hmz hgvo oZr hcb;have hgv1:gv<(World.drew wbx).heap.size:=Nat.lt_of_lt_of_le hgvo hmz.size;have hmt:=hm0.trans hmz;have B2:=B1.mid (Mid.drew1 wbx) oZr;have hsal:=hmz.size;have hbb:wo.heap.size<(World.drew wbx).heap.size:=B2.1;obtain⟨q0,q1,q2⟩:=B2.c3 rfl;clear hca hcb hra hrb hal B1 HO HRX HRV HWR hm0;refine aAl (S:=(fun w'=>w'.cell? ⟨wo.heap.size,0,none⟩=some (.int .i64 (pa:Int))/\w'.cell? ⟨wo.heap.size,1,none⟩=some (.int .i64 el)/\w'.cell? ⟨wo.heap.size,2,none⟩=some (.int .i64 (pb:Int))/\w'.cell? ⟨gv,pa,none⟩=some (.slice Aa wa.length ca)/\w'.cell? ⟨gv,pb,none⟩=some (.slice Ab wb.length cb))) [18,19] (by kernel_rfl) ⟨q0,q1,q2,hca1,hcb1⟩ ?_;generalize World.drew wbx=wz at HO1 HRX1 HRV1 HWR1 hra1 hrb1 hca1 hcb1 hgv1 hmt B2 hsal hbb q0 q1 q2 hmz |-;have hS:wz.cell? ⟨wo.heap.size,0,none⟩=some (.int .i64 (pa:Int))/\wz.cell? ⟨wo.heap.size,1,none⟩=some (.int .i64 el)/\wz.cell? ⟨wo.heap.size,2,none⟩=some (.int .i64 (pb:Int))/\wz.cell? ⟨gv,pa,none⟩=some (.slice Aa wa.length ca)/\wz.cell? ⟨gv,pb,none⟩=some (.slice Ab wb.length cb):=⟨q0,q1,q2,hca1,hcb1⟩
  refine tkZ [18,19] 0 rfl hS ?_;try simp only[oP]
  refine tkZ [4,5,15,16,17,18,19] 1 rfl hS ?_;try simp only[oP]
  refine tkZ [3,4,5,15,16,17,18,19] 2 rfl hS ?_;try simp only[oP]
  refine tkZ [4,5,15,16,17,18,19] 3 rfl hS ?_;try simp only[oP]
  refine tkZ [5,15,16,17,18,19] 4 rfl hS ?_;try simp only[oP]
  refine tkZ [15,16,17,18,19] 5 rfl hS ?_;try simp only[oP]
  refine tkZ [7,8,15,16,17,18,19] 6 rfl hS ?_;try simp only[oP]
  refine tkZ [8,15,16,17,18,19] 7 rfl hS ?_;try simp only[oP]
  refine tkZ [12,13,14,15,16,17,18,19] 9 rfl hS ?_;try simp only[oP]
  refine tkZ [11,12,13,14,15,16,17,18,19] 10 rfl hS ?_;try simp only[oP]
  refine tkZ [12,13,14,15,16,17,18,19] 11 rfl hS ?_;try simp only[oP]
  refine tkZ [13,14,15,16,17,18,19] 12 rfl hS ?_;try simp only[oP]
  refine tkZ [14,15,16,17,18,19] 13 rfl hS ?_;try simp only[oP]
  have q0z:=q0;have q1z:=q1;have q2z:=q2;have vaz:=hca1;have vbz:=hcb1;have hbbz:=hbb;have hgvz:=hgv1;have hHz:H4<=wz.heap.size:=by omega
  have hIz:=aFc Ab wb cb H4 wz hrb1.rs hHz HOKB.out (by omega);clear q0 q1 q2 hca1 hcb1 hbb hgv1 B2 hmz hS;refine aAW (rs:=[8,14]) (by kernel_rfl) (by simp) (AllReadyZ.cons rfl (fun K hK=>?_) (AllReadyZ.cons rfl (fun K hK=>?_) AllReadyZ.nil));focus
   go_simp;refine hK.out _ _ (Or.inr ⟨aAa (Mid.alloc wz (.cells #[.int .i64 el] 3)) hbbz oZr q0z,aAa (Mid.alloc wz (.cells #[.int .i64 el] 3)) hbbz oZr q1z,aAa (Mid.alloc wz (.cells #[.int .i64 el] 3)) hbbz oZr q2z,aAa (Mid.alloc wz (.cells #[.int .i64 el] 3)) hgvz oZr vaz,aAa (Mid.alloc wz (.cells #[.int .i64 el] 3)) hgvz oZr vbz⟩) (fun _=>?_);clear hK K;try simp only[oP]
   have ha8:=Mid.alloc wz (.cells #[.int .i64 el] 3);have q08:=aAa ha8 hbbz oZr q0z;have q18:=aAa ha8 hbbz oZr q1z;have q28:=aAa ha8 hbbz oZr q2z;have va8:=aAa ha8 hgvz oZr vaz;have vb8:=aAa ha8 hgvz oZr vbz;have hbb8:wo.heap.size<(wz.alloc (.cells #[.int .i64 el] 3)).heap.size:=Nat.lt_of_lt_of_le hbbz ha8.size;have hgv8:gv<(wz.alloc (.cells #[.int .i64 el] 3)).heap.size:=Nat.lt_of_lt_of_le hgvz ha8.size;have hon8:(wz.alloc (.cells #[.int .i64 el] 3)).cell? ⟨wz.heap.size,0,none⟩=some (.int .i64 el):=World.cell?_alloc_at _ _ _ _ rfl;have hs8:wz.heap.size<(wz.alloc (.cells #[.int .i64 el] 3)).heap.size:=by simp
   generalize wz.alloc (.cells #[.int .i64 el] 3)=w8 at ha8 q08 q18 q28 va8 vb8 hbb8 hgv8 hon8 hs8 |-;have hrbA:=hrb1.mid ha8 oZl;have hH8:H4<=w8.heap.size:=by omega
   have hI8:=aFc Ab wb cb H4 w8 hrbA.rs hH8 HOKB.out (by omega);clear hIz;refine rdZ 14 rfl (fun K hK=>?_)
   (go_simp;(with_reducible refine hI8.mono ?_);intro en w14 hq14;obtain⟨A7,c7,rfl,ho14,hm14⟩:=RetI.get hq14;go_wp2_with fail)
   refine hK.out _ _ (Or.inr ⟨aAa hm14 hbb8 oZr q08,aAa hm14 hbb8 oZr q18,aAa hm14 hbb8 oZr q28,aAa hm14 hgv8 oZr va8,aAa hm14 hgv8 oZr vb8⟩) (fun _=>?_);clear hK K;try simp only[oP]
   have q0C:=aAa hm14 hbb8 oZr q08;have q1C:=aAa hm14 hbb8 oZr q18;have q2C:=aAa hm14 hbb8 oZr q28;have vaC:=aAa hm14 hgv8 oZr va8;have vbC:=aAa hm14 hgv8 oZr vb8;have hbbC:wo.heap.size<w14.heap.size:=Nat.lt_of_lt_of_le hbb8 hm14.size;have hgvC:gv<w14.heap.size:=Nat.lt_of_lt_of_le hgv8 hm14.size;have hmc:=ha8.trans hm14;have honeC:Rs w14 w14.heap.size (some ⟨wz.heap.size,0,none⟩) (aAd [el]):=(aMo (aAa hm14 hs8 oZr hon8)).more (by have:=hm14.size;omega);have hinvC:Rs w14 w14.heap.size A7 (aAd (aAx wb)):=(aAy ho14).rsS;clear ha8 hon8 hrbA hI8 hq14 ho14 hm14 q08 q18 q28 va8 vb8 q0z q1z q2z vaz vbz;generalize w14=wc at hmc honeC hinvC q0C q1C q2C vaC vbC hbbC hgvC |-
   -- both are made: at world wc;hmc:Mid 0 0 wz wc;the letter's block wz.heap.size;the inverse (A7,c7)
   have hraC:=hra1.mid hmc oZl;have hal15:=Mid.alloc wc (.cells #[.slice Aa wa.length ca,.slice (some ⟨wz.heap.size,0,none⟩) 1 1,.slice A7 (aAx wb).length c7] 44);have q0D:=aAa hal15 hbbC oZr q0C;have q1D:=aAa hal15 hbbC oZr q1C;have q2D:=aAa hal15 hbbC oZr q2C;have vaD:=aAa hal15 hgvC oZr vaC;have vbD:=aAa hal15 hgvC oZr vbC;have hbbD:wo.heap.size<(wc.alloc (.cells #[.slice Aa wa.length ca,.slice (some ⟨wz.heap.size,0,none⟩) 1 1,.slice A7 (aAx wb).length c7] 44)).heap.size:=Nat.lt_of_lt_of_le hbbC hal15.size;have hgvD:gv<(wc.alloc (.cells #[.slice Aa wa.length ca,.slice (some ⟨wz.heap.size,0,none⟩) 1 1,.slice A7 (aAx wb).length c7] 44)).heap.size:=Nat.lt_of_lt_of_le hgvC hal15.size;have hrss:=aOB (w:=wc) Aa (some ⟨wz.heap.size,0,none⟩) A7 ca 1 c7 wa [el] (aAx wb) hraC.rsS honeC hinvC;have hmd15:=hmc.trans hal15;refine rdZ 15 rfl (fun K hK=>?_);go_simp;refine hK.out _ _ (Or.inr ⟨aAa hal15 hbbC oZr q0C,aAa hal15 hbbC oZr q1C,aAa hal15 hbbC oZr q2C,aAa hal15 hgvC oZr vaC,aAa hal15 hgvC oZr vbC⟩) (fun _=>?_);clear hK K;try simp only[oP]
   have hsz15:(wc.alloc (.cells #[.slice Aa wa.length ca,.slice (some ⟨wz.heap.size,0,none⟩) 1 1,.slice A7 (aAx wb).length c7] 44)).heap.size=wc.heap.size+1:=by simp
   generalize wc.alloc (.cells #[.slice Aa wa.length ca,.slice (some ⟨wz.heap.size,0,none⟩) 1 1,.slice A7 (aAx wb).length c7] 44)=w15 at hal15 q0D q1D q2D vaD vbD hbbD hgvD hrss hmd15 hsz15 |-
  rotate_left
  focus
   (go_simp;(with_reducible refine hIz.mono ?_);intro en w14 hq14;obtain⟨A7,c7,rfl,ho14,hm14⟩:=RetI.get hq14;go_wp2_with fail)
   refine hK.out _ _ (Or.inr ⟨aAa hm14 hbbz oZr q0z,aAa hm14 hbbz oZr q1z,aAa hm14 hbbz oZr q2z,aAa hm14 hgvz oZr vaz,aAa hm14 hgvz oZr vbz⟩) (fun _=>?_);clear hK K;try simp only[oP]
   have q04:=aAa hm14 hbbz oZr q0z;have q14:=aAa hm14 hbbz oZr q1z;have q24:=aAa hm14 hbbz oZr q2z;have va4:=aAa hm14 hgvz oZr vaz;have vb4:=aAa hm14 hgvz oZr vbz;have hbb4:wo.heap.size<w14.heap.size:=Nat.lt_of_lt_of_le hbbz hm14.size;have hgv4:gv<w14.heap.size:=Nat.lt_of_lt_of_le hgvz hm14.size;have hon14:w14.heap.size<(w14.alloc (.cells #[.int .i64 el] 3)).heap.size:=by simp
   refine rdZ 8 rfl (fun K hK=>?_);go_simp;refine hK.out _ _ (Or.inr ⟨aAa (Mid.alloc w14 (.cells #[.int .i64 el] 3)) hbb4 oZr q04,aAa (Mid.alloc w14 (.cells #[.int .i64 el] 3)) hbb4 oZr q14,aAa (Mid.alloc w14 (.cells #[.int .i64 el] 3)) hbb4 oZr q24,aAa (Mid.alloc w14 (.cells #[.int .i64 el] 3)) hgv4 oZr va4,aAa (Mid.alloc w14 (.cells #[.int .i64 el] 3)) hgv4 oZr vb4⟩) (fun _=>?_);clear hK K;try simp only[oP]
   have ha8:=Mid.alloc w14 (.cells #[.int .i64 el] 3);have q0C:=aAa ha8 hbb4 oZr q04;have q1C:=aAa ha8 hbb4 oZr q14;have q2C:=aAa ha8 hbb4 oZr q24;have vaC:=aAa ha8 hgv4 oZr va4;have vbC:=aAa ha8 hgv4 oZr vb4;have hbbC:wo.heap.size<(w14.alloc (.cells #[.int .i64 el] 3)).heap.size:=Nat.lt_of_lt_of_le hbb4 ha8.size;have hgvC:gv<(w14.alloc (.cells #[.int .i64 el] 3)).heap.size:=Nat.lt_of_lt_of_le hgv4 ha8.size;have hmc:=hm14.trans ha8;have honeC:Rs (w14.alloc (.cells #[.int .i64 el] 3)) (w14.alloc (.cells #[.int .i64 el] 3)).heap.size (some ⟨w14.heap.size,0,none⟩) (aAd [el]):=(aMo (World.cell?_alloc_at _ _ _ _ rfl)).more (by simp);have hinvC:Rs (w14.alloc (.cells #[.int .i64 el] 3)) (w14.alloc (.cells #[.int .i64 el] 3)).heap.size A7 (aAd (aAx wb)):=(aAy (aAc ho14 ha8 oZl)).rsS;generalize w14.alloc (.cells #[.int .i64 el] 3)=wc at ha8 hmc honeC hinvC q0C q1C q2C vaC vbC hbbC hgvC hon14 |-;clear ha8 hq14 ho14 hm14 hIz q04 q14 q24 va4 vb4 q0z q1z q2z vaz vbz
   -- both are made: at world wc;hmc:Mid 0 0 wz wc;the letter's block w14.heap.size;the inverse (A7,c7)
   have hraC:=hra1.mid hmc oZl;have hal15:=Mid.alloc wc (.cells #[.slice Aa wa.length ca,.slice (some ⟨w14.heap.size,0,none⟩) 1 1,.slice A7 (aAx wb).length c7] 44);have q0D:=aAa hal15 hbbC oZr q0C;have q1D:=aAa hal15 hbbC oZr q1C;have q2D:=aAa hal15 hbbC oZr q2C;have vaD:=aAa hal15 hgvC oZr vaC;have vbD:=aAa hal15 hgvC oZr vbC;have hbbD:wo.heap.size<(wc.alloc (.cells #[.slice Aa wa.length ca,.slice (some ⟨w14.heap.size,0,none⟩) 1 1,.slice A7 (aAx wb).length c7] 44)).heap.size:=Nat.lt_of_lt_of_le hbbC hal15.size;have hgvD:gv<(wc.alloc (.cells #[.slice Aa wa.length ca,.slice (some ⟨w14.heap.size,0,none⟩) 1 1,.slice A7 (aAx wb).length c7] 44)).heap.size:=Nat.lt_of_lt_of_le hgvC hal15.size;have hrss:=aOB (w:=wc) Aa (some ⟨w14.heap.size,0,none⟩) A7 ca 1 c7 wa [el] (aAx wb) hraC.rsS honeC hinvC;have hmd15:=hmc.trans hal15;refine rdZ 15 rfl (fun K hK=>?_);go_simp;refine hK.out _ _ (Or.inr ⟨aAa hal15 hbbC oZr q0C,aAa hal15 hbbC oZr q1C,aAa hal15 hbbC oZr q2C,aAa hal15 hgvC oZr vaC,aAa hal15 hgvC oZr vbC⟩) (fun _=>?_);clear hK K;try simp only[oP]
   have hsz15:(wc.alloc (.cells #[.slice Aa wa.length ca,.slice (some ⟨w14.heap.size,0,none⟩) 1 1,.slice A7 (aAx wb).length c7] 44)).heap.size=wc.heap.size+1:=by simp
   generalize wc.alloc (.cells #[.slice Aa wa.length ca,.slice (some ⟨w14.heap.size,0,none⟩) 1 1,.slice A7 (aAx wb).length c7] 44)=w15 at hal15 q0D q1D q2D vaD vbD hbbD hgvD hrss hmd15 hsz15 |-
  rotate_left
  all_goals
   have hokP:∀ xs∈[wa,[el],aAx wb],OkI xs:=by
    intro xs hx;simp at hx;rcases hx with rfl|rfl|rfl
    .exact HOKA.out
    .intro y hy
     simp at hy;subst hy;omega
    exact aOj HOKB.out
   have hP:=aHJ (some ⟨wc.heap.size,0,none⟩) [wa,[el],aAx wb] 3 w15 0 (wc.heap.size+1) hrss hokP (by simp) (by simp only[aDR,List.map_cons,List.map_nil,List.sum_cons,List.sum_nil,List.length_cons,List.length_nil,aKH];omega);have hfl:([wa,[el],aAx wb]:List (List Int)).flatten=wa++[el]++aAx wb:=by simp
   rw[hfl,<- HBAS.out] at hP;have hP':Calls Tryz.prog 110 #[.slice (some ⟨wc.heap.size,0,none⟩) 3 3] w15 fun e' w'=>RetI 3 (basisW r es ⟨(pa:Int),el,(pb:Int)⟩) w15 e' w':=hP;have HP:=oH hP';clear hP hfl hrss hP';refine rdZ 16 rfl (fun K hK=>?_)
   (go_simp;(with_reducible refine HP.out.mono ?_);intro en w16 hq16;obtain⟨A16,c16,rfl,ho16,hm16⟩:=RetI.get hq16;go_wp2_with fail)
   refine hK.out _ _ (Or.inr ⟨aAa hm16 hbbD oZr q0D,aAa hm16 hbbD oZr q1D,aAa hm16 hbbD oZr q2D,aAa hm16 hgvD oZr vaD,aAa hm16 hgvD oZr vbD⟩) (fun _=>?_);clear hK K;try simp only[oP]
   have q0E:=aAa hm16 hbbD oZr q0D;have q1E:=aAa hm16 hbbD oZr q1D;have q2E:=aAa hm16 hbbD oZr q2D;have vaE:=aAa hm16 hgvD oZr vaD;have vbE:=aAa hm16 hgvD oZr vbD;have hbbE:wo.heap.size<w16.heap.size:=Nat.lt_of_lt_of_le hbbD hm16.size;have hgvE:gv<w16.heap.size:=Nat.lt_of_lt_of_le hgvD hm16.size;have hmd16:=hmd15.trans hm16;have hrow:w16.ownsRow wz.heap.size 3 1 (Row.v ⟨A16,c16,basisW r es ⟨(pa:Int),el,(pb:Int)⟩⟩) (basisW r es ⟨(pa:Int),el,(pb:Int)⟩).length (aAd (basisW r es ⟨(pa:Int),el,(pb:Int)⟩)):=aAp ho16 hmd15.size;have hszz:=hmd16.size;refine rdZ 17 rfl (fun K hK=>?_);go_simp;refine hK.out _ _ (Or.inr ⟨aAa (Mid.alloc w16 (.cells #[.slice A16 (basisW r es ⟨(pa:Int),el,(pb:Int)⟩).length c16] 44)) hbbE oZr q0E,aAa (Mid.alloc w16 (.cells #[.slice A16 (basisW r es ⟨(pa:Int),el,(pb:Int)⟩).length c16] 44)) hbbE oZr q1E,aAa (Mid.alloc w16 (.cells #[.slice A16 (basisW r es ⟨(pa:Int),el,(pb:Int)⟩).length c16] 44)) hbbE oZr q2E,aAa (Mid.alloc w16 (.cells #[.slice A16 (basisW r es ⟨(pa:Int),el,(pb:Int)⟩).length c16] 44)) hgvE oZr vaE,aAa (Mid.alloc w16 (.cells #[.slice A16 (basisW r es ⟨(pa:Int),el,(pb:Int)⟩).length c16] 44)) hgvE oZr vbE⟩) (fun _=>?_);clear hK K;try simp only[oP]
   refine rdZ 18 rfl (fun K hK=>?_)
   (refine aFF (by rfl) (.tmp 25) (.tmp 42) (by rfl) (by rfl) HO1.out hmd16 ⟨A16,c16,basisW r es ⟨(pa:Int),el,(pb:Int)⟩⟩ (.slice A16 (basisW r es ⟨(pa:Int),el,(pb:Int)⟩).length c16) rfl hrow (by rfl) (by omega) (by omega) ?_;intro A18 c18 w18 hO18 hgr18 hat18)
   refine hK.out _ _ (Or.inl (by simp)) (fun _=>?_);clear hK K;try simp only[oP]
   have HO18:=oH hO18;have HN18:Hid (aBe (rows++[(⟨A16,c16,basisW r es ⟨(pa:Int),el,(pb:Int)⟩⟩:Row)])=(X.take (k+1)).map (basisW r es)):=oH (by
    obtain⟨h1,h2⟩:=List.getElem?_eq_some_iff.1 HEK.out;rw[aCW,HN.out,List.take_succ_eq_append_getElem h1,h2,List.map_append]
    rfl)
   have HRX18:=oH (RV.grown (HRX1.out.mid hmd16 oZl) hgr18 (fun g hg=>by rcases HD.out g hg with h|h <;> omega));have HRV18:=oH ((HRV1.out.mid hmd16 oZl).grown hgr18 (fun g hg=>by rcases HD.out g hg with h|h <;> omega));have HWR18:=oH ((HWR1.out.mid hmd16).grown hgr18 HD.out);have hm18:=(hmt.trans hmd16).grownNew hgr18 (fun g hg=>by have:=(HO1.out.lt hg).1;omega);have hs18:=hgr18.size;have HD18:Hid (∀ g,obS A18 (k+1) c18=some g->g=w.heap.size+1 \/ H4<=g):=oH (by
    intro g hg;rcases hat18 with h|h
    .exact HD.out g (h ▸ hg)
    .rw[h] at hg
     have hg':=Option.some.inj hg;omega)
   clear hO18 hgr18 hat18 HO1 HRX1 HRV1 HWR1 hmt hmd16 hm16 ho16 hrow HD HN HP hmd15 hal15 hmc hraC honeC hinvC hra1 hrb1 q0C q1C q2C vaC vbC q0D q1D q2D vaD vbD q0E q1E q2E vaE vbE;refine rdZ 19 rfl (fun K hK=>?_);go_simp;refine hK.out _ _ (Or.inl (by simp)) (fun _=>?_);clear hK K;try simp only[oP]
   refine aAh (by kernel_rfl) ?_ _;go_wp2_with fail;go_roundw
   case rel=>exact⟨k+1,_,A18,c18,by go_num,rfl,by omega,HN18,HO18,HD18,HRX18,HRV18,HWR18,by omega,hm18⟩
   simp[intOf];omega
 obtain rfl:k=X.length:=by omega
 have hN:=HN.out;rw[List.take_length] at hN;have hlen:(X.map (basisW r es)).length=X.length:=List.length_map ..;have HQ:Hid (OSS wo w.heap.size wo.heap.size 44 3 A2 c2 (X.map (basisW r es))):=oH ((HO.out.base (Nat.le_succ _)).oss hN);have HLN:=oH hlen;clear hN hlen HN HO HD HRX HRV HWR;go_wp2_with fail;go_ret;exact⟨A2,c2,by rw[HLN.out];rfl,HQ.out,hm0⟩
structure Mv where
 kind:Int
 i:Int
 j:Int
 sign:Int
deriving DecidableEq
def aVm(l:List (List Int))(m:Mv):Prop:=0<=m.j/\m.j<l.length/\m.j≠m.i/\(m.sign=1 \/ m.sign = -1)
instance (l:List (List Int)) (m:Mv):Decidable (aVm l m):=by unfold aVm;infer_instance
end Go.Proofs.YtkimajabegojoaaGreat
