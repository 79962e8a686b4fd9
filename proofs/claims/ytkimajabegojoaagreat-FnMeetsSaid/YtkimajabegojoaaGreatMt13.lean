/- Lemmas. -/
import Derived.Test.YtkimajabegojoaaGreatMt12
import Derived.Test.YtkimajabegojoaaGreatMt5
import Derived.Test.YtkimajabegojoaaGreatMt7
import Derived.Test.YtkimajabegojoaaGreatMt1
import Derived.Test.YtkimajabegojoaaGreatMt8
import Derived.Test.YtkimajabegojoaaGreatMt6
import Derived.Test.YtkimajabegojoaaGreatMt10
import Derived.Test.YtkimajabegojoaaGreatMt2
import Derived.Test.YtkimajabegojoaaGreatMt9
namespace Go.Proofs.YtkimajabegojoaaGreat
set_option linter.unusedVariables false
set_option linter.unusedSimpArgs false
set_option maxHeartbeats 40000000
set_option maxRecDepth 100000
open Go.RowKit
theorem LtW.ok{w:List Int}(h:LtW w):OkI w:=fun x hx=>by
 have:=h x hx;unfold Lt3 at this;omega
def aSu:Value->Nat
|.int _ n=>n.toNat
|_=>0
theorem aOa(r:Int)(hr1:1<=r)(hr3:r<=3)(m:Int)(hm0:0<=m)(hm2:m<=24)(p:Nat)(A:Option Addr)(bs:List Int)(c:Nat)(w:World)(hb:OkB bs)(hl:bs.length<=1048576)(h:Cur w p A bs c) :
  Calls Tryz.prog 139 #[.pointer (some ⟨p,0,none⟩),.int .i64 r,.int .i64 m] w fun e w'=>∃ A' c' xs,e=.returned (.slice A' (List.length xs) c')/\(((xs.length:Nat):Int)<=m/\LtW xs/\Rd xs)/\OI w' w.heap.size w'.heap.size A' c' xs/\Cur w' p A bs c/\Mid p (p+1) w w':=by
 have hpw:=h.lt;have hal:=Mid.alloc w (.cells #[] 3);have ho:=aAi w 3 1;have h0:=h.mid hal (Or.inr rfl);go_enter Tryz.func139,Tryz.ntmps139
 go_wp2_with fail;with_reducible refine(aBg (m+1) (by omega) (by omega) p A bs c _ hb hl h0).mono ?_
 rintro e w1 ⟨n0,rfl,hn0,h1,m1⟩;have ho1:=aAc ho m1 (Or.inl (by omega));have hm1:=hal.zero.trans m1;have hs1:=hm1.size;clear h0 hal m1 ho;go_wp2_with fail;go_loopw [7,8] (fun wv nv wr=>∃(xs:List Int) (n:Nat) (Ax:Option Addr) (cx L:Nat),nv=.int .i64 n/\wv=.slice Ax L cx/\Hid (xs.length=L)/\(L:Int)+(n:Int)<=m/\Hid (LtW xs)/\wr.ownsRow w.heap.size 3 1 (.slice Ax L cx) L (aAd xs)/\Cur wr p A bs c/\Mid p (p+1) w wr)
  (fun _ nv _=>aSu nv)
 case atStart=>exact⟨[],n0,_,_,0,rfl,rfl,oH rfl,by omega,oH LtW.nil,by simpa [aAd] using ho1,h1,hm1⟩
 obtain⟨xs,n,Ax,cx,L,rfl,rfl,HL,hLm,HW,ho,hc,hm⟩:=hrel;have hs:=hm.size;by_cases hlt:0<n
 .go_wp2_with fail
  with_reducible refine(aBg r (by omega) (by omega) p A bs c _ hb hl hc).mono ?_
  rintro e w2 ⟨x,rfl,hx,hc2,m2⟩;have ho2:=aAc ho m2 (Or.inl hpw);have hm2:=hm.trans m2;have ew1:IntKind.i64.wrap (1+(x:Int))=1+(x:Int):=IntWalk.i64_in _ (by omega);clear ho hc m2;go_wp2_with fail;with_reducible refine(aKI 2 (by decide) (by decide) p A bs c _ hb hl hc2).mono ?_
  rintro e w3 ⟨b,rfl,hc3,m3⟩;have ho3:=aAc ho2 m3 (Or.inl hpw);have hm3:=hm2.trans m3;have hs3:=hm3.size;clear ho2 hc2 m3 hm2 hm;have key:∀ y:Int,(y=1+(x:Int) \/ y = -(1+(x:Int)))->Lt3 y:=fun y hy=>by
   unfold Lt3;omega
  have KEY:=oH key;clear key;cases b
  .go_wp2_with (at_builtin;refine aAr rfl _ _ 44 rfl w.heap.size 3 (.int .i64 0) 1 8 aBZ aCg rfl (by decide) _ _ _ rfl ho3 1 [.int .i64 (1+(x:Int))] rfl rfl ?c1 ?c2 ?c3 hs3 ?next)
   case c1=>exact aAu [1+(x:Int)]
   case c2=>unfold maxLen;omega
   case c3=>omega
   case next=>
    intro v4 w4 ho4 hgr4 hat4;obtain⟨A4,c4,rfl, -, -⟩:=aAg ho4;have m4:Mid w.heap.size w3.heap.size w3 w4:=Mid.of_grownRow ho3 hgr4;go_wp2_with fail;go_roundw
    case rel=>
     refine⟨xs++[1+(x:Int)],n - 1,A4,c4,L+1,by go_num,rfl,oH (by simp[HL.out]),by omega,oH (HW.out.app (LtW.one (KEY.out _ (.inl rfl)))),by rw[aAj];exact ho4,hc3.mid m4 (Or.inl hpw),hm3.transNew m4 (Or.inl oN)⟩
    simp[aSu];omega
  .go_wp2_with (at_builtin;refine aAr rfl _ _ 44 rfl w.heap.size 3 (.int .i64 0) 1 8 aBZ aCg rfl (by decide) _ _ _ rfl ho3 1 [.int .i64 (-(1+(x:Int)))] rfl rfl ?c1 ?c2 ?c3 hs3 ?next)
   case c1=>exact aAu [-(1+(x:Int))]
   case c2=>unfold maxLen;omega
   case c3=>omega
   case next=>
    intro v4 w4 ho4 hgr4 hat4;obtain⟨A4,c4,rfl, -, -⟩:=aAg ho4;have m4:Mid w.heap.size w3.heap.size w3 w4:=Mid.of_grownRow ho3 hgr4;go_wp2_with fail;go_roundw
    case rel=>
     refine⟨xs++[-(1+(x:Int))],n - 1,A4,c4,L+1,by go_num,rfl,oH (by simp[HL.out]),by omega,oH (HW.out.app (LtW.one (KEY.out _ (.inr rfl)))),by rw[aAj];exact ho4,hc3.mid m4 (Or.inl hpw),hm3.transNew m4 (Or.inl oN)⟩
    simp[aSu];omega
 have hok:=HW.out.ok;have hxl:=HL.out;have hrs:=Rs.of_own ho;have hc5:Calls Tryz.prog 106 #[.slice Ax L cx] wr fun e w'=>RetI 3 (red [] xs) wr e w':=by
  have:=aDQ Ax xs cx wr wr.heap.size hrs oN hok (by omega)
  rwa [hxl] at this
 clear hok hxl hrs;go_wp2_with fail;with_reducible refine hc5.mono ?_
 rintro e w5 ⟨A5,c5,rfl,ho5,hb5⟩;go_wp2_with fail;go_ret;have hlen:=aCH xs;have hL:=HL.out;have m5:Mid 0 0 wr w5:=Mid.of_below hb5;exact⟨A5,c5,red [] xs,rfl,⟨by omega,aHL HW.out,aHN HW.out⟩,(OV.new ho5).wide hs oN oN,hc.mid m5 (Or.inr rfl),hm.trans m5.zero⟩
theorem aDg(r s:Int)(A:Option Addr)(es:List Ed)(c:Nat)(e:Ed)(w:World)(lo hi:Nat)(hr:RG w lo hi A es)(hg:IsGr r s es)(he:edB r s e=true)(hl:es.length<120)(bb:Bool)(hne:decide ((es.length:Int)<((aCy e es).length:Int))=bb) :
  Calls Tryz.prog 228 #[aAw r s A es.length c,e.v] w fun en w'=>∃ A1 c1,en=.returned (.tuple #[aAw r s A1 (aCy e es).length c1,.bool bb])/\OG w' w.heap.size w'.heap.size A1 c1 (aCy e es)/\Mid 0 0 w w':=by
 have hm0:Mid 0 0 w (((w.alloc (.cells #[.int .i64 r,.int .i64 s,.slice A es.length c] 35)).alloc (.cells #[.int .i64 e.a,.int .i64 e.l,.int .i64 e.b] 110)).alloc (.cells #[.int .i64 0,.int .i64 0,.slice none 0 0] 35)):=((Mid.alloc _ _).trans (Mid.alloc _ _)).trans (Mid.alloc _ _);have B0:=((Box.new w #[.int .i64 r,.int .i64 s,.slice A es.length c] 35).mid (Mid.alloc _ (.cells #[.int .i64 e.a,.int .i64 e.l,.int .i64 e.b] 110)) oZr).mid (Mid.alloc _ (.cells #[.int .i64 0,.int .i64 0,.slice none 0 0] 35)) oZr;have B1:=(Box.new (w.alloc (.cells #[.int .i64 r,.int .i64 s,.slice A es.length c] 35)) #[.int .i64 e.a,.int .i64 e.l,.int .i64 e.b] 110).mid (Mid.alloc _ (.cells #[.int .i64 0,.int .i64 0,.slice none 0 0] 35)) oZr;have B2:=Box.new ((w.alloc (.cells #[.int .i64 r,.int .i64 s,.slice A es.length c] 35)).alloc (.cells #[.int .i64 e.a,.int .i64 e.l,.int .i64 e.b] 110)) #[.int .i64 0,.int .i64 0,.slice none 0 0] 35;simp only[World.size_alloc] at B1 B2;have HG:=oH hg;clear hg;go_enter Tryz.func228,Tryz.ntmps228
 go_wp2_with fail;generalize ((w.alloc (.cells #[.int .i64 r,.int .i64 s,.slice A es.length c] 35)).alloc (.cells #[.int .i64 e.a,.int .i64 e.l,.int .i64 e.b] 110)).alloc (.cells #[.int .i64 0,.int .i64 0,.slice none 0 0] 35)=w1 at hm0 B0 B1 B2 |-;have hs1:w.heap.size+1+1<w1.heap.size:=B2.1;with_reducible refine(aBp r s A es c _ _ _ (hr.mid hm0 oZl) (by omega)).mono ?_
 rintro en w2 ⟨A1,c1,rfl,ho2,hm2⟩;have hal:=Mid.alloc w2 (.cells #[.int .i64 r,.int .i64 s,.slice A1 es.length c1] 35);have Y3:=Box.new w2 #[.int .i64 r,.int .i64 s,.slice A1 es.length c1] 35;have hs2:=hm2.size;replace B0:=B0.mid hm2 oZr;replace B1:=B1.mid hm2 oZr;replace B2:=B2.mid hm2 oZr;replace hm0:=hm0.trans hm2;replace B0:=B0.mid hal oZr;replace B1:=B1.mid hal oZr;replace B2:=B2.mid hal oZr;replace hm0:=hm0.trans hal;obtain⟨p0,p1,p2⟩:=B0.c3 rfl;go_wp2_with fail;generalize w2.alloc (.cells #[.int .i64 r,.int .i64 s,.slice A1 es.length c1] 35)=w3 at hm0 B0 B1 B2 Y3 p0 p1 p2 |-;have hG3:w2.heap.size<w3.heap.size:=Y3.1;with_reducible refine(aAM r s A es c _ _ _ (hr.mid hm0 oZl).rv (by omega) true (iff_of_true rfl HG.out)).mono ?_
 rintro en w4 ⟨rfl,hm4⟩;replace B0:=B0.mid hm4 oZr;replace B1:=B1.mid hm4 oZr;replace B2:=B2.mid hm4 oZr;replace Y3:=Y3.mid hm4 oZr;replace hm0:=hm0.trans hm4;have hs4:=hm4.size;clear p0 p1 p2 hm4 ho2 hal;obtain⟨p0,p1,p2⟩:=B0.c3 rfl;obtain⟨k0,k1,k2⟩:=B1.c3 rfl;go_wp2_with fail;have hEd:=aJk r s A es.length c e w4;rw[he] at hEd;with_reducible refine hEd.mono ?_
 rintro en w5 ⟨rfl,hm5⟩;replace B0:=B0.mid hm5 oZr;replace B1:=B1.mid hm5 oZr;replace B2:=B2.mid hm5 oZr;replace Y3:=Y3.mid hm5 oZr;replace hm0:=hm0.trans hm5;have hs5:=hm5.size;clear p0 p1 p2 k0 k1 k2 hm5 hEd;obtain⟨p0,p1,p2⟩:=B0.c3 rfl;obtain⟨k0,k1,k2⟩:=B1.c3 rfl;have d1:decide ((120:Int)<=(es.length:Int))=false:=by simp;omega
 go_wp2_with fail;with_reducible refine(aBW A es c e w5 _ _ (hr.mid hm0 oZl) (by omega)).mono ?_
 rintro en w6 ⟨A6,c6,rfl,ho6,hm6⟩;replace B0:=B0.mid hm6 oZr;replace B1:=B1.mid hm6 oZr;replace B2:=B2.mid hm6 oZr;replace Y3:=Y3.mid hm6 oZr;replace hm0:=hm0.trans hm6;have hs6:=hm6.size;clear p0 p1 p2 k0 k1 k2 hm6;obtain⟨P,hP⟩:∃ P,aCy e es=P:=⟨_,rfl⟩
 rw[hP] at hne ho6 |-;have hst:=Mid.setCell w6 (lo:=w2.heap.size) (hi:=w2.heap.size+1) (p:=⟨w2.heap.size,2,none⟩) (.slice A6 P.length c6) oN oS;have qf:=Y3.2.2;have q2:=Y3.cell 2 rfl;have hG6:w2.heap.size<w6.heap.size:=Y3.1;have Y4:=Y3.set 2 (.slice A6 P.length c6) (by simp) rfl;simp only[List.set_cons_succ,List.set_cons_zero] at Y4;have B0s:=B0.mid hst (Or.inl (by omega));have B2s:=B2.mid hst (Or.inl (by omega));have hm9:=hm0.storeNew (p:=⟨w2.heap.size,2,none⟩) (by show w.heap.size<=w2.heap.size;omega) (.slice A6 P.length c6);have ho9:=ho6.mid hst (Or.inl (by omega));have hs9:=hst.size;go_wp2_with fail;generalize w6.setCell ⟨w2.heap.size,2,none⟩ (.slice A6 P.length c6)=w9 at Y4 B0s B2s hm9 ho9 hs9 |-;have hmd:=Mid.drew1 w9;clear B0 B2 Y3 hm0 ho6 hst B1;have hsd:w9.heap.size<=w9.drew.heap.size:=oN;replace B0s:=B0s.mid hmd oZr;replace B2s:=B2s.mid hmd oZr;replace Y4:=Y4.mid hmd oZr;replace ho9:=ho9.mid hmd oZl;replace hm9:=hm9.trans hmd;obtain⟨p0,p1,p2⟩:=B0s.c3 rfl;obtain⟨q0,q1,q2⟩:=Y4.c3 rfl;have d2:=hne;have d2n:decide (es.length<P.length)=bb:=by rw[<- hne];exact decide_eq_decide.2 (by omega)
 clear qf q2;have hb2:w.heap.size+1+1<w2.heap.size:=by omega
 clear q0 q1 q2 p0 p1 p2;obtain⟨q0,q1,q2⟩:=Y4.c3 rfl;obtain⟨p0,p1,p2⟩:=B0s.c3 rfl;refine aAl (S:=(fun w'=>(w'.cell? ⟨w2.heap.size,0,none⟩=some (.int .i64 r)/\w'.cell? ⟨w2.heap.size,1,none⟩=some (.int .i64 s)/\w'.cell? ⟨w2.heap.size,2,none⟩=some (.slice A6 P.length c6))/\w'.cell? ⟨w.heap.size,2,none⟩=some (.slice A es.length c))) [] (by kernel_rfl) ⟨⟨q0,q1,q2⟩,p2⟩ ?_;generalize World.drew w9=wz at Y4 B0s B2s hm9 ho9 hsd q0 q1 q2 p2 |-;have hS:(wz.cell? ⟨w2.heap.size,0,none⟩=some (.int .i64 r)/\wz.cell? ⟨w2.heap.size,1,none⟩=some (.int .i64 s)/\wz.cell? ⟨w2.heap.size,2,none⟩=some (.slice A6 P.length c6))/\wz.cell? ⟨w.heap.size,2,none⟩=some (.slice A es.length c):=⟨⟨q0,q1,q2⟩,p2⟩
 refine tkZ [] 0 rfl hS ?_;try simp only[oP]
 refine tkZ [] 1 rfl hS ?_;try simp only[oP]
 refine tkZ [] 2 rfl hS ?_;try simp only[oP]
 refine tkZ [] 3 rfl hS ?_;try simp only[oP]
 refine tkZ [] 4 rfl hS ?_;try simp only[oP]
 refine tkZ [] 5 rfl hS ?_;try simp only[oP]
 refine tkZ [] 6 rfl hS ?_;try simp only[oP]
 refine tkZ [] 7 rfl hS ?_;try simp only[oP]
 have hst:=Mid.s3 wz (w.heap.size+1+1) (.int .i64 r) (.int .i64 s) (.slice A6 P.length c6);have Y5:=Y4.mid hst (Or.inr (by omega));have B5:=B0s.mid hst (Or.inl (by omega));have V2:=B2s.s3 (.int .i64 r) (.int .i64 s) (.slice A6 P.length c6);have ho10:=ho9.mid hst (Or.inl (by omega));have hm10:=hm9.n3 (w.heap.size+1+1) (by omega) (.int .i64 r) (.int .i64 s) (.slice A6 P.length c6);have hsz:=hst.size;obtain⟨a0,a1,a2⟩:=B2s.c3 rfl;have af:=B2s.2.2;have hbz:w.heap.size+1+1<wz.heap.size:=B2s.1;refine rdZ 8 rfl (fun K hK=>?_);go_simp;refine hK.out _ _ (Or.inr ⟨Y5.c3 rfl,B5.cell 2 rfl⟩) (fun _=>?_);clear hK K;try simp only[oP]
 refine rdZ 9 rfl (fun K hK=>?_);go_simp;refine hK.out _ _ (Or.inr ⟨Y5.c3 rfl,B5.cell 2 rfl⟩) (fun _=>?_);clear hK K;try simp only[oP]
 refine aAh (by kernel_rfl) ?_ _;clear hS q0 q1 q2 p0 p1 p2 a0 a1 a2 af hst Y4 B0s B2s ho9 hm9;generalize ((wz.setCell ⟨w.heap.size+1+1,0,none⟩ (.int .i64 r)).setCell ⟨w.heap.size+1+1,1,none⟩ (.int .i64 s)).setCell ⟨w.heap.size+1+1,2,none⟩ (.slice A6 P.length c6)=w11 at V2 Y5 B5 ho10 hm10 hsz |-;obtain⟨a0,a1,a2⟩:=V2.c3 rfl;have af:=V2.2.2;subst hP;go_wp2_with fail;refine bodyPost_ret (v:=.tuple #[.agg #[.int .i64 r,.int .i64 s,.slice A6 (aCy e es).length c6],.bool bb]) (by simp[results,Tryz.results228,go_sem,a0,a1,a2,af,d2n]) rfl ⟨A6,c6,rfl,?_,?_⟩
 .exact OG.wide ho10 (by omega) (by omega) oN
 exact hm10
structure DrG (r s:Int) (es:List Ed):Prop where
 rk:-10<=r/\r<=10
 sz:-10<=s/\s<=100
 len:es.length<=121
 all:∀ e∈es,(-100<=e.a/\e.a<=100)/\(-100<=e.l/\e.l<=100)/\(-100<=e.b/\e.b<=100)
theorem DrG.of_gr{r s:Int}{es:List Ed}(h:IsGr r s es):DrG r s es:=⟨by have:=h.rank;omega,by have:=h.size;omega,by have:=h.len;omega,fun e he=>by
 have h1:=h.all e he;have h2:=h.rank;have h3:=h.size;simp only[InG] at h1;omega⟩
theorem DrG.zero:DrG 0 0 []:=⟨by omega,by omega,by simp,by simp⟩
theorem aJc{r s:Int}{es:List Ed}{e:Ed}(h:IsGr r s es)(he:InG r s e)(hl:es.length<120):IsGr r s (aCy e es):=⟨h.rank,h.size,by have:=aDf e es;omega,fun x hx=>by
 rcases aIj.1 hx with rfl|hx
 .exact he
 .exact h.all x hx,aKr h.asc⟩
theorem aNR{r s:Int}{e:Ed}(h:InG r s e)(hs:1<=s/\s<=40):edB r s e=true:=by
 simp only[InG] at h;unfold edB;have e1:wrap64 (s - 1)=s - 1:=by unfold wrap64;omega
 rw[e1];simp[inB];omega
theorem aMZ(p:Nat)(A:Option Addr)(bs:List Int)(c:Nat)(w:World)(hb:OkB bs)(hl:bs.length<=1048576)(h:Cur w p A bs c) :
  Calls Tryz.prog 239 #[.pointer (some ⟨p,0,none⟩)] w fun e w'=>∃ r n A' c' es,e=.returned (aAw (r:Nat) (n:Nat) A' (List.length es) c')/\(IsGr (r:Nat) (n:Nat) es/\n<=5/\es.length<=8)/\OG w' w.heap.size w'.heap.size A' c' es/\Cur w' p A bs c/\Mid p (p+1) w w':=by
 have hpw:=h.lt;have hal:=Mid.alloc w (.cells #[.int .i64 0,.int .i64 0,.slice none 0 0] 35);have B2:=Box.new w #[.int .i64 0,.int .i64 0,.slice none 0 0] 35;have h0:=h.mid hal (Or.inr rfl);go_enter Tryz.func239,Tryz.ntmps239
 have hal2:=Mid.alloc (w.alloc (.cells #[.int .i64 0,.int .i64 0,.slice none 0 0] 35)) (.cells #[.int .i64 1,.int .i64 2,.int .i64 2,.int .i64 2,.int .i64 3] 3);have hbx:=Box.new (w.alloc (.cells #[.int .i64 0,.int .i64 0,.slice none 0 0] 35)) #[.int .i64 1,.int .i64 2,.int .i64 2,.int .i64 2,.int .i64 3] 3;rw[World.size_alloc] at hbx;replace B2:=B2.mid hal2 oZr;replace h0:=h0.mid hal2 (Or.inr rfl);have hm0:=hal.trans hal2;go_wp2_with fail;generalize (w.alloc (.cells #[.int .i64 0,.int .i64 0,.slice none 0 0] 35)).alloc (.cells #[.int .i64 1,.int .i64 2,.int .i64 2,.int .i64 2,.int .i64 3] 3)=w1 at hbx B2 h0 hm0 |-;have hs1:w.heap.size+1<w1.heap.size:=hbx.1;have hri:RI w1 (w.heap.size+1) (w.heap.size+1+1) (some ⟨w.heap.size+1,0,none⟩) [1,2,2,2,3]:=
  ⟨hs1,fun _=>⟨w.heap.size+1,0,rfl,oN,oS,fun j u hu=>by rw[Nat.zero_add];exact hbx.2.1 j u (by simpa [aAd] using hu)⟩⟩
 with_reducible refine(aDj (some ⟨w.heap.size+1,0,none⟩) [1,2,2,2,3] 5 5 rfl (by decide) (by decide) p A bs c _ (w.heap.size+1) _ hri (Or.inl (by omega)) hb hl h0).mono ?_
 rintro e w2 ⟨r,rfl,hrm,h2,m2⟩;have hr:1<=r/\r<=3:=by simp at hrm;omega
 have B2b:=B2.mid m2 (Or.inr (by omega));have hm2:=hm0.zero.trans m2;clear hri hbx hrm h0 B2 hm0 hal hal2 m2;go_wp2_with fail;with_reducible refine(aBg 5 (by decide) (by decide) p A bs c _ hb hl h2).mono ?_
 rintro e w3 ⟨k,rfl,hk,h3,m3⟩;have B2c:=B2b.mid m3 (Or.inr (by omega));have hm3:=hm2.trans m3;have hs3:=hm3.size;have ek:IntKind.i64.wrap (1+(k:Int))=1+(k:Int):=IntWalk.i64_in _ (by omega);clear h2 B2b hm2 m3;go_wp2_with fail;have hal3:=Mid.alloc w3 (.cells #[.int .i64 r,.int .i64 (1+(k:Int)),.slice none 0 0] 35);have G0:=Box.new w3 #[.int .i64 r,.int .i64 (1+(k:Int)),.slice none 0 0] 35;have B2d:=B2c.mid hal3 oZr;have h4:=h3.mid hal3 (Or.inr rfl);have hm4:=hm3.trans hal3.zero;obtain⟨gb,hgb⟩:∃ g,w3.heap.size=g:=⟨_,rfl⟩
 have hgw:w.heap.size<gb:=by have:=B2c.1;omega
 obtain⟨rn,hrn⟩:=Int.eq_ofNat_of_zero_le (by omega:0<=r);obtain⟨n,hn⟩:∃ n:Nat,1+(k:Int)=n:=⟨1+k,by omega⟩
 rw[hn,hgb,hrn] at G0 |-;rw[hn,hrn] at B2d h4 hm4;generalize w3.alloc (.cells #[.int .i64 (rn:Int),.int .i64 (n:Int),.slice none 0 0] 35)=w4 at G0 B2d h4 hm4 |-;have hrn3:1<=(rn:Int)/\(rn:Int)<=3:=by omega
 have hn5:1<=(n:Int)/\(n:Int)<=5:=by omega
 have hg4:gb<w4.heap.size:=G0.1;clear h3 B2c hal3 hm3 ek hn hrn hk hr hgb;with_reducible refine(aBg 9 (by decide) (by decide) p A bs c _ hb hl h4).mono ?_
 rintro e w5 ⟨m0,rfl,hm0,h5,m5⟩;replace G0:=G0.mid m5 (Or.inr (by omega));replace B2d:=B2d.mid m5 (Or.inr (by omega));have hm5:=hm4.trans m5;have hog:OG w5 (gb+1) w5.heap.size none 0 []:=OG.nil;clear h4 m5 hm4;go_wp2_with fail;go_loopw [4] (fun nv wr=>∃(m:Nat) (es:List Ed) (Ae:Option Addr) (ce L:Nat),nv=.int .i64 m/\Hid (es.length=L)/\L+m<=8/\Hid (IsGr rn n es)/\Box wr gb [.int .i64 rn,.int .i64 n,.slice Ae L ce]/\OG wr (gb+1) wr.heap.size Ae ce es/\Box wr w.heap.size [.int .i64 0,.int .i64 0,.slice none 0 0]/\Cur wr p A bs c/\Mid p (p+1) w wr)
  (fun nv _=>aSu nv)
 case atStart=>exact⟨m0,[],none,0,0,rfl,oH rfl,by omega,oH ⟨hrn3,by omega,by simp,by simp,List.Pairwise.nil⟩,G0,hog,B2d,h5,hm5⟩
 obtain⟨m,es,Ae,ce,L,rfl,HL,hLm,HG,hG,hO,hB,hC,hM⟩:=hrel;have hgr:gb<wr.heap.size:=hG.1;by_cases hlt:0<m
 .replace hG:=hG.mid (Mid.drew1 wr) oZr
  replace hO:=hO.mid (Mid.drew1 wr) oZl;replace hB:=hB.mid (Mid.drew1 wr) oZr;replace hC:=hC.mid (Mid.drew1 wr) (Or.inr rfl);replace hM:=hM.trans (Mid.drew1 wr).zero;have hsd:wr.heap.size<=wr.drew.heap.size:=oN;have p0:=hG.cell 0 rfl;have p1:=hG.cell 1 rfl;go_wp2_with fail;refine aAl (S:=(fun w'=>w'.cell? ⟨gb,0,none⟩=some (.int .i64 (rn:Int))/\w'.cell? ⟨gb,1,none⟩=some (.int .i64 (n:Int)))) [] (by kernel_rfl) ⟨p0,p1⟩ ?_;generalize World.drew wr=wz at hG hO hB hC hM p0 p1 hsd |-;have hS:wz.cell? ⟨gb,0,none⟩=some (.int .i64 (rn:Int))/\wz.cell? ⟨gb,1,none⟩=some (.int .i64 (n:Int)):=⟨p0,p1⟩
  have hgz:gb<wz.heap.size:=hG.1;have hOz:OG wz (gb+1) wz.heap.size Ae ce es:=hO.wide oN hO.size oN;clear hO;refine tkZ [] 0 rfl hS ?_;try simp only[oP]
  refine tkZ [] 1 rfl hS ?_;try simp only[oP]
  refine tkZ [] 2 rfl hS ?_;try simp only[oP]
  refine tkZ [] 4 rfl hS ?_;try simp only[oP]
  refine tkZ [] 5 rfl hS ?_;try simp only[oP]
  refine tkZ [] 6 rfl hS ?_;try simp only[oP]
  refine tkZ [] 9 rfl hS ?_;try simp only[oP]
  refine tkZ [] 10 rfl hS ?_;try simp only[oP]
  refine tkZ [] 11 rfl hS ?_;try simp only[oP]
  refine aAW (rs:=[3,14]) (by kernel_rfl) (by simp) (AllReadyZ.cons rfl (fun K hK=>?_) (AllReadyZ.cons rfl (fun K hK=>?_) AllReadyZ.nil))
  ·(go_simp;(with_reducible refine(aBg (n:Int) (by omega) (by omega) p A bs c _ hb hl hC).mono ?_);rintro en wc1 ⟨x1,rfl,hx1,hC1,m1⟩;have hG1:=hG.mid m1 (Or.inr (by omega));go_wp2_with fail)
   refine hK.out _ _ (Or.inr ⟨hG1.cell 0 rfl,hG1.cell 1 rfl⟩) (fun _=>?_);clear hK K;try simp only[oP]
   have hS1:=And.intro (hG1.cell 0 rfl) (hG1.cell 1 rfl);have hB1:=hB.mid m1 (Or.inr (by omega));have hO1:=hOz.mid m1 (Or.inl (by omega));have hM1:=hM.trans m1;have hz1:=m1.size;refine aAW (rs:=[7,14]) (by kernel_rfl) (by simp) (AllReadyZ.cons rfl (fun K hK=>?_) (AllReadyZ.cons rfl (fun K hK=>?_) AllReadyZ.nil))
   ·(go_simp;(with_reducible refine(aBg (rn:Int) (by omega) (by omega) p A bs c _ hb hl hC1).mono ?_);rintro en wc2 ⟨x2,rfl,hx2,hC2,m2⟩;have hG2:=hG1.mid m2 (Or.inr (by omega));go_wp2_with fail)
    refine hK.out _ _ (Or.inr ⟨hG2.cell 0 rfl,hG2.cell 1 rfl⟩) (fun _=>?_);clear hK K;try simp only[oP]
    have hS2:=And.intro (hG2.cell 0 rfl) (hG2.cell 1 rfl);have hB2:=hB1.mid m2 (Or.inr (by omega));have hO2:=hO1.mid m2 (Or.inl (by omega));have hM2:=hM1.trans m2;have hz2:=m2.size;have ew2:IntKind.i64.wrap (1+(x2:Int))=1+(x2:Int):=IntWalk.i64_in _ (by omega);refine tkZ [] 8 rfl hS2 ?_;try simp only[oP]
    refine aAW (rs:=[12,14]) (by kernel_rfl) (by simp) (AllReadyZ.cons rfl (fun K hK=>?_) (AllReadyZ.cons rfl (fun K hK=>?_) AllReadyZ.nil));focus
     (go_simp;(with_reducible refine(aBg (n:Int) (by omega) (by omega) p A bs c _ hb hl hC2).mono ?_);rintro en wc3 ⟨x3,rfl,hx3,hC3,m3⟩;have hG3:=hG2.mid m3 (Or.inr (by omega));go_wp2_with fail)
     refine hK.out _ _ (Or.inr ⟨hG3.cell 0 rfl,hG3.cell 1 rfl⟩) (fun _=>?_);clear hK K;try simp only[oP]
     have hS3:=And.intro (hG3.cell 0 rfl) (hG3.cell 1 rfl);have hB3:=hB2.mid m3 (Or.inr (by omega));have hO3:=hO2.mid m3 (Or.inl (by omega));have hM3:=hM2.trans m3;have hz3:=m3.size;refine tkZ [] 13 rfl hS3 ?_;try simp only[oP]
     refine rdZ 14 rfl (fun K hK=>?_);go_simp;refine hK.out _ _ (Or.inr ⟨aAa (Mid.alloc wc3 (.cells #[.int .i64 0,.int .i64 0,.int .i64 0] 110)) hG3.1 oZr (hG3.cell 0 rfl),aAa (Mid.alloc wc3 (.cells #[.int .i64 0,.int .i64 0,.int .i64 0] 110)) hG3.1 oZr (hG3.cell 1 rfl)⟩) (fun _=>?_);clear hK K;try simp only[oP]
     have al4:=Mid.alloc wc3 (.cells #[.int .i64 0,.int .i64 0,.int .i64 0] 110);have hE4:=Box.new wc3 #[.int .i64 0,.int .i64 0,.int .i64 0] 110;have hG4:=hG3.mid al4 oZr;have hB4:=hB3.mid al4 oZr;have hO4:=hO3.mid al4 oZl;have hC4:=hC3.mid al4 (Or.inr rfl);have hM4:=hM3.trans al4.zero;have hz4:=al4.size;have hgE4:=hG3.1;have hcE4:=hC3.lt;have hbE4:=hB3.1;generalize wc3.alloc (.cells #[.int .i64 0,.int .i64 0,.int .i64 0] 110)=wc4 at hE4 hG4 hB4 hO4 hC4 hM4 hz4 |-;clear al4;have hS4:=And.intro (hG4.cell 0 rfl) (hG4.cell 1 rfl);have hef:=hE4.2.2;obtain⟨e0,e1,e2⟩:=hE4.c3 rfl;have hel:=hE4.1;have hne:gb≠wc3.heap.size:=by omega
     have hst:=Mid.s3 wc4 wc3.heap.size (.int .i64 (x1:Int)) (.int .i64 (1+(x2:Int))) (.int .i64 (x3:Int));have V:=hE4.s3 (.int .i64 (x1:Int)) (.int .i64 (1+(x2:Int))) (.int .i64 (x3:Int));have hcl:=hC4.lt;have G9:=hG4.mid hst (by omega);have B9:=hB4.mid hst (by omega);have O9:=hO4.mid hst (by omega);have C9:=hC4.mid hst (by omega);have M9:=hM4.transNew hst (by omega);refine rdZ 15 rfl (fun K hK=>?_);go_simp;refine hK.out _ _ (Or.inr ⟨G9.cell 0 rfl,G9.cell 1 rfl⟩) (fun _=>?_);clear hK K;try simp only[oP]
     refine aAh (by kernel_rfl) ?_ _;generalize ((wc4.setCell ⟨wc3.heap.size,0,none⟩ (.int .i64 (x1:Int))).setCell ⟨wc3.heap.size,1,none⟩ (.int .i64 (1+(x2:Int)))).setCell ⟨wc3.heap.size,2,none⟩ (.int .i64 (x3:Int))=w9 at V G9 B9 O9 C9 M9 |-;obtain⟨P,hP⟩:∃ P,aCy ⟨(x1:Int),1+(x2:Int),(x3:Int)⟩ es=P:=⟨_,rfl⟩
     have hin:InG rn n ⟨(x1:Int),1+(x2:Int),(x3:Int)⟩:=by simp only[InG];omega
     have hLe:=HL.out;have hgP:IsGr rn n P:=hP ▸ aJc HG.out hin (by omega);have hPl:P.length<=L+1:=by have:=aDf ⟨(x1:Int),1+(x2:Int),(x3:Int)⟩ es;rw[hP] at this;omega
     obtain⟨bb,hbb⟩:∃ b,decide ((es.length:Int)<(P.length:Int))=b:=⟨_,rfl⟩
     have hAE:=aDg rn n Ae es ce ⟨(x1:Int),1+(x2:Int),(x3:Int)⟩ w9 _ _ O9.rg HG.out (aNR hin (by omega)) (by omega) bb (by rw[hP];exact hbb);obtain⟨L2,hL2⟩:∃ l,P.length=l:=⟨_,rfl⟩
     rw[hP,hLe,hL2] at hAE;have HAE:Hid (Calls Tryz.prog 228 #[.agg #[.int .i64 (rn:Int),.int .i64 (n:Int),.slice Ae L ce],.agg #[.int .i64 (x1:Int),.int .i64 (1+(x2:Int)),.int .i64 (x3:Int)]] w9 fun en w'=>∃ A1 c1,en=.returned (.tuple #[.agg #[.int .i64 (rn:Int),.int .i64 (n:Int),.slice A1 L2 c1],.bool bb])/\OG w' w9.heap.size w'.heap.size A1 c1 P/\Mid 0 0 w9 w'):=oH hAE
    rotate_left
    focus
     go_simp;refine hK.out _ _ (Or.inr ⟨aAa (Mid.alloc wc2 (.cells #[.int .i64 0,.int .i64 0,.int .i64 0] 110)) hG2.1 oZr (hG2.cell 0 rfl),aAa (Mid.alloc wc2 (.cells #[.int .i64 0,.int .i64 0,.int .i64 0] 110)) hG2.1 oZr (hG2.cell 1 rfl)⟩) (fun _=>?_);clear hK K;try simp only[oP]
     have al6:=Mid.alloc wc2 (.cells #[.int .i64 0,.int .i64 0,.int .i64 0] 110);have hE6:=Box.new wc2 #[.int .i64 0,.int .i64 0,.int .i64 0] 110;have hG6:=hG2.mid al6 oZr;have hB6:=hB2.mid al6 oZr;have hO6:=hO2.mid al6 oZl;have hC6:=hC2.mid al6 (Or.inr rfl);have hM6:=hM2.trans al6.zero;have hz6:=al6.size;have hgE6:=hG2.1;have hcE6:=hC2.lt;have hbE6:=hB2.1;generalize wc2.alloc (.cells #[.int .i64 0,.int .i64 0,.int .i64 0] 110)=wc6 at hE6 hG6 hB6 hO6 hC6 hM6 hz6 |-;clear al6;have hS6:=And.intro (hG6.cell 0 rfl) (hG6.cell 1 rfl);refine rdZ 12 rfl (fun K hK=>?_)
     (go_simp;(with_reducible refine(aBg (n:Int) (by omega) (by omega) p A bs c _ hb hl hC6).mono ?_);rintro en wc7 ⟨x7,rfl,hx7,hC7,m7⟩;have hG7:=hG6.mid m7 (Or.inr (by omega));go_wp2_with fail)
     refine hK.out _ _ (Or.inr ⟨hG7.cell 0 rfl,hG7.cell 1 rfl⟩) (fun _=>?_);clear hK K;try simp only[oP]
     have hS7:=And.intro (hG7.cell 0 rfl) (hG7.cell 1 rfl);have hB7:=hB6.mid m7 (Or.inr (by omega));have hO7:=hO6.mid m7 (Or.inl (by omega));have hM7:=hM6.trans m7;have hz7:=m7.size;have hE7:=hE6.mid m7 (Or.inr (by omega));refine tkZ [] 13 rfl hS7 ?_;try simp only[oP]
     have hef:=hE7.2.2;obtain⟨e0,e1,e2⟩:=hE7.c3 rfl;have hel:=hE7.1;have hne:gb≠wc2.heap.size:=by omega
     have hst:=Mid.s3 wc7 wc2.heap.size (.int .i64 (x1:Int)) (.int .i64 (1+(x2:Int))) (.int .i64 (x7:Int));have V:=hE7.s3 (.int .i64 (x1:Int)) (.int .i64 (1+(x2:Int))) (.int .i64 (x7:Int));have hcl:=hC7.lt;have G9:=hG7.mid hst (by omega);have B9:=hB7.mid hst (by omega);have O9:=hO7.mid hst (by omega);have C9:=hC7.mid hst (by omega);have M9:=hM7.transNew hst (by omega);refine rdZ 15 rfl (fun K hK=>?_);go_simp;refine hK.out _ _ (Or.inr ⟨G9.cell 0 rfl,G9.cell 1 rfl⟩) (fun _=>?_);clear hK K;try simp only[oP]
     refine aAh (by kernel_rfl) ?_ _;generalize ((wc7.setCell ⟨wc2.heap.size,0,none⟩ (.int .i64 (x1:Int))).setCell ⟨wc2.heap.size,1,none⟩ (.int .i64 (1+(x2:Int)))).setCell ⟨wc2.heap.size,2,none⟩ (.int .i64 (x7:Int))=w9 at V G9 B9 O9 C9 M9 |-;obtain⟨P,hP⟩:∃ P,aCy ⟨(x1:Int),1+(x2:Int),(x7:Int)⟩ es=P:=⟨_,rfl⟩
     have hin:InG rn n ⟨(x1:Int),1+(x2:Int),(x7:Int)⟩:=by simp only[InG];omega
     have hLe:=HL.out;have hgP:IsGr rn n P:=hP ▸ aJc HG.out hin (by omega);have hPl:P.length<=L+1:=by have:=aDf ⟨(x1:Int),1+(x2:Int),(x7:Int)⟩ es;rw[hP] at this;omega
     obtain⟨bb,hbb⟩:∃ b,decide ((es.length:Int)<(P.length:Int))=b:=⟨_,rfl⟩
     have hAE:=aDg rn n Ae es ce ⟨(x1:Int),1+(x2:Int),(x7:Int)⟩ w9 _ _ O9.rg HG.out (aNR hin (by omega)) (by omega) bb (by rw[hP];exact hbb);obtain⟨L2,hL2⟩:∃ l,P.length=l:=⟨_,rfl⟩
     rw[hP,hLe,hL2] at hAE;have HAE:Hid (Calls Tryz.prog 228 #[.agg #[.int .i64 (rn:Int),.int .i64 (n:Int),.slice Ae L ce],.agg #[.int .i64 (x1:Int),.int .i64 (1+(x2:Int)),.int .i64 (x7:Int)]] w9 fun en w'=>∃ A1 c1,en=.returned (.tuple #[.agg #[.int .i64 (rn:Int),.int .i64 (n:Int),.slice A1 L2 c1],.bool bb])/\OG w' w9.heap.size w'.heap.size A1 c1 P/\Mid 0 0 w9 w'):=oH hAE
    rotate_left
    all_goals
     have HP:=oH hgP;have HL2:=oH hL2;have hL3:L2<=L+1:=by omega
     obtain⟨g0,g1,g2⟩:=G9.c3 rfl;obtain⟨v0,v1,v2⟩:=V.c3 rfl;have hg9:=G9.1;have hev:=V.1;clear hP hin hLe hgP hPl hbb hAE hL2 O9 hst hef e0 e1 e2 hel hne;go_wp2_with fail;with_reducible refine(HAE.out).mono ?_
     rintro en wf ⟨A1,c1,rfl,oP,mf⟩;have G10:=G9.mid mf oZr;have B10:=B9.mid mf oZr;have C10:=C9.mid mf (Or.inr rfl);have M10:=M9.trans mf.zero;have hzf:=mf.size;clear g0 g1 g2 v0 v1 v2 V G9 B9 C9 M9 mf HAE hev;obtain⟨g0,g1,g2⟩:=G10.c3 rfl;have gf:=G10.2.2;have gl:=G10.1;have hbl:=B10.1;have hcl2:=C10.lt;have hst:=Mid.s3 wf gb (.int .i64 (rn:Int)) (.int .i64 (n:Int)) (.slice A1 L2 c1);have G11:=G10.s3 (.int .i64 (rn:Int)) (.int .i64 (n:Int)) (.slice A1 L2 c1);have B11:=B10.mid hst (by omega);have O11:=(oP.mid hst (Or.inl (by omega))).wide (lo':=gb+1) (by omega) hst.size oN;have C11:=C10.mid hst (by omega);have M11:=M10.transNew hst (by omega);clear hst B10 C10 M10 oP;go_wp2_with fail;go_roundw
     case rel=>exact⟨m - 1,P,A1,c1,L2,by go_num,HL2,by omega,HP,G11,O11,B11,C11,M11⟩
     simp[aSu];omega
   go_simp;refine hK.out _ _ (Or.inr ⟨aAa (Mid.alloc wc1 (.cells #[.int .i64 0,.int .i64 0,.int .i64 0] 110)) hG1.1 oZr (hG1.cell 0 rfl),aAa (Mid.alloc wc1 (.cells #[.int .i64 0,.int .i64 0,.int .i64 0] 110)) hG1.1 oZr (hG1.cell 1 rfl)⟩) (fun _=>?_);clear hK K;try simp only[oP]
   have al9:=Mid.alloc wc1 (.cells #[.int .i64 0,.int .i64 0,.int .i64 0] 110);have hE9:=Box.new wc1 #[.int .i64 0,.int .i64 0,.int .i64 0] 110;have hG9:=hG1.mid al9 oZr;have hB9:=hB1.mid al9 oZr;have hO9:=hO1.mid al9 oZl;have hC9:=hC1.mid al9 (Or.inr rfl);have hM9:=hM1.trans al9.zero;have hz9:=al9.size;have hgE9:=hG1.1;have hcE9:=hC1.lt;have hbE9:=hB1.1;generalize wc1.alloc (.cells #[.int .i64 0,.int .i64 0,.int .i64 0] 110)=wc9 at hE9 hG9 hB9 hO9 hC9 hM9 hz9 |-;clear al9;have hS9:=And.intro (hG9.cell 0 rfl) (hG9.cell 1 rfl);refine rdZ 7 rfl (fun K hK=>?_)
   (go_simp;(with_reducible refine(aBg (rn:Int) (by omega) (by omega) p A bs c _ hb hl hC9).mono ?_);rintro en wc10 ⟨x10,rfl,hx10,hC10,m10⟩;have hG10:=hG9.mid m10 (Or.inr (by omega));go_wp2_with fail)
   refine hK.out _ _ (Or.inr ⟨hG10.cell 0 rfl,hG10.cell 1 rfl⟩) (fun _=>?_);clear hK K;try simp only[oP]
   have hS10:=And.intro (hG10.cell 0 rfl) (hG10.cell 1 rfl);have hB10:=hB9.mid m10 (Or.inr (by omega));have hO10:=hO9.mid m10 (Or.inl (by omega));have hM10:=hM9.trans m10;have hz10:=m10.size;have hE10:=hE9.mid m10 (Or.inr (by omega));have ew10:IntKind.i64.wrap (1+(x10:Int))=1+(x10:Int):=IntWalk.i64_in _ (by omega);refine tkZ [] 8 rfl hS10 ?_;try simp only[oP]
   refine rdZ 12 rfl (fun K hK=>?_)
   (go_simp;(with_reducible refine(aBg (n:Int) (by omega) (by omega) p A bs c _ hb hl hC10).mono ?_);rintro en wc11 ⟨x11,rfl,hx11,hC11,m11⟩;have hG11:=hG10.mid m11 (Or.inr (by omega));go_wp2_with fail)
   refine hK.out _ _ (Or.inr ⟨hG11.cell 0 rfl,hG11.cell 1 rfl⟩) (fun _=>?_);clear hK K;try simp only[oP]
   have hS11:=And.intro (hG11.cell 0 rfl) (hG11.cell 1 rfl);have hB11:=hB10.mid m11 (Or.inr (by omega));have hO11:=hO10.mid m11 (Or.inl (by omega));have hM11:=hM10.trans m11;have hz11:=m11.size;have hE11:=hE10.mid m11 (Or.inr (by omega));refine tkZ [] 13 rfl hS11 ?_;try simp only[oP]
   have hef:=hE11.2.2;obtain⟨e0,e1,e2⟩:=hE11.c3 rfl;have hel:=hE11.1;have hne:gb≠wc1.heap.size:=by omega
   have hst:=Mid.s3 wc11 wc1.heap.size (.int .i64 (x1:Int)) (.int .i64 (1+(x10:Int))) (.int .i64 (x11:Int));have V:=hE11.s3 (.int .i64 (x1:Int)) (.int .i64 (1+(x10:Int))) (.int .i64 (x11:Int));have hcl:=hC11.lt;have G9:=hG11.mid hst (by omega);have B9:=hB11.mid hst (by omega);have O9:=hO11.mid hst (by omega);have C9:=hC11.mid hst (by omega);have M9:=hM11.transNew hst (by omega);refine rdZ 15 rfl (fun K hK=>?_);go_simp;refine hK.out _ _ (Or.inr ⟨G9.cell 0 rfl,G9.cell 1 rfl⟩) (fun _=>?_);clear hK K;try simp only[oP]
   refine aAh (by kernel_rfl) ?_ _;generalize ((wc11.setCell ⟨wc1.heap.size,0,none⟩ (.int .i64 (x1:Int))).setCell ⟨wc1.heap.size,1,none⟩ (.int .i64 (1+(x10:Int)))).setCell ⟨wc1.heap.size,2,none⟩ (.int .i64 (x11:Int))=w9 at V G9 B9 O9 C9 M9 |-;obtain⟨P,hP⟩:∃ P,aCy ⟨(x1:Int),1+(x10:Int),(x11:Int)⟩ es=P:=⟨_,rfl⟩
   have hin:InG rn n ⟨(x1:Int),1+(x10:Int),(x11:Int)⟩:=by simp only[InG];omega
   have hLe:=HL.out;have hgP:IsGr rn n P:=hP ▸ aJc HG.out hin (by omega);have hPl:P.length<=L+1:=by have:=aDf ⟨(x1:Int),1+(x10:Int),(x11:Int)⟩ es;rw[hP] at this;omega
   obtain⟨bb,hbb⟩:∃ b,decide ((es.length:Int)<(P.length:Int))=b:=⟨_,rfl⟩
   have hAE:=aDg rn n Ae es ce ⟨(x1:Int),1+(x10:Int),(x11:Int)⟩ w9 _ _ O9.rg HG.out (aNR hin (by omega)) (by omega) bb (by rw[hP];exact hbb);obtain⟨L2,hL2⟩:∃ l,P.length=l:=⟨_,rfl⟩
   rw[hP,hLe,hL2] at hAE;have HAE:Hid (Calls Tryz.prog 228 #[.agg #[.int .i64 (rn:Int),.int .i64 (n:Int),.slice Ae L ce],.agg #[.int .i64 (x1:Int),.int .i64 (1+(x10:Int)),.int .i64 (x11:Int)]] w9 fun en w'=>∃ A1 c1,en=.returned (.tuple #[.agg #[.int .i64 (rn:Int),.int .i64 (n:Int),.slice A1 L2 c1],.bool bb])/\OG w' w9.heap.size w'.heap.size A1 c1 P/\Mid 0 0 w9 w'):=oH hAE;have HP:=oH hgP;have HL2:=oH hL2;have hL3:L2<=L+1:=by omega
   obtain⟨g0,g1,g2⟩:=G9.c3 rfl;obtain⟨v0,v1,v2⟩:=V.c3 rfl;have hg9:=G9.1;have hev:=V.1;clear hP hin hLe hgP hPl hbb hAE hL2 O9 hst hef e0 e1 e2 hel hne;go_wp2_with fail;with_reducible refine(HAE.out).mono ?_
   rintro en wf ⟨A1,c1,rfl,oP,mf⟩;have G10:=G9.mid mf oZr;have B10:=B9.mid mf oZr;have C10:=C9.mid mf (Or.inr rfl);have M10:=M9.trans mf.zero;have hzf:=mf.size;clear g0 g1 g2 v0 v1 v2 V G9 B9 C9 M9 mf HAE hev;obtain⟨g0,g1,g2⟩:=G10.c3 rfl;have gf:=G10.2.2;have gl:=G10.1;have hbl:=B10.1;have hcl2:=C10.lt;have hst:=Mid.s3 wf gb (.int .i64 (rn:Int)) (.int .i64 (n:Int)) (.slice A1 L2 c1);have G11:=G10.s3 (.int .i64 (rn:Int)) (.int .i64 (n:Int)) (.slice A1 L2 c1);have B11:=B10.mid hst (by omega);have O11:=(oP.mid hst (Or.inl (by omega))).wide (lo':=gb+1) (by omega) hst.size oN;have C11:=C10.mid hst (by omega);have M11:=M10.transNew hst (by omega);clear hst B10 C10 M10 oP;go_wp2_with fail;go_roundw
   case rel=>exact⟨m - 1,P,A1,c1,L2,by go_num,HL2,by omega,HP,G11,O11,B11,C11,M11⟩
   simp[aSu];omega
  go_simp;refine hK.out _ _ (Or.inr ⟨aAa (Mid.alloc wz (.cells #[.int .i64 0,.int .i64 0,.int .i64 0] 110)) hG.1 oZr (hG.cell 0 rfl),aAa (Mid.alloc wz (.cells #[.int .i64 0,.int .i64 0,.int .i64 0] 110)) hG.1 oZr (hG.cell 1 rfl)⟩) (fun _=>?_);clear hK K;try simp only[oP]
  have al13:=Mid.alloc wz (.cells #[.int .i64 0,.int .i64 0,.int .i64 0] 110);have hE13:=Box.new wz #[.int .i64 0,.int .i64 0,.int .i64 0] 110;have hG13:=hG.mid al13 oZr;have hB13:=hB.mid al13 oZr;have hO13:=hOz.mid al13 oZl;have hC13:=hC.mid al13 (Or.inr rfl);have hM13:=hM.trans al13.zero;have hz13:=al13.size;have hgE13:=hG.1;have hcE13:=hC.lt;have hbE13:=hB.1;generalize wz.alloc (.cells #[.int .i64 0,.int .i64 0,.int .i64 0] 110)=wc13 at hE13 hG13 hB13 hO13 hC13 hM13 hz13 |-;clear al13;have hS13:=And.intro (hG13.cell 0 rfl) (hG13.cell 1 rfl);refine rdZ 3 rfl (fun K hK=>?_)
  (go_simp;(with_reducible refine(aBg (n:Int) (by omega) (by omega) p A bs c _ hb hl hC13).mono ?_);rintro en wc14 ⟨x14,rfl,hx14,hC14,m14⟩;have hG14:=hG13.mid m14 (Or.inr (by omega));go_wp2_with fail)
  refine hK.out _ _ (Or.inr ⟨hG14.cell 0 rfl,hG14.cell 1 rfl⟩) (fun _=>?_);clear hK K;try simp only[oP]
  have hS14:=And.intro (hG14.cell 0 rfl) (hG14.cell 1 rfl);have hB14:=hB13.mid m14 (Or.inr (by omega));have hO14:=hO13.mid m14 (Or.inl (by omega));have hM14:=hM13.trans m14;have hz14:=m14.size;have hE14:=hE13.mid m14 (Or.inr (by omega));refine rdZ 7 rfl (fun K hK=>?_)
  (go_simp;(with_reducible refine(aBg (rn:Int) (by omega) (by omega) p A bs c _ hb hl hC14).mono ?_);rintro en wc15 ⟨x15,rfl,hx15,hC15,m15⟩;have hG15:=hG14.mid m15 (Or.inr (by omega));go_wp2_with fail)
  refine hK.out _ _ (Or.inr ⟨hG15.cell 0 rfl,hG15.cell 1 rfl⟩) (fun _=>?_);clear hK K;try simp only[oP]
  have hS15:=And.intro (hG15.cell 0 rfl) (hG15.cell 1 rfl);have hB15:=hB14.mid m15 (Or.inr (by omega));have hO15:=hO14.mid m15 (Or.inl (by omega));have hM15:=hM14.trans m15;have hz15:=m15.size;have hE15:=hE14.mid m15 (Or.inr (by omega));have ew15:IntKind.i64.wrap (1+(x15:Int))=1+(x15:Int):=IntWalk.i64_in _ (by omega);refine tkZ [] 8 rfl hS15 ?_;try simp only[oP]
  refine rdZ 12 rfl (fun K hK=>?_)
  (go_simp;(with_reducible refine(aBg (n:Int) (by omega) (by omega) p A bs c _ hb hl hC15).mono ?_);rintro en wc16 ⟨x16,rfl,hx16,hC16,m16⟩;have hG16:=hG15.mid m16 (Or.inr (by omega));go_wp2_with fail)
  refine hK.out _ _ (Or.inr ⟨hG16.cell 0 rfl,hG16.cell 1 rfl⟩) (fun _=>?_);clear hK K;try simp only[oP]
  have hS16:=And.intro (hG16.cell 0 rfl) (hG16.cell 1 rfl);have hB16:=hB15.mid m16 (Or.inr (by omega));have hO16:=hO15.mid m16 (Or.inl (by omega));have hM16:=hM15.trans m16;have hz16:=m16.size;have hE16:=hE15.mid m16 (Or.inr (by omega));refine tkZ [] 13 rfl hS16 ?_;try simp only[oP]
  have hef:=hE16.2.2;obtain⟨e0,e1,e2⟩:=hE16.c3 rfl;have hel:=hE16.1;have hne:gb≠wz.heap.size:=by omega
  have hst:=Mid.s3 wc16 wz.heap.size (.int .i64 (x14:Int)) (.int .i64 (1+(x15:Int))) (.int .i64 (x16:Int));have V:=hE16.s3 (.int .i64 (x14:Int)) (.int .i64 (1+(x15:Int))) (.int .i64 (x16:Int));have hcl:=hC16.lt;have G9:=hG16.mid hst (by omega);have B9:=hB16.mid hst (by omega);have O9:=hO16.mid hst (by omega);have C9:=hC16.mid hst (by omega);have M9:=hM16.transNew hst (by omega);refine rdZ 15 rfl (fun K hK=>?_);go_simp;refine hK.out _ _ (Or.inr ⟨G9.cell 0 rfl,G9.cell 1 rfl⟩) (fun _=>?_);clear hK K;try simp only[oP]
  refine aAh (by kernel_rfl) ?_ _;generalize ((wc16.setCell ⟨wz.heap.size,0,none⟩ (.int .i64 (x14:Int))).setCell ⟨wz.heap.size,1,none⟩ (.int .i64 (1+(x15:Int)))).setCell ⟨wz.heap.size,2,none⟩ (.int .i64 (x16:Int))=w9 at V G9 B9 O9 C9 M9 |-;obtain⟨P,hP⟩:∃ P,aCy ⟨(x14:Int),1+(x15:Int),(x16:Int)⟩ es=P:=⟨_,rfl⟩
  have hin:InG rn n ⟨(x14:Int),1+(x15:Int),(x16:Int)⟩:=by simp only[InG];omega
  have hLe:=HL.out;have hgP:IsGr rn n P:=hP ▸ aJc HG.out hin (by omega);have hPl:P.length<=L+1:=by have:=aDf ⟨(x14:Int),1+(x15:Int),(x16:Int)⟩ es;rw[hP] at this;omega
  obtain⟨bb,hbb⟩:∃ b,decide ((es.length:Int)<(P.length:Int))=b:=⟨_,rfl⟩
  have hAE:=aDg rn n Ae es ce ⟨(x14:Int),1+(x15:Int),(x16:Int)⟩ w9 _ _ O9.rg HG.out (aNR hin (by omega)) (by omega) bb (by rw[hP];exact hbb);obtain⟨L2,hL2⟩:∃ l,P.length=l:=⟨_,rfl⟩
  rw[hP,hLe,hL2] at hAE;have HAE:Hid (Calls Tryz.prog 228 #[.agg #[.int .i64 (rn:Int),.int .i64 (n:Int),.slice Ae L ce],.agg #[.int .i64 (x14:Int),.int .i64 (1+(x15:Int)),.int .i64 (x16:Int)]] w9 fun en w'=>∃ A1 c1,en=.returned (.tuple #[.agg #[.int .i64 (rn:Int),.int .i64 (n:Int),.slice A1 L2 c1],.bool bb])/\OG w' w9.heap.size w'.heap.size A1 c1 P/\Mid 0 0 w9 w'):=oH hAE;have HP:=oH hgP;have HL2:=oH hL2;have hL3:L2<=L+1:=by omega
  obtain⟨g0,g1,g2⟩:=G9.c3 rfl;obtain⟨v0,v1,v2⟩:=V.c3 rfl;have hg9:=G9.1;have hev:=V.1;clear hP hin hLe hgP hPl hbb hAE hL2 O9 hst hef e0 e1 e2 hel hne;go_wp2_with fail;with_reducible refine(HAE.out).mono ?_
  rintro en wf ⟨A1,c1,rfl,oP,mf⟩;have G10:=G9.mid mf oZr;have B10:=B9.mid mf oZr;have C10:=C9.mid mf (Or.inr rfl);have M10:=M9.trans mf.zero;have hzf:=mf.size;clear g0 g1 g2 v0 v1 v2 V G9 B9 C9 M9 mf HAE hev;obtain⟨g0,g1,g2⟩:=G10.c3 rfl;have gf:=G10.2.2;have gl:=G10.1;have hbl:=B10.1;have hcl2:=C10.lt;have hst:=Mid.s3 wf gb (.int .i64 (rn:Int)) (.int .i64 (n:Int)) (.slice A1 L2 c1);have G11:=G10.s3 (.int .i64 (rn:Int)) (.int .i64 (n:Int)) (.slice A1 L2 c1);have B11:=B10.mid hst (by omega);have O11:=(oP.mid hst (Or.inl (by omega))).wide (lo':=gb+1) (by omega) hst.size oN;have C11:=C10.mid hst (by omega);have M11:=M10.transNew hst (by omega);clear hst B10 C10 M10 oP;go_wp2_with fail;go_roundw
  case rel=>exact⟨m - 1,P,A1,c1,L2,by go_num,HL2,by omega,HP,G11,O11,B11,C11,M11⟩
  simp[aSu];omega
 obtain⟨q0,q1,q2⟩:=hG.c3 rfl;obtain⟨p0,p1,p2⟩:=hB.c3 rfl;have pf:=hB.2.2;have hbw:=hB.1;have hle:=HL.out;have hst:=Mid.s3 wr w.heap.size (.int .i64 (rn:Int)) (.int .i64 (n:Int)) (.slice Ae L ce);have O9:=oH ((hO.mid hst (Or.inl (by omega))).wide (lo':=w.heap.size) (by omega) hst.size oN);have C9:=oH (hC.mid hst (Or.inl hpw));have M9:=oH (hM.transNew hst (Or.inl oN));have HLE:=oH hle;clear hst hle hO hC hM;go_wp2_with fail;refine bodyPost_ret (v:=.agg #[.int .i64 (rn:Int),.int .i64 (n:Int),.slice Ae L ce]) (by simp[results,Tryz.results239,go_sem,p0,p1,p2,pf,q0,q1,q2]) rfl ⟨rn,n,Ae,ce,es,?_,⟨HG.out,by omega,by have:=HLE.out;omega⟩,O9.out,C9.out,M9.out⟩;rw[HLE.out]
theorem DrG.size{r s t:Int}{es:List Ed}(h:DrG r s es)(ht:-10<=t/\t<=100):DrG r t es:=⟨h.rk,ht,h.len,h.all⟩
theorem DrG.rank{r s t:Int}{es:List Ed}(h:DrG r s es)(ht:-10<=t/\t<=10):DrG t s es:=⟨ht,h.sz,h.len,h.all⟩
theorem DrG.add{r s:Int}{es:List Ed}{e:Ed}(h:DrG r s es)(hl:es.length<=120)(he:(-100<=e.a/\e.a<=100)/\(-100<=e.l/\e.l<=100)/\(-100<=e.b/\e.b<=100)):DrG r s (es++[e]):=⟨h.rk,h.sz,by rw[List.length_append];simp;omega,fun x hx=>by
 rcases List.mem_append.1 hx with hx|hx
 .exact h.all x hx
 .simp at hx
  rw[hx];exact he⟩
theorem aLT(p:Nat)(A:Option Addr)(bs:List Int)(c:Nat)(w:World)(hb:OkB bs)(hl:bs.length<=1048576)(h:Cur w p A bs c) :
  Calls Tryz.prog 193 #[.pointer (some ⟨p,0,none⟩)] w fun e w'=>∃ r s A' c' es,e=.returned (aAw r s A' (List.length es) c')/\DrG r s es/\OG w' w.heap.size w'.heap.size A' c' es/\Cur w' p A bs c/\Mid p (p+1) w w':=by
 have hpw:=h.lt;have hal:=Mid.alloc w (.cells #[.int .i64 0,.int .i64 0,.slice none 0 0] 35);have B2:=Box.new w #[.int .i64 0,.int .i64 0,.slice none 0 0] 35;have h0:=h.mid hal (Or.inr rfl);go_enter Tryz.func193,Tryz.ntmps193
 go_wp2_with fail;generalize (w.alloc (.cells #[.int .i64 0,.int .i64 0,.slice none 0 0] 35))=w1 at B2 h0 hal |-;have hs1:w.heap.size<w1.heap.size:=B2.1;with_reducible refine(aMZ p A bs c w1 hb hl h0).mono ?_
 rintro e w2 ⟨r,n,Ae,ce,es,rfl,⟨hg,hn5,he8⟩,hO,h2,m2⟩;replace B2:=B2.mid m2 (Or.inr (by omega));have hm2:=hal.zero.trans m2;have hs2:=m2.size;have HG:=oH (DrG.of_gr hg);obtain⟨L,hL⟩:∃ l,es.length=l:=⟨_,rfl⟩
 have HL:=oH hL;have hL8:L<=8:=by omega
 rw[hL];have hal2:=Mid.alloc w2 (.cells #[.int .i64 (r:Int),.int .i64 (n:Int),.slice Ae L ce] 35);have G0:=Box.new w2 #[.int .i64 (r:Int),.int .i64 (n:Int),.slice Ae L ce] 35;obtain⟨gb,hgb⟩:∃ g,w2.heap.size=g:=⟨_,rfl⟩
 clear hg hn5 he8 hal h0 m2 hL;go_wp2_with fail;rw[hgb] at G0;replace B2:=B2.mid hal2 oZr;replace h2:=h2.mid hal2 (Or.inr rfl);replace hm2:=hm2.trans hal2.zero;have hO3:=(hO.mid hal2 oZl).wide (lo':=w.heap.size+1) (hi':=gb) (by omega) (by omega) (by have:=G0.1;omega);generalize w2.alloc (.cells #[.int .i64 (r:Int),.int .i64 (n:Int),.slice Ae L ce] 35)=w3 at G0 B2 h2 hm2 hO3 |-;have hg3:gb<w3.heap.size:=G0.1;have hwg:w.heap.size<gb:=by omega
 clear hal2 hO hs1 hs2 hgb;with_reducible refine(aBg 14 (by decide) (by decide) p A bs c _ hb hl h2).mono ?_
 rintro e w4 ⟨k,rfl,hk,h4,m4⟩;replace G0:=G0.mid m4 (Or.inr (by omega));replace B2:=B2.mid m4 (Or.inr (by omega));have hO4:=hO3.mid m4 (Or.inl (by omega));have hm4:=hm2.trans m4;clear h2 hO3 hm2 m4 hg3;rcases(by omega:k=0 \/ k=1 \/ k=2 \/ 3<=k) with rfl|rfl|rfl|hk3
 .have HD:=oH (HG.out)
  have al:=Mid.alloc w4 (.cells #[.int .i64 (-1),.int .i64 0,.int .i64 1,.int .i64 41] 3);have hbx:=Box.new w4 #[.int .i64 (-1),.int .i64 0,.int .i64 1,.int .i64 41] 3;go_wp2_with fail;replace G0:=G0.mid al oZr;replace B2:=B2.mid al oZr;have hO5:=hO4.mid al oZl;have h5:=h4.mid al (Or.inr rfl);have hm5:=hm4.trans al.zero;have hgl4:=G0.1;have hpl4:=h4.lt;have hri:RI (w4.alloc (.cells #[.int .i64 (-1),.int .i64 0,.int .i64 1,.int .i64 41] 3)) w4.heap.size (w4.heap.size+1) (some ⟨w4.heap.size,0,none⟩) [-1,0,1,41]:=⟨hbx.1,fun _=>⟨w4.heap.size,0,rfl,oN,oS,fun j u hu=>by rw[Nat.zero_add];exact hbx.2.1 j u (by simpa [aAd] using hu)⟩⟩
  generalize (w4.alloc (.cells #[.int .i64 (-1),.int .i64 0,.int .i64 1,.int .i64 41] 3))=w5 at G0 B2 hO5 h5 hm5 hri hgl4 |-;clear hO4 h4 hm4 al hbx;with_reducible refine(aDj (some ⟨w4.heap.size,0,none⟩) [-1,0,1,41] 4 4 rfl (by decide) (by decide) p A bs c _ _ _ hri (Or.inl hpl4) hb hl h5).mono ?_
  rintro e w6 ⟨t,rfl,htm,h6,m6⟩;have ht:-10<=t/\t<=100:=by simp at htm;omega
  replace G0:=G0.mid m6 (Or.inr (by omega));replace B2:=B2.mid m6 (Or.inr (by omega));have hO6:=hO5.mid m6 (Or.inl (by omega));have hm6:=hm5.trans m6;clear hO5 h5 hm5 m6 hri htm;obtain⟨g0,g1,g2⟩:=G0.c3 rfl;have gf:=G0.2.2;have gl:=G0.1;have hst:=Mid.setCell w6 (lo:=gb) (hi:=gb+1) (p:=⟨gb,1,none⟩) (.int .i64 t) oN oS;replace G0:=G0.set 1 (.int .i64 t) (by simp) rfl;simp only[List.set_cons_succ,List.set_cons_zero] at G0;replace B2:=B2.mid hst (Or.inl (by omega));replace hO6:=hO6.mid hst (Or.inr oN);replace h6:=h6.mid hst (Or.inl (by omega));replace hm6:=hm6.transNew hst (Or.inl (by omega));have ql:=B2.1;have gl2:=G0.1;obtain⟨k0,k1,k2⟩:=G0.c3 rfl;obtain⟨q0,q1,q2⟩:=B2.c3 rfl;have qf:=B2.2.2;obtain⟨wT,hwT⟩:∃ x,w6.setCell ⟨gb,1,none⟩ (.int .i64 t)=x:=⟨_,rfl⟩
  rw[hwT] at G0 B2 hO6 h6 hm6 ql gl2 k0 k1 k2 q0 q1 q2 qf;clear hst;have hst:=Mid.s3 wT w.heap.size (.int .i64 (r:Int)) (.int .i64 t) (.slice Ae L ce);have O9:=oH ((hO6.mid hst (Or.inl (by omega))).wide (lo':=w.heap.size) (hi':=_) (by omega) (by have:=hst.size;have:=hO6.size;exact Nat.le_trans hO6.size hst.size) oN);have C9:=oH (h6.mid hst (Or.inl hpw));have M9:=oH (hm6.transNew hst (Or.inl oN));clear hst hO6 h6 hm6;go_wp2_with fail;refine bodyPost_ret (v:=.agg #[.int .i64 (r:Int),.int .i64 t,.slice Ae L ce]) (by simp[results,Tryz.results193,go_sem,q0,q1,q2,qf,k0,k1,k2]) rfl ⟨(r:Int),t,Ae,ce,es,?_,(HG.out.size ht),O9.out,C9.out,M9.out⟩;rw[HL.out]
 .have HD:=oH (HG.out)
  have al:=Mid.alloc w4 (.cells #[.int .i64 0,.int .i64 1,.int .i64 4] 3);have hbx:=Box.new w4 #[.int .i64 0,.int .i64 1,.int .i64 4] 3;go_wp2_with fail;replace G0:=G0.mid al oZr;replace B2:=B2.mid al oZr;have hO5:=hO4.mid al oZl;have h5:=h4.mid al (Or.inr rfl);have hm5:=hm4.trans al.zero;have hgl4:=G0.1;have hpl4:=h4.lt;have hri:RI (w4.alloc (.cells #[.int .i64 0,.int .i64 1,.int .i64 4] 3)) w4.heap.size (w4.heap.size+1) (some ⟨w4.heap.size,0,none⟩) [0,1,4]:=⟨hbx.1,fun _=>⟨w4.heap.size,0,rfl,oN,oS,fun j u hu=>by rw[Nat.zero_add];exact hbx.2.1 j u (by simpa [aAd] using hu)⟩⟩
  generalize (w4.alloc (.cells #[.int .i64 0,.int .i64 1,.int .i64 4] 3))=w5 at G0 B2 hO5 h5 hm5 hri hgl4 |-;clear hO4 h4 hm4 al hbx;with_reducible refine(aDj (some ⟨w4.heap.size,0,none⟩) [0,1,4] 3 3 rfl (by decide) (by decide) p A bs c _ _ _ hri (Or.inl hpl4) hb hl h5).mono ?_
  rintro e w6 ⟨t,rfl,htm,h6,m6⟩;have ht:-10<=t/\t<=10:=by simp at htm;omega
  replace G0:=G0.mid m6 (Or.inr (by omega));replace B2:=B2.mid m6 (Or.inr (by omega));have hO6:=hO5.mid m6 (Or.inl (by omega));have hm6:=hm5.trans m6;clear hO5 h5 hm5 m6 hri htm;obtain⟨g0,g1,g2⟩:=G0.c3 rfl;have gf:=G0.2.2;have gl:=G0.1;have hst:=Mid.setCell w6 (lo:=gb) (hi:=gb+1) (p:=⟨gb,0,none⟩) (.int .i64 t) oN oS;replace G0:=G0.set 0 (.int .i64 t) (by simp) rfl;simp only[List.set_cons_succ,List.set_cons_zero] at G0;replace B2:=B2.mid hst (Or.inl (by omega));replace hO6:=hO6.mid hst (Or.inr oN);replace h6:=h6.mid hst (Or.inl (by omega));replace hm6:=hm6.transNew hst (Or.inl (by omega));have ql:=B2.1;have gl2:=G0.1;obtain⟨k0,k1,k2⟩:=G0.c3 rfl;obtain⟨q0,q1,q2⟩:=B2.c3 rfl;have qf:=B2.2.2;obtain⟨wT,hwT⟩:∃ x,w6.setCell ⟨gb,0,none⟩ (.int .i64 t)=x:=⟨_,rfl⟩
  rw[hwT] at G0 B2 hO6 h6 hm6 ql gl2 k0 k1 k2 q0 q1 q2 qf;clear hst;have hst:=Mid.s3 wT w.heap.size (.int .i64 t) (.int .i64 (n:Int)) (.slice Ae L ce);have O9:=oH ((hO6.mid hst (Or.inl (by omega))).wide (lo':=w.heap.size) (hi':=_) (by omega) (by have:=hst.size;have:=hO6.size;exact Nat.le_trans hO6.size hst.size) oN);have C9:=oH (h6.mid hst (Or.inl hpw));have M9:=oH (hm6.transNew hst (Or.inl oN));clear hst hO6 h6 hm6;go_wp2_with fail;refine bodyPost_ret (v:=.agg #[.int .i64 t,.int .i64 (n:Int),.slice Ae L ce]) (by simp[results,Tryz.results193,go_sem,q0,q1,q2,qf,k0,k1,k2]) rfl ⟨t,(n:Int),Ae,ce,es,?_,(HG.out.rank ht),O9.out,C9.out,M9.out⟩;rw[HL.out]
 .have hmd:=Mid.drew1 w4
  replace G0:=G0.mid hmd oZr;replace B2:=B2.mid hmd oZr;replace hO4:=hO4.mid hmd oZl;replace h4:=h4.mid hmd (Or.inr rfl);replace hm4:=hm4.trans hmd.zero;clear hmd;have g2:=G0.cell 2 rfl;go_wp2_with fail;refine aAl (S:=(fun w'=>w'.cell? ⟨gb,2,none⟩=some (.slice Ae L ce))) [8] (by kernel_rfl) g2 ?_;generalize World.drew w4=wz at G0 B2 hO4 h4 hm4 g2 |-;refine tkZ [8] 0 rfl g2 ?_;try simp only[oP]
  refine tkZ [8] 1 rfl g2 ?_;try simp only[oP]
  refine tkZ [8] 2 rfl g2 ?_;try simp only[oP]
  refine rdZ 3 rfl (fun K hK=>?_)
  (go_simp;(with_reducible refine(aBg 4 (by decide) (by decide) p A bs c _ hb hl h4).mono ?_);rintro en w5 ⟨x,rfl,hx,h5,m5⟩;have G5:=G0.mid m5 (Or.inr (by omega));go_wp2_with fail)
  refine hK.out _ _ (Or.inr (G5.cell 2 rfl)) (fun _=>?_);clear hK K;try simp only[oP]
  have B5:=B2.mid m5 (Or.inr (by omega));have O5:=hO4.mid m5 (Or.inl (by omega));have hm5:=hm4.trans m5;clear g2 G0 B2 hO4 h4 hm4 m5;have k2:=G5.cell 2 rfl;refine tkZ [8] 4 rfl k2 ?_;try simp only[oP]
  have al:=Mid.alloc w5 (.cells #[.int .i64 (x:Int),.int .i64 1,.int .i64 0] 110);have G6:=G5.mid al oZr;have hrs:Rs (w5.alloc (.cells #[.int .i64 (x:Int),.int .i64 1,.int .i64 0] 110)) (w5.heap.size+1) (some ⟨w5.heap.size,0,none⟩) [.int .i64 (x:Int),.int .i64 1,.int .i64 0]:=fun _=>⟨w5.heap.size,0,rfl,oS,fun j u hu=>(World.cell?_alloc_at _ _ _ _ rfl).trans (by simpa using hu)⟩
  refine rdZ 5 rfl (fun K hK=>?_);go_simp;refine hK.out _ _ (Or.inr (G6.cell 2 rfl)) (fun _=>?_);clear hK K;try simp only[oP]
  have B6:=B5.mid al oZr;have O6:=O5.mid al oZl;have h6:=h5.mid al (Or.inr rfl);have hm6:=hm5.trans al.zero;have hg5:=G5.1;generalize w5.alloc (.cells #[.int .i64 (x:Int),.int .i64 1,.int .i64 0] 110)=w6 at G6 hrs B6 O6 h6 hm6 |-;clear al B5 O5 h5 hm5 k2 G5;have hown:=O6.2.1;rw[HL.out] at hown;have hone:∀ u∈[Value.int .i64 (x:Int),.int .i64 1,.int .i64 0],u.oneCell'=true:=by
   intro u hu;simp at hu;rcases hu with rfl|rfl|rfl <;> rfl
  have HO:=oH hone;have hmxl:L+1<=maxLen:=by unfold maxLen;omega
  have hbyt:(L+1) * 24<=140737488355328:=by omega
  have hg6:gb<w6.heap.size:=G6.1;have hbas:w.heap.size+1<=w6.heap.size:=by have:=G6.1;omega
  have hne:Value.ownBlock (.slice Ae L ce)≠some gb:=fun h=>by have:=O6.2.2 gb (by rw[HL.out];exact h);omega
  have hne2:Value.ownBlock (.slice Ae L ce)≠some w.heap.size:=fun h=>by have:=hown.lt _ h;omega
  have HN:=oH hne;clear hone hne;refine rdZ 6 rfl (fun K hK=>?_)
  (refine aBh (by rfl) (.tmp 23) (.tmp 27) 33 (by rfl) (w.heap.size+1) 110 (.agg #[.int .i64 0,.int .i64 0,.int .i64 0]) 3 24 aJo aJu rfl (by decide) (.slice Ae L ce) L _ (by rfl) hown (some ⟨w5.heap.size,0,none⟩) 1 1 _ [.int .i64 (x:Int),.int .i64 1,.int .i64 0] (by rfl) hrs rfl HO.out hmxl hbyt hbas ?_;intro v9 w9 ho9 hgr9 hat9;obtain⟨A9,c9,rfl, -, -⟩:=aAg ho9)
  refine hK.out _ _ (Or.inr ((G6.grown hgr9 HN.out).cell 2 rfl)) (fun _=>?_);clear hK K;try simp only[oP]
  have G9:=G6.grown hgr9 HN.out;have B9:=B6.grown hgr9 hne2;have m9:=Mid.of_grownRow hown hgr9;have h9:=h6.mid m9 (Or.inl (by omega));have hm9:=hm6.transNew m9 (Or.inl (by omega));clear hrs B6 O6 h6 hm6 G6 hown hbas hne2;have gf:=G9.2.2;have gl:=G9.1;obtain⟨g0,g1,g2⟩:=G9.c3 rfl;refine tkZ [8] 7 rfl g2 ?_;try simp only[oP]
  have hst0:=Mid.setCell w9 (lo:=gb) (hi:=gb+1) (p:=⟨gb,2,none⟩) (.slice A9 (L+1) c9) oN oS;have G10:=G9.set 2 (.slice A9 (L+1) c9) (by simp) rfl;simp only[List.set_cons_succ,List.set_cons_zero] at G10;have B10:=B9.mid hst0 (Or.inl (by omega));have h10:=h9.mid hst0 (Or.inl (by omega));have hm10:=hm9.transNew hst0 (Or.inl (by omega));have ho10:(w9.setCell ⟨gb,2,none⟩ (.slice A9 (L+1) c9)).ownsRow (w.heap.size+1) 110 3 (.slice A9 (L+1) c9) (L+1) (aAd (edI (es++[⟨(x:Int),1,0⟩]))):=by
   rw[aBT,aAj,aEY];refine ownsRow_setCell_other ho9 ?_ _;rcases hat9 with h|h
   .rw[h]
    exact HN.out
   rw[h];intro e;have:=Option.some.inj e;have hh:w6.heap.size=gb:=this;omega
  refine rdZ 8 rfl (fun K hK=>?_);go_simp;refine hK.out _ _ (Or.inl (by simp)) (fun _=>?_);clear hK K;try simp only[oP]
  refine aAh (by kernel_rfl) ?_ _;have hl9:(es++[(⟨(x:Int),1,0⟩:Ed)]).length=L+1:=by rw[List.length_append,HL.out];rfl
  have HL9:=oH hl9;obtain⟨A11,c11,hv11,hn11,hO11⟩:=OG.mk' ho10;rw[hl9] at hv11;injection hv11 with e1 e2 e3
  subst e1 e3;have HD9:Hid (DrG (r:Int) (n:Int) (es++[(⟨(x:Int),1,0⟩:Ed)])):=oH (DrG.add HG.out (by rw[HL.out];omega) (And.intro (show -100<=(x:Int)/\(x:Int)<=100 by omega) (And.intro (by simp) (by simp))));generalize w9.setCell ⟨gb,2,none⟩ (.slice A9 (L+1) c9)=wT at G10 B10 h10 hm10 hO11 |-;clear hst0 G9 B9 h9 hm9 gf gl g0 g1 g2 m9 ho9 ho10 hgr9 hat9 hl9 hn11;obtain⟨g0,g1,g2⟩:=G10.c3 rfl;obtain⟨q0,q1,q2⟩:=B10.c3 rfl;have qf:=B10.2.2;have ql:=B10.1;have gl:=G10.1;have hst:=Mid.s3 wT w.heap.size (.int .i64 (r:Int)) (.int .i64 (n:Int)) (.slice A9 (L+1) c9);have O9:=oH ((hO11.mid hst (Or.inl (by omega))).wide (lo':=w.heap.size) (by omega) (by have:=hst.size;have:=hO11.size;omega) oN);have C9:=oH (h10.mid hst (Or.inl hpw));have M9:=oH (hm10.transNew hst (Or.inl oN));clear hst hO11 h10 hm10;go_wp2_with fail;refine bodyPost_ret (v:=.agg #[.int .i64 (r:Int),.int .i64 (n:Int),.slice A9 (L+1) c9]) (by simp[results,Tryz.results193,go_sem,q0,q1,q2,qf,g0,g1,g2]) rfl ⟨(r:Int),(n:Int),A9,c9,(es++[(⟨(x:Int),1,0⟩:Ed)]),?_,HD9.out,O9.out,C9.out,M9.out⟩;rw[HL9.out]
 have e0:¬ ((k:Int)=0):=by omega
 have e1:¬ ((k:Int)=1):=by omega
 have e2:¬ ((k:Int)=2):=by omega
 generalize hwT:w4=wT at G0 B2 hO4 h4 hm4 |-;obtain⟨g0,g1,g2⟩:=G0.c3 rfl;obtain⟨q0,q1,q2⟩:=B2.c3 rfl;have qf:=B2.2.2;have ql:=B2.1;have gl:=G0.1;have hst:=Mid.s3 wT w.heap.size (.int .i64 (r:Int)) (.int .i64 (n:Int)) (.slice Ae L ce);have O9:=oH ((hO4.mid hst (Or.inl (by omega))).wide (lo':=w.heap.size) (by omega) (by have:=hst.size;have:=hO4.size;omega) oN);have C9:=oH (h4.mid hst (Or.inl hpw));have M9:=oH (hm4.transNew hst (Or.inl oN));clear hst hO4 h4 hm4;go_wp2_with fail;refine bodyPost_ret (v:=.agg #[.int .i64 (r:Int),.int .i64 (n:Int),.slice Ae L ce]) (by simp[results,Tryz.results193,go_sem,q0,q1,q2,qf,g0,g1,g2]) rfl ⟨(r:Int),(n:Int),Ae,ce,es,?_,HG.out,O9.out,C9.out,M9.out⟩;rw[HL.out]
section
open Go.RowKit
section
variable {w w' W W':World} {lo a b:Nat} {A A':Option Addr} {n c c':Nat} {rows:List Row} {r:Row}
theorem Own1.midB(h:Own1 w lo A n c rows)(m:Mid a b w w')(hd:b<=lo):Own1 w' lo A n c rows:=
 ⟨aAc h.out m (Or.inl hd),(h.rows.mid m (Or.inl hd)).wide oN m.size oN⟩
theorem Own1.pushB(h:Own1 w lo A n c rows)(m:Mid a b w W)(hd:b<=lo)(hl:lo<=w.heap.size)(hrow:W.ownsRow w.heap.size 3 1 r.v r.xs.length (aAd r.xs))(h1:W'.ownsRow lo 44 1 (.slice A' (n+1) c') (n+1) (aDV rows++[r.v]))(h2:W.grownBy W' (obS A n c)):Own1 W' lo A' (n+1) c' (rows++[r]):=by
 refine⟨by rw[aFm];exact h1,?_⟩;have k1:=(h.rows.mid m (Or.inl hd)).push (r:=r) (base:=w.heap.size) (hi':=W.heap.size) hrow oN hl m.size oN (fun g hg=>(hrow.lt g hg).2);exact(k1.grown (h.midB m hd).out (by decide) h2).wide oN h2.size oN
variable {ops:Array Oper} {rest:List Oper} {o:Oper} {ac:Act} {Q:Exit->Act->World->Prop}
theorem aMC(hgd:o.guard=none)(s x:Operand)(ho:o.op=.call { callee:=.builtin .append,args:=#[s,x],argTypes:=#[24,24] })(hs:ac.eval s=.slice A n c)(h:Own1 w lo A n c rows)(m:Mid a b w W)(hd:b<=lo)(r:Row)(u:Value)(hu:r.v=u)(hrow:W.ownsRow w.heap.size 3 1 r.v r.xs.length (aAd r.xs))(hx:ac.eval x=.slice (some ⟨W.heap.size,0,none⟩) 1 1)(hn:n<=1048576)(hb:lo<=w.heap.size)(hk:∀ A' c' w',Own1 w' lo A' (n+1) c' (rows++[r])->W.grownBy w' (obS A n c)->wpList Tryz.prog ops Q rest (ac.put o.dst (.slice A' (n+1) c')) w') :
  wpList Tryz.prog ops Q (o::rest) ac (W.alloc (.cells #[u] 44)):=by
 subst hu;have hms:=m.size;refine aAr (news:=[r.v]) hgd s x 24 ho lo 44 (.slice none 0 0) 1 24 aKj aJQ rfl (by decide) (.slice A n c) n (aDV rows) hs (h.midB m hd).out 1 hx rfl ?_ (by unfold maxLen;omega) (by omega) (by omega) ?_
 .intro u hu
  simp at hu;subst hu
  rfl
 intro v' w' h1 h2 h3;obtain⟨A',c',rfl, -, -⟩:=aAg h1;exact hk A' c' w' (h.pushB m hd hb hrow h1 h2) h2
end
def DrWs(l:List (List Int)):Prop:=l.length<=5/\∀ w∈l,w.length<=5/\LtW w/\Rd w
theorem DrWs.len{l:List (List Int)}(h:DrWs l):∀ {k:Nat},aDR (l.take k)<=5 * k:=by
 intro k
 induction k with
|zero=>simp[aDR]
|succ k ih=>
  by_cases hk:k<l.length
  .have e:=aBH (List.getElem?_eq_getElem hk)
   have:=(h.2 _ (List.getElem_mem hk)).1;omega
  rw[List.take_of_length_le (by omega)] at ih |-;omega
theorem DrWs.sum{l:List (List Int)}(h:DrWs l):aDR l<=25:=by
 have:=h.len (k:=l.length);rw[List.take_length] at this;have:=h.1;omega
theorem DrWs.ok{l:List (List Int)}(h:DrWs l):aVq l:=⟨⟨by have:=h.1;omega,fun xs hx=>by have:=(h.2 xs hx).1;omega⟩,fun xs hx=>(h.2 xs hx).2.1.ok⟩
theorem aGj(r:Int)(hr1:1<=r)(hr3:r<=3)(p:Nat)(A:Option Addr)(bs:List Int)(c:Nat)(w:World)(hb:OkB bs)(hl:bs.length<=1048576)(h:Cur w p A bs c) :
  Calls Tryz.prog 177 #[.pointer (some ⟨p,0,none⟩),.int .i64 r] w fun e w'=>∃ A' c' rows,e=.returned (.slice A' (List.length rows) c')/\((aBe rows).length<=3/\DrWs (aBe rows))/\Own1 w' w.heap.size A' rows.length c' rows/\Cur w' p A bs c/\Mid p (p+1) w w':=by
 have hpw:=h.lt;have hal:=Mid.alloc w (.cells #[] 44);have ho:=Own1.empty w;have h0:=h.mid hal (Or.inr rfl);go_enter Tryz.func177,Tryz.ntmps177
 go_wp2_with fail;with_reducible refine(aBg 4 (by decide) (by decide) p A bs c _ hb hl h0).mono ?_
 rintro e w1 ⟨n0,rfl,hn0,h1,m1⟩;have ho1:=ho.midB m1 (by omega);have hm1:=hal.zero.trans m1;have hs1:=hm1.size;clear h0 hal m1 ho;go_wp2_with fail;go_loopw [5,6] (fun wv nv wr=>∃(rows:List Row) (n:Nat) (Ax:Option Addr) (cx L:Nat),nv=.int .i64 n/\wv=.slice Ax L cx/\Hid (rows.length=L)/\L+n<=3/\Hid (DrWs (aBe rows))/\Own1 wr w.heap.size Ax L cx rows/\Cur wr p A bs c/\Mid p (p+1) w wr)
  (fun _ nv _=>aSu nv)
 case atStart=>exact⟨[],n0,_,_,0,rfl,rfl,oH rfl,by omega,oH ⟨by simp[aBe],by simp[aBe]⟩,ho1,h1,hm1⟩
 obtain⟨rows,n,Ax,cx,L,rfl,rfl,HL,hLm,HW,ho,hc,hm⟩:=hrel;have hs:=hm.size;by_cases hlt:0<n
 .go_wp2_with fail
  with_reducible refine(aOa r hr1 hr3 5 (by decide) (by decide) p A bs c _ hb hl hc).mono ?_
  rintro e w2 ⟨Ay,cy,ys,rfl,⟨hyl,hyw,hyr⟩,oy,hc2,m2⟩;have hoy:=oy.2.1;have HY:=oH (show ys.length<=5/\LtW ys/\Rd ys from⟨by omega,hyw,hyr⟩);have hm2:=hm.trans m2;have hs2:=hm2.size;clear hyl hyw hyr oy hc hm;go_wp2_with (at_builtin;refine aMC rfl _ _ rfl rfl ho m2 hpw ⟨Ay,cy,ys⟩ _ rfl hoy rfl (by omega) hs ?next)
  case next=>
   intro A3 c3 w3 ho3 hgr3;have m3:Mid w.heap.size w2.heap.size w2 w3:=Mid.of_grownRow (ho.midB m2 hpw).out hgr3;go_wp2_with fail;go_roundw
   case rel=>
    refine⟨rows++[⟨Ay,cy,ys⟩],n - 1,A3,c3,L+1,by go_num,rfl,oH (by simp[HL.out]),by omega,oH ?_,ho3,hc2.mid m3 (Or.inl hpw),hm2.transNew m3 (Or.inl oN)⟩;have h1:=HW.out;have h2:=HL.out;rw[aCW];refine⟨by rw[List.length_append,aBs];simp[aBe];omega,fun x hx=>?_⟩;rcases List.mem_append.1 hx with hx|hx
    .exact h1.2 x hx
    simp[aBe] at hx;rw[hx];exact HY.out
   simp[aSu];omega
 go_wp2_with fail;go_ret;have hle:=HL.out;refine⟨Ax,cx,rows,by rw[hle];rfl,⟨by rw[aBs];omega,HW.out⟩,by rw[hle];exact ho,hc,hm⟩
end
theorem DrG.sub{rank:Int}{l:List (List Int)}{rr rs:Int}{res:List Ed}{b:Bool}(h:aTh rank l rr rs res b):DrG rr rs res:=by
 rcases h with⟨-,h,rfl,rfl,rfl⟩|⟨-, -,rfl,rfl,rfl⟩
 .exact DrG.of_gr (aDb (aQk h))
 exact DrG.zero
theorem aQy(p:Nat)(A:Option Addr)(bs:List Int)(c:Nat)(w:World)(hb:OkB bs)(hl:bs.length<=1048576)(h:Cur w p A bs c) :
  Calls Tryz.prog 254 #[.pointer (some ⟨p,0,none⟩)] w fun e w'=>∃ r s A' c' es,e=.returned (aAw r s A' (List.length es) c')/\DrG r s es/\OG w' w.heap.size w'.heap.size A' c' es/\Cur w' p A bs c/\Mid p (p+1) w w':=by
 have hpw:=h.lt;have hal:=Mid.alloc w (.cells #[.int .i64 0,.int .i64 0,.slice none 0 0] 35);have B2:=Box.new w #[.int .i64 0,.int .i64 0,.slice none 0 0] 35;have h0:=h.mid hal (Or.inr rfl);go_enter Tryz.func254,Tryz.ntmps254
 have hal2:=Mid.alloc (w.alloc (.cells #[.int .i64 0,.int .i64 0,.slice none 0 0] 35)) (.cells #[.int .i64 1,.int .i64 2,.int .i64 2,.int .i64 2,.int .i64 2,.int .i64 3] 3);have hbx:=Box.new (w.alloc (.cells #[.int .i64 0,.int .i64 0,.slice none 0 0] 35)) #[.int .i64 1,.int .i64 2,.int .i64 2,.int .i64 2,.int .i64 2,.int .i64 3] 3;rw[World.size_alloc] at hbx;replace B2:=B2.mid hal2 oZr;replace h0:=h0.mid hal2 (Or.inr rfl);have hm0:=hal.trans hal2;go_wp2_with fail;generalize (w.alloc (.cells #[.int .i64 0,.int .i64 0,.slice none 0 0] 35)).alloc (.cells #[.int .i64 1,.int .i64 2,.int .i64 2,.int .i64 2,.int .i64 2,.int .i64 3] 3)=w1 at hbx B2 h0 hm0 |-;have hs1:w.heap.size+1<w1.heap.size:=hbx.1;have hri:RI w1 (w.heap.size+1) (w.heap.size+1+1) (some ⟨w.heap.size+1,0,none⟩) [1,2,2,2,2,3]:=
  ⟨hs1,fun _=>⟨w.heap.size+1,0,rfl,oN,oS,fun j u hu=>by rw[Nat.zero_add];exact hbx.2.1 j u (by simpa [aAd] using hu)⟩⟩
 with_reducible refine(aDj (some ⟨w.heap.size+1,0,none⟩) [1,2,2,2,2,3] 6 6 rfl (by decide) (by decide) p A bs c _ (w.heap.size+1) _ hri (Or.inl (by omega)) hb hl h0).mono ?_
 rintro e w2 ⟨r,rfl,hrm,h2,m2⟩;have hr:1<=r/\r<=3:=by simp at hrm;omega
 replace B2:=B2.mid m2 (Or.inr (by omega));have hm2:=hm0.zero.trans m2;have hs2:=m2.size;clear hri hbx hrm h0 hm0 hal hal2 m2;go_wp2_with fail;with_reducible refine(aGj r hr.1 hr.2 p A bs c _ hb hl h2).mono ?_
 rintro e w3 ⟨Al,cl,rows,rfl,⟨hl3,hw⟩,hL,h3,m3⟩;have hs3:=m3.size;replace B2:=B2.mid m3 (Or.inr (by omega));have hm3:=hm2.trans m3;obtain⟨l,hrl⟩:∃ l,aBe rows=l:=⟨_,rfl⟩
 have hll:rows.length=l.length:=by rw[<- hrl,aBs]
 have hoss:=hL.oss hrl;rw[hrl] at hw hl3;have hsu:=hw.sum;obtain⟨rr,rs,res,b,hres⟩:=aGw r l;have hF:=aBR r Al l cl w3 _ _ hoss.rss hw.ok.2 (by omega) rr rs res b hres;have HD:=oH (DrG.sub hres);obtain⟨L,hLe⟩:∃ x,res.length=x:=⟨_,rfl⟩
 rw[hLe] at hF;have HL:=oH hLe;have HF:Hid (Calls Tryz.prog 15 #[.int .i64 r,.slice Al l.length cl] w3 fun e w'=>∃ A1 c1,e=.returned (.tuple #[.agg #[.int .i64 rr,.int .i64 rs,.slice A1 L c1],.bool b])/\OG w' w3.heap.size w'.heap.size A1 c1 res/\Mid 0 0 w3 w'):=oH hF;rw[hll];clear hF hres hLe hsu hoss hw hl3 hll hrl hL h2 hm2 m3;go_wp2_with fail;with_reducible refine(HF.out).mono ?_
 rintro e w4 ⟨A1,c1,rfl,hO4,m4⟩;have hs4:=m4.size;replace B2:=B2.mid m4 oZr;have hC:=h3.mid m4 (Or.inr rfl);have hM:=hm3.trans m4.zero;have al5:=Mid.alloc w4 (.cells #[.int .i64 rr,.int .i64 rs,.slice A1 L c1] 35);have G5:=Box.new w4 #[.int .i64 rr,.int .i64 rs,.slice A1 L c1] 35;replace B2:=B2.mid al5 oZr;replace hC:=hC.mid al5 (Or.inr rfl);replace hM:=hM.trans al5.zero;have hO5:=(hO4.mid al5 oZl)
 have hs5:=al5.size;obtain⟨w5,hw5⟩:∃ x,w4.alloc (.cells #[.int .i64 rr,.int .i64 rs,.slice A1 L c1] 35)=x:=⟨_,rfl⟩
 rw[hw5] at B2 hC hM hO5 hs5 G5;clear h3 hm3 hO4 m4 al5 HF;obtain⟨g0,g1,g2⟩:=G5.c3 rfl;have gl:=G5.1;obtain⟨q0,q1,q2⟩:=B2.c3 rfl;have qf:=B2.2.2;have ql:=B2.1;have hst:=Mid.s3 w5 w.heap.size (.int .i64 rr) (.int .i64 rs) (.slice A1 L c1);have O9:=oH ((hO5.mid hst (Or.inl (by omega))).wide (lo':=w.heap.size) (by omega) (Nat.le_trans hO5.size hst.size) oN);have C9:=oH (hC.mid hst (Or.inl hpw));have M9:=oH (hM.transNew hst (Or.inl oN));clear hst hO5 hC hM;go_wp2_with fail;refine bodyPost_ret (v:=.agg #[.int .i64 rr,.int .i64 rs,.slice A1 L c1]) (by simp[results,Tryz.results254,go_sem,q0,q1,q2,qf]) rfl ⟨rr,rs,A1,c1,res,?_,HD.out,O9.out,C9.out,M9.out⟩;rw[HL.out]
theorem aQx(p:Nat)(A:Option Addr)(bs:List Int)(c:Nat)(w:World)(hb:OkB bs)(hl:bs.length<=1048576)(h:Cur w p A bs c) :
  Calls Tryz.prog 214 #[.pointer (some ⟨p,0,none⟩)] w fun e w'=>∃ r s A' c' es,e=.returned (aAw r s A' (List.length es) c')/\DrG r s es/\OG w' w.heap.size w'.heap.size A' c' es/\Cur w' p A bs c/\Mid p (p+1) w w':=by
 have hpw:=h.lt;have hal:=Mid.alloc w (.cells #[.int .i64 0,.int .i64 0,.slice none 0 0] 35);have B2:=Box.new w #[.int .i64 0,.int .i64 0,.slice none 0 0] 35;have h0:=h.mid hal (Or.inr rfl);go_enter Tryz.func214,Tryz.ntmps214
 go_wp2_with fail;generalize (w.alloc (.cells #[.int .i64 0,.int .i64 0,.slice none 0 0] 35))=w1 at B2 h0 hal |-;have hs1:w.heap.size<w1.heap.size:=B2.1;with_reducible refine(aKI 8 (by decide) (by decide) p A bs c _ hb hl h0).mono ?_
 rintro e w2 ⟨q,rfl,h2,m2⟩;have hs2:=m2.size;replace B2:=B2.mid m2 (Or.inr (by omega));replace hal:=hal.zero.trans m2;clear h0 m2;cases q
 focus
  go_wp2_with fail;with_reducible refine(aQy p A bs c _ hb hl h2).mono ?_
 rotate_left
 focus
  go_wp2_with fail;with_reducible refine(aLT p A bs c _ hb hl h2).mono ?_
 rotate_left
 all_goals
  rintro e w3 ⟨r,s,Ae,ce,es,rfl,hg,hO,hC,m3⟩;have hs3:=m3.size;replace B2:=B2.mid m3 (Or.inr (by omega));have hM:=hal.trans m3;have HG:=oH hg;obtain⟨L,hL⟩:∃ l,es.length=l:=⟨_,rfl⟩
  have HL:=oH hL;rw[hL];clear hg hL hal h2 m3;obtain⟨q0,q1,q2⟩:=B2.c3 rfl;have qf:=B2.2.2;have ql:=B2.1;have hst:=Mid.s3 w3 w.heap.size (.int .i64 r) (.int .i64 s) (.slice Ae L ce);have O9:=oH ((hO.mid hst (Or.inl (by omega))).wide (lo':=w.heap.size) (by omega) (Nat.le_trans hO.size hst.size) oN);have C9:=oH (hC.mid hst (Or.inl hpw));have M9:=oH (hM.transNew hst (Or.inl oN));clear hst hO hC hM;go_wp2_with fail;refine bodyPost_ret (v:=.agg #[.int .i64 r,.int .i64 s,.slice Ae L ce]) (by simp[results,Tryz.results214,go_sem,q0,q1,q2,qf]) rfl ⟨r,s,Ae,ce,es,?_,HG.out,O9.out,C9.out,M9.out⟩;rw[HL.out]
theorem aPQ(A:Option Addr)(n c:Nat)(w:World) :
  Calls Tryz.prog 6 #[.slice A n c] w fun e w'=>e=.returned (.bool (decide ((n:Int) > 1048576)))/\w=w':=by
 go_enter Tryz.func6,Tryz.ntmps6
 go_wp2_with fail;all_goals
  go_ret;exact⟨rfl,rfl⟩
theorem aMp(A:Option Addr)(xs:List Int)(c:Nat)(A':Option Addr)(ys:List Int)(c':Nat)(w:World)(lo hi lo' hi':Nat)(h:RI w lo hi A xs)(h':RI w lo' hi' A' ys)(hl:xs.length<=1048576)(hl':ys.length<=1048576)(r:Bool)(hr:r=decide (xs=ys)) :
  Calls Tryz.prog 42 #[.slice A xs.length c,.slice A' ys.length c'] w (Stp (.bool r) w):=by
 have HR:=oH hr;clear hr;by_cases hne:xs.length=ys.length
 .obtain⟨n,hn⟩:∃ n,n=ys.length:=⟨_,rfl⟩
  rw[hne,<- hn];have HN1:Hid (xs.length=n):=oH (by omega);have HN2:Hid (ys.length=n):=oH (by omega);have hl2:n<=1048576:=by omega
  clear hl hl' hne hn;go_enter Tryz.func42,Tryz.ntmps42
  go_wp2_with fail;go_loopw [5] (fun i wr=>∃ k:Nat,k<=n/\i=.int .i64 k/\Hid (xs.take k=ys.take k)/\(∃ m,wr=w.drewN m)) (fun i _=>n - (intOf i).toNat)
  case atStart=>exact⟨0,oZ,rfl,oH rfl,0,rfl⟩
  obtain⟨k,hk,rfl,HT,m,rfl⟩:=hrel;by_cases hlt:k<n
  .obtain⟨b,off,x,rfl, -,hx,hc⟩:=h.rs.int (k:=k) (by rw[HN1.out];exact hlt)
   obtain⟨b',off',x',rfl, -,hx',hc'⟩:=h'.rs.int (k:=k) (by rw[HN2.out];exact hlt);have HX:=oH hx;have HX':=oH hx';clear hx hx';go_wp2_with fail;go_quiet (fail)
   by_cases hxx:x=x'
   .subst hxx
    go_wp2_with fail;go_roundw
    case rel=>exact⟨k+1,by omega,by go_num,oH (by rw[aBv xs HX.out,aBv ys HX'.out,HT.out]),_,rfl⟩
    simp[intOf];omega
   go_wp2_with fail;go_ret;have hrf:r=false:=by
    rw[HR.out];refine decide_eq_false fun e=>hxx ?_;have e1:=HX.out;rw[e,HX'.out] at e1;exact(Option.some.inj e1).symm
   rw[hrf];exact⟨rfl,((Mid.refl 0 0 w).drewN _).drewN _⟩
  go_wp2_with fail;go_ret;have hkn:k=n:=by omega
  have e1:=HT.out;rw[hkn,List.take_of_length_le (by rw[HN1.out];exact oN),List.take_of_length_le (by rw[HN2.out];exact oN)] at e1;have hrt:r=true:=by rw[HR.out];exact decide_eq_true e1
  rw[hrt];exact⟨rfl,(Mid.refl 0 0 w).drewN _⟩
 have hrf:r=false:=by
  rw[HR.out];exact decide_eq_false fun e=>hne (by rw[e])
 rw[hrf];go_enter Tryz.func42,Tryz.ntmps42
 go_wp2_with fail;go_ret;exact⟨rfl,Mid.refl 0 0 w⟩
theorem aOS{xs:List Int}{n k:Nat}(h:xs.length=n)(hk:k<n):(xs.take k++xs.drop (k+1)).length+1=n:=by
 rw[List.length_append,List.length_take,List.length_drop];omega
theorem aOT{xs:List Int}{k:Nat}{x:Int}(h:x∈xs.take k++xs.drop (k+1)):x∈xs:=by
 rcases List.mem_append.1 h with h|h
 .exact List.mem_of_mem_take h
 exact List.mem_of_mem_drop h
theorem aPd(xs:List Int)(k:Nat):(aAd xs).take k=aAd (xs.take k):=by simp[aAd]
theorem aQu(xs:List Int)(k:Nat):(aAd xs).drop k=aAd (xs.drop k):=by simp[aAd]
theorem aGI(p:Nat)(A:Option Addr)(bs:List Int)(c:Nat)(w:World)(hb:OkB bs)(hl:bs.length<=1048576)(h:Cur w p A bs c) :
  Calls Tryz.prog 194 #[.pointer (some ⟨p,0,none⟩)] w fun e w'=>∃ r s A' c' es,e=.returned (aAw r s A' (List.length es) c')/\DrG r s es/\OG w' w.heap.size w'.heap.size A' c' es/\Cur w' p A bs c/\Mid p (p+1) w w':=by
 have hpw:=h.lt;have hal:=Mid.alloc w (.cells #[.int .i64 0,.int .i64 0,.slice none 0 0] 35);have B2:=Box.new w #[.int .i64 0,.int .i64 0,.slice none 0 0] 35;have h0:=h.mid hal (Or.inr rfl);go_enter Tryz.func194,Tryz.ntmps194
 have hal2:=Mid.alloc (w.alloc (.cells #[.int .i64 0,.int .i64 0,.slice none 0 0] 35)) (.cells #[.int .i64 1,.int .i64 2,.int .i64 2,.int .i64 2,.int .i64 3] 3);have hbx:=Box.new (w.alloc (.cells #[.int .i64 0,.int .i64 0,.slice none 0 0] 35)) #[.int .i64 1,.int .i64 2,.int .i64 2,.int .i64 2,.int .i64 3] 3;rw[World.size_alloc] at hbx;replace B2:=B2.mid hal2 oZr;replace h0:=h0.mid hal2 (Or.inr rfl);have hm0:=hal.trans hal2;go_wp2_with fail;generalize (w.alloc (.cells #[.int .i64 0,.int .i64 0,.slice none 0 0] 35)).alloc (.cells #[.int .i64 1,.int .i64 2,.int .i64 2,.int .i64 2,.int .i64 3] 3)=w1 at hbx B2 h0 hm0 |-;have hs1:w.heap.size+1<w1.heap.size:=hbx.1;have hri:RI w1 (w.heap.size+1) (w.heap.size+1+1) (some ⟨w.heap.size+1,0,none⟩) [1,2,2,2,3]:=
  ⟨hs1,fun _=>⟨w.heap.size+1,0,rfl,oN,oS,fun j u hu=>by rw[Nat.zero_add];exact hbx.2.1 j u (by simpa [aAd] using hu)⟩⟩
 with_reducible refine(aDj (some ⟨w.heap.size+1,0,none⟩) [1,2,2,2,3] 5 5 rfl (by decide) (by decide) p A bs c _ (w.heap.size+1) _ hri (Or.inl (by omega)) hb hl h0).mono ?_
 rintro e w2 ⟨r,rfl,hrm,h2,m2⟩;have hr:1<=r/\r<=3:=by simp at hrm;omega
 have B2b:=B2.mid m2 (Or.inr (by omega));have hm2:=hm0.zero.trans m2;clear hri hbx hrm h0 B2 hm0 hal hal2 m2;go_wp2_with fail;with_reducible refine(aBg 5 (by decide) (by decide) p A bs c _ hb hl h2).mono ?_
 rintro e w3 ⟨k,rfl,hk,h3,m3⟩;have B2c:=B2b.mid m3 (Or.inr (by omega));have hm3:=hm2.trans m3;have hs3:=hm3.size;have ek:IntKind.i64.wrap (1+(k:Int))=1+(k:Int):=IntWalk.i64_in _ (by omega);clear h2 B2b hm2 m3;have hal3:=Mid.alloc w3 (.cells #[.int .i64 r,.int .i64 (1+(k:Int)),.slice none 0 0] 35);have G0:=Box.new w3 #[.int .i64 r,.int .i64 (1+(k:Int)),.slice none 0 0] 35;have B2d:=B2c.mid hal3 oZr;have h4:=h3.mid hal3 (Or.inr rfl);have hm4:=hm3.trans hal3.zero;have hgw0:w.heap.size<w3.heap.size:=B2c.1;go_wp2_with fail;obtain⟨gb,hgb⟩:∃ g,w3.heap.size=g:=⟨_,rfl⟩
 have hgw:w.heap.size<gb:=by omega
 obtain⟨rn,hrn⟩:=Int.eq_ofNat_of_zero_le (by omega:0<=r);obtain⟨n,hn⟩:∃ n:Nat,1+(k:Int)=n:=⟨1+k,by omega⟩
 rw[hn,hgb,hrn] at G0 |-;rw[hn,hrn] at B2d h4 hm4;generalize w3.alloc (.cells #[.int .i64 (rn:Int),.int .i64 (n:Int),.slice none 0 0] 35)=w4 at G0 B2d h4 hm4 |-;have hrn3:1<=(rn:Int)/\(rn:Int)<=3:=by omega
 have hn5:1<=(n:Int)/\(n:Int)<=5:=by omega
 have hg4:gb<w4.heap.size:=G0.1;clear h3 B2c hal3 hm3 ek hn hrn hk hr hgb hgw0;have hog:OG w4 (gb+1) w4.heap.size none 0 []:=OG.nil;go_loopw [6] (fun xv wr=>∃(x:Nat) (es:List Ed) (Ae:Option Addr) (ce L:Nat),xv=.int .i64 ((x:Int)+1)/\x<=rn/\Hid (es.length=L)/\L<=5 * x/\Hid (IsGr rn n es)/\Box wr gb [.int .i64 rn,.int .i64 n,.slice Ae L ce]/\OG wr (gb+1) wr.heap.size Ae ce es/\Box wr w.heap.size [.int .i64 0,.int .i64 0,.slice none 0 0]/\Cur wr p A bs c/\Mid p (p+1) w wr)
  (fun xv _=>rn+1 - (intOf xv).toNat)
 case atStart=>exact⟨0,[],none,0,0,by go_num,oZ,oH rfl,by omega,oH ⟨hrn3,by omega,by simp,by simp,List.Pairwise.nil⟩,G0,hog,B2d,h4,hm4⟩
 obtain⟨x,es,Ae,ce,L,rfl,hxr,HL,hLm,HG,hG,hO,hB,hC,hM⟩:=hrel;clear G0 hog B2d h4 hm4 hg4;have hgr:gb<wr.heap.size:=hG.1;obtain⟨g0,g1,g2⟩:=hG.c3 rfl;by_cases hlt:x<rn
 .have hle:(x:Int)+1<=(rn:Int):=by omega
  have hal5:=Mid.alloc wr (.cells #[] 3);have ho5:=aAi wr 3 1;have hsz5:=hal5.size;obtain⟨bb,hbb⟩:∃ g,wr.heap.size=g:=⟨_,rfl⟩
  rw[hbb] at ho5 hgr hsz5;clear g0 g1 g2;go_wp2_with fail;have hG5:=hG.mid hal5 oZr;have hO5:=hO.mid hal5 oZl;have hB5:=hB.mid hal5 oZr;have hC5:=hC.mid hal5 (Or.inr rfl);have hM5:=hM.trans hal5.zero;rw[hbb] at hO5;clear hO hB hC hM hG hal5;generalize wr.alloc (.cells #[] 3)=w5 at hsz5 ho5 hG5 hO5 hB5 hC5 hM5 |-;clear hbb;go_loopw [7,8] (fun lv vv wq=>∃(v:Nat) (left:List Int) (Al:Option Addr) (cl:Nat),vv=.int .i64 v/\v<=n/\lv=.slice Al v cl/\Hid (left.length=v)/\Hid (∀ y∈left,0<=y/\y<n)/\wq.ownsRow bb 3 1 (.slice Al v cl) v (aAd left)/\Box wq gb [.int .i64 rn,.int .i64 n,.slice Ae L ce]/\OG wq (gb+1) bb Ae ce es/\Box wq w.heap.size [.int .i64 0,.int .i64 0,.slice none 0 0]/\Cur wq p A bs c/\Mid p (p+1) w wq/\bb<=wq.heap.size)
   (fun _ vv _=>n - (intOf vv).toNat)
  case atStart=>exact⟨0,[],_,_,by go_num,oZ,rfl,oH rfl,oH (by simp),ho5,hG5,hO5,hB5,hC5,hM5,hsz5⟩
  obtain⟨v,left,Al,cl,rfl,hvn,rfl,HLL,HLB,hol,hG6,hO6,hB6,hC6,hM6,hsq⟩:=hrel;clear ho5 hG5 hO5 hB5 hC5 hM5 hsz5;by_cases hv:v<n
  .have hv2:(v:Int)<(n:Int):=by omega
   go_wp2_with (at_builtin;refine aAr rfl _ _ 44 rfl bb 3 (.int .i64 0) 1 8 aBZ aCg rfl (by decide) _ _ _ rfl hol 1 [.int .i64 (v:Int)] rfl rfl ?c1 ?c2 ?c3 hsq ?next)
   case c1=>exact aAu [(v:Int)]
   case c2=>unfold maxLen;omega
   case c3=>omega
   case next=>
    intro v3 w3 hol3 hgr3 hat3;have m3:Mid bb wr.heap.size wr w3:=Mid.of_grownRow hol hgr3;have hG7:=hG6.mid m3 (Or.inl (by omega));have hO7:=hO6.mid m3 (Or.inr oN);have hB7:=hB6.mid m3 (Or.inl (by omega));have hC7:=hC6.mid m3 (Or.inl (by omega));have hM7:=hM6.transNew m3 (Or.inl (by omega));have hs7:=m3.size;obtain⟨A3,c3,rfl, -, -⟩:=aAg hol3;clear hol hgr3 hat3 m3 hG6 hO6 hB6 hC6 hM6;go_wp2_with fail;go_roundw
    case rel=>
     refine⟨v+1,left++[(v:Int)],A3,c3,by go_num,by omega,rfl,oH (by rw[List.length_append,HLL.out];rfl),oH fun y hy=>?_,by rw[aAj];exact hol3,hG7,hO7,hB7,hC7,hM7,by omega⟩;rcases List.mem_append.1 hy with hy|hy
     .exact HLB.out y hy
     rw[List.mem_singleton] at hy;omega
    simp[intOf];omega
  obtain rfl:v=n:=by omega
  go_wp2_with fail;have hO8:=hO6.wide oN (hi':=wr.heap.size) hsq oN;have hol8:=aAp hol (show gb+1<=bb by omega);clear hol hO6;go_loopw [7,9] (fun lv vv wq=>∃(u:Nat) (left:List Int) (Al:Option Addr) (cl Lf:Nat) (es:List Ed) (Ae:Option Addr) (ce L:Nat),vv=.int .i64 u/\u+Lf=v/\lv=.slice Al Lf cl/\Hid (left.length=Lf)/\Hid (∀ y∈left,0<=y/\y<v)/\wq.ownsRow (gb+1) 3 1 (.slice Al Lf cl) Lf (aAd left)/\Hid (es.length=L)/\L<=5 * x+u/\Hid (IsGr rn v es)/\Box wq gb [.int .i64 rn,.int .i64 v,.slice Ae L ce]/\OG wq (gb+1) wq.heap.size Ae ce es/\Box wq w.heap.size [.int .i64 0,.int .i64 0,.slice none 0 0]/\Cur wq p A bs c/\Mid p (p+1) w wq)
   (fun _ vv _=>v - (intOf vv).toNat)
  case atStart=>exact⟨0,left,Al,cl,v,es,Ae,ce,L,by go_num,by omega,rfl,HLL,HLB,hol8,HL,by omega,HG,hG6,hO8,hB6,hC6,hM6⟩
  clear hol8 hO8 HLL HLB HL HG hG6 hB6 hC6 hM6 hLm hsq;obtain⟨u,left,Al,cl,Lf,es,Ae,ce,L,rfl,huv,rfl,HLL,HLB,hol,HL,hLm,HG,hG,hO,hB,hC,hM⟩:=hrel;by_cases hlt:u<v
  .have hlt2:(u:Int)<(v:Int):=by omega
   have hLf:0<Lf:=by omega
   go_wp2_with fail;with_reducible refine(aCh Lf hLf (by omega) p A bs c _ hb hl hC).mono ?_
   rintro e w2 ⟨k,rfl,hk,hC2,m2⟩;have hol2:=aAc hol m2 (Or.inl (by omega));have hG2:=hG.mid m2 (Or.inr (by omega));have hO2:=(hO.mid m2 (Or.inl (by omega))).wide oN m2.size oN;have hB2:=hB.mid m2 (Or.inr (by omega));have hM2:=hM.trans m2;clear hol hG hO hB hC hM m2;have hmd:=Mid.drew1 w2;replace hol2:=aAc hol2 hmd oZl;replace hO2:=hO2.mid hmd oZl;replace hG2:=hG2.mid hmd oZr;replace hB2:=hB2.mid hmd oZr;replace hC2:=hC2.mid hmd (Or.inr rfl);replace hM2:=hM2.trans hmd.zero;replace hO2:OG w2.drew (gb+1) w2.drew.heap.size Ae ce es:=hO2;clear hmd;obtain⟨b,off,y,hAl,hBx,hy,hcx⟩:=(Rs.of_own hol2).int (k:=k) (by have:=HLL.out;omega);subst hAl;have hyb:=HLB.out y (List.mem_of_getElem? hy);clear hy;have g2:=hG2.cell 2 rfl;go_wp2_with fail;refine aAl (S:=(fun w'=>w'.cell? ⟨gb,2,none⟩=some (.slice Ae L ce)/\w'.cell? ⟨b,off+k,none⟩=some (.int .i64 y))) [11] (by kernel_rfl) ⟨g2,hcx⟩ ?_;generalize World.drew w2=wz at hol2 hG2 hO2 hB2 hC2 hM2 g2 hcx hBx |-;have hS:=And.intro g2 hcx;refine tkZ [11] 0 rfl hS ?_;try simp only[oP]
   refine tkZ [11] 1 rfl hS ?_;try simp only[oP]
   refine tkZ [11] 2 rfl hS ?_;try simp only[oP]
   refine tkZ [11] 3 rfl hS ?_;try simp only[oP]
   refine tkZ [11] 4 rfl hS ?_;try simp only[oP]
   refine tkZ [11] 5 rfl hS ?_;try simp only[oP]
   refine tkZ [11] 6 rfl hS ?_;try simp only[oP]
   refine tkZ [11] 7 rfl hS ?_;try simp only[oP]
   refine tkZ [11] 8 rfl hS ?_;try simp only[oP]
   have hP:=aBW Ae es ce ⟨(u:Int),(x:Int)+1,y⟩ wz _ _ hO2.rg (by rw[HL.out];omega);have hin:InG rn v ⟨(u:Int),(x:Int)+1,y⟩:=by simp only[InG];omega
   have hgP:=aJc HG.out hin (by rw[HL.out];omega);have hPl:=aDf ⟨(u:Int),(x:Int)+1,y⟩ es;obtain⟨P,hPe⟩:∃ P,aCy ⟨(u:Int),(x:Int)+1,y⟩ es=P:=⟨_,rfl⟩
   rw[hPe,HL.out] at hP hPl;rw[hPe] at hgP;obtain⟨L2,hL2⟩:∃ l,P.length=l:=⟨_,rfl⟩
   rw[hL2] at hP hPl;have HGP:=oH hgP;have HL2:=oH hL2;have hL3:L2<=5 * x+(u+1):=by omega
   have HP:Hid (Calls Tryz.prog 138 #[.slice Ae L ce,.agg #[.int .i64 (u:Int),.int .i64 ((x:Int)+1),.int .i64 y]] wz fun en w'=>∃ A' c',en=.returned (.slice A' L2 c')/\OG w' wz.heap.size w'.heap.size A' c' P/\Mid 0 0 wz w'):=oH hP;clear hP hin hgP hPl hPe hL2 hS;refine rdZ 9 rfl (fun K hK=>?_)
   (go_simp;(with_reducible refine(HP.out).mono ?_);rintro en wp ⟨A9,c9,rfl,oP,mP⟩;have hG9:=hG2.mid mP oZr;have hcx9:=aAa mP hBx oZr hcx;go_wp2_with fail)
   refine hK.out _ _ (Or.inr ⟨hG9.cell 2 rfl,hcx9⟩) (fun _=>?_);clear hK K;try simp only[oP]
   have hS9:=And.intro (hG9.cell 2 rfl) hcx9;refine tkZ [11] 10 rfl hS9 ?_;try simp only[oP]
   have hol9:=aAc hol2 mP oZl;have hB9:=hB2.mid mP oZr;have hC9:=hC2.mid mP (Or.inr rfl);have hM9:=hM2.trans mP.zero;have hzP:=mP.size;have hgz:=hG2.1;clear hol2 hG2 hO2 hB2 hC2 hM2 g2 hcx mP hcx9 hS9 HP hBx;have gl:=hG9.1;have gf:=hG9.2.2;have g2:=hG9.cell 2 rfl;have hst:=Mid.setCell wp (lo:=gb) (hi:=gb+1) (p:=⟨gb,2,none⟩) (.slice A9 L2 c9) oN oS;have hG10:=hG9.set 2 (.slice A9 L2 c9) (by simp) rfl;simp only[List.set_cons_succ,List.set_cons_zero] at hG10;have hol10:=aAc hol9 hst (Or.inl oN);have hO10:=(oP.mid hst (Or.inl (by omega))).wide (lo':=gb+1) (by omega) hst.size oN;have hB10:=hB9.mid hst (Or.inl (by omega));have hC10:=hC9.mid hst (Or.inl (by omega));have hM10:=hM9.transNew hst (Or.inl (by omega));clear hst hol9 hB9 hC9 hM9 oP hG9;refine rdZ 11 rfl (fun K hK=>?_);go_simp;refine hK.out _ _ (Or.inl (by simp)) (fun _=>?_);clear hK K;try simp only[oP]
   refine aAh (by kernel_rfl) ?_ _;generalize wp.setCell ⟨gb,2,none⟩ (.slice A9 L2 c9)=w11 at hG10 hol10 hO10 hB10 hC10 hM10 |-;clear gl gf g2 hzP hgz;have hcl:Lf<=cl:=by
    obtain⟨A',c',hv,h1,h2⟩:=aAg hol10;injection hv with _ _ hc
    omega
   have hrs:=Rs.of_own hol10;have hmd:=Mid.drew1 w11;replace hG10:=hG10.mid hmd oZr;replace hB10:=hB10.mid hmd oZr;replace hO10:OG w11.drew (gb+1) w11.drew.heap.size A9 c9 P:=hO10.mid hmd oZl;replace hC10:=hC10.mid hmd (Or.inr rfl);replace hM10:=hM10.trans hmd.zero;replace hrs:Rs w11.drew w11.drew.heap.size (some ⟨b,off,none⟩) (aAd left):=hrs;clear hmd hol10;go_wp2_with fail;refine aAl (S:=(fun _=>True)) [] (by kernel_rfl) trivial ?_;generalize World.drew w11=wz at hG10 hO10 hB10 hC10 hM10 hrs |-;have hgz:gb+1<=wz.heap.size:=hG10.1;have hkc:k<=cl:=by omega
   have hkL:k+1<=Lf:=by omega
   have ek1:IntKind.i64.wrap ((k:Int)+1)=(k:Int)+1:=IntWalk.i64_in _ (by omega);have ek2:(0:Int)<=(k:Int)+1:=by omega
   have ek3:((k:Int)+1).toNat=k+1:=by omega
   have ek4:(k:Int)+1<=(Lf:Int):=by omega
   have hlt1:(aAd (left.take k)).length=k * 1:=by have:=HLL.out;rw[aAG,List.length_take];omega
   have hlt2:(aAd (left.drop (k+1))).length=(Lf - (k+1)) * 1:=by have:=HLL.out;rw[aAG,List.length_drop];omega
   have hrs1:Rs wz wz.heap.size (some ⟨b,off,none⟩) (aAd (left.take k)):=by rw[<- aPd];exact hrs.take k
   have hrs2:Rs wz wz.heap.size (if cl=k+1 then some ⟨b,off,none⟩ else some ⟨b,off+(k+1),none⟩) (aAd (left.drop (k+1))):=by
    have:=hrs.drop (k:=k+1) (n:=Lf) (cap:=cl) 1 (by have:=HLL.out;rw[aAG];omega) hcl;rw[Nat.mul_one,aQu] at this;have e:Option.map (fun x:Addr=>x.add (k+1)) (some (⟨b,off,none⟩:Addr))=some ⟨b,off+(k+1),none⟩:=rfl;rw[e] at this;exact this
   have hmx:0+k<=maxLen:=by unfold maxLen;omega
   have hby:(0+k) * 8<=140737488355328:=by omega
   have hmx2:k+(Lf - (k+1))<=maxLen:=by unfold maxLen;omega
   have hby2:(k+(Lf - (k+1))) * 8<=140737488355328:=by omega
   clear hrs;refine tkZ [] 1 rfl trivial ?_;try simp only[oP]
   refine tkZ [] 2 rfl trivial ?_;try simp only[oP]
   refine tkZ [] 3 rfl trivial ?_;try simp only[oP]
   refine tkZ [] 5 rfl trivial ?_;try simp only[oP]
   refine tkZ [] 6 rfl trivial ?_;try simp only[oP]
   refine tkZ [] 7 rfl trivial ?_;try simp only[oP]
   refine tkZ [] 8 rfl trivial ?_;try simp only[oP]
   refine rdZ 0 rfl (fun K hK=>?_);go_simp;refine hK.out _ _ (Or.inr trivial) (fun _=>?_);clear hK K;try simp only[oP]
   have hal:=Mid.alloc wz (.cells #[] 3);have e0:=aAi wz 3 1;have hrs1a:=hrs1.alloc oN (.cells #[] 3);have hrs2a:=hrs2.alloc oN (.cells #[] 3);have hsa:(wz.alloc (.cells #[] 3)).heap.size=wz.heap.size+1:=by simp
   generalize wz.alloc (.cells #[] 3)=wa at hal e0 hrs1a hrs2a hsa |-;have hsa2:wz.heap.size<=wa.heap.size:=by omega
   refine rdZ 4 rfl (fun K hK=>?_)
   (refine aBh (by rfl) (.tmp 55) (.tmp 58) 44 (by rfl) wz.heap.size 3 (.int .i64 0) 1 8 aBZ aCg rfl (by decide) _ 0 [] (by rfl) e0 (some ⟨b,off,none⟩) k cl _ (aAd (left.take k)) (by rfl) hrs1a hlt1 (aAu _) hmx hby hsa2 ?_;intro v4 w4 ho4 hgr4 hat4;obtain⟨A4,c4,rfl, -, -⟩:=aAg ho4)
   refine hK.out _ _ (Or.inr trivial) (fun _=>?_);clear hK K;try simp only[oP]
   have m4:Mid wz.heap.size wa.heap.size wa w4:=Mid.of_grownRow e0 hgr4;have hm4:Mid 0 0 wz w4:=hal.transNew m4 (Or.inl oN);have hrs2b:Rs w4 wz.heap.size _ (aAd (left.drop (k+1))):=hrs2a.keep fun q hq=>World.cell?_of_block (m4.block _ (by omega) (by omega));rw[Nat.zero_add,List.nil_append] at ho4;try rw[Nat.zero_add]
   clear hgr4 hat4 e0 hrs1a hrs2a hrs1 hrs2 hal m4;refine rdZ 9 rfl (fun K hK=>?_)
   (refine aBh (by rfl) (.tmp 59) (.tmp 63) 44 (by rfl) wz.heap.size 3 (.int .i64 0) 1 8 aBZ aCg rfl (by decide) (.slice A4 k c4) k _ (by rfl) ho4 _ (Lf - (k+1)) _ _ (aAd (left.drop (k+1))) (by rfl) hrs2b hlt2 (aAu _) hmx2 hby2 hm4.size ?_;intro v9 w9 ho9 hgr9 hat9;obtain⟨A19,c19,rfl, -, -⟩:=aAg ho9)
   refine hK.out _ _ (Or.inr trivial) (fun _=>?_);clear hK K;try simp only[oP]
   have m9:Mid wz.heap.size w4.heap.size w4 w9:=Mid.of_grownRow ho4 hgr9;have hm9:Mid 0 0 wz w9:=hm4.transNew m9 (Or.inl oN);clear hgr9 hat9 hrs2b ho4 m9 hm4;refine tkZ [] 10 rfl trivial ?_;try simp only[oP]
   refine aAh (by kernel_rfl) ?_ _;have hbl9:=ho9;go_wp2_with fail;go_roundw
   case rel=>
    have hle:=HLL.out;have hdl:=aOS hle hk;refine⟨u+1,left.take k++left.drop (k+1),A19,c19,k+(Lf - (k+1)),P,A9,c9,L2,by go_num,by omega,rfl,oH (by omega),oH fun y hy=>HLB.out y (aOT hy),?_,HL2,by omega,HGP,hG10.mid hm9 oZr,(hO10.mid hm9 oZl).wide oN hm9.size oN,hB10.mid hm9 oZr,hC10.mid hm9 (Or.inr rfl),hM10.trans hm9.zero⟩;rw[aAj];exact aAp ho9 hgz
   simp[intOf];omega
  obtain rfl:u=v:=by omega
  go_wp2_with fail;go_roundw
  case rel=>exact⟨x+1,es,Ae,ce,L,by go_num,by omega,HL,by omega,HG,hG,hO,hB,hC,hM⟩
  simp[intOf];omega
 have hle:¬ ((x:Int)+1<=(rn:Int)):=by omega
 have hF:=aCO rn n Ae es ce wr _ _ hO.rg HG.out;have hD:=DrG.of_gr (aDb (r:=(rn:Int)) (g:=((n:Int),es)) HG.out);obtain⟨fs,hfs⟩:∃ y,(coreA (rn:Int) ((n:Int),es)).1=y:=⟨_,rfl⟩
 obtain⟨fe,hfe⟩:∃ y,(coreA (rn:Int) ((n:Int),es)).2=y:=⟨_,rfl⟩
 rw[hfs,hfe] at hF hD;obtain⟨L2,hL2⟩:∃ l,fe.length=l:=⟨_,rfl⟩
 rw[hL2,HL.out] at hF;have HL2:=oH hL2;have HD:=oH hD;have HF:Hid (Calls Tryz.prog 104 #[.agg #[.int .i64 rn,.int .i64 n,.slice Ae L ce]] wr fun e w'=>∃ A1 c1,e=.returned (.agg #[.int .i64 rn,.int .i64 fs,.slice A1 L2 c1])/\OG w' wr.heap.size w'.heap.size A1 c1 fe/\Mid 0 0 wr w'):=oH hF;clear hF hD hfs hfe hL2;go_wp2_with fail;with_reducible refine(HF.out).mono ?_
 rintro e w9 ⟨A1,c1,rfl,hO9,m9⟩;have B2:=hB.mid m9 oZr;have hC9:=hC.mid m9 (Or.inr rfl);have hM9:=hM.trans m9.zero;have hs9:=m9.size;clear hB hC hM hO hG m9 HF g0 g1 g2;obtain⟨q0,q1,q2⟩:=B2.c3 rfl;have qf:=B2.2.2;have ql:=B2.1;have hst:=Mid.s3 w9 w.heap.size (.int .i64 (rn:Int)) (.int .i64 fs) (.slice A1 L2 c1);have O9:=oH ((hO9.mid hst (Or.inl (by omega))).wide (lo':=w.heap.size) (by omega) (Nat.le_trans hO9.size hst.size) oN);have C9:=oH (hC9.mid hst (Or.inl hpw));have M9:=oH (hM9.transNew hst (Or.inl oN));clear hst hO9 hC9 hM9;go_wp2_with fail;refine bodyPost_ret (v:=.agg #[.int .i64 (rn:Int),.int .i64 fs,.slice A1 L2 c1]) (by simp[results,Tryz.results194,go_sem,q0,q1,q2,qf]) rfl ⟨(rn:Int),fs,A1,c1,fe,?_,HD.out,O9.out,C9.out,M9.out⟩;rw[HL2.out]
theorem aPe(p:Nat)(A:Option Addr)(bs:List Int)(c:Nat)(w:World)(hb:OkB bs)(hl:bs.length<=1048576)(h:Cur w p A bs c) :
  Calls Tryz.prog 142 #[.pointer (some ⟨p,0,none⟩)] w fun e w'=>∃ r s A' c' es,e=.returned (aAw r s A' (List.length es) c')/\DrG r s es/\OG w' w.heap.size w'.heap.size A' c' es/\Cur w' p A bs c/\Mid p (p+1) w w':=by
 have hpw:=h.lt;have hal:=Mid.alloc w (.cells #[.int .i64 0,.int .i64 0,.slice none 0 0] 35);have B2:=Box.new w #[.int .i64 0,.int .i64 0,.slice none 0 0] 35;have h0:=h.mid hal (Or.inr rfl);go_enter Tryz.func142,Tryz.ntmps142
 go_wp2_with fail;generalize (w.alloc (.cells #[.int .i64 0,.int .i64 0,.slice none 0 0] 35))=w1 at B2 h0 hal |-;have hs1:w.heap.size<w1.heap.size:=B2.1;with_reducible refine(aKI 2 (by decide) (by decide) p A bs c _ hb hl h0).mono ?_
 rintro e w2 ⟨q,rfl,h2,m2⟩;have hs2:=m2.size;replace B2:=B2.mid m2 (Or.inr (by omega));replace hal:=hal.zero.trans m2;clear h0 m2;cases q
 focus
  go_wp2_with fail;with_reducible refine(aQx p A bs c _ hb hl h2).mono ?_
 rotate_left
 focus
  go_wp2_with fail;with_reducible refine(aGI p A bs c _ hb hl h2).mono ?_
 rotate_left
 all_goals
  rintro e w3 ⟨r,s,Ae,ce,es,rfl,hg,hO,hC,m3⟩;have hs3:=m3.size;replace B2:=B2.mid m3 (Or.inr (by omega));have hM:=hal.trans m3;have HG:=oH hg;obtain⟨L,hL⟩:∃ l,es.length=l:=⟨_,rfl⟩
  have HL:=oH hL;rw[hL];clear hg hL hal h2 m3;obtain⟨q0,q1,q2⟩:=B2.c3 rfl;have qf:=B2.2.2;have ql:=B2.1;have hst:=Mid.s3 w3 w.heap.size (.int .i64 r) (.int .i64 s) (.slice Ae L ce);have O9:=oH ((hO.mid hst (Or.inl (by omega))).wide (lo':=w.heap.size) (by omega) (Nat.le_trans hO.size hst.size) oN);have C9:=oH (hC.mid hst (Or.inl hpw));have M9:=oH (hM.transNew hst (Or.inl oN));clear hst hO hC hM;go_wp2_with fail;refine bodyPost_ret (v:=.agg #[.int .i64 r,.int .i64 s,.slice Ae L ce]) (by simp[results,Tryz.results142,go_sem,q0,q1,q2,qf]) rfl ⟨r,s,Ae,ce,es,?_,HG.out,O9.out,C9.out,M9.out⟩;rw[HL.out]
section
open Go.RowKit
section
variable {w w' W W':World} {lo a b:Nat} {A A':Option Addr} {n c c':Nat} {rows:List Row} {r:Row}
variable {ops:Array Oper} {rest:List Oper} {o:Oper} {ac:Act} {Q:Exit->Act->World->Prop}
theorem aMD(hgd:o.guard=none)(s x:Operand)(ho:o.op=.call { callee:=.builtin .append,args:=#[s,x],argTypes:=#[24,24] })(hs:ac.eval s=.slice A n c)(h:Own1 W lo A n c rows)(r:Row)(u:Value)(hu:r.v=u)(lo2 hi2:Nat)(hrow:RV W lo2 hi2 r.A (aAd r.xs))(hx:ac.eval x=.slice (some ⟨W.heap.size,0,none⟩) 1 1)(hn:n<=1048576)(hb:lo<=W.heap.size)(h2:hi2<=lo)(hk:∀ A' c' w',RSS w' 0 w'.heap.size A' (aBe (rows++[r]))->Mid lo W.heap.size W w'->wpList Tryz.prog ops Q rest (ac.put o.dst (.slice A' (n+1) c')) w') :
  wpList Tryz.prog ops Q (o::rest) ac (W.alloc (.cells #[u] 44)):=by
 subst hu;refine aAr (news:=[r.v]) hgd s x 24 ho lo 44 (.slice none 0 0) 1 24 aKj aJQ rfl (by decide) (.slice A n c) n (aDV rows) hs h.out 1 hx rfl ?_ (by unfold maxLen;omega) (by omega) (by omega) ?_
 .intro u hu
  simp at hu;subst hu
  rfl
 intro v' w' h1 hg h3;obtain⟨A',c',rfl, -, -⟩:=aAg h1;have hm:Mid lo W.heap.size W w':=Mid.of_grownRow h.out hg;refine hk A' c' w' ⟨rows++[r],rfl,?_,fun r' hr'=>?_⟩ hm
 .rw[aFm]
  exact(aAy h1).wide oZ oN oN
 rcases List.mem_append.1 hr' with hr'|hr'
 .exact(OV.rv ((h.rows.grown h.out (by decide) hg).1 r' hr')).wide oZ hg.size oN
 simp at hr';subst hr';exact(hrow.mid hm (Or.inr h2)).wide oZ (Nat.le_trans hrow.1 hm.size) oN
end
theorem aLU(p:Nat)(A:Option Addr)(bs:List Int)(c:Nat)(w:World)(hb:OkB bs)(hl:bs.length<=1048576)(h:Cur w p A bs c) :
  Calls Tryz.prog 132 #[.pointer (some ⟨p,0,none⟩)] w fun e w'=>∃ r s A1 c1 es r2 s2 A2 c2 es2,e=.returned (.tuple #[aAw r s A1 (List.length es) c1,aAw r2 s2 A2 (List.length es2) c2])/\DrG r s es/\DrG r2 s2 es2/\OG w' w.heap.size w'.heap.size A1 c1 es/\OG w' w.heap.size w'.heap.size A2 c2 es2/\Cur w' p A bs c/\Mid p (p+1) w w':=by
 have hpw:=h.lt;have hal:=Mid.alloc w (.cells #[.int .i64 0,.int .i64 0,.slice none 0 0] 35);have B2:=Box.new w #[.int .i64 0,.int .i64 0,.slice none 0 0] 35;have hal2:=Mid.alloc (w.alloc (.cells #[.int .i64 0,.int .i64 0,.slice none 0 0] 35)) (.cells #[.int .i64 0,.int .i64 0,.slice none 0 0] 35);have B3:=Box.new (w.alloc (.cells #[.int .i64 0,.int .i64 0,.slice none 0 0] 35)) #[.int .i64 0,.int .i64 0,.slice none 0 0] 35;rw[World.size_alloc] at B3;replace B2:=B2.mid hal2 oZr;have h0:=(h.mid hal (Or.inr rfl)).mid hal2 (Or.inr rfl);have hm0:=hal.trans hal2;go_enter Tryz.func132,Tryz.ntmps132
 have hal3:=Mid.alloc ((w.alloc (.cells #[.int .i64 0,.int .i64 0,.slice none 0 0] 35)).alloc (.cells #[.int .i64 0,.int .i64 0,.slice none 0 0] 35)) (.cells #[.int .i64 1,.int .i64 2,.int .i64 2,.int .i64 2,.int .i64 2,.int .i64 3] 3);have hbx:=Box.new ((w.alloc (.cells #[.int .i64 0,.int .i64 0,.slice none 0 0] 35)).alloc (.cells #[.int .i64 0,.int .i64 0,.slice none 0 0] 35)) #[.int .i64 1,.int .i64 2,.int .i64 2,.int .i64 2,.int .i64 2,.int .i64 3] 3;rw[World.size_alloc,World.size_alloc] at hbx;replace B2:=B2.mid hal3 oZr;replace B3:=B3.mid hal3 oZr;replace h0:=h0.mid hal3 (Or.inr rfl);replace hm0:=hm0.trans hal3;go_wp2_with fail;generalize ((w.alloc (.cells #[.int .i64 0,.int .i64 0,.slice none 0 0] 35)).alloc (.cells #[.int .i64 0,.int .i64 0,.slice none 0 0] 35)).alloc (.cells #[.int .i64 1,.int .i64 2,.int .i64 2,.int .i64 2,.int .i64 2,.int .i64 3] 3)=w1 at hbx B2 B3 h0 hm0 |-;have hs1:w.heap.size+1+1<w1.heap.size:=hbx.1;have hri:RI w1 (w.heap.size+1+1) (w.heap.size+1+1+1) (some ⟨w.heap.size+1+1,0,none⟩) [1,2,2,2,2,3]:=
  ⟨hs1,fun _=>⟨w.heap.size+1+1,0,rfl,oN,oS,fun j u hu=>by rw[Nat.zero_add];exact hbx.2.1 j u (by simpa [aAd] using hu)⟩⟩
 with_reducible refine(aDj (some ⟨w.heap.size+1+1,0,none⟩) [1,2,2,2,2,3] 6 6 rfl (by decide) (by decide) p A bs c _ (w.heap.size+1+1) _ hri (Or.inl (by omega)) hb hl h0).mono ?_
 rintro e w2 ⟨r,rfl,hrm,h2,m2⟩;have hr:1<=r/\r<=3:=by simp at hrm;omega
 replace B2:=B2.mid m2 (Or.inr (by omega));replace B3:=B3.mid m2 (Or.inr (by omega));have hm2:=hm0.zero.trans m2;have hs2:=m2.size;clear hri hbx hrm h0 hm0 hal hal2 hal3 m2;go_wp2_with fail;with_reducible refine(aGj r hr.1 hr.2 p A bs c _ hb hl h2).mono ?_
 rintro e w3 ⟨Al,cl,rows,rfl,⟨hl3,hw⟩,hL,h3,m3⟩;have hs3:=m3.size;replace B2:=B2.mid m3 (Or.inr (by omega));replace B3:=B3.mid m3 (Or.inr (by omega));have hm3:=hm2.trans m3;obtain⟨l,hrl⟩:∃ l,aBe rows=l:=⟨_,rfl⟩
 have hll:rows.length=l.length:=by rw[<- hrl,aBs]
 have hoss:=hL.oss hrl;rw[hrl] at hw hl3;have hsu:=hw.sum;obtain⟨r1,s1,es,b,hres⟩:=aGw r l;have hF:=aBR r Al l cl w3 _ _ hoss.rss hw.ok.2 (by omega) r1 s1 es b hres;have HD:=oH (DrG.sub hres);obtain⟨L1,hLe⟩:∃ x,es.length=x:=⟨_,rfl⟩
 rw[hLe] at hF;have HL:=oH hLe;have HF:=oH hF;have HW:=oH hw;have HRL:=oH hrl;rw[hll];clear hF hres hLe hsu hw hrl hL h2 hm2 m3;go_wp2_with fail;with_reducible refine(HF.out).mono ?_
 rintro e w4 ⟨Ae,ce,rfl,hO4,m4⟩;have hs4:=m4.size;replace B2:=B2.mid m4 oZr;replace B3:=B3.mid m4 oZr;replace hoss:=hoss.rss.mid m4 oZl;have hC:=h3.mid m4 (Or.inr rfl);have hM:=hm3.trans m4.zero;have al5:=Mid.alloc w4 (.cells #[.int .i64 r1,.int .i64 s1,.slice Ae L1 ce] 35);have G5:=Box.new w4 #[.int .i64 r1,.int .i64 s1,.slice Ae L1 ce] 35;obtain⟨gb,hgb⟩:∃ g,w4.heap.size=g:=⟨_,rfl⟩
 replace B2:=B2.mid al5 oZr;replace B3:=B3.mid al5 oZr;replace hoss:=hoss.mid al5 oZl;replace hC:=hC.mid al5 (Or.inr rfl);replace hM:=hM.trans al5.zero;have hO5:=(hO4.mid al5 oZl)
 rw[hgb] at G5 hO5 hs4;obtain⟨w5,hw5⟩:∃ x,w4.alloc (.cells #[.int .i64 r1,.int .i64 s1,.slice Ae L1 ce] 35)=x:=⟨_,rfl⟩
 rw[hw5] at B2 B3 hC hM hO5 G5 hoss;have hgl:=G5.1;clear h3 hm3 hO4 m4 al5 HF;go_wp2_with fail;try rw[hw5]
 clear hw5 hgb;with_reducible refine(aGj r hr.1 hr.2 p A bs c _ hb hl hC).mono ?_
 rintro e w6 ⟨Am,cm,rows2,rfl,⟨hl6,hw6⟩,hL6,hC6,m6⟩;have hs6:=m6.size;replace B2:=B2.mid m6 (Or.inr (by omega));replace B3:=B3.mid m6 (Or.inr (by omega));replace G5:=G5.mid m6 (Or.inr (by omega));replace hO5:=hO5.mid m6 (Or.inl (by omega));replace hoss:=hoss.mid m6 (by omega);replace hM:=hM.trans m6;have hp6:=hC.lt;clear hC m6;have hC:=hC6;clear hC6;obtain⟨m,hrm⟩:∃ l,aBe rows2=l:=⟨_,rfl⟩
 have hlm:rows2.length=m.length:=by rw[<- hrm,aBs]
 have HRM:=oH hrm;rw[hrm] at hw6 hl6;rw[hlm] at hL6 |-;have HW6:=oH hw6;clear hrm hw6;go_wp2_with fail;with_reducible refine(aKI 3 (by decide) (by decide) p A bs c _ hb hl hC).mono ?_
 rintro e w7 ⟨q,rfl,hC7,m7⟩;have hs7:=m7.size;replace B2:=B2.mid m7 (Or.inr (by omega));replace B3:=B3.mid m7 (Or.inr (by omega));replace G5:=G5.mid m7 (Or.inr (by omega));replace hO5:=hO5.mid m7 (Or.inl (by omega));replace hoss:=hoss.mid m7 (by omega);replace hL6:=hL6.midB m7 (by omega);replace hM:=hM.trans m7;clear hC m7;have hC:=hC7;clear hC7;have hgl7:=G5.1;by_cases hq:q=true/\0<l.length
 .obtain⟨rfl,hlt⟩:=hq
  have hlt2:(0:Int)<(l.length:Int):=by omega
  obtain⟨bq,off,Ax,cx,x,hAl,hb1,hbq,hx,hcx,hrx⟩:=hoss.row hlt;have hxm:=List.mem_of_getElem? hx;have HX:=oH (HW.out.2 x hxm);have hbw:bq<w7.heap.size:=Nat.lt_of_lt_of_le hbq hoss.size;have hx5:=(HW.out.2 x hxm).1;subst hAl;rw[Nat.add_zero] at hcx;have hcw:w7.cell? ⟨bq,off,none⟩=some (.slice Ax x.length cx):=hcx;clear hx hxm;go_wp2_with (at_builtin;refine aMD rfl _ _ rfl rfl hL6 ⟨Ax,cx,x⟩ _ rfl _ _ hrx rfl (by omega) (by omega) (by omega) ?next)
  case next=>
   intro A3 c3 w8 hr8 m8;have hs8:=m8.size;replace B2:=B2.mid m8 (Or.inl (by omega));replace B3:=B3.mid m8 (Or.inl (by omega));replace G5:=G5.mid m8 (Or.inl (by omega));replace hO5:=hO5.mid m8 (Or.inr (by omega));replace hM:=hM.transNew m8 (Or.inl (by omega));replace hC:=hC.mid m8 (Or.inl (by omega));obtain⟨y,hy⟩:∃ y,m++[x]=y:=⟨_,rfl⟩
   rw[aCW,HRM.out,show aBe [(⟨Ax,cx,x⟩:Row)]=[x] from rfl,hy] at hr8;have hly:m.length+1=y.length:=by rw[<- hy];simp
   have hwy:DrWs y:=by
    rw[<- hy];refine⟨by simp;omega,fun z hz=>?_⟩;rcases List.mem_append.1 hz with hz|hz
    .exact HW6.out.2 z hz
    simp at hz;rw[hz];exact HX.out
   rw[hly];clear hy m8 hoss hL6 hcx hcw hrx;obtain⟨rr2,rs2,res2,b9,hres⟩:=aGw r y;have hF:=aBR r A3 y c3 w8 _ _ hr8 hwy.ok.2 (by have:=hwy.sum;have:=hwy.1;omega) rr2 rs2 res2 b9 hres;have HD9:=oH (DrG.sub hres);obtain⟨L9,hLe⟩:∃ x,res2.length=x:=⟨_,rfl⟩
   rw[hLe] at hF;have HL9:=oH hLe;have HF:=oH hF;clear hF hres hLe hwy hr8;go_wp2_with fail;with_reducible refine(HF.out).mono ?_
   rintro e w9 ⟨A9,c9,rfl,hO6,m9⟩;replace B2:=B2.mid m9 oZr;replace B3:=B3.mid m9 oZr;replace G5:=G5.mid m9 oZr;replace hC:=hC.mid m9 (Or.inr rfl);replace hM:=hM.trans m9.zero;replace hO5:=hO5.mid m9 oZl;have hs9:=m9.size;clear m9 HF;have al9:=Mid.alloc w9 (.cells #[.int .i64 rr2,.int .i64 rs2,.slice A9 L9 c9] 35);have G6:=Box.new w9 #[.int .i64 rr2,.int .i64 rs2,.slice A9 L9 c9] 35;obtain⟨cb,hcb⟩:∃ g,w9.heap.size=g:=⟨_,rfl⟩
   replace B2:=B2.mid al9 oZr;replace B3:=B3.mid al9 oZr;replace G5:=G5.mid al9 oZr;replace hC:=hC.mid al9 (Or.inr rfl);replace hM:=hM.trans al9.zero;replace hO5:=hO5.mid al9 oZl;replace hO6:=hO6.mid al9 oZl;rw[hcb] at G6 hO6 hs9;obtain⟨wT,hwT⟩:∃ x,w9.alloc (.cells #[.int .i64 rr2,.int .i64 rs2,.slice A9 L9 c9] 35)=x:=⟨_,rfl⟩
   rw[hwT] at B2 B3 G5 G6 hO5 hO6 hC hM;have hcl:=G6.1;go_wp2_with fail;try rw[hwT]
   clear hwT hcb al9;have hmd:=Mid.drew1 wT;replace B2:=B2.mid hmd oZr;replace B3:=B3.mid hmd oZr;replace G5:=G5.mid hmd oZr;replace G6:=G6.mid hmd oZr;replace hO5:=hO5.mid hmd oZl;replace hO6:=hO6.mid hmd oZl;replace hC:=hC.mid hmd (Or.inr rfl);replace hM:=hM.trans hmd.zero;clear hmd;obtain⟨g0,g1,g2⟩:=G5.c3 rfl;obtain⟨k0,k1,k2⟩:=G6.c3 rfl;refine aAl (S:=(fun w'=>(w'.cell? ⟨gb,0,none⟩=some (.int .i64 r1)/\w'.cell? ⟨gb,1,none⟩=some (.int .i64 s1)/\w'.cell? ⟨gb,2,none⟩=some (.slice Ae L1 ce))/\w'.cell? ⟨cb,0,none⟩=some (.int .i64 rr2)/\w'.cell? ⟨cb,1,none⟩=some (.int .i64 rs2)/\w'.cell? ⟨cb,2,none⟩=some (.slice A9 L9 c9))) [] (by kernel_rfl) ⟨⟨g0,g1,g2⟩,k0,k1,k2⟩ ?_;generalize World.drew wT=wz at B2 B3 G5 G6 hO5 hO6 hC hM g0 g1 g2 k0 k1 k2 |-;have hS:(wz.cell? ⟨gb,0,none⟩=some (.int .i64 r1)/\wz.cell? ⟨gb,1,none⟩=some (.int .i64 s1)/\wz.cell? ⟨gb,2,none⟩=some (.slice Ae L1 ce))/\wz.cell? ⟨cb,0,none⟩=some (.int .i64 rr2)/\wz.cell? ⟨cb,1,none⟩=some (.int .i64 rs2)/\wz.cell? ⟨cb,2,none⟩=some (.slice A9 L9 c9):=⟨⟨g0,g1,g2⟩,k0,k1,k2⟩
   refine tkZ [] 0 rfl hS ?_;try simp only[oP]
   refine tkZ [] 1 rfl hS ?_;try simp only[oP]
   clear hS g0 g1 g2 k0 k1 k2;have hpz:=hC.lt;have G5l:=G5.1;have G6l:=G6.1;obtain⟨q0,q1,q2⟩:=B2.c3 rfl;have qf:=B2.2.2;have ql:=B2.1;have ql3:=B3.1;have hst:=Mid.s3 wz w.heap.size (.int .i64 r1) (.int .i64 s1) (.slice Ae L1 ce);have G5q:=G5.mid hst (Or.inr (by omega));have G6q:=G6.mid hst (Or.inr (by omega));have B3q:=B3.mid hst (Or.inr (by omega));have V2:=B2.s3 (.int .i64 r1) (.int .i64 s1) (.slice Ae L1 ce);have O1:=hO5.mid hst (Or.inl (by omega));have O2:=hO6.mid hst (Or.inl (by omega));have M1:=hM.transNew hst (Or.inl oN);have hz1:=hst.size;have C1:=hC.mid hst (by omega);refine rdZ 2 rfl (fun K hK=>?_);go_simp;refine hK.out _ _ (Or.inr ⟨G5q.c3 rfl,G6q.c3 rfl⟩) (fun _=>?_);clear hK K;try simp only[oP]
   clear hst B2 B3 G5 G6 hO5 hO6 hM q0 q1 q2 qf ql G5l G6l hC;generalize ((wz.setCell ⟨w.heap.size,0,none⟩ (.int .i64 r1)).setCell ⟨w.heap.size,1,none⟩ (.int .i64 s1)).setCell ⟨w.heap.size,2,none⟩ (.slice Ae L1 ce)=wS at G5q G6q B3q V2 O1 O2 M1 hz1 C1 |-;obtain⟨q0,q1,q2⟩:=B3q.c3 rfl;have qf:=B3q.2.2;have ql:=B3q.1;have ql2:=V2.1;have G5l:=G5q.1;have G6l:=G6q.1;have hst:=Mid.s3 wS (w.heap.size+1) (.int .i64 rr2) (.int .i64 rs2) (.slice A9 L9 c9);have V2q:=V2.mid hst (Or.inl (by omega));have V3:=B3q.s3 (.int .i64 rr2) (.int .i64 rs2) (.slice A9 L9 c9);replace G5q:=G5q.mid hst (Or.inr (by omega));replace G6q:=G6q.mid hst (Or.inr (by omega));have O9:=oH ((O1.mid hst (Or.inl (by omega))).wide (lo':=w.heap.size) (by omega) (Nat.le_trans O1.size hst.size) oN);have O9b:=oH ((O2.mid hst (Or.inl (by omega))).wide (lo':=w.heap.size) (by omega) (Nat.le_trans O2.size hst.size) oN);have M9:=oH (M1.transNew hst (Or.inl (by omega)));have C9:=oH (C1.mid hst (by omega));refine rdZ 3 rfl (fun K hK=>?_);go_simp;refine hK.out _ _ (Or.inr ⟨G5q.c3 rfl,G6q.c3 rfl⟩) (fun _=>?_);clear hK K;try simp only[oP]
   refine aAh (by kernel_rfl) ?_ _;clear hst O1 O2 M1 q0 q1 q2 qf ql B3q V2 G5q G6q C1;obtain⟨q0,q1,q2⟩:=V2q.c3 rfl;obtain⟨k0,k1,k2⟩:=V3.c3 rfl;go_wp2_with fail;refine bodyPost_ret (v:=.tuple #[.agg #[.int .i64 r1,.int .i64 s1,.slice Ae L1 ce],.agg #[.int .i64 rr2,.int .i64 rs2,.slice A9 L9 c9]]) (by simp[results,Tryz.results132,go_sem,q0,q1,q2,k0,k1,k2]) rfl ⟨r1,s1,Ae,ce,es,rr2,rs2,A9,c9,res2,?_,HD.out,HD9.out,O9.out,O9b.out,C9.out,M9.out⟩;rw[HL.out,HL9.out]
 have hoss6:=(hL6.oss HRM.out).rss;have hdr:=HW6.out;cases q
 .clear hq
  obtain⟨rr2,rs2,res2,b9,hres⟩:=aGw r m;have hF:=aBR r Am m cm w7 _ _ hoss6 hdr.ok.2 (by have:=hdr.sum;have:=hdr.1;omega) rr2 rs2 res2 b9 hres;have HD9:=oH (DrG.sub hres);obtain⟨L9,hLe⟩:∃ x,res2.length=x:=⟨_,rfl⟩
  rw[hLe] at hF;have HL9:=oH hLe;have HF:=oH hF;clear hF hres hLe hdr hoss6;go_wp2_with fail;with_reducible refine(HF.out).mono ?_
  rintro e w9 ⟨A9,c9,rfl,hO6,m9⟩;replace B2:=B2.mid m9 oZr;replace B3:=B3.mid m9 oZr;replace G5:=G5.mid m9 oZr;replace hC:=hC.mid m9 (Or.inr rfl);replace hM:=hM.trans m9.zero;replace hO5:=hO5.mid m9 oZl;have hs9:=m9.size;clear m9 HF;have al9:=Mid.alloc w9 (.cells #[.int .i64 rr2,.int .i64 rs2,.slice A9 L9 c9] 35);have G6:=Box.new w9 #[.int .i64 rr2,.int .i64 rs2,.slice A9 L9 c9] 35;obtain⟨cb,hcb⟩:∃ g,w9.heap.size=g:=⟨_,rfl⟩
  replace B2:=B2.mid al9 oZr;replace B3:=B3.mid al9 oZr;replace G5:=G5.mid al9 oZr;replace hC:=hC.mid al9 (Or.inr rfl);replace hM:=hM.trans al9.zero;replace hO5:=hO5.mid al9 oZl;replace hO6:=hO6.mid al9 oZl;rw[hcb] at G6 hO6 hs9;obtain⟨wT,hwT⟩:∃ x,w9.alloc (.cells #[.int .i64 rr2,.int .i64 rs2,.slice A9 L9 c9] 35)=x:=⟨_,rfl⟩
  rw[hwT] at B2 B3 G5 G6 hO5 hO6 hC hM;have hcl:=G6.1;go_wp2_with fail;try rw[hwT]
  clear hwT hcb al9;have hmd:=Mid.drew1 wT;replace B2:=B2.mid hmd oZr;replace B3:=B3.mid hmd oZr;replace G5:=G5.mid hmd oZr;replace G6:=G6.mid hmd oZr;replace hO5:=hO5.mid hmd oZl;replace hO6:=hO6.mid hmd oZl;replace hC:=hC.mid hmd (Or.inr rfl);replace hM:=hM.trans hmd.zero;clear hmd;obtain⟨g0,g1,g2⟩:=G5.c3 rfl;obtain⟨k0,k1,k2⟩:=G6.c3 rfl;refine aAl (S:=(fun w'=>(w'.cell? ⟨gb,0,none⟩=some (.int .i64 r1)/\w'.cell? ⟨gb,1,none⟩=some (.int .i64 s1)/\w'.cell? ⟨gb,2,none⟩=some (.slice Ae L1 ce))/\w'.cell? ⟨cb,0,none⟩=some (.int .i64 rr2)/\w'.cell? ⟨cb,1,none⟩=some (.int .i64 rs2)/\w'.cell? ⟨cb,2,none⟩=some (.slice A9 L9 c9))) [] (by kernel_rfl) ⟨⟨g0,g1,g2⟩,k0,k1,k2⟩ ?_;generalize World.drew wT=wz at B2 B3 G5 G6 hO5 hO6 hC hM g0 g1 g2 k0 k1 k2 |-;have hS:(wz.cell? ⟨gb,0,none⟩=some (.int .i64 r1)/\wz.cell? ⟨gb,1,none⟩=some (.int .i64 s1)/\wz.cell? ⟨gb,2,none⟩=some (.slice Ae L1 ce))/\wz.cell? ⟨cb,0,none⟩=some (.int .i64 rr2)/\wz.cell? ⟨cb,1,none⟩=some (.int .i64 rs2)/\wz.cell? ⟨cb,2,none⟩=some (.slice A9 L9 c9):=⟨⟨g0,g1,g2⟩,k0,k1,k2⟩
  refine tkZ [] 0 rfl hS ?_;try simp only[oP]
  refine tkZ [] 1 rfl hS ?_;try simp only[oP]
  clear hS g0 g1 g2 k0 k1 k2;have hpz:=hC.lt;have G5l:=G5.1;have G6l:=G6.1;obtain⟨q0,q1,q2⟩:=B2.c3 rfl;have qf:=B2.2.2;have ql:=B2.1;have ql3:=B3.1;have hst:=Mid.s3 wz w.heap.size (.int .i64 r1) (.int .i64 s1) (.slice Ae L1 ce);have G5q:=G5.mid hst (Or.inr (by omega));have G6q:=G6.mid hst (Or.inr (by omega));have B3q:=B3.mid hst (Or.inr (by omega));have V2:=B2.s3 (.int .i64 r1) (.int .i64 s1) (.slice Ae L1 ce);have O1:=hO5.mid hst (Or.inl (by omega));have O2:=hO6.mid hst (Or.inl (by omega));have M1:=hM.transNew hst (Or.inl oN);have hz1:=hst.size;have C1:=hC.mid hst (by omega);refine rdZ 2 rfl (fun K hK=>?_);go_simp;refine hK.out _ _ (Or.inr ⟨G5q.c3 rfl,G6q.c3 rfl⟩) (fun _=>?_);clear hK K;try simp only[oP]
  clear hst B2 B3 G5 G6 hO5 hO6 hM q0 q1 q2 qf ql G5l G6l hC;generalize ((wz.setCell ⟨w.heap.size,0,none⟩ (.int .i64 r1)).setCell ⟨w.heap.size,1,none⟩ (.int .i64 s1)).setCell ⟨w.heap.size,2,none⟩ (.slice Ae L1 ce)=wS at G5q G6q B3q V2 O1 O2 M1 hz1 C1 |-;obtain⟨q0,q1,q2⟩:=B3q.c3 rfl;have qf:=B3q.2.2;have ql:=B3q.1;have ql2:=V2.1;have G5l:=G5q.1;have G6l:=G6q.1;have hst:=Mid.s3 wS (w.heap.size+1) (.int .i64 rr2) (.int .i64 rs2) (.slice A9 L9 c9);have V2q:=V2.mid hst (Or.inl (by omega));have V3:=B3q.s3 (.int .i64 rr2) (.int .i64 rs2) (.slice A9 L9 c9);replace G5q:=G5q.mid hst (Or.inr (by omega));replace G6q:=G6q.mid hst (Or.inr (by omega));have O9:=oH ((O1.mid hst (Or.inl (by omega))).wide (lo':=w.heap.size) (by omega) (Nat.le_trans O1.size hst.size) oN);have O9b:=oH ((O2.mid hst (Or.inl (by omega))).wide (lo':=w.heap.size) (by omega) (Nat.le_trans O2.size hst.size) oN);have M9:=oH (M1.transNew hst (Or.inl (by omega)));have C9:=oH (C1.mid hst (by omega));refine rdZ 3 rfl (fun K hK=>?_);go_simp;refine hK.out _ _ (Or.inr ⟨G5q.c3 rfl,G6q.c3 rfl⟩) (fun _=>?_);clear hK K;try simp only[oP]
  refine aAh (by kernel_rfl) ?_ _;clear hst O1 O2 M1 q0 q1 q2 qf ql B3q V2 G5q G6q C1;obtain⟨q0,q1,q2⟩:=V2q.c3 rfl;obtain⟨k0,k1,k2⟩:=V3.c3 rfl;go_wp2_with fail;refine bodyPost_ret (v:=.tuple #[.agg #[.int .i64 r1,.int .i64 s1,.slice Ae L1 ce],.agg #[.int .i64 rr2,.int .i64 rs2,.slice A9 L9 c9]]) (by simp[results,Tryz.results132,go_sem,q0,q1,q2,k0,k1,k2]) rfl ⟨r1,s1,Ae,ce,es,rr2,rs2,A9,c9,res2,?_,HD.out,HD9.out,O9.out,O9b.out,C9.out,M9.out⟩;rw[HL.out,HL9.out]
 have hlt:¬ 0<l.length:=fun k=>hq ⟨rfl,k⟩;have hlt2:¬ (0:Int)<(l.length:Int):=by omega
 clear hq;obtain⟨rr2,rs2,res2,b9,hres⟩:=aGw r m;have hF:=aBR r Am m cm w7 _ _ hoss6 hdr.ok.2 (by have:=hdr.sum;have:=hdr.1;omega) rr2 rs2 res2 b9 hres;have HD9:=oH (DrG.sub hres);obtain⟨L9,hLe⟩:∃ x,res2.length=x:=⟨_,rfl⟩
 rw[hLe] at hF;have HL9:=oH hLe;have HF:=oH hF;clear hF hres hLe hdr hoss6;go_wp2_with fail;with_reducible refine(HF.out).mono ?_
 rintro e w9 ⟨A9,c9,rfl,hO6,m9⟩;replace B2:=B2.mid m9 oZr;replace B3:=B3.mid m9 oZr;replace G5:=G5.mid m9 oZr;replace hC:=hC.mid m9 (Or.inr rfl);replace hM:=hM.trans m9.zero;replace hO5:=hO5.mid m9 oZl;have hs9:=m9.size;clear m9 HF;have al9:=Mid.alloc w9 (.cells #[.int .i64 rr2,.int .i64 rs2,.slice A9 L9 c9] 35);have G6:=Box.new w9 #[.int .i64 rr2,.int .i64 rs2,.slice A9 L9 c9] 35;obtain⟨cb,hcb⟩:∃ g,w9.heap.size=g:=⟨_,rfl⟩
 replace B2:=B2.mid al9 oZr;replace B3:=B3.mid al9 oZr;replace G5:=G5.mid al9 oZr;replace hC:=hC.mid al9 (Or.inr rfl);replace hM:=hM.trans al9.zero;replace hO5:=hO5.mid al9 oZl;replace hO6:=hO6.mid al9 oZl;rw[hcb] at G6 hO6 hs9;obtain⟨wT,hwT⟩:∃ x,w9.alloc (.cells #[.int .i64 rr2,.int .i64 rs2,.slice A9 L9 c9] 35)=x:=⟨_,rfl⟩
 rw[hwT] at B2 B3 G5 G6 hO5 hO6 hC hM;have hcl:=G6.1;go_wp2_with fail;try rw[hwT]
 clear hwT hcb al9;have hmd:=Mid.drew1 wT;replace B2:=B2.mid hmd oZr;replace B3:=B3.mid hmd oZr;replace G5:=G5.mid hmd oZr;replace G6:=G6.mid hmd oZr;replace hO5:=hO5.mid hmd oZl;replace hO6:=hO6.mid hmd oZl;replace hC:=hC.mid hmd (Or.inr rfl);replace hM:=hM.trans hmd.zero;clear hmd;obtain⟨g0,g1,g2⟩:=G5.c3 rfl;obtain⟨k0,k1,k2⟩:=G6.c3 rfl;refine aAl (S:=(fun w'=>(w'.cell? ⟨gb,0,none⟩=some (.int .i64 r1)/\w'.cell? ⟨gb,1,none⟩=some (.int .i64 s1)/\w'.cell? ⟨gb,2,none⟩=some (.slice Ae L1 ce))/\w'.cell? ⟨cb,0,none⟩=some (.int .i64 rr2)/\w'.cell? ⟨cb,1,none⟩=some (.int .i64 rs2)/\w'.cell? ⟨cb,2,none⟩=some (.slice A9 L9 c9))) [] (by kernel_rfl) ⟨⟨g0,g1,g2⟩,k0,k1,k2⟩ ?_;generalize World.drew wT=wz at B2 B3 G5 G6 hO5 hO6 hC hM g0 g1 g2 k0 k1 k2 |-;have hS:(wz.cell? ⟨gb,0,none⟩=some (.int .i64 r1)/\wz.cell? ⟨gb,1,none⟩=some (.int .i64 s1)/\wz.cell? ⟨gb,2,none⟩=some (.slice Ae L1 ce))/\wz.cell? ⟨cb,0,none⟩=some (.int .i64 rr2)/\wz.cell? ⟨cb,1,none⟩=some (.int .i64 rs2)/\wz.cell? ⟨cb,2,none⟩=some (.slice A9 L9 c9):=⟨⟨g0,g1,g2⟩,k0,k1,k2⟩
 refine tkZ [] 0 rfl hS ?_;try simp only[oP]
 refine tkZ [] 1 rfl hS ?_;try simp only[oP]
 clear hS g0 g1 g2 k0 k1 k2;have hpz:=hC.lt;have G5l:=G5.1;have G6l:=G6.1;obtain⟨q0,q1,q2⟩:=B2.c3 rfl;have qf:=B2.2.2;have ql:=B2.1;have ql3:=B3.1;have hst:=Mid.s3 wz w.heap.size (.int .i64 r1) (.int .i64 s1) (.slice Ae L1 ce);have G5q:=G5.mid hst (Or.inr (by omega));have G6q:=G6.mid hst (Or.inr (by omega));have B3q:=B3.mid hst (Or.inr (by omega));have V2:=B2.s3 (.int .i64 r1) (.int .i64 s1) (.slice Ae L1 ce);have O1:=hO5.mid hst (Or.inl (by omega));have O2:=hO6.mid hst (Or.inl (by omega));have M1:=hM.transNew hst (Or.inl oN);have hz1:=hst.size;have C1:=hC.mid hst (by omega);refine rdZ 2 rfl (fun K hK=>?_);go_simp;refine hK.out _ _ (Or.inr ⟨G5q.c3 rfl,G6q.c3 rfl⟩) (fun _=>?_);clear hK K;try simp only[oP]
 clear hst B2 B3 G5 G6 hO5 hO6 hM q0 q1 q2 qf ql G5l G6l hC;generalize ((wz.setCell ⟨w.heap.size,0,none⟩ (.int .i64 r1)).setCell ⟨w.heap.size,1,none⟩ (.int .i64 s1)).setCell ⟨w.heap.size,2,none⟩ (.slice Ae L1 ce)=wS at G5q G6q B3q V2 O1 O2 M1 hz1 C1 |-;obtain⟨q0,q1,q2⟩:=B3q.c3 rfl;have qf:=B3q.2.2;have ql:=B3q.1;have ql2:=V2.1;have G5l:=G5q.1;have G6l:=G6q.1;have hst:=Mid.s3 wS (w.heap.size+1) (.int .i64 rr2) (.int .i64 rs2) (.slice A9 L9 c9);have V2q:=V2.mid hst (Or.inl (by omega));have V3:=B3q.s3 (.int .i64 rr2) (.int .i64 rs2) (.slice A9 L9 c9);replace G5q:=G5q.mid hst (Or.inr (by omega));replace G6q:=G6q.mid hst (Or.inr (by omega));have O9:=oH ((O1.mid hst (Or.inl (by omega))).wide (lo':=w.heap.size) (by omega) (Nat.le_trans O1.size hst.size) oN);have O9b:=oH ((O2.mid hst (Or.inl (by omega))).wide (lo':=w.heap.size) (by omega) (Nat.le_trans O2.size hst.size) oN);have M9:=oH (M1.transNew hst (Or.inl (by omega)));have C9:=oH (C1.mid hst (by omega));refine rdZ 3 rfl (fun K hK=>?_);go_simp;refine hK.out _ _ (Or.inr ⟨G5q.c3 rfl,G6q.c3 rfl⟩) (fun _=>?_);clear hK K;try simp only[oP]
 refine aAh (by kernel_rfl) ?_ _;clear hst O1 O2 M1 q0 q1 q2 qf ql B3q V2 G5q G6q C1;obtain⟨q0,q1,q2⟩:=V2q.c3 rfl;obtain⟨k0,k1,k2⟩:=V3.c3 rfl;go_wp2_with fail;refine bodyPost_ret (v:=.tuple #[.agg #[.int .i64 r1,.int .i64 s1,.slice Ae L1 ce],.agg #[.int .i64 rr2,.int .i64 rs2,.slice A9 L9 c9]]) (by simp[results,Tryz.results132,go_sem,q0,q1,q2,k0,k1,k2]) rfl ⟨r1,s1,Ae,ce,es,rr2,rs2,A9,c9,res2,?_,HD.out,HD9.out,O9.out,O9b.out,C9.out,M9.out⟩;rw[HL.out,HL9.out]
end
theorem aJT(A:Option Addr)(bs:List Int)(c:Nat)(w:World)(hi:Nat)(hb:OkB bs)(hl:bs.length<=1048576)(hr:RV w 0 hi A (aIz bs)) :
  Calls Tryz.prog 118 #[.slice A bs.length c] w fun e w'=>∃ r s A1 c1 es r2 s2 A2 c2 es2,e=.returned (.tuple #[aAw r s A1 (List.length es) c1,aAw r2 s2 A2 (List.length es2) c2])/\DrG r s es/\DrG r2 s2 es2/\OG w' w.heap.size w'.heap.size A1 c1 es/\OG w' w.heap.size w'.heap.size A2 c2 es2/\Mid 0 0 w w':=by
 have hal:=Mid.alloc w (.cells #[.int .i64 0,.int .i64 0,.slice none 0 0] 35);have B2:=Box.new w #[.int .i64 0,.int .i64 0,.slice none 0 0] 35;have hal2:=Mid.alloc (w.alloc (.cells #[.int .i64 0,.int .i64 0,.slice none 0 0] 35)) (.cells #[.int .i64 0,.int .i64 0,.slice none 0 0] 35);have B3:=Box.new (w.alloc (.cells #[.int .i64 0,.int .i64 0,.slice none 0 0] 35)) #[.int .i64 0,.int .i64 0,.slice none 0 0] 35;rw[World.size_alloc] at B3;replace B2:=B2.mid hal2 oZr;replace hal:=hal.trans hal2;have hr0:=hr.mid hal oZl;go_enter Tryz.func118,Tryz.ntmps118
 go_wp2_with fail;clear hal2;generalize ((w.alloc (.cells #[.int .i64 0,.int .i64 0,.slice none 0 0] 35)).alloc (.cells #[.int .i64 0,.int .i64 0,.slice none 0 0] 35))=w1 at B2 B3 hr0 hal |-;have hs1:w.heap.size+1<w1.heap.size:=B3.1;with_reducible refine(aGJ A bs c w1 hi hb hl hr0).mono ?_
 rintro e w2 ⟨p,rfl,hp,h2,m2⟩;replace B2:=B2.mid m2 oZr;replace B3:=B3.mid m2 oZr;have hM2:=hal.trans m2;have hs2:=m2.size;have hpw2:=h2.lt;clear hal m2 hr0 hr;go_wp2_with fail;with_reducible refine(aLU p A bs c _ hb hl h2).mono ?_
 rintro e w3 ⟨r1,s1,Ae,ce,es,r2,s2,Ae2,ce2,es2,rfl,hg,hg2,hO,hO2,hC,m3⟩;replace B2:=B2.mid m3 (Or.inl (by omega));replace B3:=B3.mid m3 (Or.inl (by omega));have hM:=hM2.transNew m3 (Or.inl (by omega));have hs3:=m3.size;clear h2 m3 hM2;have HD:=oH hg;have HD2:=oH hg2;obtain⟨L1,hL1⟩:∃ l,es.length=l:=⟨_,rfl⟩
 obtain⟨L2,hL2⟩:∃ l,es2.length=l:=⟨_,rfl⟩
 have HL:=oH hL1;have HL2:=oH hL2;rw[hL1,hL2];clear hg hg2 hL1 hL2;have al5:=Mid.alloc w3 (.cells #[.int .i64 r1,.int .i64 s1,.slice Ae L1 ce] 35);have G5:=Box.new w3 #[.int .i64 r1,.int .i64 s1,.slice Ae L1 ce] 35;have al6:=Mid.alloc (w3.alloc (.cells #[.int .i64 r1,.int .i64 s1,.slice Ae L1 ce] 35)) (.cells #[.int .i64 r2,.int .i64 s2,.slice Ae2 L2 ce2] 35);have G6:=Box.new (w3.alloc (.cells #[.int .i64 r1,.int .i64 s1,.slice Ae L1 ce] 35)) #[.int .i64 r2,.int .i64 s2,.slice Ae2 L2 ce2] 35;rw[World.size_alloc] at G6;replace G5:=G5.mid al6 oZr;have al7:=al5.trans al6;replace B2:=B2.mid al7 oZr;replace B3:=B3.mid al7 oZr;replace hM:=hM.trans al7;have hO5:=hO.mid al7 oZl;have hO6:=hO2.mid al7 oZl;obtain⟨gb,hgb⟩:∃ g,w3.heap.size=g:=⟨_,rfl⟩
 obtain⟨w5,hw5⟩:∃ x,(w3.alloc (.cells #[.int .i64 r1,.int .i64 s1,.slice Ae L1 ce] 35)).alloc (.cells #[.int .i64 r2,.int .i64 s2,.slice Ae2 L2 ce2] 35)=x:=⟨_,rfl⟩
 replace hC:=hC.mid al7 (Or.inr rfl);rw[hgb] at G5 G6 hO5 hO6 hs3;rw[hw5] at B2 B3 G5 G6 hO5 hO6 hM hC;clear al5 al6 al7 hO hO2;have hcl:=G6.1;have hpc:=hC.lt;go_wp2_with fail;try rw[hw5]
 clear hw5 hgb;with_reducible refine(aBg 6 (by decide) (by decide) p A bs c _ hb hl hC).mono ?_
 rintro e w6 ⟨x,rfl,hx,hC6,m6⟩;replace B2:=B2.mid m6 (Or.inl (by omega));replace B3:=B3.mid m6 (Or.inl (by omega));replace G5:=G5.mid m6 (Or.inr (by omega));replace G6:=G6.mid m6 (Or.inr (by omega));replace hO5:=hO5.mid m6 (Or.inl (by omega));replace hO6:=hO6.mid m6 (Or.inl (by omega));replace hM:=hM.transNew m6 (Or.inl (by omega));have hs6:=m6.size;clear hC m6;have hC:=hC6;clear hC6;by_cases hx0:x=0
 .subst hx0
  go_wp2_with fail;clear G6 hO6;have hmd:=Mid.drew1 w6;replace B2:=B2.mid hmd oZr;replace B3:=B3.mid hmd oZr;replace G5:=G5.mid hmd oZr;replace hO5:=hO5.mid hmd oZl;replace hM:=hM.trans hmd;replace hC:=hC.mid hmd (Or.inr rfl);clear hmd;obtain⟨g0,g1,g2⟩:=G5.c3 rfl;refine aAl (S:=(fun w'=>w'.cell? ⟨gb,0,none⟩=some (.int .i64 r1)/\w'.cell? ⟨gb,1,none⟩=some (.int .i64 s1)/\w'.cell? ⟨gb,2,none⟩=some (.slice Ae L1 ce))) [] (by kernel_rfl) ⟨g0,g1,g2⟩ ?_;generalize World.drew w6=wz at B2 B3 G5 hO5 hC hM g0 g1 g2 |-;have hS:wz.cell? ⟨gb,0,none⟩=some (.int .i64 r1)/\wz.cell? ⟨gb,1,none⟩=some (.int .i64 s1)/\wz.cell? ⟨gb,2,none⟩=some (.slice Ae L1 ce):=⟨g0,g1,g2⟩
  refine tkZ [] 0 rfl hS ?_;try simp only[oP]
  refine tkZ [] 1 rfl hS ?_;try simp only[oP]
  clear hS g0 g1 g2;have hgz9:=G5.1;have hpz9:=hC.lt;refine rdZ 2 rfl (fun K hK=>?_)
  (go_simp;(with_reducible refine(aLT p A bs c _ hb hl hC).mono ?_);rintro en w9 ⟨r9,s9,A9,c9,es9,rfl,hg9,O9g,C9,m9⟩;have G5p:=G5.mid m9 (Or.inr (by omega));go_wp2_with fail)
  refine hK.out _ _ (Or.inr (G5p.c3 rfl)) (fun _=>?_);clear hK K;try simp only[oP]
  have HD9:=oH hg9;obtain⟨L9,hL9⟩:∃ l,es9.length=l:=⟨_,rfl⟩
  have HL9:=oH hL9;rw[hL9];replace B2:=B2.mid m9 (Or.inl (by omega));replace B3:=B3.mid m9 (Or.inl (by omega));replace hO5:=hO5.mid m9 (Or.inl (by omega));replace hM:=hM.transNew m9 (Or.inl (by omega));have hz9:=m9.size;clear hg9 hL9 m9 hC C9 G5;have G5:=G5p;clear G5p;have G5l:=G5.1;obtain⟨q0,q1,q2⟩:=B2.c3 rfl;have qf:=B2.2.2;have ql:=B2.1;have ql3:=B3.1;have hst:=Mid.s3 w9 w.heap.size (.int .i64 r1) (.int .i64 s1) (.slice Ae L1 ce);have G5q:=G5.mid hst (Or.inr (by omega));have B3q:=B3.mid hst (Or.inr (by omega));have V2:=B2.s3 (.int .i64 r1) (.int .i64 s1) (.slice Ae L1 ce);have O1:=hO5.mid hst (Or.inl (by omega));have O2:=O9g.mid hst (Or.inl (by omega));have M1:=hM.transNew hst (Or.inl oN);have hz1:=hst.size;refine rdZ 3 rfl (fun K hK=>?_);go_simp;refine hK.out _ _ (Or.inr (G5q.c3 rfl)) (fun _=>?_);clear hK K;try simp only[oP]
  clear hst B2 B3 G5 hO5 O9g hM q0 q1 q2 qf ql G5l;generalize ((w9.setCell ⟨w.heap.size,0,none⟩ (.int .i64 r1)).setCell ⟨w.heap.size,1,none⟩ (.int .i64 s1)).setCell ⟨w.heap.size,2,none⟩ (.slice Ae L1 ce)=wS at G5q B3q V2 O1 O2 M1 hz1 |-;obtain⟨q0,q1,q2⟩:=B3q.c3 rfl;have qf:=B3q.2.2;have ql:=B3q.1;have ql2:=V2.1;have G5l:=G5q.1;have hst:=Mid.s3 wS (w.heap.size+1) (.int .i64 r9) (.int .i64 s9) (.slice A9 L9 c9);have V2q:=V2.mid hst (Or.inl (by omega));have V3:=B3q.s3 (.int .i64 r9) (.int .i64 s9) (.slice A9 L9 c9);replace G5q:=G5q.mid hst (Or.inr (by omega));have O9:=oH ((O1.mid hst (Or.inl (by omega))).wide (lo':=w.heap.size) (by omega) (Nat.le_trans O1.size hst.size) oN);have O9b:=oH ((O2.mid hst (Or.inl (by omega))).wide (lo':=w.heap.size) (by omega) (Nat.le_trans O2.size hst.size) oN);have M9:=oH (M1.transNew hst (Or.inl (by omega)));refine rdZ 4 rfl (fun K hK=>?_);go_simp;refine hK.out _ _ (Or.inr (G5q.c3 rfl)) (fun _=>?_);clear hK K;try simp only[oP]
  refine aAh (by kernel_rfl) ?_ _;clear hst O1 O2 M1 q0 q1 q2 qf ql B3q V2 G5q;obtain⟨q0,q1,q2⟩:=V2q.c3 rfl;obtain⟨k0,k1,k2⟩:=V3.c3 rfl;go_wp2_with fail;refine bodyPost_ret (v:=.tuple #[.agg #[.int .i64 r1,.int .i64 s1,.slice Ae L1 ce],.agg #[.int .i64 r9,.int .i64 s9,.slice A9 L9 c9]]) (by simp[results,Tryz.results118,go_sem,q0,q1,q2,k0,k1,k2]) rfl ⟨r1,s1,Ae,ce,es,r9,s9,A9,c9,es9,?_,HD.out,HD9.out,O9.out,O9b.out,M9.out⟩;rw[HL.out,HL9.out]
 by_cases hx1:x=1
 .subst hx1
  clear hx0;go_wp2_with fail;clear G5 hO5;have hmd:=Mid.drew1 w6;replace B2:=B2.mid hmd oZr;replace B3:=B3.mid hmd oZr;replace G6:=G6.mid hmd oZr;replace hO6:=hO6.mid hmd oZl;replace hM:=hM.trans hmd;replace hC:=hC.mid hmd (Or.inr rfl);clear hmd;obtain⟨g0,g1,g2⟩:=G6.c3 rfl;refine aAl (S:=(fun w'=>w'.cell? ⟨gb+1,0,none⟩=some (.int .i64 r2)/\w'.cell? ⟨gb+1,1,none⟩=some (.int .i64 s2)/\w'.cell? ⟨gb+1,2,none⟩=some (.slice Ae2 L2 ce2))) [] (by kernel_rfl) ⟨g0,g1,g2⟩ ?_;generalize World.drew w6=wz at B2 B3 G6 hO6 hC hM g0 g1 g2 |-;have hS:wz.cell? ⟨gb+1,0,none⟩=some (.int .i64 r2)/\wz.cell? ⟨gb+1,1,none⟩=some (.int .i64 s2)/\wz.cell? ⟨gb+1,2,none⟩=some (.slice Ae2 L2 ce2):=⟨g0,g1,g2⟩
  refine tkZ [] 0 rfl hS ?_;try simp only[oP]
  refine tkZ [] 2 rfl hS ?_;try simp only[oP]
  clear hS g0 g1 g2;have hgz9:=G6.1;have hpz9:=hC.lt;refine rdZ 1 rfl (fun K hK=>?_)
  (go_simp;(with_reducible refine(aGI p A bs c _ hb hl hC).mono ?_);rintro en w9 ⟨r9,s9,A9,c9,es9,rfl,hg9,O9g,C9,m9⟩;have G5p:=G6.mid m9 (Or.inr (by omega));go_wp2_with fail)
  refine hK.out _ _ (Or.inr (G5p.c3 rfl)) (fun _=>?_);clear hK K;try simp only[oP]
  have HD9:=oH hg9;obtain⟨L9,hL9⟩:∃ l,es9.length=l:=⟨_,rfl⟩
  have HL9:=oH hL9;rw[hL9];replace B2:=B2.mid m9 (Or.inl (by omega));replace B3:=B3.mid m9 (Or.inl (by omega));replace hO6:=hO6.mid m9 (Or.inl (by omega));replace hM:=hM.transNew m9 (Or.inl (by omega));have hz9:=m9.size;clear hg9 hL9 m9 hC C9 G6;have G6:=G5p;clear G5p;have G6l:=G6.1;obtain⟨q0,q1,q2⟩:=B2.c3 rfl;have qf:=B2.2.2;have ql:=B2.1;have ql3:=B3.1;have hst:=Mid.s3 w9 w.heap.size (.int .i64 r9) (.int .i64 s9) (.slice A9 L9 c9);have G6q:=G6.mid hst (Or.inr (by omega));have B3q:=B3.mid hst (Or.inr (by omega));have V2:=B2.s3 (.int .i64 r9) (.int .i64 s9) (.slice A9 L9 c9);have O1:=O9g.mid hst (Or.inl (by omega));have O2:=hO6.mid hst (Or.inl (by omega));have M1:=hM.transNew hst (Or.inl oN);have hz1:=hst.size;refine rdZ 3 rfl (fun K hK=>?_);go_simp;refine hK.out _ _ (Or.inr (G6q.c3 rfl)) (fun _=>?_);clear hK K;try simp only[oP]
  clear hst B2 B3 G6 O9g hO6 hM q0 q1 q2 qf ql G6l;generalize ((w9.setCell ⟨w.heap.size,0,none⟩ (.int .i64 r9)).setCell ⟨w.heap.size,1,none⟩ (.int .i64 s9)).setCell ⟨w.heap.size,2,none⟩ (.slice A9 L9 c9)=wS at G6q B3q V2 O1 O2 M1 hz1 |-;obtain⟨q0,q1,q2⟩:=B3q.c3 rfl;have qf:=B3q.2.2;have ql:=B3q.1;have ql2:=V2.1;have G6l:=G6q.1;have hst:=Mid.s3 wS (w.heap.size+1) (.int .i64 r2) (.int .i64 s2) (.slice Ae2 L2 ce2);have V2q:=V2.mid hst (Or.inl (by omega));have V3:=B3q.s3 (.int .i64 r2) (.int .i64 s2) (.slice Ae2 L2 ce2);replace G6q:=G6q.mid hst (Or.inr (by omega));have O9:=oH ((O1.mid hst (Or.inl (by omega))).wide (lo':=w.heap.size) (by omega) (Nat.le_trans O1.size hst.size) oN);have O9b:=oH ((O2.mid hst (Or.inl (by omega))).wide (lo':=w.heap.size) (by omega) (Nat.le_trans O2.size hst.size) oN);have M9:=oH (M1.transNew hst (Or.inl (by omega)));refine rdZ 4 rfl (fun K hK=>?_);go_simp;refine hK.out _ _ (Or.inr (G6q.c3 rfl)) (fun _=>?_);clear hK K;try simp only[oP]
  refine aAh (by kernel_rfl) ?_ _;clear hst O1 O2 M1 q0 q1 q2 qf ql B3q V2 G6q;obtain⟨q0,q1,q2⟩:=V2q.c3 rfl;obtain⟨k0,k1,k2⟩:=V3.c3 rfl;go_wp2_with fail;refine bodyPost_ret (v:=.tuple #[.agg #[.int .i64 r9,.int .i64 s9,.slice A9 L9 c9],.agg #[.int .i64 r2,.int .i64 s2,.slice Ae2 L2 ce2]]) (by simp[results,Tryz.results118,go_sem,q0,q1,q2,k0,k1,k2]) rfl ⟨r9,s9,A9,c9,es9,r2,s2,Ae2,ce2,es2,?_,HD9.out,HD2.out,O9.out,O9b.out,M9.out⟩;rw[HL9.out,HL2.out]
 have h0:((x:Int) == 0)=false:=by simp;omega
 have h1:((x:Int) == 1)=false:=by simp;omega
 have h0':¬ (x:Int)=0:=by omega
 have h1':¬ (x:Int)=1:=by omega
 clear hC hx0 hx1;go_wp2_with fail;clear h0 h1 h0' h1';have hmd:=Mid.drew1 w6;replace B2:=B2.mid hmd oZr;replace B3:=B3.mid hmd oZr;replace G5:=G5.mid hmd oZr;replace G6:=G6.mid hmd oZr;replace hO5:=hO5.mid hmd oZl;replace hO6:=hO6.mid hmd oZl;replace hM:=hM.trans hmd;clear hmd;obtain⟨g0,g1,g2⟩:=G5.c3 rfl;obtain⟨k0,k1,k2⟩:=G6.c3 rfl;refine aAl (S:=(fun w'=>(w'.cell? ⟨gb,0,none⟩=some (.int .i64 r1)/\w'.cell? ⟨gb,1,none⟩=some (.int .i64 s1)/\w'.cell? ⟨gb,2,none⟩=some (.slice Ae L1 ce))/\w'.cell? ⟨gb+1,0,none⟩=some (.int .i64 r2)/\w'.cell? ⟨gb+1,1,none⟩=some (.int .i64 s2)/\w'.cell? ⟨gb+1,2,none⟩=some (.slice Ae2 L2 ce2))) [] (by kernel_rfl) ⟨⟨g0,g1,g2⟩,k0,k1,k2⟩ ?_;generalize World.drew w6=wz at B2 B3 G5 G6 hO5 hO6 hM g0 g1 g2 k0 k1 k2 |-;have hS:(wz.cell? ⟨gb,0,none⟩=some (.int .i64 r1)/\wz.cell? ⟨gb,1,none⟩=some (.int .i64 s1)/\wz.cell? ⟨gb,2,none⟩=some (.slice Ae L1 ce))/\wz.cell? ⟨gb+1,0,none⟩=some (.int .i64 r2)/\wz.cell? ⟨gb+1,1,none⟩=some (.int .i64 s2)/\wz.cell? ⟨gb+1,2,none⟩=some (.slice Ae2 L2 ce2):=⟨⟨g0,g1,g2⟩,k0,k1,k2⟩
 refine tkZ [] 0 rfl hS ?_;try simp only[oP]
 refine tkZ [] 1 rfl hS ?_;try simp only[oP]
 clear hS g0 g1 g2 k0 k1 k2;have G5l:=G5.1;have G6l:=G6.1;obtain⟨q0,q1,q2⟩:=B2.c3 rfl;have qf:=B2.2.2;have ql:=B2.1;have ql3:=B3.1;have hst:=Mid.s3 wz w.heap.size (.int .i64 r1) (.int .i64 s1) (.slice Ae L1 ce);have G5q:=G5.mid hst (Or.inr (by omega));have G6q:=G6.mid hst (Or.inr (by omega));have B3q:=B3.mid hst (Or.inr (by omega));have V2:=B2.s3 (.int .i64 r1) (.int .i64 s1) (.slice Ae L1 ce);have O1:=hO5.mid hst (Or.inl (by omega));have O2:=hO6.mid hst (Or.inl (by omega));have M1:=hM.transNew hst (Or.inl oN);have hz1:=hst.size;refine rdZ 2 rfl (fun K hK=>?_);go_simp;refine hK.out _ _ (Or.inr ⟨G5q.c3 rfl,G6q.c3 rfl⟩) (fun _=>?_);clear hK K;try simp only[oP]
 clear hst B2 B3 G5 G6 hO5 hO6 hM q0 q1 q2 qf ql G5l G6l;generalize ((wz.setCell ⟨w.heap.size,0,none⟩ (.int .i64 r1)).setCell ⟨w.heap.size,1,none⟩ (.int .i64 s1)).setCell ⟨w.heap.size,2,none⟩ (.slice Ae L1 ce)=wS at G5q G6q B3q V2 O1 O2 M1 hz1 |-;obtain⟨q0,q1,q2⟩:=B3q.c3 rfl;have qf:=B3q.2.2;have ql:=B3q.1;have ql2:=V2.1;have G5l:=G5q.1;have G6l:=G6q.1;have hst:=Mid.s3 wS (w.heap.size+1) (.int .i64 r2) (.int .i64 s2) (.slice Ae2 L2 ce2);have V2q:=V2.mid hst (Or.inl (by omega));have V3:=B3q.s3 (.int .i64 r2) (.int .i64 s2) (.slice Ae2 L2 ce2);replace G5q:=G5q.mid hst (Or.inr (by omega));replace G6q:=G6q.mid hst (Or.inr (by omega));have O9:=oH ((O1.mid hst (Or.inl (by omega))).wide (lo':=w.heap.size) (by omega) (Nat.le_trans O1.size hst.size) oN);have O9b:=oH ((O2.mid hst (Or.inl (by omega))).wide (lo':=w.heap.size) (by omega) (Nat.le_trans O2.size hst.size) oN);have M9:=oH (M1.transNew hst (Or.inl (by omega)));refine rdZ 3 rfl (fun K hK=>?_);go_simp;refine hK.out _ _ (Or.inr ⟨G5q.c3 rfl,G6q.c3 rfl⟩) (fun _=>?_);clear hK K;try simp only[oP]
 refine aAh (by kernel_rfl) ?_ _;clear hst O1 O2 M1 q0 q1 q2 qf ql B3q V2 G5q G6q;obtain⟨q0,q1,q2⟩:=V2q.c3 rfl;obtain⟨k0,k1,k2⟩:=V3.c3 rfl;go_wp2_with fail;refine bodyPost_ret (v:=.tuple #[.agg #[.int .i64 r1,.int .i64 s1,.slice Ae L1 ce],.agg #[.int .i64 r2,.int .i64 s2,.slice Ae2 L2 ce2]]) (by simp[results,Tryz.results118,go_sem,q0,q1,q2,k0,k1,k2]) rfl ⟨r1,s1,Ae,ce,es,r2,s2,Ae2,ce2,es2,?_,HD.out,HD2.out,O9.out,O9b.out,M9.out⟩;rw[HL.out,HL2.out]
end Go.Proofs.YtkimajabegojoaaGreat
