/- Lemmas. -/
import Derived.Test.YtkimajabegojoaaGreatMt9
import Derived.Test.YtkimajabegojoaaGreatMt8
import Derived.Test.YtkimajabegojoaaGreatMt2
import Derived.Test.YtkimajabegojoaaGreatMt4
import Derived.Test.YtkimajabegojoaaGreatMt6
import Derived.Test.YtkimajabegojoaaGreatMt7
import Derived.Test.YtkimajabegojoaaGreatMt3
import Derived.Test.YtkimajabegojoaaGreatMt1
import Derived.Test.YtkimajabegojoaaGreatMt5
namespace Go.Proofs.YtkimajabegojoaaGreat
set_option linter.unusedVariables false
set_option linter.unusedSimpArgs false
set_option maxHeartbeats 40000000
set_option maxRecDepth 100000
open Go.RowKit
theorem aLb(r s:Int)(A:Option Addr)(es:List Ed)(c:Nat)(Aw:Option Addr)(wd:List Int)(cw:Nat)(w:World)(lo hi lo' hi':Nat)(hr:RG w lo hi A es)(hw:RV w lo' hi' Aw (aAd wd))(hl:es.length<=1048576)(hwl:wd.length<=1048576)(hok:OkI wd)(rs:Int)(res:List Ed)(b:Bool)(hres:PathIs r s es 0 wd 0 rs res b) :
  Calls Tryz.prog 181 #[aAw r s A es.length c,.slice Aw wd.length cw] w fun e w'=>∃ A1 c1,e=.returned (.tuple #[aAw r rs A1 res.length c1,.bool b])/\OG w' w.heap.size w'.heap.size A1 c1 res/\Mid 0 0 w w':=by
 have hm0:Mid 0 0 w ((w.alloc (.cells #[.int .i64 r,.int .i64 s,.slice A es.length c] 35)).alloc (.cells #[.int .i64 0,.int .i64 0,.slice none 0 0] 35)):=(Mid.alloc _ _).trans (Mid.alloc _ _);have b0:=(Box.new w #[.int .i64 r,.int .i64 s,.slice A es.length c] 35).mid (Mid.alloc _ (.cells #[.int .i64 0,.int .i64 0,.slice none 0 0] 35)) oZr;have b2:=Box.new (w.alloc (.cells #[.int .i64 r,.int .i64 s,.slice A es.length c] 35)) #[.int .i64 0,.int .i64 0,.slice none 0 0] 35;simp only[World.size_alloc] at b2;have HR:=oH hres;have HOK:=oH hok;clear hres hok;go_enter Tryz.func181,Tryz.ntmps181
 go_wp2_with fail;generalize ((w.alloc (.cells #[.int .i64 r,.int .i64 s,.slice A es.length c] 35)).alloc (.cells #[.int .i64 0,.int .i64 0,.slice none 0 0] 35))=w1 at hm0 b0 b2 |-;have hs1:w.heap.size+1<w1.heap.size:=b2.1;with_reducible refine(aHP r s A es c 0 Aw wd cw 0 w1 _ _ _ _ (hr.mid hm0 oZl) (hw.mid hm0 oZl) hl hwl HOK.out rs res b HR.out).mono ?_
 rintro en w2 ⟨A2,c2,rfl,ho2,hm2⟩;replace b0:=b0.mid hm2 oZr;replace b2:=b2.mid hm2 oZr;replace hm0:=hm0.trans hm2;have hs2:=hm2.size;have ha2:=Mid.alloc w2 (.cells #[.int .i64 r,.int .i64 rs,.slice A2 res.length c2] 35);have Y2:=Box.new w2 #[.int .i64 r,.int .i64 rs,.slice A2 res.length c2] 35;have hs4:w.heap.size+1<w2.heap.size:=by omega
 have hs5:w.heap.size<w2.heap.size:=by omega
 obtain⟨q0,q1,q2⟩:=Y2.c3 rfl;obtain⟨z0,z1,z2⟩:=b2.c3 rfl;have zf:=b2.2.2;clear ha2;go_wp2_with fail;refine bodyPost_ret (v:=.tuple #[.agg #[.int .i64 r,.int .i64 rs,.slice A2 res.length c2],.bool b]) (by simp[results,Tryz.results181,go_sem,z0,z1,z2,zf,q0,q1,q2,hs4,hs5,World.cell?_alloc_lt]) rfl ⟨A2,c2,rfl,?_,?_⟩
 .refine OG.wide (OG.mid ho2 (a:=w.heap.size+1) (b:=w.heap.size+2) ?_ (Or.inl (by omega))) (by omega) (by simp;try omega) oN
  repeat (first|exact Mid.refl _ _ _|refine Mid.trans ?_ (Mid.zero (Mid.alloc _ _))|refine Mid.stored ?_ _ (by simp;try omega) (by simp;try omega))
 repeat (first|exact hm0|refine Mid.trans ?_ (Mid.alloc _ _)|refine Mid.storeNew ?_ (by simp;try omega) _)
theorem aSi{x:Int}{b:Bool}(hb:b=true↔1<=x/\x<=3):inB x 1 3=b:=by
 cases b
 .have h:¬ (1<=x/\x<=3):=fun h=>by have:=hb.2 h;cases this
  unfold inB;simp;omega
 have:=hb.1 rfl;unfold inB;simp;omega
def aOK(rk:Int)(d:List (List Int)):Prop:=1<=rk/\rk<=3/\d.length<=6/\(∀ xs∈d,IsW rk xs)/\aDR d<40
theorem aEK(A:Option Addr)(d:List (List Int))(c:Nat)(w:World)(lo hi:Nat)(hr:RSS w lo hi A d)(hl:d.length+aDR d<=1048576) :
  Calls Tryz.prog 20 #[.slice A d.length c] w fun e w'=>e=.returned (.int .i64 (aDR d:Nat))/\w=w':=by
 go_enter Tryz.func20,Tryz.ntmps20
 go_wp2_with fail;go_loop [3,4] (fun n i=>∃ k:Nat,k<=d.length/\i=.int .i64 k/\n=.int .i64 (aDR (d.take k):Nat)) (fun _ i=>d.length - (intOf i).toNat)
 case atStart=>exact⟨0,oZ,rfl,by simp[aDR]⟩
 obtain⟨k,hk,rfl,rfl⟩:=hrel;have hs:=aCX d k;by_cases hlt:k<d.length
 .obtain⟨b,off,A1,c1,xs,rfl, -, -,hx,hcx, -⟩:=hr.row hlt
  have hst:=aBH hx;have hs2:=aCX d (k+1);have hsum:aDR (d.take k)+xs.length<=1048576:=by omega
  have hlt3:(k:Int)<(d.length:Int):=by omega
  have HST:=oH hst;clear hst hs2 hx;go_wp2_with fail;go_round
  case rel=>exact⟨k+1,by omega,by go_num,by rw[HST.out];go_num⟩
  simp[intOf];omega
 obtain rfl:k=d.length:=by omega
 go_wp2_with fail;go_ret;exact⟨by first|rfl|rw[List.take_length]|simp,rfl⟩
theorem aBS{r:Bool}{p:Prop}(h:r=true↔p)(hn:¬ p):r=false:=by
 cases r
 .rfl
 exact absurd (h.1 rfl) hn
theorem aLc(rk:Int)(A:Option Addr)(d:List (List Int))(c:Nat)(w:World)(lo hi:Nat)(hr:RSS w lo hi A d)(hok:∀ xs∈d,OkI xs)(hl:d.length+aDR d<=1048576)(r:Bool)(hres:r=true↔aOK rk d) :
  Calls Tryz.prog 14 #[.int .i64 rk,.slice A d.length c] w fun e w'=>e=.returned (.bool r)/\∃ n,w'=w.drewN n:=by
 have HOK:=oH hok;have HR:=oH hres;clear hok hres;go_enter Tryz.func14,Tryz.ntmps14
 go_wp2_with fail;go_loopw [5] (fun i wr=>∃ k:Nat,k<=d.length/\i=.int .i64 k/\WordsTo rk d k/\∃ n,wr=w.drewN n) (fun i _=>d.length - (intOf i).toNat)
 case atStart=>exact⟨0,oZ,rfl,WordsTo.zero _ _,0,rfl⟩
 obtain⟨k,hk,rfl,hw,nd,rfl⟩:=hrel;have HW:=oH hw;clear hw;by_cases hlt:k<d.length
 .obtain⟨b,off,A1,c1,xs,rfl, -, -,hx,hcx,hrx⟩:=hr.row hlt
  have hlx:=aTc (List.mem_of_getElem? hx) hl;have hox:=HOK.out xs (List.mem_of_getElem? hx);have HOX:=oH hox;have HX:=oH hx;have hlt3:(k:Int)<(d.length:Int):=by omega
  clear hx hox;obtain⟨v,hv⟩:=aNG (IsW rk xs);have HV:=oH hv;clear hv;cases hvc:v with
 |false=>
   subst hvc;go_wp2_with fail;with_reducible refine(aDD rk A1 xs c1 _ _ (hrx.rs.drewN nd) HOX.out hlx false HV.out).mono ?_
   rintro e w' ⟨rfl,n2,rfl⟩;go_wp2_with fail;go_ret;obtain rfl:r=false:=aBS HR.out (fun h=>by have:=HV.out.2 (h.2.2.2.1 xs (List.mem_of_getElem? HX.out));cases this);exact⟨rfl,_,by first|rfl|exact dn _ _ _⟩
 |true=>
   subst hvc;have HV2:=oH (HV.out.1 rfl);clear HV;go_wp2_with fail;with_reducible refine(aDD rk A1 xs c1 _ _ (hrx.rs.drewN nd) HOX.out hlx true (iff_of_true rfl HV2.out)).mono ?_
   rintro e w' ⟨rfl,n2,rfl⟩;go_wp2_with fail;go_roundw
   case rel=>exact⟨k+1,by omega,by go_num,HW.out.succ HX.out HV2.out,_,by first|rfl|exact dn _ _ _⟩
   simp[intOf];omega
 obtain rfl:k=d.length:=by omega
 by_cases hb:inB rk 1 3=false
 .obtain rfl:r=false:=aBS HR.out (fun h=>by simp[inB] at hb;have:=h.1;have:=h.2.1;omega)
  have HB:=oH hb;clear hb;go_wp2_with fail;with_reducible refine(aCM _ _ _ _).mono ?_
  rintro e w' ⟨rfl,rfl⟩;rw[HB.out];go_wp2_with fail;go_ret;exact⟨rfl,_,rfl⟩
 have hb':inB rk 1 3=true:=by simpa using hb
 have HB:=oH hb';have hrk:1<=rk/\rk<=3:=by simpa [inB] using hb'
 clear hb hb';by_cases h6:6<d.length
 .obtain rfl:r=false:=aBS HR.out (fun h=>by have:=h.2.2.1;omega)
  have h63:¬ (d.length:Int)<=6:=by omega
  go_wp2_with fail;with_reducible refine(aCM _ _ _ _).mono ?_
  rintro e w' ⟨rfl,rfl⟩;rw[HB.out];go_wp2_with fail;go_ret;exact⟨by first|rfl|(simp;omega),_,rfl⟩
 have h63:(d.length:Int)<=6:=by omega
 by_cases h40:aDR d<40
 .obtain rfl:r=true:=HR.out.2 ⟨hrk.1,hrk.2,by omega,aNA.1 HW.out,h40⟩
  have h403:(aDR d:Int)<40:=by omega
  go_wp2_with fail;with_reducible refine(aCM _ _ _ _).mono ?_
  rintro e w' ⟨rfl,rfl⟩;rw[HB.out];go_wp2_with fail;with_reducible refine(aEK A d c (w.drewN nd) _ _ (hr.mid ((Mid.refl 0 0 w).drewN nd) oZl) hl).mono ?_
  rintro e w' ⟨rfl,rfl⟩;go_wp2_with fail;go_ret;exact⟨by simp[h403],_,rfl⟩
 obtain rfl:r=false:=aBS HR.out (fun h=>h40 h.2.2.2.2);have h403:¬ (aDR d:Int)<40:=by omega
 go_wp2_with fail;with_reducible refine(aCM _ _ _ _).mono ?_
 rintro e w' ⟨rfl,rfl⟩;rw[HB.out];go_wp2_with fail;with_reducible refine(aEK A d c (w.drewN nd) _ _ (hr.mid ((Mid.refl 0 0 w).drewN nd) oZl) hl).mono ?_
 rintro e w' ⟨rfl,rfl⟩;go_wp2_with fail;go_ret;exact⟨by simp;omega,_,rfl⟩
theorem aSd{r:Int}(h:1<=r/\r<=3):IsGr r 1 []:=⟨h,by omega,by simp,by simp,List.Pairwise.nil⟩
structure FlOk (r:Int) (l:List (List Int)) (k:Nat) (g:Int × List Ed):Prop where
 gr:IsGr r g.1 g.2
 sz:g.1<=1+(aDR (l.take k):Nat)
 ln:g.2.length<=aDR (l.take k)
theorem FlOk.path{r:Int}{l:List (List Int)}{k:Nat}{g:Int × List Ed}{w:List Int}(ha:aOK r l)(h:FlOk r l k g)(hw:l[k]?=some w)(hn:w≠[]):PathOk r g.1 g.2 0 w 0:=by
 have h1:=aBH hw;have h2:=aCX l (k+1);have h3:=ha.2.2.2.2;have h4:=h.sz;have h5:=h.ln;have h6:=h.gr.size;exact⟨h.gr,by omega,by omega,ha.2.2.2.1 w (List.mem_of_getElem? hw),hn,by omega,by omega⟩
theorem FlOk.step{r:Int}{l:List (List Int)}{k:Nat}{g:Int × List Ed}{w:List Int}(ha:aOK r l)(h:FlOk r l k g)(hw:l[k]?=some w):FlOk r l (k+1) (aFV g w):=by
 have h1:=aBH hw;by_cases hn:w=[]
 .subst hn
  have h4:=h.sz;have h5:=h.ln;simp only[List.length_nil] at h1;rw[aFV,if_pos rfl];exact⟨h.gr,by omega,by omega⟩
 have hp:=h.path ha hw hn;have h4:=h.sz;have h5:=h.ln;have h6:=aDm (g.2++aDw 0 g.1 w 0 w.length);have h7:0<w.length:=List.length_pos_iff.2 hn;rw[List.length_append,aGW] at h6;rw[aFV,if_neg hn];exact⟨aRe hp,by simp only;omega,by simp only;omega⟩
theorem FlOk.zero{r:Int}(l:List (List Int))(h:1<=r/\r<=3):FlOk r l 0 (1,[]):=⟨aSd h,by simp[aDR],by simp⟩
theorem aUp{r:Int}{l:List (List Int)}(ha:aOK r l):∀ k,k<=l.length->FlOk r l k (aEw (l.take k) (1,[]))
|0,_=>FlOk.zero l ⟨ha.1,ha.2.1⟩
|k+1,hk=>by
  have hw:=List.getElem?_eq_getElem (l:=l) (i:=k) (by omega);rw[aJL hw];exact(aUp ha k (by omega)).step ha hw
def aUT(rank:Int)(l:List (List Int))(rr rs:Int)(res:List Ed)(b:Bool):Prop:=
 (b=true/\aOK rank l/\rr=rank/\rs=(aEw l (1,[])).1/\res=(aEw l (1,[])).2) \/ (b=false/\¬ aOK rank l/\rr=0/\rs=0/\res=[])
def aTh(rank:Int)(l:List (List Int))(rr rs:Int)(res:List Ed)(b:Bool):Prop:=
 (b=true/\aOK rank l/\rr=rank/\rs=(coreA rank (aEw l (1,[]))).1/\res=(coreA rank (aEw l (1,[]))).2) \/ (b=false/\¬ aOK rank l/\rr=0/\rs=0/\res=[])
theorem aGw(rank:Int)(l:List (List Int)):∃ rr rs res b,aTh rank l rr rs res b:=by
 by_cases h:aOK rank l
 .exact⟨_,_,_,_,.inl ⟨rfl,h,rfl,rfl,rfl⟩⟩
 exact⟨_,_,_,_,.inr ⟨rfl,h,rfl,rfl,rfl⟩⟩
theorem aQk{r:Int}{l:List (List Int)}(ha:aOK r l):IsGr r (aEw l (1,[])).1 (aEw l (1,[])).2:=by
 have:=(aUp ha l.length oN).gr;rw[List.take_length] at this;exact this
theorem aLg(rank:Int)(w:World)(h:1<=rank/\rank<=3) :
  Calls Tryz.prog 180 #[.int .i64 rank] w fun e w'=>e=.returned (.tuple #[aAw rank 1 none 0 0,.bool true])/\Mid 0 0 w w':=by
 have hm0:Mid 0 0 w (w.alloc (.cells #[.int .i64 0,.int .i64 0,.slice none 0 0] 35)):=Mid.alloc _ _;have b2:=Box.new w #[.int .i64 0,.int .i64 0,.slice none 0 0] 35;have hi1:inB rank 1 3=true:=aSi (iff_of_true rfl h);go_enter Tryz.func180,Tryz.ntmps180
 go_wp2_with fail;generalize w.alloc (.cells #[.int .i64 0,.int .i64 0,.slice none 0 0] 35)=w1 at hm0 b2 |-;have hs1:w.heap.size<w1.heap.size:=b2.1;with_reducible refine(aBJ hi1 _).mono ?_
 rintro en w2 ⟨rfl,rfl⟩;obtain⟨z0,z1,z2⟩:=b2.c3 rfl;have zf:=b2.2.2;go_wp2_with fail;refine bodyPost_ret (v:=.tuple #[.agg #[.int .i64 rank,.int .i64 1,.slice none 0 0],.bool true]) (by simp[results,Tryz.results180,go_sem,z0,z1,z2,zf]) rfl ⟨rfl,?_⟩;repeat (first|exact hm0|refine Mid.storeNew ?_ (by simp;try omega) _)
theorem aHb(rank:Int)(A:Option Addr)(l:List (List Int))(c:Nat)(w:World)(lo hi:Nat)(hr:RSS w lo hi A l)(hok:∀ xs∈l,OkI xs)(hl:l.length+aDR l<=1048576)(rr rs:Int)(res:List Ed)(b:Bool)(hres:aUT rank l rr rs res b) :
  Calls Tryz.prog 103 #[.int .i64 rank,.slice A l.length c] w fun e w'=>∃ A1 c1,e=.returned (.tuple #[aAw rr rs A1 res.length c1,.bool b])/\OG w' w.heap.size w'.heap.size A1 c1 res/\Mid 0 0 w w':=by
 have HR:=oH hres;have HOK:=oH hok;clear hres hok;obtain⟨b1,hb1⟩:=aAC (aOK rank l);have H1:=oH hb1;clear hb1;have hm0:Mid 0 0 w (w.alloc (.cells #[.int .i64 0,.int .i64 0,.slice none 0 0] 35)):=Mid.alloc _ _;have b2:=Box.new w #[.int .i64 0,.int .i64 0,.slice none 0 0] 35;go_enter Tryz.func103,Tryz.ntmps103
 go_wp2_with fail;generalize w.alloc (.cells #[.int .i64 0,.int .i64 0,.slice none 0 0] 35)=w1 at hm0 b2 |-;have hs1:w.heap.size<w1.heap.size:=b2.1;with_reducible refine(aLc rank A l c w1 _ _ (hr.mid hm0 oZl) HOK.out hl b1 H1.out).mono ?_
 rintro en w2 ⟨rfl,nd,hw2⟩;have hm2:Mid 0 0 w1 w2:=by rw[hw2];exact(Mid.refl 0 0 w1).drewN nd
 replace b2:=b2.mid hm2 oZr;replace hm0:=hm0.trans hm2;clear hw2 hm2;cases b1 with
|false=>
  have hno:¬ aOK rank l:=fun h=>by have:=H1.out.2 h;cases this
  obtain⟨rfl,rfl,rfl,rfl⟩:b=false/\rr=0/\rs=0/\res=[]:=by
   rcases HR.out with⟨-,h, -⟩|⟨h1, -,h2⟩
   .exact absurd h hno
   exact⟨h1,h2⟩
  obtain⟨z0,z1,z2⟩:=b2.c3 rfl;have zf:=b2.2.2;clear hno HR;go_wp2_with fail;refine bodyPost_ret (v:=.tuple #[.agg #[.int .i64 0,.int .i64 0,.slice none 0 0],.bool false]) (by simp[results,Tryz.results103,go_sem,z0,z1,z2,zf]) rfl ⟨none,0,rfl,?_,?_⟩
  .exact⟨oN,⟨rfl,.inl ⟨rfl,rfl⟩⟩,fun g hg=>by simp[Value.ownBlock] at hg⟩
  repeat (first|exact hm0|refine Mid.trans ?_ (Mid.alloc _ _)|refine Mid.storeNew ?_ (by simp;try omega) _)
|true=>
 have hare:=H1.out.1 rfl;have HA:=oH hare;have hrk:1<=rank/\rank<=3:=⟨hare.1,hare.2.1⟩
 obtain⟨rfl,rfl,hrs,hre⟩:b=true/\rr=rank/\rs=(aEw l (1,[])).1/\res=(aEw l (1,[])).2:=by
  rcases HR.out with⟨h1, -,h2⟩|⟨-,h, -⟩
  .exact⟨h1,h2⟩
  exact absurd hare h
 have HRS:=oH hrs;have HRE:=oH hre;clear hare H1 HR hrs hre;go_wp2_with fail;with_reducible refine(aLg rr _ hrk).mono ?_
 rintro en w4 ⟨rfl,hm4⟩;have hs4:=hm4.size;have ha4:=Mid.alloc w4 (.cells #[.int .i64 rr,.int .i64 1,.slice none 0 0] 35);have Y4:=Box.new w4 #[.int .i64 rr,.int .i64 1,.slice none 0 0] 35;replace b2:=b2.mid hm4 oZr;replace hm0:=hm0.trans hm4;have hb4:=b2.1;replace b2:=b2.mid ha4 oZr;replace hm0:=hm0.trans ha4;go_wp2_with fail;generalize w4.alloc (.cells #[.int .i64 rr,.int .i64 1,.slice none 0 0] 35)=w5 at b2 Y4 hm0 |-;have hs5:w4.heap.size<w5.heap.size:=Y4.1;clear ha4 hm4;generalize hG:w4.heap.size=Gb at Y4 hb4 hs5;clear hG hs4;have hhi:=hr.size;go_loopw [8] (fun i wr=>∃(k:Nat) (A2:Option Addr) (c2 hi2:Nat) (g:Int × List Ed),k<=l.length/\i=.int .i64 k/\Hid (g=aEw (l.take k) (1,[]))/\Hid (FlOk rr l k g)/\OG wr (Gb+1) hi2 A2 c2 g.2 /\
   Box wr w.heap.size [.int .i64 0,.int .i64 0,.slice none 0 0]/\Box wr Gb [.int .i64 rr,.int .i64 g.1,.slice A2 g.2.length c2]/\Mid 0 0 w wr) (fun i _=>l.length - (intOf i).toNat)
 case atStart=>exact⟨0,none,0,_,(1,[]),oZ,rfl,oH rfl,oH (FlOk.zero l hrk),OG.nil,b2,Y4,hm0⟩
 clear b2 Y4 hm0 hs5;obtain⟨wo,hwo⟩:∃ wo,wo=wr:=⟨_,rfl⟩
 subst hwo;obtain⟨k,A2,c2,hi2,⟨gs,ge⟩,hk,rfl,HGE,HFL,hown,Z2,Z3,hm⟩:=hrel;dsimp only at hown Z3;have hGo:Gb<wo.heap.size:=Z3.1;have hgl:=HFL.out.gr.len;dsimp only at hgl;by_cases hlt:k<l.length
 .obtain⟨Bp,op,Ap,cp,p,rfl, -,hBp,hp,hcp,hrp⟩:=(hr.mid hm oZl).row hlt
  have hpl:p.length<=1048576:=by have:=aGk (List.mem_of_getElem? hp);omega
  have hk1:(k:Int)<(l.length:Int):=by omega
  have hk0:(0:Int)<=(k:Int):=by omega
  have hBps:Bp<wo.heap.size:=by omega
  have HP:=oH hp;have hft:=aJL hp (1,[]);rw[<- HGE.out] at hft;have HFT:=oH hft;have HST:=oH (HFL.out.step HA.out hp);clear hp hft;obtain⟨bb,hPI⟩:∃ bb,PathIs rr gs ge 0 p 0 (aFV (gs,ge) p).1 (aFV (gs,ge) p).2 bb:=by
   by_cases hne:p=[]
   .subst hne
    rw[aFV,if_pos rfl];exact⟨false,.inr ⟨rfl,fun h=>h.ne rfl,rfl,rfl⟩⟩
   rw[aFV,if_neg hne];exact⟨true,.inl ⟨rfl,HFL.out.path HA.out HP.out hne,rfl,rfl⟩⟩
  obtain⟨g',hg'⟩:∃ g',aFV (gs,ge) p=g':=⟨_,rfl⟩
  rw[hg'] at hPI;have HG2:Hid (g'=aEw (l.take (k+1)) (1,[])):=oH (by rw[HFT.out,<- hg']);have HF2:Hid (FlOk rr l (k+1) g'):=oH (by rw[<- hg'];exact HST.out);have hP:=fun W (h1:RG W (Gb+1) hi2 A2 ge) (h2:RV W lo hi Ap (aAd p))=>aLb rr gs A2 ge c2 Ap p cp W _ _ _ _ h1 h2 (by omega) hpl (HOK.out p (List.mem_of_getElem? HP.out)) g'.1 g'.2 bb hPI;have HPP:=oH hP;clear hg' HST HFT hPI hP;go_wp2_with fail;have hmd:=Mid.drew1 wo;have hsd:=hmd.size;replace Z2:=Z2.mid hmd oZr;replace Z3:=Z3.mid hmd oZr;replace hown:=hown.mid hmd oZl;replace hm:=hm.trans hmd;replace hrp:=hrp.mid hmd oZl;replace hcp:=aAa hmd hBps oZr hcp;obtain⟨q0,q1,q2⟩:=Z3.c3 rfl;clear hmd;refine aAl (S:=(fun w'=>(w'.cell? ⟨Gb,0,none⟩=some (.int .i64 rr)/\w'.cell? ⟨Gb,1,none⟩=some (.int .i64 gs)/\w'.cell? ⟨Gb,2,none⟩=some (.slice A2 ge.length c2))/\w'.cell? ⟨Bp,op+k,none⟩=some (.slice Ap p.length cp))) [] (by kernel_rfl) ⟨⟨q0,q1,q2⟩,hcp⟩ ?_;generalize World.drew wo=wz at Z2 Z3 hown hm hrp hcp q0 q1 q2 hsd |-;have hS:(wz.cell? ⟨Gb,0,none⟩=some (.int .i64 rr)/\wz.cell? ⟨Gb,1,none⟩=some (.int .i64 gs)/\wz.cell? ⟨Gb,2,none⟩=some (.slice A2 ge.length c2))/\wz.cell? ⟨Bp,op+k,none⟩=some (.slice Ap p.length cp):=⟨⟨q0,q1,q2⟩,hcp⟩
  have hBz:Bp<wz.heap.size:=by omega
  refine tkZ [] 0 rfl hS ?_;try simp only[oP]
  refine tkZ [] 1 rfl hS ?_;try simp only[oP]
  refine tkZ [] 2 rfl hS ?_;try simp only[oP]
  refine tkZ [] 3 rfl hS ?_;try simp only[oP]
  refine tkZ [] 4 rfl hS ?_;try simp only[oP]
  refine aAW (rs:=[5,9]) (by kernel_rfl) (by simp) (AllReadyZ.cons rfl (fun K hK=>?_) (AllReadyZ.cons rfl (fun K hK=>?_) AllReadyZ.nil));focus
   (go_simp;(with_reducible refine(HPP.out _ hown.rg hrp).mono ?_);rintro en w10 ⟨A6,c6,rfl,ho6,hm10⟩;have Z30:=Z3.mid hm10 oZr;have hcp0:=aAa hm10 hBz oZr hcp;go_wp2_with fail)
   refine hK.out _ _ (Or.inr ⟨Z30.c3 rfl,hcp0⟩) (fun _=>?_);clear hK K;try simp only[oP]
   replace Z2:=Z2.mid hm10 oZr;replace hm:=hm.trans hm10;have hs10:=hm10.size;have hS10:=And.intro (Z30.c3 rfl) hcp0;clear Z3 hS q0 q1 q2 hown HPP;refine tkZ [] 6 rfl hS10 ?_;try simp only[oP]
   refine tkZ [] 7 rfl hS10 ?_;try simp only[oP]
   refine tkZ [] 8 rfl hS10 ?_;try simp only[oP]
   have hal:=Mid.alloc w10 (.cells #[.int .i64 0,.int .i64 0,.slice none 0 0] 35);have Z31:=Z30.mid hal oZr;have hcp1:=aAa hal (by omega) oZr hcp0;refine rdZ 9 rfl (fun K hK=>?_);go_simp;refine hK.out _ _ (Or.inr ⟨Z31.c3 rfl,hcp1⟩) (fun _=>?_);clear hK K;try simp only[oP]
   clear hal Z31 hcp1;have hal:=Mid.alloc w10 (.cells #[.int .i64 rr,.int .i64 g'.1,.slice A6 g'.2.length c6] 35);have Z31:=Z30.mid hal oZr;have hcp1:=aAa hal (by omega) oZr hcp0;refine rdZ 10 rfl (fun K hK=>?_);go_simp;refine hK.out _ _ (Or.inr ⟨Z31.c3 rfl,hcp1⟩) (fun _=>?_);clear hK K;try simp only[oP]
   refine rdZ 11 rfl (fun K hK=>?_);go_simp;refine hK.out _ _ (Or.inr ⟨Z31.c3 rfl,hcp1⟩) (fun _=>?_);clear hK K;try simp only[oP]
   refine aAh (by kernel_rfl) ?_ _;have Zx:=Box.new w10 #[.int .i64 rr,.int .i64 g'.1,.slice A6 g'.2.length c6] 35;replace ho6:=ho6.mid hal oZl;replace Z2:=Z2.mid hal oZr;replace hm:=hm.trans hal;have hgz:Gb+1<=w10.heap.size:=by omega
   have Z3:=Z31;clear Z30 Z31 hS10 hal hcp0 hcp1 hm10;generalize w10.alloc (.cells #[.int .i64 rr,.int .i64 g'.1,.slice A6 g'.2.length c6] 35)=w11 at Z2 Z3 Zx ho6 hm |-;generalize w10.heap.size=Gz at Zx hgz ho6 |-
  rotate_left
  focus
   have hal:=Mid.alloc wz (.cells #[.int .i64 0,.int .i64 0,.slice none 0 0] 35);have Z31:=Z3.mid hal oZr;have hcp1:=aAa hal hBz oZr hcp;have Zx:=Box.new wz #[.int .i64 0,.int .i64 0,.slice none 0 0] 35;have hown1:=hown.mid hal oZl;have hrp1:=hrp.mid hal oZl;have hsl:=hal.size;go_simp;refine hK.out _ _ (Or.inr ⟨Z31.c3 rfl,hcp1⟩) (fun _=>?_);clear hK K;try simp only[oP]
   replace Z2:=Z2.mid hal oZr;replace hm:=hm.trans hal;clear Z3 hS q0 q1 q2 hown hrp hcp hal;have hzb:wz.heap.size<(wz.alloc (.cells #[.int .i64 0,.int .i64 0,.slice none 0 0] 35)).heap.size:=Zx.1;generalize wz.alloc (.cells #[.int .i64 0,.int .i64 0,.slice none 0 0] 35)=wy at Z31 Zx hown1 hrp1 hcp1 Z2 hm hsl hzb |-;have hBy:Bp<wy.heap.size:=by omega
   refine rdZ 5 rfl (fun K hK=>?_)
   (go_simp;(with_reducible refine(HPP.out _ hown1.rg hrp1).mono ?_);rintro en w10 ⟨A6,c6,rfl,ho6,hm10⟩;have Z30:=Z31.mid hm10 oZr;have hcp0:=aAa hm10 hBy oZr hcp1;go_wp2_with fail)
   refine hK.out _ _ (Or.inr ⟨Z30.c3 rfl,hcp0⟩) (fun _=>?_);clear hK K;try simp only[oP]
   replace Z2:=Z2.mid hm10 oZr;replace Zx:=Zx.mid hm10 oZr;replace hm:=hm.trans hm10;have hs10:=hm10.size;have hS10:=And.intro (Z30.c3 rfl) hcp0;clear Z31 hown1 HPP hrp1 hcp1;refine tkZ [] 6 rfl hS10 ?_;try simp only[oP]
   refine tkZ [] 7 rfl hS10 ?_;try simp only[oP]
   refine tkZ [] 8 rfl hS10 ?_;try simp only[oP]
   have zzf:=Zx.2.2;obtain⟨zz0,zz1,zz2⟩:=Zx.c3 rfl;have hst:=Mid.s3 w10 wz.heap.size (.int .i64 rr) (.int .i64 g'.1) (.slice A6 g'.2.length c6);have Z32:=Z30.mid hst (Or.inl (by omega));have hcp2:=aAa hst (by omega) (Or.inl hBz) hcp0;refine rdZ 10 rfl (fun K hK=>?_);go_simp;refine hK.out _ _ (Or.inr ⟨Z32.c3 rfl,hcp2⟩) (fun _=>?_);clear hK K;try simp only[oP]
   refine rdZ 11 rfl (fun K hK=>?_);go_simp;refine hK.out _ _ (Or.inr ⟨Z32.c3 rfl,hcp2⟩) (fun _=>?_);clear hK K;try simp only[oP]
   refine aAh (by kernel_rfl) ?_ _;replace ho6:=ho6.mid hst (Or.inl (by omega));replace Z2:=Z2.mid hst (Or.inl (by omega));replace Zx:=Zx.s3 (.int .i64 rr) (.int .i64 g'.1) (.slice A6 g'.2.length c6);replace hm:=hm.n3 wz.heap.size (by omega) (.int .i64 rr) (.int .i64 g'.1) (.slice A6 g'.2.length c6);have hgz:Gb+1<=wz.heap.size:=by omega
   have Z3:=Z32;clear Z30 Z32 hS10 hst hcp0 hcp2 hm10 zz0 zz1 zz2 zzf;generalize ((w10.setCell ⟨wz.heap.size,0,none⟩ (.int .i64 rr)).setCell ⟨wz.heap.size,1,none⟩ (.int .i64 g'.1)).setCell ⟨wz.heap.size,2,none⟩ (.slice A6 g'.2.length c6)=w11 at Z2 Z3 Zx ho6 hm |-;generalize wz.heap.size=Gz at Zx hgz hzb |-
  rotate_left
  all_goals
   have hst:=Mid.s3 w11 Gb (.int .i64 rr) (.int .i64 g'.1) (.slice A6 g'.2.length c6);have Y7:=Z3.s3 (.int .i64 rr) (.int .i64 g'.1) (.slice A6 g'.2.length c6);obtain⟨x0,x1,x2⟩:=Zx.c3 rfl;obtain⟨q0,q1,q2⟩:=Z3.c3 rfl;have qf:=Z3.2.2;go_wp2_with fail;go_roundw
   case rel=>exact⟨k+1,A6,c6,_,g',hlt,by go_num,HG2,HF2,(ho6.wide (lo':=Gb+1) (by omega) oN ho6.size).mid hst (Or.inl oN),Z2.mid hst (Or.inl (by omega)),Y7,hm.n3 Gb (by omega) (.int .i64 rr) (.int .i64 g'.1) (.slice A6 g'.2.length c6)⟩
   simp[intOf];omega
 obtain rfl:k=l.length:=by omega
 rw[List.take_length] at HGE;have hrs2:rs=gs:=by rw[HRS.out,<- HGE.out]
 have hre2:res=ge:=by rw[HRE.out,<- HGE.out]
 clear HRS HRE HGE HFL;subst hrs2;subst res;obtain⟨z0,z1,z2⟩:=Z2.c3 rfl;obtain⟨q0,q1,q2⟩:=Z3.c3 rfl;have zf:=Z2.2.2;have hcl:(w.heap.size == Gb)=false:=by simp;omega
 go_wp2_with fail;refine bodyPost_ret (v:=.tuple #[.agg #[.int .i64 rr,.int .i64 rs,.slice A2 ge.length c2],.bool true]) (by simp[results,Tryz.results103,go_sem,z0,z1,z2,zf,q0,q1,q2]) rfl ⟨A2,c2,rfl,?_,?_⟩
 .refine OG.wide (OG.mid hown (a:=w.heap.size) (b:=w.heap.size+1) ?_ (Or.inl (by omega))) (by omega) (by have:=hown.size;simp;omega) oN
  repeat (first|exact Mid.refl _ _ _|refine Mid.stored ?_ _ (by simp;try omega) (by simp;try omega))
 repeat (first|exact hm|refine Mid.storeNew ?_ (by simp;try omega) _)
theorem aBR(rank:Int)(A:Option Addr)(l:List (List Int))(c:Nat)(w:World)(lo hi:Nat)(hr:RSS w lo hi A l)(hok:∀ xs∈l,OkI xs)(hl:l.length+aDR l<=1048576)(rr rs:Int)(res:List Ed)(b:Bool)(hres:aTh rank l rr rs res b) :
  Calls Tryz.prog 15 #[.int .i64 rank,.slice A l.length c] w fun e w'=>∃ A1 c1,e=.returned (.tuple #[aAw rr rs A1 res.length c1,.bool b])/\OG w' w.heap.size w'.heap.size A1 c1 res/\Mid 0 0 w w':=by
 have HOK:=oH hok;clear hok;have hm0:Mid 0 0 w (w.alloc (.cells #[.int .i64 0,.int .i64 0,.slice none 0 0] 35)):=Mid.alloc _ _;have b2:=Box.new w #[.int .i64 0,.int .i64 0,.slice none 0 0] 35;by_cases ha:aOK rank l
 .obtain⟨rfl,rfl,hrs,hre⟩:b=true/\rr=rank/\rs=(coreA rank (aEw l (1,[]))).1/\res=(coreA rank (aEw l (1,[]))).2:=by
   rcases hres with⟨h1, -,h2⟩|⟨-,h, -⟩
   .exact⟨h1,h2⟩
   exact absurd ha h
  have hfg:=aQk ha;obtain⟨rn,rfl⟩:∃ rn:Nat,rr=rn:=⟨rr.toNat,by have:=hfg.rank;omega⟩
  have hFI:aUT rn l rn (aEw l (1,[])).1 (aEw l (1,[])).2 true:=.inl ⟨rfl,ha,rfl,rfl,rfl⟩;obtain⟨⟨fs,ms⟩,hF⟩:∃ F,aEw l (1,[])=F:=⟨_,rfl⟩
  rw[hF] at hFI hrs hre hfg;obtain⟨sn,rfl⟩:∃ sn:Nat,fs=sn:=⟨fs.toNat,by have:=hfg.size;simp only at this;omega⟩
  obtain⟨q,qs,hQ, -⟩:=aFj (aDb (g:=((sn:Int),ms)) hfg);rw[hQ] at hrs hre;subst hrs;subst res;have HFI:=oH hFI;have HFG:=oH hfg;have HQ:=oH hQ;clear hres ha hFI hfg hF hQ;go_enter Tryz.func15,Tryz.ntmps15
  go_wp2_with fail;generalize w.alloc (.cells #[.int .i64 0,.int .i64 0,.slice none 0 0] 35)=w1 at hm0 b2 |-;have hs1:w.heap.size<w1.heap.size:=b2.1;with_reducible refine(aHb rn A l c w1 _ _ (hr.mid hm0 oZl) HOK.out hl rn sn ms true HFI.out).mono ?_
  rintro en w4 ⟨A4,c4,rfl,ho4,hm4⟩;have hs4:=hm4.size;have ha4:=Mid.alloc w4 (.cells #[.int .i64 rn,.int .i64 sn,.slice A4 ms.length c4] 35);have Y4:=Box.new w4 #[.int .i64 rn,.int .i64 sn,.slice A4 ms.length c4] 35;replace b2:=b2.mid hm4 oZr;replace hm0:=hm0.trans hm4;replace b2:=b2.mid ha4 oZr;replace ho4:=ho4.mid ha4 oZl;replace hm0:=hm0.trans ha4;have hsa:=ha4.size;obtain⟨y0,y1,y2⟩:=Y4.c3 rfl;have hP:=aCO rn sn A4 ms c4 (w4.alloc (.cells #[.int .i64 rn,.int .i64 sn,.slice A4 ms.length c4] 35)) _ _ (OG.rg ho4) HFG.out;rw[HQ.out] at hP;dsimp only at hP;have HPP:=oH hP;clear hP;go_wp2_with fail;with_reducible refine HPP.out.mono ?_
  rintro en w6 ⟨A5,c5,rfl,ho5,hm6⟩;clear HPP;replace b2:=b2.mid hm6 oZr;replace hm0:=hm0.trans hm6;obtain⟨z0,z1,z2⟩:=b2.c3 rfl;have zf:=b2.2.2;go_wp2_with fail;refine bodyPost_ret (v:=.tuple #[.agg #[.int .i64 rn,.int .i64 q,.slice A5 qs.length c5],.bool true]) (by simp[results,Tryz.results15,go_sem,z0,z1,z2,zf]) rfl ⟨A5,c5,rfl,?_,?_⟩
  .refine OG.wide (OG.mid ho5 (a:=w.heap.size) (b:=w.heap.size+1) ?_ (Or.inl (by omega))) (by omega) (by simp) oN
   repeat (first|exact Mid.refl _ _ _|refine Mid.stored ?_ _ (by simp;try omega) (by simp;try omega))
  repeat (first|exact hm0|refine Mid.storeNew ?_ (by simp;try omega) _)
 obtain⟨rfl,rfl,rfl,rfl⟩:b=false/\rr=0/\rs=0/\res=[]:=by
  rcases hres with⟨-,h, -⟩|⟨h1, -,h2⟩
  .exact absurd h ha
  exact⟨h1,h2⟩
 have hFI:aUT rank l 0 0 [] false:=.inr ⟨rfl,ha,rfl,rfl,rfl⟩;have HFI:=oH hFI;clear hres ha hFI;go_enter Tryz.func15,Tryz.ntmps15
 go_wp2_with fail;generalize w.alloc (.cells #[.int .i64 0,.int .i64 0,.slice none 0 0] 35)=w1 at hm0 b2 |-;have hs1:w.heap.size<w1.heap.size:=b2.1;with_reducible refine(aHb rank A l c w1 _ _ (hr.mid hm0 oZl) HOK.out hl 0 0 [] false HFI.out).mono ?_
 rintro en w4 ⟨A4,c4,rfl, -,hm4⟩;replace b2:=b2.mid hm4 oZr;replace hm0:=hm0.trans hm4;have hb23:w.heap.size<w4.heap.size:=b2.1;obtain⟨z0,z1,z2⟩:=b2.c3 rfl;have zf:=b2.2.2;go_wp2_with fail;refine bodyPost_ret (v:=.tuple #[.agg #[.int .i64 0,.int .i64 0,.slice none 0 0],.bool false]) (by simp[results,Tryz.results15,go_sem,z0,z1,z2,zf,hb23,World.cell?_alloc_lt]) rfl ⟨none,0,rfl,?_,?_⟩
 .exact⟨oN,⟨rfl,.inl ⟨rfl,rfl⟩⟩,fun g hg=>by simp[Value.ownBlock] at hg⟩
 repeat (first|exact hm0|refine Mid.trans ?_ (Mid.alloc _ _)|refine Mid.storeNew ?_ (by simp;try omega) _)
noncomputable def basA (r:Int) (es:List Ed):List (List Int):=(aEg (aDF es (bfs es (lets r.toNat) 0)) es).map (basisW r.toNat es)
theorem aPM{r n:Nat}{es:List Ed}(h:IsCor r n es){e:Ed}(he:e∈es):(basisW r es e).length<=81/\OkI (basisW r es e):=by
 have hin:=h.gr.all e he;have hr:=h.gr.rank;have hn:=h.gr.size;unfold InG at hin;obtain⟨a,l,b⟩:=e;simp only at hin;obtain⟨pa,rfl⟩:∃ m:Nat,a=m:=⟨a.toNat,by omega⟩
 obtain⟨pb,rfl⟩:∃ m:Nat,b=m:=⟨b.toNat,by omega⟩
 obtain⟨h1,h2⟩:=aIr h (v:=pa) (by omega);obtain⟨h3,h4⟩:=aIr h (v:=pb) (by omega);unfold basisW;simp only;refine⟨?_,aMm ?_⟩
 .have h5:=aCH (wordV r es (pa:Int)++[l]++aAx (wordV r es (pb:Int)))
  rw[List.length_append,List.length_append,aKH] at h5;simp only[List.length_cons,List.length_nil] at h5;omega
 intro x hx;rcases List.mem_append.1 hx with hx|hx
 .rcases List.mem_append.1 hx with hx|hx
  .have:=aBz.1 (h2 x hx)
   omega
  simp at hx;subst hx;omega
 exact aOj (fun y hy=>by have:=aBz.1 (h4 y hy);omega) x hx
theorem aRO{r n:Nat}{es:List Ed}(h:IsCor r n es):(basA r es).length<=120:=by
 have h1:=aIR (aDF es (bfs es (lets r) 0)) es;have h2:=h.gr.len;unfold basA;rw[List.length_map,Int.toNat_natCast];omega
theorem aPK{r n:Nat}{es:List Ed}(h:IsCor r n es){x:List Int}(hx:x∈basA r es):x.length<=81/\OkI x:=by
 unfold basA at hx;obtain⟨e,he,rfl⟩:=List.mem_map.1 hx;rw[Int.toNat_natCast] at he |-;exact aPM h (List.mem_filter.1 he).1
theorem aMT(r n:Nat)(A:Option Addr)(es:List Ed)(c:Nat)(w:World)(lo hi:Nat)(hr:RG w lo hi A es)(hcl:es.length<=c)(hco:IsCor r n es) :
  Calls Tryz.prog 125 #[aAw r n A es.length c] w fun e w'=>∃ A1 c1,e=.returned (.slice A1 (basA r es).length c1)/\OSS w' w.heap.size w'.heap.size 44 3 A1 c1 (basA r es)/\Mid 0 0 w w':=by
 have hn40:=hco.gr.size;have hl:=hco.gr.len;have hT:(aDF es (bfs es (lets r) 0)).length<=1000000:=by
  unfold aDF;rw[List.length_map,List.length_tail,hco.found];omega
 have hX:=aIR (aDF es (bfs es (lets r) 0)) es;have h:=aLM r n A es c w lo hi hr hcl hco (aEg (aDF es (bfs es (lets r) 0)) es) (fun e he=>(List.mem_filter.1 he).1) (by omega)
  (fun W hW=>aIH r n A es c W lo hi hW hcl hco.fol _ hT fun W' hW'=>aJt r n A es c W' lo hi hW' hco.fol)
 unfold basA;rw[Int.toNat_natCast];exact h
theorem RSS.lit{w:World}(rows:List Row)(tSI:TypeId)(h:∀ r∈rows,Rs w w.heap.size r.A (aAd r.xs)):RSS (w.alloc (.cells (aDV rows).toArray tSI)) 0 (w.heap.size+1) (some ⟨w.heap.size,0,none⟩) (aBe rows):=by
 refine⟨rows,rfl,⟨by simp,fun _=>⟨w.heap.size,0,rfl,oZ,oS,fun j u hu=>?_⟩⟩,fun r hr=>⟨by simp,fun hn=>?_⟩⟩
 .rw[Nat.zero_add,World.cell?_alloc_new]
  simpa using hu
 obtain⟨b,off,e,hb,hc⟩:=(h r hr).alloc oN (.cells (aDV rows).toArray tSI) hn;exact⟨b,off,e,oZ,by omega,hc⟩
theorem aKL{r s:Int}{es:List Ed}(h:IsFol r s es){wd:List Int}:aJp es (red [] wd)↔InS es wd:=by
 rw[aTz h];unfold aJp;constructor
 .rintro⟨h1,h2⟩
  exact Prod.ext h2 h1
 intro e;rw[e];exact⟨rfl,rfl⟩
theorem aDL(A:Option Addr)(xs:List Int)(c:Nat)(w:World)(B:Nat)(hr:Rs w B A (aAd xs))(hB:B<=w.heap.size)(hok:OkI xs)(hl:xs.length<=268435456) :
  Calls Tryz.prog 131 #[.slice A xs.length c] w fun e w'=>∃ A2 c2,e=.returned (.slice A2 (red [] xs).length c2)/\w'.ownsRow w.heap.size 3 1 (.slice A2 (red [] xs).length c2) (red [] xs).length (aAd (red [] xs))/\Mid 0 0 w w':=by
 have h:=RSS.lit (w:=w) [⟨A,c,xs⟩] 44 (by intro r hr2;simp at hr2;rcases hr2 with rfl;exact hr.more hB);have h2:=aHJ (some ⟨w.heap.size,0,none⟩) [xs] 1 _ _ _ h (by intro zs hz;simp at hz;rcases hz with rfl;exact hok) (by simp) (by simp[aDR];omega);have e:[xs].flatten=xs:=by simp
 rw[e] at h2;have H2:Hid (Calls Tryz.prog 110 #[.slice (some ⟨w.heap.size,0,none⟩) 1 1] (w.alloc (.cells #[.slice A xs.length c] 44)) fun e w'=>RetI 3 (red [] xs) (w.alloc (.cells #[.slice A xs.length c] 44)) e w'):=oH h2;have hal:=Mid.alloc w (.cells #[.slice A xs.length c] 44);have hsz:(w.alloc (.cells #[.slice A xs.length c] 44)).heap.size=w.heap.size+1:=by simp
 clear h h2 e hok;go_enter Tryz.func131,Tryz.ntmps131
 go_wp2_with fail;with_reducible refine H2.out.mono ?_
 rintro e w2 ⟨A2,c2,rfl,ho,hb⟩;go_wp2_with fail;go_ret;exact⟨A2,c2,rfl,aAp ho (by omega),hal.trans (Mid.of_below hb)⟩
theorem aKC(r s:Int)(A:Option Addr)(es:List Ed)(c:Nat)(Aw:Option Addr)(wd:List Int)(cw:Nat)(w:World)(lo hi lo' hi':Nat)(hr:RG w lo hi A es)(hw:RV w lo' hi' Aw (aAd wd))(hl:es.length<=1048576)(hcl:es.length<=c)(hwl:wd.length<=1048576)(hok:OkI wd)(b:Bool)(hb:b=true↔IsCor r s es/\InS es wd) :
  Calls Tryz.prog 49 #[aAw r s A es.length c,.slice Aw wd.length cw] w fun e w'=>e=.returned (.bool b)/\Mid 0 0 w w':=by
 have hm0:Mid 0 0 w (w.alloc (.cells #[.int .i64 r,.int .i64 s,.slice A es.length c] 35)):=Mid.alloc _ _;have b0:=Box.new w #[.int .i64 r,.int .i64 s,.slice A es.length c] 35;have HB:=oH hb;have HOK:=oH hok;have HRL:=oH (fun W (h:RV W lo' hi' Aw (aAd wd))=>aDL Aw wd cw W hi' h.rs h.1 hok (by omega));clear hb hok;by_cases h:IsCor r s es
 focus
  obtain⟨r,n,rfl,rfl⟩:=h.gr.nat;have HC:=oH h;clear h;have hrl:(red [] wd).length<=1048576:=by have:=aCH wd;omega
  have HRO:=oH (aMm HOK.out);obtain⟨rw0,hrw⟩:∃ x,red [] wd=x:=⟨_,rfl⟩
  have hL:b=true↔aJp es rw0:=by
   rw[<- hrw,aKL HC.out.fol,HB.out];exact⟨fun h=>h.2,fun h=>⟨HC.out,h⟩⟩
  have HL:=oH hL;rw[hrw] at HRL hrl HRO;clear HB hrw hL;go_enter Tryz.func49,Tryz.ntmps49
  go_wp2_with fail;generalize (w.alloc (.cells #[.int .i64 r,.int .i64 n,.slice A es.length c] 35))=w1 at hm0 b0 |-;have hmd:=Mid.drew1 w1;replace b0:=b0.mid hmd oZr;replace hm0:=hm0.trans hmd;obtain⟨p0,p1,p2⟩:=b0.c3 rfl;clear hmd;refine aAl (S:=(fun w'=>w'.cell? ⟨w.heap.size,0,none⟩=some (.int .i64 r)/\w'.cell? ⟨w.heap.size,1,none⟩=some (.int .i64 n)/\w'.cell? ⟨w.heap.size,2,none⟩=some (.slice A es.length c))) [] (by kernel_rfl) ⟨p0,p1,p2⟩ ?_;generalize World.drew w1=wz at b0 hm0 p0 p1 p2 |-;have hS:wz.cell? ⟨w.heap.size,0,none⟩=some (.int .i64 r)/\wz.cell? ⟨w.heap.size,1,none⟩=some (.int .i64 n)/\wz.cell? ⟨w.heap.size,2,none⟩=some (.slice A es.length c):=⟨p0,p1,p2⟩
  refine tkZ [] 0 rfl hS ?_;try simp only[oP]
  refine rdZ 1 rfl (fun K hK=>?_)
  (go_simp;(with_reducible refine(aAt r n A es c _ _ _ (hr.mid hm0 oZl) hl hcl true (iff_of_true rfl HC.out)).mono ?_);rintro en w4 ⟨rfl,hm4⟩;have b04:=b0.mid hm4 oZr;go_wp2_with fail)
  refine hK.out _ _ (Or.inr (b04.c3 rfl)) (fun _=>?_);clear hK K;try simp only[oP]
  replace hm0:=hm0.trans hm4;clear hS p0 p1 p2 b0;have hS4:=b04.c3 rfl;refine tkZ [] 2 rfl hS4 ?_;try simp only[oP]
  refine tkZ [] 3 rfl hS4 ?_;try simp only[oP]
  refine tkZ [] 4 rfl hS4 ?_;try simp only[oP]
  clear hS4;refine rdZ 5 rfl (fun K hK=>?_)
  (go_simp;(with_reducible refine(HRL.out _ (hw.mid hm0 oZl)).mono ?_);rintro en w5 ⟨A5,c5,rfl,ho5,hm5⟩;have b05:=b04.mid hm5 oZr;go_wp2_with fail)
  refine hK.out _ _ (Or.inr (b05.c3 rfl)) (fun _=>?_);clear hK K;try simp only[oP]
  replace hm0:=hm0.trans hm5;clear b04;refine rdZ 6 rfl (fun K hK=>?_)
  (go_simp;(with_reducible refine(aJP r n A es c A5 rw0 c5 _ _ _ _ _ (hr.mid hm0 oZl) (RV.of_rs (Rs.of_own ho5) oN) HC.out.gr hrl HRO.out b HL.out).mono ?_);rintro en w6 ⟨rfl,hm6⟩;have b06:=b05.mid hm6 oZr;go_wp2_with fail)
  refine hK.out _ _ (Or.inr (b06.c3 rfl)) (fun _=>?_);clear hK K;try simp only[oP]
  replace hm0:=hm0.trans hm6;clear b05 ho5;have hS6:=b06.c3 rfl;refine tkZ [] 7 rfl hS6 ?_;try simp only[oP]
  refine rdZ 8 rfl (fun K hK=>?_);go_simp;refine hK.out _ _ (Or.inr hS6) (fun _=>?_)
 rotate_left
 focus
  have hbf:b=false:=by
   cases b
   .rfl
   exact absurd (HB.out.mp rfl).1 h
  subst hbf;have HN:=oH h;clear h HB HRL HOK;go_enter Tryz.func49,Tryz.ntmps49
  go_wp2_with fail;generalize (w.alloc (.cells #[.int .i64 r,.int .i64 s,.slice A es.length c] 35))=w1 at hm0 b0 |-;have hmd:=Mid.drew1 w1;replace b0:=b0.mid hmd oZr;replace hm0:=hm0.trans hmd;obtain⟨p0,p1,p2⟩:=b0.c3 rfl;clear hmd;refine aAl (S:=(fun w'=>w'.cell? ⟨w.heap.size,0,none⟩=some (.int .i64 r)/\w'.cell? ⟨w.heap.size,1,none⟩=some (.int .i64 s)/\w'.cell? ⟨w.heap.size,2,none⟩=some (.slice A es.length c))) [] (by kernel_rfl) ⟨p0,p1,p2⟩ ?_;generalize World.drew w1=wz at b0 hm0 p0 p1 p2 |-;have hS:wz.cell? ⟨w.heap.size,0,none⟩=some (.int .i64 r)/\wz.cell? ⟨w.heap.size,1,none⟩=some (.int .i64 s)/\wz.cell? ⟨w.heap.size,2,none⟩=some (.slice A es.length c):=⟨p0,p1,p2⟩
  refine tkZ [] 0 rfl hS ?_;try simp only[oP]
  refine rdZ 1 rfl (fun K hK=>?_)
  (go_simp;(with_reducible refine(aAt r s A es c _ _ _ (hr.mid hm0 oZl) hl hcl false (iff_of_false (by simp) HN.out)).mono ?_);rintro en w4 ⟨rfl,hm4⟩;have b04:=b0.mid hm4 oZr;go_wp2_with fail)
  refine hK.out _ _ (Or.inr (b04.c3 rfl)) (fun _=>?_);clear hK K;try simp only[oP]
  replace hm0:=hm0.trans hm4;clear hS p0 p1 p2 b0;have hS4:=b04.c3 rfl;refine tkZ [] 2 rfl hS4 ?_;try simp only[oP]
  refine aAq [] (i:=3) rfl (by kernel_rfl) (by kernel_rfl) (by kernel_rfl) (by kernel_rfl) (fun _ _ _ h=>h) (Or.inr ⟨by rfl,rfl⟩) hS4 ?_;try simp only[oP]
  refine aAq [] (i:=4) rfl (by kernel_rfl) (by kernel_rfl) (by kernel_rfl) (by kernel_rfl) (fun _ _ _ h=>h) (Or.inr ⟨by rfl,rfl⟩) hS4 ?_;try simp only[oP]
  refine rdZ 5 rfl (fun K hK=>?_);go_simp;refine hK.out _ _ (Or.inr hS4) (fun _=>?_);clear hK K;try simp only[oP]
  refine rdZ 6 rfl (fun K hK=>?_);go_simp;refine hK.out _ _ (Or.inr hS4) (fun _=>?_);clear hK K;try simp only[oP]
  refine tkZ [] 7 rfl hS4 ?_;try simp only[oP]
  refine rdZ 8 rfl (fun K hK=>?_);go_simp;refine hK.out _ _ (Or.inr hS4) (fun _=>?_)
 rotate_left
 all_goals
  clear hK K;try simp only[oP]
  refine aAh (by kernel_rfl) ?_ _;go_wp2_with fail;go_ret;exact⟨rfl,hm0⟩
theorem aJd{r s:Int}{es:List Ed}(h:IsCor r s es):rankI r s es=(es.length:Int) - s+1:=if_pos h
theorem aUw{r:Int}{w:List Int}(h:IsW r w):LtW w/\Rd w:=by
 have h1:=h.2.2.2;have hl:LtW w:=fun x hx=>by
  have h2:=h1.1 x hx;have h3:=h.1;have h4:=h.2.1;unfold Lt3;omega
 refine⟨hl,fun a b x e=>?_⟩;have e1:w[a.length]?=some x:=by rw[e];simp
 have e2:w[a.length+1]?=some (-x):=by
  rw[e,List.getElem?_append_right (by omega)];simp
 have:=h1.2 a.length x (-x) e1 e2;omega
theorem aSk{r s:Int}{es:List Ed}(hf:IsFol r s es){w:List Int}(h:IsW r w):aJp es w↔InS es w:=by
 obtain⟨lw,hr⟩:=aUw h;rw[<- aKL hf,aEH hr lw]
theorem aTj{r:Int}{es:List Ed}:basA r es=basisG r.toNat es:=rfl
def aNC(r s:Int)(es:List Ed)(r' s':Int)(es':List Ed):Prop:=IsCor r s es/\IsCor r' s' es'/\r=r'/\∀ w∈basA r es,InS es' w
theorem aLP{r s:Int}{es:List Ed}{s':Int}{es':List Ed}(h:IsCor r s es)(h':IsCor r s' es')(hi:∀ w,LtW w->InS es w->InS es' w):aNC r s es r s' es':=by
 refine⟨h,h',rfl,fun w hw=>?_⟩;obtain⟨a,n,rfl,rfl⟩:=h.gr.nat;rw[aTj,Int.toNat_natCast] at hw;exact hi w (aJD h hw).1 (aJD h hw).2
end Go.Proofs.YtkimajabegojoaaGreat
