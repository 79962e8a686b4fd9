/- Lemmas. -/
import Derived.Test.YtkimajabegojoaaGreatMt4
import Derived.Test.YtkimajabegojoaaGreatMt2
import Derived.Test.YtkimajabegojoaaGreatMt3
import Derived.Test.YtkimajabegojoaaGreatMt1
namespace Go.Proofs.YtkimajabegojoaaGreat
set_option linter.unusedVariables false
set_option linter.unusedSimpArgs false
set_option maxHeartbeats 40000000
set_option maxRecDepth 100000
open Go.RowKit
theorem aIA{ra rb:Int}{sa sb:Nat}{ea eb:List Ed}{r:Nat}(ha:IsGr ra sa ea)(hb:IsGr rb sb eb)(hr:r<=3):∀ i,i<=sa * sb->∀ x∈(aAm ea eb r sb i).2, -1600<=x/\x<=4801
|0,_,x,hx=>by simp[aAm] at hx
|i+1,hi,x,hx=>by
  by_cases h:aBd sb i∈(aAm ea eb r sb i).1
  .rw[aDn h] at hx
   exact aIA ha hb hr i (by omega) x hx
  .rw[aCi h] at hx
   rcases List.mem_append.1 hx with hx|hx
   .exact aIA ha hb hr i (by omega) x hx
   .rw[List.mem_singleton] at hx
    rw[hx];exact aRh hr (aEi (lets r) ha hb (aGU (by omega)))
theorem CompIs.bd{r s:Int}{es:List Ed}{r' s':Int}{es':List Ed}{res:List Int}(h:CompIs r s es r' s' es' res):∀ x∈res, -1600<=x/\x<=4801:=by
 rcases h with⟨h,e⟩|⟨-,e⟩
 .rw[e]
  have h1:=h.1.gr.rank;have h2:=h.1.gr.size;have h3:=h.2.1.gr.size;have ga:=h.1.gr;have gb:=h.2.1.gr;obtain⟨n,rfl⟩:∃ n:Nat,s=n:=⟨s.toNat,by omega⟩
  obtain⟨m,rfl⟩:∃ m:Nat,s'=m:=⟨s'.toNat,by omega⟩
  exact aIA ga gb (by omega) _ oN
 rw[e];simp
def aIN:List Int->Int
|[]=>0
|x::t=>max 0 (x - 1)+aIN t
theorem aQM(l:List Int)(x:Int):aIN (l++[x])=aIN l+max 0 (x - 1):=by
 induction l with
|nil=>simp[aIN]
|cons y t ih=>
  show max 0 (y - 1)+aIN (t++[x])=max 0 (y - 1)+aIN t+max 0 (x - 1)
  rw[ih];omega
theorem aMb{l:List Int}{k:Nat}{x:Int}(h:l[k]?=some x):aIN (l.take (k+1))=aIN (l.take k)+max 0 (x - 1):=by rw[aBv l h,aQM]
theorem aNe:∀ {l:List Int},(∀ x∈l, -1600<=x/\x<=4801)->0<=aIN l/\aIN l<=4801 * (l.length:Int)
|[],_=>by simp[aIN]
|x::t,h=>by
  have h1:=aNe (l:=t) fun y hy=>h y (by simp[hy]);have h2:=h x (by simp);simp only[aIN,List.length_cons];omega
def aFP(r s:Int)(es:List Ed)(r' s':Int)(es':List Ed)(res:Int):Prop:=∃ l,CompIs r s es r' s' es' l/\res=aIN l
theorem aPF(r s:Int)(es:List Ed)(r' s':Int)(es':List Ed):∃ res,aFP r s es r' s' es' res:=by
 obtain⟨l,hl⟩:=aLm r s es r' s' es';exact⟨_,l,hl,rfl⟩
theorem aII(r s:Int)(A:Option Addr)(es:List Ed)(c:Nat)(r' s':Int)(B:Option Addr)(es':List Ed)(d:Nat)(w:World)(lo hi lo2 hi2:Nat)(hr:RG w lo hi A es)(hr2:RG w lo2 hi2 B es')(hl:es.length<=1048576)(hl2:es'.length<=1048576)(hcl:es.length<=c)(hcl2:es'.length<=d)(res:Int)(hres:aFP r s es r' s' es' res) :
  Calls Tryz.prog 40 #[aAw r s A es.length c,aAw r' s' B es'.length d] w fun e w'=>e=.returned (.int .i64 res)/\Mid 0 0 w w':=by
 obtain⟨l,hl0,hres⟩:=hres;have HC:=oH hl0;have HRES:Sec (res=aIN l):=⟨hres⟩
 have HBD:=oH hl0.bd;have hlen:=hl0.lens;clear hl0 hres;have hm0:Mid 0 0 w ((w.alloc (.cells #[.int .i64 r,.int .i64 s,.slice A es.length c] 35)).alloc (.cells #[.int .i64 r',.int .i64 s',.slice B es'.length d] 35)):=(Mid.alloc _ _).trans (Mid.alloc _ _);have B0:=(Box.new w #[.int .i64 r,.int .i64 s,.slice A es.length c] 35).mid (Mid.alloc _ (.cells #[.int .i64 r',.int .i64 s',.slice B es'.length d] 35)) oZr;have B1:=Box.new (w.alloc (.cells #[.int .i64 r,.int .i64 s,.slice A es.length c] 35)) #[.int .i64 r',.int .i64 s',.slice B es'.length d] 35;rw[World.size_alloc] at B1;go_enter Tryz.func40,Tryz.ntmps40
 go_wp2_with fail;generalize hw1:(w.alloc (.cells #[.int .i64 r,.int .i64 s,.slice A es.length c] 35)).alloc (.cells #[.int .i64 r',.int .i64 s',.slice B es'.length d] 35)=w1 at hm0 B0 B1 |-;clear hw1;with_reducible refine(aDr r s A es c r' s' B es' d _ _ _ _ _ (hr.mid hm0 oZl) (hr2.mid hm0 oZl) hl hl2 hcl hcl2 l HC.out).mono ?_
 rintro en w5 ⟨A5,c5,rfl,ho5,hm5⟩;have HRV:Hid (RV w5 w1.heap.size w5.heap.size A5 (aAd l)):=oH (OV.rv ho5);obtain⟨L,hL⟩:∃ L,l.length=L:=⟨_,rfl⟩
 have HL:=oH hL;rw[hL] at hlen |-;have hm:=hm0.trans hm5;clear hL ho5 hm0 hm5 B0 B1;have hn0:aIN (l.take 0)=0:=rfl;have HN0:=oH hn0;clear hn0;go_wp2_with fail;go_loopw [5,12] (fun nv iv wr=>∃(k:Nat) (m:Int),Hid (k<=L)/\iv=.int .i64 k/\nv=.int .i64 m/\Hid (m=aIN (l.take k))/\Mid 0 0 w wr/\wr=w5) (fun _ iv _=>L - (intOf iv).toNat)
 case atStart=>exact⟨0,0,oH oZ,rfl,rfl,oH rfl,hm,rfl⟩
 obtain⟨k,m,HK,rfl,rfl,HM, -,rfl⟩:=hrel;have hkL:=HK.out;have hmb:0<=m/\m<=4801 * 1600:=by
  have h1:=aNe (l:=l.take k) fun x hx=>HBD.out x (List.mem_of_mem_take hx);have h2:=HM.out;have h3:(l.take k).length<=1600:=by rw[List.length_take];omega
  omega
 by_cases hlt:k<L
 .obtain⟨B5,o5,x,hA5,hB5,hx,hcx⟩:=HRV.out.at (k:=k) (by rw[HL.out];exact hlt)
  subst hA5;have hxb:=HBD.out x (List.mem_of_getElem? hx);have hk0:(0:Int)<=(k:Int):=by omega
  have hk1:(k:Int)<(L:Int):=by omega
  have hb5:B5<wr.heap.size:=Nat.lt_of_lt_of_le hB5 HRV.out.1;have HM2:Hid (m+max 0 (x - 1)=aIN (l.take (k+1))):=oH (by rw[aMb hx,HM.out]);have e1:IntKind.i64.wrap (x - 1)=x - 1:=IntWalk.i64_in _ (by omega);have e2:IntKind.i64.wrap (m+max 0 (x - 1))=m+max 0 (x - 1):=IntWalk.i64_in _ (by omega);have e3:wrap64 (x - 1)=x - 1:=by unfold wrap64;omega
  have e4:wrap64 (m+max 0 (x - 1))=m+max 0 (x - 1):=by unfold wrap64;omega
  clear hx;go_wp2_with fail;exact⟨⟨k+1,_,oH (by omega),by go_num,rfl,HM2,hm,trivial⟩,by simp[intOf];omega⟩
 obtain rfl:L=k:=by omega
 have hfin:m=res:=by rw[HM.out,HRES.out,List.take_of_length_le (by rw[HL.out];exact oN)]
 subst hfin;go_wp2_with fail;go_ret;exact⟨rfl,hm⟩
theorem aJi(r s:Int)(A:Option Addr)(es:List Ed)(c:Nat)(r' s':Int)(B:Option Addr)(es':List Ed)(d:Nat)(w:World)(lo hi lo2 hi2:Nat)(hr:RG w lo hi A es)(hr2:RG w lo2 hi2 B es')(hl:es.length<=1048576)(hl2:es'.length<=1048576)(res:Int)(hres:aFP r s es r' s' es' res) :
  Calls Tryz.prog 41 #[aAw r s A es.length c,aAw r' s' B es'.length d] w fun e w'=>e=.returned (.int .i64 res)/\Mid 0 0 w w':=by
 obtain⟨l,hl0,hres⟩:=hres;have HC:=oH hl0;have HRES:Sec (res=aIN l):=⟨hres⟩
 have HBD:=oH hl0.bd;have hlen:=hl0.lens;clear hl0 hres;have hm0:Mid 0 0 w ((w.alloc (.cells #[.int .i64 r,.int .i64 s,.slice A es.length c] 35)).alloc (.cells #[.int .i64 r',.int .i64 s',.slice B es'.length d] 35)):=(Mid.alloc _ _).trans (Mid.alloc _ _);have B0:=(Box.new w #[.int .i64 r,.int .i64 s,.slice A es.length c] 35).mid (Mid.alloc _ (.cells #[.int .i64 r',.int .i64 s',.slice B es'.length d] 35)) oZr;have B1:=Box.new (w.alloc (.cells #[.int .i64 r,.int .i64 s,.slice A es.length c] 35)) #[.int .i64 r',.int .i64 s',.slice B es'.length d] 35;rw[World.size_alloc] at B1;go_enter Tryz.func41,Tryz.ntmps41
 go_wp2_with fail;generalize hw1:(w.alloc (.cells #[.int .i64 r,.int .i64 s,.slice A es.length c] 35)).alloc (.cells #[.int .i64 r',.int .i64 s',.slice B es'.length d] 35)=w1 at hm0 B0 B1 |-;clear hw1;with_reducible refine(aDB r s A es c r' s' B es' d _ _ _ _ _ (hr.mid hm0 oZl) (hr2.mid hm0 oZl) hl hl2 l HC.out).mono ?_
 rintro en w5 ⟨A5,c5,rfl,ho5,hm5⟩;have HRV:Hid (RV w5 w1.heap.size w5.heap.size A5 (aAd l)):=oH (OV.rv ho5);obtain⟨L,hL⟩:∃ L,l.length=L:=⟨_,rfl⟩
 have HL:=oH hL;rw[hL] at hlen |-;have hm:=hm0.trans hm5;clear hL ho5 hm0 hm5 B0 B1;have hn0:aIN (l.take 0)=0:=rfl;have HN0:=oH hn0;clear hn0;go_wp2_with fail;go_loopw [6,7] (fun nv iv wr=>∃(k:Nat) (m:Int),Hid (k<=L)/\iv=.int .i64 k/\nv=.int .i64 m/\Hid (m=aIN (l.take k))/\Mid 0 0 w wr/\wr=w5) (fun _ iv _=>L - (intOf iv).toNat)
 case atStart=>exact⟨0,0,oH oZ,rfl,rfl,oH rfl,hm,rfl⟩
 obtain⟨k,m,HK,rfl,rfl,HM, -,rfl⟩:=hrel;have hkL:=HK.out;have hmb:0<=m/\m<=4801 * 1600:=by
  have h1:=aNe (l:=l.take k) fun x hx=>HBD.out x (List.mem_of_mem_take hx);have h2:=HM.out;have h3:(l.take k).length<=1600:=by rw[List.length_take];omega
  omega
 by_cases hlt:k<L
 .obtain⟨B5,o5,x,hA5,hB5,hx,hcx⟩:=HRV.out.at (k:=k) (by rw[HL.out];exact hlt)
  subst hA5;have hxb:=HBD.out x (List.mem_of_getElem? hx);have hk0:(0:Int)<=(k:Int):=by omega
  have hk1:(k:Int)<(L:Int):=by omega
  have hb5:B5<wr.heap.size:=Nat.lt_of_lt_of_le hB5 HRV.out.1;have HM2:Hid (m+max 0 (x - 1)=aIN (l.take (k+1))):=oH (by rw[aMb hx,HM.out]);have e1:IntKind.i64.wrap (x - 1)=x - 1:=IntWalk.i64_in _ (by omega);have e2:IntKind.i64.wrap (m+max 0 (x - 1))=m+max 0 (x - 1):=IntWalk.i64_in _ (by omega);have e3:wrap64 (x - 1)=x - 1:=by unfold wrap64;omega
  have e4:wrap64 (m+max 0 (x - 1))=m+max 0 (x - 1):=by unfold wrap64;omega
  clear hx;go_wp2_with fail;exact⟨⟨k+1,_,oH (by omega),by go_num,rfl,HM2,hm,trivial⟩,by simp[intOf];omega⟩
 obtain rfl:L=k:=by omega
 have hfin:m=res:=by rw[HM.out,HRES.out,List.take_of_length_le (by rw[HL.out];exact oN)]
 subst hfin;go_wp2_with fail;go_ret;exact⟨rfl,hm⟩
def aCa(r0 s0:Int)(d0:List Ed)(r1 s1:Int)(d1:List Ed)(res0:List Int):Prop:=CompIs r0 s0 d0 r1 s1 d1 res0
theorem aFZ(r0 s0:Int)(d0:List Ed)(r1 s1:Int)(d1:List Ed)(hl0:d0.length<=1048576)(hl1:d1.length<=1048576):∃ res0,aCa r0 s0 d0 r1 s1 d1 res0:=aLm r0 s0 d0 r1 s1 d1
theorem aFI{r0 s0:Int}{d0:List Ed}{r1 s1:Int}{d1:List Ed}{res0:List Int}(h:aCa r0 s0 d0 r1 s1 d1 res0)(hl0:d0.length<=1048576)(hl1:d1.length<=1048576):res0.length<=1048576:=by
 have:=CompIs.lens h;omega
def aER(r0 s0:Int)(d0:List Ed)(r1 s1:Int)(d1:List Ed)(res0:Int):Prop:=aFP r0 s0 d0 r1 s1 d1 res0
theorem aIu(r0 s0:Int)(d0:List Ed)(r1 s1:Int)(d1:List Ed)(hl0:d0.length<=1048576)(hl1:d1.length<=1048576):∃ res0,aER r0 s0 d0 r1 s1 d1 res0:=aPF r0 s0 d0 r1 s1 d1
theorem aFN(r0 s0:Int)(A0:Option Addr)(d0:List Ed)(c0:Nat)(r1 s1:Int)(A1:Option Addr)(d1:List Ed)(c1:Nat)(w:World)(lo0 hi0:Nat)(h0:OG w lo0 hi0 A0 c0 d0)(hl0:d0.length<=1048576)(lo1 hi1:Nat)(h1:OG w lo1 hi1 A1 c1 d1)(hl1:d1.length<=1048576)(res0:List Int)(h:aCa r0 s0 d0 r1 s1 d1 res0) :
  Calls Tryz.prog 44 #[.agg #[.int .i64 r0,.int .i64 s0,.slice A0 d0.length c0],.agg #[.int .i64 r1,.int .i64 s1,.slice A1 d1.length c1]] w fun e w'=>∃(A:Option Addr) (c:Nat),e=.returned (.slice A res0.length c)/\OI w' w.heap.size w'.heap.size A c res0/\Mid 0 0 w w':=
 aDB r0 s0 A0 d0 c0 r1 s1 A1 d1 c1 w lo0 hi0 lo1 hi1 h0.rg h1.rg hl0 hl1 res0 h
theorem aIc(r0 s0:Int)(A0:Option Addr)(d0:List Ed)(c0:Nat)(r1 s1:Int)(A1:Option Addr)(d1:List Ed)(c1:Nat)(w:World)(lo0 hi0:Nat)(h0:OG w lo0 hi0 A0 c0 d0)(hl0:d0.length<=1048576)(lo1 hi1:Nat)(h1:OG w lo1 hi1 A1 c1 d1)(hl1:d1.length<=1048576)(res0:Int)(h:aER r0 s0 d0 r1 s1 d1 res0) :
  Calls Tryz.prog 41 #[.agg #[.int .i64 r0,.int .i64 s0,.slice A0 d0.length c0],.agg #[.int .i64 r1,.int .i64 s1,.slice A1 d1.length c1]] w fun e w'=>e=.returned (.int .i64 res0)/\Mid 0 0 w w':=
 aJi r0 s0 A0 d0 c0 r1 s1 A1 d1 c1 w lo0 hi0 lo1 hi1 h0.rg h1.rg hl0 hl1 res0 h
theorem aFL(r0 s0:Int)(A0:Option Addr)(d0:List Ed)(c0:Nat)(r1 s1:Int)(A1:Option Addr)(d1:List Ed)(c1:Nat)(w:World)(lo0 hi0:Nat)(h0:OG w lo0 hi0 A0 c0 d0)(hl0:d0.length<=1048576)(lo1 hi1:Nat)(h1:OG w lo1 hi1 A1 c1 d1)(hl1:d1.length<=1048576)(res0:List Int)(h:aCa r0 s0 d0 r1 s1 d1 res0) :
  Calls Tryz.prog 43 #[.agg #[.int .i64 r0,.int .i64 s0,.slice A0 d0.length c0],.agg #[.int .i64 r1,.int .i64 s1,.slice A1 d1.length c1]] w fun e w'=>∃(A:Option Addr) (c:Nat),e=.returned (.slice A res0.length c)/\OI w' w.heap.size w'.heap.size A c res0/\Mid 0 0 w w':=
 aDr r0 s0 A0 d0 c0 r1 s1 A1 d1 c1 w lo0 hi0 lo1 hi1 h0.rg h1.rg hl0 hl1 h0.cnt.1 h1.cnt.1 res0 h
theorem aHY(r0 s0:Int)(A0:Option Addr)(d0:List Ed)(c0:Nat)(r1 s1:Int)(A1:Option Addr)(d1:List Ed)(c1:Nat)(w:World)(lo0 hi0:Nat)(h0:OG w lo0 hi0 A0 c0 d0)(hl0:d0.length<=1048576)(lo1 hi1:Nat)(h1:OG w lo1 hi1 A1 c1 d1)(hl1:d1.length<=1048576)(res0:Int)(h:aER r0 s0 d0 r1 s1 d1 res0) :
  Calls Tryz.prog 40 #[.agg #[.int .i64 r0,.int .i64 s0,.slice A0 d0.length c0],.agg #[.int .i64 r1,.int .i64 s1,.slice A1 d1.length c1]] w fun e w'=>e=.returned (.int .i64 res0)/\Mid 0 0 w w':=
 aII r0 s0 A0 d0 c0 r1 s1 A1 d1 c1 w lo0 hi0 lo1 hi1 h0.rg h1.rg hl0 hl1 h0.cnt.1 h1.cnt.1 res0 h
def Lt3(x:Int):Prop:=x≠0/\-3<=x/\x<=3
def LtW(w:List Int):Prop:=∀ x∈w,Lt3 x
def Rd(w:List Int):Prop:=∀(a b:List Int) (x:Int),w≠a++x::-x::b
theorem Lt3.neg{x:Int}(h:Lt3 x):Lt3 (-x):=by unfold Lt3 at *;omega
theorem Lt3.negI{x:Int}(h:Lt3 x):negI x = -x:=by
 unfold Lt3 at h;unfold Go.Proofs.YtkimajabegojoaaGreat.negI aLY;rw[if_neg (by omega)]
theorem LtW.nil:LtW []:=fun x h=>by simp at h
theorem LtW.left{a b:List Int}(h:LtW (a++b)):LtW a:=fun x hx=>h x (List.mem_append_left _ hx)
theorem LtW.right{a b:List Int}(h:LtW (a++b)):LtW b:=fun x hx=>h x (List.mem_append_right _ hx)
theorem LtW.app{a b:List Int}(h:LtW a)(k:LtW b):LtW (a++b):=fun x hx=>(List.mem_append.1 hx).elim (h x) (k x)
theorem LtW.head{x:Int}{t:List Int}(h:LtW (x::t)):Lt3 x:=h x List.mem_cons_self
theorem LtW.tail{x:Int}{t:List Int}(h:LtW (x::t)):LtW t:=fun y hy=>h y (List.mem_cons_of_mem _ hy)
theorem LtW.cons{x:Int}{t:List Int}(h:Lt3 x)(k:LtW t):LtW (x::t):=fun y hy=>by
 rcases List.mem_cons.1 hy with rfl|hy
 .exact h
 .exact k y hy
theorem LtW.one{x:Int}(h:Lt3 x):LtW [x]:=LtW.cons h LtW.nil
theorem LtW.red{out w:List Int}(h:LtW out)(k:LtW w):LtW (red out w):=fun x hx=>(aNr hx).elim (h x) (k x)
theorem aDT{x y:Int}(hx:Lt3 x)(hy:Lt3 y):aFf x y=true↔x = -y:=by
 rw[aIi];unfold Lt3 at *;unfold aLY;omega
theorem Rd.nil:Rd []:=fun a b x h=>by simp at h
theorem Rd.one(y:Int):Rd [y]:=fun a b x h=>by
 have:=congrArg List.length h;simp at this;omega
theorem Rd.left{a b:List Int}(h:Rd (a++b)):Rd a:=fun c d x e=>h c (d++b) x (by rw[e];simp)
theorem Rd.right{a b:List Int}(h:Rd (a++b)):Rd b:=fun c d x e=>h (a++c) d x (by rw[e];simp)
theorem aAP{α:Type}(l:List α):l=[] \/ ∃ t x,l=t++[x]:=by
 rcases List.eq_nil_or_concat l with h|⟨t,x,h⟩
 .exact .inl h
 exact .inr ⟨t,x,by simpa using h⟩
theorem aHa{α:Type}{a b:List α}{x y:α}(h:a++[x]=b++[y]):a=b/\x=y:=by
 have:=List.append_inj' h rfl;exact⟨this.1,by simpa using this.2⟩
theorem Rd.snoc{w:List Int}{x:Int}(h:Rd w)(hl:∀ t a,w=t++[a]->a≠-x):Rd (w++[x]):=by
 intro a b y e;rcases aAP b with rfl|⟨b',z,rfl⟩
 .have e2:w++[x]=(a++[y])++[-y]:=by rw[e];simp
  obtain⟨h1,h2⟩:=aHa e2;exact hl a y h1 (by omega)
 have e2:w++[x]=(a++y::-y::b')++[z]:=by rw[e];simp
 exact h a b' y (aHa e2).1
theorem Rd.last{w:List Int}{a x:Int}(h:Rd (w++[a]++[x])):a≠-x:=fun e=>h w [] a (by rw[e];simp)
theorem Rd.step{out:List Int}{x:Int}(h:Rd out)(hw:LtW out)(hx:Lt3 x):Rd (aAX out x):=by
 rcases aAP out with rfl|⟨o,a,rfl⟩
 .rw[aBk]
  exact Rd.one x
 have ha:=hw.right.head;cases hb:aFf a x with
|true=>rw[aBB hb];exact h.left
|false=>
  rw[aAL hb];refine h.snoc fun t b e=>?_;obtain⟨-,rfl⟩:=aHa e;intro e2;rw[(aDT ha hx).2 e2] at hb;cases hb
theorem Rd.red{w:List Int}:∀ {out:List Int},Rd out->LtW out->LtW w->Rd (red out w):=by
 induction w with
|nil=>exact fun h _ _=>h
|cons x t ih=>
  intro out h ho hw;rw[aCf];exact ih (h.step ho hw.head) (LtW.red (w:=[x]) ho (LtW.one hw.head)) hw.tail
theorem aUL{w:List Int}:∀ {out:List Int},Rd (out++w)->LtW (out++w)->red out w=out++w:=by
 induction w with
|nil=>intro out _ _;simp[aNs]
|cons x t ih=>
  intro out h hw;have hx:=hw.right.head;have e:aAX out x=out++[x]:=by
   rcases aAP out with rfl|⟨o,a,rfl⟩
   .rfl
   refine aAL ?_;have ha:=hw.left.right.head;cases hb:aFf a x with
  |false=>rfl
  |true=>
    have e2:=(aDT ha hx).1 hb;exact absurd (by rw[e2];simp) (h o t a)
  rw[aCf,e,ih (by simpa using h) (by simpa using hw)];simp
theorem aEH{w:List Int}(h:Rd w)(hw:LtW w):red [] w=w:=by
 have:=aUL (out:=[]) (w:=w) (by simpa using h) (by simpa using hw)
 simpa using this
theorem aHN{w:List Int}(hw:LtW w):Rd (red [] w):=Rd.nil.red LtW.nil hw
theorem aHL{w:List Int}(hw:LtW w):LtW (red [] w):=LtW.red LtW.nil hw
theorem aOx{w:List Int}(hw:LtW w):red [] (red [] w)=red [] w:=aEH (aHN hw) (aHL hw)
theorem aJe{out:List Int}{x:Int}(h:Rd out)(hw:LtW out)(hx:Lt3 x):aAX (aAX out x) (-x)=out:=by
 rcases aAP out with rfl|⟨o,a,rfl⟩
 .rw[aBk]
  exact aBB (out:=[]) ((aDT hx hx.neg).2 (by omega))
 have ha:=hw.right.head;cases hb:aFf a x with
|true=>
  rw[aBB hb];have e:=(aDT ha hx).1 hb;rcases aAP o with rfl|⟨p,b,rfl⟩
  .rw[aBk,e];rfl
  have hb2:=hw.left.right.head;have:aFf b (-x)=false:=by
   cases h2:aFf b (-x) with
  |false=>rfl
  |true=>
    have e2:=(aDT hb2 hx.neg).1 h2;exact absurd e2 (by rw[<- e];exact h.last)
  rw[aAL this,e]
|false=>
  rw[aAL hb];exact aBB ((aDT hx hx.neg).2 (by omega))
theorem aOz{out:List Int}{x:Int}(b:List Int)(h:Rd out)(hw:LtW out)(hx:Lt3 x):red out (x::-x::b)=red out b:=by
 rw[aCf,aCf,aJe h hw hx]
theorem aTU{b:List Int}:∀ {s out:List Int},Rd out->LtW out->LtW s->LtW b->red out (s++b)=red out (red s b):=by
 induction b with
|nil=>intro s out _ _ _ _;simp[aNs]
|cons x t ih=>
  intro s out h ho hs hb;have hx:=hb.head;have hst:LtW (aAX s x):=LtW.red (w:=[x]) hs (LtW.one hx);rw[aCf,<- ih h ho hst hb.tail];rcases aAP s with rfl|⟨o,a,rfl⟩
  .rw[aBk];rfl
  cases hc:aFf a x with
 |false=>rw[aAL hc];simp
 |true=>
   rw[aBB hc];have ha:=hs.right.head;have e:=(aDT ha hx).1 hc;have e2:x = -a:=by omega
   subst e2;have h1:(o++[a])++-a::t=o++(a::-a::t):=by simp
   rw[h1,aBF,aBF,aOz t (h.red ho hs.left) (LtW.red ho hs.left) ha]
theorem aMn{a b:List Int}(ha:LtW a)(hb:LtW b):red [] (a++red [] b)=red [] (a++b):=by
 rw[aBF,aBF,<- aTU (s:=[]) (aHN ha) (aHL ha) LtW.nil hb]
 rfl
theorem aOy(a b:List Int)(ha:LtW a):red [] (red [] a++b)=red [] (a++b):=by
 rw[aBF,aBF,aOx ha]
def Eqv(a b:List Int):Prop:=red [] a=red [] b
theorem Eqv.app{a b c d:List Int}(ha:LtW a)(hb:LtW b)(hc:LtW c)(hd:LtW d)(h:Eqv a b)(k:Eqv c d):Eqv (a++c) (b++d):=by
 unfold Eqv at *;rw[<- aOy _ _ ha,<- aMn (aHL ha) hc,h,k,aMn (aHL hb) hd,aOy _ _ hb]
theorem Eqv.toRed{a:List Int}(ha:LtW a):Eqv (red [] a) a:=aOx ha
theorem aNY:aAx []=[]:=rfl
theorem aBK(a b:List Int):aAx (a++b)=aAx b++aAx a:=by simp[aAx]
theorem aCu{w:List Int}(h:LtW w):aAx w=(w.map (- ·)).reverse:=by
 unfold aAx
 congr 1
 exact List.map_congr_left fun x hx=>(h x hx).negI
theorem LtW.inv{w:List Int}(h:LtW w):LtW (aAx w):=by
 rw[aCu h];intro x hx;rw[List.mem_reverse,List.mem_map] at hx;obtain⟨y,hy,rfl⟩:=hx;exact(h y hy).neg
theorem aCt{w:List Int}(h:LtW w):aAx (aAx w)=w:=by
 rw[aCu h.inv,aCu h,List.map_reverse,List.reverse_reverse,List.map_map]
 conv=>rhs;rw[<- List.map_id w]
 exact List.map_congr_left fun x _=>by simp
theorem aJw{w:List Int}(h:LtW w):∀ {out:List Int},Rd out->LtW out->red out (w++aAx w)=out:=by
 induction w with
|nil=>intro out _ _;rfl
|cons x t ih=>
  intro out ho hl;have hx:=h.head;have e:aAx (x::t)=aAx t++[-x]:=by rw[show x::t=[x]++t from rfl,aBK];simp[aAx,hx.negI]
  rw[e,List.cons_append,aCf,<- List.append_assoc,aBF,ih h.tail (ho.step hl hx) (LtW.red (w:=[x]) hl (LtW.one hx))]
  show aAX (aAX out x) (-x)=out
  exact aJe ho hl hx
theorem Eqv.inv_right{w:List Int}(h:LtW w):Eqv (w++aAx w) []:=aJw h Rd.nil LtW.nil
theorem Eqv.inv_left{w:List Int}(h:LtW w):Eqv (aAx w++w) []:=by
 have:=Eqv.inv_right h.inv
 rwa [aCt h] at this
theorem Eqv.refl(a:List Int):Eqv a a:=rfl
theorem Eqv.symm{a b:List Int}(h:Eqv a b):Eqv b a:=Eq.symm h
theorem Eqv.trans{a b c:List Int}(h:Eqv a b)(k:Eqv b c):Eqv a c:=Eq.trans h k
theorem Eqv.inv{a b:List Int}(ha:LtW a)(hb:LtW b)(h:Eqv a b):Eqv (aAx a) (aAx b):=by
 -- aAx a=aAx a (b aAx b)=(aAx a a) aAx b
 have h1:Eqv (aAx a++(b++aAx b)) (aAx a++[]):=Eqv.app ha.inv ha.inv (hb.app hb.inv) LtW.nil rfl (Eqv.inv_right hb);have h2:Eqv (aAx a++b) []:=(Eqv.app ha.inv ha.inv hb ha rfl h.symm).trans (Eqv.inv_left ha);have h3:Eqv ((aAx a++b)++aAx b) ([]++aAx b):=Eqv.app (ha.inv.app hb) LtW.nil hb.inv hb.inv h2 rfl;rw[List.append_nil] at h1;rw[List.append_assoc] at h3;exact h1.symm.trans h3
theorem Rd.inv{w:List Int}(h:Rd w)(hw:LtW w):Rd (aAx w):=by
 intro a b x e;have hl:=hw.inv;rw[e] at hl;have ex:Lt3 x:=hl.right.head;have e2:w=aAx (a++x::-x::b):=by rw[<- e,aCt hw]
 have e3:a++x::-x::b=a++([x]++([-x]++b)):=rfl;rw[e3,aBK,aBK,aBK] at e2;have e4:aAx [x]=[-x]:=by simp[aAx,ex.negI]
 have e5:aAx [-x]=[x]:=by simp[aAx,ex.neg.negI]
 rw[e4,e5] at e2;exact h (aAx b) (aAx a) x (by rw[e2];simp)
def rdA(es:List Ed):Int->List Int->Int × Nat
|v,[]=>(v,0)
|v,x::t=>if aAe es v x<0 then(v,0) else((rdA es (aAe es v x) t).1,(rdA es (aAe es v x) t).2+1)
theorem aRx(es:List Ed):∀(w:List Int) (v:Int),(rdA es v w).2<=w.length
|[],v=>oN
|x::t,v=>by
  rw[rdA];split
  .exact oZ
  .exact Nat.succ_le_succ (aRx es t _)
theorem aOw{r s:Int}{es:List Ed}(hg:∀ e∈es,InG r s e):∀(w:List Int) {v:Int},0<=v/\v<s->0<=(rdA es v w).1/\(rdA es v w).1<s
|[],v,h=>h
|x::t,v,h=>by
  rw[rdA];split
  .exact h
  .have:=aBm hg v x
   exact aOw hg t (by omega)
def ExtIs(r s:Int)(es:List Ed)(w:List Int)(b:Bool)(s2:Int)(es2:List Ed)(x:Int):Prop:=
 (b=true/\(rdA es 0 w).2=w.length/\s2=s/\es2=es/\x=(rdA es 0 w).1) \/
 (b=true/\(rdA es 0 w).2<w.length/\s<40/\PathOk r (s+1) es (rdA es 0 w).1 (w.drop (rdA es 0 w).2) s/\s2=s+1+((w.drop (rdA es 0 w).2).length:Int) - 1 /\
  es2=canon (es++aDw (rdA es 0 w).1 (s+1) (w.drop (rdA es 0 w).2) s (w.drop (rdA es 0 w).2).length)/\x=s) \/
 (b=false/\(rdA es 0 w).2<w.length/\¬ (s<40/\PathOk r (s+1) es (rdA es 0 w).1 (w.drop (rdA es 0 w).2) s)/\s2=0/\es2=[]/\x=0)
theorem aUo(r s:Int)(es:List Ed)(w:List Int):∃ b s2 es2 x,ExtIs r s es w b s2 es2 x:=by
 rcases Nat.lt_or_ge (rdA es 0 w).2 w.length with h|h
 .by_cases hc:s<40/\PathOk r (s+1) es (rdA es 0 w).1 (w.drop (rdA es 0 w).2) s
  .exact⟨_,_,_,_,.inr (.inl ⟨rfl,h,hc.1,hc.2,rfl,rfl,rfl⟩)⟩
  exact⟨_,_,_,_,.inr (.inr ⟨rfl,h,hc,rfl,rfl,rfl⟩)⟩
 have:=aRx es w 0;exact⟨_,_,_,_,.inl ⟨rfl,by omega,rfl,rfl,rfl⟩⟩
theorem ExtIs.gr{r s:Int}{es:List Ed}{w:List Int}{s2:Int}{es2:List Ed}{x:Int}(h:ExtIs r s es w true s2 es2 x)(hg:IsGr r s es):IsGr r s2 es2/\0<=x/\x<s2:=by
 have hs:=hg.size;rcases h with⟨-, -,rfl,rfl,rfl⟩|⟨-, -,h1,h2,rfl,rfl,rfl⟩|⟨h, -⟩
 .exact⟨hg,aOw hg.all w (by omega)⟩
 .have hl:0<(w.drop (rdA es 0 w).2).length:=List.length_pos_iff.2 h2.ne
  exact⟨aRe h2,by omega,by omega⟩
 cases h
def aFi(s v:Int):List Int:=v::but v.toNat s.toNat
noncomputable def moveA (r s:Int) (es:List Ed) (v:Int):Int × List Ed:=coreA r (s,aBn (aFi s v) es)
theorem aKN{s v:Int}(h:0<=v/\v<s):(aFi s v).length=s.toNat/\(aFi s v).Nodup/\∀ x∈aFi s v,0<=x/\x<s:=by
 refine⟨?_,?_,?_⟩
 .have:=aET v.toNat (k:=s.toNat) (by omega)
  simp only[aFi,List.length_cons,this];omega
 .refine List.nodup_cons.2 ⟨fun hm=>?_,aDZ _ _⟩
  obtain⟨u, -,hu,he⟩:=aNc.1 hm;omega
 intro x hx;rcases List.mem_cons.1 hx with rfl|hx
 .exact h
 have:=aGy hx;omega
theorem aTD{r s:Int}{es:List Ed}{v:Int}(hg:IsGr r s es)(h:0<=v/\v<s):IsGr r s (aBn (aFi s v) es):=by
 obtain⟨h1, -, -⟩:=aKN h;have h2:=aIn hg (order:=aFi s v) (by simp[aFi]) (by have:=hg.size;omega);rw[h1] at h2;rw[show((s.toNat:Nat):Int)=s by omega] at h2;exact h2
theorem aSr{r s:Int}{es:List Ed}{v:Int}(hg:IsGr r s es)(h:0<=v/\v<s):IsGr r (moveA r s es v).1 (moveA r s es v).2:=aDb (g:=(s,aBn (aFi s v) es)) (aTD hg h)
def MoveIs(r s:Int)(es:List Ed)(v:Int)(rs:Int)(res:List Ed)(b:Bool):Prop:=
 (b=true/\(IsFol r s es/\0<=v/\v<s)/\rs=(moveA r s es v).1/\res=(moveA r s es v).2) \/ (b=false/\¬ (IsFol r s es/\0<=v/\v<s)/\rs=s/\res=es)
def aFV(g:Int × List Ed)(w:List Int):Int × List Ed:=if w=[] then g else(g.1+(w.length:Int) - 1,canon (g.2++aDw 0 g.1 w 0 w.length))
def aEw(l:List (List Int))(g:Int × List Ed):Int × List Ed:=l.foldl aFV g
theorem aJL{l:List (List Int)}{k:Nat}{w:List Int}(h:l[k]?=some w)(g:Int × List Ed):aEw (l.take (k+1)) g=aFV (aEw (l.take k) g) w:=by
 unfold aEw;rw[List.take_add_one,h];simp[List.foldl_append]
def Sp(es:List Ed)(u x v:Int):Prop:=(0<x/\(⟨u,x,v⟩:Ed)∈es) \/ (x<0/\(⟨v, -x,u⟩:Ed)∈es)
def Pa(es:List Ed):Int->List Int->Int->Prop
|u,[],v=>u=v
|u,x::w,v=>∃ t,Sp es u x t/\Pa es t w v
theorem Sp.neg{es:List Ed}{u x v:Int}(h:Sp es u x v):Sp es v (-x) u:=by
 rcases h with⟨h1,h2⟩|⟨h1,h2⟩
 .exact .inr ⟨by omega,by rw[Int.neg_neg];exact h2⟩
 exact .inl ⟨by omega,h2⟩
theorem aBC{es:List Ed}{e:Ed}(h:e∈es)(hl:0<e.l):Sp es e.a e.l e.b:=.inl ⟨hl,h⟩
theorem aOF{es:List Ed}{u x v:Int}:Sp es u x v↔∃ e∈es,aEZ u x e=some v:=by
 constructor
 .rintro(⟨h1,h2⟩|⟨h1,h2⟩)
  .exact⟨_,h2,aDi.2 (.inl ⟨h1,rfl,rfl,rfl⟩)⟩
  exact⟨_,h2,aDi.2 (.inr ⟨h1,rfl,rfl,rfl⟩)⟩
 rintro⟨e,he,h⟩;rcases aDi.1 h with⟨h1,rfl,rfl,rfl⟩|⟨h1,h2,rfl,rfl⟩
 .exact .inl ⟨h1,he⟩
 refine .inr ⟨h1,?_⟩;rw[<- h2];exact he
theorem aLa{es:List Ed}{u x v:Int}:Sp es u x v↔v∈aEt es u x:=aOF.trans aGM.symm
theorem Sp.rng{r s:Int}{es:List Ed}(hg:∀ e∈es,InG r s e){u x v:Int}(h:Sp es u x v):(0<=u/\u<s)/\(0<=v/\v<s)/\x≠0/\-r<=x/\x<=r:=by
 rcases h with⟨h1,h2⟩|⟨h1,h2⟩
 .have:=hg _ h2
  simp only[InG] at this;omega
 have:=hg _ h2;simp only[InG] at this;omega
theorem Sp.lt3{r s:Int}{es:List Ed}(hg:IsGr r s es){u x v:Int}(h:Sp es u x v):Lt3 x:=by
 have h1:=h.rng hg.all;have h2:=hg.rank;unfold Lt3;omega
theorem Sp.mono{es fs:List Ed}(hs:∀ e∈es,e∈fs){u x v:Int}(h:Sp es u x v):Sp fs u x v:=h.imp (fun h=>⟨h.1,hs _ h.2⟩) (fun h=>⟨h.1,hs _ h.2⟩)
theorem Pa.mono{es fs:List Ed}(hs:∀ e∈es,e∈fs):∀ {w:List Int} {u v:Int},Pa es u w v->Pa fs u w v
|[],_,_,h=>h
|_::_,_,_,⟨t,h1,h2⟩=>⟨t,h1.mono hs,h2.mono hs⟩
theorem Pa.nil(es:List Ed)(u:Int):Pa es u [] u:=rfl
theorem aBQ{es:List Ed}{u x v:Int}:Pa es u [x] v↔Sp es u x v:=by
 constructor
 .rintro⟨t,h,rfl⟩
  exact h
 exact fun h=>⟨v,h,rfl⟩
theorem aCC{es:List Ed}{b:List Int}{v:Int}:∀ {a:List Int} {u:Int},Pa es u (a++b) v↔∃ t,Pa es u a t/\Pa es t b v
|[],u=>⟨fun h=>⟨u,rfl,h⟩,fun⟨t,h1,h2⟩=>by cases h1;exact h2⟩
|x::a,u=>by
  constructor
  .rintro⟨t,h1,h2⟩
   obtain⟨s,h3,h4⟩:=aCC.1 h2;exact⟨s,⟨t,h1,h3⟩,h4⟩
  .rintro⟨s,⟨t,h1,h3⟩,h4⟩
   exact⟨t,h1,aCC.2 ⟨s,h3,h4⟩⟩
theorem Pa.app{es:List Ed}{a b:List Int}{u t v:Int}(h:Pa es u a t)(k:Pa es t b v):Pa es u (a++b) v:=aCC.2 ⟨t,h,k⟩
theorem Pa.snoc{es:List Ed}{a:List Int}{u t x v:Int}(h:Pa es u a t)(k:Sp es t x v):Pa es u (a++[x]) v:=h.app (aBQ.2 k)
theorem Pa.lt{r s:Int}{es:List Ed}(hg:IsGr r s es):∀ {w:List Int} {u v:Int},Pa es u w v->LtW w
|[],_,_,_=>LtW.nil
|_::_,_,_,⟨t,h1,h2⟩=>LtW.cons (h1.lt3 hg) (h2.lt hg)
theorem Pa.lets{r s:Int}{es:List Ed}(hg:∀ e∈es,InG r s e):∀ {w:List Int} {u v:Int},Pa es u w v->∀ x∈w,x≠0/\-r<=x/\x<=r
|[],_,_,_=>by simp
|y::w,_,_,⟨t,h1,h2⟩=>fun x hx=>by
  rcases List.mem_cons.1 hx with rfl|hx
  .exact(h1.rng hg).2.2
  .exact h2.lets hg x hx
theorem Pa.rng{r s:Int}{es:List Ed}(hg:∀ e∈es,InG r s e):∀ {w:List Int} {u v:Int},Pa es u w v->0<=u/\u<s->0<=v/\v<s
|[],_,_,h,hu=>by cases h;exact hu
|_::_,_,_,⟨t,h1,h2⟩,_=>h2.rng hg (h1.rng hg).2.1
theorem Pa.inv{r s:Int}{es:List Ed}(hg:IsGr r s es):∀ {w:List Int} {u v:Int},Pa es u w v->Pa es v (aAx w) u
|[],_,_,h=>by cases h;rfl
|x::w,u,v,⟨t,h1,h2⟩=>by
  have e:aAx (x::w)=aAx w++[-x]:=by
   rw[show x::w=[x]++w from rfl,aBK];simp[aAx,(h1.lt3 hg).negI]
  rw[e];exact(h2.inv hg).snoc h1.neg
theorem IsFol.det{r s:Int}{es:List Ed}(h:IsFol r s es){u x v v':Int}(h1:Sp es u x v)(h2:Sp es u x v'):v=v':=by
 have key:∀ e∈es,∀ f∈es,Clash e f->e=f:=by
  intro e he f hf hc;obtain⟨i,hi,rfl⟩:=List.getElem_of_mem he;obtain⟨j,hj,rfl⟩:=List.getElem_of_mem hf;have hp:=List.pairwise_iff_getElem.1 h.fol;rcases Nat.lt_trichotomy i j with hl|rfl|hl
  .exact absurd hc (hp i j hi hj hl)
  .rfl
  exact absurd hc.symm (hp j i hj hi hl)
 rcases h1 with⟨a1,b1⟩|⟨a1,b1⟩
 .rcases h2 with⟨a2,b2⟩|⟨a2,b2⟩
  .have:=key _ b1 _ b2 ⟨rfl,.inl rfl⟩
   injection this
  omega
 rcases h2 with⟨a2,b2⟩|⟨a2,b2⟩
 .omega
 have:=key _ b1 _ b2 ⟨rfl,.inr rfl⟩;injection this
theorem Pa.det{r s:Int}{es:List Ed}(h:IsFol r s es):∀ {w:List Int} {u v v':Int},Pa es u w v->Pa es u w v'->v=v'
|[],_,_,_,h1,h2=>h1.symm.trans h2
|_::_,_,_,_,⟨t,a1,b1⟩,⟨t',a2,b2⟩=>by
  cases h.det a1 a2
  exact b1.det h b2
theorem Pa.det'{r s:Int}{es:List Ed}(h:IsFol r s es){w:List Int}{u u' v:Int}(h1:Pa es u w v)(h2:Pa es u' w v):u=u':=(h1.inv h.gr).det h (h2.inv h.gr)
theorem aEC{r s:Int}{es:List Ed}(h:IsFol r s es){u x v:Int}(hs:Sp es u x v):aAe es u x=v:=by
 have hm:=aLa.1 hs;exact aGL hm fun y hy=>by
  have:=h.det hs (aLa.2 hy);omega
theorem aBN{es:List Ed}{u x:Int}(h:0<=aAe es u x):Sp es u x (aAe es u x):=by
 obtain⟨e,he,h2⟩:=aJX h;exact aOF.2 ⟨e,he,h2⟩
theorem aSw{es:List Ed}{u x:Int}(h:aAe es u x<0)(hg:∀ e∈es,0<=e.a/\0<=e.b)(v:Int):¬ Sp es u x v:=by
 intro hs;have hm:=aLa.1 hs;have hne:aEt es u x≠[]:=fun e=>by rw[e] at hm;cases hm
 obtain⟨h1,h2⟩:=aFu hne;have h3:=aLa.2 h1;have:0<=aIL (aEt es u x):=by
  rcases h3 with⟨_,h3⟩|⟨_,h3⟩
  .exact(hg _ h3).2
  exact(hg _ h3).1
 unfold aAe at h;omega
theorem IsGr.nn{r s:Int}{es:List Ed}(h:IsGr r s es):∀ e∈es,0<=e.a/\0<=e.b:=fun e he=>⟨(h.all e he).1,(h.all e he).2.2.1⟩
theorem aIp{r s:Int}{es:List Ed}(h:IsFol r s es):∀ {w:List Int} {u v:Int},Pa es u w v->rdA es u w=(v,w.length)
|[],_,_,hp=>by cases hp;rfl
|x::w,u,v,⟨t,h1,h2⟩=>by
  have e:=aEC h h1;have ht:=(h1.rng h.gr.all).2.1;rw[rdA,e,if_neg (by omega),aIp h h2]
  rfl
theorem aTb{es:List Ed}:∀ {w:List Int} {u:Int},(rdA es u w).2=w.length->Pa es u w (rdA es u w).1
|[],_,_=>rfl
|x::w,u,h=>by
  rw[rdA] at h |-;by_cases hn:aAe es u x<0
  .rw[if_pos hn] at h
   simp at h
  .rw[if_neg hn] at h |-
   exact⟨_,aBN (by omega),aTb (by simpa using h)⟩
theorem aTT{r s:Int}{es:List Ed}(h:IsFol r s es){w:List Int}{u v:Int}:Pa es u w v↔rdA es u w=(v,w.length):=by
 refine⟨aIp h,fun e=>?_⟩;have h2:(rdA es u w).2=w.length:=by rw[e]
 have:=aTb h2
 rwa [e] at this
theorem pa_red{r s:Int}{es:List Ed}(h:IsFol r s es):∀ {w:List Int} {out:List Int} {u t v:Int},Pa es u out t->Pa es t w v->Pa es u (red out w) v
|[],out,u,t,v,h1,h2=>by cases h2;exact h1
|x::w,out,u,t,v,h1,⟨t2,h2,h3⟩=>by
  rw[aCf];refine pa_red h ?_ h3;rcases aAP out with rfl|⟨o,a,rfl⟩
  .cases h1
   rw[aBk];exact aBQ.2 h2
  .obtain⟨p,h4,h5⟩:=aCC.1 h1
   have h5:=aBQ.1 h5;cases hb:aFf a x with
  |false=>rw[aAL hb];exact h1.snoc h2
  |true=>
    rw[aBB hb];have e:=(aDT (h5.lt3 h.gr) (h2.lt3 h.gr)).1 hb;have e2:x = -a:=by omega
    rw[e2] at h2;rw[h.det h2 h5.neg];exact h4
theorem Pa.red{r s:Int}{es:List Ed}(h:IsFol r s es){w:List Int}{u v:Int}(hp:Pa es u w v):Pa es u (red [] w) v:=pa_red h (Pa.nil es u) hp
def InS(es:List Ed)(w:List Int):Prop:=Pa es 0 (red [] w) 0
theorem InS.mk{r s:Int}{es:List Ed}(h:IsFol r s es){w:List Int}(hp:Pa es 0 w 0):InS es w:=hp.red h
theorem InS.eqv{es:List Ed}{a b:List Int}(h:Eqv a b):InS es a↔InS es b:=by unfold InS;rw[h]
theorem aTz{r s:Int}{es:List Ed}(h:IsFol r s es)(w:List Int):InS es w↔rdA es 0 (red [] w)=(0,(red [] w).length):=aTT h
section
def aSl(w:List Int):Int:=w.getLast?.getD 0
theorem aJU(w:List Int)(x:Int):aSl (w++[x])=x:=by simp[aSl]
def aJK(es:List Ed)(q:Int × List Int):Ed:=aCA (aAe es q.1 (-(aSl q.2))) (aSl q.2) q.1
def aDF(es:List Ed)(st:BS):List Ed:=st.tail.map (aJK es)
theorem aOU{r s:Int}{es:List Ed}(hf:IsFol r s es){u x:Int}{w:List Int}(h:0<=aAe es u x):aJK es (aAe es u x,w++[x])=aCA u x (aAe es u x):=by
 unfold aJK;simp only[aJU];rw[aIQ hf h]
structure Par (es:List Ed) (L:List Int) (st:BS):Prop where
 ne:st≠[]
 par:∀ q∈st.tail,∃ p∈st,∃ x∈L,q=(aAe es p.1 x,p.2++[x])/\0<=aAe es p.1 x
theorem Par.step{es:List Ed}{L:List Int}{st:BS}(h:Par es L st){p:Int × List Int}(hp:p∈st){x:Int}(hx:x∈L):Par es L (aAH es p.1 p.2 st x):=by
 unfold aAH;split
 .exact h
 rename_i hc;refine⟨by simp,fun q hq=>?_⟩;have ht:(st++[(aAe es p.1 x,p.2++[x])]).tail=st.tail++[(aAe es p.1 x,p.2++[x])]:=by
  cases hst:st with
 |nil=>exact absurd hst h.ne
 |cons a t=>rfl
 rw[ht] at hq;rcases List.mem_append.1 hq with hq|hq
 .obtain⟨p',hp',x',hx',h1,h2⟩:=h.par q hq
  exact⟨p',by simp[hp'],x',hx',h1,h2⟩
 simp at hq;subst hq;exact⟨p,by simp[hp],x,hx,rfl,by omega⟩
theorem Par.row{es:List Ed}{L:List Int}{p:Int × List Int}:∀(K:List Int),(∀ x∈K,x∈L)->∀ {st:BS},Par es L st->p∈st->Par es L (aBb es K p st)
|[],_,st,h,_=>h
|x::K,hK,st,h,hp=>Par.row K (fun y hy=>hK y (by simp[hy])) (h.step hp (hK x (by simp))) ((aGd es p.1 p.2 st x).subset hp)
theorem aPN(es:List Ed)(L:List Int)(v:Int)(i:Nat):Par es L (aAo es L v i):=by
 induction i with
|zero=>exact⟨by simp[aAo],fun q hq=>by simp[aAo] at hq⟩
|succ i ih=>
  show Par es L (match (aAo es L v i)[i]? with|none=>aAo es L v i|some p=>aBb es L p (aAo es L v i))
  split
  .exact ih
  rename_i p hp;exact Par.row L (fun x hx=>hx) ih (List.mem_of_getElem? hp)
theorem aPP(es:List Ed)(L:List Int)(v:Int):Par es L (bfs es L v):=aPN es L v 41
theorem IsCor.found{r n:Nat}{es:List Ed}(h:IsCor r n es):(bfs es (lets r) 0).length=n:=by
 have h1:=h.canon;unfold canonG at h1;rw[if_pos h.fol] at h1;have h2:=congrArg Prod.fst h1;simp only[aBO,List.length_map,Int.toNat_natCast] at h2;omega
theorem IsCor.has{r n:Nat}{es:List Ed}(h:IsCor r n es){v:Nat}(hv:v<n):∃ w,((v:Int),w)∈bfs es (lets r) 0:=by
 have hn:0<n:=by omega
 have hb:=aHC (L:=lets r) (v:=0) h.gr.all (Int.le_refl _) (show(0:Int)<(n:Int) by omega);rcases Classical.em ((v:Int)∈(bfs es (lets r) 0).map Prod.fst) with hm|hm
 .obtain⟨p,hp,hpv⟩:=List.mem_map.1 hm
  refine⟨p.2,?_⟩;rw[<- hpv];exact hp
 exfalso
 have hk:BfsOk n (lets r) (bfs es (lets r) 0++[((v:Int),[])]):=by
  refine⟨?_,?_,?_,?_⟩
  .rw[List.map_append,List.nodup_append]
   refine⟨hb.nd,by simp,?_⟩;intro a ha b hb' e;simp at hb';subst hb' e;exact hm ha
  .intro q hq
   rcases List.mem_append.1 hq with hq|hq
   .exact hb.rng q hq
   simp at hq;subst hq;simp only[];omega
  .intro j q hq
   rcases Nat.lt_or_ge j (bfs es (lets r) 0).length with hj|hj
   .rw[List.getElem?_append_left hj] at hq;exact hb.wl j q hq
   rw[List.getElem?_append_right hj] at hq;have:=List.mem_of_getElem? hq;simp at this;subst this;simp
  intro q hq y hy;rcases List.mem_append.1 hq with hq|hq
  .exact hb.wm q hq y hy
  simp at hq;subst hq;simp at hy
 have h1:=hk.len (by omega);rw[List.length_append,h.found] at h1;simp at h1;omega
open Classical in
noncomputable def wordV (r:Nat) (es:List Ed) (v:Int):List Int:=if h:∃ w,(v,w)∈bfs es (lets r) 0 then h.choose else[]
theorem aLi{r n:Nat}{es:List Ed}(hg:IsGr r n es){v:Int}{w:List Int}(h:(v,w)∈bfs es (lets r) 0):wordV r es v=w:=by
 have hn:(0:Int)<(n:Int):=by have:=hg.size;omega
 have hb:=aHC (L:=lets r) (v:=0) hg.all (Int.le_refl _) hn;have hex:∃ w,(v,w)∈bfs es (lets r) 0:=⟨w,h⟩
 unfold wordV;rw[dif_pos hex];have h2:=hex.choose_spec;generalize hex.choose=w' at h2;have key:∀(l:BS),(l.map Prod.fst).Nodup->(v,w)∈l->(v,w')∈l->w'=w:=by
  intro l
  induction l with
 |nil=>intro _ h;cases h
 |cons p t ih=>
   intro hnd ha hb;rw[List.map_cons,List.nodup_cons] at hnd;rcases List.mem_cons.1 ha with ha|ha
   .rcases List.mem_cons.1 hb with hb|hb
    .rw[<- ha] at hb
     injection hb
    rw[<- ha] at hnd;exact absurd (List.mem_map_of_mem (f:=Prod.fst) hb) hnd.1
   rcases List.mem_cons.1 hb with hb|hb
   .rw[<- hb] at hnd
    exact absurd (List.mem_map_of_mem (f:=Prod.fst) ha) hnd.1
   exact ih hnd.2 ha hb
 exact key _ hb.nd h h2
theorem aEs{r n:Nat}{es:List Ed}(h:IsCor r n es){v:Nat}(hv:v<n):((v:Int),wordV r es v)∈bfs es (lets r) 0:=by
 obtain⟨w,hw⟩:=h.has hv;rw[aLi h.gr hw];exact hw
theorem aIr{r n:Nat}{es:List Ed}(h:IsCor r n es){v:Nat}(hv:v<n):(wordV r es v).length<=40/\∀ x∈wordV r es v,x∈lets r:=by
 have hm:=aEs h hv;have hn:(0:Int)<(n:Int):=by omega
 have hn40:n<=40:=by have:=h.gr.size;omega
 have hb:=aHC (L:=lets r) (v:=0) h.gr.all (Int.le_refl _) hn;refine⟨?_,hb.wm _ hm⟩;obtain⟨j,hj,hj2⟩:=List.getElem_of_mem hm;have h1:=hb.wl j _ (by rw[List.getElem?_eq_getElem hj,hj2]);have h2:=h.found;simp only at h1;omega
open Classical in
noncomputable def extraE (r:Nat) (es:List Ed):List Ed:=es.filter fun e=>decide (e ∉ aDF es (bfs es (lets r) 0))
theorem aFq{r:Nat}{es:List Ed}{e:Ed}(h:e∈extraE r es):e∈es:=(List.mem_filter.1 h).1
noncomputable def basisW (r:Nat) (es:List Ed) (e:Ed):List Int:=red [] (wordV r es e.a++[e.l]++aAx (wordV r es e.b))
noncomputable def basisG (r:Nat) (es:List Ed):List (List Int):=(extraE r es).map (basisW r es)
end
theorem IsFol.key{r s:Int}{es:List Ed}(h:IsFol r s es):∀ e∈es,∀ f∈es,Clash e f->e=f:=by
 intro e he f hf hc;obtain⟨i,hi,rfl⟩:=List.getElem_of_mem he;obtain⟨j,hj,rfl⟩:=List.getElem_of_mem hf;have hp:=List.pairwise_iff_getElem.1 h.fol;rcases Nat.lt_trichotomy i j with hl|rfl|hl
 .exact absurd hc (hp i j hi hj hl)
 .rfl
 exact absurd hc.symm (hp j i hj hi hl)
theorem IsFol.mk'{r s:Int}{es:List Ed}(h:IsGr r s es)(hk:∀ e∈es,∀ f∈es,Clash e f->e=f):IsFol r s es:=by
 refine⟨h,List.pairwise_iff_getElem.2 fun i j hi hj hij hc=>?_⟩;have e:=hk _ (List.getElem_mem hi) _ (List.getElem_mem hj) hc;have:=List.pairwise_iff_getElem.1 h.asc i j hi hj hij;exact this.ne e
theorem aGE{ord:List Int}{v:Int}:0<=aDa ord v↔v∈ord:=by
 unfold aDa;split
 .rename_i h
  exact⟨fun _=>h,fun _=>Int.natCast_nonneg _⟩
 rename_i h;exact⟨fun h=>by omega,fun h2=>absurd h2 h⟩
theorem aNW{ord:List Int}{v:Int}(h:v∈ord):ord[(aDa ord v).toNat]?=some v:=by
 unfold aDa;rw[if_pos h,Int.toNat_natCast];have hl:=List.idxOf_lt_length_iff.2 h;rw[List.getElem?_eq_getElem hl,List.getElem_idxOf hl]
theorem aDc{ord:List Int}{u v:Int}(hu:u∈ord)(hv:v∈ord)(h:aDa ord u=aDa ord v):u=v:=by
 have h1:=aNW hu;rw[h,aNW hv] at h1;exact(Option.some.inj h1).symm
theorem aCT{ord:List Int}{es:List Ed}{f:Ed}:f∈aBn ord es↔∃ e∈es,e.a∈ord/\e.b∈ord/\f=⟨aDa ord e.a,e.l,aDa ord e.b⟩:=by
 unfold aBn;rw[aBD,List.mem_filterMap];constructor
 .rintro⟨e,he,h⟩
  unfold aAK at h;split at h
  .rename_i hc
   exact⟨e,he,aGE.1 hc.1,aGE.1 hc.2,(Option.some.inj h).symm⟩
  cases h
 rintro⟨e,he,h1,h2,rfl⟩;refine⟨e,he,?_⟩;unfold aAK;rw[if_pos ⟨aGE.2 h1,aGE.2 h2⟩]
theorem aHw{ord:List Int}{es:List Ed}{i x j:Int}:Sp (aBn ord es) i x j↔∃ u v,u∈ord/\v∈ord/\aDa ord u=i/\aDa ord v=j/\Sp es u x v:=by
 constructor
 .rintro(⟨h1,h2⟩|⟨h1,h2⟩)
  .obtain⟨e,he,ha,hb,h3⟩:=aCT.1 h2
   injection h3 with h3 h4 h5
   exact⟨e.a,e.b,ha,hb,h3.symm,h5.symm,.inl ⟨h1,by rw[h4];exact he⟩⟩
  obtain⟨e,he,ha,hb,h3⟩:=aCT.1 h2;injection h3 with h3 h4 h5
  exact⟨e.b,e.a,hb,ha,h5.symm,h3.symm,.inr ⟨h1,by rw[h4];exact he⟩⟩
 rintro⟨u,v,hu,hv,rfl,rfl,(⟨h1,h2⟩|⟨h1,h2⟩)⟩
 .exact .inl ⟨h1,aCT.2 ⟨_,h2,hu,hv,rfl⟩⟩
 exact .inr ⟨h1,aCT.2 ⟨_,h2,hv,hu,rfl⟩⟩
theorem aHv{ord:List Int}{es:List Ed}:∀ {w:List Int} {i j:Int},Pa (aBn ord es) i w j->∀ u∈ord,aDa ord u=i->∃ v∈ord,aDa ord v=j/\Pa es u w v
|[],_,_,h,u,hu,hi=>⟨u,hu,hi.trans h,rfl⟩
|x::w,i,j,⟨t,h1,h2⟩,u,hu,hi=>by
  obtain⟨u',t',hu',ht',hi',htt,hs⟩:=aHw.1 h1;have e:=aDc hu' hu (hi'.trans hi.symm);subst e;obtain⟨v,hv,hj,hp⟩:=aHv h2 t' ht' htt;exact⟨v,hv,hj,⟨t',hs,hp⟩⟩
theorem aEj{ord:List Int}{es:List Ed}:∀ {w:List Int} {u v:Int},Pa es u w v->(∀ a b t,w=a++b->Pa es u a t->t∈ord)->Pa (aBn ord es) (aDa ord u) w (aDa ord v)
|[],_,_,h,_=>by cases h;rfl
|x::w,u,v,⟨t,h1,h2⟩,hr=>by
  have hu:=hr [] (x::w) u rfl rfl;have ht:=hr [x] w t rfl (aBQ.2 h1);exact⟨aDa ord t,aHw.2 ⟨u,t,hu,ht,rfl,rfl,h1⟩,aEj h2 fun a b t' e hp=>hr (x::a) b t' (by rw[e];rfl) ⟨t,h1,hp⟩⟩
theorem aKR{r s:Int}{es:List Ed}{ord:List Int}(h:IsFol r s es)(h0:ord≠[])(h40:ord.length<=40):IsFol r ord.length (aBn ord es):=by
 refine IsFol.mk' (aIn h.gr h0 h40) fun e he f hf hc=>?_;obtain⟨e',he',a1,b1,rfl⟩:=aCT.1 he;obtain⟨f',hf',a2,b2,rfl⟩:=aCT.1 hf;have:e'=f':=h.key e' he' f' hf' ⟨hc.1,hc.2.imp (aDc a1 a2) (aDc b1 b2)⟩;rw[this]
theorem aGx{es:List Ed}{p:Int × List Int}:∀(K:List Int) {st:BS},∀ x∈K,0<=aAe es p.1 x->aAe es p.1 x∈(aBb es K p st).map Prod.fst
|[],_,x,hx,_=>by cases hx
|y::K,st,x,hx,hn=>by
  rcases List.mem_cons.1 hx with rfl|hx
  .have h1:aAe es p.1 x∈(aAH es p.1 p.2 st x).map Prod.fst:=by
    unfold aAH;by_cases hc:aAe es p.1 x<0 \/ aAe es p.1 x∈st.map Prod.fst
    .rw[if_pos hc]
     rcases hc with hc|hc
     .omega
     .exact hc
    .rw[if_neg hc,List.map_append]
     exact List.mem_append_right _ (by simp)
   obtain⟨q,hq,e⟩:=List.mem_map.1 h1;rw[<- e];exact List.mem_map.2 ⟨q,(aCE es K p (aAH es p.1 p.2 st x)).subset hq,rfl⟩
  .exact aGx K x hx hn
theorem aES{es:List Ed}{L:List Int}{v:Int}:∀(i j:Nat) {p:Int × List Int},j<i->(aAo es L v i)[j]?=some p->∀ x∈L,0<=aAe es p.1 x->aAe es p.1 x∈(aAo es L v i).map Prod.fst
|0,j,p,h,_=>by omega
|i+1,j,p,h,hp=>by
  intro x hx hn;cases hq:(aAo es L v i)[i]? with
 |none=>
   have hs:aAo es L v (i+1)=aAo es L v i:=by simp[aAo,hq]
   rw[hs] at hp |-;have hji:j<i:=by
    have h1:=(List.getElem?_eq_some_iff.1 hp).1;have h2:=List.getElem?_eq_none_iff.1 hq;omega
   exact aES i j hji hp x hx hn
 |some q=>
   have hs:aAo es L v (i+1)=aBb es L q (aAo es L v i):=by simp[aAo,hq]
   rw[hs] at hp |-;rcases Nat.lt_or_ge j i with hji|hji
   .have hl:j<(aAo es L v i).length:=by
     have:=(List.getElem?_eq_some_iff.1 hq).1;omega
    have hp2:(aAo es L v i)[j]?=some p:=by
     have h1:=aAO (aCE es L q (aAo es L v i)) (List.getElem?_eq_getElem hl);rw[hp] at h1;rw[List.getElem?_eq_getElem hl,<- h1]
    have h2:=aES i j hji hp2 x hx hn;obtain⟨z,hz,e⟩:=List.mem_map.1 h2;rw[<- e];exact List.mem_map.2 ⟨z,(aCE es L q _).subset hz,rfl⟩
   .have e:j=i:=by omega
    subst e;have h1:=aAO (aCE es L q (aAo es L v j)) hq;rw[hp] at h1;obtain rfl:=Option.some.inj h1;exact aGx L x hx hn
theorem aON{r s v:Int}{es:List Ed}{L:List Int}(hg:∀ e∈es,InG r s e)(h0:0<=v)(h1:v<s)(hs:s<=40){p:Int × List Int}(hp:p∈bfs es L v){x:Int}(hx:x∈L)(hn:0<=aAe es p.1 x):aAe es p.1 x∈(bfs es L v).map Prod.fst:=by
 obtain⟨j,hj⟩:=List.mem_iff_getElem?.1 hp;have hl:=(aHC (L:=L) hg h0 h1).len (by omega);have hjl:=(List.getElem?_eq_some_iff.1 hj).1;exact aES 41 j (by omega) hj x hx hn
theorem aUg(es:List Ed)(L:List Int)(v:Int):∀ p∈bfs es L v,Pa es v p.2 p.1:=by
 have hrow:∀(K:List Int) (p:Int × List Int) (st:BS),Pa es v p.2 p.1->(∀ q∈st,Pa es v q.2 q.1)->∀ q∈aBb es K p st,Pa es v q.2 q.1:=by
  intro K
  induction K with
 |nil=>exact fun p st _ h=>h
 |cons x K ih=>
   intro p st hp h;refine ih p (aAH es p.1 p.2 st x) hp fun q hq=>?_;unfold aAH at hq;split at hq
   .exact h q hq
   rename_i hc;rcases List.mem_append.1 hq with hq|hq
   .exact h q hq
   rw[List.mem_singleton] at hq;subst hq;exact hp.snoc (aBN (by omega))
 have hst:∀ i,∀ q∈aAo es L v i,Pa es v q.2 q.1:=by
  intro i
  induction i with
 |zero=>
   intro q hq;simp[aAo] at hq;subst hq
   rfl
 |succ i ih=>
   cases hq:(aAo es L v i)[i]? with
  |none=>rw[show aAo es L v (i+1)=aAo es L v i by simp[aAo,hq]];exact ih
  |some p=>
    rw[show aAo es L v (i+1)=aBb es L p (aAo es L v i) by simp[aAo,hq]];exact hrow L p _ (ih p (List.mem_of_getElem? hq)) ih
 exact hst 41
theorem aDl{r s v:Int}{es:List Ed}(hf:IsFol r s es)(h0:0<=v)(h1:v<s):∀ {w:List Int} {u t:Int},u∈aBO r es v->Pa es u w t->t∈aBO r es v
|[],u,t,hu,h=>by cases h;exact hu
|x::w,u,t,hu,⟨q,h2,h3⟩=>by
  refine aDl hf h0 h1 ?_ h3;obtain⟨p,hp,rfl⟩:=List.mem_map.1 hu;have hr:=(h2.rng hf.gr.all)
  have hx:x∈lets r.toNat:=aBz.2 (by have:=hf.gr.rank;omega);have hn:=aEC hf h2;have:=aON (L:=lets r.toNat) hf.gr.all h0 h1 hf.gr.size.2 hp hx (by omega)
  rwa [hn] at this
theorem aEh(r:Int)(es:List Ed)(v:Int):v∈aBO r es v:=by
 have h:(v,[])∈bfs es (lets r.toNat) v:=by
  have h1:=aDY es (lets r.toNat) v 0 41;rw[Nat.zero_add] at h1;exact h1.subset (by simp[aAo])
 exact List.mem_map.2 ⟨_,h,rfl⟩
theorem aQT(r:Int)(es:List Ed)(v:Int):(aBO r es v)[0]?=some v:=by
 have h1:=aDY es (lets r.toNat) v 0 41;rw[Nat.zero_add] at h1;have h2:(aAo es (lets r.toNat) v 0)[0]?=some (v,[]):=by simp[aAo]
 have h3:=aAO h1 h2;unfold aBO bfs;rw[List.getElem?_map,h3]
 rfl
theorem aTk{es es':List Ed}{L:List Int}{v:Int}{f:Int->Int}{R:Int->Prop}(hv:R v)(hcl:∀ u,R u->∀ x∈L,0<=aAe es u x->R (aAe es u x))(hn:∀ u,R u->∀ x∈L,aAe es u x<0->aAe es' (f u) x<0)(hp:∀ u,R u->∀ x∈L,0<=aAe es u x->aAe es' (f u) x=f (aAe es u x)/\0<=f (aAe es u x))(hi:∀ u t,R u->R t->f u=f t->u=t):bfs es' L (f v)=(bfs es L v).map fun p=>(f p.1,p.2):=by
 have hstep:∀(x:Int) (p:Int × List Int) (st:BS),x∈L->R p.1->(∀ q∈st,R q.1)->aAH es' (f p.1) p.2 (st.map fun p=>(f p.1,p.2)) x=(aAH es p.1 p.2 st x).map (fun p=>(f p.1,p.2))/\∀ q∈aAH es p.1 p.2 st x,R q.1:=by
  intro x p st hx hpR hst;unfold aAH;by_cases hneg:aAe es p.1 x<0
  .rw[if_pos (.inl (hn p.1 hpR x hx hneg)),if_pos (.inl hneg)]
   exact⟨rfl,hst⟩
  have h1:=hp p.1 hpR x hx (by omega);have hR:=hcl p.1 hpR x hx (by omega);have hmem:aAe es' (f p.1) x∈(st.map fun p=>(f p.1,p.2)).map Prod.fst↔aAe es p.1 x∈st.map Prod.fst:=by
   rw[h1.1,List.map_map];constructor
   .intro h
    obtain⟨q,hq,e⟩:=List.mem_map.1 h;exact List.mem_map.2 ⟨q,hq,hi _ _ (hst q hq) hR e⟩
   intro h;obtain⟨q,hq,e⟩:=List.mem_map.1 h;exact List.mem_map.2 ⟨q,hq,by rw[Function.comp_apply,e]⟩
  by_cases hin:aAe es p.1 x∈st.map Prod.fst
  .rw[if_pos (.inr (hmem.2 hin)),if_pos (.inr hin)]
   exact⟨rfl,hst⟩
  rw[if_neg (fun h=>h.elim (fun h=>by omega) (fun h=>hin (hmem.1 h))),if_neg (fun h=>h.elim (fun h=>by omega) hin),List.map_append,h1.1];refine⟨rfl,fun q hq=>?_⟩;rcases List.mem_append.1 hq with hq|hq
  .exact hst q hq
  rw[List.mem_singleton] at hq;subst hq;exact hR
 have hrow:∀(K:List Int) (p:Int × List Int) (st:BS),(∀ x∈K,x∈L)->R p.1->(∀ q∈st,R q.1)->aBb es' K (f p.1,p.2) (st.map fun p=>(f p.1,p.2))=(aBb es K p st).map (fun p=>(f p.1,p.2))/\∀ q∈aBb es K p st,R q.1:=by
  intro K
  induction K with
 |nil=>exact fun p st _ _ h=>⟨rfl,h⟩
 |cons x K ih=>
   intro p st hK hpR hst;obtain⟨h1,h2⟩:=hstep x p st (hK x List.mem_cons_self) hpR hst;have h3:=ih p (aAH es p.1 p.2 st x) (fun y hy=>hK y (List.mem_cons_of_mem _ hy)) hpR h2;refine⟨?_,h3.2⟩
   show aBb es' K (f p.1,p.2) (aAH es' (f p.1) p.2 (st.map fun p=>(f p.1,p.2)) x)=_
   rw[h1];exact h3.1
 have hst:∀ i,aAo es' L (f v) i=(aAo es L v i).map (fun p=>(f p.1,p.2))/\∀ q∈aAo es L v i,R q.1:=by
  intro i
  induction i with
 |zero=>
   refine⟨rfl,fun q hq=>?_⟩;simp[aAo] at hq;subst hq;exact hv
 |succ i ih=>
   cases hq:(aAo es L v i)[i]? with
  |none=>
    have e1:aAo es L v (i+1)=aAo es L v i:=by simp[aAo,hq]
    have e2:aAo es' L (f v) (i+1)=aAo es' L (f v) i:=by
     have:(aAo es' L (f v) i)[i]?=none:=by rw[ih.1,List.getElem?_map,hq];rfl
     simp[aAo,this]
    rw[e1,e2];exact ih
  |some p=>
    have e1:aAo es L v (i+1)=aBb es L p (aAo es L v i):=by simp[aAo,hq]
    have e2:aAo es' L (f v) (i+1)=aBb es' L (f p.1,p.2) (aAo es' L (f v) i):=by
     have:(aAo es' L (f v) i)[i]?=some (f p.1,p.2):=by rw[ih.1,List.getElem?_map,hq];rfl
     simp[aAo,this]
    rw[e1,e2,ih.1];exact hrow L p _ (fun x hx=>hx) (ih.2 p (List.mem_of_getElem? hq)) ih.2
 exact(hst 41).1
def aUb(es:List Ed)(w:List Int):Prop:=∃ w2,LtW w2/\Eqv w w2/\Pa es 0 w2 0
theorem aNU{r s:Int}{es:List Ed}(h:IsFol r s es){w:List Int}(hw:LtW w):aUb es w↔InS es w:=by
 constructor
 .rintro⟨w2,l2,e,p⟩
  exact(InS.eqv e).2 (InS.mk h p)
 exact fun h2=>⟨Go.Proofs.YtkimajabegojoaaGreat.red [] w,aHL hw,(Eqv.toRed hw).symm,h2⟩
theorem aFv{p:Int × Int}{es:List Ed}{f:Ed}:f∈aBY p es↔∃ e∈es,aEd p e=f:=by
 unfold aBY;rw[aBD,List.mem_map]
theorem aOe{p:Int × Int}{es:List Ed}{i x j:Int}:Sp (aBY p es) i x j↔∃ u v,aBI p u=i/\aBI p v=j/\Sp es u x v:=by
 constructor
 .rintro(⟨h1,h2⟩|⟨h1,h2⟩)
  .obtain⟨e,he,h3⟩:=aFv.1 h2
   injection h3 with h3 h4 h5
   exact⟨e.a,e.b,h3,h5,.inl ⟨h1,by rw[<- h4];exact he⟩⟩
  obtain⟨e,he,h3⟩:=aFv.1 h2;injection h3 with h3 h4 h5
  exact⟨e.b,e.a,h5,h3,.inr ⟨h1,by rw[<- h4];exact he⟩⟩
 rintro⟨u,v,rfl,rfl,(⟨h1,h2⟩|⟨h1,h2⟩)⟩
 .exact .inl ⟨h1,aFv.2 ⟨_,h2,rfl⟩⟩
 exact .inr ⟨h1,aFv.2 ⟨_,h2,rfl⟩⟩
theorem aOd{p:Int × Int}{es:List Ed}:∀ {w:List Int} {u v:Int},Pa es u w v->Pa (aBY p es) (aBI p u) w (aBI p v)
|[],_,_,h=>by cases h;rfl
|_::_,_,_,⟨t,h1,h2⟩=>⟨aBI p t,aOe.2 ⟨_,_,rfl,rfl,h1⟩,aOd h2⟩
def Apex(es:List Ed)(p:Int × Int):Prop:=∃ c x,Sp es c x p.1/\Sp es c x p.2
theorem aTi{r s:Int}{es:List Ed}(hg:∀ e∈es,InG r s e){e f:Ed}(he:e∈es)(hf:f∈es){p:Int × Int}(h:p∈aAk e f):Apex es p:=by
 have h1:=hg e he;have h2:=hg f hf;simp only[InG] at h1 h2;have se:=aBC he (by omega);have sf:=aBC hf (by omega);unfold aAk at h;split at h
 .rename_i hl
  rcases List.mem_append.1 h with h|h
  .split at h
   .rename_i ha
    rw[List.mem_singleton] at h;subst h;rw[<- hl,<- ha] at sf;rcases Int.le_total e.b f.b with hm|hm
    .refine⟨e.a,e.l,?_,?_⟩
     .rw[Int.min_eq_left hm];exact se
     rw[Int.max_eq_right hm];exact sf
    refine⟨e.a,e.l,?_,?_⟩
    .rw[Int.min_eq_right hm];exact sf
    rw[Int.max_eq_left hm];exact se
   cases h
  split at h
  .rename_i hb
   rw[List.mem_singleton] at h;subst h;rw[<- hl,<- hb] at sf;rcases Int.le_total e.a f.a with hm|hm
   .refine⟨e.b, -e.l,?_,?_⟩
    .rw[Int.min_eq_left hm];exact se.neg
    rw[Int.max_eq_right hm];exact sf.neg
   refine⟨e.b, -e.l,?_,?_⟩
   .rw[Int.min_eq_right hm];exact sf.neg
   rw[Int.max_eq_left hm];exact se.neg
  cases h
 cases h
theorem aNF{r s:Int}{es:List Ed}(hg:∀ e∈es,InG r s e){p:Int × Int}:∀ {fs:List Ed},(∀ e∈fs,e∈es)->p∈aBU fs->Apex es p
|[],_,h=>by cases h
|e::t,hs,h=>by
  rcases List.mem_append.1 h with h|h
  .obtain⟨f,hf,h⟩:=List.mem_flatMap.1 h
   exact aTi hg (hs e List.mem_cons_self) (hs f (List.mem_cons_of_mem _ hf)) h
  .exact aNF hg (fun x hx=>hs x (List.mem_cons_of_mem _ hx)) h
theorem aQl{p:Int × Int}(hp:p.1<p.2){u v:Int}(h:aBI p u=aBI p v):u=v \/ (u=p.1/\v=p.2) \/ (u=p.2/\v=p.1):=by
 unfold aBI at h;split at h <;> split at h <;> (try split at h) <;> (try split at h) <;> omega
theorem aPb{p:Int × Int}(h0:0<=p.1)(hp:p.1<p.2):aBI p 0=0:=by
 unfold aBI;rw[if_neg (by omega),if_neg (by omega)]
theorem Apex.jump{r s:Int}{es:List Ed}(hg:IsGr r s es){p:Int × Int}(ha:Apex es p)(hp:p.1<p.2){u v:Int}(h:aBI p u=aBI p v) :
  ∃ j,Pa es u j v/\∀(out b:List Int),Rd out->LtW out->red out (j++b)=red out b:=by
 obtain⟨c,x,h1,h2⟩:=ha;have hx:=(h1.lt3 hg).neg;have hr:∀(out b:List Int),Rd out->LtW out->red out ([-x,x]++b)=red out b:=fun out b ho hl=>by
  have:=aOz b ho hl hx
  rwa [Int.neg_neg] at this
 rcases aQl hp h with rfl|⟨rfl,rfl⟩|⟨rfl,rfl⟩
 .exact⟨[],rfl,fun _ _ _ _=>rfl⟩
 .exact⟨[-x,x],⟨c,h1.neg,_,h2,rfl⟩,hr⟩
 exact⟨[-x,x],⟨c,h2.neg,_,h1,rfl⟩,hr⟩
theorem aLG{r s:Int}{es:List Ed}(hg:IsGr r s es){p:Int × Int}(ha:Apex es p)(hp:p.1<p.2):∀ {w:List Int} {u t:Int},Pa (aBY p es) (aBI p u) w t ->
  ∃ w2 v,aBI p v=t/\Pa es u w2 v/\∀ out,Rd out->LtW out->red out w2=red out w
|[],u,t,h=>⟨[],u,h,rfl,fun _ _ _=>rfl⟩
|x::w,u,t,⟨q,h1,h2⟩=>by
  obtain⟨u',q',hu',rfl,hs⟩:=aOe.1 h1;obtain⟨j,hj,hjr⟩:=ha.jump hg hp hu'.symm;obtain⟨w2,v,hv,hw2,hr⟩:=aLG hg ha hp h2;refine⟨j++x::w2,v,hv,hj.app ⟨q',hs,hw2⟩,fun out ho hl=>?_⟩;have hx:=hs.lt3 hg;rw[hjr out _ ho hl,aCf,aCf,hr _ (ho.step hl hx) (LtW.red (w:=[x]) hl (LtW.one hx))]
theorem aPl{r s:Int}{es:List Ed}(hg:IsGr r s es){p:Int × Int}(ha:Apex es p)(h0:0<=p.1)(hp:p.1<p.2)(w:List Int):aUb (aBY p es) w↔aUb es w:=by
 have hz:=aPb h0 hp;constructor
 .rintro⟨w2,l2,e,h⟩
  rw[<- hz] at h;obtain⟨w3,v,hv,h3,hr⟩:=aLG hg ha hp h;obtain⟨j,hj,hjr⟩:=ha.jump hg hp (u:=v) (v:=0) (by rw[hv]);have h4:=h3.app hj;refine⟨w3++j,h4.lt hg,e.trans ?_,h4⟩;unfold Eqv;have h5:=hjr (red [] w3) [] (aHN (h3.lt hg)) (aHL (h3.lt hg));rw[List.append_nil] at h5;rw[aBF,h5,aNs,hr [] Rd.nil LtW.nil]
 rintro⟨w2,l2,e,h⟩;have:=aOd (p:=p) h;rw[hz] at this;exact⟨w2,l2,e,this⟩
theorem aJM{r:Int}(w:List Int):∀(n:Nat) {g:Int × List Ed},IsGr r g.1 g.2->(aUb (aCR n g).2 w↔aUb g.2 w)
|0,g,_=>Iff.rfl
|n+1,g,h=>by
  cases hf:aBU g.2 with
 |nil=>rw[aEc hf]
 |cons p t=>
   rw[aEb hf];have hm:p∈aBU g.2:=by rw[hf];exact List.mem_cons_self
   obtain⟨h1,h2,h3⟩:=aDu h.all h.asc hm;exact(aJM w n (aFh h h1 h2 h3)).trans (aPl h (aNF h.all (fun e he=>he) hm) h1 h2 w)
theorem aMO{es:List Ed}{e:Ed}(he:e∈es)(v:Int):degE v e<=deg es v:=by
 induction es with
|nil=>cases he
|cons a t ih=>
  have h:deg (a::t) v=degE v a+deg t v:=by simp[deg]
  rcases List.mem_cons.1 he with rfl|he
  .omega
  have:=ih he;omega
theorem aTs{es:List Ed}{e f:Ed}(he:e∈es)(hf:f∈es)(hne:e≠f)(v:Int):degE v e+degE v f<=deg es v:=by
 induction es with
|nil=>cases he
|cons a t ih=>
  have h:deg (a::t) v=degE v a+deg t v:=by simp[deg]
  rcases List.mem_cons.1 he with h1|h1 <;> rcases List.mem_cons.1 hf with h2|h2
  .exact absurd (h1.trans h2.symm) hne
  .have:=aMO h2 v
   rw[h1];omega
  .have:=aMO h1 v
   rw[h2];omega
  have:=ih h1 h2;omega
theorem Sp.degE{es:List Ed}{v y t:Int}(h:Sp es v y t):∃ e∈es,1<=degE v e/\((0<y/\e.a=v/\e.l=y/\e.b=t) \/ (y<0/\e.b=v/\e.l = -y/\e.a=t)):=by
 rcases h with⟨h1,h2⟩|⟨h1,h2⟩
 .exact⟨_,h2,by simp[Go.Proofs.YtkimajabegojoaaGreat.degE],.inl ⟨h1,rfl,rfl,rfl⟩⟩
 exact⟨_,h2,by simp[Go.Proofs.YtkimajabegojoaaGreat.degE],.inr ⟨h1,rfl,rfl,rfl⟩⟩
def Two(es:List Ed)(v:Int):Prop:=∃ y z t t',y≠z/\Sp es v y t/\Sp es v z t'
theorem Two.deg{es:List Ed}{v:Int}(h:Two es v):2<=deg es v:=by
 obtain⟨y,z,t,t',hne,h1,h2⟩:=h;obtain⟨e,he,d1,c1⟩:=h1.degE;obtain⟨f,hf,d2,c2⟩:=h2.degE;by_cases hef:e=f
 .subst hef
  have:degE v e=2:=by
   unfold Go.Proofs.YtkimajabegojoaaGreat.degE;rcases c1 with⟨a1,a2,a3,a4⟩|⟨a1,a2,a3,a4⟩ <;> rcases c2 with⟨b1,b2,b3,b4⟩|⟨b1,b2,b3,b4⟩
   .omega
   .rw[if_pos a2,if_pos b2]
   .rw[if_pos b2,if_pos a2]
   omega
  have:=aMO he v;omega
 have:=aTs he hf hef v;omega
theorem aPz{r s:Int}{es:List Ed}(h:IsFol r s es){v:Int}(hd:2<=deg es v):Two es v:=by
 have key:∀ fs:List Ed,(∀ e∈fs,e∈es)->Asc fs->1<=deg fs v->∃ e∈fs,1<=degE v e:=by
  intro fs
  induction fs with
 |nil=>intro _ _ h;simp[Go.Proofs.YtkimajabegojoaaGreat.deg] at h
 |cons a t ih=>
   intro hs ha hd;have h1:deg (a::t) v=degE v a+deg t v:=by simp[Go.Proofs.YtkimajabegojoaaGreat.deg]
   by_cases h2:1<=degE v a
   .exact⟨a,List.mem_cons_self,h2⟩
   obtain⟨e,he,h3⟩:=ih (fun e he=>hs e (List.mem_cons_of_mem _ he)) (List.pairwise_cons.1 ha).2 (by omega);exact⟨e,List.mem_cons_of_mem _ he,h3⟩
 have key2:∀ fs:List Ed,(∀ e∈fs,e∈es)->Asc fs->2<=deg fs v->(∃ e∈fs,degE v e=2) \/ ∃ e∈fs,∃ f∈fs,e≠f/\1<=degE v e/\1<=degE v f:=by
  intro fs
  induction fs with
 |nil=>intro _ _ h;simp[Go.Proofs.YtkimajabegojoaaGreat.deg] at h
 |cons a t ih=>
   intro hs ha hd;have h1:deg (a::t) v=degE v a+deg t v:=by simp[Go.Proofs.YtkimajabegojoaaGreat.deg]
   have hle:degE v a<=2:=by unfold Go.Proofs.YtkimajabegojoaaGreat.degE;split <;> split <;> omega
   obtain⟨hlt,hasc⟩:=List.pairwise_cons.1 ha;by_cases h2:degE v a=2
   .exact .inl ⟨a,List.mem_cons_self,h2⟩
   by_cases h3:1<=degE v a
   .obtain⟨e,he,h4⟩:=key t (fun e he=>hs e (List.mem_cons_of_mem _ he)) hasc (by omega)
    exact .inr ⟨a,List.mem_cons_self,e,List.mem_cons_of_mem _ he,(hlt e he).ne,h3,h4⟩
   rcases ih (fun e he=>hs e (List.mem_cons_of_mem _ he)) hasc (by omega) with⟨e,he,h4⟩|⟨e,he,f,hf,h4⟩
   .exact .inl ⟨e,List.mem_cons_of_mem _ he,h4⟩
   exact .inr ⟨e,List.mem_cons_of_mem _ he,f,List.mem_cons_of_mem _ hf,h4⟩
 have way:∀ e∈es,1<=degE v e->(e.a=v/\Sp es v e.l e.b) \/ (e.b=v/\Sp es v (-e.l) e.a):=by
  intro e he h1;have hl:=h.gr.all e he;simp only[InG] at hl;have hs:=aBC he (by omega);unfold Go.Proofs.YtkimajabegojoaaGreat.degE at h1;by_cases ha:e.a=v
  .exact .inl ⟨ha,by rw[<- ha];exact hs⟩
  by_cases hb:e.b=v
  .exact .inr ⟨hb,by rw[<- hb];exact hs.neg⟩
  rw[if_neg ha,if_neg hb] at h1;omega
 rcases key2 es (fun e he=>he) h.gr.asc hd with⟨e,he,h2⟩|⟨e,he,f,hf,hne,h1,h2⟩
 .have hl:=h.gr.all e he
  simp only[InG] at hl;have hs:=aBC he (by omega);unfold Go.Proofs.YtkimajabegojoaaGreat.degE at h2;have ha:e.a=v:=by
   apply Classical.byContradiction;intro hc;rw[if_neg hc] at h2;split at h2 <;> omega
  have hb:e.b=v:=by
   apply Classical.byContradiction;intro hc;rw[if_neg hc] at h2;split at h2 <;> omega
  refine⟨e.l, -e.l,e.b,e.a,by omega,by rw[<- ha];exact hs,?_⟩;rw[<- hb];exact hs.neg
 have le:=h.gr.all e he;have lf:=h.gr.all f hf;simp only[InG] at le lf;rcases way e he h1 with⟨a1,s1⟩|⟨a1,s1⟩ <;> rcases way f hf h2 with⟨a2,s2⟩|⟨a2,s2⟩
 .exact⟨_,_,_,_,fun e1=>hne (h.key e he f hf ⟨e1,.inl (a1.trans a2.symm)⟩),s1,s2⟩
 .exact⟨_,_,_,_,by omega,s1,s2⟩
 .exact⟨_,_,_,_,by omega,s1,s2⟩
 exact⟨_,_,_,_,fun e1=>hne (h.key e he f hf ⟨by omega,.inr (a1.trans a2.symm)⟩),s1,s2⟩
theorem aKx{r s:Int}{es:List Ed}(hg:∀ e∈es,InG r s e){v u:Int}:Conn es v u↔∃ w,Pa es v w u:=by
 constructor
 .intro h
  induction h with
 |here=>exact⟨[],rfl⟩
 |@out e he _ ih=>
   obtain⟨w,hw⟩:=ih;have hl:=hg e he;simp only[InG] at hl;exact⟨_,hw.snoc (aBC he (by omega))⟩
 |@inn e he _ ih=>
   obtain⟨w,hw⟩:=ih;have hl:=hg e he;simp only[InG] at hl;exact⟨_,hw.snoc (aBC he (by omega)).neg⟩
 rintro⟨w,hw⟩;have key:∀(w:List Int) (t:Int),Conn es v t->Pa es t w u->Conn es v u:=by
  intro w
  induction w with
 |nil=>intro t ht h;cases h;exact ht
 |cons x w ih=>
   rintro t ht ⟨q,h1,h2⟩;refine ih q ?_ h2;rcases h1 with⟨_,h1⟩|⟨_,h1⟩
   .exact Conn.out h1 ht
   exact Conn.inn h1 ht
 exact key w v Conn.here hw
theorem aEy{r s:Int}{es:List Ed}(h:IsFol r s es):leaf s es=none↔∀ v,1<=v->v<s->Two es v/\∃ w,Pa es 0 w v:=by
 constructor
 .intro hl v h1 h2
  rcases aPh s es with⟨_,hall⟩|⟨u,hu,_⟩
  .have:=hall v.toNat (by omega) (by omega)
   rw[Int.toNat_of_nonneg (by omega)] at this;unfold Bad at this;refine⟨aPz h (by omega),(aKx h.gr.all).1 (Classical.byContradiction fun hc=>this (.inr hc))⟩
  rw[hl] at hu;cases hu
 intro hall;refine aGK fun u h1 h2 hb=>?_;obtain⟨h3,h4⟩:=hall u (by omega) h2;rcases hb with hb|hb
 .have:=h3.deg
  omega
 exact hb ((aKx h.gr.all).2 h4)
theorem aPg{r s:Int}{es:List Ed}(h:IsFol r s es){v:Int}(hv:v≠0)(hb:Bad es v){w a b:List Int}(hr:Rd w)(e:w=a++b)(h1:Pa es 0 a v)(h2:Pa es v b 0):False:=by
 rcases hb with hb|hb
 .rcases aAP a with rfl|⟨a',x,rfl⟩
  .cases h1
   exact hv rfl
  cases b with
 |nil=>cases h2;exact hv rfl
 |cons y b'=>
   obtain⟨t,h3,h4⟩:=aCC.1 h1;have h4:=(aBQ.1 h4).neg;obtain⟨t',h5,h6⟩:=h2;by_cases hxy:y = -x
   .subst hxy
    exact hr a' b' x (by rw[e];simp)
   have:=Two.deg (es:=es) (v:=v) ⟨y, -x,t',t,hxy,h5,h4⟩;omega
 exact hb ((aKx h.gr.all).2 ⟨a,h1⟩)
theorem aEA{v:Nat}{n:Nat}{x:Int}:x∈but v n↔0<=x/\x<n/\x≠v:=by
 rw[aNc];constructor
 .rintro⟨u,h1,h2,rfl⟩
  omega
 rintro⟨h1,h2,h3⟩;exact⟨x.toNat,by omega,by omega,by omega⟩
theorem aNH{v n:Nat}(hv:1<=v)(hn:v<n):aDa (but v n) 0=0:=by
 refine aHp (aDZ v n) (k:=0) ?_;obtain⟨m,rfl⟩:∃ m,n=m+1:=⟨n - 1,by omega⟩
 unfold but;have:List.range (m+1)=0::(List.range m).map Nat.succ:=List.range_succ_eq_map;rw[this,List.filter_cons,if_pos (by simp;omega)]
 rfl
theorem aQc{r:Int}{g:Int × List Ed}{v:Nat}(h:IsFol r g.1 g.2)(h1:1<=v)(h2:(v:Int)<g.1):IsFol r (aJJ g v).1 (aJJ g v).2:=by
 have hs:=h.gr.size;have hl:=aET v (show v<g.1.toNat by omega);refine aKR h (fun e=>?_) (by omega);rw[e] at hl;simp at hl;omega
theorem aRZ{r:Int}{g:Int × List Ed}{v:Nat}(h:IsFol r g.1 g.2)(h1:1<=v)(h2:(v:Int)<g.1)(hb:Bad g.2 v){w:List Int}(hw:LtW w):InS (aJJ g v).2 w↔InS g.2 w:=by
 have hz:=aNH h1 (show v<g.1.toNat by omega);have hs:=h.gr.size;unfold InS;constructor
 .intro hp
  obtain⟨u,hu,hi,hp2⟩:=aHv (ord:=but v g.1.toNat) (es:=g.2) hp 0 (aEA.2 (by omega)) hz;have:=aDc (aEA.2 (by omega)) hu (hz.trans hi.symm);subst this;exact hp2
 intro hp;have:=aEj (ord:=but v g.1.toNat) hp fun a b t e h3=>by
  have ht:=h3.rng h.gr.all (by omega);refine aEA.2 ⟨ht.1,by omega,fun e2=>?_⟩;have h4:Pa g.2 t b 0:=by
   rw[e] at hp;obtain⟨t',h5,h6⟩:=aCC.1 hp
   rwa [h3.det h h5]
  rw[e2] at h3 h4;exact aPg h (by omega) hb (aHN hw) e h3 h4
 rwa [hz] at this
theorem aHB{r:Int}{w:List Int}(hw:LtW w):∀(n:Nat) {g:Int × List Ed},IsFol r g.1 g.2->IsFol r (trimA n g).1 (trimA n g).2/\(InS (trimA n g).2 w↔InS g.2 w)
|0,g,h=>⟨h,Iff.rfl⟩
|n+1,g,h=>by
  cases hf:leaf g.1 g.2 with
 |none=>rw[aBX hf];exact⟨h,Iff.rfl⟩
 |some v=>
   rw[aCp hf];obtain⟨h1,h2,h3⟩:=aCS hf;have h4:=aHB hw n (aQc h h1 h2);exact⟨h4.1,h4.2.trans (aRZ h h1 h2 h3 hw)⟩
theorem aMw{r:Int}(n:Nat){g:Int × List Ed}(h:IsFol r g.1 g.2):IsFol r (trimA n g).1 (trimA n g).2:=(aHB LtW.nil n h).1
theorem aKh:∀(n:Nat) {g:Int × List Ed},g.1<=n->leaf (trimA n g).1 (trimA n g).2=none
|0,g,h=>by
  cases hf:leaf g.1 g.2 with
 |none=>rw[aBX hf];exact hf
 |some v=>
   obtain⟨h1,h2,h3⟩:=aCS hf;omega
|n+1,g,h=>by
  cases hf:leaf g.1 g.2 with
 |none=>rw[aBX hf];exact hf
 |some v=>
   rw[aCp hf];obtain⟨h1,h2,h3⟩:=aCS hf;exact aKh n (by rw[aEX h2];omega)
theorem aGP{r s:Int}{es:List Ed}(h:IsFol r s es):aDa (aBO r es 0) 0=0:=aHp (aDN h.gr (Int.le_refl _) (by have:=h.gr.size;omega)).2.2.1 (k:=0) (aQT r es 0)
theorem aDh{r:Int}{g:Int × List Ed}(h:IsFol r g.1 g.2):canonG r g=(((aBO r g.2 0).length:Int),aBn (aBO r g.2 0) g.2):=by
 unfold canonG;rw[if_pos h]
theorem aEV{r:Int}{g:Int × List Ed}(h:IsFol r g.1 g.2):IsFol r (canonG r g).1 (canonG r g).2:=by
 rw[aDh h];have hs:=h.gr.size;have hl:=aDN h.gr (v:=0) (Int.le_refl _) (by omega);exact aKR h (fun e=>by rw[e] at hl;simp at hl) (by omega)
theorem aMI{r:Int}{g:Int × List Ed}(h:IsFol r g.1 g.2){w:List Int}:InS (canonG r g).2 w↔InS g.2 w:=by
 have hz:=aGP h;have hs:=h.gr.size;rw[aDh h];unfold InS;constructor
 .intro hp
  obtain⟨u,hu,hi,hp2⟩:=aHv (ord:=aBO r g.2 0) (es:=g.2) hp 0 (aEh r g.2 0) hz;have:=aDc (aEh r g.2 0) hu (hz.trans hi.symm);subst this;exact hp2
 intro hp;have:=aEj (ord:=aBO r g.2 0) hp fun a b t e h3=>aDl h (Int.le_refl _) (by omega) (aEh r g.2 0) h3
 rwa [hz] at this
theorem aOP{r:Int}{g:Int × List Ed}(h:IsFol r g.1 g.2)(hl:leaf g.1 g.2=none):leaf (canonG r g).1 (canonG r g).2=none:=by
 have hf:=aEV h;refine(aEy hf).2 fun i h1 h2=>?_;rw[aDh h] at h2 |-;have hs:=h.gr.size;have hnd:=(aDN h.gr (v:=0) (Int.le_refl _) (by omega)).2.2;obtain⟨k,rfl⟩:=Int.eq_ofNat_of_zero_le (by omega:0<=i);have hk:k<(aBO r g.2 0).length:=by simp only at h2;omega
 have hm:(aBO r g.2 0)[k]∈aBO r g.2 0:=List.getElem_mem hk;have hi:aDa (aBO r g.2 0) ((aBO r g.2 0)[k])=k:=aHp hnd.1 (List.getElem?_eq_getElem hk);generalize (aBO r g.2 0)[k]=u at hm hi;have hur:=hnd.2 u hm;have hu0:u≠0:=fun e=>by
  rw[e,aGP h] at hi;omega
 obtain⟨⟨y,z,t,t',hyz,s1,s2⟩,w,hw⟩:=(aEy h).1 hl u (by omega) hur.2;have ht:=aDl h (Int.le_refl _) (by omega) hm (aBQ.2 s1);have ht':=aDl h (Int.le_refl _) (by omega) hm (aBQ.2 s2);refine⟨⟨y,z,_,_,hyz,aHw.2 ⟨u,t,hm,ht,hi,rfl,s1⟩,aHw.2 ⟨u,t',hm,ht',hi,rfl,s2⟩⟩,w,?_⟩;have:=aEj (ord:=aBO r g.2 0) hw fun a b q e h3=>aDl h (Int.le_refl _) (by omega) (aEh r g.2 0) h3;rw[aGP h,hi] at this;exact this
theorem aTC{ord:List Int}(hn:ord.Nodup):ord.map (aDa ord)=(List.range ord.length).map fun(k:Nat)=>(k:Int):=by
 refine List.ext_getElem (by simp) fun k h1 h2=>?_;simp only[List.getElem_map,List.getElem_range];exact aHp hn (List.getElem?_eq_getElem (by simpa using h1))
theorem aRd{r:Int}{n:Nat}{es:List Ed}(hg:∀ e∈es,InG r n e)(ha:Asc es):aBn ((List.range n).map fun(k:Nat)=>(k:Int)) es=es:=by
 have hm:∀ v:Int,0<=v->v<n->v∈((List.range n).map fun(k:Nat)=>(k:Int))/\aDa ((List.range n).map fun(k:Nat)=>(k:Int)) v=v:=fun v h1 h2=>by
  have hnd:((List.range n).map fun(k:Nat)=>(k:Int)).Nodup:=by
   unfold List.Nodup;rw[List.pairwise_map];exact(List.pairwise_lt_range (n:=n)).imp fun h=>by omega
  obtain⟨k,rfl⟩:=Int.eq_ofNat_of_zero_le h1;have hk:((List.range n).map fun(k:Nat)=>(k:Int))[k]?=some (k:Int):=by
   rw[List.getElem?_map,List.getElem?_range (by omega)]
   rfl
  exact⟨List.mem_of_getElem? hk,aHp hnd hk⟩
 refine aMG (aCP _) ha fun f=>?_;rw[aCT];constructor
 .rintro⟨e,he,h1,h2,rfl⟩
  have hi:=hg e he;simp only[InG] at hi;rw[(hm e.a (by omega) (by omega)).2,(hm e.b (by omega) (by omega)).2];exact he
 intro he;have hi:=hg f he;simp only[InG] at hi;refine⟨f,he,(hm f.a (by omega) (by omega)).1,(hm f.b (by omega) (by omega)).1,?_⟩;rw[(hm f.a (by omega) (by omega)).2,(hm f.b (by omega) (by omega)).2]
theorem aOl(r:Int)(es:List Ed)(v:Int):aBO r es v=(bfs es (lets r.toNat) v).map Prod.fst:=rfl
theorem aRP{r s:Int}{es:List Ed}(h:IsFol r s es):bfs (aBn (aBO r es 0) es) (lets r.toNat) 0=(bfs es (lets r.toNat) 0).map fun p=>(aDa (aBO r es 0) p.1,p.2):=by
 have hs:=h.gr.size;have hz:=aGP h;have hord:=aDN h.gr (v:=0) (Int.le_refl _) (by omega);have hf2:IsFol r (aBO r es 0).length (aBn (aBO r es 0) es):=aKR h (fun e=>by rw[e] at hord;simp at hord) (by omega);have hre:∀ {u t x:Int},u∈aBO r es 0->Sp es u x t->t∈aBO r es 0:=fun hu hs2=>aDl h (Int.le_refl _) (by omega) hu (aBQ.2 hs2);have h0:=aEh r es 0;generalize aBO r es 0=ord at hz hf2 hre h0 |-;have:=aTk (es:=es) (es':=aBn ord es) (L:=lets r.toNat) (v:=0) (f:=aDa ord) (R:=fun u=>u∈ord) h0
  (fun u hu x hx hn=>hre hu (aBN hn))
  (fun u hu x hx hn=>by
   apply Classical.byContradiction;intro hc;obtain⟨u',t',hu',ht',e1,e2,hsp⟩:=aHw.1 (aBN (by omega:0<=aAe (aBn ord es) (aDa ord u) x));have:=aDc hu' hu e1;subst this;exact aSw hn h.gr.nn _ hsp)
  (fun u hu x hx hn=>by
   have ht:=hre hu (aBN hn);exact⟨aEC hf2 (aHw.2 ⟨u,_,hu,ht,rfl,rfl,aBN hn⟩),aGE.2 ht⟩)
  (fun u t hu ht e=>aDc hu ht e)
 rwa [hz] at this
theorem aNb(st:BS)(ord:List Int):(st.map fun p=>(aDa ord p.1,p.2)).map Prod.fst=(st.map Prod.fst).map (aDa ord):=by
 rw[List.map_map,List.map_map];exact List.map_congr_left fun p _=>rfl
theorem aQV{r s:Int}{es:List Ed}(h:IsFol r s es):aBO r (aBn (aBO r es 0) es) 0=(List.range (aBO r es 0).length).map fun(k:Nat)=>(k:Int):=by
 have hs:=h.gr.size;have hord:=aDN h.gr (v:=0) (Int.le_refl _) (by omega);have hb:=aRP h;rw[aOl r (aBn (aBO r es 0) es) 0,hb,aNb,<- aOl r es 0,aTC hord.2.2.1]
theorem aMH{r:Int}{g:Int × List Ed}(h:IsFol r g.1 g.2):canonG r (canonG r g)=canonG r g:=by
 have hf:=aEV h;rw[aDh hf];rw[aDh h] at hf |-;simp only at hf |-;rw[aQV h,aRd hf.gr.all hf.gr.asc];simp
theorem aIF{r s:Int}{es:List Ed}(h:IsGr r s es):IsFol r (aCR 40 (s,es)).1 (aCR 40 (s,es)).2:=⟨aGD 40 (g:=(s,es)) h,aLI.1 (aLE 40 (g:=(s,es)) h h.size.2)⟩
theorem aRY{r s:Int}{es:List Ed}(h:IsGr r s es):IsCor r (coreA r (s,es)).1 (coreA r (s,es)).2:=by
 have hf:=aIF h;have ht:=aMw 40 hf;have hs:=hf.gr.size;have hl:=aKh 40 (g:=aCR 40 (s,es)) (by omega);unfold coreA;generalize trimA 40 (aCR 40 (s,es))=g at ht hl |-;exact⟨aEV ht,aOP ht hl,aMH ht⟩
theorem aQb{r s:Int}{es:List Ed}(h:IsGr r s es){w:List Int}(hw:LtW w):InS (coreA r (s,es)).2 w↔aUb es w:=by
 have hf:=aIF h;have ht:=aHB hw 40 hf;have h3:=(aNU hf hw).symm.trans (aJM w 40 (g:=(s,es)) h);unfold coreA;generalize aCR 40 (s,es)=g2 at hf ht h3 |-;generalize trimA 40 g2=g at ht |-;exact(aMI ht.1).trans (ht.2.trans h3)
theorem Rd.cons{y:Int}{t:List Int}(h:Rd t)(hh:∀ z s,t=z::s->z≠-y):Rd (y::t):=by
 intro c d z e;cases c with
|nil=>
  injection e with e1 e2
  subst e1;exact hh _ _ e2 rfl
|cons q c=>
  injection e with e1 e2
  exact h c d z e2
theorem Rd.join:∀ {a:List Int} {x:Int} {b:List Int},Rd (a++[x])->Rd (x::b)->Rd (a++x::b)
|[],_,_,_,h=>h
|y::a,x,b,h1,h2=>by
  refine Rd.cons (Rd.join (a:=a) (Rd.right (a:=[y]) h1) h2) fun z s e=>?_;cases a with
 |nil=>
   injection e with e1 e2
   subst e1;intro e3;exact h1 [] [] y (by rw[e3];rfl)
 |cons q a=>
   injection e with e1 e2
   subst e1;intro e3;exact h1 [] (a++[x]) y (by rw[e3];rfl)
theorem aTE{st:BS}(hn:(st.map Prod.fst).Nodup){p q:Int × List Int}(hp:p∈st)(hq:q∈st)(h:p.1=q.1):p=q:=by
 obtain⟨i,hi,rfl⟩:=List.getElem_of_mem hp;obtain⟨j,hj,rfl⟩:=List.getElem_of_mem hq;have hpw:=List.pairwise_iff_getElem.1 hn;rcases Nat.lt_trichotomy i j with hl|rfl|hl
 .exact absurd (by rw[List.getElem_map,List.getElem_map];exact h) (hpw i j (by simpa using hi) (by simpa using hj) hl)
 .rfl
 exact absurd (by rw[List.getElem_map,List.getElem_map];exact h.symm) (hpw j i (by simpa using hj) (by simpa using hi) hl)
theorem aRQ{r s v:Int}{es:List Ed}{L:List Int}(hg:∀ e∈es,InG r s e)(h0:0<=v)(h1:v<s){p q:Int × List Int}(hp:p∈bfs es L v)(hq:q∈bfs es L v)(h:p.1=q.1):p=q:=
 aTE (aHC (L:=L) hg h0 h1).nd hp hq h
theorem aIy{es:List Ed}{L:List Int}{v:Int}{q:Int × List Int}(h:q∈bfs es L v):q=(v,[]) \/ ∃ p∈bfs es L v,∃ x∈L,q=(aAe es p.1 x,p.2++[x])/\0<=aAe es p.1 x/\q∈(bfs es L v).tail:=by
 have hp:=aPP es L v;have h1:=aDY es L v 0 41;rw[Nat.zero_add] at h1;have h2:(bfs es L v)[0]?=some (v,[]):=aAO h1 (by simp[aAo]);generalize bfs es L v=st at h hp h2;cases st with
|nil=>cases h
|cons a t=>
  simp at h2;rcases List.mem_cons.1 h with rfl|h
  .exact .inl h2
  obtain⟨p,hp1,x,hx,e,hn⟩:=hp.par q h;exact .inr ⟨p,hp1,x,hx,e,hn,h⟩
theorem aUh{r s v:Int}{es:List Ed}{L:List Int}(hf:IsFol r s es)(h0:0<=v)(h1:v<s):∀(n:Nat) (q:Int × List Int),q∈bfs es L v->q.2.length<=n->Rd q.2:=by
 intro n
 induction n with
|zero=>
  intro q _ hl;have e:q.2=[]:=List.eq_nil_of_length_eq_zero (by omega);rw[e];exact Rd.nil
|succ n ih=>
  intro q hq hl;rcases aIy hq with rfl|⟨p,hp,x,hx,e,hn, -⟩
  .exact Rd.nil
  have hp2:=ih p hp (by rw[e] at hl;simp at hl;omega);have e2:q.2=p.2++[x]:=by rw[e]
  rw[e2];refine hp2.snoc fun t a ha hax=>?_;rcases aIy hp with rfl|⟨p',hp',y,hy,e',hn', -⟩
  .simp at ha
  have e3:p.2=p'.2++[y]:=by rw[e']
  obtain⟨rfl,rfl⟩:=aHa (ha.symm.trans e3);have s1:=aBN hn';have s2:=aBN hn;have e4:p.1=aAe es p'.1 a:=by rw[e']
  rw[<- e4] at s1;have s3:=s1.neg;rw[hax,Int.neg_neg] at s3;have e5:q.1=p'.1:=by
   have:q.1=aAe es p.1 x:=by rw[e]
   rw[this];exact hf.det s2 s3
  have e6:=aRQ hf.gr.all h0 h1 hq hp' e5;have:q.2=p'.2:=by rw[e6]
  rw[e2,e3] at this;have:=congrArg List.length this;simp at this
theorem aLj{r n:Nat}{es:List Ed}(h:IsCor r n es){v:Nat}(hv:v<n):Pa es 0 (wordV r es v) v:=aUg es (lets r) 0 _ (aEs h hv)
theorem aOJ{r n:Nat}{es:List Ed}(h:IsCor r n es){v:Nat}(hv:v<n):Rd (wordV r es v):=aUh h.fol (Int.le_refl _) (by omega) _ _ (aEs h hv) oN
theorem aKm{r n:Nat}{es:List Ed}(h:IsCor r n es):wordV r es 0=[]:=by
 have h1:=aDY es (lets r) 0 0 41;rw[Nat.zero_add] at h1;exact aLi h.gr (h1.subset (by simp[aAo]))
theorem aKl{r n:Nat}{es:List Ed}(h:IsCor r n es){v:Nat}(hv:v<n)(h0:v≠0):∃(p:Nat) (x:Int),p<n/\wordV r es v=wordV r es p++[x]/\Sp es p x v/\aCA p x v∈aDF es (bfs es (lets r) 0):=by
 have hm:=aEs h hv;rcases aIy hm with e|⟨p,hp,x,hx,e,hn,ht⟩
 .injection e with e1 e2
  omega
 have hr:=(aHC (L:=lets r) h.gr.all (Int.le_refl 0) (by omega:(0:Int)<n)).rng p hp;obtain⟨k,hk⟩:=Int.eq_ofNat_of_zero_le hr.1;injection e with e1 e2
 have hsp:=aBN hn;rw[<- e1,hk] at hsp;have e3:wordV r es (k:Int)=p.2:=aLi h.gr (by rw[<- hk];exact hp);refine⟨k,x,by omega,by rw[e2,e3],hsp,?_⟩;unfold aDF;refine List.mem_map.2 ⟨_,ht,?_⟩;rw[e2];have:(v:Int)=aAe es p.1 x:=e1;rw[this,aOU h.fol hn,hk]
theorem aPk{r:Nat}{es:List Ed}{e:Ed}:e∈extraE r es↔e∈es/\e ∉ aDF es (bfs es (lets r) 0):=by
 unfold extraE;rw[List.mem_filter];simp
theorem aTB{r n:Nat}{es:List Ed}(h:IsCor r n es){a b:Nat}{l:Int}(he:(⟨a,l,b⟩:Ed)∈extraE r es):Rd (wordV r es a++l::aAx (wordV r es b)):=by
 obtain⟨hm,hx⟩:=aPk.1 he;have hi:=h.gr.all _ hm;simp only[InG] at hi;have hs:Sp es a l b:=aBC hm (by simp only;omega);have hn:a<n/\b<n:=by omega
 have hlb:=(aLj h hn.2).lt h.gr;refine Rd.join ?_ ?_
 .refine(aOJ h hn.1).snoc fun t y e hy=>hx ?_
  by_cases ha:a=0
  .subst ha
   rw[show((0:Nat):Int)=0 from rfl,aKm h] at e;simp at e
  obtain⟨p,x,hp,ew,hsp,ht⟩:=aKl h hn.1 ha;obtain⟨-,rfl⟩:=aHa (ew.symm.trans e);have h3:=hsp.neg;rw[hy,Int.neg_neg] at h3;have h4:=h.fol.det hs h3;rw[hy,<- h4] at ht;unfold aCA at ht;rw[if_pos (by omega),Int.neg_neg] at ht;exact ht
 refine Rd.cons ((aOJ h hn.2).inv hlb) fun z s e hz=>hx ?_;by_cases hb:b=0
 .subst hb
  rw[show((0:Nat):Int)=0 from rfl,aKm h,aNY] at e;cases e
 obtain⟨p,x,hp,ew,hsp,ht⟩:=aKl h hn.2 hb;rw[ew] at e hlb;rw[aBK] at e;have e2:aAx [x]=[-x]:=by simp[aAx,(hsp.lt3 h.gr).negI]
 rw[e2,List.singleton_append] at e;have e3:-x=z:=(List.cons.inj e).1;have e5:x=l:=by omega
 subst e5;have h4:=Pa.det' h.fol (aBQ.2 hs) (aBQ.2 hsp);rw[<- h4] at ht;unfold aCA at ht;rw[if_neg (by omega)] at ht;exact ht
theorem aKs{r n:Nat}{es:List Ed}(h:IsCor r n es){a b:Nat}{l:Int}(he:(⟨a,l,b⟩:Ed)∈es):Pa es 0 (wordV r es a++l::aAx (wordV r es b)) 0:=by
 have hi:=h.gr.all _ he;simp only[InG] at hi;exact(aLj h (by omega)).app ⟨_,aBC he (by simp only;omega),(aLj h (by omega)).inv h.gr⟩
theorem aSb{r n:Nat}{es:List Ed}(h:IsGr r n es){e:Ed}(he:e∈es):∃(a b:Nat),e=⟨(a:Int),e.l,(b:Int)⟩/\a<n/\b<n/\1<=e.l/\e.l<=r:=by
 have hi:=h.all e he;simp only[InG] at hi;exact⟨e.a.toNat,e.b.toNat,Ed.ext' (by simp only;omega) rfl (by simp only;omega),by omega,by omega,by omega,by omega⟩
theorem aPL{r n:Nat}{es:List Ed}(h:IsCor r n es){a b:Nat}{l:Int}(he:(⟨a,l,b⟩:Ed)∈extraE r es):basisW r es ⟨a,l,b⟩=wordV r es a++l::aAx (wordV r es b):=by
 unfold basisW;have:=aEH (aTB h he) ((aKs h (aFq he)).lt h.gr)
 simpa using this
theorem aJD{r n:Nat}{es:List Ed}(h:IsCor r n es){w:List Int}(hw:w∈basisG r es):LtW w/\InS es w:=by
 unfold basisG at hw;obtain⟨e,he,rfl⟩:=List.mem_map.1 hw;obtain⟨a,b,e2, -⟩:=aSb h.gr (aFq he);rw[e2] at he |-;rw[aPL h he];exact⟨(aKs h (aFq he)).lt h.gr,InS.mk h.fol (aKs h (aFq he))⟩
theorem aSG{r:Int}{w:List Int}(h:aRL r w):red [] w=w:=by
 have hk:∀ k,k<=w.length->red [] (w.take k)=w.take k:=by
  intro k
  induction k with
 |zero=>intro _;simp[red]
 |succ k ih=>
   intro hle;have hx:w[k]?=some w[k]:=List.getElem?_eq_getElem (by omega);have ht:w.take (k+1)=w.take k++[w[k]]:=List.take_succ_eq_append_getElem (by omega);rw[aKZ w hx,ih (by omega),ht];cases k with
  |zero=>simp[aAX]
  |succ j=>
    have ha:w[j]?=some w[j]:=List.getElem?_eq_getElem (by omega);have ht2:w.take (j+1)=w.take j++[w[j]]:=List.take_succ_eq_append_getElem (by omega);have hne:=h.2 j _ _ ha hx;rw[ht2,aAL (by unfold aFf;simp;omega)]
 have:=hk w.length oN
 rwa [List.take_length] at this
def aJp(es:List Ed)(w:List Int):Prop:=(rdA es 0 w).2=w.length/\(rdA es 0 w).1=0
theorem aED{α:Type}[DecidableEq α]:∀(l m:List α),l.Nodup->(∀ x∈l,x∈m)->l.length<=m.length:=by
 intro l
 induction l with
|nil=>intro m _ _;simp
|cons a t ih=>
  intro m hn hs;rw[List.nodup_cons] at hn;have ha:=hs a List.mem_cons_self;have h:=ih (m.erase a) hn.2 (fun x hx=>by
   have hne:x≠a:=fun e=>hn.1 (e ▸ hx);exact(List.mem_erase_of_ne hne).2 (hs x (List.mem_cons_of_mem _ hx)))
  rw[List.length_erase_of_mem ha] at h;have:=List.length_pos_of_mem ha;simp only[List.length_cons];omega
def Rch(s:Int)(es:List Ed):Prop:=∀ v,0<=v->v<s->∃ w,Pa es 0 w v
theorem aKO{α:Type}{l:List α}(h:l.Nodup){i j:Nat}{a:α}(hi:l[i]?=some a)(hj:l[j]?=some a):i=j:=by
 obtain⟨hi,e1⟩:=List.getElem?_eq_some_iff.1 hi;obtain⟨hj,e2⟩:=List.getElem?_eq_some_iff.1 hj;have hp:=List.pairwise_iff_getElem.1 h;rcases Nat.lt_trichotomy i j with hl|e|hl
 .exact absurd (e1.trans e2.symm) (hp i j hi hj hl)
 .exact e
 exact absurd (e2.trans e1.symm) (hp j i hj hi hl)
theorem IsCor.rch{r s:Int}{es:List Ed}(h:IsCor r s es):Rch s es:=fun v h0 h1=>by
 rcases Int.lt_or_le 0 v with hv|hv
 .exact((aEy h.fol).1 h.leaf v (by omega) h1).2
 .exact⟨[],by show(0:Int)=v;omega⟩
theorem aTS{r s:Int}{es:List Ed}(hf:IsFol r s es)(hr:Rch s es):((aBO r es 0).length:Int)=s/\∀ v,0<=v->v<s->v∈aBO r es 0:=by
 have hs:=hf.gr.size;have ho:=aDN hf.gr (v:=0) (Int.le_refl _) (by omega);have hall:∀ v,0<=v->v<s->v∈aBO r es 0:=fun v h0 h1=>by
  obtain⟨w,hw⟩:=hr v h0 h1;exact aDl hf (Int.le_refl _) (by omega) (aEh r es 0) hw
 refine⟨?_,hall⟩;have h1:((List.range s.toNat).map fun(k:Nat)=>(k:Int)).length<=(aBO r es 0).length:=by
  have hnd:((List.range s.toNat).map fun(k:Nat)=>(k:Int)).Nodup:=by
   unfold List.Nodup;rw[List.pairwise_map];exact(List.pairwise_lt_range (n:=s.toNat)).imp fun h=>by omega
  refine aED _ _ hnd fun x hx=>?_;obtain⟨k,hk,rfl⟩:=List.mem_map.1 hx;have:=List.mem_range.1 hk;exact hall k (by omega) (by omega)
 simp only[List.length_map,List.length_range] at h1;have:=ho.2.1;omega
section
section
variable {r s:Int} {es:List Ed} {u:Int} {w:List Int}
end
end
def chi(g:Int × List Ed):Int:=(g.2.length:Int) - g.1
theorem aMc{α:Type}[DecidableEq α]{l m:List α}(hl:l.Nodup)(hm:m.Nodup)(h:∀ x,x∈l↔x∈m):l.length=m.length:=
 Nat.le_antisymm (aED l m hl fun x hx=>(h x).1 hx) (aED m l hm fun x hx=>(h x).2 hx)
theorem aIw{es:List Ed}(h:Asc es):es.Nodup:=h.imp fun h=>h.ne
theorem aOp{es:List Ed}(ha:Asc es)(ord:List Int):(aBn ord es).length=(es.filter fun e=>decide (e.a∈ord/\e.b∈ord)).length:=by
 have h1:((es.filter fun e=>decide (e.a∈ord/\e.b∈ord)).map fun e=>(⟨aDa ord e.a,e.l,aDa ord e.b⟩:Ed)).Nodup:=by
  unfold List.Nodup;rw[List.pairwise_map];refine List.Pairwise.imp_of_mem ?_ ((aIw ha).filter _);intro e f he hf hne heq;have he2:=(List.mem_filter.1 he).2;have hf2:=(List.mem_filter.1 hf).2;simp only[decide_eq_true_eq] at he2 hf2;injection heq with e1 e2 e3
  exact hne (Ed.ext' (aDc he2.1 hf2.1 e1) e2 (aDc he2.2 hf2.2 e3))
 have h2:=aMc (aIw (show Asc (aBn ord es) from aCP _)) h1 fun x=>by
  rw[aCT,List.mem_map];constructor
  .rintro⟨e,he,a,b,rfl⟩
   exact⟨e,List.mem_filter.2 ⟨he,by simpa using⟨a,b⟩⟩,rfl⟩
  .rintro⟨e,he,rfl⟩
   obtain⟨h3,h4⟩:=List.mem_filter.1 he;simp only[decide_eq_true_eq] at h4;exact⟨e,h3,h4.1,h4.2,rfl⟩
 rw[h2,List.length_map]
theorem aHo(p:Ed->Bool):∀ l:List Ed,(l.filter p).length+(l.filter fun e=>!p e).length=l.length
|[]=>rfl
|e::t=>by
  have:=aHo p t;cases h:p e <;> simp[List.filter_cons,h] <;> omega
theorem aOH(v:Int):∀ es:List Ed,(es.filter fun e=>decide (e.a=v \/ e.b=v)).length<=deg es v
|[]=>by simp
|e::t=>by
  have h:=aOH v t;have h1:deg (e::t) v=degE v e+deg t v:=by simp[deg]
  rw[List.filter_cons];by_cases hc:e.a=v \/ e.b=v
  .rw[if_pos (by simpa using hc),List.length_cons]
   have:1<=degE v e:=by
    unfold degE;rcases hc with hc|hc
    .rw[if_pos hc];omega
    .rw[if_pos hc];omega
   omega
  .rw[if_neg (by simpa using hc)]
   omega
theorem aTr{r:Int}{g:Int × List Ed}{v:Nat}(h:IsFol r g.1 g.2)(hr:Rch g.1 g.2)(h1:1<=v)(h2:(v:Int)<g.1)(hb:Bad g.2 v):chi (aJJ g v)=chi g/\Rch (aJJ g v).1 (aJJ g v).2:=by
 have hs:=h.gr.size;have hd:deg g.2 v<2:=by
  rcases hb with hb|hb
  .exact hb
  exact absurd ((aKx h.gr.all).2 (hr v (by omega) h2)) hb
 have hin:∃ e∈g.2,e.a=(v:Int) \/ e.b=(v:Int):=by
  obtain⟨w,hw⟩:=hr v (by omega) h2;rcases aAP w with rfl|⟨t,x,rfl⟩
  .have:(0:Int)=v:=hw
   omega
  obtain⟨q, -,hq⟩:=aCC.1 hw;rcases aBQ.1 hq with⟨_,hq⟩|⟨_,hq⟩
  .exact⟨_,hq,.inr rfl⟩
  exact⟨_,hq,.inl rfl⟩
 have ht:(g.2.filter fun e=>decide (e.a=(v:Int) \/ e.b=(v:Int))).length=1:=by
  have h3:=aOH v g.2;obtain⟨e,he,hc⟩:=hin;have:=List.length_pos_of_mem (List.mem_filter.2 ⟨he,by simpa using hc⟩:e∈g.2.filter fun e=>decide (e.a=(v:Int) \/ e.b=(v:Int)));omega
 have hlen:(aJJ g v).2.length+1=g.2.length:=by
  have h3:=aHo (fun e=>decide (e.a=(v:Int) \/ e.b=(v:Int))) g.2;have h4:=aOp h.gr.asc (but v g.1.toNat);have h5:(g.2.filter fun e=>decide (e.a∈but v g.1.toNat/\e.b∈but v g.1.toNat))=g.2.filter fun e=>!decide (e.a=(v:Int) \/ e.b=(v:Int)):=List.filter_congr fun e he=>by
   have hi:=h.gr.all e he;simp only[InG] at hi;have ha:=aEA (v:=v) (n:=g.1.toNat) (x:=e.a);have hbm:=aEA (v:=v) (n:=g.1.toNat) (x:=e.b);rw[<- decide_not];refine decide_eq_decide.2 ?_;rw[ha,hbm];omega
  rw[h5] at h4
  show(aBn (but v g.1.toNat) g.2).length+1=_
  omega
 constructor
 .unfold chi
  rw[aEX h2];omega
 intro i h3 h4;rw[aEX h2] at h4;have hbl:=aET v (show v<g.1.toNat by omega);obtain⟨k,rfl⟩:=Int.eq_ofNat_of_zero_le h3;have hk:k<(but v g.1.toNat).length:=by omega
 have hm:(but v g.1.toNat)[k]∈but v g.1.toNat:=List.getElem_mem hk;have hid:aDa (but v g.1.toNat) ((but v g.1.toNat)[k])=k:=aHp (aDZ _ _) (List.getElem?_eq_getElem hk);generalize (but v g.1.toNat)[k]=u at hm hid;have hu:=aEA.1 hm;obtain⟨w,hw⟩:=hr u hu.1 (by omega);have hw2:=hw.red h;have lw:=hw.lt h.gr;have hrd:=aHN lw;refine⟨red [] w,?_⟩;have:=aEj (ord:=but v g.1.toNat) hw2 fun a b t e hp=>by
  have htr:=hp.rng h.gr.all (by omega);refine aEA.2 ⟨htr.1,by omega,fun e2=>?_⟩;subst e2;have hp2:Pa g.2 (v:Int) b u:=by
   rw[e] at hw2;obtain⟨t',h5,h6⟩:=aCC.1 hw2
   rwa [hp.det h h5]
  rcases aAP a with rfl|⟨a',x,rfl⟩
  .have:(0:Int)=v:=hp
   omega
  .cases b with
  |nil=>exact hu.2.2 (by have:(v:Int)=u:=hp2;omega)
  |cons y b'=>
    obtain⟨t1,h5,h6⟩:=aCC.1 hp;have h6:=(aBQ.1 h6).neg;obtain⟨t2,h7,h8⟩:=hp2;by_cases hxy:y = -x
    .subst hxy
     exact hrd a' b' x (by rw[e];simp)
    .have:=Two.deg (es:=g.2) (v:=v) ⟨y, -x,t2,t1,hxy,h7,h6⟩
     omega
 rw[aNH h1 (by omega),hid] at this;exact this
theorem aMv{r:Int}:∀(n:Nat) {g:Int × List Ed},IsFol r g.1 g.2->Rch g.1 g.2->chi (trimA n g)=chi g/\Rch (trimA n g).1 (trimA n g).2
|0,g,_,hr=>⟨rfl,hr⟩
|n+1,g,h,hr=>by
  cases hf:leaf g.1 g.2 with
 |none=>rw[aBX hf];exact⟨rfl,hr⟩
 |some v=>
   rw[aCp hf];obtain⟨h1,h2,h3⟩:=aCS hf;have h4:=aTr h hr h1 h2 h3;have h5:=aMv n (aQc h h1 h2) h4.2;exact⟨h5.1.trans h4.1,h5.2⟩
theorem aOO{r:Int}{g:Int × List Ed}(h:IsFol r g.1 g.2)(hr:Rch g.1 g.2):chi (canonG r g)=chi g/\(canonG r g).1=g.1:=by
 obtain⟨h1,h2⟩:=aTS h hr;rw[aDh h];refine⟨?_,h1⟩;unfold chi;simp only;rw[h1,aOp h.gr.asc,List.filter_eq_self.2 fun e he=>by
  have hi:=h.gr.all e he;simp only[InG] at hi
  simpa using⟨h2 e.a (by omega) (by omega),h2 e.b (by omega) (by omega)⟩]
theorem aLx{r s:Int}{es:List Ed}(h:IsFol r s es)(hr:Rch s es):chi (coreA r (s,es))=chi (s,es):=by
 have h2:=aMv 40 (g:=(s,es)) h hr;have h3:=aMw 40 (g:=(s,es)) h;unfold coreA;rw[aEc (g:=(s,es)) (aLI.2 h.fol)];generalize trimA 40 (s,es)=g at h2 h3 |-;rw[(aOO h3 h2.2).1,h2.1]
section
section
variable {r s s':Int} {ea eb:List Ed}
theorem aJZ(ea eb:List Ed)(L:List Int)(p0:Int × Int):(aAf ea eb L p0)[0]?=some p0:=by
 have h1:=aIV ea eb L p0 0 1601;rw[Nat.zero_add] at h1;exact aAO h1 (by simp[aAN])
theorem aLW{r:Nat}{P:PS}:∀ {n:Nat} {e:Ed},n<=P.length->(e∈aAZ ea eb r P n↔∃ i p x,i<n/\P[i]?=some p/\1<=x/\x<=(r:Int)/\0<=aAe ea p.1 x/\0<=aAe eb p.2 x/\e=⟨i,x,(P.idxOf (aAI ea eb p x):Nat)⟩)
|0,e,_=>by simp[aAZ]
|n+1,e,hn=>by
  have hp:P[n]?=some P[n]:=List.getElem?_eq_getElem (by omega);rw[aCF hp,List.mem_append,aLW (n:=n) (by omega)];have hE:e∈aCD ea eb P n P[n] r↔∃ x,1<=x/\x<=(r:Int)/\0<=aAe ea P[n].1 x/\0<=aAe eb P[n].2 x/\e=⟨n,x,(P.idxOf (aAI ea eb P[n] x):Nat)⟩:=by
   unfold aCD;rw[List.mem_filterMap];constructor
   .rintro⟨j,hj,h⟩
    have hj:=List.mem_range.1 hj;unfold aRf at h;split at h
    .cases h
    .rename_i hc
     exact⟨(j:Int)+1,by omega,by omega,by omega,by omega,(Option.some.inj h).symm⟩
   .rintro⟨x,h1,h2,h3,h4,rfl⟩
    refine⟨x.toNat - 1,List.mem_range.2 (by omega),?_⟩;have e:((x.toNat - 1:Nat):Int)+1=x:=by omega
    unfold aRf;rw[e,if_neg (by omega)]
  rw[hE];constructor
  .rintro(⟨i,p,x,h1,h2⟩|⟨x,h2⟩)
   .exact⟨i,p,x,by omega,h2⟩
   .exact⟨n,P[n],x,by omega,hp,h2⟩
  .rintro⟨i,p,x,h1,h2,h3⟩
   by_cases hi:i=n
   .subst hi
    rw[hp] at h2;obtain rfl:=Option.some.inj h2;exact .inr ⟨x,h3⟩
   .exact .inl ⟨i,p,x,by omega,h2,h3⟩
theorem aEB{P:PS}(hn:P.Nodup){i:Nat}{p:Int × Int}(h:P[i]?=some p):P.idxOf p=i:=by
 obtain⟨hi,rfl⟩:=List.getElem?_eq_some_iff.1 h;exact hn.idxOf_getElem i hi
theorem aJb{u v:Int}(ha:IsFol r s ea)(hb:IsFol r s' eb)(h0:PIn s s' (u,v)){i x j:Int} :
  Sp (aCV r ea eb u v) i x j↔∃(a b:Nat) (p q:Int × Int),i=a/\j=b/\(aAf ea eb (lets r.toNat) (u,v))[a]?=some p/\(aAf ea eb (lets r.toNat) (u,v))[b]?=some q/\Sp ea p.1 x q.1/\Sp eb p.2 x q.2:=by
 have hok:=aDe (lets r.toNat) ha.gr.all hb.gr.all h0;have hcl:=aCn (lets r.toNat) ha.gr hb.gr h0;have hrk:=ha.gr.rank;unfold aCV;generalize aAf ea eb (lets r.toNat) (u,v)=P at hok hcl |-;have hedge:∀ e:Ed,e∈canon (aAZ ea eb r.toNat P P.length)↔∃(a b:Nat) (p q:Int × Int),0<e.l/\e.a=a/\e.b=b/\P[a]?=some p/\P[b]?=some q/\Sp ea p.1 e.l q.1/\Sp eb p.2 e.l q.2:=by
  intro e;rw[aBD,aLW oN];constructor
  .rintro⟨i,p,x,h1,h2,h3,h4,h5,h6,rfl⟩
   have hm:=hcl p (List.mem_of_getElem? h2) x (aBz.2 (by omega)) (by omega) (by omega);have hq:P[P.idxOf (aAI ea eb p x)]?=some (aAI ea eb p x):=by
    have hl:=List.idxOf_lt_length_iff.2 hm;rw[List.getElem?_eq_getElem hl,List.getElem_idxOf hl]
   exact⟨i,_,p,_,by simp only;omega,rfl,rfl,h2,hq,aBN h5,aBN h6⟩
  rintro⟨a,b,p,q,h1,h2,h3,h4,h5,h6,h7⟩;have r1:=h6.rng ha.gr.all;have r2:=h7.rng hb.gr.all;have n1:=aEC ha h6;have n2:=aEC hb h7;refine⟨a,p,e.l,(List.getElem?_eq_some_iff.1 h4).1,h4,by omega,by omega,by omega,by omega,?_⟩;have e1:aAI ea eb p e.l=q:=by
   unfold aAI;rw[n1,n2]
  rw[e1,aEB hok.nd h5];exact Ed.ext' h2 rfl h3
 constructor
 .rintro(⟨h1,h2⟩|⟨h1,h2⟩)
  .obtain⟨a,b,p,q,h3,h4,h5,h6,h7,h8,h9⟩:=(hedge _).1 h2
   exact⟨a,b,p,q,h4,h5,h6,h7,h8,h9⟩
  obtain⟨a,b,p,q,h3,h4,h5,h6,h7,h8,h9⟩:=(hedge _).1 h2;refine⟨b,a,q,p,h5,h4,h7,h6,?_,?_⟩
  .have:=h8.neg
   simpa using this
  have:=h9.neg
  simpa using this
 rintro⟨a,b,p,q,rfl,rfl,h3,h4,h5,h6⟩;have hx:=(h5.rng ha.gr.all).2.2.1;rcases Int.lt_or_gt_of_ne hx with hneg|hpos
 .exact .inr ⟨hneg,(hedge _).2 ⟨b,a,q,p,by simp only;omega,rfl,rfl,h4,h3,h5.neg,h6.neg⟩⟩
 exact .inl ⟨hpos,(hedge _).2 ⟨a,b,p,q,hpos,rfl,rfl,h3,h4,h5,h6⟩⟩
theorem aKV{u v:Int}(ha:IsFol r s ea)(hb:IsFol r s' eb)(hp:PullOk r s ea r s' eb u v):IsFol r ((aAf ea eb (lets r.toNat) (u,v)).length:Int) (aCV r ea eb u v):=by
 have h0:=hp.pin;have hg:=aJa hp;have hok:=aDe (lets r.toNat) ha.gr.all hb.gr.all h0;refine IsFol.mk' hg fun e he f hf hc=>?_;have he1:=hg.all e he;have hf1:=hg.all f hf;simp only[InG] at he1 hf1;obtain⟨a,b,p,q,e1,e2,e3,e4,e5,e6⟩:=(aJb ha hb h0).1 (aBC he (by omega));obtain⟨a',b',p',q',f1,f2,f3,f4,f5,f6⟩:=(aJb ha hb h0).1 (aBC hf (by omega));rw[<- hc.1] at f5 f6;rcases hc.2 with h|h
 .obtain rfl:a=a':=by omega
  rw[e3] at f3;obtain rfl:=Option.some.inj f3;have hq:q=q':=Prod.ext (ha.det e5 f5) (hb.det e6 f6);rw[<- hq] at f4;have:=aKO hok.nd e4 f4;exact Ed.ext' h hc.1 (by omega)
 obtain rfl:b=b':=by omega
 rw[e4] at f4;obtain rfl:=Option.some.inj f4;have hq:p=p':=Prod.ext (ha.det e5.neg f5.neg) (hb.det e6.neg f6.neg);rw[<- hq] at f3;have:=aKO hok.nd e3 f3;exact Ed.ext' (by omega) hc.1 h
def PSp(ea eb E:List Ed)(P:PS):Prop:=∀ i x j,Sp E i x j↔∃(a b:Nat) (p q:Int × Int),i=a/\j=b/\P[a]?=some p/\P[b]?=some q/\Sp ea p.1 x q.1/\Sp eb p.2 x q.2
theorem PSp.to{E:List Ed}{P:PS}(h:PSp ea eb E P):∀ {w:List Int} {a:Nat} {p:Int × Int} {j:Int},P[a]?=some p->Pa E a w j->∃(b:Nat) (q:Int × Int),j=b/\P[b]?=some q/\Pa ea p.1 w q.1/\Pa eb p.2 w q.2:=by
 intro w
 induction w with
|nil=>exact fun{a p j} hp hpa=>⟨a,p,Eq.symm hpa,hp,rfl,rfl⟩
|cons x w ih=>
  rintro a p j hp ⟨t,h1,h2⟩;obtain⟨a',b',p',q',e1,rfl,e3,e4,e5,e6⟩:=(h _ _ _).1 h1;obtain rfl:a=a':=by omega
  rw[hp] at e3;obtain rfl:=Option.some.inj e3;obtain⟨c,q,f1,f2,f3,f4⟩:=ih e4 h2;exact⟨c,q,f1,f2,⟨_,e5,f3⟩,⟨_,e6,f4⟩⟩
theorem PSp.of{E:List Ed}{P:PS}(h:PSp ea eb E P)(hcl:∀ p∈P,∀ x t1 t2,Sp ea p.1 x t1->Sp eb p.2 x t2->(t1,t2)∈P):∀ {w:List Int} {a:Nat} {p:Int × Int} {y z:Int},P[a]?=some p->Pa ea p.1 w y->Pa eb p.2 w z->∃ b:Nat,P[b]?=some (y,z)/\Pa E a w b:=by
 intro w
 induction w with
|nil=>exact fun{a p y z} hp h1 h2=>⟨a,by cases h1;cases h2;exact hp,rfl⟩
|cons x w ih=>
  rintro a p y z hp ⟨t1,h1,h3⟩ ⟨t2,h2,h4⟩;have hm:=hcl p (List.mem_of_getElem? hp) x t1 t2 h1 h2;obtain⟨c,hc⟩:=List.mem_iff_getElem?.1 hm;obtain⟨b,h5,h6⟩:=ih hc h3 h4;exact⟨b,h5,⟨(c:Int),(h _ _ _).2 ⟨a,c,p,(t1,t2),rfl,rfl,hp,hc,h1,h2⟩,h6⟩⟩
theorem PSp.inS{E:List Ed}{P:PS}(h:PSp ea eb E P)(hcl:∀ p∈P,∀ x t1 t2,Sp ea p.1 x t1->Sp eb p.2 x t2->(t1,t2)∈P)(hn:P.Nodup)(hh:P[0]?=some (0,0))(w:List Int):InS E w↔InS ea w/\InS eb w:=by
 unfold InS;constructor
 .intro hp
  obtain⟨b,q,e1,e2,e3,e4⟩:=h.to (a:=0) hh hp;obtain rfl:b=0:=by omega
  rw[hh] at e2;obtain rfl:=Option.some.inj e2;exact⟨e3,e4⟩
 rintro⟨h1,h2⟩;obtain⟨b,e1,e2⟩:=h.of hcl (a:=0) hh h1 h2;have:=aKO hn hh e1;subst this;exact e2
theorem aKa{u v:Int}(ha:IsFol r s ea)(hb:IsFol r s' eb)(h0:PIn s s' (u,v)):∀ p∈aAf ea eb (lets r.toNat) (u,v),∀ x t1 t2,Sp ea p.1 x t1->Sp eb p.2 x t2->(t1,t2)∈aAf ea eb (lets r.toNat) (u,v):=by
 intro p hp x t1 t2 h1 h2;have hcl:=aCn (lets r.toNat) ha.gr hb.gr h0;have hr:=h1.rng ha.gr.all;have hr2:=h2.rng hb.gr.all;have n1:=aEC ha h1;have n2:=aEC hb h2;have hm:=hcl p hp x (aBz.2 (by have:=ha.gr.rank;omega)) (by omega) (by omega);have e1:aAI ea eb p x=(t1,t2):=by
  unfold aAI;rw[n1,n2]
 rwa [e1] at hm
theorem aSB(ha:IsFol r s ea)(hb:IsFol r s' eb)(h0:PIn s s' (0,0))(w:List Int):InS (aCV r ea eb 0 0) w↔InS ea w/\InS eb w:=
 PSp.inS (fun i x j=>aJb ha hb h0) (aKa ha hb h0) (aDe (lets r.toNat) ha.gr.all hb.gr.all h0).nd (aJZ ea eb (lets r.toNat) (0,0)) w
end
end
def aAD(es:List Ed):Nat->List (Int × Int)
|0=>[]
|k+1=>aAD es k++(match es[k]? with|none=>[]|some e=>(es.drop (k+1)).flatMap (aAk e))
theorem aHH{es:List Ed}{k:Nat}{e:Ed}(h:es[k]?=some e):aAD es (k+1)=aAD es k++(es.drop (k+1)).flatMap (aAk e):=by
 rw[aAD,h]
theorem aHG(f:Ed)(t:List Ed):∀ k,aAD (f::t) (k+1)=t.flatMap (aAk f)++aAD t k
|0=>by simp[aAD]
|k+1=>by
  rw[aAD,aHG f t k,aAD,List.append_assoc];simp
theorem aGf:∀ es:List Ed,aAD es es.length=aBU es
|[]=>rfl
|f::t=>by rw[List.length_cons,aHG,aGf t,aBU]
theorem aMP(e f:Ed):(aAk e f).length<=2:=by
 unfold aAk;split
 .split <;> split <;> simp
 simp
theorem aIh(e:Ed):∀ t:List Ed,(t.flatMap (aAk e)).length<=2 * t.length
|[]=>by simp
|f::t=>by
  have:=aIh e t;have:=aMP e f;rw[List.flatMap_cons,List.length_append,List.length_cons];omega
theorem aGg(es:List Ed):∀ k,(aAD es k).length<=k * (2 * es.length)
|0=>by simp[aAD]
|k+1=>by
  have:=aGg es k;rw[aAD,List.length_append,Nat.succ_mul];cases h:es[k]? with
 |none=>simp;omega
 |some e=>
   have h1:=aIh e (es.drop (k+1));rw[List.length_drop] at h1;simp only;omega
def fdI(ps:List (Int × Int)):List Int:=(ps.map fun p=>[p.1,p.2]).flatten
theorem aOW(a b:List (Int × Int)):fdI (a++b)=fdI a++fdI b:=by simp[fdI]
theorem aTv(p:Int × Int):fdI [p]=[p.1,p.2]:=by simp[fdI]
theorem aFr(p:Int × Int)(t:List (Int × Int)):fdI (p::t)=p.1::p.2::fdI t:=by simp[fdI]
theorem aLD{e:Ed}{fs:List Ed}{j:Nat}{f:Ed}(h:fs[j]?=some f):(fs.take (j+1)).flatMap (aAk e)=(fs.take j).flatMap (aAk e)++aAk e f:=by
 rw[aAV h,List.flatMap_append];simp
section
open Go.RowKit
theorem aUZ:(Tryz.prog.info? 179).map (fun i=>(i.zero,i.size,i.bytes))=some (some (.agg #[.int .i64 0,.int .i64 0]),2,16):=by kernel_rfl
theorem aVi:Tryz.prog.underlying 152=some (.slice 179):=by kernel_rfl
section
variable {W:World} {ops:Array Oper} {rest:List Oper} {o:Oper} {a:Act} {Q:Exit->Act->World->Prop}
theorem aAY(hgd:o.guard=none)(s x:Operand)(ho:o.op=.call { callee:=.builtin .append,args:=#[s,x],argTypes:=#[152,152] })(lo:Nat)(A:Option Addr)(n c:Nat)(ps:List (Int × Int))(hs:a.eval s=.slice A n c)(hown:W.ownsRow lo 179 2 (.slice A n c) n (aAd (fdI ps)))(p:Int × Int)(hx:a.eval x=.slice (some ⟨W.heap.size,0,none⟩) 1 1)(hn:n<=1048576)(hb:lo<=W.heap.size)(h:∀ A' c' w',w'.ownsRow lo 179 2 (.slice A' (n+1) c') (n+1) (aAd (fdI (ps++[p])))->W.grownBy w' (Value.ownBlock (.slice A n c))->(Value.ownBlock (.slice A' (n+1) c')=Value.ownBlock (.slice A n c) \/ Value.ownBlock (.slice A' (n+1) c')=some (W.heap.size+1))->wpList Tryz.prog ops Q rest (a.put o.dst (.slice A' (n+1) c')) w') :
  wpList Tryz.prog ops Q (o::rest) a (W.alloc (.cells #[.int .i64 p.1,.int .i64 p.2] 179)):=by
 refine aAr (news:=[.int .i64 p.1,.int .i64 p.2]) hgd s x 152 ho lo 179 (.agg #[.int .i64 0,.int .i64 0]) 2 16 aVi aUZ rfl (by decide) (.slice A n c) n (aAd (fdI ps)) hs hown 1 hx rfl ?_ (by unfold maxLen;omega) (by omega) hb ?_
 .intro u hu
  simp at hu;rcases hu with rfl|rfl <;> rfl
 intro v' w' h1 h2 h3;obtain⟨A',c',rfl, -, -⟩:=aAg h1;refine h A' c' w' ?_ h2 h3;rw[aOW,aAj,aTv];exact h1
end
theorem aPc(r s:Int)(A:Option Addr)(es:List Ed)(c:Nat)(w:World)(lo hi:Nat)(hr:RG w lo hi A es)(hl:es.length<=120)(hcl:es.length<=c) :
  Calls Tryz.prog 276 #[aAw r s A es.length c] w fun e w'=>∃ A1 c1,e=.returned (.slice A1 (aBU es).length c1)/\RV w' 0 w'.heap.size A1 (aAd (fdI (aBU es)))/\Mid 0 0 w w':=by
 have hm0:Mid 0 0 w ((w.alloc (.cells #[.int .i64 r,.int .i64 s,.slice A es.length c] 35)).alloc (.cells #[] 179)):=(Mid.alloc _ _).trans (Mid.alloc _ _);have b0:=(Box.new w #[.int .i64 r,.int .i64 s,.slice A es.length c] 35).mid (Mid.alloc _ (.cells #[] 179)) oZr;have O0:=aAi (w.alloc (.cells #[.int .i64 r,.int .i64 s,.slice A es.length c] 35)) 179 2;rw[World.size_alloc] at O0;go_enter Tryz.func276,Tryz.ntmps276
 go_wp2_with fail;go_loopw [3,12] (fun out iv wr=>∃(k:Nat) (A1:Option Addr) (n1 c1:Nat),k<=es.length/\iv=.int .i64 k/\out=.slice A1 n1 c1/\Hid ((aAD es k).length=n1)/\wr.ownsRow (w.heap.size+1) 179 2 (.slice A1 n1 c1) n1 (aAd (fdI (aAD es k))) /\
   Box wr w.heap.size [.int .i64 r,.int .i64 s,.slice A es.length c]/\Mid 0 0 w wr) (fun _ i _=>es.length - (intOf i).toNat)
 case atStart=>exact⟨0,_,0,0,oZ,rfl,rfl,oH rfl,O0,b0,hm0⟩
 clear O0 b0 hm0;obtain⟨wo,hwo⟩:∃ wo,wo=wr:=⟨_,rfl⟩
 subst hwo;obtain⟨k,A1,n1,c1,hk,rfl,rfl,HN,hown,b0,hm⟩:=hrel;by_cases hlt:k<es.length
 .obtain⟨B,off,e,rfl, -,hbh,he,e0,e1,e2⟩:=(hr.mid hm oZl).ed hlt
  have HE:=oH he;have hk0:(0:Int)<=(k:Int):=by omega
  have hk1:(k:Int)<(es.length:Int):=by omega
  have hk2:(k:Int)+1<=(es.length:Int):=by omega
  have hal:=Mid.alloc wo (.cells #[.int .i64 e.a,.int .i64 e.l,.int .i64 e.b] 110);have ZE:=Box.new wo #[.int .i64 e.a,.int .i64 e.l,.int .i64 e.b] 110;have HNE:=oH (show Value.ownBlock (.slice A1 n1 c1)≠some wo.heap.size from fun h=>by have:=(hown.lt _ h).2;omega);have hown1:=hown.alloc (.cells #[.int .i64 e.a,.int .i64 e.l,.int .i64 e.b] 110);have b1:=b0.mid hal oZr;have hm1:=hm.trans hal;have h0o:=b0.1;obtain⟨p0,p1,p2⟩:=b0.c3 rfl;clear he hown;by_cases hck:c=k+1
  focus
   have hrd:RG w lo hi (some ⟨B,off,none⟩) (es.drop (k+1)):=⟨hr.1,fun h=>absurd (show aAd (edI (es.drop (k+1)))=[] by rw[List.drop_of_length_le (by omega)];rfl) h⟩
   have hckF:(c=k+1)=True:=eq_true hck
  rotate_left
  focus
   have hrd:=hr.drop (k:=k+1);have hckF:(c=k+1)=False:=eq_false hck
  rotate_left
  all_goals
   have hce:k+1<=c:=by omega
   clear hck;go_wp2_with fail;clear p0 p1 p2 e0 e1 e2;go_loopw [3,23] (fun out jv wr=>∃(j:Nat) (A2:Option Addr) (n2 c2:Nat),j<=es.length - (k+1)/\jv=.int .i64 j/\out=.slice A2 n2 c2/\Hid ((aAD es k++((es.drop (k+1)).take j).flatMap (aAk e)).length=n2) /\
     wr.ownsRow (w.heap.size+1) 179 2 (.slice A2 n2 c2) n2 (aAd (fdI (aAD es k++((es.drop (k+1)).take j).flatMap (aAk e))))/\Hid (Value.ownBlock (.slice A2 n2 c2)≠some wo.heap.size) /\
     Box wr w.heap.size [.int .i64 r,.int .i64 s,.slice (some ⟨B,off,none⟩) es.length c]/\Box wr wo.heap.size [.int .i64 e.a,.int .i64 e.l,.int .i64 e.b]/\Mid 0 0 w wr) (fun _ j _=>es.length - (k+1) - (intOf j).toNat)
   case atStart=>exact⟨0,A1,n1,c1,oZ,rfl,rfl,oH (by simpa using HN.out),by simpa using hown1,HNE,b1,ZE,hm1⟩
   clear hown1 b1 ZE hm1 HN HNE;obtain⟨j,A2,n2,c2,hj,rfl,rfl,HN,hown,HNE,b0,ZE,hm⟩:=hrel;have hn2:n2<=40000:=by
    have h1:=aGg es k;have h2:=aIh e ((es.drop (k+1)).take j);have h3:=HN.out;have h4:k * (2 * es.length)<=120 * 240:=Nat.mul_le_mul (by omega) (by omega);rw[List.length_append] at h3;rw[List.length_take,List.length_drop] at h2;omega
   by_cases hlt2:j<es.length - (k+1)
   .obtain⟨B',off',f,hX, -,hbh2,hf,f0,f1,f2⟩:=(hrd.mid hm oZl).ed (k:=j) (by rw[List.length_drop];exact hlt2)
    injection hX with hX
    injection hX with hX1 hX2
    subst hX1 hX2;have HF:=oH (aLD (e:=e) hf);have hj0:(0:Int)<=(j:Int):=by omega
    have hjn:(j:Int)<((es.length - (k+1):Nat):Int):=by omega
    have hal:=Mid.alloc wr (.cells #[.int .i64 f.a,.int .i64 f.l,.int .i64 f.b] 110);have ZF:=Box.new wr #[.int .i64 f.a,.int .i64 f.l,.int .i64 f.b] 110;have hGw:wo.heap.size<wr.heap.size:=ZE.1;have h0r:w.heap.size<wr.heap.size:=b0.1;have HFE:=oH (show Value.ownBlock (.slice A2 n2 c2)≠some wr.heap.size from fun h=>by have:=(hown.lt _ h).2;omega);have hownA:=hown.alloc (.cells #[.int .i64 f.a,.int .i64 f.l,.int .i64 f.b] 110);have hB0:=oH (fun(g:Nat) (h:Value.ownBlock (.slice A2 n2 c2)=some g)=>(hown.lt g h).1);replace b0:=b0.mid hal oZr;replace ZE:=ZE.mid hal oZr;replace hm:=hm.trans hal;obtain⟨g0,g1,g2⟩:=ZE.c3 rfl;obtain⟨h0,h1,h2⟩:=ZF.c3 rfl;have HW:=oH hownA;have hszA:w.heap.size+1<=(wr.alloc (.cells #[.int .i64 f.a,.int .i64 f.l,.int .i64 f.b] 110)).heap.size:=by simp;omega
    clear hf hown hownA;by_cases e1:e.l=f.l
    .have d1:(e.l != f.l)=false:=by simpa using e1
     by_cases e2:e.a=f.a
     .have d2:(e.a == f.a)=true:=by simpa using e2
      by_cases e3:e.b=f.b
      .have d3:(e.b == f.b)=true:=by simpa using e3
       have hAB:aAk e f=[(min e.b f.b,max e.b f.b),(min e.a f.a,max e.a f.a)]:=by simp[aAk,e1,e2,e3]
       have HAB:Hid (aAD es k++((es.drop (k+1)).take (j+1)).flatMap (aAk e)=(aAD es k++((es.drop (k+1)).take j).flatMap (aAk e))++[(min e.b f.b,max e.b f.b)]++[(min e.a f.a,max e.a f.a)]):=oH (by rw[HF.out,hAB];simp);clear e1 e2 e3 hAB;go_wp2_with (first|(at_builtin;refine aAY rfl _ _ rfl (w.heap.size+1) A2 n2 c2 _ rfl HW.out (min e.b f.b,max e.b f.b) (by rw[World.size_alloc];rfl) (by omega) hszA ?_;intro A8 c8 w8 ho8 hgr8 hat8;have ZE8:=ZE.grown hgr8 HNE.out;have ZF8:=ZF.grown hgr8 HFE.out;obtain⟨g80,g81,g82⟩:=ZE8.c3 rfl;obtain⟨h80,h81,h82⟩:=ZF8.c3 rfl;have HW8:=oH ho8;have hsz8:=Nat.le_trans hszA hgr8.size;clear ho8)|(at_builtin;refine aAY rfl _ _ rfl (w.heap.size+1) A8 (n2+1) c8 _ rfl HW8.out (min e.a f.a,max e.a f.a) rfl (by omega) hsz8 ?_;intro A9 c9 w9 ho9 hgr9 hat9))
       have hm8:=Mid.of_grownRow HW.out hgr8;have hm9:=Mid.of_grownRow HW8.out hgr9;have hs8:wr.heap.size+1<=w8.heap.size:=by have:=hgr8.size;simpa using this
       have HN8:Hid (Value.ownBlock (.slice A8 (n2+1) c8)≠some wo.heap.size):=oH (by
        rcases hat8 with h|h
        .rw[h];exact HNE.out
        .rw[h]
         intro he;injection he with he
         simp at he;omega)
       have HN9:Hid (Value.ownBlock (.slice A9 (n2+1+1) c9)≠some wo.heap.size):=oH (by
        rcases hat9 with h|h
        .rw[h];exact HN8.out
        .rw[h]
         intro he;injection he with he
         omega)
       have HB8:=oH (fun(g:Nat) (h:Value.ownBlock (.slice A8 (n2+1) c8)=some g)=>(HW8.out.lt g h).1);clear hat9 hat8;go_roundw
       case rel=>exact⟨j+1,A9,n2+1+1,c9,by omega,by go_num,rfl,oH (by rw[HAB.out,List.length_append,List.length_append,HN.out];rfl),by rw[HAB.out];exact ho9,HN9,(b0.grown hgr8 (fun h=>by have:=hB0.out _ h;omega)).grown hgr9 (fun h=>by have:=HB8.out _ h;omega),ZE8.grown hgr9 HN8.out,(hm.transNew hm8 (Or.inl (Nat.le_succ _))).transNew hm9 (Or.inl (Nat.le_succ _))⟩
       simp[intOf];omega
      have d3:(e.b == f.b)=false:=by simpa only[beq_eq_false_iff_ne] using e3
      have hAB:aAk e f=[(min e.b f.b,max e.b f.b)]:=by simp[aAk,e1,e2,e3]
      have HAB:Hid (aAD es k++((es.drop (k+1)).take (j+1)).flatMap (aAk e)=(aAD es k++((es.drop (k+1)).take j).flatMap (aAk e))++[(min e.b f.b,max e.b f.b)]):=oH (by rw[HF.out,hAB,List.append_assoc]);clear e1 e2 e3 hAB;go_wp2_with (at_builtin;refine aAY rfl _ _ rfl (w.heap.size+1) A2 n2 c2 _ rfl HW.out (min e.b f.b,max e.b f.b) (by rw[World.size_alloc];rfl) (by omega) hszA ?_;intro A9 c9 w9 ho9 hgr9 hat9;have ZE8:=ZE.grown hgr9 HNE.out;have ZF8:=ZF.grown hgr9 HFE.out;obtain⟨g80,g81,g82⟩:=ZE8.c3 rfl;obtain⟨h80,h81,h82⟩:=ZF8.c3 rfl)
      have hm9:=Mid.of_grownRow HW.out hgr9;have HN9:Hid (Value.ownBlock (.slice A9 (n2+1) c9)≠some wo.heap.size):=oH (by
       rcases hat9 with h|h
       .rw[h];exact HNE.out
       .rw[h]
        intro he;injection he with he
        simp at he;omega)
      clear hat9;go_roundw
      case rel=>exact⟨j+1,A9,n2+1,c9,by omega,by go_num,rfl,oH (by rw[HAB.out,List.length_append,HN.out];rfl),by rw[HAB.out];exact ho9,HN9,b0.grown hgr9 (fun h=>by have:=hB0.out _ h;omega),ZE.grown hgr9 HNE.out,hm.transNew hm9 (Or.inl (Nat.le_succ _))⟩
      simp[intOf];omega
     have d2:(e.a == f.a)=false:=by simpa only[beq_eq_false_iff_ne] using e2
     by_cases e3:e.b=f.b
     .have d3:(e.b == f.b)=true:=by simpa using e3
      have hAB:aAk e f=[(min e.a f.a,max e.a f.a)]:=by simp[aAk,e1,e2,e3]
      have HAB:Hid (aAD es k++((es.drop (k+1)).take (j+1)).flatMap (aAk e)=(aAD es k++((es.drop (k+1)).take j).flatMap (aAk e))++[(min e.a f.a,max e.a f.a)]):=oH (by rw[HF.out,hAB,List.append_assoc]);clear e1 e2 e3 hAB;go_wp2_with (at_builtin;refine aAY rfl _ _ rfl (w.heap.size+1) A2 n2 c2 _ rfl HW.out (min e.a f.a,max e.a f.a) (by rw[World.size_alloc];rfl) (by omega) hszA ?_;intro A9 c9 w9 ho9 hgr9 hat9;have ZE8:=ZE.grown hgr9 HNE.out;have ZF8:=ZF.grown hgr9 HFE.out;obtain⟨g80,g81,g82⟩:=ZE8.c3 rfl;obtain⟨h80,h81,h82⟩:=ZF8.c3 rfl)
      have hm9:=Mid.of_grownRow HW.out hgr9;have HN9:Hid (Value.ownBlock (.slice A9 (n2+1) c9)≠some wo.heap.size):=oH (by
       rcases hat9 with h|h
       .rw[h];exact HNE.out
       .rw[h]
        intro he;injection he with he
        simp at he;omega)
      clear hat9;go_roundw
      case rel=>exact⟨j+1,A9,n2+1,c9,by omega,by go_num,rfl,oH (by rw[HAB.out,List.length_append,HN.out];rfl),by rw[HAB.out];exact ho9,HN9,b0.grown hgr9 (fun h=>by have:=hB0.out _ h;omega),ZE.grown hgr9 HNE.out,hm.transNew hm9 (Or.inl (Nat.le_succ _))⟩
      simp[intOf];omega
     have d3:(e.b == f.b)=false:=by simpa only[beq_eq_false_iff_ne] using e3
     have hAB:aAk e f=[]:=by simp[aAk,e1,e2,e3]
     have HAB:Hid (((es.drop (k+1)).take (j+1)).flatMap (aAk e)=((es.drop (k+1)).take j).flatMap (aAk e)):=oH (by rw[HF.out,hAB,List.append_nil]);clear e1 e2 e3 hAB;go_wp2_with fail;go_roundw
     case rel=>exact⟨j+1,A2,n2,c2,by omega,by go_num,rfl,by rw[HAB.out];exact HN,by rw[HAB.out];exact HW.out,HNE,b0,ZE,hm⟩
     simp[intOf];omega
    have d1:(e.l != f.l)=true:=by simpa using e1
    have hAB:aAk e f=[]:=by unfold aAk;rw[if_neg e1]
    have HAB:Hid (((es.drop (k+1)).take (j+1)).flatMap (aAk e)=((es.drop (k+1)).take j).flatMap (aAk e)):=oH (by rw[HF.out,hAB,List.append_nil]);clear e1 hAB;go_wp2_with fail;go_roundw
    case rel=>exact⟨j+1,A2,n2,c2,by omega,by go_num,rfl,by rw[HAB.out];exact HN,by rw[HAB.out];exact HW.out,HNE,b0,ZE,hm⟩
    simp[intOf];omega
   obtain rfl:j=es.length - (k+1):=by omega
   rw[List.take_of_length_le (by rw[List.length_drop];exact oN),<- aHH HE.out] at HN hown;go_wp2_with fail;go_roundw
   case rel=>exact⟨k+1,A2,n2,c2,by omega,by go_num,rfl,HN,hown,b0,hm⟩
   simp[intOf];omega
 obtain rfl:k=es.length:=by omega
 rw[aGf] at HN hown;have hx:=HN.out;go_wp2_with fail;go_ret;exact⟨A1,c1,by rw[hx];rfl,(aAy hown).wide oZ oN oN,hm⟩
end
end Go.Proofs.YtkimajabegojoaaGreat
