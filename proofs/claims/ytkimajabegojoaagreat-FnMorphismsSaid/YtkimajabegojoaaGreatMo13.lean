/- Lemmas. -/
import Derived.Test.YtkimajabegojoaaGreatMo12
import Derived.Test.YtkimajabegojoaaGreatMo6
import Derived.Test.YtkimajabegojoaaGreatMo8
import Derived.Test.YtkimajabegojoaaGreatMo4
import Derived.Test.YtkimajabegojoaaGreatMo1
import Derived.Test.YtkimajabegojoaaGreatMo2
import Derived.Laws.IdiomStrings
import Derived.RegionTactic
import Derived.BigRegion
import Derived.Test.YtkimajabegojoaaGreatMo10
import Derived.Test.YtkimajabegojoaaGreatMo7
import Derived.Deep.RegionHeld3
namespace Go.Proofs.YtkimajabegojoaaGreat
set_option linter.unusedVariables false
set_option linter.unusedSimpArgs false
set_option maxHeartbeats 40000000
set_option maxRecDepth 100000
open Go.RowKit
def aVS(xs:LI):Prop:=xs.length<=60/\∀ x∈xs, -1<=x/\x<=40
theorem aVb(A:OA)(bs:LI)(c:Nat)(w:World)(lo hi:Nat)(hb:OkB bs)(hl:bs.length<=1048576)(hr:RV w lo hi A (aHb bs))(i:Nat)(a2:i<=1000) :
  Calls Tryz.prog 154 #[.slice A bs.length c,.int .i64 i] w fun e w'=>∃ x:Nat,e=.returned (.int .i64 x)/\x<256/\w'=w:=by
 go_enter Tryz.func154,Tryz.ntmps154
 by_cases hlt:i<bs.length
 .have a0:(i:Int)<(bs.length:Int):=by omega
  obtain⟨B,a4,y,rfl,hB,hy,a1⟩:=hr.rs.byte hlt;have a3:=hb y (oG hy);clear hy;go_wp2_with fail;go_ret;obtain⟨y,rfl⟩:=Int.eq_ofNat_of_zero_le (show 0<=y by omega);exact⟨y,rfl,oO,rfl⟩
 have a0:¬ (i:Int)<(bs.length:Int):=by omega
 have e1:IntKind.i64.wrap ((i:Int) * 37)=(i:Int) * 37:=oI _;have e2:IntKind.i64.wrap ((bs.length:Int) * 11)=(bs.length:Int) * 11:=oI _;have e3:IntKind.i64.wrap ((i:Int) * 37+(bs.length:Int) * 11)=(i:Int) * 37+(bs.length:Int) * 11:=oI _;go_wp2_with fail;go_ret;exact⟨(i * 37+bs.length * 11) % 256,by simp,Nat.mod_lt _ oD,rfl⟩
theorem aRg(A:OA)(bs:LI)(c:Nat)(w:World)(lo hi:Nat)(hb:OkB bs)(hl:bs.length<=1048576)(hr:RV w lo hi A (aHb bs))(k:Int)(h0:0<=k)(h1:k<=1000) :
  Calls Tryz.prog 154 #[.slice A bs.length c,.int .i64 k] w fun e w'=>∃ x:Nat,e=.returned (.int .i64 x)/\x<256/\w'=w:=by
 obtain⟨i,rfl⟩:=Int.eq_ofNat_of_zero_le h0;exact aVb A bs c w lo hi hb hl hr i oO
def LtR(r:Nat)(xs:LI):Prop:=∀ x∈xs,x≠0/\-(r:Int)<=x/\x<=r
theorem LtR.lt{r:Nat}(hr:r<=3){xs:LI}(h:LtR r xs):LtW xs:=fun x hx=>by
 have:=h x hx;unfold Lt3;omega
theorem LtR.red{r:Nat}{xs:LI}(h:LtR r xs):LtR r (red [] xs):=fun x hx=>by
 rcases aIu hx with h1|h1
 .simp at h1
 .exact h x h1
theorem aKB(f:Int)(aG:0<=f)(aP:f<=900)(q:Int)(hq0:0<=q)(aS:q<=9)(A:OA)(bs:LI)(c:Nat)(w:World)(lo hi:Nat)(hb:OkB bs)(hl:bs.length<=1048576)(hr:RV w lo hi A (aHb bs))(a8:hi<=w.heap.size)(r:Nat)(aV:1<=r)(aA:r<=3) :
  Calls Tryz.prog 69 #[.slice A bs.length c,.int .i64 f,.int .i64 r,.int .i64 q] w fun e w'=>∃ A' c' xs,e=.returned (.slice A' (List.length xs) c')/\(((xs.length:Nat):Int)<=q/\LtR r xs/\LtW xs/\Rd xs)/\OI w' w.heap.size w'.heap.size A' c' xs/\Mid 0 0 w w':=by
 have a2:=oE w (.cells #[] 3);have ho:=aAd w 3 1;have h0:=hr.mid a2 oZl;go_enter Tryz.func69,Tryz.ntmps69
 have aM:IntKind.i64.wrap (f+1)=f+1:=oI _;have aN:IntKind.i64.wrap (q+1)=q+1:=oI _;have aT:¬ q+1=0:=by omega
 go_wp2_with fail;go_loopw [9,10] (fun wv iv wr=>∃(xs:LI) (i:Nat) (Ax:OA) (cx L:Nat),iv=.int .i64 i/\wv=.slice Ax L cx/\Hid (xs.length=L)/\L<=i/\(i:Int)<=q/\Hid (LtR r xs)/\wr.ownsRow w.heap.size 3 1 (.slice Ax L cx) L (aAe xs)/\RV wr lo hi A (aHb bs)/\Mid 0 0 w wr)
  (fun _ iv _=>10 - (intOf iv).toNat)
 case atStart=>exact⟨[],0,_,_,0,by go_num,rfl,oH rfl,oN,oO,oH (by simp[LtR]),by simpa [aAe] using ho,h0,a2⟩
 clear ho h0 a2;obtain⟨xs,i,Ax,cx,L,rfl,rfl,HL,aO,aQ,HW,ho,hc,hm⟩:=hrel;have hs:=hm.size;go_wp2_with fail;with_reducible refine(aRg A bs c _ lo hi hb hl hc f aG oO).mono ?_
 rintro e w1 ⟨x0,rfl,aW,rfl⟩;obtain⟨z0,aX⟩:∃ z:Int,(x0:Int) % (q+1)=z:=⟨_,rfl⟩
 have aY:z0<=q:=by have:=Int.emod_lt_of_pos (x0:Int) (show 0<q+1 by omega);omega
 by_cases hlt2:(i:Int)<z0
 .have aE:IntKind.i64.wrap (f+1+(i:Int))=f+1+(i:Int):=oI _
  go_wp2_with fail;with_reducible refine(aRg A bs c _ lo hi hb hl hc (f+1+(i:Int)) oO oO).mono ?_
  rintro e w2 ⟨x,rfl,hx,rfl⟩;clear aE;have aU:¬ r=0:=by omega
  have a6:¬ (r:Int)=0:=by omega
  obtain⟨m,aI⟩:∃ m:Int,(x:Int) % (r:Int)=m:=⟨_,rfl⟩
  have aR:0<=m/\m<r:=by rw[<- aI];exact⟨Int.emod_nonneg _ a6,Int.emod_lt_of_pos _ oO⟩
  have aK:IntKind.i64.wrap (1+m)=1+m:=oI _;have aL:IntKind.i64.wrap (-(1+m)) = -(1+m):=oI _;cases hx8:((x:Int) / 8 % 2 == 1) with
 |true=>
   go_wp2_with (at_builtin;refine aAk rfl _ _ 44 rfl w 3 (.int .i64 0) 1 8 aBo aBs rfl oD _ _ _ rfl ho 1 [.int .i64 (-(1+m))] rfl rfl ?c1 ?c2 ?c3 hs ?next)
   case c1=>exact aAm [-(1+m)]
   case c2=>unfold maxLen;omega
   case c3=>omega
   case next=>
    intro v4 w4 a1 a0 a3;obtain⟨A4,c4,rfl, -, -⟩:=aAc a1;have m4:=oF ho a0;have a5:=hm.transNew m4 (Or.inl oN);have a4:=hc.mid m4 (Or.inr a8);go_wp2_with fail;go_roundw
    case rel=>
     refine⟨xs++[-(1+m)],i+1,A4,c4,L+1,by go_num,rfl,oH (by simp[HL.out]),oO,oO,oH ?_,by rw[aAi];exact a1,a4,a5⟩;intro y hy;rcases List.mem_append.1 hy with hy|hy
     .exact HW.out y hy
     simp at hy;omega
    simp[intOf];omega
 |false=>
   go_wp2_with (at_builtin;refine aAk rfl _ _ 44 rfl w 3 (.int .i64 0) 1 8 aBo aBs rfl oD _ _ _ rfl ho 1 [.int .i64 (1+m)] rfl rfl ?c1 ?c2 ?c3 hs ?next)
   case c1=>exact aAm [1+m]
   case c2=>unfold maxLen;omega
   case c3=>omega
   case next=>
    intro v4 w4 a1 a0 a3;obtain⟨A4,c4,rfl, -, -⟩:=aAc a1;have m4:=oF ho a0;have a5:=hm.transNew m4 (Or.inl oN);have a4:=hc.mid m4 (Or.inr a8);go_wp2_with fail;go_roundw
    case rel=>
     refine⟨xs++[1+m],i+1,A4,c4,L+1,by go_num,rfl,oH (by simp[HL.out]),oO,oO,oH ?_,by rw[aAi];exact a1,a4,a5⟩;intro y hy;rcases List.mem_append.1 hy with hy|hy
     .exact HW.out y hy
     simp at hy;omega
    simp[intOf];omega
 have a9:=(HW.out.lt aA).ok;have aC:=HL.out;have aB:=Rs.of_own ho;have a7:Calls Tryz.prog 106 #[.slice Ax L cx] w1 fun e w'=>RetI 3 (red [] xs) w1 e w':=by
  have:=aBk Ax xs cx w1 w1 aB oN a9 oO
  rwa [aC] at this
 have aD:=oH a7;clear a9 aC aB a7;go_wp2_with fail;with_reducible refine(aD.out).mono ?_
 rintro e w5 ⟨A5,c5,rfl,aJ,aF⟩;go_wp2_with fail;go_ret;have aH:=aBu xs;have hL:=HL.out;have lw:=HW.out.lt aA;exact⟨A5,c5,red [] xs,rfl,⟨oO,HW.out.red,aHF lw,aHO lw⟩,(OV.new aJ).wide hs oN oN,hm.trans (Mid.of_below aF)⟩
theorem aDU(A A':OA)(xs ys:LI)(c c':Nat)(w:World)(hr:Rs w w A (aAe xs))(a2:Rs w w A' (aAe ys))(a1:OkI xs)(a0:OkI ys)(hl:xs.length+ys.length<=268435456) :
  Calls Tryz.prog 21 #[.slice A xs.length c,.slice A' ys.length c'] w fun e w'=>∃ A2 c2,e=.returned (.slice A2 (red [] (xs++ys)).length c2)/\w'.ownsRow w.heap.size 3 1 (.slice A2 (red [] (xs++ys)).length c2) (red [] (xs++ys)).length (aAe (red [] (xs++ys)))/\Below w.heap.size w w':=
 aCR A A' xs ys c c' w hr a2 a1 a0 hl
abbrev str(l:List UInt8):ByteArray:=⟨l.toArray⟩
theorem aFa(a b:List UInt8):str a++str b=str (a++b):=by
 rw[ByteArray.mk_append_mk]
theorem aCA(a:List UInt8):(str a).size=a.length:=by simp[str,ByteArray.size]
section
open Go.RowKit
def MarkerS(P:Prop):Prop:=P
theorem MarkerS.to{P:Prop}(h:MarkerS P):P:=h
section
variable {W:World} {ops:Array Oper} {rest:List Oper} {o:Oper} {a:Act} {Q:Exit->Act->World->Prop}
end
end
def aVR(m:Mv):Prop:=m.kind=1 \/ m.kind=4 \/ m.kind=2 \/ m.kind=3
instance (m:Mv):Decidable (aVR m):=by unfold aVR;infer_instance
def aLE(sp:List UInt8):List (List UInt8)->List UInt8
|[]=>[]
|x::t=>t.foldl (fun s u=>s++sp++u) x
theorem aML(sp:List UInt8)(ls:List (List UInt8))(x:List UInt8):aLE sp (ls++[x])=if ls=[] then x else aLE sp ls++sp++x:=by
 cases ls with
|nil=>simp[aLE]
|cons y t=>simp[aLE,List.foldl_append]
theorem aGu(sp:List UInt8)(B:Nat):∀(t:List (List UInt8)) (s:List UInt8),(∀ x∈t,x.length<=B)->(t.foldl (fun s u=>s++sp++u) s).length<=s.length+t.length * (B+sp.length)
|[],s,_=>by simp
|x::t,s,h=>by
  have h1:=aGu sp B t (s++sp++x) fun y hy=>h y (by simp[hy]);have h2:=h x oM;rw[List.foldl_cons,List.length_cons,Nat.add_mul];simp only[List.length_append] at h1;omega
theorem aPf(sp:List UInt8)(B:Nat)(ls:List (List UInt8))(h:∀ x∈ls,x.length<=B):(aLE sp ls).length<=ls.length * (B+sp.length):=by
 cases ls with
|nil=>simp[aLE]
|cons x t=>
  have h1:=aGu sp B t x fun y hy=>h y (by simp[hy]);have h2:=h x oM;rw[aLE,List.length_cons,Nat.add_mul];omega
def aNi(sp none:List UInt8)(ls:List (List UInt8)):List UInt8:=if ls=[] then none else aLE sp ls
section
open Go.RowKit
def aOg(ls:List (List UInt8)):List Value:=ls.map fun l=>.string (str l)
theorem aTC(ls:List (List UInt8)):(aOg ls).length=ls.length:=by simp[aOg]
theorem aPc(a b:List (List UInt8)):aOg (a++b)=aOg a++aOg b:=by simp[aOg]
theorem aPZ(ls:List (List UInt8))(k:Nat):(aOg ls)[k]?=(ls[k]?).map fun l=>.string (str l):=by simp[aOg]
theorem aUt:(Tryz.prog.info? 9).map (fun i=>(i.zero,i.size,i.bytes))=some (some (.string ⟨#[]⟩),1,16):=by kernel_rfl
theorem aUT:Tryz.prog.underlying 103=some (.slice 9):=by kernel_rfl
section
variable {W:World} {ops:Array Oper} {rest:List Oper} {o:Oper} {a:Act} {Q:Exit->Act->World->Prop}
theorem aKT(a0:o.guard=none)(s x:Operand)(ho:o.op=.call { callee:=.builtin .append,args:=#[s,x],argTypes:=#[103,103] })(lo:Nat)(A:OA)(n c:Nat)(xs:List (List UInt8))(hs:a.eval s=.slice A n c)(hown:W.ownsRow lo 9 1 (.slice A n c) n (aOg xs))(y:List UInt8)(u:ByteArray)(hu:u=str y)(hx:a.eval x=.slice (some ⟨W,0,none⟩) 1 1)(hn:n<=1048576)(hb:lo<=W.heap.size)(h:∀ A' c' w',w'.ownsRow lo 9 1 (.slice A' (n+1) c') (n+1) (aOg (xs++[y]))->Mid lo W W w'->wpList Tryz.prog ops Q rest (a.put o.dst (.slice A' (n+1) c')) w') :
  wpList Tryz.prog ops Q (o::rest) a (W.alloc (.cells #[.string u] 9)):=by
 subst hu;refine aAk (news:=[.string (str y)]) a0 s x 103 ho lo 9 (.string ⟨#[]⟩) 1 16 aUT aUt rfl oD (.slice A n c) n (aOg xs) hs hown 1 hx rfl ?_ (by unfold maxLen;omega) oO hb ?_
 .intro u hu
  simp at hu;subst hu
  rfl
 intro v' w' h1 h2 _;obtain⟨A',c',rfl, -, -⟩:=aAc h1;refine h A' c' w' ?_ (oF hown h2);rw[aPc];exact h1
end
theorem aQz(A:OA)(ls:List (List UInt8))(c:Nat)(sp no:List UInt8)(w:World)(lo hi:Nat)(hr:RV w lo hi A (aOg ls))(hl:ls.length<=1048576)(hc:ls.length<=c)(hb:∀ x∈ls,x.length<=1000)(aF:sp.length<=1000) :
  Calls Tryz.prog 99 #[.slice A ls.length c,.string (str sp),.string (str no)] w fun e w'=>e=.returned (.string (str (aNi sp no ls)))/\Mid 0 0 w w':=by
 have HB:=oH hb;have aJ:=oH aF;obtain⟨a6,a1⟩:∃ s,s=str sp:=⟨_,rfl⟩
 obtain⟨aP,a3⟩:∃ s,s=str no:=⟨_,rfl⟩
 rw[<- a1,<- a3];have HS:=oH a1;have HN:=oH a3;have aO:a6.size<=1000:=by rw[a1,aCA];exact aF
 clear hb aF a1 a3;rcases Nat.eq_zero_or_pos ls.length with h0|h0
 .have aD:=List.eq_nil_of_length_eq_zero h0
  subst aD;have a0:aP=str (aNi sp no []):=HN.out;rw[<- a0];clear a0;go_enter Tryz.func99,Tryz.ntmps99
  go_wp2_with fail;go_ret;exact⟨rfl,Mid.refl _ _ _⟩
 obtain⟨n,hn⟩:∃ n,ls.length=n+1:=⟨ls.length - 1,oO⟩
 have HL:=oH hn;rw[hn];obtain⟨b,aa,rfl,aK,aA,aC⟩:=hr.2 (by intro h;have:=congrArg List.length h;rw[aTC] at this;simp only[List.length_nil] at this;omega);obtain⟨x0,a7⟩:=aAy ls (show 0<ls.length by omega);have aB:=aC 0 (.string (str x0)) (by rw[aPZ,a7];rfl);obtain⟨s0,aE⟩:∃ s,s=str x0:=⟨_,rfl⟩
 rw[<- aE] at aB;have a9:Hid (s0=str (aLE sp (ls.take (0+1)))):=oH (by
  rw[aE];cases ls with
 |nil=>simp at h0
 |cons x t=>simp at a7;subst a7;rfl)
 have aH:=oH aC;have aR:b<w.heap.size:=oT aA hr.1;have aS:n+1<=c:=by omega
 have aL:(1:Int)<=((n+1:Nat):Int):=by omega
 have aM:((n+1:Nat):Int)<=(c:Int):=by omega
 rw[Nat.add_zero] at aB;have aQ:=oH hr;have aV:n<=1048576:=by omega
 clear a7 aE aC h0 hn hr;by_cases hc1:c=1
 .subst hc1
  obtain rfl:n=0:=by omega
  go_enter Tryz.func99,Tryz.ntmps99
  go_wp2_with fail;go_loopw [7,20] (fun sv iv wr=>sv=.string s0/\iv=.int .i64 0/\wr=w) (fun _ _ _=>0)
  case atStart=>exact⟨rfl,rfl,rfl⟩
  obtain⟨rfl,rfl,rfl⟩:=hrel;have a5:ls.take (0+1)=ls:=List.take_of_length_le (by rw[HL.out];exact oN);have a4:ls≠[]:=by intro h;have:=HL.out;rw[h,List.length_nil] at this;omega
  have a0:s0=str (aNi sp no ls):=by rw[a9.out,a5,aNi,if_neg a4]
  have a2:=oH a0;clear a5 a4 a0;go_wp2_with fail;go_ret;exact⟨by rw[a2.out];rfl,Mid.refl _ _ _⟩
 go_enter Tryz.func99,Tryz.ntmps99
 go_wp2_with fail;go_loopw [7,20] (fun sv iv wr=>∃(k:Nat) (s:ByteArray),iv=.int .i64 k/\sv=.string s/\k<=n/\Hid (s=str (aLE sp (ls.take (k+1))))/\wr=w) (fun _ iv _=>n - (intOf iv).toNat)
 case atStart=>exact⟨0,s0,rfl,rfl,oZ,a9,rfl⟩
 clear a9 aB;obtain⟨k,s,rfl,rfl,hk,HSS,rfl⟩:=hrel;by_cases hlt:k<n
 .obtain⟨x,hx⟩:=aAy ls (show k+1<ls.length by rw[HL.out];omega)
  have aN:=aH.out (k+1) (.string (str x)) (by rw[aPZ,hx];rfl);obtain⟨xb,a8⟩:∃ s,s=str x:=⟨_,rfl⟩
  rw[<- a8,<- Nat.add_assoc,Nat.add_right_comm] at aN;have aG:x.length<=1000:=HB.out x (oG hx);have aX:xb.size<=1000:=by rw[a8,aCA];exact aG
  have aW:s.size<=1048576 * 2000:=by
   rw[HSS.out,aCA];have h1:=aPf sp 1000 (ls.take (k+1)) fun y hy=>HB.out y (List.mem_of_mem_take hy);have h2:=aJ.out;have h3:(ls.take (k+1)).length<=1048576:=by rw[List.length_take];omega
   have h4:(ls.take (k+1)).length * (1000+sp.length)<=1048576 * 2000:=Nat.mul_le_mul h3 oO;omega
  have aY:s.size+a6.size<=9223372036854775807:=by omega
  have aZ:(s++a6).size+xb.size<=9223372036854775807:=by rw[ByteArray.size_append];omega
  have aI:Hid (s++a6++xb=str (aLE sp (ls.take (k+1+1)))):=oH (by
   obtain⟨h1,h2⟩:=List.getElem?_eq_some_iff.1 hx;rw[HSS.out,HS.out,a8,aFa,aFa,List.take_succ_eq_append_getElem h1,h2,aML,if_neg];intro h;have:=congrArg List.length h;rw[List.length_take,HL.out] at this;simp only[List.length_nil] at this;omega)
  have aT:(0:Int)<=(k:Int):=by omega
  have aU:(k:Int)<(n:Int):=by omega
  clear hx a8 aG;go_wp2_with fail;go_roundw
  case rel=>
   exact⟨k+1,s++a6++xb,by go_num,rfl,oO,aI,by trivial⟩
  simp[intOf];omega
 obtain rfl:n=k:=by omega
 have a5:ls.take (n+1)=ls:=List.take_of_length_le (by rw[HL.out];exact oN);have a4:ls≠[]:=by intro h;have:=HL.out;rw[h,List.length_nil] at this;omega
 have a0:s=str (aNi sp no ls):=by rw[HSS.out,a5,aNi,if_neg a4]
 have a2:=oH a0;clear a5 a4 a0;go_wp2_with fail;go_ret;exact⟨by rw[a2.out];rfl,Mid.refl _ _ _⟩
end
end Go.Proofs.YtkimajabegojoaaGreat
