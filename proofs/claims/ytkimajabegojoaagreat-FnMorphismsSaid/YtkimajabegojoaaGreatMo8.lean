/- Lemmas. -/
import Derived.Test.YtkimajabegojoaaGreatMo7
import Derived.Test.YtkimajabegojoaaGreatMo6
import Derived.Test.YtkimajabegojoaaGreatMo1
import Derived.Test.YtkimajabegojoaaGreatMo3
import Derived.Test.YtkimajabegojoaaGreatMo2
import Derived.Test.YtkimajabegojoaaGreatMo4
import Derived.Test.YtkimajabegojoaaGreatMo5
import Derived.IntWalk
import Derived.Outline
namespace Go.Proofs.YtkimajabegojoaaGreat
set_option linter.unusedVariables false
set_option linter.unusedSimpArgs false
set_option maxHeartbeats 40000000
set_option maxRecDepth 100000
open Go.RowKit
def aDP(d:LL)(k:Int):LI:=if 1<=k/\k<=d.length then d.getD (k - 1).toNat [] else if -(d.length:Int)<=k/\k<=-1 then aAE (d.getD (-k - 1).toNat []) else[]
def aCO(d:LL)(l:LI):LL:=l.map (aDP d)
def aAl(d:LL)(l:LI):LI:=red [] (aCO d (l.take 200)).flatten
theorem aIr{d:LL}{m:Nat}{xs:LI}(h:d[m]?=some xs):aDP d ((m:Int)+1)=xs:=by
 have hm:=(List.getElem?_eq_some_iff.1 h).1;unfold aDP;rw[if_pos oO,show((m:Int)+1 - 1).toNat=m from by omega,List.getD_eq_getElem?_getD,h]
 rfl
theorem aIq{d:LL}{m:Nat}{xs:LI}(h:d[m]?=some xs):aDP d (-((m:Int)+1))=aAE xs:=by
 have hm:=(List.getElem?_eq_some_iff.1 h).1;unfold aDP;rw[if_neg oO,if_pos oO,show(- -((m:Int)+1) - 1).toNat=m from by omega,List.getD_eq_getElem?_getD,h]
 rfl
theorem aGR{d:LL}{k:Int}(h1:¬ (1<=k/\k<=d.length))(h2:¬ (-(d.length:Int)<=k/\k<=-1)):aDP d k=[]:=by
 unfold aDP;rw[if_neg h1,if_neg h2]
theorem aTf{d:LL}{m:Nat}:d.getD m []=[] \/ d.getD m []∈d:=by
 rw[List.getD_eq_getElem?_getD];cases h:d[m]? with
|none=>left;rfl
|some xs=>right;exact oG h
theorem aIM{d:LL}{b:Nat}(hb:∀ xs∈d,xs.length<=b)(ho:∀ xs∈d,OkI xs)(k:Int):(aDP d k).length<=b/\OkI (aDP d k):=by
 have hn:OkI ([]:LI):=fun x hx=>by simp at hx
 have key:∀ m:Nat,(d.getD m []).length<=b/\OkI (d.getD m []):=fun m=>by
  rcases aTf (d:=d) (m:=m) with h|h
  .rw[h];exact⟨oZ,hn⟩
  .exact⟨hb _ h,ho _ h⟩
 unfold aDP;split
 .exact key _
 split
 .rw[aBE];exact⟨(key _).1,aEW (key _).2⟩
 exact⟨oZ,hn⟩
theorem aGS(d:LL)(l:LI){k:Nat}{x:Int}(h:l[k]?=some x):(aCO d (l.take (k+1))).flatten=(aCO d (l.take k)).flatten++aDP d x:=by
 rw[aAw l h];simp[aCO]
theorem aLn{d:LL}{b:Nat}(hb:∀ xs∈d,xs.length<=b)(ho:∀ xs∈d,OkI xs)(l:LI):(aCO d l).flatten.length<=l.length * b:=by
 induction l with
|nil=>simp[aCO]
|cons x t ih=>
  have:=(aIM hb ho x).1;simp only[aCO,List.map_cons,List.flatten_cons,List.length_append,List.length_cons];simp only[aCO] at ih;rw[Nat.succ_mul];omega
theorem aKk{d:LL}{b:Nat}(hb:∀ xs∈d,xs.length<=b)(ho:∀ xs∈d,OkI xs)(l:LI):OkI (aCO d l).flatten:=aKg fun xs hx=>by
 obtain⟨k,_,rfl⟩:=List.mem_map.1 hx;exact(aIM hb ho k).2
theorem aCh{d:LL}(hb:∀ xs∈d,xs.length<=24)(ho:∀ xs∈d,OkI xs)(l:LI){k:Nat}(hk:k<=200):(aCO d (l.take k)).flatten.length<=4800:=by
 have h1:=aLn hb ho (l.take k);have h2:(l.take k).length<=k:=by rw[List.length_take];omega
 have h3:=Nat.mul_le_mul_right 24 (oV h2 hk);omega
theorem RetI.back{eI:TypeId}{xs:LI}{w wr w':World}{e:Ending}(h:RetI eI xs wr e w')(hb:Below w w wr):RetI eI xs w e w':=by
 obtain⟨A,c,he,ho,a0⟩:=h;exact⟨A,c,he,aAh ho hb.size,hb.trans (a0.mono hb.size)⟩
def aVD(w wr:World)(v:Value)(out:LI):Prop:=wr.ownsRow w.heap.size 3 1 v out.length (aAe out)/\Below w.heap.size w wr
theorem aDy(A:OA)(d:LL)(c:Nat)(A':OA)(l:LI)(c':Nat)(w:World)(lo hi:Nat)(hr:RSS w lo hi A d)(av:Rs w w A' (aAe l))(aE:∀ xs∈d,xs.length<=24)(ah:∀ xs∈d,OkI xs)(aJ:OkI l)(aw:d.length<=1048576)(ax:l.length<=1048576) :
  Calls Tryz.prog 148 #[.slice A d.length c,.slice A' l.length c'] w fun e w'=>RetI 3 (aAl d l) w e w':=by
 have aP:=oH ah;have aj:=oH aJ;have aC:=oH aE;clear ah aJ aE;have ag:=hr.size;have al:=(Below.refl w w).alloc oN (.cells #[] 3);have ap:=aAd w 3 1;go_enter Tryz.func148,Tryz.ntmps148
 go_wp2_with fail;go_loopw [5,6] (fun v i wr=>∃ k:Nat,k<=l.length/\k<=200/\i=.int .i64 k/\aVD w wr v (aCO d (l.take k)).flatten) (fun _ i _=>l.length - (intOf i).toNat)
 case atStart=>exact⟨0,oZ,oZ,rfl,by simpa [aCO,aAe] using ap,al⟩
 obtain⟨k,hk,aI,rfl,a0,hb⟩:=hrel;have aR:=hb.size;have aX:=aCh aC.out aP.out l aI;obtain⟨out,a8⟩:∃ o,o=(aCO d (l.take k)).flatten:=⟨_,rfl⟩
 rw[<- a8] at a0 aX;have a2:=oH a8;clear a8;by_cases hlt:k<l.length
 .by_cases hlt2:k<200
  .obtain⟨b,b0,x,rfl, -,hx,hc⟩:=(av.below hb).int hlt
   have ad:=aGS d l hx;rw[<- a2.out] at ad;have am:=aj.out x (oG hx);obtain⟨aF,aG⟩:=am;have aS:=oH ad;clear hx ad;by_cases hp:1<=x/\x<=d.length
   .obtain⟨m,aO⟩:∃ m:Nat,x=(m:Int)+1:=⟨(x - 1).toNat,oO⟩
    have hm:m<d.length:=by omega
    obtain⟨b2,aA,A2,c2,xs,rfl, -,aT,a7,aH,aM⟩:=hr.row hm;have af:wr.cell? ⟨b2,aA+m,none⟩=some (.slice A2 xs.length c2):=(hb.cell (by simp;omega)).trans aH;have ao:=aC.out xs (oG a7);have a5:=aIr a7;have aQ:Rs wr w A2 (aAe xs):=(aM.rs.more ag).below hb;have an:(aAe xs).length=xs.length * 1:=by rw[aAB];omega
    rw[<- aO] at a5;have aD:=oH a5;have aq:0<x:=by omega
    have ar:x<=(d.length:Int):=by omega
    have au:x - 1=(m:Int):=by omega
    clear a5 a7 aH aM hp aO aF aG;go_wp2_with (at_builtin;refine aBY rfl _ _ 44 rfl w 3 (.int .i64 0) 1 8 aBo aBs rfl oD _ _ _ rfl a0 A2 xs.length c2 w (aAe xs) rfl aQ an (aAm _) ?c2 ?c3 aR ?n1)
    case c2=>unfold maxLen;omega
    case c3=>omega
    case n1=>
     intro v1 w1 aK aU _;go_wp2_with fail;go_roundw
     case rel=>
      refine⟨k+1,oO,oO,by go_num,?_,hb.grown aU aR (fun g hg=>(a0.lt g hg).1)⟩;rw[aS.out,aD.out,List.length_append,aAi];exact aK
     simp[intOf];omega
   .by_cases hn:-(d.length:Int)<=x/\x<=-1
    .obtain⟨m,aO⟩:∃ m:Nat,x = -((m:Int)+1):=⟨(-x - 1).toNat,oO⟩
     have hm:m<d.length:=by omega
     obtain⟨b2,aA,A2,c2,xs,rfl, -,aT,a7,aH,aM⟩:=hr.row hm;have af:wr.cell? ⟨b2,aA+m,none⟩=some (.slice A2 xs.length c2):=(hb.cell (by simp;omega)).trans aH;have ao:=aC.out xs (oG a7);have ai:=aP.out xs (oG a7);have a5:=aIq a7;have aQ:Rs wr w A2 (aAe xs):=(aM.rs.more ag).below hb;rw[<- aO] at a5;have aD:=oH a5;have ak:=oH ai;have aq:¬ 0<x:=by omega
     have ar:x<0:=by omega
     have ay:-(d.length:Int)<=x:=by omega
     have az:-9223372036854775807<=x:=by omega
     have au:-x - 1=(m:Int):=by omega
     clear a5 a7 aH aM ai hp hn aO aF aG;go_wp2_with fail;with_reducible refine(aCQ A2 xs c2 _ _ aQ aR ak.out oO).mono ?_
     rintro e w2 ⟨A3,c3,rfl,aZ,ae⟩;rw[aBE] at aZ |-;have a6:=aGO a0 ae;have aB:Below w w w2:=hb.trans (ae.mono aR);have aN:=aB.size;have aa:Rs w2 w2 A3 (aAe (aAE xs)):=Rs.of_own aZ;have aW:(aAe (aAE xs)).length=xs.length * 1:=by rw[aAB,aBE];omega
     clear aQ aZ af;go_wp2_with (at_builtin;refine aBY rfl _ _ 44 rfl w 3 (.int .i64 0) 1 8 aBo aBs rfl oD _ _ _ rfl a6 A3 xs.length c3 w2 (aAe (aAE xs)) rfl aa aW (aAm _) ?c4 ?c5 aN ?n2)
     case c4=>unfold maxLen;omega
     case c5=>omega
     case n2=>
      intro v1 w3 aL aV _;go_wp2_with fail;go_roundw
      case rel=>
       refine⟨k+1,oO,oO,by go_num,?_,aB.grown aV aN (fun g hg=>(a6.lt g hg).1)⟩;rw[aS.out,aD.out,List.length_append,aAi,aBE];exact aL
      simp[intOf];omega
    have a5:=aGR hp hn;have aD:=oH a5;clear a5;go_wp2_with fail;all_goals exact⟨⟨k+1,oO,oO,by go_num,by rw[aS.out,aD.out,List.append_nil];exact⟨a0,hb⟩⟩,by simp[intOf];omega⟩
  have a3:aAl d l=red [] out:=by
   have e:k=200:=by omega
   rw[a2.out,e]
   rfl
  have a4:OkI out:=by rw[a2.out];exact aKk aC.out aP.out _
  have HE:=oH a3;have HO:=oH a4;clear a3 a4;obtain⟨A1,c1,rfl, -, -⟩:=aAc a0;have ab:Rs wr wr A1 (aAe out):=Rs.of_own a0;go_wp2_with fail;with_reducible refine(aBk A1 out c1 _ _ ab oN HO.out oO).mono ?_
  intro e w2 a9;have a1:=a9.back hb;rw[<- HE.out] at a1;obtain⟨A2,c2,rfl,aY,aB⟩:=a1;go_wp2_with fail;go_ret;exact⟨_,_,rfl,aY,aB⟩
 have a3:aAl d l=red [] out:=by
  have e:k=l.length:=by omega
  rw[a2.out,e,List.take_length];unfold aAl;rw[List.take_of_length_le oO]
 have a4:OkI out:=by rw[a2.out];exact aKk aC.out aP.out _
 have HE:=oH a3;have HO:=oH a4;clear a3 a4;obtain⟨A1,c1,rfl, -, -⟩:=aAc a0;have ab:Rs wr wr A1 (aAe out):=Rs.of_own a0;go_wp2_with fail;with_reducible refine(aBk A1 out c1 _ _ ab oN HO.out oO).mono ?_
 intro e w2 a9;have a1:=a9.back hb;rw[<- HE.out] at a1;obtain⟨A2,c2,rfl,aY,aB⟩:=a1;go_wp2_with fail;go_ret;exact⟨_,_,rfl,aY,aB⟩
def PRow(w wr:World)(r:Row):Prop:=RV w 0 w.heap.size r.A (aAe r.xs) \/ wr.ownsRow w.heap.size 3 1 r.v r.xs.length (aAe r.xs)
theorem PRow.grown{w wr w':World}{r:Row}{base:Nat}{e':TypeId}{s':Nat}{v':Value}{n':Nat}{xs':List Value}(h:PRow w wr r)(ho:wr.ownsRow base e' s' v' n' xs')(a0:3≠e')(hg:wr.grownBy w' v'.ownBlock):PRow w w' r:=by
 rcases h with h|h
 .exact .inl h
 exact .inr (h.kept hg (aBd h ho a0))
theorem PRow.below{w wr w':World}{r:Row}(h:PRow w wr r)(hb:Below wr wr w'):PRow w w' r:=by
 rcases h with h|h
 .exact .inl h
 exact .inr (aGO h hb)
theorem PRow.rv{w wr:World}{r:Row}(h:PRow w wr r)(hb:Below w w wr):RV wr 0 wr r.A (aAe r.xs):=by
 rcases h with h|h
 .exact(h.mid (Mid.of_below (lo:=0) (hi:=0) hb) oZl).wide oN hb.size oN
 exact RV.of_rs (Rs.of_own h) oN
structure Parts (w wr:World) (v:Value) (rows:List Row) (k:Nat) (d:LL) (l:LI):Prop where
 own:wr.ownsRow w.heap.size 44 1 v rows.length (aBi rows)
 row:∀ r∈rows,PRow w wr r
 dat:(aAt rows).flatten=(aCO d (l.take k)).flatten
 ok:∀ xs∈aAt rows,OkI xs
 len:rows.length<=k
 bel:Below w.heap.size w wr
theorem Parts.push{w wr w1:World}{v v':Value}{rows:List Row}{k:Nat}{d:LL}{l:LI}{x:Int}{r:Row}(h:Parts w wr v rows k d l)(hx:l[k]?=some x)(hp:aDP d x=r.xs)(hr:PRow w wr r)(ho:OkI r.xs)(a0:w1.ownsRow w 44 1 v' (rows.length+1) (aBi rows++[r.v]))(hg:wr.grownBy w1 v.ownBlock):Parts w w1 v' (rows++[r]) (k+1) d l:=by
 refine⟨?_,?_,?_,?_,?_,h.bel.grown hg h.bel.size (fun g hg=>(h.own.lt g hg).1)⟩
 .rw[aBg,List.length_append]
  exact a0
 .intro s hs
  rcases List.mem_append.1 hs with h1|h1
  .exact(h.row s h1).grown h.own oD hg
  simp at h1;subst h1;exact hr.grown h.own oD hg
 .rw[aAv,List.flatten_append,h.dat,aGS d l hx,hp]
  simp[aAt]
 .intro xs a1
  rw[aAv] at a1;rcases List.mem_append.1 a1 with h1|h1
  .exact h.ok xs h1
  simp[aAt] at h1;subst h1;exact ho
 have:=h.len;simp;omega
theorem Parts.skip{w wr:World}{v:Value}{rows:List Row}{k:Nat}{d:LL}{l:LI}{x:Int}(h:Parts w wr v rows k d l)(hx:l[k]?=some x)(hp:aDP d x=[]):Parts w wr v rows (k+1) d l:=
 ⟨h.own,h.row,by rw[h.dat,aGS d l hx,hp,List.append_nil],h.ok,by have:=h.len;omega,h.bel⟩
theorem Parts.below{w wr w1:World}{v:Value}{rows:List Row}{k:Nat}{d:LL}{l:LI}(h:Parts w wr v rows k d l)(hb:Below wr wr w1):Parts w w1 v rows k d l:=
 ⟨aGO h.own hb,fun r hr=>(h.row r hr).below hb,h.dat,h.ok,h.len,h.bel.trans (hb.mono h.bel.size)⟩
theorem Parts.rss{w wr:World}{A:OA}{n c:Nat}{rows:List Row}{k:Nat}{d:LL}{l:LI}(h:Parts w wr (.slice A n c) rows k d l):RSS wr 0 wr A (aAt rows):=by
 obtain⟨A',c',he, -, -⟩:=aAc h.own;injection he with e1 e2 e3
 subst e1 e2 e3;exact⟨rows,rfl,RV.of_rs (Rs.of_own h.own) oN,fun r hr=>(h.row r hr).rv h.bel⟩
theorem aDt(A:OA)(d:LL)(c:Nat)(A':OA)(l:LI)(c':Nat)(w:World)(lo hi:Nat)(hr:RSS w lo hi A d)(al:Rs w w A' (aAe l))(hc:l.length<=c')(aT:∀ xs∈d,xs.length<=24)(aj:∀ xs∈d,OkI xs)(aW:OkI l)(ay:d.length<=1048576)(az:l.length<=1048576) :
  Calls Tryz.prog 147 #[.slice A d.length c,.slice A' l.length c'] w fun e w'=>RetI 3 (aAl d l) w e w':=by
 have aS:=oH aj;have ah:=oH aW;have aZ:=oH aT;clear aj aW aT;have aa:=hr.size;have ar:=aAd w 44 1;have am:=(Below.refl w w).alloc oN (.cells #[] 44);have ak:Parts w (w.alloc (.cells #[] 44)) (.slice (some ⟨w,0,none⟩) 0 0) [] 0 d l:=⟨ar,by simp,by simp[aAt,aCO],by simp[aAt],oN,am⟩
 by_cases hle:l.length<=200
 .have ap:min (l.length:Int) 200=(l.length:Int):=by omega
  go_enter Tryz.func147,Tryz.ntmps147
  go_wp2_with fail;go_loopw [5,7,15] (fun v _ i wr=>∃ k:Nat,∃ rows:List Row,k<=l.length/\i=.int .i64 k/\Parts w wr v rows k d l) (fun _ _ i _=>l.length - (intOf i).toNat)
  case atStart=>exact⟨0,[],oZ,rfl,ak⟩
  obtain⟨k,rows,hk,rfl,a0⟩:=hrel;have aQ:=a0.bel.size;have aw:=a0.len;by_cases hlt:k<l.length
  .obtain⟨b,ax,x,rfl, -,hx,an⟩:=(al.below a0.bel).int (show k<l.length by omega)
   have ae:=ah.out x (oG hx);obtain⟨a9,aA⟩:=ae;have HX:=oH hx;clear hx;by_cases hp:1<=x/\x<=d.length
   .obtain⟨m,aJ⟩:∃ m:Nat,x=(m:Int)+1:=⟨(x - 1).toNat,oO⟩
    have hm:m<d.length:=by omega
    obtain⟨b2,a7,A2,c2,xs,rfl, -,aN,a5,aB,aH⟩:=hr.row hm;have aU:wr.cell? ⟨b2,a7+m,none⟩=some (.slice A2 xs.length c2):=(a0.bel.cell (by simp;omega)).trans aB;have a4:=aIr a5;rw[<- aJ] at a4;have aE:=aS.out xs (oG a5);have aF:PRow w wr ⟨A2,c2,xs⟩:=.inl (aH.wide oZ aa oN);have a8:=oH a4;have aL:=oH aE;have aM:=oH aF;have aD:inB x 1 (d.length:Int)=true:=by simp[inB];omega
    have aK:=oH aD;have ag:x - 1=(m:Int):=by omega
    clear a4 a5 aB aH hp aJ a9 aA aE aF aD;go_wp2_with fail;refine(aAu _ _ _ _).mono ?_;rintro e w' ⟨rfl,rfl⟩;rw[aK.out];go_wp2_with (at_builtin;refine aAk rfl _ _ 24 rfl w 44 (.slice none 0 0) 1 24 aDl aDi rfl oD _ _ _ rfl a0.own 1 [.slice A2 xs.length c2] rfl rfl (aKh [⟨A2,c2,xs⟩]) (by unfold maxLen;omega) oO aQ ?n1)
    case n1=>
     intro v' w1 a2 aO _;go_wp2_with fail;go_roundw
     case rel=>exact⟨k+1,rows++[⟨A2,c2,xs⟩],oO,by go_num,a0.push (r:=⟨A2,c2,xs⟩) HX.out a8.out aM.out aL.out a2 aO⟩
     simp[intOf];omega
   .have aD:inB x 1 (d.length:Int)=false:=by
     cases hv:inB x 1 (d.length:Int) with
    |false=>rfl
    |true=>exact absurd (by simpa [inB] using hv) hp
    have aK:=oH aD;clear aD;by_cases hn:-(d.length:Int)<=x/\x<=-1
    .obtain⟨m,aJ⟩:∃ m:Nat,x = -((m:Int)+1):=⟨(-x - 1).toNat,oO⟩
     have hm:m<d.length:=by omega
     obtain⟨b2,a7,A2,c2,xs,rfl, -,aN,a5,aB,aH⟩:=hr.row hm;have aU:wr.cell? ⟨b2,a7+m,none⟩=some (.slice A2 xs.length c2):=(a0.bel.cell (by simp;omega)).trans aB;have a4:=aIq a5;rw[<- aJ] at a4;have aE:=aS.out xs (oG a5);have ao:=aZ.out xs (oG a5);have aX:Rs wr w A2 (aAe xs):=(aH.rs.more aa).below a0.bel;have a8:=oH a4;have aL:=oH aE;have a1:inB x (-(d.length:Int)) (-1)=true:=by simp[inB];omega
     have a6:=oH a1;have au:-9223372036854775807<=x:=by omega
     have av:x<=9223372036854775807:=by omega
     have ag:-x - 1=(m:Int):=by omega
     clear a4 a5 aB aH hp hn aJ a9 aA aE a1;go_wp2_with fail;refine(aAu _ _ _ _).mono ?_;rintro e w' ⟨rfl,rfl⟩;rw[aK.out];go_wp2_with fail;refine(aAu _ _ _ _).mono ?_;rintro e w' ⟨rfl,rfl⟩;rw[a6.out];go_wp2_with fail;refine(aFd A2 xs c2 _ _ aX aQ aL.out oO).mono ?_;rintro e w2 ⟨A3,c3,rfl,aq,aV,ad⟩;have a3:=a0.below ad;have aR:=a3.bel.size;have aF:PRow w w2 ⟨A3,c3,aAE xs⟩:=.inr (by
      show w2.ownsRow w 3 1 (.slice A3 (aAE xs).length c3) (aAE xs).length (aAe (aAE xs))
      rw[aBE];exact aAh aV aQ)
     have aM:=oH aF;clear aF aV aX aU;go_wp2_with (at_builtin;refine aAk rfl _ _ 24 rfl w 44 (.slice none 0 0) 1 24 aDl aDi rfl oD _ _ _ rfl a3.own 1 [.slice A3 xs.length c3] rfl rfl (by simp[Value.oneCell']) (by unfold maxLen;omega) oO aR ?n2)
     case n2=>
      intro v' w1 a2 aO _;go_wp2_with fail;go_roundw
      case rel=>
       refine⟨k+1,rows++[⟨A3,c3,aAE xs⟩],oO,by go_num,a3.push HX.out a8.out aM.out (aEW aL.out) ?_ aO⟩
       show w1.ownsRow w 44 1 v' (rows.length+1) (aBi rows++[.slice A3 (aAE xs).length c3])
       rw[aBE];exact a2
      simp[intOf];omega
    have a1:inB x (-(d.length:Int)) (-1)=false:=by
     cases hv:inB x (-(d.length:Int)) (-1) with
    |false=>rfl
    |true=>exact absurd (by simpa [inB] using hv) hn
    have a6:=oH a1;have a4:=aGR hp hn;have a8:=oH a4;clear a4 a1;go_wp2_with fail;refine(aAu _ _ _ _).mono ?_;rintro e w' ⟨rfl,rfl⟩;rw[aK.out];go_wp2_with fail;refine(aAu _ _ _ _).mono ?_;rintro e w' ⟨rfl,rfl⟩;rw[a6.out];go_wp2_with fail;go_roundw
    case rel=>exact⟨k+1,rows,oO,by go_num,a0.skip HX.out a8.out⟩
    simp[intOf];omega
  have aC:aAl d l=red [] (aAt rows).flatten:=by
   rw[a0.dat,show k=l.length from by omega,List.take_length,aAl,List.take_of_length_le hle]
  have aI:aAK (aAt rows)<=268435456:=by
   rw[<- aFT,a0.dat];have:=aCh aZ.out aS.out l (show k<=200 by omega);omega
  have aY:(aAt rows).length<=4194304:=by rw[aAD];omega
  obtain⟨A1,c1,rfl, -, -⟩:=aAc a0.own;have hC:=aEe A1 (aAt rows) c1 wr 0 wr a0.rss a0.ok aY aI;rw[aAD,<- aC] at hC;have HC:=oH hC;clear hC aC aI aY;go_wp2_with fail;refine HC.out.mono ?_;intro e w2 aP;have aG:=aP.back a0.bel;obtain⟨A2,c2,rfl,af,ab⟩:=aG;go_wp2_with fail;go_ret;exact⟨_,_,rfl,af,ab⟩
 .have ai:200<=c':=by omega
  go_enter Tryz.func147,Tryz.ntmps147
  go_wp2_with fail;go_loopw [5,7,15] (fun v _ i wr=>∃ k:Nat,∃ rows:List Row,k<=200/\i=.int .i64 k/\Parts w wr v rows k d l) (fun _ _ i _=>200 - (intOf i).toNat)
  case atStart=>exact⟨0,[],oZ,rfl,ak⟩
  obtain⟨k,rows,hk,rfl,a0⟩:=hrel;have aQ:=a0.bel.size;have aw:=a0.len;by_cases hlt:k<200
  .obtain⟨b,ax,x,rfl, -,hx,an⟩:=(al.below a0.bel).int (show k<l.length by omega)
   have ae:=ah.out x (oG hx);obtain⟨a9,aA⟩:=ae;have HX:=oH hx;clear hx;by_cases hp:1<=x/\x<=d.length
   .obtain⟨m,aJ⟩:∃ m:Nat,x=(m:Int)+1:=⟨(x - 1).toNat,oO⟩
    have hm:m<d.length:=by omega
    obtain⟨b2,a7,A2,c2,xs,rfl, -,aN,a5,aB,aH⟩:=hr.row hm;have aU:wr.cell? ⟨b2,a7+m,none⟩=some (.slice A2 xs.length c2):=(a0.bel.cell (by simp;omega)).trans aB;have a4:=aIr a5;rw[<- aJ] at a4;have aE:=aS.out xs (oG a5);have aF:PRow w wr ⟨A2,c2,xs⟩:=.inl (aH.wide oZ aa oN);have a8:=oH a4;have aL:=oH aE;have aM:=oH aF;have aD:inB x 1 (d.length:Int)=true:=by simp[inB];omega
    have aK:=oH aD;have ag:x - 1=(m:Int):=by omega
    clear a4 a5 aB aH hp aJ a9 aA aE aF aD;go_wp2_with fail;refine(aAu _ _ _ _).mono ?_;rintro e w' ⟨rfl,rfl⟩;rw[aK.out];go_wp2_with (at_builtin;refine aAk rfl _ _ 24 rfl w 44 (.slice none 0 0) 1 24 aDl aDi rfl oD _ _ _ rfl a0.own 1 [.slice A2 xs.length c2] rfl rfl (aKh [⟨A2,c2,xs⟩]) (by unfold maxLen;omega) oO aQ ?n1)
    case n1=>
     intro v' w1 a2 aO _;go_wp2_with fail;go_roundw
     case rel=>exact⟨k+1,rows++[⟨A2,c2,xs⟩],oO,by go_num,a0.push (r:=⟨A2,c2,xs⟩) HX.out a8.out aM.out aL.out a2 aO⟩
     simp[intOf];omega
   .have aD:inB x 1 (d.length:Int)=false:=by
     cases hv:inB x 1 (d.length:Int) with
    |false=>rfl
    |true=>exact absurd (by simpa [inB] using hv) hp
    have aK:=oH aD;clear aD;by_cases hn:-(d.length:Int)<=x/\x<=-1
    .obtain⟨m,aJ⟩:∃ m:Nat,x = -((m:Int)+1):=⟨(-x - 1).toNat,oO⟩
     have hm:m<d.length:=by omega
     obtain⟨b2,a7,A2,c2,xs,rfl, -,aN,a5,aB,aH⟩:=hr.row hm;have aU:wr.cell? ⟨b2,a7+m,none⟩=some (.slice A2 xs.length c2):=(a0.bel.cell (by simp;omega)).trans aB;have a4:=aIq a5;rw[<- aJ] at a4;have aE:=aS.out xs (oG a5);have ao:=aZ.out xs (oG a5);have aX:Rs wr w A2 (aAe xs):=(aH.rs.more aa).below a0.bel;have a8:=oH a4;have aL:=oH aE;have a1:inB x (-(d.length:Int)) (-1)=true:=by simp[inB];omega
     have a6:=oH a1;have au:-9223372036854775807<=x:=by omega
     have av:x<=9223372036854775807:=by omega
     have ag:-x - 1=(m:Int):=by omega
     clear a4 a5 aB aH hp hn aJ a9 aA aE a1;go_wp2_with fail;refine(aAu _ _ _ _).mono ?_;rintro e w' ⟨rfl,rfl⟩;rw[aK.out];go_wp2_with fail;refine(aAu _ _ _ _).mono ?_;rintro e w' ⟨rfl,rfl⟩;rw[a6.out];go_wp2_with fail;refine(aFd A2 xs c2 _ _ aX aQ aL.out oO).mono ?_;rintro e w2 ⟨A3,c3,rfl,aq,aV,ad⟩;have a3:=a0.below ad;have aR:=a3.bel.size;have aF:PRow w w2 ⟨A3,c3,aAE xs⟩:=.inr (by
      show w2.ownsRow w 3 1 (.slice A3 (aAE xs).length c3) (aAE xs).length (aAe (aAE xs))
      rw[aBE];exact aAh aV aQ)
     have aM:=oH aF;clear aF aV aX aU;go_wp2_with (at_builtin;refine aAk rfl _ _ 24 rfl w 44 (.slice none 0 0) 1 24 aDl aDi rfl oD _ _ _ rfl a3.own 1 [.slice A3 xs.length c3] rfl rfl (by simp[Value.oneCell']) (by unfold maxLen;omega) oO aR ?n2)
     case n2=>
      intro v' w1 a2 aO _;go_wp2_with fail;go_roundw
      case rel=>
       refine⟨k+1,rows++[⟨A3,c3,aAE xs⟩],oO,by go_num,a3.push HX.out a8.out aM.out (aEW aL.out) ?_ aO⟩
       show w1.ownsRow w 44 1 v' (rows.length+1) (aBi rows++[.slice A3 (aAE xs).length c3])
       rw[aBE];exact a2
      simp[intOf];omega
    have a1:inB x (-(d.length:Int)) (-1)=false:=by
     cases hv:inB x (-(d.length:Int)) (-1) with
    |false=>rfl
    |true=>exact absurd (by simpa [inB] using hv) hn
    have a6:=oH a1;have a4:=aGR hp hn;have a8:=oH a4;clear a4 a1;go_wp2_with fail;refine(aAu _ _ _ _).mono ?_;rintro e w' ⟨rfl,rfl⟩;rw[aK.out];go_wp2_with fail;refine(aAu _ _ _ _).mono ?_;rintro e w' ⟨rfl,rfl⟩;rw[a6.out];go_wp2_with fail;go_roundw
    case rel=>exact⟨k+1,rows,oO,by go_num,a0.skip HX.out a8.out⟩
    simp[intOf];omega
  have aC:aAl d l=red [] (aAt rows).flatten:=by
   rw[a0.dat,show k=200 from by omega,aAl]
  have aI:aAK (aAt rows)<=268435456:=by
   rw[<- aFT,a0.dat];have:=aCh aZ.out aS.out l (show k<=200 by omega);omega
  have aY:(aAt rows).length<=4194304:=by rw[aAD];omega
  obtain⟨A1,c1,rfl, -, -⟩:=aAc a0.own;have hC:=aEe A1 (aAt rows) c1 wr 0 wr a0.rss a0.ok aY aI;rw[aAD,<- aC] at hC;have HC:=oH hC;clear hC aC aI aY;go_wp2_with fail;refine HC.out.mono ?_;intro e w2 aP;have aG:=aP.back a0.bel;obtain⟨A2,c2,rfl,af,ab⟩:=aG;go_wp2_with fail;go_ret;exact⟨_,_,rfl,af,ab⟩
section
open Go.RowKit
def aMZ(d:LL)(l:LL):LL:=l.filter fun w=>decide (aAl d w=w)
def aKC(rk:Int)(d:LL)(most:Int):Prop:=IsMor rk d/\0<=most/\most<=4
def FixIs(rk:Int)(d:LL)(most:Int)(res:LL):Prop:=(aKC rk d most/\res=aMZ d (pre okB (aAg rk.toNat) (most.toNat+1))) \/ (¬ aKC rk d most/\res=[])
theorem aSI(rk:Int)(d:LL)(a0:Int):∃ res,FixIs rk d a0 res:=by
 by_cases h:aKC rk d a0
 .exact⟨_,.inl ⟨h,rfl⟩⟩
 exact⟨_,.inr ⟨h,rfl⟩⟩
theorem FixIs.no{rk:Int}{d:LL}{most:Int}{res:LL}(h:FixIs rk d most res)(hn:¬ aKC rk d most):res=[]:=by
 rcases h with⟨h, -⟩|⟨-,h⟩
 .exact absurd h hn
 exact h
theorem FixIs.yes{rk:Int}{d:LL}{most:Int}{res:LL}(h:FixIs rk d most res)(hn:aKC rk d most):res=aMZ d (pre okB (aAg rk.toNat) (most.toNat+1)):=by
 rcases h with⟨-,h⟩|⟨h, -⟩
 .exact h
 exact absurd hn h
theorem aHo{d l:LL}{k:Nat}{w:LI}(h:l[k]?=some w):aMZ d (l.take (k+1))=aMZ d (l.take k)++(if aAl d w=w then[w] else[]):=by
 obtain⟨hk,h'⟩:=List.getElem?_eq_some_iff.1 h;rw[List.take_succ_eq_append_getElem hk,h'];unfold aMZ;rw[List.filter_append];by_cases h2:aAl d w=w
 .simp[h2]
 simp[h2]
theorem FixIs.lens{rk:Int}{d:LL}{most:Int}{res:LL}(h:FixIs rk d most res):res.length+aAK res<=1048576:=by
 rcases h with⟨h,rfl⟩|⟨-,rfl⟩
 .have hr:1<=rk:=h.1.1
  have a1:rk<=3:=h.1.2.1;have a0:(aAg rk.toNat).length<=6:=by rw[aBR];omega
  have h1:=aQN (f:=okB) a0 (n:=most.toNat+1) (by have:=h.2;omega);have h2:(aMZ d (pre okB (aAg rk.toNat) (most.toNat+1))).length<=(pre okB (aAg rk.toNat) (most.toNat+1)).length:=List.length_filter_le _ _;have h3:=aKy (m:=5) (aMZ d (pre okB (aAg rk.toNat) (most.toNat+1))) fun x hx=>by
   have h4:=aND (List.mem_filter.1 hx).1;have:=h.2;omega
  have:=h.2;omega
 simp[aAK]
structure SubR (w:World) (lo b:Nat) (A:OA) (n c:Nat) (rows all:List Row):Prop where
 out:w.ownsRow lo 44 1 (.slice A n c) n (aBi rows)
 own:OwnRows w b w.heap.size 3 all
 sub:List.Sublist rows all
theorem SubR.mid{w w':World}{lo b:Nat}{A:OA}{n c:Nat}{rows all:List Row}(h:SubR w lo b A n c rows all)(m:Mid 0 0 w w'):SubR w' lo b A n c rows all:=
 ⟨aAb h.out m oZl,(h.own.mid m oZl).wide oN m.size oN,h.sub⟩
theorem SubR.len{w:World}{lo b:Nat}{A:OA}{n c:Nat}{rows all:List Row}(h:SubR w lo b A n c rows all):rows.length=n:=by
 have:=h.out.1;rw[aCx] at this;omega
section
variable {W:World} {ops:Array Oper} {rest:List Oper} {o:Oper} {ac:Act} {Q:Exit->Act->World->Prop}
theorem aGz{lo b:Nat}{A:OA}{n c:Nat}{rows all:List Row}(a0:o.guard=none)(s x:Operand)(ho:o.op=.call { callee:=.builtin .append,args:=#[s,x],argTypes:=#[24,24] })(hs:ac.eval s=.slice A n c)(h:SubR W lo b A n c rows all)(r:Row)(u:Value)(hu:r.v=u)(hsub:List.Sublist (rows++[r]) all)(hx:ac.eval x=.slice (some ⟨W,0,none⟩) 1 1)(hn:n<=1048576)(hb:lo<=W.heap.size)(hk:∀ A' c' w',SubR w' lo b A' (n+1) c' (rows++[r]) all->W.grownBy w' (Value.ownBlock (.slice A n c))->(Value.ownBlock (.slice A' (n+1) c')=Value.ownBlock (.slice A n c) \/ Value.ownBlock (.slice A' (n+1) c')=some (W.heap.size+1))->wpList Tryz.prog ops Q rest (ac.put o.dst (.slice A' (n+1) c')) w') :
  wpList Tryz.prog ops Q (o::rest) ac (W.alloc (.cells #[u] 44)):=by
 subst hu;refine aAk (news:=[r.v]) a0 s x 24 ho lo 44 (.slice none 0 0) 1 24 aDl aDi rfl oD (.slice A n c) n (aBi rows) hs h.out 1 hx rfl ?_ (by unfold maxLen;omega) oO hb ?_
 .intro u hu
  simp at hu;subst hu
  rfl
 intro v' w' h1 h2 h3;obtain⟨A',c',rfl, -, -⟩:=aAc h1;refine hk A' c' w' ⟨by rw[aBg];exact h1,?_,hsub⟩ h2 h3;exact(h.own.grown h.out oD h2).wide oN h2.size oN
end
theorem RetI.get{eI:TypeId}{xs:LI}{w w':World}{e:Ending}(h:RetI eI xs w e w'):∃ A c,e=.returned (.slice A xs.length c)/\w'.ownsRow w.heap.size eI 1 (.slice A xs.length c) xs.length (aAe xs)/\Mid 0 0 w w':=by
 obtain⟨A,c,h1,h2,h3⟩:=h;exact⟨A,c,h1,h2,Mid.of_below h3⟩
end
section
open Go.RowKit
abbrev obS(A:OA)(n c:Nat):Option Nat:=Value.ownBlock (.slice A n c)
structure Own1 (w:World) (lo:Nat) (A:OA) (n c:Nat) (rows:List Row):Prop where
 out:w.ownsRow lo 44 1 (.slice A n c) n (aBi rows)
 rows:OwnRows w lo w.heap.size 3 rows
section
variable {w w':World} {lo:Nat} {A A2:OA} {n c n2 c2:Nat} {rows rows2:List Row}
theorem Own1.mid(h:Own1 w lo A n c rows)(m:Mid 0 0 w w'):Own1 w' lo A n c rows:=
 ⟨aAb h.out m oZl,(h.rows.mid m oZl).wide oN m.size oN⟩
theorem Own1.len(h:Own1 w lo A n c rows):rows.length=n:=by
 have:=h.out.1;rw[aCx] at this;omega
theorem Own1.lt(h:Own1 w lo A n c rows){g:Nat}(hg:obS A n c=some g):lo<=g/\g<w.heap.size:=h.out.lt g hg
theorem Own1.oss(h:Own1 w lo A n c rows){xss:LL}(hd:aAt rows=xss):OSS w lo w 44 3 A c xss:=OSS.mk' h.out h.rows hd
theorem Own1.base{lo':Nat}(h:Own1 w lo A n c rows)(hl:lo'<=lo):Own1 w lo' A n c rows:=⟨aAh h.out hl,h.rows.wide hl oN oN⟩
theorem Own1.other(h:Own1 w lo A n c rows)(h2:Own1 w lo A2 n2 c2 rows2)(hd:∀ g,obS A n c=some g->obS A2 n2 c2≠some g)(hg:w.grownBy w' (obS A2 n2 c2)):Own1 w' lo A n c rows:=by
 refine⟨h.out.kept hg ?_,(h.rows.grown h2.out oD hg).wide oN hg.size oN⟩;cases hv:Value.ownBlock (.slice A n c) with
|none=>exact .inl rfl
|some j=>exact .inr fun e=>hd j hv e.symm
theorem Own1.row(h:Own1 w lo A n c rows){k:Nat}{r:Row}(hk:rows[k]?=some r):∃ b,A=some ⟨b,0,none⟩/\lo<=b/\b<w.heap.size/\w.cell? ⟨b,k,none⟩=some r.v/\RV w lo w.heap.size r.A (aAe r.xs)/\r.xs.length<=r.c:=by
 have hl:=(List.getElem?_eq_some_iff.1 hk).1;obtain⟨b,hA,h1,h2⟩:=aAS h.out (show 0<n by have:=h.len;omega);subst hA;have hm:=h.rows.1 r (oG hk);exact⟨b,rfl,h1,h2,(h.out.cellAt k (by have:=h.len;omega)).trans (by simp[aBi,hk]),OV.rv hm,aHJ hm.2.1⟩
theorem Own1.push{W W':World}{A':OA}{c':Nat}{r:Row}(h:Own1 w lo A n c rows)(m:Mid 0 0 w W)(hl:lo<=w.heap.size)(a0:W.ownsRow w 3 1 r.v r.xs.length (aAe r.xs))(h1:W'.ownsRow lo 44 1 (.slice A' (n+1) c') (n+1) (aBi rows++[r.v]))(h2:W.grownBy W' (obS A n c)):Own1 W' lo A' (n+1) c' (rows++[r]):=by
 refine⟨by rw[aBg];exact h1,?_⟩;have k1:=(h.rows.mid m oZl).push (r:=r) (base:=w.heap.size) (hi':=W.heap.size) a0 oN hl m.size oN (fun g hg=>(a0.lt g hg).2);exact(k1.grown (h.mid m).out oD h2).wide oN h2.size oN
end
theorem Own1.empty(w:World):Own1 (w.alloc (.cells #[] 44)) w (some ⟨w,0,none⟩) 0 0 []:=⟨aAd w 44 1,OwnRows.nil⟩
def Apart(A:OA)(n c:Nat)(A2:OA)(n2 c2:Nat):Prop:=∀ g,obS A n c=some g->obS A2 n2 c2≠some g
theorem Apart.symm{A A2:OA}{n c n2 c2:Nat}(h:Apart A n c A2 n2 c2):Apart A2 n2 c2 A n c:=fun g hg e=>h g e hg
theorem Apart.push{W:World}{lo:Nat}{A A' A2:OA}{n c n' c' n2 c2:Nat}{rows2:List Row}(h:Apart A n c A2 n2 c2)(a0:obS A' n' c'=obS A n c \/ obS A' n' c'=some (W.heap.size+1))(h2:Own1 W lo A2 n2 c2 rows2):Apart A' n' c' A2 n2 c2:=by
 intro g hg e;rcases a0 with a0|a0
 .exact h g (a0 ▸ hg) e
 rw[a0] at hg;injection hg with hg
 have:=h2.lt e;omega
theorem aGy{w:World}{p:Nat}{v:Value}(h:w.cell? ⟨p,0,none⟩=some v):Rs w (p+1) (some ⟨p,0,none⟩) [v]:=fun _=>⟨p,0,rfl,oS,fun j u hu=>by
 rcases j with _|j
 .rw[<- hu];exact h
 .simp at hu⟩
theorem aGa{w w':World}{row:Option Nat}{b i:Nat}{v:Value}(hg:w.grownBy w' row)(hb:b<w.heap.size)(hn:some b≠row)(h:w.cell? ⟨b,i,none⟩=some v):w'.cell? ⟨b,i,none⟩=some v:=
 (World.cell?_of_block (hg.block b hb hn)).trans h
theorem aPI{b g n c:Nat}(h:b≠g):some b≠Value.ownBlock (.slice (some ⟨g,0,none⟩) n c):=fun e=>by
 have e':some b=some g:=e;injection e' with e'
 exact h e'
section
variable {W:World} {ops:Array Oper} {rest:List Oper} {o:Oper} {ac:Act} {Q:Exit->Act->World->Prop}
theorem aIO{w:World}{lo:Nat}{A:OA}{n c:Nat}{rows:List Row}(a0:o.guard=none)(s x:Operand)(ho:o.op=.call { callee:=.builtin .append,args:=#[s,x],argTypes:=#[24,24] })(hs:ac.eval s=.slice A n c)(h:Own1 w lo A n c rows)(m:Mid 0 0 w W)(r:Row)(u:Value)(hu:r.v=u)(hrow:W.ownsRow w 3 1 r.v r.xs.length (aAe r.xs))(hx:ac.eval x=.slice (some ⟨W,0,none⟩) 1 1)(hn:n<=1048576)(hb:lo<=w.heap.size)(hk:∀ A' c' w',Own1 w' lo A' (n+1) c' (rows++[r])->W.grownBy w' (obS A n c)->(obS A' (n+1) c'=obS A n c \/ obS A' (n+1) c'=some (W.heap.size+1))->wpList Tryz.prog ops Q rest (ac.put o.dst (.slice A' (n+1) c')) w') :
  wpList Tryz.prog ops Q (o::rest) ac (W.alloc (.cells #[u] 44)):=by
 subst hu;have a1:=m.size;refine aAk (news:=[r.v]) a0 s x 24 ho lo 44 (.slice none 0 0) 1 24 aDl aDi rfl oD (.slice A n c) n (aBi rows) hs (h.mid m).out 1 hx rfl ?_ (by unfold maxLen;omega) oO oO ?_
 .intro u hu
  simp at hu;subst hu
  rfl
 intro v' w' h1 h2 h3;obtain⟨A',c',rfl, -, -⟩:=aAc h1;exact hk A' c' w' (h.push m hb hrow h1 h2) h2 h3
theorem aGl{K:Act->World->Prop}{E:Prop}{w:World}{lo:Nat}{A:OA}{n c:Nat}{rows:List Row}(a1:o.guard=none)(s x:Operand)(ho:o.op=.call { callee:=.builtin .append,args:=#[s,x],argTypes:=#[24,24] })(hs:ac.eval s=.slice A n c)(h:Own1 w lo A n c rows)(m:Mid 0 0 w W)(r:Row)(u:Value)(hu:r.v=u)(hrow:W.ownsRow w 3 1 r.v r.xs.length (aAe r.xs))(hx:ac.eval x=.slice (some ⟨W,0,none⟩) 1 1)(hn:n<=1048576)(hb:lo<=w.heap.size)(hk:∀ A' c' w',Own1 w' lo A' (n+1) c' (rows++[r])->W.grownBy w' (obS A n c)->(obS A' (n+1) c'=obS A n c \/ obS A' (n+1) c'=some (W.heap.size+1))->K (ac.put o.dst (.slice A' (n+1) c')) w') :
  if Region.wanted o (yielded ops ac.tmps)=true then Oper.wp Tryz.prog o ac (W.alloc (.cells #[u] 44)) K Q else E:=by
 subst hu;have a2:=m.size;refine aAV (w:=W.alloc (.cells #[r.v] 44)) a1 s x 24 ho lo 44 (.slice none 0 0) 1 24 aDl aDi rfl oD (.slice A n c) n (aBi rows) hs ((h.mid m).out.alloc _) (some ⟨W,0,none⟩) 1 1 (W.heap.size+1) [r.v] hx (fun _=>⟨W.heap.size,0,rfl,oS,fun j u hu=>(World.cell?_alloc_at _ _ _ _ rfl).trans (by simpa using hu)⟩) rfl ?_ (by unfold maxLen;omega) oO (by simp;omega) ?_
 .intro u hu
  simp at hu;subst hu
  rfl
 intro v' w' h1 h2 h3;obtain⟨A',c',rfl, -, -⟩:=aAc h1;have a0:=aCB (World.grownBy_alloc W _ _) h2;exact hk A' c' w' (h.push m hb hrow h1 a0) a0 (by simpa using h3)
end
end
def aCg(T es:List Ed):List Ed:=es.filter fun e=>decide (e ∉ T)
theorem aCF{T es:List Ed}{k:Nat}{e:Ed}(h:es[k]?=some e):aCg T (es.take (k+1))=aCg T (es.take k)++(if e ∉ T then[e] else[]):=by
 obtain⟨hk,h'⟩:=List.getElem?_eq_some_iff.1 h;unfold aCg;rw[List.take_succ_eq_append_getElem hk,h',List.filter_append];by_cases h2:e ∉ T
 .simp[h2]
 simp[h2]
theorem aOJ(T es:List Ed):aCg (canon T) es=aCg T es:=by
 unfold aCg
 congr 1
 funext e
 rw[decide_eq_decide,aAO]
theorem aFM(T es:List Ed):(aCg T es).length<=es.length:=List.length_filter_le _ _
theorem aJU(r n:Nat)(A:OA)(es:List Ed)(c:Nat)(w:World)(lo hi:Nat)(hr:RG w lo hi A es)(aZ:es.length<=c)(hf:IsFol r n es)(T:List Ed)(aX:T.length<=1000000)(hT:∀ W,RG W lo hi A es->Calls Tryz.prog 244 #[aAJ r n A es.length c] W fun e w'=>∃ A1 c1,e=.returned (.slice A1 (canon T).length c1)/\OG w' W.heap.size w'.heap.size A1 c1 (canon T)/\Mid 0 0 W w') :
  Calls Tryz.prog 198 #[aAJ r n A es.length c] w fun e w'=>∃ A1 c1,e=.returned (.slice A1 (aCg T es).length c1)/\OG w' w.heap.size w'.heap.size A1 c1 (aCg T es)/\Mid 0 0 w w':=by
 have hl:=hf.gr.len;have HF:=oH hf;have HT:=oH hT;clear hf hT;rw[<- aOJ];have aQ:(canon T).length<=1048576:=by have:=aEF [] T;unfold canon;simp at this;omega
 obtain⟨TT,aP⟩:∃ TT,canon T=TT:=⟨_,rfl⟩
 rw[aP] at HT aQ |-;clear aP aX;have a0:Mid 0 0 w ((w.alloc (.cells #[r,n,.slice A es.length c] 35)).alloc (.cells #[] 110)):=(oE _ _).trans (oE _ _);have B0:=(oJ w #[r,n,.slice A es.length c] 35).mid (oE _ (.cells #[] 110)) oZr;have O0:=aAd (w.alloc (.cells #[r,n,.slice A es.length c] 35)) 110 3;simp only[World.size_alloc] at O0;obtain⟨p0,p1,p2⟩:=B0.c3 rfl;go_enter Tryz.func198,Tryz.ntmps198
 go_wp2_with fail;generalize (w.alloc (.cells #[r,n,.slice A es.length c] 35)).alloc (.cells #[] 110)=w1 at a0 B0 O0 p0 p1 p2 |-;have aj:w.heap.size+1<w1.heap.size:=(O0.lt _ rfl).2;with_reducible refine(aBO r n A es c w1 lo hi (hr.mid a0 oZl) oO aZ true (oX rfl HF.out)).mono ?_
 rintro en w2 ⟨rfl,a9⟩;have ab:=a9.size;clear p0 p1 p2;replace B0:=B0.mid a9 oZr;replace O0:=aAb O0 a9 oZl;replace a0:=a0.trans a9;obtain⟨p0,p1,p2⟩:=B0.c3 rfl;clear a9;go_wp2_with fail;with_reducible refine(HT.out w2 (hr.mid a0 oZl)).mono ?_
 rintro en w3 ⟨AT,cT,rfl,aN,aA⟩;have aS:=aA.size;clear p0 p1 p2 HT;replace B0:=B0.mid aA oZr;replace O0:=aAb O0 aA oZl;replace a0:=a0.trans aA;obtain⟨p0,p1,p2⟩:=B0.c3 rfl;clear aA;have aO:=aN.rg;have a3:=oH aO;have aE:Hid (w3.ownsRow (w.heap.size+1) 110 3 (.slice (some ⟨w.heap.size+1,0,none⟩) 0 0) 0 (aAe (edI (aCg TT (es.take 0))))):=oH O0;have aL:Hid ((aCg TT (es.take 0)).length=0):=oH rfl;have aC:Hid (∀ g,Value.ownBlock (.slice (some (⟨w.heap.size+1,0,none⟩:Addr)) 0 0)=some g->g=w.heap.size+1 \/ w3.heap.size<=g):=oH (fun g hg=>.inl (by injection hg with hg;exact hg.symm));have aW:w.heap.size+2<=w2.heap.size:=by omega
 clear aN aO O0;generalize (some (⟨w.heap.size+1,0,none⟩:Addr))=A0 at aE aC |-;generalize w2.heap.size=L2 at a3 aW aS;generalize hH:w3.heap.size=H3 at a3 aC aS;have aB:H3<=w3.heap.size:=Nat.le_of_eq hH.symm;clear hH ab;go_wp2_with fail;clear p0 p1 p2 B0;go_loopw [3,17] (fun ov kv wr=>∃(k n2:Nat) (A2:OA) (c2:Nat),kv=.int .i64 k/\ov=.slice A2 n2 c2/\k<=es.length/\Hid ((aCg TT (es.take k)).length=n2)/\Hid (wr.ownsRow (w.heap.size+1) 110 3 (.slice A2 n2 c2) n2 (aAe (edI (aCg TT (es.take k)))))/\Hid (∀ g,Value.ownBlock (.slice A2 n2 c2)=some g->g=w.heap.size+1 \/ H3<=g)/\Hid (RG wr L2 H3 AT TT)/\H3<=wr.heap.size/\Mid 0 0 w wr) (fun _ kv _=>es.length - (intOf kv).toNat)
 case atStart=>exact⟨0,0,A0,0,rfl,rfl,oZ,aL,aE,aC,a3,aB,a0⟩
 clear aL aE aC a3 aB a0;obtain⟨wo,ad⟩:∃ wo,wo=wr:=⟨_,rfl⟩
 subst ad;obtain⟨k,n2,A2,c2,rfl,rfl,hk,HN,HO,HD,a3,am,a0⟩:=hrel;have ai:n2<=120:=by have h1:=aFM TT (es.take k);have h2:=HN.out;rw[List.length_take] at h1;omega
 by_cases hlt:k<es.length
 .obtain⟨b,an,e,hA, -,aY,he,c0,c1,ae⟩:=(hr.mid a0 oZl).ed hlt
  subst hA;have af:b<wo.heap.size:=oT aY (oV hr.1 a0.size);have ag:(0:Int)<=(k:Int):=by omega
  have ah:(k:Int)<(es.length:Int):=by omega
  have a5:=oE wo (.cells #[.int .i64 e.a,.int .i64 e.l,.int .i64 e.b] 110);have B1:=oJ wo #[.int .i64 e.a,.int .i64 e.l,.int .i64 e.b] 110;have aF:=oH (aAb HO.out a5 oZl);have a1:=oH (a3.out.mid a5 oZl);have aI:=a0.trans a5;have HE:=oH he;have aK:=a5.size;obtain⟨q0,q1,q2⟩:=B1.c3 rfl;clear HO a3 a0 he;go_wp2_with fail;generalize wo.alloc (.cells #[.int .i64 e.a,.int .i64 e.l,.int .i64 e.b] 110)=w4 at a5 B1 aF a1 aI q0 q1 q2 aK |-;with_reducible refine(aRr AT TT cT e w4 _ _ a1.out aQ).mono ?_
  rintro en w5 ⟨rfl,a6⟩;have a7:=oH (aAb aF.out a6 oZl);have a4:=oH (a1.out.mid a6 oZl);have B5:=B1.mid a6 oZr;have ak:=a6.size;have aJ:=aI.trans a6;clear aF a1 B1 aI a6 q0 q1 q2 a5;obtain⟨q0,q1,q2⟩:=B5.c3 rfl;by_cases hin:e∈TT
  .have aV:decide (e∈TT)=true:=by simpa using hin
   have aD:Hid ((aCg TT (es.take (k+1))).length=n2):=oH (by rw[aCF HE.out,if_neg (by simpa using hin),List.append_nil];exact HN.out);have aG:Hid (w5.ownsRow (w.heap.size+1) 110 3 (.slice A2 n2 c2) n2 (aAe (edI (aCg TT (es.take (k+1)))))):=oH (by rw[aCF HE.out,if_neg (by simpa using hin),List.append_nil];exact a7.out);clear HN a7;go_wp2_with fail;go_roundw
   case rel=>exact⟨k+1,n2,A2,c2,by go_num,rfl,oO,aD,aG,HD,a4,oO,aJ⟩
   simp[intOf];omega
  have aV:decide (e∈TT)=false:=by simpa using hin
  go_wp2_with (at_builtin;refine MarkerX.to ?_)
  unfold MarkerX;refine aCS rfl _ _ rfl (w.heap.size+1) A2 n2 c2 _ rfl a7.out e rfl oO oO ?_;intro A6 c6 w6 aR a2 a8;have aD:Hid ((aCg TT (es.take (k+1))).length=n2+1):=oH (by rw[aCF HE.out,if_pos hin,List.length_append,HN.out];rfl);have aG:Hid (w6.ownsRow (w.heap.size+1) 110 3 (.slice A6 (n2+1) c6) (n2+1) (aAe (edI (aCg TT (es.take (k+1)))))):=oH (by rw[aCF HE.out,if_pos hin];exact aR);have aH:=oH (RV.grown a4.out a2 (fun g hg=>by rcases HD.out g hg with h|h <;> omega));have aa:=aJ.grownNew a2 (fun g hg=>by have:=(a7.out.lt g hg).1;omega);have al:=a2.size;have aT:Hid (∀ g,Value.ownBlock (.slice A6 (n2+1) c6)=some g->g=w.heap.size+1 \/ H3<=g):=oH (by
   intro g hg;rcases a8 with h|h
   .exact HD.out g (h ▸ hg)
   .rw[h] at hg
    injection hg with hg
    omega)
  clear aR a2 a8 HN a7 a4 B5 aJ HD q0 q1 q2;go_wp2_with fail;go_roundw
  case rel=>exact⟨k+1,n2+1,A6,c6,by go_num,rfl,oO,aD,aG,aT,aH,oO,aa⟩
  simp[intOf];omega
 obtain rfl:k=es.length:=by omega
 have hN:=HN.out;have hO:=HO.out;rw[List.take_length] at hN hO;subst hN;have aM:OG wo w wo A2 c2 (aCg TT es):=⟨oN,aAh hO (Nat.le_succ _),fun g hg=>(hO.lt g hg).2⟩
 have aU:=oH aM;clear hO HO aM a3 HN HD;go_wp2_with fail;go_ret;exact⟨A2,c2,rfl,aU.out,a0⟩
def WordsR(w:World)(H B:Nat)(vals:List Value)(st:BS):Prop:=∀ p∈st,∃ Aw cw,vals[p.1.toNat]?=some (.slice Aw p.2.length cw)/\(p.2≠[]->∃ b,Aw=some ⟨b,0,none⟩/\b<H/\b≠B/\b<w.heap.size/\∀ j u,(aAe p.2)[j]?=some u->w.cell? ⟨b,j,none⟩=some u)
theorem WordsR.mid{w w':World}{H B:Nat}{vals:List Value}{st:BS}(h:WordsR w H B vals st)(m:Mid 0 0 w w'):WordsR w' H B vals st:=fun p hp=>by
 obtain⟨Aw,cw,h1,h2⟩:=h p hp;refine⟨Aw,cw,h1,fun hn=>?_⟩;obtain⟨b,hA,h3,h4,h5,h6⟩:=h2 hn;exact⟨b,hA,h3,h4,oT h5 m.size,fun j u hu=>aAa m h5 oZr (h6 j u hu)⟩
theorem WordsR.grown{w w':World}{H B:Nat}{vals:List Value}{st:BS}{row:Option Nat}(h:WordsR w H B vals st)(hg:w.grownBy w' row)(hd:∀ g,row=some g->g=B \/ H<=g):WordsR w' H B vals st:=fun p hp=>by
 obtain⟨Aw,cw,h1,h2⟩:=h p hp;refine⟨Aw,cw,h1,fun hn=>?_⟩;obtain⟨b,hA,h3,h4,h5,h6⟩:=h2 hn;refine⟨b,hA,h3,h4,oT h5 hg.size,fun j u hu=>(World.cell?_of_block (hg.block b h5 (fun e=>?_))).trans (h6 j u hu)⟩;rcases hd b e.symm with h0|h0
 .exact h4 h0
 .omega
theorem TreeSt.wordsR{w:World}{g n:Nat}{oB:Option Nat}{vals:List Value}{st:BS}{B:Nat}(h:TreeSt w g oB n vals st)(hB:∀ j,w.cell? ⟨B,j,none⟩=none):WordsR w w B vals st:=fun p hp=>by
 obtain⟨b,c,h1,h2,h3,h4,h5⟩:=h.on p hp;refine⟨_,c,h1,fun hn=>⟨b,rfl,h5,?_,h5,h2⟩⟩;intro hb;subst hb;have hl:0<p.2.length:=List.length_pos_iff.2 hn;have:=h2 0 (.int .i64 p.2[0]) (by rw[aAP,List.getElem?_eq_getElem hl];rfl);rw[hB] at this;cases this
theorem WordsR.rv{w:World}{H B:Nat}{vals:List Value}{st:BS}(h:WordsR w H B vals st)(hH:H<=w.heap.size){p:Int × LI}(hp:p∈st):∃ Aw cw,vals[p.1.toNat]?=some (.slice Aw p.2.length cw)/\RV w 0 H Aw (aAe p.2):=by
 obtain⟨Aw,cw,h1,h2⟩:=h p hp;refine⟨Aw,cw,h1,hH,fun hn=>?_⟩;obtain⟨b,hA,h3,h4,h5,h6⟩:=h2 (by intro h0;rw[h0] at hn;exact hn rfl);exact⟨b,0,hA,oZ,h3,fun j u hu=>by rw[Nat.zero_add];exact h6 j u hu⟩
theorem aRZ{b g n c:Nat}(h:Value.ownBlock (.slice (some ⟨b,0,none⟩) n c)=some g):g=b:=(Option.some.inj (show some b=some g from h)).symm
theorem aPR{w:World}{lo hi b j:Nat}{cs:List Value}{u:Value}(h:RV w lo hi (some ⟨b,0,none⟩) cs)(hu:cs[j]?=some u):b<hi/\w.cell? ⟨b,j,none⟩=some u:=by
 obtain⟨b',a0,e, -,h2,hc⟩:=h.2 (by intro h0;subst h0;simp at hu);injection e with e
 injection e with e1 e2
 subst e1 e2;have:=hc j u hu;rw[Nat.zero_add] at this;exact⟨h2,this⟩
theorem aPQ{w:World}(A1 A2 A3:OA)(c1 c2 c3:Nat)(x1 x2 x3:LI)(h1:Rs w w A1 (aAe x1))(h2:Rs w w A2 (aAe x2))(h3:Rs w w A3 (aAe x3)) :
  RSS (w.alloc (.cells #[.slice A1 x1.length c1,.slice A2 x2.length c2,.slice A3 x3.length c3] 44)) 0 (w.heap.size+1) (some ⟨w,0,none⟩) [x1,x2,x3]:=by
 have hk:∀ {A:OA} {x:LI},Rs w w A (aAe x)->RV (w.alloc (.cells #[.slice A1 x1.length c1,.slice A2 x2.length c2,.slice A3 x3.length c3] 44)) 0 (w.heap.size+1) A (aAe x):=fun h=>by
  refine⟨by simp,fun hn=>?_⟩;obtain⟨b,a0,e,hb,hc⟩:=(h.alloc oN (.cells #[.slice A1 x1.length c1,.slice A2 x2.length c2,.slice A3 x3.length c3] 44)) hn;exact⟨b,a0,e,oZ,oO,hc⟩
 refine⟨[⟨A1,c1,x1⟩,⟨A2,c2,x2⟩,⟨A3,c3,x3⟩],rfl,⟨by simp,fun _=>⟨w.heap.size,0,rfl,oZ,oS,fun j u hu=>?_⟩⟩,fun r hr=>?_⟩
 .rw[Nat.zero_add,World.cell?_alloc_new]
  simpa [aBi,Row.v] using hu
 simp at hr;rcases hr with rfl|rfl|rfl
 .exact hk h1
 .exact hk h2
 exact hk h3
theorem aNk(r n:Nat)(A:OA)(es:List Ed)(c:Nat)(w:World)(lo hi:Nat)(hr:RG w lo hi A es)(ch:es.length<=c)(bp:IsCor r n es)(X:List Ed)(hX:∀ e∈X,e∈es)(cu:X.length<=120)(hE:∀ W,RG W lo hi A es->Calls Tryz.prog 198 #[aAJ r n A es.length c] W fun e w'=>∃ A1 c1,e=.returned (.slice A1 X.length c1)/\OG w' W.heap.size w'.heap.size A1 c1 X/\Mid 0 0 W w') :
  Calls Tryz.prog 125 #[aAJ r n A es.length c] w fun e w'=>∃ A1 c1,e=.returned (.slice A1 (X.map (basisW r es)).length c1)/\OSS w' w.heap.size w'.heap.size 44 3 A1 c1 (X.map (basisW r es))/\Mid 0 0 w w':=by
 have hg:=bp.gr;have cl:0<n:=by have:=hg.size;omega
 have cm:n<=40:=by have:=hg.size;omega
 have hl:=hg.len;have d1:r<=3:=by have:=hg.rank;omega
 have bB:=oH bp;have HE:=oH hE;have HX:=oH hX;clear bp hE hX;have aJ:Mid 0 0 w ((w.alloc (.cells #[r,n,.slice A es.length c] 35)).alloc (.cells #[] 44)):=(oE _ _).trans (oE _ _);have B0:=(oJ w #[r,n,.slice A es.length c] 35).mid (oE _ (.cells #[] 44)) oZr;have O0:=Own1.empty (w.alloc (.cells #[r,n,.slice A es.length c] 35));have hB:∀ j,((w.alloc (.cells #[r,n,.slice A es.length c] 35)).alloc (.cells #[] 44)).cell? ⟨w.heap.size+1,j,none⟩=none:=fun j=>by
  have h:=World.cell?_alloc_new (w.alloc (.cells #[r,n,.slice A es.length c] 35)) #[] 44 j;rw[World.size_alloc] at h;rw[h]
  rfl
 simp only[World.size_alloc] at O0;obtain⟨p0,p1,p2⟩:=B0.c3 rfl;go_enter Tryz.func125,Tryz.ntmps125
 go_wp2_with fail;generalize (w.alloc (.cells #[r,n,.slice A es.length c] 35)).alloc (.cells #[] 44)=w1 at aJ B0 O0 hB p0 p1 p2 |-;have cp:w.heap.size+1<w1.heap.size:=(O0.lt rfl).2;with_reducible refine(aBl r n A es c w1 lo hi (hr.mid aJ oZl) oO ch true (oX rfl bB.out)).mono ?_
 rintro en w2 ⟨rfl,ay⟩;have d2:=ay.size;have cE:∀ j,w2.cell? ⟨w.heap.size+1,j,none⟩=none:=fun j=>(World.cell?_of_block (ay.block _ (by simpa using cp) oO)).trans (hB j);clear p0 p1 p2 hB;replace O0:=O0.mid ay;replace B0:=B0.mid ay oZr;replace aJ:=aJ.trans ay;obtain⟨p0,p1,p2⟩:=B0.c3 rfl;clear ay;have hT:=aKa r n 0 A es c w2 lo hi (hr.mid aJ oZl) hg cl;have cD:((0:Nat):Int)=0:=rfl;rw[cD] at hT;have cN:aBS r es 0=(bfs es (aAg r) 0).map Prod.fst:=by unfold aBS;rw[Int.toNat_natCast]
 rw[cN] at hT;obtain⟨ST,bm⟩:∃ ST,bfs es (aAg r) 0=ST:=⟨_,rfl⟩
 rw[bm] at hT;have bk:=oH bm;have cA:=oH hT;clear hT cD cN bm;go_wp2_with fail;with_reducible refine cA.out.mono ?_
 rintro en w3 ⟨A1,c1,rfl,az, -,ax,bU,cT⟩;have d3:=az.size;have cJ:=cT.wordsR (B:=w.heap.size+1) (fun j=>(World.cell?_of_block (az.block _ (show w.heap.size+1<w2.heap.size by omega) oO)).trans (cE j));have cI:=(aAz bU).wide (lo':=w.heap.size+2) (hi':=w3.heap.size) oO oN oN;clear p0 p1 p2 bU cT cE cA;replace O0:=O0.mid az;replace B0:=B0.mid az oZr;replace aJ:=aJ.trans az;obtain⟨p0,p1,p2⟩:=B0.c3 rfl;clear az;have ad:=oH cJ;have aa:=oH cI;have HO:=oH O0;clear cJ cI O0;go_wp2_with fail;with_reducible refine(HE.out w3 (hr.mid aJ oZl)).mono ?_
 rintro en w4 ⟨AX,cX,rfl,cG,b0⟩;have cr:=b0.size;have bG:=oH (ad.out.mid b0);have bD:=oH (aa.out.mid b0 oZl);have bi:=oH (HO.out.mid b0);have ab:=oH (cG.rg.wide (lo':=w.heap.size+2) (hi':=w4.heap.size) oO oN oN);have aI:=oH (bD.out.wide (lo':=w.heap.size+2) (hi':=w4.heap.size) oN cr oN);have bK:=aJ.trans b0;have aM:Hid (WordsR w4 w4 (w.heap.size+1) ax ST):=oH (fun p hp=>by
  obtain⟨Aw,cw,h1,h2⟩:=bG.out p hp;refine⟨Aw,cw,h1,fun hn=>?_⟩;obtain⟨b,hA,h3,h4,h5,h6⟩:=h2 hn;exact⟨b,hA,oO,h4,h5,h6⟩)
 have bV:Hid (∀ g,obS (some (⟨w.heap.size+1,0,none⟩:Addr)) 0 0=some g->g=w.heap.size+1 \/ w4.heap.size<=g):=oH (fun g hg=>.inl (aRZ hg));have c9:Hid (aAt ([]:List Row)=(X.take 0).map (basisW r es)):=oH rfl;clear ad aa HO bG bD cG B0 p0 p1 p2 aJ b0 HE;generalize (some (⟨w.heap.size+1,0,none⟩:Addr))=A0 at bi bV |-;generalize hH:w4.heap.size=H4 at ab aI aM bV;have bT:H4<=w4.heap.size:=Nat.le_of_eq hH.symm;have d4:w.heap.size+2<=H4:=by omega
 generalize w2.heap.size+1=gv at aI |-;clear hH;go_wp2_with fail;go_loopw [3,21] (fun ov kv wr=>∃(k:Nat) (rows:List Row) (A2:OA) (c2:Nat),kv=.int .i64 k/\ov=.slice A2 k c2/\k<=X.length/\Hid (aAt rows=(X.take k).map (basisW r es))/\Hid (Own1 wr (w.heap.size+1) A2 k c2 rows)/\Hid (∀ g,obS A2 k c2=some g->g=w.heap.size+1 \/ H4<=g)/\Hid (RG wr (w.heap.size+2) H4 AX X)/\Hid (RV wr (w.heap.size+2) H4 (some ⟨gv,0,none⟩) ax)/\Hid (WordsR wr H4 (w.heap.size+1) ax ST)/\H4<=wr.heap.size/\Mid 0 0 w wr) (fun _ kv _=>X.length - (intOf kv).toNat)
 case atStart=>exact⟨0,[],A0,0,rfl,rfl,oZ,c9,bi,bV,ab,aI,aM,bT,bK⟩
 clear c9 bi bV ab aI aM bT bK;obtain⟨wo,ct⟩:∃ wo,wo=wr:=⟨_,rfl⟩
 subst ct;obtain⟨k,rows,A2,c2,rfl,rfl,hk,HN,HO,HD,ab,aa,ad,bw,aJ⟩:=hrel;by_cases hlt:k<X.length
 .obtain⟨b,d5,⟨ea,el,cC⟩,hA, -,cg,he,x0,x1,x2⟩:=(ab.out).ed hlt
  simp only at x0 x1 x2;subst hA;have cv:b<wo.heap.size:=oT cg bw;have cz:(0:Int)<=(k:Int):=by omega
  have d0:(k:Int)<(X.length:Int):=by omega
  have bq:=hg.all _ (HX.out _ (oG he));unfold InG at bq;simp only at bq;obtain⟨pa,rfl⟩:∃ m:Nat,ea=m:=⟨ea.toNat,oO⟩
  obtain⟨pb,rfl⟩:∃ m:Nat,cC=m:=⟨cC.toNat,oO⟩
  have bP:pa<n:=by omega
  have bQ:pb<n:=by omega
  have bX:=aDV bB.out bP;have bY:=aDV bB.out bQ;obtain⟨cj,au⟩:=aFc bB.out bP;obtain⟨ck,av⟩:=aFc bB.out bQ;have aW:basisW r es ⟨(pa:Int),el,(pb:Int)⟩=red [] (wordV r es (pa:Int)++[el]++aAE (wordV r es (pb:Int))):=rfl;rw[bk.out] at bX bY;generalize wordV r es (pa:Int)=wa at bX cj au aW;generalize wordV r es (pb:Int)=wb at bY ck av aW;obtain⟨Aa,ca,bx,cQ⟩:=ad.out.rv bw bX;obtain⟨Ab,cb,bz,cR⟩:=ad.out.rv bw bY;simp only[Int.toNat_natCast] at bx bz;obtain⟨ci,cK⟩:=aPR aa.out bx;have cL:=(aPR aa.out bz).2;have bn:=oE wo (.cells #[.int .i64 (pa:Int),el,.int .i64 (pb:Int)] 110);have B1:=oJ wo #[.int .i64 (pa:Int),el,.int .i64 (pb:Int)] 110;have ar:gv<wo.heap.size:=by omega
  have cc:=oH he;have be:=oH aW;have cx:-3<=el/\el<=3:=by omega
  have bM:OkI wa:=fun x hx=>by have:=aAU.1 (au x hx);omega
  have bN:OkI wb:=fun x hx=>by have:=aAU.1 (av x hx);omega
  have bj:=oH bM;have al:=oH bN;have cn:(0:Int)<=(pa:Int):=by omega
  have cO:(pa:Int)<(n:Int):=by omega
  have co:(0:Int)<=(pb:Int):=by omega
  have cP:(pb:Int)<(n:Int):=by omega
  clear he aW bx bz bX bY au av bM bN bq;go_wp2_with fail;generalize wo.alloc (.cells #[.int .i64 (pa:Int),el,.int .i64 (pb:Int)] 110)=wbx at bn B1 |-;clear x0 x1 x2;have aL:=bn.trans (Mid.drew1 wbx);have bW:=oH (HO.out.mid aL);have an:=oH (ab.out.mid aL oZl);have am:=oH (aa.out.mid aL oZl);have ao:=oH (ad.out.mid aL);have aX:=cQ.mid aL oZl;have aZ:=cR.mid aL oZl;have aN:=aAa aL ar oZr cK;have aO:=aAa aL ar oZr cL;have aq:gv<(World.drew wbx).heap.size:=oT ar aL.size;have bs:=aJ.trans aL;have B2:=B1.mid (Mid.drew1 wbx) oZr;have bv:=aL.size;have bo:wo.heap.size<(World.drew wbx).heap.size:=B2.1;obtain⟨q0,q1,q2⟩:=B2.c3 rfl;clear cK cL cQ cR bn B1 HO ab aa ad aJ;refine aAo (S:=(fun w'=>w'.cell? ⟨wo,0,none⟩=some (.int .i64 (pa:Int))/\w'.cell? ⟨wo,1,none⟩=some (.int .i64 el)/\w'.cell? ⟨wo,2,none⟩=some (.int .i64 (pb:Int))/\w'.cell? ⟨gv,pa,none⟩=some (.slice Aa wa.length ca)/\w'.cell? ⟨gv,pb,none⟩=some (.slice Ab wb.length cb))) [18,19] oK ⟨q0,q1,q2,aN,aO⟩ ?_;generalize World.drew wbx=wz at bW an am ao aX aZ aN aO aq bs B2 bv bo q0 q1 q2 aL |-;have hS:wz.cell? ⟨wo,0,none⟩=some (.int .i64 (pa:Int))/\wz.cell? ⟨wo,1,none⟩=some (.int .i64 el)/\wz.cell? ⟨wo,2,none⟩=some (.int .i64 (pb:Int))/\wz.cell? ⟨gv,pa,none⟩=some (.slice Aa wa.length ca)/\wz.cell? ⟨gv,pb,none⟩=some (.slice Ab wb.length cb):=⟨q0,q1,q2,aN,aO⟩
  refine tkZ [18,19] 0 rfl hS ?_;try simp only[oP]
  refine tkZ [4,5,15,16,17,18,19] 1 rfl hS ?_;try simp only[oP]
  refine tkZ [3,4,5,15,16,17,18,19] 2 rfl hS ?_;try simp only[oP]
  refine tkZ [4,5,15,16,17,18,19] 3 rfl hS ?_;try simp only[oP]
  refine tkZ [5,15,16,17,18,19] 4 rfl hS ?_;try simp only[oP]
  refine tkZ [15,16,17,18,19] 5 rfl hS ?_;try simp only[oP]
  refine tkZ [7,8,15,16,17,18,19] 6 rfl hS ?_;try simp only[oP]
  refine tkZ [8,15,16,17,18,19] 7 rfl hS ?_;try simp only[oP]
  refine tkZ [12,13,14,15,16,17,18,19] 9 rfl hS ?_;try simp only[oP]
  refine tkZ [11,12,13,14,15,16,17,18,19] 10 rfl hS ?_;try simp only[oP]
  refine tkZ [12,13,14,15,16,17,18,19] 11 rfl hS ?_;try simp only[oP]
  refine tkZ [13,14,15,16,17,18,19] 12 rfl hS ?_;try simp only[oP]
  refine tkZ [14,15,16,17,18,19] 13 rfl hS ?_;try simp only[oP]
  have b2:=q0;have b4:=q1;have b6:=q2;have b8:=aN;have bA:=aO;have a4:=bo;have aA:=aq;have cf:H4<=wz.heap.size:=by omega
  have bl:=aDJ Ab wb cb H4 wz aZ.rs cf al.out oO;clear q0 q1 q2 aN aO bo aq B2 aL hS;refine aBb (rs:=[8,14]) oK oM (AllReadyZ.cons rfl (fun K hK=>?_) (AllReadyZ.cons rfl (fun K hK=>?_) AllReadyZ.nil));focus
   go_simp;refine hK.out _ _ (Or.inr ⟨aAa (oE wz (.cells #[el] 3)) a4 oZr b2,aAa (oE wz (.cells #[el] 3)) a4 oZr b4,aAa (oE wz (.cells #[el] 3)) a4 oZr b6,aAa (oE wz (.cells #[el] 3)) aA oZr b8,aAa (oE wz (.cells #[el] 3)) aA oZr bA⟩) (fun _=>?_);clear hK K;try simp only[oP]
   have a7:=oE wz (.cells #[el] 3);have bZ:=aAa a7 a4 oZr b2;have ba:=aAa a7 a4 oZr b4;have bb:=aAa a7 a4 oZr b6;have bc:=aAa a7 aA oZr b8;have bd:=aAa a7 aA oZr bA;have aF:wo.heap.size<(wz.alloc (.cells #[el] 3)).heap.size:=oT a4 a7.size;have aK:gv<(wz.alloc (.cells #[el] 3)).heap.size:=oT aA a7.size;have aw:(wz.alloc (.cells #[el] 3)).cell? ⟨wz,0,none⟩=some (.int .i64 el):=World.cell?_alloc_at _ _ _ _ rfl;have cS:wz.heap.size<(wz.alloc (.cells #[el] 3)).heap.size:=by simp
   generalize wz.alloc (.cells #[el] 3)=w8 at a7 bZ ba bb bc bd aF aK aw cS |-;have bR:=aZ.mid a7 oZl;have ce:H4<=w8.heap.size:=by omega
   have cF:=aDJ Ab wb cb H4 w8 bR.rs ce al.out oO;clear bl;refine rdZ 14 rfl (fun K hK=>?_)
   (go_simp;(with_reducible refine cF.mono ?_);intro en a3 aR;obtain⟨A7,c7,rfl,aQ,a1⟩:=RetI.get aR;go_wp2_with fail)
   refine hK.out _ _ (Or.inr ⟨aAa a1 aF oZr bZ,aAa a1 aF oZr ba,aAa a1 aF oZr bb,aAa a1 aK oZr bc,aAa a1 aK oZr bd⟩) (fun _=>?_);clear hK K;try simp only[oP]
   have af:=aAa a1 aF oZr bZ;have ag:=aAa a1 aF oZr ba;have ah:=aAa a1 aF oZr bb;have ai:=aAa a1 aK oZr bc;have aj:=aAa a1 aK oZr bd;have a2:wo.heap.size<a3.heap.size:=oT aF a1.size;have a6:gv<a3.heap.size:=oT aK a1.size;have aU:=a7.trans a1;have aE:Rs a3 a3 (some ⟨wz,0,none⟩) (aAe [el]):=(aGy (aAa a1 cS oZr aw)).more (by have:=a1.size;omega);have aC:Rs a3 a3 A7 (aAe (aAE wb)):=(aAz aQ).rsS;clear a7 aw bR cF aR aQ a1 bZ ba bb bc bd b2 b4 b6 b8 bA;generalize a3=wc at aU aE aC af ag ah ai aj a2 a6 |-
   -- both are made: at world wc;aU:Mid 0 0 wz wc;the letter's block wz;the inverse (A7,c7)
   have aY:=aX.mid aU oZl;have a0:=oE wc (.cells #[.slice Aa wa.length ca,.slice (some ⟨wz,0,none⟩) 1 1,.slice A7 (aAE wb).length c7] 44);have b1:=aAa a0 a2 oZr af;have b3:=aAa a0 a2 oZr ag;have b5:=aAa a0 a2 oZr ah;have b7:=aAa a0 a6 oZr ai;have b9:=aAa a0 a6 oZr aj;have a9:wo.heap.size<(wc.alloc (.cells #[.slice Aa wa.length ca,.slice (some ⟨wz,0,none⟩) 1 1,.slice A7 (aAE wb).length c7] 44)).heap.size:=oT a2 a0.size;have aG:gv<(wc.alloc (.cells #[.slice Aa wa.length ca,.slice (some ⟨wz,0,none⟩) 1 1,.slice A7 (aAE wb).length c7] 44)).heap.size:=oT a6 a0.size;have aS:=aPQ (w:=wc) Aa (some ⟨wz,0,none⟩) A7 ca 1 c7 wa [el] (aAE wb) aY.rsS aE aC;have aD:=aU.trans a0;refine rdZ 15 rfl (fun K hK=>?_);go_simp;refine hK.out _ _ (Or.inr ⟨aAa a0 a2 oZr af,aAa a0 a2 oZr ag,aAa a0 a2 oZr ah,aAa a0 a6 oZr ai,aAa a0 a6 oZr aj⟩) (fun _=>?_);clear hK K;try simp only[oP]
   have aT:(wc.alloc (.cells #[.slice Aa wa.length ca,.slice (some ⟨wz,0,none⟩) 1 1,.slice A7 (aAE wb).length c7] 44)).heap.size=wc.heap.size+1:=by simp
   generalize wc.alloc (.cells #[.slice Aa wa.length ca,.slice (some ⟨wz,0,none⟩) 1 1,.slice A7 (aAE wb).length c7] 44)=w15 at a0 b1 b3 b5 b7 b9 a9 aG aS aD aT |-
  rotate_left
  focus
   (go_simp;(with_reducible refine bl.mono ?_);intro en a3 aR;obtain⟨A7,c7,rfl,aQ,a1⟩:=RetI.get aR;go_wp2_with fail)
   refine hK.out _ _ (Or.inr ⟨aAa a1 a4 oZr b2,aAa a1 a4 oZr b4,aAa a1 a4 oZr b6,aAa a1 aA oZr b8,aAa a1 aA oZr bA⟩) (fun _=>?_);clear hK K;try simp only[oP]
   have c0:=aAa a1 a4 oZr b2;have c4:=aAa a1 a4 oZr b4;have c5:=aAa a1 a4 oZr b6;have c6:=aAa a1 aA oZr b8;have c8:=aAa a1 aA oZr bA;have aH:wo.heap.size<a3.heap.size:=oT a4 a1.size;have aP:gv<a3.heap.size:=oT aA a1.size;have bO:a3.heap.size<(a3.alloc (.cells #[el] 3)).heap.size:=by simp
   refine rdZ 8 rfl (fun K hK=>?_);go_simp;refine hK.out _ _ (Or.inr ⟨aAa (oE a3 (.cells #[el] 3)) aH oZr c0,aAa (oE a3 (.cells #[el] 3)) aH oZr c4,aAa (oE a3 (.cells #[el] 3)) aH oZr c5,aAa (oE a3 (.cells #[el] 3)) aP oZr c6,aAa (oE a3 (.cells #[el] 3)) aP oZr c8⟩) (fun _=>?_);clear hK K;try simp only[oP]
   have a7:=oE a3 (.cells #[el] 3);have af:=aAa a7 aH oZr c0;have ag:=aAa a7 aH oZr c4;have ah:=aAa a7 aH oZr c5;have ai:=aAa a7 aP oZr c6;have aj:=aAa a7 aP oZr c8;have a2:wo.heap.size<(a3.alloc (.cells #[el] 3)).heap.size:=oT aH a7.size;have a6:gv<(a3.alloc (.cells #[el] 3)).heap.size:=oT aP a7.size;have aU:=a1.trans a7;have aE:Rs (a3.alloc (.cells #[el] 3)) (a3.alloc (.cells #[el] 3)).heap.size (some ⟨a3,0,none⟩) (aAe [el]):=(aGy (World.cell?_alloc_at _ _ _ _ rfl)).more oM;have aC:Rs (a3.alloc (.cells #[el] 3)) (a3.alloc (.cells #[el] 3)).heap.size A7 (aAe (aAE wb)):=(aAz (aAb aQ a7 oZl)).rsS;generalize a3.alloc (.cells #[el] 3)=wc at a7 aU aE aC af ag ah ai aj a2 a6 bO |-;clear a7 aR aQ a1 bl c0 c4 c5 c6 c8 b2 b4 b6 b8 bA
   -- both are made: at world wc;aU:Mid 0 0 wz wc;the letter's block a3;the inverse (A7,c7)
   have aY:=aX.mid aU oZl;have a0:=oE wc (.cells #[.slice Aa wa.length ca,.slice (some ⟨a3,0,none⟩) 1 1,.slice A7 (aAE wb).length c7] 44);have b1:=aAa a0 a2 oZr af;have b3:=aAa a0 a2 oZr ag;have b5:=aAa a0 a2 oZr ah;have b7:=aAa a0 a6 oZr ai;have b9:=aAa a0 a6 oZr aj;have a9:wo.heap.size<(wc.alloc (.cells #[.slice Aa wa.length ca,.slice (some ⟨a3,0,none⟩) 1 1,.slice A7 (aAE wb).length c7] 44)).heap.size:=oT a2 a0.size;have aG:gv<(wc.alloc (.cells #[.slice Aa wa.length ca,.slice (some ⟨a3,0,none⟩) 1 1,.slice A7 (aAE wb).length c7] 44)).heap.size:=oT a6 a0.size;have aS:=aPQ (w:=wc) Aa (some ⟨a3,0,none⟩) A7 ca 1 c7 wa [el] (aAE wb) aY.rsS aE aC;have aD:=aU.trans a0;refine rdZ 15 rfl (fun K hK=>?_);go_simp;refine hK.out _ _ (Or.inr ⟨aAa a0 a2 oZr af,aAa a0 a2 oZr ag,aAa a0 a2 oZr ah,aAa a0 a6 oZr ai,aAa a0 a6 oZr aj⟩) (fun _=>?_);clear hK K;try simp only[oP]
   have aT:(wc.alloc (.cells #[.slice Aa wa.length ca,.slice (some ⟨a3,0,none⟩) 1 1,.slice A7 (aAE wb).length c7] 44)).heap.size=wc.heap.size+1:=by simp
   generalize wc.alloc (.cells #[.slice Aa wa.length ca,.slice (some ⟨a3,0,none⟩) 1 1,.slice A7 (aAE wb).length c7] 44)=w15 at a0 b1 b3 b5 b7 b9 a9 aG aS aD aT |-
  rotate_left
  all_goals
   have bt:∀ xs∈[wa,[el],aAE wb],OkI xs:=by
    intro xs hx;simp at hx;rcases hx with rfl|rfl|rfl
    .exact bj.out
    .intro y hy
     simp at hy;subst hy;omega
    exact aEW al.out
   have hP:=aEe (some ⟨wc,0,none⟩) [wa,[el],aAE wb] 3 w15 0 (wc.heap.size+1) aS bt oM (by simp only[aAK,List.map_cons,List.map_nil,List.sum_cons,List.sum_nil,List.length_cons,List.length_nil,aBE];omega);have cM:([wa,[el],aAE wb]:LL).flatten=wa++[el]++aAE wb:=by simp
   rw[cM,<- be.out] at hP;have cH:Calls Tryz.prog 110 #[.slice (some ⟨wc,0,none⟩) 3 3] w15 fun e' w'=>RetI 3 (basisW r es ⟨(pa:Int),el,(pb:Int)⟩) w15 e' w':=hP;have HP:=oH cH;clear hP cM aS cH;refine rdZ 16 rfl (fun K hK=>?_)
   (go_simp;(with_reducible refine HP.out.mono ?_);intro en ak bu;obtain⟨A16,aV,rfl,bL,a5⟩:=RetI.get bu;go_wp2_with fail)
   refine hK.out _ _ (Or.inr ⟨aAa a5 a9 oZr b1,aAa a5 a9 oZr b3,aAa a5 a9 oZr b5,aAa a5 aG oZr b7,aAa a5 aG oZr b9⟩) (fun _=>?_);clear hK K;try simp only[oP]
   have cU:=aAa a5 a9 oZr b1;have cV:=aAa a5 a9 oZr b3;have cW:=aAa a5 a9 oZr b5;have cY:=aAa a5 aG oZr b7;have cZ:=aAa a5 aG oZr b9;have ap:wo.heap.size<ak.heap.size:=oT a9 a5.size;have bI:gv<ak.heap.size:=oT aG a5.size;have a8:=aD.trans a5;have bS:ak.ownsRow wz 3 1 (Row.v ⟨A16,aV,basisW r es ⟨(pa:Int),el,(pb:Int)⟩⟩) (basisW r es ⟨(pa:Int),el,(pb:Int)⟩).length (aAe (basisW r es ⟨(pa:Int),el,(pb:Int)⟩)):=aAh bL aD.size;have cs:=a8.size;refine rdZ 17 rfl (fun K hK=>?_);go_simp;refine hK.out _ _ (Or.inr ⟨aAa (oE ak (.cells #[.slice A16 (basisW r es ⟨(pa:Int),el,(pb:Int)⟩).length aV] 44)) ap oZr cU,aAa (oE ak (.cells #[.slice A16 (basisW r es ⟨(pa:Int),el,(pb:Int)⟩).length aV] 44)) ap oZr cV,aAa (oE ak (.cells #[.slice A16 (basisW r es ⟨(pa:Int),el,(pb:Int)⟩).length aV] 44)) ap oZr cW,aAa (oE ak (.cells #[.slice A16 (basisW r es ⟨(pa:Int),el,(pb:Int)⟩).length aV] 44)) bI oZr cY,aAa (oE ak (.cells #[.slice A16 (basisW r es ⟨(pa:Int),el,(pb:Int)⟩).length aV] 44)) bI oZr cZ⟩) (fun _=>?_);clear hK K;try simp only[oP]
   refine rdZ 18 rfl (fun K hK=>?_)
   (refine aGl (by rfl) (.tmp 25) (.tmp 42) (by rfl) (by rfl) bW.out a8 ⟨A16,aV,basisW r es ⟨(pa:Int),el,(pb:Int)⟩⟩ (.slice A16 (basisW r es ⟨(pa:Int),el,(pb:Int)⟩).length aV) rfl bS (by rfl) oO oO ?_;intro A18 cB d6 bH aB ae)
   refine hK.out _ _ (Or.inl oM) (fun _=>?_);clear hK K;try simp only[oP]
   have bh:=oH bH;have bg:Hid (aAt (rows++[(⟨A16,aV,basisW r es ⟨(pa:Int),el,(pb:Int)⟩⟩:Row)])=(X.take (k+1)).map (basisW r es)):=oH (by
    obtain⟨h1,h2⟩:=List.getElem?_eq_some_iff.1 cc.out;rw[aAv,HN.out,List.take_succ_eq_append_getElem h1,h2,List.map_append]
    rfl)
   have bE:=oH (RV.grown (an.out.mid a8 oZl) aB (fun g hg=>by rcases HD.out g hg with h|h <;> omega));have bC:=oH ((am.out.mid a8 oZl).grown aB (fun g hg=>by rcases HD.out g hg with h|h <;> omega));have bF:=oH ((ao.out.mid a8).grown aB HD.out);have br:=(bs.trans a8).grownNew aB (fun g hg=>by have:=(bW.out.lt hg).1;omega);have cq:=aB.size;have bf:Hid (∀ g,obS A18 (k+1) cB=some g->g=w.heap.size+1 \/ H4<=g):=oH (by
    intro g hg;rcases ae with h|h
    .exact HD.out g (h ▸ hg)
    .rw[h] at hg
     have cy:=Option.some.inj hg;omega)
   clear bH aB ae bW an am ao bs a8 a5 bL bS HD HN HP aD a0 aU aY aE aC aX aZ af ag ah ai aj b1 b3 b5 b7 b9 cU cV cW cY cZ;refine rdZ 19 rfl (fun K hK=>?_);go_simp;refine hK.out _ _ (Or.inl oM) (fun _=>?_);clear hK K;try simp only[oP]
   refine aAj oK ?_ _;go_wp2_with fail;go_roundw
   case rel=>exact⟨k+1,_,A18,cB,by go_num,rfl,oO,bg,bh,bf,bE,bC,bF,oO,br⟩
   simp[intOf];omega
 obtain rfl:k=X.length:=by omega
 have hN:=HN.out;rw[List.take_length] at hN;have bJ:(X.map (basisW r es)).length=X.length:=List.length_map ..;have HQ:Hid (OSS wo w wo 44 3 A2 c2 (X.map (basisW r es))):=oH ((HO.out.base (Nat.le_succ _)).oss hN);have cd:=oH bJ;clear hN bJ HN HO HD ab aa ad;go_wp2_with fail;go_ret;exact⟨A2,c2,by rw[cd.out];rfl,HQ.out,aJ⟩
def Marks(n:Nat)(bs:List Value)(st:BS):Prop:=bs.length=n/\∀ u:Nat,u<n->bs[u]?=some (.bool (decide ((u:Int)∈st.map Prod.fst)))
theorem Marks.none(n:Nat):Marks n (List.replicate n (.bool false)) []:=⟨by simp,fun u hu=>by simp[hu]⟩
theorem Marks.set{n t:Nat}{bs:List Value}{st:BS}{wd:LI}(h:Marks n bs st)(ht:t<n):Marks n (bs.set t (.bool true)) (st++[((t:Int),wd)]):=by
 refine⟨by rw[List.length_set];exact h.1,fun u hu=>?_⟩;by_cases hut:u=t
 .subst hut
  rw[List.getElem?_set_self (by rw[h.1];exact ht)];simp
 rw[List.getElem?_set_ne (Ne.symm hut),h.2 u hu];have h1:¬ (u:Int)=(t:Int):=by omega
 simp[h1]
theorem TreeSt.other{w:World}{g n gs tt:Nat}{oB:Option Nat}{vals:List Value}{st:BS}{v:Value}(h:TreeSt w g oB n vals st)(hb:∃ b,w.cell? ⟨gs,0,none⟩=some (.bool b)):TreeSt (w.setCell ⟨gs,tt,none⟩ v) g oB n vals st:=by
 refine⟨h.len,fun p hp=>?_,h.off⟩;obtain⟨b,c,h1,h2,h3,h4,h5⟩:=h.on p hp;refine⟨b,c,h1,fun j u hu=>?_,h3,h4,by simpa using h5⟩;have a0:b≠gs:=by
  intro e;subst e;have hj:=(List.getElem?_eq_some_iff.1 hu).1;rw[aAB] at hj;have hl:0<p.2.length:=by omega
  have h6:=h2 0 (.int .i64 p.2[0]) (by rw[aAP,List.getElem?_eq_getElem hl];rfl);obtain⟨bb,h7⟩:=hb;rw[h7] at h6;cases h6
 exact(World.cell?_setCell_other w _ _ v (by intro e;injection e with e;exact a0 e.symm)).trans (h2 j u hu)
theorem aME(r n:Nat)(A:OA)(es:List Ed)(c:Nat)(w:World)(lo hi:Nat)(hr:RG w lo hi A es)(hg:IsGr r n es)(cP:0<n) :
  Calls Tryz.prog 292 #[aAJ r n A es.length c,.int .i64 0] w fun e w'=>∃ gs gw bs a6 oB,e=.returned (.tuple #[.slice (some ⟨gs,0,none⟩) n n,.slice (some ⟨gw,0,none⟩) n n])/\Mid 0 0 w w' /\
   w'.ownsRow w 4 1 (.slice (some ⟨gs,0,none⟩) n n) n bs/\Marks n bs (bfs es (aAg r) 0)/\w'.ownsRow w 44 1 (.slice (some ⟨gw,0,none⟩) n n) n a6/\TreeSt w' gw oB n a6 (bfs es (aAg r) 0):=by
 have dc:n<=40:=by have:=hg.size;omega
 have dw:r<=3:=by have:=hg.rank;omega
 have hl:=hg.len;have dJ:n<=maxLen:=by unfold maxLen;omega
 have dG:∀ e∈es,1<=e.l/\e.l<=3:=fun e he=>by have:=hg.all e he;unfold InG at this;omega
 have bb:Mid 0 0 w (w.alloc (.cells #[r,n,.slice A es.length c] 35)):=oE _ _;have B0:=oJ w #[r,n,.slice A es.length c] 35;have HG:=oH hg;have dQ:=oH dG;have dN:(0:Int)<=0:=Int.le_refl _;have dO:(0:Int)<(n:Int):=by omega
 clear hg dG;obtain⟨p0,p1,p2⟩:=B0.c3 rfl;go_enter Tryz.func292,Tryz.ntmps292
 go_wp2_with (at_make;refine MarkerX.to ?_)
 generalize w.alloc (.cells #[r,n,.slice A es.length c] 35)=w1 at bb B0 p0 p1 p2 |-;have cs:w.heap.size<w1.heap.size:=B0.1;unfold MarkerX;refine aDZ rfl _ _ 121 rfl 4 (.bool false) 1 aUS aUs rfl .i64 .i64 _ _ n rfl rfl rfl rfl oO dJ ?_;intro w2 a7 cH cL;have cl:=Mid.of_grown (lo:=0) (hi:=0) cH (by intro g h;cases h);clear p0 p1 p2;replace B0:=B0.mid cl oZr;replace bb:=bb.trans cl;obtain⟨p0,p1,p2⟩:=B0.c3 rfl;go_wp2_with (at_make;refine MarkerX.to ?_)
 unfold MarkerX;refine aDZ rfl _ _ 24 rfl 44 (.slice none 0 0) 24 aDl aDi rfl .i64 .i64 _ _ n rfl rfl rfl rfl oO dJ ?_;intro w3 aE a0 cv;have bd:=Mid.of_grown (lo:=0) (hi:=0) a0 (by intro g h;cases h);clear p0 p1 p2;replace B0:=B0.mid bd oZr;replace a7:=aAb a7 bd oZl;replace bb:=bb.trans bd;have dK:¬ w1.heap.size=w2.heap.size:=by omega
 have dE:=a7.frozenAt 0;have dF:=aE.frozenAt 0;have bU:=a7.cellAt 0 oO;have ch:=aE.cellAt 0 oO;rw[List.getElem?_replicate,if_pos cP] at bU ch;generalize w1.heap.size=gs at a7 dE bU dK cs cL |-;generalize hgw:w2.heap.size=gw at aE dF ch dK cL cv |-;obtain⟨p0,p1,p2⟩:=B0.c3 rfl;have dl:¬ gs=w.heap.size:=by omega
 have dX:¬ gw=w.heap.size:=by omega
 have dH:=oU w3 gs 0 (.bool true);have d8:=B0.mid dH (Or.inl cs);have dI:=oU (w3.setCell ⟨gs,0,none⟩ (.bool true)) gw 0 (.slice (some ⟨w3,0,none⟩) 0 0);have d9:=d8.mid dI;have dA:=d9.mid (oE ((w3.setCell ⟨gs,0,none⟩ (.bool true)).setCell ⟨gw,0,none⟩ (.slice (some ⟨w3,0,none⟩) 0 0)) (.cells #[] 3)) oZr;have br:=dA.mid (oE (((w3.setCell ⟨gs,0,none⟩ (.bool true)).setCell ⟨gw,0,none⟩ (.slice (some ⟨w3,0,none⟩) 0 0)).alloc (.cells #[] 3)) (.cells #[(0:Int)] 3)) oZr;have ct:=aBF a7 0 (.bool true) rfl;have cz:=aE.kept (aAZ w3 gs 0 (.bool true)) (aBd aE a7 oD);have dL:=ct.kept (aAZ (w3.setCell ⟨gs,0,none⟩ (.bool true)) gw 0 (.slice (some ⟨w3,0,none⟩) 0 0)) (aBd ct cz oD);have dP:=aBF cz 0 (.slice (some ⟨w3,0,none⟩) 0 0) rfl;have cu:=(dL.alloc (.cells #[] 3)).alloc (.cells #[(0:Int)] 3);have bv:=(dP.alloc (.cells #[] 3)).alloc (.cells #[(0:Int)] 3);have cK:=(((bb.storeNew (p:=⟨gs,0,none⟩) (by show w.heap.size<=gs;omega) (.bool true)).storeNew (p:=⟨gw,0,none⟩) (by show w.heap.size<=gw;omega) (.slice (some ⟨w3,0,none⟩) 0 0)).trans (oE ((w3.setCell ⟨gs,0,none⟩ (.bool true)).setCell ⟨gw,0,none⟩ (.slice (some ⟨w3,0,none⟩) 0 0)) (.cells #[] 3))).trans (oE (((w3.setCell ⟨gs,0,none⟩ (.bool true)).setCell ⟨gw,0,none⟩ (.slice (some ⟨w3,0,none⟩) 0 0)).alloc (.cells #[] 3)) (.cells #[(0:Int)] 3));have T0:TreeSt ((w3.setCell ⟨gs,0,none⟩ (.bool true)).alloc (.cells #[] 3)) gw (some (w3.heap.size+1)) n (List.replicate n (.slice none 0 0)) []:=⟨by simp,by simp,fun u hu _=>by simp[hu]⟩
 have T1:=T0.set (t:=0) (b:=w3.heap.size) (c:=0) (wd:=[]) cP oM oM (by simp[aAe]) oO (by intro e;have:=Option.some.inj e;omega) oM;have dD:((w3.setCell ⟨gs,0,none⟩ (.bool true)).alloc (.cells #[] 3)).setCell ⟨gw,0,none⟩ (.slice (some ⟨w3,0,none⟩) 0 0)=((w3.setCell ⟨gs,0,none⟩ (.bool true)).setCell ⟨gw,0,none⟩ (.slice (some ⟨w3,0,none⟩) 0 0)).alloc (.cells #[] 3):=by go_simp
 simp only[List.length_nil,List.nil_append] at T1;have d7:((0:Nat):Int)=0:=rfl;rw[d7] at T1;rw[dD] at T1;have T2:=T1.mid (a:=0) (b:=0) (oE (((w3.setCell ⟨gs,0,none⟩ (.bool true)).setCell ⟨gw,0,none⟩ (.slice (some ⟨w3,0,none⟩) 0 0)).alloc (.cells #[] 3)) (.cells #[(0:Int)] 3));have cf:=(Marks.none n).set (t:=0) (wd:=[]) cP;rw[d7,List.nil_append] at cf;have dM:(((w3.setCell ⟨gs,0,none⟩ (.bool true)).setCell ⟨gw,0,none⟩ (.slice (some ⟨w3,0,none⟩) 0 0)).alloc (.cells #[] 3)).heap.size=w3.heap.size+1:=by simp
 have O2:((((w3.setCell ⟨gs,0,none⟩ (.bool true)).setCell ⟨gw,0,none⟩ (.slice (some ⟨w3,0,none⟩) 0 0)).alloc (.cells #[] 3)).alloc (.cells #[(0:Int)] 3)).ownsRow (w3.heap.size+1) 3 1 (.slice (some ⟨w3.heap.size+1,0,none⟩) 1 1) 1 (aAe [(0:Int)]):=by rw[<- dM];exact World.ownsRow_lit (size:=1) (((w3.setCell ⟨gs,0,none⟩ (.bool true)).setCell ⟨gw,0,none⟩ (.slice (some ⟨w3,0,none⟩) 0 0)).alloc (.cells #[] 3)) #[(0:Int)] 1 oN (by simp[maxLen]) oM
 clear p0 p1 p2;obtain⟨p0,p1,p2⟩:=br.c3 rfl;clear dH d8 dI d9 dA ct cz dL dP T0 T1 dD B0 bb dM;go_wp2_with fail;generalize hw4:(((w3.setCell ⟨gs,0,none⟩ (.bool true)).setCell ⟨gw,0,none⟩ (.slice (some ⟨w3,0,none⟩) 0 0)).alloc (.cells #[] 3)).alloc (.cells #[(0:Int)] 3)=w4 at br cu bv cK T2 O2 p0 p1 p2 |-;clear hw4 cH a0 cl bd a7 aE dE dF bU ch hgw;have HS:=oH cu;have HM:=oH cf;have HT:=oH T2;generalize (List.replicate n (Value.bool false)).set 0 (.bool true)=bs0 at HS HM;generalize (List.replicate n (Value.slice none 0 0)).set 0 (.slice (some ⟨w3,0,none⟩) 0 0)=vals0 at bv HT;have dv:w3.heap.size+1<w4.heap.size:=(O2.lt _ rfl).2;clear cu cf T2;with_reducible refine(aEo r _ oO).mono ?_
 rintro en w5 ⟨A4,c4,rfl,dB,bD⟩;have dx:=bD.size;clear p0 p1 p2;replace br:=br.mid bD oZr;replace O2:=aAb O2 bD oZl;replace bv:=aAb bv bD oZl;replace cK:=cK.trans bD;replace HS:=oH (aAb HS.out bD oZl);replace HT:=oH (HT.out.mid (a:=0) (b:=0) bD);have dR:=oH (aBR r);obtain⟨LL,ce⟩:∃ LL,(aAg r).length=LL:=⟨_,rfl⟩
 have dV:LL<=6:=by have:=dR.out;omega
 rw[ce];have cT:=oH ce;have aI:=oH dB;have cX:Hid (TreeSt w5 gw (Value.ownBlock (.slice (some (⟨w3.heap.size+1,0,none⟩:Addr)) 1 1)) n vals0 (aAn es (aAg r) 0 0)):=oH HT.out;have d3:Hid (Marks n bs0 (aAn es (aAg r) 0 0)):=oH HM.out;have d6:=oH bv;have c2:Hid (∀ g,Value.ownBlock (.slice (some (⟨w3.heap.size+1,0,none⟩:Addr)) 1 1)=some g->g<w4.heap.size \/ w5.heap.size<=g):=oH (fun g hg=>.inl (by have:=Option.some.inj (show some (w3.heap.size+1)=some g from hg);omega));have HQ:=oH (show w5.ownsRow (gw+1) 3 1 (.slice (some ⟨w3.heap.size+1,0,none⟩) 1 1) 1 (aAe ((aAn es (aAg r) 0 0).map Prod.fst)) from aAh O2 oO);have da:gw<w4.heap.size:=by omega
 clear ce dB bD O2 HT HM bv;generalize (some (⟨w3.heap.size+1,0,none⟩:Addr))=Q0 at HQ c2 cX |-;generalize w4.heap.size=L4 at aI c2 da;generalize w5.heap.size=H4 at aI c2;go_wp2_with fail;go_loopw [8,10] (fun ord iv wr=>∃(i n1:Nat) (A1:OA) (c1:Nat) (a6 bs:List Value),i<=n1/\iv=.int .i64 i/\ord=.slice A1 n1 c1/\Hid ((aAn es (aAg r) 0 i).length=n1)/\Hid (wr.ownsRow (gw+1) 3 1 (.slice A1 n1 c1) n1 (aAe ((aAn es (aAg r) 0 i).map Prod.fst)))/\Hid (wr.ownsRow gw 44 1 (.slice (some ⟨gw,0,none⟩) n n) n a6)/\Hid (wr.ownsRow gs 4 1 (.slice (some ⟨gs,0,none⟩) n n) n bs)/\Hid (Marks n bs (aAn es (aAg r) 0 i))/\Hid (TreeSt wr gw (Value.ownBlock (.slice A1 n1 c1)) n a6 (aAn es (aAg r) 0 i))/\Hid (RV wr L4 H4 A4 (aAe (aAg r)))/\Hid (∀ g,Value.ownBlock (.slice A1 n1 c1)=some g->g<L4 \/ H4<=g)/\Box wr w.heap.size [.int .i64 r,.int .i64 n,.slice A es.length c]/\Mid 0 0 w wr) (fun _ i _=>(41 - intOf i).toNat)
 case atStart=>exact⟨0,1,Q0,1,vals0,bs0,oZ,rfl,rfl,oH rfl,HQ,d6,HS,d3,cX,aI,c2,br,cK⟩
 clear HQ d6 HS d3 cX aI c2 br cK;obtain⟨wo,di⟩:∃ wo,wo=wr:=⟨_,rfl⟩
 subst di;obtain⟨i,n1,A1,c1,a6,bs,ds,rfl,rfl,HN,HQ,HW,HS,HM,HT,aI,HD,bx,hm⟩:=hrel;have cp:=aFZ (L:=aAg r) HG.out.all dN dO i;have cP:n1<=40:=by have h1:=cp.len oO;have h2:=HN.out;omega
 have cU:=oH cp;clear cp;by_cases hlt:i<n1
 .obtain⟨p,hp⟩:=aAy (aAn es (aAg r) 0 i) (show i<(aAn es (aAg r) 0 i).length by rw[HN.out];exact hlt)
  have cr:=cU.out.rng p (oG hp);obtain⟨pu,wd⟩:=p;simp only at cr;obtain⟨u,rfl⟩:∃ u:Nat,pu=u:=⟨pu.toNat,oO⟩
  have e4:u<n:=by omega
  have dh:=cU.out.wl i _ hp;simp only at dh;have HP:=oH hp;have dW:=oH (aFY hp);have dp:(0:Int)<=(i:Int):=by omega
  clear hp;go_wp2_with fail;go_loopw [8,11] (fun ord jv wr=>∃(j n1:Nat) (A1:OA) (c1:Nat) (a6 bs:List Value),j<=LL/\jv=.int .i64 j/\ord=.slice A1 n1 c1/\Hid ((aAN es ((aAg r).take j) ((u:Int),wd) (aAn es (aAg r) 0 i)).length=n1)/\Hid (wr.ownsRow (gw+1) 3 1 (.slice A1 n1 c1) n1 (aAe ((aAN es ((aAg r).take j) ((u:Int),wd) (aAn es (aAg r) 0 i)).map Prod.fst)))/\Hid (wr.ownsRow gw 44 1 (.slice (some ⟨gw,0,none⟩) n n) n a6)/\Hid (wr.ownsRow gs 4 1 (.slice (some ⟨gs,0,none⟩) n n) n bs)/\Hid (Marks n bs (aAN es ((aAg r).take j) ((u:Int),wd) (aAn es (aAg r) 0 i)))/\Hid (TreeSt wr gw (Value.ownBlock (.slice A1 n1 c1)) n a6 (aAN es ((aAg r).take j) ((u:Int),wd) (aAn es (aAg r) 0 i)))/\Hid (RV wr L4 H4 A4 (aAe (aAg r)))/\Hid (∀ g,Value.ownBlock (.slice A1 n1 c1)=some g->g<L4 \/ H4<=g)/\Box wr w.heap.size [.int .i64 r,.int .i64 n,.slice A es.length c]/\Mid 0 0 w wr) (fun _ j _=>LL - (intOf j).toNat)
  case atStart=>exact⟨0,n1,_,c1,a6,bs,oZ,rfl,rfl,by rw[List.take_zero];exact HN,by rw[List.take_zero];exact HQ,HW,HS,by rw[List.take_zero];exact HM,by rw[List.take_zero];exact HT,aI,HD,bx,hm⟩
  clear HQ HW HS HM HT aI HD bx hm;obtain⟨j,n1,A1,c1,a6,bs,hj,rfl,rfl,HN,HQ,HW,HS,HM,HT,aI,HD,bx,hm⟩:=hrel;obtain⟨aK,aJ⟩:∃ st,aAN es ((aAg r).take j) ((u:Int),wd) (aAn es (aAg r) 0 i)=st:=⟨_,rfl⟩
  have bg:BfsOk n (aAg r) aK:=by rw[<- aJ];exact BfsOk.row HG.out.all _ (fun x hx=>List.mem_of_mem_take hx) cU.out HP.out
  have bh:aK[i]?=some ((u:Int),wd):=by rw[<- aJ];exact aCr (aCn _ _ _ _) HP.out
  rw[aJ] at HN HQ HM HT;have db:n1<=40:=by have h1:=bg.len oO;have h2:=HN.out;omega
  by_cases hlt2:j<LL
  .obtain⟨B4,o4,x,rfl,dU,hx,ci⟩:=aI.out.at (k:=j) (by rw[cT.out];exact hlt2)
   have e5:=aIn (oG hx);have ab:=aEL (es:=es) (p:=((u:Int),wd)) (st:=aAn es (aAg r) 0 i) hx;rw[aJ] at ab;simp only at ab;have dt:(0:Int)<=(j:Int):=by omega
   have du:(j:Int)<(LL:Int):=by omega
   have dr:i<n1:=by have h1:=(List.getElem?_eq_some_iff.1 bh).1;have h2:=HN.out;omega
   have dq:(i:Int)<(n1:Int):=by omega
   obtain⟨g1,rfl,dm,cG⟩:=aAS HQ.out (show 0<n1 by omega);have cg:wr.cell? ⟨g1,i,none⟩=some (.int .i64 u):=(HQ.out.cellAt i oO).trans (by rw[aAP,List.getElem?_map,bh];rfl);have cD:B4<wr.heap.size:=oT dU aI.out.1;have bU:=aCf HG.out.all (u:Int) x;obtain⟨bw,cw,cy,ad⟩:=HT.out.word (oG bh);simp only[Int.toNat_natCast] at cy ad;have dk:=oH cy;have d5:=oH bg;have dT:=oH hx;have dS:=oH bh;have d2:=oH ci;have d1:=oH cg;have k0:=aAf bx.1 (bx.cell 0 rfl);have k1:=aAf bx.1 (bx.cell 1 rfl);have k2:=aAf bx.1 (bx.cell 2 rfl);have k3:=aAf cG cg;have k4:=aAf cD ci;have hA:=fun m os=>aBL r n A es c u x (wg wr m os) lo hi (hr.mid (hm.trans (Mid.ofWg wr m os)) oZl) oO dQ.out oO oO;clear hx bg bh aJ cg ci cy;go_wp2_with fail;refine wqg ?_;repeat
    (with_reducible refine wpQuiet_step (fun K hK=>?_))
    go_simp
    first|(with_reducible refine hK _ ?_)|(rw[if_neg oD];(with_reducible refine hK _ ?_))|(apply Exists.intro;refine⟨fun _=>?_,hK _ ?_⟩;((go_at_call 129;exact Calls.wg_of (hA _ _))))
    clear hK K
   with_reducible refine wpQuiet_nil ?_
   rintro _ ⟨⟨nq,osq⟩,rfl⟩;have ae:=Mid.ofWg wr nq osq;have cR:=oH (aAa ae cD oZr d2.out);have c0:=oH (aAa ae cG oZr d1.out);generalize wg wr nq osq=w6 at ae cR c0 |-;have df:=ae.size;replace bx:=bx.mid ae oZr;replace hm:=hm.trans ae;replace HQ:=oH (aAb HQ.out ae oZl);replace HW:=oH (aAb HW.out ae oZl);replace HS:=oH (aAb HS.out ae oZl);replace HT:=oH (HT.out.mid (a:=0) (b:=0) ae);replace aI:=oH (aI.out.mid ae oZl);replace ad:=(ad.mid ae oZl).wide oN ae.size oN;generalize htx:aAr es (u:Int) x=tt at ab bU |-;clear k0 k1 k2 k3 k4 hA d2 d1;by_cases ht0:tt<0
   .have b1:decide (0<=tt)=false:=by simp;omega
    have a9:=oH (ab.trans (by rw[aAx,htx,if_pos (.inl ht0)]:aAx es (u:Int) wd aK x=aK));clear ab bU ht0 htx ad;go_wp2_with fail;go_roundw
    case rel=>exact⟨j+1,n1,_,c1,a6,bs,oO,by go_num,rfl,by rw[a9.out];exact HN,by rw[a9.out];exact HQ,HW,HS,by rw[a9.out];exact HM,by rw[a9.out];exact HT,aI,HD,bx,hm⟩
    simp[intOf];omega
   obtain⟨tn,rfl⟩:∃ tn:Nat,tt=tn:=⟨tt.toNat,oO⟩
   have bu:tn<n:=by omega
   have dy:(tn:Int)<(n:Int):=by omega
   have dz:(0:Int)<=(tn:Int):=by omega
   have b1:decide (0<=(tn:Int))=true:=by simp
   have cF:w6.cell? ⟨gs,tn,none⟩=some (.bool (decide ((tn:Int)∈aK.map Prod.fst))):=(HS.out.cellAt tn oO).trans (HM.out.2 tn bu);clear bU ht0;by_cases hmem:(tn:Int)∈aK.map Prod.fst
   .rw[decide_eq_true hmem] at cF
    have a9:=oH (ab.trans (by rw[aAx,htx,if_pos (.inr hmem)]:aAx es (u:Int) wd aK x=aK));clear ab htx hmem ad;go_wp2_with fail;go_roundw
    case rel=>exact⟨j+1,n1,_,c1,a6,bs,oO,by go_num,rfl,by rw[a9.out];exact HN,by rw[a9.out];exact HQ,HW,HS,by rw[a9.out];exact HM,by rw[a9.out];exact HT,aI,HD,bx,hm⟩
    simp[intOf];omega
   rw[decide_eq_false hmem] at cF;have a9:=oH (ab.trans (by rw[aAx,htx,if_neg (fun h=>h.elim (fun h=>by omega) hmem)]:aAx es (u:Int) wd aK x=aK++[((tn:Int),wd++[x])]));have b4:=oH hmem;have dZ:=HS.out.frozenAt tn;clear ab htx hmem;have cE:∃ b,w6.cell? ⟨gs,0,none⟩=some (.bool b):=⟨_,(HS.out.cellAt 0 oO).trans (HM.out.2 0 oO)⟩
   have bt:=oU w6 gs tn (.bool true);have cY:=oH (HT.out.other (tt:=tn) (v:=.bool true) cE);have cW:=oH (aBF HS.out tn (.bool true) rfl);have d4:=oH (HM.out.set (wd:=wd++[x]) bu);have cZ:=oH (aAb HW.out bt oL);have cV:=oH (aAb HQ.out bt oL);have cS:=oH (aI.out.mid bt);have ca:=bx.mid bt (Or.inl cs);have cm:=hm.storeNew (p:=⟨gs,tn,none⟩) (by show w.heap.size<=gs;omega) (.bool true);have bW:=aAa bt (show g1<w6.heap.size by omega) oR c0.out;have cx:(w6.setCell ⟨gs,tn,none⟩ (.bool true)).heap.size=w6.heap.size:=by simp[World.setCell]
   clear ad HQ HS HW HT aI bx hm bt cE;go_wp2_with fail;generalize w6.setCell ⟨gs,tn,none⟩ (.bool true)=w7 at cY cW cZ cV cS ca cm bW cx |-;have b3:=Mid.drew1 w7;have bC:=oH (cY.out.mid (a:=0) (b:=0) b3);have c7:=oH (aAb cW.out b3 oZl);have bO:=oH (aAb cZ.out b3 oZl);have bJ:=oH (aAb cV.out b3 oZl);have bo:=oH (cS.out.mid b3 oZl);have cA:=ca.mid b3 oZr;have cJ:=cm.trans b3;have de:=b3.size;have bl:=aAa b3 (show g1<w7.heap.size by omega) oZr bW;obtain⟨bp,bq,bk,bi⟩:=bC.out.word (oG dS.out);simp only[Int.toNat_natCast] at bk bi;have bm:(World.drew w7).cell? ⟨gw,u,none⟩=some (.slice (some ⟨bp,0,none⟩) wd.length bq):=(bO.out.cellAt u oO).trans bk;have bn:(World.drew w7).cell? ⟨B4,o4+j,none⟩=some (.int .i64 x):=by
    obtain⟨B',o',x',cc, -,cQ,dY⟩:=bo.out.at (k:=j) (by rw[cT.out];exact hlt2);injection cc with cc
    injection cc with e1 e2
    subst e1 e2;rw[dT.out] at cQ;injection cQ with cQ
    subst cQ;exact dY
   have aQ:g1<(World.drew w7).heap.size:=by omega
   have aS:gw<(World.drew w7).heap.size:=(bO.out.lt _ rfl).2;have aU:B4<(World.drew w7).heap.size:=by omega
   have bj:=bi.wide (lo':=0) (hi':=(World.drew w7).heap.size) oZ oN oN;have e0:(0:Int)<=(u:Int):=by omega
   have e3:(u:Int)<(n:Int):=by omega
   have bZ:(aAe wd).length=wd.length * 1:=by rw[aAB];omega
   have az:∀ u∈[Value.int .i64 x],u.oneCell'=true:=by
    intro u hu;simp at hu;subst hu
    rfl
   have be:wd.length+1<=maxLen:=by unfold maxLen;omega
   have bS:(wd.length+1) * 8<=140737488355328:=by omega
   have bf:0+wd.length<=maxLen:=by unfold maxLen;omega
   have bT:(0+wd.length) * 8<=140737488355328:=by omega
   clear cY cW cZ cV cS ca cm bW b3 bk bi;refine aAo (S:=(fun w'=>w'.cell? ⟨g1,i,none⟩=some (.int .i64 (u:Int))/\w'.cell? ⟨gw,u,none⟩=some (.slice (some ⟨bp,0,none⟩) wd.length bq)/\w'.cell? ⟨B4,o4+j,none⟩=some (.int .i64 x))) [18] oK ⟨bl,bm,bn⟩ ?_;generalize World.drew w7=wz at bC c7 bO bJ bo cA cJ de bl bm bn aQ aS aU bj |-;have aY:wz.cell? ⟨g1,i,none⟩=some (.int .i64 (u:Int))/\wz.cell? ⟨gw,u,none⟩=some (.slice (some ⟨bp,0,none⟩) wd.length bq)/\wz.cell? ⟨B4,o4+j,none⟩=some (.int .i64 x):=⟨bl,bm,bn⟩
   refine tkZ [17,18] 0 rfl aY ?_;try simp only[oP]
   refine tkZ [17,18] 1 rfl aY ?_;try simp only[oP]
   refine tkZ [8,9,10,16,18] 3 rfl aY ?_;try simp only[oP]
   refine tkZ [6,7,8,9,10,16,18] 4 rfl aY ?_;try simp only[oP]
   refine tkZ [6,7,8,9,10,16,18] 5 rfl aY ?_;try simp only[oP]
   refine tkZ [7,8,9,10,16,18] 6 rfl aY ?_;try simp only[oP]
   refine tkZ [8,9,10,16,18] 7 rfl aY ?_;try simp only[oP]
   refine tkZ [9,10,16,18] 8 rfl aY ?_;try simp only[oP]
   refine tkZ [10,16,18] 9 rfl aY ?_;try simp only[oP]
   refine tkZ [13,14,15,16,18] 11 rfl aY ?_;try simp only[oP]
   refine tkZ [13,14,15,16,18] 12 rfl aY ?_;try simp only[oP]
   refine tkZ [14,15,16,18] 13 rfl aY ?_;try simp only[oP]
   refine tkZ [15,16,18] 14 rfl aY ?_;try simp only[oP]
   clear aY;refine aBb (rs:=[2,15]) oK oM (AllReadyZ.cons rfl (fun K hK=>?_) (AllReadyZ.cons rfl (fun K hK=>?_) AllReadyZ.nil))
   .go_simp
    refine hK.out _ _ (Or.inr ⟨aAa (oE wz (.cells #[] 3)) aQ oZr bl,aAa (oE wz (.cells #[] 3)) aS oZr bm,aAa (oE wz (.cells #[] 3)) aU oZr bn⟩) (fun _=>?_);clear hK K;try simp only[oP]
    have a2:=oE wz (.cells #[] 3);have e1:=aAd wz 3 1;have am:=bj.mid a2 oZl;have an:=aAa a2 aQ oZr bl;have ao:=aAa a2 aS oZr bm;have ap:=aAa a2 aU oZr bn;have ai:g1<(wz.alloc (.cells #[] 3)).heap.size:=oT aQ a2.size;have aj:gw<(wz.alloc (.cells #[] 3)).heap.size:=oT aS a2.size;have ak:B4<(wz.alloc (.cells #[] 3)).heap.size:=oT aU a2.size;have ba:wz.heap.size<(wz.alloc (.cells #[] 3)).heap.size:=by simp
    generalize wz.alloc (.cells #[] 3)=wa at a2 e1 am an ao ap ai aj ak ba |-;have aa:wz.heap.size<=wa.heap.size:=by omega
    refine aBb (rs:=[10,15]) oK oM (AllReadyZ.cons rfl (fun K hK=>?_) (AllReadyZ.cons rfl (fun K hK=>?_) AllReadyZ.nil));focus
     (refine aAV (by rfl) (.tmp 67) (.tmp 74) 44 (by rfl) wz.heap.size 3 (.int .i64 0) 1 8 aBo aBs rfl oD _ 0 _ (by rfl) e1 (some ⟨bp,0,none⟩) wd.length bq _ (aAe wd) (by rfl) am.rs bZ (aAm _) bf bT aa ?_;intro v3 a8 aZ a0 ar;obtain⟨A3x,cC,rfl, -, -⟩:=aAc aZ)
     refine hK.out _ _ (Or.inr ⟨aAa (oF e1 a0) ai (Or.inl aQ) an,aAa (oF e1 a0) aj (Or.inl aS) ao,aAa (oF e1 a0) ak (Or.inl aU) ap⟩) (fun _=>?_);clear hK K;try simp only[oP]
     try rw[Nat.zero_add,List.nil_append] at aZ
     try rw[Nat.zero_add]
     have bd:=a2.transNew (oF e1 a0) (Or.inl oN);have af:=aAa (oF e1 a0) ai (Or.inl aQ) an;have ag:=aAa (oF e1 a0) aj (Or.inl aS) ao;have ah:=aAa (oF e1 a0) ak (Or.inl aU) ap;have aP:g1<a8.heap.size:=oT ai (oF e1 a0).size;have aR:gw<a8.heap.size:=oT aj (oF e1 a0).size;have aT:B4<a8.heap.size:=oT ak (oF e1 a0).size;clear a2 e1 am a0 ar aa an ao ap;refine rdZ 15 rfl (fun K hK=>?_);go_simp;refine hK.out _ _ (Or.inr ⟨aAa (oE a8 (.cells #[x] 3)) aP oZr af,aAa (oE a8 (.cells #[x] 3)) aR oZr ag,aAa (oE a8 (.cells #[x] 3)) aT oZr ah⟩) (fun _=>?_);clear hK K;try simp only[oP]
     have a1:=oE a8 (.cells #[x] 3);have b9:=aAa a1 aP oZr af;have bA:=aAa a1 aR oZr ag;have bB:=aAa a1 aT oZr ah;have b5:g1<(a8.alloc (.cells #[x] 3)).heap.size:=oT aP a1.size;have b7:gw<(a8.alloc (.cells #[x] 3)).heap.size:=oT aR a1.size;have b8:B4<(a8.alloc (.cells #[x] 3)).heap.size:=oT aT a1.size;have al:=bd.trans a1;have a3:=aZ.alloc (.cells #[x] 3);have aD:=aGy (w:=a8.alloc (.cells #[x] 3)) (p:=a8.heap.size) (v:=.int .i64 x) (World.cell?_alloc_at _ _ _ _ rfl);generalize a8.alloc (.cells #[x] 3)=wc at a1 al a3 aD b9 bA bB b5 b7 b8 |-;clear a1 aZ bd af ag ah;refine rdZ 16 rfl (fun K hK=>?_)
     (refine aAV (by rfl) (.tmp 75) (.tmp 80) 44 (by rfl) wz.heap.size 3 (.int .i64 0) 1 8 aBo aBs rfl oD (.slice A3x wd.length cC) wd.length _ (by rfl) a3 (some ⟨a8,0,none⟩) 1 1 _ [x] (by rfl) aD rfl az be bS al.size ?_;intro v9 w9 ay a5 b6;obtain⟨A9x,aX,rfl, -, -⟩:=aAc ay)
    rotate_left
    focus
     go_simp;refine hK.out _ _ (Or.inr ⟨aAa (oE wa (.cells #[x] 3)) ai oZr an,aAa (oE wa (.cells #[x] 3)) aj oZr ao,aAa (oE wa (.cells #[x] 3)) ak oZr ap⟩) (fun _=>?_);clear hK K;try simp only[oP]
     have a1:=oE wa (.cells #[x] 3);have af:=aAa a1 ai oZr an;have ag:=aAa a1 aj oZr ao;have ah:=aAa a1 ak oZr ap;have aP:g1<(wa.alloc (.cells #[x] 3)).heap.size:=oT ai a1.size;have aR:gw<(wa.alloc (.cells #[x] 3)).heap.size:=oT aj a1.size;have aT:B4<(wa.alloc (.cells #[x] 3)).heap.size:=oT ak a1.size;have co:=a2.trans a1;replace e1:=e1.alloc (.cells #[x] 3);replace am:=am.mid a1 oZl;have c8:(wa.alloc (.cells #[x] 3)).cell? ⟨wa,0,none⟩=some (.int .i64 x):=World.cell?_alloc_at _ _ _ _ rfl;have au:wa.heap.size<(wa.alloc (.cells #[x] 3)).heap.size:=by simp
     generalize wa.alloc (.cells #[x] 3)=wb at a1 co e1 am c8 af ag ah aP aR aT au |-;replace aa:wz.heap.size<=wb.heap.size:=by omega
     clear a2 a1 an ao ap;refine rdZ 10 rfl (fun K hK=>?_)
     (refine aAV (by rfl) (.tmp 67) (.tmp 74) 44 (by rfl) wz.heap.size 3 (.int .i64 0) 1 8 aBo aBs rfl oD _ 0 _ (by rfl) e1 (some ⟨bp,0,none⟩) wd.length bq _ (aAe wd) (by rfl) am.rs bZ (aAm _) bf bT aa ?_;intro v3 a8 aZ a0 ar;obtain⟨A3x,cC,rfl, -, -⟩:=aAc aZ)
     refine hK.out _ _ (Or.inr ⟨aAa (oF e1 a0) aP (Or.inl aQ) af,aAa (oF e1 a0) aR (Or.inl aS) ag,aAa (oF e1 a0) aT (Or.inl aU) ah⟩) (fun _=>?_);clear hK K;try simp only[oP]
     try rw[Nat.zero_add,List.nil_append] at aZ
     try rw[Nat.zero_add]
     have b9:=aAa (oF e1 a0) aP (Or.inl aQ) af;have bA:=aAa (oF e1 a0) aR (Or.inl aS) ag;have bB:=aAa (oF e1 a0) aT (Or.inl aU) ah;have b5:g1<a8.heap.size:=oT aP (oF e1 a0).size;have b7:gw<a8.heap.size:=oT aR (oF e1 a0).size;have b8:B4<a8.heap.size:=oT aT (oF e1 a0).size;have al:=co.transNew (oF e1 a0) (Or.inl oN);have a3:=aZ;have aD:=aGy (aGa a0 au (aPI oO) c8);generalize a8=wc at al a3 aD b9 bA bB b5 b7 b8 |-;clear co e1 am c8 a0 ar aZ af ag ah;refine rdZ 16 rfl (fun K hK=>?_)
     (refine aAV (by rfl) (.tmp 75) (.tmp 80) 44 (by rfl) wz.heap.size 3 (.int .i64 0) 1 8 aBo aBs rfl oD (.slice A3x wd.length cC) wd.length _ (by rfl) a3 (some ⟨wa,0,none⟩) 1 1 _ [x] (by rfl) aD rfl az be bS al.size ?_;intro v9 w9 ay a5 b6;obtain⟨A9x,aX,rfl, -, -⟩:=aAc ay)
    rotate_left
    all_goals
     refine hK.out _ _ (Or.inr ⟨aAa (oF a3 a5) b5 (Or.inl aQ) b9,aAa (oF a3 a5) b7 (Or.inl aS) bA,aAa (oF a3 a5) b8 (Or.inl aU) bB⟩) (fun _=>?_);clear hK K;try simp only[oP]
     have aV:=al.transNew (oF a3 a5) (Or.inl oN);have cM:=aAa (oF a3 a5) b5 (Or.inl aQ) b9;have cN:=aAa (oF a3 a5) b7 (Or.inl aS) bA;have cO:=aAa (oF a3 a5) b8 (Or.inl aU) bB;obtain⟨g9,rfl,cj,bY⟩:=aAS ay (Nat.succ_pos _);have bz:Hid (∀ jj uu,(aAe (wd++[x]))[jj]?=some uu->w9.cell? ⟨g9,jj,none⟩=some uu):=oH (fun jj uu hu=>by
      have cI:=(List.getElem?_eq_some_iff.1 hu).1;rw[aAB,List.length_append] at cI;rw[aAi] at hu;exact(ay.cellAt jj (by simp at cI;omega)).trans hu)
     have aq:=oH (aAb bO.out aV oZl);have c9:=oH (bC.out.mid (a:=0) (b:=0) aV);have bL:=oH (aAb c7.out aV oZl);have c6:=oH (aAb bJ.out aV oZl);have c5:=oH (bo.out.mid aV oZl);have cB:=cA.mid aV oZr;have av:=cJ.trans aV;have b2:=bC.out.off tn bu b4.out;have bV:w9.cell? ⟨gw,tn,none⟩=some (.slice none 0 0):=(aq.out.cellAt tn oO).trans b2;have bX:=aq.out.frozenAt tn;have dd:=(bJ.out.lt g1 rfl).2;clear ay a5 b6 a3 aD al bO bC c7 bJ bo cA cJ b2;have aw:=oU w9 gw tn (.slice (some ⟨g9,0,none⟩) (wd.length+1) aX);have bP:=c9.out.set (t:=tn) (b:=g9) (c:=aX) (wd:=wd++[x]) bu b4.out (fun p hp=>(d5.out.rng p hp).1) bz.out oO (fun e=>by have:=Option.some.inj (show some g1=some g9 from e);omega) bY;rw[show(wd++[x]).length=wd.length+1 by simp] at bP;have aL:=oH bP;have aH:=oH (aBF aq.out tn (.slice (some ⟨g9,0,none⟩) (wd.length+1) aX) rfl);have aG:=oH (bL.out.kept (aAZ w9 gw tn (.slice (some ⟨g9,0,none⟩) (wd.length+1) aX)) (aBd bL.out aq.out oD));have aA:=oH (aAb c6.out aw (Or.inl oN));have aF:=oH (c5.out.mid aw);have aM:=cB.mid aw;have aC:=av.storeNew (p:=⟨gw,tn,none⟩) (by show w.heap.size<=gw;omega) (.slice (some ⟨g9,0,none⟩) (wd.length+1) aX);have b0:=aw.size;clear bP aq bL c6 c5 cB av c9 bz aw;refine rdZ 17 rfl (fun K hK=>?_);go_simp;refine hK.out _ _ (Or.inr ⟨cM,cN,cO⟩) (fun _=>?_);clear hK K;try simp only[oP]
     clear cM cN cO;refine rdZ 18 rfl (fun K hK=>?_);go_simp;refine hK.out _ _ (Or.inl oM) (fun _=>?_);clear hK K;try simp only[oP]
     generalize w9.setCell ⟨gw,tn,none⟩ (.slice (some ⟨g9,0,none⟩) (wd.length+1) aX)=w10 at aL aH aG aA aF aM aC b0 |-;clear bV bX;refine aAj oK ?_ _;go_wp2_with (at_builtin;refine MarkerX.to ?_)
     unfold MarkerX;refine aBp rfl _ _ rfl (gw+1) _ n1 c1 (aK.map Prod.fst) rfl aA.out tn rfl oO oO ?_;intro A11 bR dj aW a4 aB;have ax:(aK++[((tn:Int),wd++[x])]).map Prod.fst=aK.map Prod.fst++[(tn:Int)]:=by simp
     rw[<- ax,<- a9.out] at aW;have bI:=oH aW;have bN:=oH (aH.out.kept a4 (aBd aH.out aA.out oD));have bK:=oH (aG.out.kept a4 (aBd aG.out aA.out oD));have aO:=aL.out.grow a4 (oB':=Value.ownBlock (.slice A11 (n1+1) bR)) (aB.imp id fun h=>⟨_,h,oO⟩);rw[<- a9.out] at aO;have bM:=oH aO;have aN:=d4.out;rw[<- a9.out] at aN;have bG:=oH aN;have bF:=oH (aF.out.grown a4 HD.out);have bQ:=aM.grown a4 (by intro h0;have:=Option.some.inj (show some g1=some w from h0);omega);have bc:=aC.grownNew a4 (fun g hg=>by have:=Option.some.inj (show some g1=some g from hg);omega);have bH:Hid ((aAN es ((aAg r).take (j+1)) ((u:Int),wd) (aAn es (aAg r) 0 i)).length=n1+1):=oH (by rw[a9.out,List.length_append,HN.out];rfl);have cd:H4<=w10.heap.size:=aF.out.1;have bE:Hid (∀ g,Value.ownBlock (.slice A11 (n1+1) bR)=some g->g<L4 \/ H4<=g):=oH (by
      intro g hg;rcases aB with h|h
      .exact HD.out g (h.symm.trans hg)
      .rw[h] at hg
       have:=Option.some.inj hg;omega)
     clear aW a4 aB ax aO aN aA aH aG aL aF aM aC HD;go_wp2_with fail;go_roundw
     case rel=>exact⟨j+1,n1+1,A11,bR,_,_,oO,by go_num,rfl,bH,bI,bN,bK,bG,bM,bF,bE,bQ,bc⟩
     simp[intOf];omega
   go_simp;refine hK.out _ _ (Or.inr ⟨aAa (oE wz (.cells #[x] 3)) aQ oZr bl,aAa (oE wz (.cells #[x] 3)) aS oZr bm,aAa (oE wz (.cells #[x] 3)) aU oZr bn⟩) (fun _=>?_);clear hK K;try simp only[oP]
   have a1:=oE wz (.cells #[x] 3);have af:=aAa a1 aQ oZr bl;have ag:=aAa a1 aS oZr bm;have ah:=aAa a1 aU oZr bn;have aP:g1<(wz.alloc (.cells #[x] 3)).heap.size:=oT aQ a1.size;have aR:gw<(wz.alloc (.cells #[x] 3)).heap.size:=oT aS a1.size;have aT:B4<(wz.alloc (.cells #[x] 3)).heap.size:=oT aU a1.size;have cq:=bj.mid a1 oZl;have c8:(wz.alloc (.cells #[x] 3)).cell? ⟨wz,0,none⟩=some (.int .i64 x):=World.cell?_alloc_at _ _ _ _ rfl;have au:wz.heap.size<(wz.alloc (.cells #[x] 3)).heap.size:=by simp
   generalize wz.alloc (.cells #[x] 3)=wb at a1 cq c8 af ag ah aP aR aT au |-;refine rdZ 2 rfl (fun K hK=>?_);go_simp;refine hK.out _ _ (Or.inr ⟨aAa (oE wb (.cells #[] 3)) aP oZr af,aAa (oE wb (.cells #[] 3)) aR oZr ag,aAa (oE wb (.cells #[] 3)) aT oZr ah⟩) (fun _=>?_);clear hK K;try simp only[oP]
   have a2:=oE wb (.cells #[] 3);have e1:=aAd wb 3 1;have am:=cq.mid a2 oZl;have cb:=aAa a2 au oZr c8;have an:=aAa a2 aP oZr af;have ao:=aAa a2 aR oZr ag;have ap:=aAa a2 aT oZr ah;have ai:g1<(wb.alloc (.cells #[] 3)).heap.size:=oT aP a2.size;have aj:gw<(wb.alloc (.cells #[] 3)).heap.size:=oT aR a2.size;have ak:B4<(wb.alloc (.cells #[] 3)).heap.size:=oT aT a2.size;have cn:=a1.trans a2;have ba:wb.heap.size<(wb.alloc (.cells #[] 3)).heap.size:=by simp
   generalize wb.alloc (.cells #[] 3)=wa at a2 e1 am cb an ao ap ai aj ak cn ba |-;have aa:wb.heap.size<=wa.heap.size:=by omega
   clear a1 a2 cq c8;refine rdZ 10 rfl (fun K hK=>?_)
   (refine aAV (by rfl) (.tmp 67) (.tmp 74) 44 (by rfl) wb.heap.size 3 (.int .i64 0) 1 8 aBo aBs rfl oD _ 0 _ (by rfl) e1 (some ⟨bp,0,none⟩) wd.length bq _ (aAe wd) (by rfl) am.rs bZ (aAm _) bf bT aa ?_;intro v3 a8 aZ a0 ar;obtain⟨A3x,cC,rfl, -, -⟩:=aAc aZ)
   refine hK.out _ _ (Or.inr ⟨aAa (oF e1 a0) ai (Or.inl aP) an,aAa (oF e1 a0) aj (Or.inl aR) ao,aAa (oF e1 a0) ak (Or.inl aT) ap⟩) (fun _=>?_);clear hK K;try simp only[oP]
   try rw[Nat.zero_add,List.nil_append] at aZ
   try rw[Nat.zero_add]
   have b9:=aAa (oF e1 a0) ai (Or.inl aP) an;have bA:=aAa (oF e1 a0) aj (Or.inl aR) ao;have bB:=aAa (oF e1 a0) ak (Or.inl aT) ap;have b5:g1<a8.heap.size:=oT ai (oF e1 a0).size;have b7:gw<a8.heap.size:=oT aj (oF e1 a0).size;have b8:B4<a8.heap.size:=oT ak (oF e1 a0).size;have al:=cn.transNew (oF e1 a0) oL;have a3:=aAh aZ (show wz.heap.size<=wb.heap.size by omega);have aD:=aGy (aGa a0 (show wz.heap.size<wa.heap.size by omega) (aPI oO) cb);generalize a8=wc at al a3 aD b9 bA bB b5 b7 b8 |-;clear e1 am cb cn a0 ar aZ an ao ap af ag ah;refine rdZ 16 rfl (fun K hK=>?_)
   (refine aAV (by rfl) (.tmp 75) (.tmp 80) 44 (by rfl) wz.heap.size 3 (.int .i64 0) 1 8 aBo aBs rfl oD (.slice A3x wd.length cC) wd.length _ (by rfl) a3 (some ⟨wz,0,none⟩) 1 1 _ [x] (by rfl) aD rfl az be bS al.size ?_;intro v9 w9 ay a5 b6;obtain⟨A9x,aX,rfl, -, -⟩:=aAc ay)
   refine hK.out _ _ (Or.inr ⟨aAa (oF a3 a5) b5 (Or.inl aQ) b9,aAa (oF a3 a5) b7 (Or.inl aS) bA,aAa (oF a3 a5) b8 (Or.inl aU) bB⟩) (fun _=>?_);clear hK K;try simp only[oP]
   have aV:=al.transNew (oF a3 a5) (Or.inl oN);have cM:=aAa (oF a3 a5) b5 (Or.inl aQ) b9;have cN:=aAa (oF a3 a5) b7 (Or.inl aS) bA;have cO:=aAa (oF a3 a5) b8 (Or.inl aU) bB;obtain⟨g9,rfl,cj,bY⟩:=aAS ay (Nat.succ_pos _);have bz:Hid (∀ jj uu,(aAe (wd++[x]))[jj]?=some uu->w9.cell? ⟨g9,jj,none⟩=some uu):=oH (fun jj uu hu=>by
    have cI:=(List.getElem?_eq_some_iff.1 hu).1;rw[aAB,List.length_append] at cI;rw[aAi] at hu;exact(ay.cellAt jj (by simp at cI;omega)).trans hu)
   have aq:=oH (aAb bO.out aV oZl);have c9:=oH (bC.out.mid (a:=0) (b:=0) aV);have bL:=oH (aAb c7.out aV oZl);have c6:=oH (aAb bJ.out aV oZl);have c5:=oH (bo.out.mid aV oZl);have cB:=cA.mid aV oZr;have av:=cJ.trans aV;have b2:=bC.out.off tn bu b4.out;have bV:w9.cell? ⟨gw,tn,none⟩=some (.slice none 0 0):=(aq.out.cellAt tn oO).trans b2;have bX:=aq.out.frozenAt tn;have dd:=(bJ.out.lt g1 rfl).2;clear ay a5 b6 a3 aD al bO bC c7 bJ bo cA cJ b2;have aw:=oU w9 gw tn (.slice (some ⟨g9,0,none⟩) (wd.length+1) aX);have bP:=c9.out.set (t:=tn) (b:=g9) (c:=aX) (wd:=wd++[x]) bu b4.out (fun p hp=>(d5.out.rng p hp).1) bz.out oO (fun e=>by have:=Option.some.inj (show some g1=some g9 from e);omega) bY;rw[show(wd++[x]).length=wd.length+1 by simp] at bP;have aL:=oH bP;have aH:=oH (aBF aq.out tn (.slice (some ⟨g9,0,none⟩) (wd.length+1) aX) rfl);have aG:=oH (bL.out.kept (aAZ w9 gw tn (.slice (some ⟨g9,0,none⟩) (wd.length+1) aX)) (aBd bL.out aq.out oD));have aA:=oH (aAb c6.out aw (Or.inl oN));have aF:=oH (c5.out.mid aw);have aM:=cB.mid aw;have aC:=av.storeNew (p:=⟨gw,tn,none⟩) (by show w.heap.size<=gw;omega) (.slice (some ⟨g9,0,none⟩) (wd.length+1) aX);have b0:=aw.size;clear bP aq bL c6 c5 cB av c9 bz aw;refine rdZ 17 rfl (fun K hK=>?_);go_simp;refine hK.out _ _ (Or.inr ⟨cM,cN,cO⟩) (fun _=>?_);clear hK K;try simp only[oP]
   clear cM cN cO;refine rdZ 18 rfl (fun K hK=>?_);go_simp;refine hK.out _ _ (Or.inl oM) (fun _=>?_);clear hK K;try simp only[oP]
   generalize w9.setCell ⟨gw,tn,none⟩ (.slice (some ⟨g9,0,none⟩) (wd.length+1) aX)=w10 at aL aH aG aA aF aM aC b0 |-;clear bV bX;refine aAj oK ?_ _;go_wp2_with (at_builtin;refine MarkerX.to ?_)
   unfold MarkerX;refine aBp rfl _ _ rfl (gw+1) _ n1 c1 (aK.map Prod.fst) rfl aA.out tn rfl oO oO ?_;intro A11 bR dj aW a4 aB;have ax:(aK++[((tn:Int),wd++[x])]).map Prod.fst=aK.map Prod.fst++[(tn:Int)]:=by simp
   rw[<- ax,<- a9.out] at aW;have bI:=oH aW;have bN:=oH (aH.out.kept a4 (aBd aH.out aA.out oD));have bK:=oH (aG.out.kept a4 (aBd aG.out aA.out oD));have aO:=aL.out.grow a4 (oB':=Value.ownBlock (.slice A11 (n1+1) bR)) (aB.imp id fun h=>⟨_,h,oO⟩);rw[<- a9.out] at aO;have bM:=oH aO;have aN:=d4.out;rw[<- a9.out] at aN;have bG:=oH aN;have bF:=oH (aF.out.grown a4 HD.out);have bQ:=aM.grown a4 (by intro h0;have:=Option.some.inj (show some g1=some w from h0);omega);have bc:=aC.grownNew a4 (fun g hg=>by have:=Option.some.inj (show some g1=some g from hg);omega);have bH:Hid ((aAN es ((aAg r).take (j+1)) ((u:Int),wd) (aAn es (aAg r) 0 i)).length=n1+1):=oH (by rw[a9.out,List.length_append,HN.out];rfl);have cd:H4<=w10.heap.size:=aF.out.1;have bE:Hid (∀ g,Value.ownBlock (.slice A11 (n1+1) bR)=some g->g<L4 \/ H4<=g):=oH (by
    intro g hg;rcases aB with h|h
    .exact HD.out g (h.symm.trans hg)
    .rw[h] at hg
     have:=Option.some.inj hg;omega)
   clear aW a4 aB ax aO aN aA aH aG aL aF aM aC HD;go_wp2_with fail;go_roundw
   case rel=>exact⟨j+1,n1+1,A11,bR,_,_,oO,by go_num,rfl,bH,bI,bN,bK,bG,bM,bF,bE,bQ,bc⟩
   simp[intOf];omega
  obtain rfl:j=LL:=by omega
  have dg:(aAg r).take j=aAg r:=List.take_of_length_le (by rw[cT.out];exact oN);rw[dg] at aJ;have ab:=dW.out;rw[aJ] at ab;have a9:=oH ab;have ck:i+1<=n1:=by have h1:=(List.getElem?_eq_some_iff.1 bh).1;have h2:=HN.out;omega
  clear ab aJ bh;go_wp2_with fail;go_roundw
  case rel=>exact⟨i+1,n1,A1,c1,a6,bs,ck,by go_num,rfl,by rw[a9.out];exact HN,by rw[a9.out];exact HQ,HW,HS,by rw[a9.out];exact HM,by rw[a9.out];exact HT,aI,HD,bx,hm⟩
  simp[intOf];omega
 obtain rfl:i=n1:=by omega
 have dC:=aPk (L:=aAg r) HG.out.all dN dO oO HN.out;have d0:=oH dC;clear dC;go_wp2_with fail;go_ret2;exact⟨gs,gw,bs,a6,_,rfl,hm,aAh HS.out oO,by rw[d0.out];exact HM.out,aAh HW.out oO,by rw[d0.out];exact HT.out⟩
theorem aMB(r n v:Nat)(A:OA)(es:List Ed)(c:Nat)(w:World)(lo hi:Nat)(hr:RG w lo hi A es)(a2:IsCor r n es)(hv:v<n) :
  Calls Tryz.prog 273 #[aAJ r n A es.length c,.int .i64 0,.int .i64 v] w fun e w'=>∃ A1 c1,e=.returned (.tuple #[.slice A1 (wordV r es v).length c1,.bool true])/\w'.ownsRow w.heap.size 3 1 (.slice A1 (wordV r es v).length c1) (wordV r es v).length (aAe (wordV r es v))/\Mid 0 0 w w':=by
 have aR:0<n:=by omega
 have aS:n<=40:=by have:=a2.gr.size;omega
 have hl:=a2.gr.len;have aG:=oH a2;have a1:=aDV a2 hv;obtain⟨aT, -⟩:=aFc a2 hv;generalize hW:wordV r es (v:Int)=wd at a1 aT |-;have aH:=oH a1;clear a2 a1 hW;have a0:Mid 0 0 w (w.alloc (.cells #[r,n,.slice A es.length c] 35)):=oE _ _;have B0:=oJ w #[r,n,.slice A es.length c] 35;have a7:inB 0 0 ((n:Int) - 1)=true:=by unfold inB;simp;omega
 have a8:inB (v:Int) 0 ((n:Int) - 1)=true:=by unfold inB;simp;omega
 obtain⟨p0,p1,p2⟩:=B0.c3 rfl;go_enter Tryz.func273,Tryz.ntmps273
 go_wp2_with fail;generalize w.alloc (.cells #[r,n,.slice A es.length c] 35)=w1 at a0 B0 p0 p1 p2 |-;have aX:w.heap.size<w1.heap.size:=B0.1;with_reducible refine(aAY r n A es c w1 lo hi (hr.mid a0 oZl) oO true (oX rfl aG.out.fol)).mono ?_
 rintro en w2 ⟨rfl,a4⟩;clear p0 p1 p2;replace B0:=B0.mid a4 oZr;replace a0:=a0.trans a4;obtain⟨p0,p1,p2⟩:=B0.c3 rfl;go_wp2_with fail;with_reducible refine(aBQ a7 _).mono ?_
 rintro en w3 ⟨rfl,rfl⟩;go_wp2_with fail;with_reducible refine(aBQ a8 _).mono ?_
 rintro en w3 ⟨rfl,rfl⟩;go_wp2_with fail;with_reducible refine(aME r n A es c w2 lo hi (hr.mid a0 oZl) aG.out.gr aR).mono ?_
 rintro en w3 ⟨gs,gw,bs,aU,oB,rfl,a9,aD,aI,aF,aK⟩;have aZ:=a9.size;have aY:=a4.size;have aL:w3.cell? ⟨gs,v,none⟩=some (.bool true):=by
  have h:=(aD.cellAt v oO).trans (aI.2 v hv);rw[decide_eq_true (List.mem_map_of_mem (f:=Prod.fst) aH.out)] at h;exact h
 obtain⟨bw,cw,aE,aC⟩:=aK.word aH.out;simp only[Int.toNat_natCast] at aE aC;have aM:w3.cell? ⟨gw,v,none⟩=some (.slice (some ⟨bw,0,none⟩) wd.length cw):=(aF.cellAt v oO).trans aE;have aV:=(aD.lt gs rfl).2;have aW:=(aF.lt gw rfl).2;have aa:(0:Int)<=(v:Int):=by omega
 have ab:(v:Int)<(n:Int):=by omega
 have aB:=aAd w3 3 1;have a5:=oE w3 (.cells #[] 3);have aJ:=(aC.mid a5 oZl).rs;have aN:(aAe wd).length=wd.length * 1:=by rw[aAB];omega
 have aO:=a0.trans a9;clear p0 p1 p2 aD aI aF aK aE a9 a4 a0 B0 aC;go_wp2_with (at_builtin;refine MarkerX.to ?_)
 unfold MarkerX;refine aBY rfl _ _ 44 rfl w3 3 (.int .i64 0) 1 8 aBo aBs rfl oD _ 0 _ rfl aB (some ⟨bw,0,none⟩) wd.length cw _ (aAe wd) rfl aJ aN (aAm _) (by unfold maxLen;omega) oO oM ?_;intro v7 w7 aA a3 a6;obtain⟨A7,c7,rfl, -, -⟩:=aAc aA;rw[Nat.zero_add,List.nil_append] at aA;try rw[Nat.zero_add]
 have aP:Mid 0 0 w3 w7:=a5.transNew (oF aB a3) (Or.inl oN);have aQ:=aO.trans aP;clear a3 a6 aB a5 aJ aL aM;go_wp2_with fail;go_ret2;exact⟨A7,c7,rfl,aAh aA oO,aQ⟩
theorem aHV(r n v:Nat)(A:OA)(es:List Ed)(c:Nat)(w:World)(lo hi:Nat)(hr:RG w lo hi A es)(a1:IsCor r n es)(hv:v<n) :
  Calls Tryz.prog 256 #[aAJ r n A es.length c,.int .i64 v] w fun e w'=>∃ A1 c1,e=.returned (.slice A1 (wordV r es v).length c1)/\w'.ownsRow w.heap.size 3 1 (.slice A1 (wordV r es v).length c1) (wordV r es v).length (aAe (wordV r es v))/\Mid 0 0 w w':=by
 have a0:Mid 0 0 w (w.alloc (.cells #[r,n,.slice A es.length c] 35)):=oE _ _;have B0:=oJ w #[r,n,.slice A es.length c] 35;have hP:=aMB r n v A es c (w.alloc (.cells #[r,n,.slice A es.length c] 35)) lo hi (hr.mid a0 oZl) a1 hv;generalize wordV r es (v:Int)=wd at hP |-;obtain⟨p0,p1,p2⟩:=B0.c3 rfl;go_enter Tryz.func256,Tryz.ntmps256
 go_wp2_with fail;with_reducible refine hP.mono ?_
 rintro en w2 ⟨A1,c1,rfl,ho,hm⟩;have hb:=aAh ho (show w.heap.size<=_ by simp);go_wp2_with fail;go_ret;exact⟨A1,c1,rfl,hb,a0.trans hm⟩
theorem OI.cap{w:World}{lo hi:Nat}{A:OA}{c:Nat}{xs:LI}(h:OI w lo hi A c xs):xs.length<=c:=by
 obtain⟨A',c',he,hn, -⟩:=aAc h.2.1;injection he with _ _ hc
 omega
structure Mv where
 kind:Int
 i:Int
 j:Int
 sign:Int
deriving DecidableEq
def aVO(l:LL)(m:Mv):Prop:=0<=m.j/\m.j<l.length/\m.j≠m.i/\(m.sign=1 \/ m.sign = -1)
instance (l:List (List Int)) (m:Mv):Decidable (aVO l m):=by unfold aVO;infer_instance
theorem aUF{xs ys:LI}(h:OkI xs)(h':OkI ys):OkI (xs++ys):=fun x hx=>by
 rcases List.mem_append.1 hx with h1|h1
 .exact h x h1
 .exact h' x h1
theorem aCR(A A':OA)(xs ys:LI)(c c':Nat)(w:World)(hr:Rs w w A (aAe xs))(aH:Rs w w A' (aAe ys))(aG:OkI xs)(a6:OkI ys)(hl:xs.length+ys.length<=268435456) :
  Calls Tryz.prog 21 #[.slice A xs.length c,.slice A' ys.length c'] w fun e w'=>RetI 3 (red [] (xs++ys)) w e w':=by
 have a9:=aAd w 3 1;have aB:Below w w (w.alloc (.cells #[] 3)):=(Below.refl w w).alloc oN _;have aI:Rs (w.alloc (.cells #[] 3)) w A (aAe xs):=hr.alloc oN _;have aD:(aAe xs).length=xs.length * 1:=by rw[aAB];omega
 have aE:(aAe ys).length=ys.length * 1:=by rw[aAB];omega
 have aA:=oH (aUF aG a6);go_enter Tryz.func21,Tryz.ntmps21
 go_wp2_with (at_builtin;refine aBY rfl (.tmp 5) (.tmp 6) 44 rfl w 3 (.int .i64 0) 1 8 aBo aBs rfl oD _ _ _ rfl a9 A xs.length c w (aAe xs) rfl aI aD (aAm _) ?c4 ?c5 ?c6 ?next)
 case c4=>unfold maxLen;omega
 case c5=>omega
 case c6=>simp
 case next=>
  intro v2 w2 a5 a3 _;try rw[Nat.zero_add,List.nil_append] at a5
  have a1:Below w w w2:=aB.grown a3 oM (fun g hg=>(a9.lt g hg).1);have aJ:Rs w2 w A' (aAe ys):=aH.below a1;have aK:=a1.size;go_wp2_with (at_builtin;refine aBY rfl (.tmp 7) (.tmp 8) 44 rfl w 3 (.int .i64 0) 1 8 aBo aBs rfl oD _ _ _ rfl a5 A' ys.length c' w (aAe ys) rfl aJ aE (aAm _) ?d4 ?d5 ?d6 ?next2)
  case d4=>unfold maxLen;omega
  case d5=>omega
  case d6=>omega
  case next2=>
   intro v3 w3 a0 a4 _;have a2:Below w w w3:=a1.grown a4 aK (fun g hg=>(a5.lt g hg).1);rw[<- aAi,<- List.length_append] at a0;have a8:(xs++ys).length<=268435456:=by rw[List.length_append];exact hl
   obtain⟨zs,a7⟩:∃ zs,zs=xs++ys:=⟨_,rfl⟩
   rw[<- a7] at a0 aA a8;have HZ:=oH a7;clear a7;obtain⟨A3,c3,rfl, -, -⟩:=aAc a0;go_wp2_with fail;refine(aBk A3 zs c3 w3 w3 (Rs.of_own a0) oN aA.out a8).mono ?_;rintro e w4 ⟨A4,c4,rfl,aF,aC⟩;go_wp2_with fail;go_ret;obtain rfl:=HZ.out;exact⟨A4,c4,rfl,aAh aF a2.size,a2.trans (aC.mono a2.size)⟩
theorem aFj(A:OA)(xs:LI)(c:Nat)(w:World)(hr:Rs w w A (aAe xs))(a0:OkI xs)(hl:xs.length<=4194304) :
  Calls Tryz.prog 22 #[.slice A xs.length c] w fun e w'=>∃ A2 c2,e=.returned (.slice A2 (aAE xs).length c2)/\w'.ownsRow w.heap.size 3 1 (.slice A2 (aAE xs).length c2) (aAE xs).length (aAe (aAE xs))/\Below w.heap.size w w':=aCQ A xs c _ w hr oN a0 hl
theorem OSS.cut{w:World}{lo hi:Nat}{tSI tI:TypeId}{A:OA}{c:Nat}{xss:LL}(h:OSS w lo hi tSI tI A c xss):∃ rows,aAt rows=xss/\w.ownsRow lo tSI 1 (.slice A xss.length c) xss.length (aBi rows)/\(∀ g,Value.ownBlock (.slice A xss.length c)=some g->g<hi)/\OwnRows w lo hi tI rows:=by
 obtain⟨_,rows,h1,h2,h3⟩:=h;exact⟨rows,h1,h2.2.1,h2.2.2,h3⟩
end Go.Proofs.YtkimajabegojoaaGreat
