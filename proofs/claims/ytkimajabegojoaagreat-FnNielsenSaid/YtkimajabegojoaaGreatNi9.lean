/- Contracts and lemmas of this seat, many texts in one: see the words ahead of each. No condition beyond those typed in each lemma. -/
import Derived.Test.YtkimajabegojoaaGreatNi8
import Derived.Test.YtkimajabegojoaaGreatNi6
import Derived.Test.YtkimajabegojoaaGreatNi7
import Derived.Test.YtkimajabegojoaaGreatNi1
import Derived.Deep.DeepCutAuto
import Derived.Deep.CutRange
import Derived.Test.YtkimajabegojoaaGreatNi2
import Derived.Test.YtkimajabegojoaaGreatNi4
import Derived.ChangeAlike

namespace Go.Proofs.YtkimajabegojoaaGreat
set_option linter.unusedVariables false
set_option linter.unusedSimpArgs false
set_option maxHeartbeats 40000000
set_option maxRecDepth 100000
theorem nextM_split {d:List (List Int)} {m:Mv} (h:nextM d=some m) :
  (∃ i:Nat,d[i]?=some []∧applyM d m=(d.eraseIdx i,true)) ∨
  ((∀ xs∈d,xs≠[])∧∃ (i k n:Nat) (xs ys:List Int),d[i]?=some xs∧d[k]?=some ys∧k≠i∧n < 4∧applyM d m=(d.set i (mvRes xs ys n),true)∧cmpN (mvRes xs ys n) xs < 0):=by
 unfold nextM at h;rcases hD:(List.range d.length).findSome? (tryD d) with _ | m'
 ·rw [hD] at h
  simp at h;obtain ⟨i,hi,hI⟩:=find_some_at (by simpa using h:(List.range d.length).findSome? (tryI d)=some m);obtain ⟨k,hk,hK⟩:=find_some_at hI;obtain ⟨n,hn,hN⟩:=find_some_at hK;refine .inr ⟨fun xs hx hne=>?_,?_⟩
  ·obtain ⟨j,hj⟩:=List.mem_iff_getElem?.1 hx
   have hjl:=(List.getElem?_eq_some_iff.1 hj).1;have:=List.findSome?_eq_none_iff.1 hD j (List.mem_range.2 hjl);unfold tryD at this;rw [rowAt_get hj,hne] at this;simp at this
  ·unfold tryN at hN
   split at hN
   ·rename_i ht
    injection hN with hN
    subst hN;obtain ⟨xs,hx⟩:=get_of_lt d hi;obtain ⟨ys,hy⟩:=get_of_lt d hk;by_cases hik:k=i
    ·subst hik
     rw [mvTry_same d k hn] at ht;cases ht
    ·obtain ⟨h1,h2⟩:=mvTry_at hx hy hik hn
     rw [h2] at ht;exact ⟨i,k,n,xs,ys,hx,hy,hik,hn,h1,of_decide_eq_true ht⟩
   ·cases hN
 ·rw [hD] at h
  simp at h;subst h;obtain ⟨k,hk,hK⟩:=find_some_at hD;unfold tryD at hK;split at hK
  ·rename_i ht
   injection hK with hK
   subst hK;obtain ⟨xs,hx⟩:=get_of_lt d hk;rw [rowAt_get hx] at ht;refine .inl ⟨k,?_,?_⟩
   ·rw [hx,List.length_eq_zero_iff.1 ht]
   ·rw [applyM_4 hx,if_neg (by omega)]
  ·cases hK
theorem nextM_no {d:List (List Int)} (h:nextM d=none):(∀ xs∈d,xs≠[])∧∀ (i k n:Nat) (xs ys:List Int),d[i]?=some xs→d[k]?=some ys→k≠i→n < 4→¬ cmpN (mvRes xs ys n) xs < 0:=by
 unfold nextM at h;obtain ⟨hD,hI⟩:=Option.or_eq_none_iff.1 h;refine ⟨fun xs hx hne=>?_,fun i k n xs ys hx hy hne hn hc=>?_⟩
 ·obtain ⟨j,hj⟩:=List.mem_iff_getElem?.1 hx
  have hjl:=(List.getElem?_eq_some_iff.1 hj).1;have:=List.findSome?_eq_none_iff.1 hD j (List.mem_range.2 hjl);unfold tryD at this;rw [rowAt_get hj,hne] at this;simp at this
 ·have hi:=(List.getElem?_eq_some_iff.1 hx).1
  have hk:=(List.getElem?_eq_some_iff.1 hy).1;have h1:=List.findSome?_eq_none_iff.1 hI i (List.mem_range.2 hi);have h2:=List.findSome?_eq_none_iff.1 h1 k (List.mem_range.2 hk);have h3:=List.findSome?_eq_none_iff.1 h2 n (List.mem_range.2 hn);have h4:=(mvTry_at hx hy hne hn).2;rw [decide_eq_true hc] at h4;unfold tryN at h3;rw [h4] at h3;simp at h3
structure OkL (l:List (List Int)):Prop where
 len:l.length≤3
 ok:∀ w∈l,LtW w∧Rd w∧w.length≤5
def pfAt (l:List (List Int)) (i:Nat):Pf:=match l[i]? with | none=>absent | some w=>prof w
def phiL (l:List (List Int)):Nat:=phi (pfAt l 0) (pfAt l 1) (pfAt l 2)
theorem pfAt_ra {l:List (List Int)} (h:OkL l) (i:Nat):RA (pfAt l i):=by
 unfold pfAt;cases e:l[i]? with
 | none=>exact .inr rfl
 | some w =>
  obtain ⟨h1,h2,h3⟩:=h.ok w (List.mem_of_getElem? e);exact .inl (real_prof h1 h2 h3)
theorem phiL_le {l:List (List Int)} (h:OkL l):phiL l≤376:=phi_le (pfAt_ra h 0) (pfAt_ra h 1) (pfAt_ra h 2)
theorem mvRes_rd {xs ys:List Int} (lx:LtW xs) (ly:LtW ys) (n:Nat):LtW (mvRes xs ys n)∧Rd (mvRes xs ys n):=by
 have key:∀ {v:List Int},LtW v→LtW (red [] v)∧Rd (red [] v):=fun h=>⟨lt_red h,rd_red h⟩
 unfold mvRes;refine key ?_;split <;> split
 ·exact lx.app ly.inv
 ·exact lx.app ly
 ·exact ly.inv.app lx
 ·exact ly.app lx
theorem moveLessP {xs ys:List Int} (lx:LtW xs) (rx:Rd xs) (x5:xs.length≤5) (ly:LtW ys) (ry:Rd ys) (y5:ys.length≤5) (hne:xs≠[]) {n:Nat} (hn:n < 4) (hc:cmpN (mvRes xs ys n) xs < 0) {r:Pf} (hr:RA r) :
  (mvRes xs ys n).length≤5∧phi (prof (mvRes xs ys n)) (prof ys) r < phi (prof xs) (prof ys) r:=by
 obtain ⟨l2,r2⟩:=mvRes_rd lx ly n;have h:=(cmpN_key l2 lx).1 hc;have hl5:(mvRes xs ys n).length≤5:=by omega
 have py:=real_prof ly ry y5;have px:=real_prof lx rx x5;refine ⟨hl5,?_⟩;rcases h with h | ⟨h,hk⟩
 ·exact phi_less px (real_prof l2 r2 hl5) (.inl py) hr h
 ·have hkeep:Keep (prof xs) (prof (mvRes xs ys n)) (prof ys):=by
   rcases (by omega:n=0 ∨ n=1 ∨ n=2 ∨ n=3) with rfl | rfl | rfl | rfl
   ·exact keep_right lx rx x5 ly ry y5 h hk hne
   ·have:=keep_right lx rx x5 ly.inv (ry.inv ly) (by rw [invW_len];exact y5) h hk hne
    rw [prof_inv ly] at this;exact this.swq
   ·exact keep_left lx rx x5 ly ry y5 h hk hne
   ·have:=keep_left lx rx x5 ly.inv (ry.inv ly) (by rw [invW_len];exact y5) h hk hne
    rw [prof_inv ly] at this;exact this.swq
  exact phi_keep px py hr hkeep
theorem p12 {p q r p' q' r':Pf} (h:phi q p r < phi q' p' r'):phi p q r < phi p' q' r':=by rwa [phi_swap12 p,phi_swap12 p']
theorem p23 {p q r p' q' r':Pf} (h:phi p r q < phi p' r' q'):phi p q r < phi p' q' r':=by rwa [phi_swap23 p q,phi_swap23 p' q']
theorem step_less {d:List (List Int)} (hd:OkL d) {m:Mv} (h:nextM d=some m):OkL (applyM d m).1∧phiL (applyM d m).1 < phiL d:=by
 rcases nextM_split h with ⟨i,hi,e⟩ | ⟨hne,i,k,n,xs,ys,hx,hy,hik,hn,e,hc⟩
 ·rw [e]
  have hil:=(List.getElem?_eq_some_iff.1 hi).1;have r0:Real (prof []):=real_prof LtW.nil Rd.nil (by decide);have hdrop:∀ q r,phi absent q r < phi (prof []) q r:=fun q r=>phi_drop r0 rfl;refine ⟨⟨by have:=List.length_eraseIdx_of_lt hil;simp only;have:=hd.len;omega,fun w hw=>hd.ok w (List.mem_of_mem_eraseIdx hw)⟩,?_⟩;unfold phiL
  match d,hd,hi,hil with
  | [a],_,hi,hil =>
   have hi0:i=0:=by simp at hil;omega
   subst hi0;have ha:a=[]:=by simpa using hi
   subst ha;exact hdrop _ _
  | [a,b],_,hi,hil =>
   rcases (by simp at hil;omega:i=0 ∨ i=1) with rfl | rfl
   ·have ha:a=[]:=by simpa using hi
    subst ha
    show phi (prof b) absent absent < phi (prof []) (prof b) absent
    rw [phi_swap12 (prof b)];exact hdrop _ _
   ·have ha:b=[]:=by simpa using hi
    subst ha
    show phi (prof a) absent absent < phi (prof a) (prof []) absent
    exact p12 (hdrop _ _)
  | [a,b,c],_,hi,hil =>
   rcases (by simp at hil;omega:i=0 ∨ i=1 ∨ i=2) with rfl | rfl | rfl
   ·have ha:a=[]:=by simpa using hi
    subst ha
    show phi (prof b) (prof c) absent < phi (prof []) (prof b) (prof c)
    rw [phi_swap23 (prof b),phi_swap12 (prof b)];exact hdrop _ _
   ·have ha:b=[]:=by simpa using hi
    subst ha
    show phi (prof a) (prof c) absent < phi (prof a) (prof []) (prof c)
    rw [phi_swap23 (prof a)];exact p12 (hdrop _ _)
   ·have ha:c=[]:=by simpa using hi
    subst ha
    show phi (prof a) (prof b) absent < phi (prof a) (prof b) (prof [])
    exact p23 (p12 (hdrop _ _))
  | a :: b :: c :: f :: t,hd,_,_=>have:=hd.len;simp at this
 ·rw [e]
  have hil:=(List.getElem?_eq_some_iff.1 hx).1;have hkl:=(List.getElem?_eq_some_iff.1 hy).1;obtain ⟨lx,rx,x5⟩:=hd.ok xs (List.mem_of_getElem? hx);obtain ⟨ly,ry,y5⟩:=hd.ok ys (List.mem_of_getElem? hy);have hxn:=hne xs (List.mem_of_getElem? hx);obtain ⟨l2,r2⟩:=mvRes_rd lx ly n;have hml:=fun r (hr:RA r)=>moveLessP lx rx x5 ly ry y5 hxn hn hc hr;have h5:=(hml absent (.inr rfl)).1;have hlt:=fun r hr=>(hml r hr).2;clear hml;generalize mvRes xs ys n=z at l2 r2 h5 hlt;refine ⟨⟨by simp only [List.length_set];exact hd.len,fun w hw=>?_⟩,?_⟩
  ·rcases mem_set_or hw with hw | rfl
   ·exact hd.ok w hw
   ·exact ⟨l2,r2,h5⟩
  ·have ra:=fun j=>pfAt_ra hd j
   unfold phiL
   match d,hd,hx,hy,hil,hkl,ra with
   | [a],_,hx,hy,hil,hkl,ra =>
    simp at hil hkl;omega
   | [a,b],_,hx,hy,hil,hkl,ra =>
    rcases (by simp at hil hkl;omega:(i=0∧k=1) ∨ (i=1∧k=0)) with ⟨rfl,rfl⟩ | ⟨rfl,rfl⟩
    ·obtain rfl:a=xs:=by simpa using hx
     obtain rfl:b=ys:=by simpa using hy
     exact hlt absent (.inr rfl)
    ·obtain rfl:b=xs:=by simpa using hx
     obtain rfl:a=ys:=by simpa using hy
     exact p12 (hlt absent (.inr rfl))
   | [a,b,c],_,hx,hy,hil,hkl,ra =>
    have r0:RA (prof a):=ra 0;have r1:RA (prof b):=ra 1;have r2:RA (prof c):=ra 2;rcases (by simp at hil hkl;omega:(i=0∧k=1) ∨ (i=0∧k=2) ∨ (i=1∧k=0) ∨ (i=1∧k=2) ∨ (i=2∧k=0) ∨ (i=2∧k=1)) with ⟨rfl,rfl⟩ | ⟨rfl,rfl⟩ | ⟨rfl,rfl⟩ | ⟨rfl,rfl⟩ | ⟨rfl,rfl⟩ | ⟨rfl,rfl⟩
    ·obtain rfl:a=xs:=by simpa using hx
     obtain rfl:b=ys:=by simpa using hy
     exact hlt _ r2
    ·obtain rfl:a=xs:=by simpa using hx
     obtain rfl:c=ys:=by simpa using hy
     exact p23 (hlt _ r1)
    ·obtain rfl:b=xs:=by simpa using hx
     obtain rfl:a=ys:=by simpa using hy
     exact p12 (hlt _ r2)
    ·obtain rfl:b=xs:=by simpa using hx
     obtain rfl:c=ys:=by simpa using hy
     exact p12 (p23 (hlt _ r0))
    ·obtain rfl:c=xs:=by simpa using hx
     obtain rfl:a=ys:=by simpa using hy
     exact p23 (p12 (hlt _ r1))
    ·obtain rfl:c=xs:=by simpa using hx
     obtain rfl:b=ys:=by simpa using hy
     exact p23 (p12 (p23 (hlt _ r0)))
   | a :: b :: c :: f :: t,hd,_,_,_,_,_=>have:=hd.len;simp at this
theorem run_ends:∀ (n:Nat) {d:List (List Int)},OkL d→phiL d≤n→nextM (runN n d).1=none∧OkL (runN n d).1
 | n,d,hd,hn=>by
  cases h:nextM d with
  | none=>rw [runN_none h];exact ⟨h,hd⟩
  | some m =>
   obtain ⟨h1,h2⟩:=step_less hd h;cases n with
   | zero=>omega
   | succ n =>
    rw [runN_some h];exact run_ends n h1 (by omega)
theorem run_400 {d:List (List Int)} (hd:OkL d):nextM (runN 400 d).1=none∧OkL (runN 400 d).1:=run_ends 400 hd (by have:=phiL_le hd;omega)
section
section
variable {r n:Nat} {es:List Ed}
noncomputable def basAt (r:Nat) (es:List Ed) (j:Nat):List Int:=basisW r es ((extraE r es).getD j ⟨0,0,0⟩)
theorem basAt_some {j:Nat} {e:Ed} (h:(extraE r es)[j]?=some e):basAt r es j=basisW r es e:=by
 unfold basAt;rw [List.getD_eq_getElem?_getD,h]
 rfl
theorem basAt_lt (h:IsCor r n es) {j:Nat} (hj:j < (extraE r es).length):LtW (basAt r es j):=by
 have he:(extraE r es)[j]?=some (extraE r es)[j]:=List.getElem?_eq_getElem hj;rw [basAt_some he];exact (basisG_inS h (List.mem_map.2 ⟨_,List.mem_of_getElem? he,rfl⟩)).1
theorem bas_step (h:IsCor r n es) (hE:(extraE r es).length≤3) {a t:Nat} (ha:a < n) (ht:t < n) {x:Int} (hs:Sp es a x t) :
  Eqv (wordV r es a++[x]++invW (wordV r es t)) (sbW (basAt r es) (rlV (extraE r es) a x t)):=by
 have hx:=hs.lt3 h.gr;have la:=(wordV_pa h ha).lt h.gr;have lt:=(wordV_pa h ht).lt h.gr;by_cases hm:stepE a x t∈extraE r es
 ·obtain ⟨j,hj⟩:=List.mem_iff_getElem?.1 hm
  by_cases hp:0 < x
  ·have e:stepE a x t=⟨a,x,t⟩:=by unfold stepE;rw [if_neg (by omega)]
   rw [e] at hj;rw [rlV_at h.gr hp hj,sbW_one];unfold sbL;rw [if_pos (by omega),show ((j:Int)+1).toNat - 1=j by omega,basAt_some hj,basisW_eq h (List.mem_of_getElem? hj)];rw [List.append_assoc];exact Eqv.refl _
  ·have hp2:0 < -x:=by have:=hx.1;omega
   have e:stepE a x t=⟨t, -x,a⟩:=by unfold stepE;rw [if_pos (by omega)]
   rw [e] at hj;have h1:=rlV_at h.gr hp2 hj;have h2:=rlV_neg (E:=extraE r es) hE (u:=(t:Int)) (x:=-x) (v:=(a:Int)) (by omega);rw [Int.neg_neg,h1] at h2;have h3:LtW (basAt r es j):=basAt_lt h (List.getElem?_eq_some_iff.1 hj).1;have hj3:=(List.getElem?_eq_some_iff.1 hj).1;have e2:invW [(j:Int)+1]=[-((j:Int)+1)]:=by
    have:Lt3 ((j:Int)+1):=by unfold Lt3;omega
    simp [invW,this.negI]
   rw [h2,e2,sbW_one];unfold sbL;rw [if_neg (by omega),show (-(-((j:Int)+1))).toNat - 1=j by omega,basAt_some hj,basisW_eq h (List.mem_of_getElem? hj)];have e3:wordV r es t++-x :: invW (wordV r es a)=wordV r es t++[-x]++invW (wordV r es a):=by simp
   rw [e3,inv_three lt la hx.neg,Int.neg_neg];exact Eqv.refl _
 ·rw [rlV_no hm]
  have hin:=(sp_stepE.1 hs).2;have htr:stepE a x t∈treeE es (bfs es (lets r) 0):=by
   refine Classical.byContradiction fun hc=>hm (mem_extraE.2 ⟨hin,hc⟩)
  obtain ⟨p,q,y,hp,hq,e,hs2,hw⟩:=treeE_word h htr;have hy:=hs2.lt3 h.gr;rcases stepE_inj hx.1 hy.1 e with ⟨e1,e2,e3⟩ | ⟨e1,e2,e3⟩
  ·obtain rfl:a=p:=by omega
   obtain rfl:t=q:=by omega
   subst e2;rw [hw];exact Eqv.inv_right (la.app (LtW.one hx))
  ·obtain rfl:a=q:=by omega
   obtain rfl:t=p:=by omega
   have hyx:y = -x:=by omega
   rw [hyx] at hw;rw [hw,List.append_assoc,List.append_assoc];have l2:LtW [-x]:=LtW.one hx.neg;have c1:Eqv ([-x]++[x]) []:=by
    have:=Eqv.inv_right (LtW.one hx.neg);have e4:invW [-x]=[x]:=by simp [invW,hx.neg.negI]
    rwa [e4] at this
   have h1:=Eqv.app (l2.app (LtW.one hx)) LtW.nil lt.inv lt.inv c1 (Eqv.refl _);have h2:=Eqv.app lt lt ((l2.app (LtW.one hx)).app lt.inv) (LtW.nil.app lt.inv) (Eqv.refl _) h1;rw [List.append_assoc] at h2;exact h2.trans (Eqv.inv_right lt)
theorem bas_gen (h:IsCor r n es) (hE:(extraE r es).length≤3):∀ {w:List Int} {a t:Nat},a < n→t < n→Pa es a w t→Eqv (wordV r es a++w++invW (wordV r es t)) (sbW (basAt r es) (rwW (extraE r es) es a w))
 | [],a,t,ha,ht,hp=>by
  have e:(a:Int)=t:=hp;obtain rfl:a=t:=by omega
  rw [List.append_nil];exact Eqv.inv_right ((wordV_pa h ha).lt h.gr)
 | x :: w,a,t,ha,ht,⟨q,h1,h2⟩=>by
  have hq:=(h1.rng h.gr.all).2.1;obtain ⟨b,rfl⟩:=Int.eq_ofNat_of_zero_le hq.1;have hb:b < n:=by omega
  have hd:∀ j,j < (extraE r es).length→LtW (basAt r es j):=fun j hj=>basAt_lt h hj;have la:=(wordV_pa h ha).lt h.gr;have lb:=(wordV_pa h hb).lt h.gr;have lt:=(wordV_pa h ht).lt h.gr;have lx:=LtW.one (h1.lt3 h.gr);have lw:=h2.lt h.gr;have e1:=bas_step h hE ha hb h1;have e2:=bas_gen h hE hb ht h2;rw [rwW,nextV_sp h.fol h1,sbW_app];have h3:=Eqv.app ((la.app lx).app lb.inv) (sbW_lt hd rlV_ltK) ((lb.app lw).app lt.inv) (sbW_lt hd rwW_ltK) e1 e2;refine Eqv.trans ?_ h3;have c1:Eqv (invW (wordV r es b)++wordV r es b) []:=Eqv.inv_left lb;have lc:LtW (w++invW (wordV r es t)):=lw.app lt.inv;have h4:=Eqv.app (lb.inv.app lb) LtW.nil lc lc c1 (Eqv.refl _);have h5:=Eqv.app (la.app lx) (la.app lx) ((lb.inv.app lb).app lc) (LtW.nil.app lc) (Eqv.refl _) h4;have e3:wordV r es a++[x]++invW (wordV r es b)++(wordV r es b++w++invW (wordV r es t))=(wordV r es a++[x])++((invW (wordV r es b)++wordV r es b)++(w++invW (wordV r es t))):=by simp only [List.append_assoc]
  have e4:wordV r es a++x :: w++invW (wordV r es t)=(wordV r es a++[x])++([]++(w++invW (wordV r es t))):=by simp
  rw [e3,e4];exact h5.symm
theorem bas_loop (h:IsCor r n es) (hE:(extraE r es).length≤3) {w:List Int} (hp:Pa es 0 w 0):Eqv w (sbW (basAt r es) (rwW (extraE r es) es 0 w)):=by
 have hn:0 < n:=by have:=h.gr.size;omega
 have h1:=bas_gen h hE (a:=0) (t:=0) hn hn hp;rw [show ((0:Nat):Int)=0 from rfl,wordV_zero h] at h1;have e:[]++w++invW []=w:=by show w++[]=w;exact List.append_nil _
 rwa [e] at h1
end
theorem allB_len (n:Nat):(allF [false,true] n).length=2 ^ n:=by
 induction n with
 | zero=>rfl
 | succ n ih =>
  have key:∀ (l:List (Fin n→Bool)),(l.flatMap fun f=>[false,true].map fun b=>fun i:Fin (n+1)=>if h:i.val < n then f ⟨i.val,h⟩ else b).length=l.length * 2:=by
   intro l
   induction l with
   | nil=>rfl
   | cons f t ih2=>rw [List.flatMap_cons,List.length_append,ih2];simp;omega
  rw [allF,key,ih,Nat.pow_succ]
theorem allB_nd (n:Nat):(allF [false,true] n).Nodup:=by
 induction n with
 | zero=>simp [allF]
 | succ n ih =>
  rw [allF];unfold List.Nodup;rw [List.pairwise_flatMap];have ext:∀ (f g:Fin n→Bool) (a b:Bool),(fun i:Fin (n+1)=>if h:i.val < n then f ⟨i.val,h⟩ else a)=(fun i:Fin (n+1)=>if h:i.val < n then g ⟨i.val,h⟩ else b)→f=g∧a=b:=by
   intro f g a b e;constructor
   ·funext i
    have:=congrFun e ⟨i.val,by omega⟩
    simpa [i.isLt] using this
   ·have:=congrFun e ⟨n,by omega⟩
    simpa using this
  refine ⟨fun f hf=>?_,?_⟩
  ·rw [List.pairwise_map]
   have hb:([false,true]:List Bool).Nodup:=by decide
   exact hb.imp fun hne e=>hne (ext _ _ _ _ e).2
  ·refine ih.imp fun {f g} hne a ha b hb e=>?_
   obtain ⟨x, -,rfl⟩:=List.mem_map.1 ha;obtain ⟨y, -,rfl⟩:=List.mem_map.1 hb;exact hne (ext _ _ _ _ e).1
theorem bool_le {k m:Nat} {f:(Fin k→Bool)→(Fin m→Bool)} (hf:∀ a b,f a=f b→a=b):k≤m:=by
 have h1:=nd_le (map_nd hf (allB_nd k)) (m:=allF [false,true] m) fun x _=>mem_allF (fun b=>by cases b <;> simp) m x;rw [List.length_map,allB_len,allB_len] at h1;exact (Nat.pow_le_pow_iff_right (by decide)).1 h1
def boolG:Fg Bool where
 mul:=xor
 one:=false
 inv:=id
 assoc:=by decide
 one_mul:=by decide
 mul_one:=by decide
 inv_mul:=by decide
 mul_inv:=by decide
 els:=[false,true]
 all:=by decide
theorem free_le {r n:Nat} {es:List Ed} (h:IsCor r n es) (hE:(extraE r es).length≤3) {k:Nat} (hk:k≤3) {y u:Nat→List Int} (hyl:∀ i,i < k→LtW (y i)) (hy:∀ i,i < k→Pa es 0 (y i) 0) (hu:∀ j,j < (extraE r es).length→LtK k (u j))
  (hgen:∀ j,j < (extraE r es).length→Eqv (sbW y (u j)) (basAt r es j)) (hfree:∀ w,LtK k w→Rd w→Eqv (sbW y w) []→w=[]):k≤(extraE r es).length:=by
 have hd:∀ j,j < (extraE r es).length→LtW (basAt r es j):=fun j hj=>basAt_lt h hj;have hul:∀ j,j < (extraE r es).length→LtW (u j):=fun j hj=>(hu j hj).lt hk
 -- the words of the basis in the list give back the list
 have key:∀ i,i < k→Eqv (sbW u (rwW (extraE r es) es 0 (y i))) [(i:Int)+1]:=fun i hi=>by
  have lz:LtK (extraE r es).length (rwW (extraE r es) es 0 (y i)):=rwW_ltK;have hsub:∀ {z:List Int},LtK (extraE r es).length z→LtK k (sbW u z)∧Eqv (sbW y (sbW u z)) (sbW (basAt r es) z):=by
   intro z
   induction z with
   | nil=>exact fun _=>⟨LtK.nil,Eqv.refl _⟩
   | cons x z ih =>
    intro hz;obtain ⟨i1,i2⟩:=ih hz.tail;have hx:=hz.head;have l0:LtK k (sbL u x)∧Eqv (sbW y (sbL u x)) (sbL (basAt r es) x):=by
     unfold sbL;split
     ·exact ⟨hu _ (by omega),hgen _ (by omega)⟩
     ·have h1:=hu ((-x).toNat - 1) (by omega)
      refine ⟨h1.inv hk,?_⟩;rw [sbW_inv hk hyl h1];exact Eqv.inv (sbW_lt hyl h1) (hd _ (by omega)) (hgen _ (by omega))
    rw [sbW_cons,sbW_app,sbW_cons];exact ⟨l0.1.app i1,Eqv.app (sbW_lt hyl l0.1) (sbL_lt hd hx) (sbW_lt hyl i1) (sbW_lt hd hz.tail) l0.2 i2⟩
  obtain ⟨k1,k2⟩:=hsub lz;have h1:Eqv (sbW y (sbW u (rwW (extraE r es) es 0 (y i)))) (y i):=k2.trans (bas_loop h hE (hy i hi)).symm;have hone:LtK k [-((i:Int)+1)]:=LtK.cons (by omega) LtK.nil;have hall:LtK k (sbW u (rwW (extraE r es) es 0 (y i))++[-((i:Int)+1)]):=k1.app hone;have e1:sbW y [-((i:Int)+1)]=invW (y i):=by
   rw [sbW_one];unfold sbL;rw [if_neg (by omega),show (-(-((i:Int)+1))).toNat - 1=i by omega]
  have h2:Eqv (sbW y (sbW u (rwW (extraE r es) es 0 (y i))++[-((i:Int)+1)])) []:=by
   rw [sbW_app,e1];exact (Eqv.app (sbW_lt hyl k1) (hyl i hi) (hyl i hi).inv (hyl i hi).inv h1 (Eqv.refl _)).trans (Eqv.inv_right (hyl i hi))
  have h3:=hfree _ hall.red (rd_red (hall.lt hk)) ((sbW_red hk hyl hall).trans h2);have l1:=k1.lt hk;have l2:LtW [-((i:Int)+1)]:=hone.lt hk;have l3:LtW [(i:Int)+1]:=LtW.one (by unfold Lt3;omega);have h4:=Eqv.app (l1.app l2) LtW.nil l3 l3 (show Eqv (sbW u (rwW (extraE r es) es 0 (y i))++[-((i:Int)+1)]) [] from h3) (Eqv.refl _);have c1:Eqv ([-((i:Int)+1)]++[(i:Int)+1]) []:=by
   have:=Eqv.inv_right l2;have e4:invW [-((i:Int)+1)]=[(i:Int)+1]:=by
    have:Lt3 (-((i:Int)+1)):=by unfold Lt3;omega
    simp [invW,this.negI]
   rwa [e4] at this
  have h5:=Eqv.app l1 l1 (l2.app l3) LtW.nil (Eqv.refl _) c1;rw [List.append_nil,← List.append_assoc] at h5;exact h5.symm.trans h4
 refine bool_le (f:=fun c j=>ev boolG (extF boolG c) (u j.val)) fun a b e=>?_;have h1:∀ (c:Fin k→Bool) (i:Nat) (hi:i < k),ev boolG (fun j=>ev boolG (extF boolG c) (u j)) (rwW (extraE r es) es 0 (y i))=c ⟨i,hi⟩:=fun c i hi=>by
  rw [← ev_sub boolG hul rwW_ltK,ev_eqv boolG (sbW_lt hul rwW_ltK) (LtW.one (by unfold Lt3;omega)) (key i hi),ev_one];unfold lv;rw [if_pos (by omega),show ((i:Int)+1).toNat - 1=i by omega,extF_at boolG c hi]
 funext i
 rw [← h1 a i.val i.isLt,← h1 b i.val i.isLt];refine ev_congr boolG (k:=(extraE r es).length) (fun j hj=>?_) rwW_ltK;exact congrFun e ⟨j,hj⟩
end
section
def Gn (l:List (List Int)) (w:List Int):Prop:=∃ z,LtK l.length z∧Eqv (sbW (atW l) z) w
structure OkG (l:List (List Int)):Prop where
 len:l.length≤3
 lt:∀ w∈l,LtW w
theorem OkL.g {l:List (List Int)} (h:OkL l):OkG l:=⟨h.len,fun w hw=>(h.ok w hw).1⟩
section
variable {l:List (List Int)}
theorem OkG.at_lt (h:OkG l):∀ i,i < l.length→LtW (atW l i):=fun i hi=>h.lt _ (atW_mem hi)
theorem Gn.nil:Gn l []:=⟨[],LtK.nil,Eqv.refl _⟩
theorem Gn.eqv {a b:List Int} (h:Gn l a) (e:Eqv a b):Gn l b:=by
 obtain ⟨z,h1,h2⟩:=h;exact ⟨z,h1,h2.trans e⟩
theorem Gn.mem {w:List Int} (hw:w∈l):Gn l w:=by
 obtain ⟨i,hi⟩:=List.mem_iff_getElem?.1 hw;have hil:=(List.getElem?_eq_some_iff.1 hi).1;refine ⟨[(i:Int)+1],LtK.cons (by omega) LtK.nil,?_⟩;rw [sbW_one];unfold sbL;rw [if_pos (by omega),show ((i:Int)+1).toNat - 1=i by omega];unfold atW;rw [List.getD_eq_getElem?_getD,hi];exact Eqv.refl _
theorem Gn.mul (h:OkG l) {a b:List Int} (la:LtW a) (lb:LtW b) (ha:Gn l a) (hb:Gn l b):Gn l (a++b):=by
 obtain ⟨z,h1,h2⟩:=ha;obtain ⟨y,h3,h4⟩:=hb;refine ⟨z++y,h1.app h3,?_⟩;rw [sbW_app];exact Eqv.app (sbW_lt h.at_lt h1) la (sbW_lt h.at_lt h3) lb h2 h4
theorem Gn.inv (h:OkG l) {a:List Int} (la:LtW a) (ha:Gn l a):Gn l (invW a):=by
 obtain ⟨z,h1,h2⟩:=ha;refine ⟨invW z,h1.inv h.len,?_⟩;rw [sbW_inv h.len h.at_lt h1];exact Eqv.inv (sbW_lt h.at_lt h1) la h2
theorem Gn.sub {l':List (List Int)} (h:OkG l) (h':OkG l') (hs:∀ w∈l',Gn l w) {w:List Int} (hw:Gn l' w):Gn l w:=by
 obtain ⟨z,h1,h2⟩:=hw;refine Gn.eqv ?_ h2;clear h2
 induction z with
 | nil=>exact Gn.nil
 | cons x z ih =>
  rw [sbW_cons];have hx:=h1.head;refine Gn.mul h (sbL_lt h'.at_lt hx) (sbW_lt h'.at_lt h1.tail) ?_ (ih h1.tail);unfold sbL;split
  ·exact hs _ (atW_mem (by omega))
  ·exact Gn.inv h (h'.at_lt _ (by omega)) (hs _ (atW_mem (by omega)))
end
theorem OkG.set {d:List (List Int)} (h:OkG d) {i:Nat} {x:List Int} (hx:LtW x):OkG (d.set i x):=⟨by rw [List.length_set];exact h.len,fun w hw=>by
 rcases mem_set_or hw with hw | rfl
 ·exact h.lt w hw
 ·exact hx⟩
theorem OkG.erase {d:List (List Int)} (h:OkG d) {i:Nat}:OkG (d.eraseIdx i):=⟨by have:=h.len;have:=List.length_eraseIdx_le d i;omega,fun w hw=>h.lt w (List.mem_of_mem_eraseIdx hw)⟩
theorem mul_back {x y z:List Int} (lx:LtW x) (ly:LtW y) (h:Eqv (x++y) z) (lz:LtW z):Eqv (z++invW y) x:=by
 have h1:=Eqv.app lz (lx.app ly) ly.inv ly.inv h.symm (Eqv.refl _);have h2:=Eqv.app lx lx (ly.app ly.inv) LtW.nil (Eqv.refl x) (Eqv.inv_right ly);rw [List.append_nil] at h2;rw [List.append_assoc] at h1;exact h1.trans h2
theorem mul_front {x y z:List Int} (lx:LtW x) (ly:LtW y) (h:Eqv (y++x) z) (lz:LtW z):Eqv (invW y++z) x:=by
 have h1:=Eqv.app ly.inv ly.inv lz (ly.app lx) (Eqv.refl _) h.symm;have h2:=Eqv.app (ly.inv.app ly) LtW.nil lx lx (Eqv.inv_left ly) (Eqv.refl x);rw [List.nil_append,List.append_assoc] at h2;exact h1.trans h2
theorem step_gn {d:List (List Int)} (hd:OkG d) {m:Mv} (h:nextM d=some m):OkG (applyM d m).1∧∀ w,Gn (applyM d m).1 w↔Gn d w:=by
 rcases nextM_split h with ⟨i,hi,e⟩ | ⟨hne,i,k,n,xs,ys,hx,hy,hik,hn,e,hc⟩
 ·rw [e]
  refine ⟨hd.erase,fun w=>⟨fun hw=>?_,fun hw=>?_⟩⟩
  ·exact Gn.sub hd hd.erase (fun v hv=>Gn.mem (List.mem_of_mem_eraseIdx hv)) hw
  ·refine Gn.sub hd.erase hd (fun v hv=>?_) hw
   by_cases hv0:v=[]
   ·rw [hv0];exact Gn.nil
   ·obtain ⟨j,hj⟩:=List.mem_iff_getElem?.1 hv
    refine Gn.mem (List.mem_eraseIdx_iff_getElem?.2 ⟨j,fun e=>?_,hj⟩);rw [e,hi] at hj;exact hv0 (Option.some.inj hj).symm
 ·rw [e]
  have lx:=hd.lt xs (List.mem_of_getElem? hx);have ly:=hd.lt ys (List.mem_of_getElem? hy);have lz:=(mvRes_rd lx ly n).1;have hil:=(List.getElem?_eq_some_iff.1 hx).1;have hkl:=(List.getElem?_eq_some_iff.1 hy).1;have hs:OkG (d.set i (mvRes xs ys n)):=hd.set lz;have hz:mvRes xs ys n∈d.set i (mvRes xs ys n):=List.mem_iff_getElem?.2 ⟨i,by rw [List.getElem?_set_self hil]⟩;have hym:ys∈d.set i (mvRes xs ys n):=List.mem_iff_getElem?.2 ⟨k,by rw [List.getElem?_set_ne (by omega)];exact hy⟩;have gx:Gn d xs:=Gn.mem (List.mem_of_getElem? hx);have gy:Gn d ys:=Gn.mem (List.mem_of_getElem? hy);have both:Gn d (mvRes xs ys n)∧Gn (d.set i (mvRes xs ys n)) xs:=by
   have gz:=Gn.mem (l:=d.set i (mvRes xs ys n)) hz;have gy2:=Gn.mem (l:=d.set i (mvRes xs ys n)) hym;generalize d.set i (mvRes xs ys n)=L at hs gz gy2;rcases (by omega:n=0 ∨ n=1 ∨ n=2 ∨ n=3) with rfl | rfl | rfl | rfl
   ·have e1:Eqv (xs++ys) (mvRes xs ys 0):=(Eqv.toRed (lx.app ly)).symm
    exact ⟨(Gn.mul hd lx ly gx gy).eqv e1,(Gn.mul hs lz ly.inv gz (Gn.inv hs ly gy2)).eqv (mul_back lx ly e1 lz)⟩
   ·have e1:Eqv (xs++invW ys) (mvRes xs ys 1):=(Eqv.toRed (lx.app ly.inv)).symm
    have e2:=mul_back lx ly.inv e1 lz;rw [invW_invW ly] at e2;exact ⟨(Gn.mul hd lx ly.inv gx (Gn.inv hd ly gy)).eqv e1,(Gn.mul hs lz ly gz gy2).eqv e2⟩
   ·have e1:Eqv (ys++xs) (mvRes xs ys 2):=(Eqv.toRed (ly.app lx)).symm
    exact ⟨(Gn.mul hd ly lx gy gx).eqv e1,(Gn.mul hs ly.inv lz (Gn.inv hs ly gy2) gz).eqv (mul_front lx ly e1 lz)⟩
   ·have e1:Eqv (invW ys++xs) (mvRes xs ys 3):=(Eqv.toRed (ly.inv.app lx)).symm
    have e2:=mul_front lx ly.inv e1 lz;rw [invW_invW ly] at e2;exact ⟨(Gn.mul hd ly.inv lx (Gn.inv hd ly gy) gx).eqv e1,(Gn.mul hs ly lz gy2 gz).eqv e2⟩
  refine ⟨hs,fun w=>⟨fun hw=>?_,fun hw=>?_⟩⟩
  ·refine Gn.sub hd hs (fun v hv=>?_) hw
   rcases mem_set_or hv with hv | rfl
   ·exact Gn.mem hv
   ·exact both.1
  ·refine Gn.sub hs hd (fun v hv=>?_) hw
   obtain ⟨j,hj⟩:=List.mem_iff_getElem?.1 hv;by_cases hji:j=i
   ·subst hji
    rw [hx] at hj;rw [← Option.some.inj hj];exact both.2
   ·exact Gn.mem (List.mem_iff_getElem?.2 ⟨j,by rw [List.getElem?_set_ne (by omega)];exact hj⟩)
theorem run_gn:∀ (n:Nat) {d:List (List Int)},OkG d→OkG (runN n d).1∧∀ w,Gn (runN n d).1 w↔Gn d w
 | 0,d,hd=>⟨hd,fun w=>Iff.rfl⟩
 | n+1,d,hd=>by
  cases h:nextM d with
  | none=>rw [runN_none h];exact ⟨hd,fun w=>Iff.rfl⟩
  | some m =>
   obtain ⟨h1,h2⟩:=step_gn hd h;obtain ⟨h3,h4⟩:=run_gn n h1;rw [runN_some h];exact ⟨h3,fun w=>(h4 w).trans (h2 w)⟩
theorem genL_gn {r s:Int} {l:List (List Int)} (h:OkG l) (hg:IsGr r s (flowA l (1,[])).2) {w:List Int} (hw:LtW w):GenL (flowA l (1,[])).2 w↔Gn l w:=by
 constructor
 ·exact fun k=>flow_words h.len h.lt hw k
 ·rintro ⟨z,h1,h2⟩
  have hlo:=(flow_gen l.length l rfl h.len h.lt).2.2.2;refine ⟨sbW (atW l) z,sbW_lt h.at_lt h1,h2.symm,?_⟩;clear h2
  induction z with
  | nil=>rfl
  | cons x z ih =>
   rw [sbW_cons];have hx:=h1.head;refine Pa.app ?_ (ih h1.tail);unfold sbL;split
   ·exact hlo _ (atW_mem (by omega))
   ·exact (hlo _ (atW_mem (by omega))).inv hg
theorem lessN_inv {a b:List Int} (la:LtW a) (lb:LtW b):LessN (invW a) (invW b)↔LessN a b:=by
 unfold LessN;rw [invW_len,invW_len,key_inv la,key_inv lb]
theorem nr_of_no {d:List (List Int)} (hd:OkL d) (h:nextM d=none):NR d.length (atW d):=by
 obtain ⟨h1,h2⟩:=nextM_no h;have hat:∀ i,i < d.length→d[i]?=some (atW d i):=fun i hi=>by
  unfold atW;rw [List.getD_eq_getElem?_getD,List.getElem?_eq_getElem hi]
  rfl
 have hl:∀ i,i < d.length→LtW (atW d i):=fun i hi=>(hd.ok _ (atW_mem hi)).1;have no:∀ (i k n:Nat),i < d.length→k < d.length→k≠i→n < 4→¬ LessN (mvRes (atW d i) (atW d k) n) (atW d i):=fun i k n hi hk hne hn hc =>
  h2 i k n _ _ (hat i hi) (hat k hk) hne hn ((cmpN_key (mvRes_rd (hl i hi) (hl k hk) n).1 (hl i hi)).2 hc)
 have flip:∀ {a b c:List Int},LtW a→LtW b→LtW c→LessN (red [] (a++b)) c→LessN (red [] (invW b++invW a)) (invW c):=fun {a b c} la lb lc hc=>by
  rw [← invW_app,← invW_red (la.app lb)];exact (lessN_inv (lt_red (la.app lb)) lc).2 hc
 have pos:∀ {x:Int},0 < x→sbL (atW d) x=atW d (x.toNat - 1):=fun hx=>by unfold sbL;rw [if_pos hx]
 have neg:∀ {x:Int},¬ 0 < x→sbL (atW d) x=invW (atW d ((-x).toNat - 1)):=fun hx=>by unfold sbL;rw [if_neg hx]
 refine ⟨hd.len,hl,fun i hi=>(hd.ok _ (atW_mem hi)).2.1,fun i hi=>h1 _ (atW_mem hi),fun x y hx hy n1 n2 hc=>?_,fun x y hx hy n1 n2 hc=>?_⟩
 ·have hx1:=ltK_one hx
  have hy1:=ltK_one hy;by_cases px:0 < x <;> by_cases py:0 < y
  ·rw [pos px,pos py] at hc
   exact no (x.toNat - 1) (y.toNat - 1) 0 (by omega) (by omega) (by omega) (by omega) hc
  ·rw [pos px,neg py] at hc
   exact no (x.toNat - 1) ((-y).toNat - 1) 1 (by omega) (by omega) (by omega) (by omega) hc
  ·rw [neg px,pos py] at hc
   have lx:=hl ((-x).toNat - 1) (by omega);have ly:=hl (y.toNat - 1) (by omega);have:=flip lx.inv ly lx.inv hc;rw [invW_invW lx] at this;exact no ((-x).toNat - 1) (y.toNat - 1) 3 (by omega) (by omega) (by omega) (by omega) this
  ·rw [neg px,neg py] at hc
   have lx:=hl ((-x).toNat - 1) (by omega);have ly:=hl ((-y).toNat - 1) (by omega);have:=flip lx.inv ly.inv lx.inv hc;rw [invW_invW lx,invW_invW ly] at this;exact no ((-x).toNat - 1) ((-y).toNat - 1) 2 (by omega) (by omega) (by omega) (by omega) this
 ·have hx1:=ltK_one hx
  have hy1:=ltK_one hy;by_cases px:0 < x <;> by_cases py:0 < y
  ·rw [pos px,pos py] at hc
   exact no (y.toNat - 1) (x.toNat - 1) 2 (by omega) (by omega) (by omega) (by omega) hc
  ·rw [pos px,neg py] at hc
   have lx:=hl (x.toNat - 1) (by omega);have ly:=hl ((-y).toNat - 1) (by omega);have:=flip lx ly.inv ly.inv hc;rw [invW_invW ly] at this;exact no ((-y).toNat - 1) (x.toNat - 1) 1 (by omega) (by omega) (by omega) (by omega) this
  ·rw [neg px,pos py] at hc
   exact no (y.toNat - 1) ((-x).toNat - 1) 3 (by omega) (by omega) (by omega) (by omega) hc
  ·rw [neg px,neg py] at hc
   have lx:=hl ((-x).toNat - 1) (by omega);have ly:=hl ((-y).toNat - 1) (by omega);have:=flip lx.inv ly.inv ly.inv hc;rw [invW_invW lx,invW_invW ly] at this;exact no ((-y).toNat - 1) ((-x).toNat - 1) 0 (by omega) (by omega) (by omega) (by omega) this
theorem flow_chi:∀ (n:Nat) (l:List (List Int)),l.length=n→(∀ w∈l,LtW w)→Rch (flowA l (1,[])).1 (flowA l (1,[])).2∧((flowA l (1,[])).2.length:Int) - (flowA l (1,[])).1≤(n:Int) - 1
 | 0,l,hn,_=>by
  obtain rfl:=List.length_eq_zero_iff.1 hn;refine ⟨?_,by decide⟩;intro v h0 h1;have h1:v < 1:=h1;exact ⟨[],by show (0:Int)=v;omega⟩
 | n+1,l,hn,hl=>by
  rcases snoc_cases l with rfl | ⟨m,w,rfl⟩
  ·simp at hn
  ·obtain ⟨h1,h2⟩:=flow_chi n m (by simp at hn;omega) fun x hx=>hl x (List.mem_append_left _ hx)
   have hw:LtW w:=hl w (by simp);have e:flowA (m++[w]) (1,[])=petalA (flowA m (1,[])) w:=by
    unfold flowA;rw [List.foldl_append]
    rfl
   rw [e];generalize flowA m (1,[])=g at h1 h2;unfold petalA;by_cases h0:w=[]
   ·rw [if_pos h0]
    exact ⟨h1,by omega⟩
   ·rw [if_neg h0]
    refine ⟨petal_rch (r:=0) h1 fun x hx=>(hw x hx).1,?_⟩;have:=canon_len (g.2++pathE 0 g.1 w 0 w.length);rw [List.length_append,pathE_len] at this;simp only;omega
theorem nr_rank {r:Nat} {l:List (List Int)} (hg:IsGr r (flowA l (1,[])).1 (flowA l (1,[])).2) (hd:OkL l) (h:nextM l=none):((coreA r (flowA l (1,[]))).2.length:Int) - (coreA r (flowA l (1,[]))).1+1=l.length:=by
 have hnr:=nr_of_no hd h;have hl2:∀ x∈l,LtW x:=fun x hx=>(hd.ok x hx).1;have hch:=core_chi hg (flow_chi l.length l rfl hl2).1;have hch2:=(flow_chi l.length l rfl hl2).2;have hco:=core_cor hg;have hlang:=fun {v:List Int} (hv:LtW v)=>core_lang hg hv;have hfw:=fun {v:List Int} (hv:LtW v) (h:GenL (flowA l (1,[])).2 v)=>flow_words hd.len hl2 hv h;have hlo:=(flow_gen l.length l rfl hd.len hl2).2.2.2;have e1:(flowA l (1,[]))=((flowA l (1,[])).1,(flowA l (1,[])).2):=rfl;rw [e1];generalize (flowA l (1,[])).2=fe at hg hch hch2 hco hlang hfw hlo;generalize (flowA l (1,[])).1=fs at hg hch hch2 hco hlang;generalize coreA (r:Int) (fs,fe)=C at hch hco hlang;obtain ⟨s,es⟩:=C;simp only at hco hlang ⊢;unfold chi at hch;simp only at hch;obtain ⟨n,rfl⟩:=Int.eq_ofNat_of_zero_le (show 0≤s by have:=hco.gr.size;omega);have hcount:=extra_count hco;have h3:=hd.len;have hE3:(extraE r es).length≤l.length:=by omega
 have hy:∀ i,i < l.length→Pa es 0 (atW l i) 0:=fun i hi=>by
  have hm:=atW_mem hi;have h1:InS es (atW l i):=(hlang (hl2 _ hm)).2 ⟨_,hl2 _ hm,Eqv.refl _,hlo _ hm⟩;unfold InS at h1
  rwa [red_self (hd.ok _ hm).2.1 (hl2 _ hm)] at h1
 have hex:∀ j,∃ z,j < (extraE r es).length→LtK l.length z∧Eqv (sbW (atW l) z) (basAt r es j):=fun j=>by
  by_cases hj:j < (extraE r es).length
  ·have he:(extraE r es)[j]?=some (extraE r es)[j]:=List.getElem?_eq_getElem hj
   have hb:=basisG_inS hco (w:=basAt r es j) (by rw [basAt_some he];exact List.mem_map.2 ⟨_,List.mem_of_getElem? he,rfl⟩);obtain ⟨z,k1,k2⟩:=hfw hb.1 ((hlang hb.1).1 hb.2);exact ⟨z,fun _=>⟨k1,k2⟩⟩
  ·exact ⟨[],fun h=>absurd h hj⟩
 have hle:=free_le hco (by omega) h3 (y:=atW l) (u:=fun j=>(hex j).choose) (fun i hi=>hl2 _ (atW_mem hi)) hy (fun j hj=>((hex j).choose_spec hj).1) (fun j hj=>((hex j).choose_spec hj).2) (fun w hw hr h0=>hnr.free hw hr h0);omega
end
section
open Go.RowKit
theorem LW.okL {l:List (List Int)} (h:LW l):OkL l:=⟨h.1,fun w hw=>⟨(h.2.2 w hw).2.1,(h.2.2 w hw).2.2,(h.2.2 w hw).1⟩⟩
theorem fld_im (r:Int) (A:Option Addr) (n c:Nat) (w:World):(Sem.run Tryz.prog (Instr.field 76 (.agg #[.int .i64 r,.slice A n c]) 1) w)=.ok (.slice A n c) w:=by kernel_rfl
theorem DrawReduceNielsen_any (A:Option Addr) (bs:List Int) (c:Nat) (w:World) (hi:Nat) (hb:OkB bs) (hl:bs.length≤1048576) (hr:RV w 0 hi A (byts bs)) :
  Calls Tryz.prog 7 #[.slice A bs.length c] w fun e w'=>∃ A' c' l,e=.returned (.slice A' (List.length l) c')∧OkL l∧OSS w' w.heap.size w'.heap.size 44 3 A' c' l∧Mid 0 0 w w':=by
 go_enter Tryz.func7,Tryz.ntmps7
 go_wp2_with fail;with_reducible refine (l1New_any A bs c w hi hb hl hr).mono ?_
 rintro e w2 ⟨p,rfl,hp,h2,m2⟩;have hs2:=m2.size;have hpl:=h2.lt;clear hr;go_wp2_with fail;with_reducible refine (l1OnceI 3 (by decide) (by decide) p A bs c _ hb hl h2).mono ?_
 rintro e w3 ⟨b3,rfl,h3,m3⟩;have hs3:=m3.size;have M3:=m2.transNew m3 (Or.inl hp);clear h2 m2 m3;cases b3
 ·go_wp2_with fail
  with_reducible refine (l20List_any p A bs c _ hb hl h3).mono ?_
  rintro e w4 ⟨Al,cl,rows,rfl,hd,hL,h4,m4⟩;have HD:Hid (OkL (rowsD rows)):=Lib.hid (LW.okL hd);have HO:=Lib.hid ((hL.base (lo':=w.heap.size) (by omega)).oss rfl);have M4:=M3.transNew m4 (Or.inl hp);clear hd hL h3 h4 m4;go_wp2_with fail;go_ret;exact ⟨Al,cl,rowsD rows,by rw [rowsD_len];rfl,HD.out,HO.out,M4⟩
 ·go_wp2_with fail
  with_reducible refine (l19Morphism_any p A bs c _ hb hl h3).mono ?_
  rintro e w4 ⟨r,Al,cl,l,rfl,⟨hr1,hr3,hlr,hw⟩,hO,h4,m4⟩;have hs4:=m4.size;have HD:Hid (OkL l):=Lib.hid ⟨by omega,hw⟩;have HO:=Lib.hid (hO.wide (lo':=w.heap.size) (by omega) (Nat.le_refl _) (Nat.le_refl _));have M4:=M3.transNew m4 (Or.inl hp);clear hO hw h3 h4 m4;have hfd:=fun w=>fld_im r Al l.length cl w;go_wp2_with fail;go_ret;exact ⟨Al,cl,l,rfl,HD.out,HO.out,M4⟩
end
section
open Go.RowKit
end
section
open Go.RowKit
end
section
open Go.RowKit
theorem big_any (A:Option Addr) (n c:Nat) (w:World) :
  Calls Tryz.prog 6 #[.slice A n c] w fun e w'=>e=.returned (.bool (decide ((n:Int) > 1048576)))∧w=w':=by
 go_enter Tryz.func6,Tryz.ntmps6
 go_wp2_with fail;all_goals
  go_ret;exact ⟨rfl,rfl⟩
theorem sameInts_any (A:Option Addr) (xs:List Int) (c:Nat) (A':Option Addr) (ys:List Int) (c':Nat) (w:World) (lo hi lo' hi':Nat) (h:RI w lo hi A xs) (h':RI w lo' hi' A' ys) (hl:xs.length≤1048576) (hl':ys.length≤1048576) (r:Bool) (hr:r=decide (xs=ys)) :
  Calls Tryz.prog 42 #[.slice A xs.length c,.slice A' ys.length c'] w (Stp (.bool r) w):=by
 have HR:=Lib.hid hr;clear hr;by_cases hne:xs.length=ys.length
 ·obtain ⟨n,hn⟩:∃ n,n=ys.length:=⟨_,rfl⟩
  rw [hne,← hn];have HN1:Hid (xs.length=n):=Lib.hid (by omega);have HN2:Hid (ys.length=n):=Lib.hid (by omega);have hl2:n≤1048576:=by omega
  clear hl hl' hne hn;go_enter Tryz.func42,Tryz.ntmps42
  go_wp2_with fail;go_loopw [5] (fun i wr=>∃ k:Nat,k≤n∧i=.int .i64 k∧Hid (xs.take k=ys.take k)∧(∃ m,wr=w.drewN m)) (fun i _=>n - (intOf i).toNat)
  case atStart=>exact ⟨0,Nat.zero_le _,rfl,Lib.hid rfl,0,rfl⟩
  case round =>
   obtain ⟨k,hk,rfl,HT,m,rfl⟩:=hrel;by_cases hlt:k < n
   ·obtain ⟨b,off,x,rfl, -,hx,hc⟩:=h.rs.int (k:=k) (by rw [HN1.out];exact hlt)
    obtain ⟨b',off',x',rfl, -,hx',hc'⟩:=h'.rs.int (k:=k) (by rw [HN2.out];exact hlt);have HX:=Lib.hid hx;have HX':=Lib.hid hx';clear hx hx';go_wp2_with fail;go_quiet (fail)
    by_cases hxx:x=x'
    ·subst hxx
     go_wp2_with fail;go_roundw
     case rel=>exact ⟨k+1,by omega,by go_num,Lib.hid (by rw [take_succ_of xs HX.out,take_succ_of ys HX'.out,HT.out]),_,rfl⟩
     case measure=>simp [intOf];omega
    ·go_wp2_with fail
     go_ret;have hrf:r=false:=by
      rw [HR.out];refine decide_eq_false fun e=>hxx ?_;have e1:=HX.out;rw [e,HX'.out] at e1;exact (Option.some.inj e1).symm
     rw [hrf];exact ⟨rfl,((Mid.refl 0 0 w).drewN _).drewN _⟩
   ·go_wp2_with fail
    go_ret;have hkn:k=n:=by omega
    have e1:=HT.out;rw [hkn,List.take_of_length_le (by rw [HN1.out];exact Nat.le_refl _),List.take_of_length_le (by rw [HN2.out];exact Nat.le_refl _)] at e1;have hrt:r=true:=by rw [HR.out];exact decide_eq_true e1
    rw [hrt];exact ⟨rfl,(Mid.refl 0 0 w).drewN _⟩
 ·have hrf:r=false:=by
   rw [HR.out];exact decide_eq_false fun e=>hne (by rw [e])
  rw [hrf];go_enter Tryz.func42,Tryz.ntmps42
  go_wp2_with fail;go_ret;exact ⟨rfl,Mid.refl 0 0 w⟩
end
section
open Go.RowKit
theorem sameInts_eq (A:Option Addr) (xs:List Int) (c:Nat) (A':Option Addr) (c':Nat) (w:World) (lo hi lo' hi':Nat) (h:RI w lo hi A xs) (h':RI w lo' hi' A' xs) (hl:xs.length≤1048576) :
  Calls Tryz.prog 42 #[.slice A xs.length c,.slice A' xs.length c'] w fun e w'=>e=.returned (.bool true)∧Mid 0 0 w w':=by
 refine (sameInts_any A xs c A' xs c' w lo hi lo' hi' h h' hl hl true (by simp)).mono ?_;rintro e w' ⟨rfl,h⟩;exact ⟨rfl,h⟩
end
section
open Go.RowKit
theorem sameWords_eq (A:Option Addr) (l:List (List Int)) (c:Nat) (A':Option Addr) (c':Nat) (w:World) (lo hi lo' hi':Nat) (h:RSS w lo hi A l) (h':RSS w lo' hi' A' l) (hl:l.length≤1048576) (hlx:∀ x∈l,x.length≤1048576) :
  Calls Tryz.prog 10 #[.slice A l.length c,.slice A' l.length c'] w fun e w'=>e=.returned (.bool true)∧Mid 0 0 w w':=by
 have HLX:=Lib.hid hlx;clear hlx;have hm:=Mid.refl 0 0 w;go_enter Tryz.func10,Tryz.ntmps10
 go_wp2_with fail;go_loopw [5] (fun iv wr=>∃ i:Nat,iv=.int .i64 i∧i≤l.length∧RSS wr lo hi A l∧RSS wr lo' hi' A' l∧Mid 0 0 w wr) (fun iv _=>l.length - (intOf iv).toNat)
 case atStart=>exact ⟨0,by go_num,Nat.zero_le _,h,h',hm⟩
 case round =>
  clear h h' hm;obtain ⟨i,rfl,hi2,h,h',hm⟩:=hrel;have hi0:(0:Int)≤(i:Int):=by omega
  by_cases hlt:i < l.length
  ·have hlt2:(i:Int) < (l.length:Int):=by omega
   obtain ⟨b1,f1,A1,c1,x,hA1, -,hb1,hx,hc1,hr1⟩:=h.row hlt;obtain ⟨b2,f2,A2,c2,y,hA2, -,hb2,hy,hc2,hr2⟩:=h'.row hlt;obtain rfl:x=y:=by rw [hx] at hy;exact Option.some.inj hy
   have hxl:=HLX.out x (List.mem_of_getElem? hx);have hw1:b1 < wr.heap.size:=Nat.lt_of_lt_of_le hb1 h.size;have hw2:b2 < wr.heap.size:=Nat.lt_of_lt_of_le hb2 h'.size;subst hA1;subst hA2;clear hx hy;have k1:=wg_cell hw1 hc1;have k2:=wg_cell hw2 hc2;have hq0:=fun m os=>sameInts_eq A1 x c1 A2 c2 (wg wr m os) _ _ _ _ (hr1.mid (Mid.ofWg wr m os) oZl) (hr2.mid (Mid.ofWg wr m os) oZl) hxl;go_upto_region 6 with fail
   clear hc1 hc2;refine wp_region_quiet_wg (by kernel_rfl) (by kernel_rfl) ?_;repeat
    (with_reducible refine wpQuiet_step (fun K hK=>?_))
    go_simp
    first
     | ((with_reducible refine hK _ ?_);clear hK K)
     | (rw [if_neg (by decide)];(with_reducible refine hK _ ?_);clear hK K)
     | (apply Exists.intro;refine ⟨fun _=>?_,hK _ ?_⟩;((go_at_call 42;with_reducible exact Calls.wg_of (hq0 _ _)));clear hK K)
   with_reducible refine wpQuiet_nil ?_
   intro _ hw';obtain ⟨⟨nq,osq⟩,hw''⟩:=hw';subst hw'';have hwg:=Mid.ofWg wr nq osq;generalize wg wr nq osq=w6 at hwg ⊢;replace h:=h.mid hwg oZl;replace h':=h'.mid hwg oZl;replace hm:=hm.trans hwg;clear hwg hq0 k1 k2 hr1 hr2;go_wp2_with fail;go_roundw
   case rel=>exact ⟨i+1,by go_num,by omega,h,h',hm⟩
   case measure=>simp [intOf];omega
  ·have hlt2:¬ (i:Int) < (l.length:Int):=by omega
   go_wp2_with fail;go_ret;exact ⟨rfl,hm⟩
end
section
open Go.RowKit
def replayM (d:List (List Int)):List Mv→List (List Int)→List (List Int) × Bool
 | [],x=>(x,true)
 | m :: t,x=>if (applyM x m).2=true then replayM d t (applyM x m).1 else (d,false)
def FitM:List Mv→List (List Int)→Prop
 | [],x=>x.length+sumL x≤1048576
 | m :: t,x=>OkSS x∧x.length+sumL x≤1048576∧((applyM x m).2=true→FitM t (applyM x m).1)
theorem FitM.len {x:List (List Int)}:∀ {ms:List Mv},FitM ms x→x.length+sumL x≤1048576
 | [],h=>h
 | _ :: _,h=>h.2.1
theorem drop_at {α:Type} {l:List α} {k:Nat} {m:α} (h:l[k]?=some m):l.drop k=m :: l.drop (k+1):=by
 obtain ⟨hk,e⟩:=List.getElem?_eq_some_iff.1 h;rw [List.drop_eq_getElem_cons hk,e]
theorem spec_ReplayMoves (A:Option Addr) (d:List (List Int)) (c:Nat) (B:Option Addr) (ms:List Mv) (cm:Nat) (w:World) (lo hi lo2 hi2:Nat) (hr:RSS w lo hi A d) (hm:RV w lo2 hi2 B (ints (mvsI ms))) (hml:ms.length≤1048576) (hok:OkSS d) (hl:d.length+sumL d≤1048576) (hfit:FitM ms d) (res:List (List Int)) (b:Bool) (hres:replayM d ms d=(res,b)) :
  Calls Tryz.prog 31 #[.slice A d.length c,.slice B ms.length cm] w fun e w'=>∃ A2 c2,e=.returned (.tuple #[.slice A2 res.length c2,.bool b])∧OSS w' w.heap.size w'.heap.size 44 3 A2 c2 res∧Mid 0 0 w w':=by
 have HFIT:=Lib.hid hfit;have HRES:=Lib.hid hres;have H28:=Lib.hid (fun xs (hx:xs∈d)=>show xs.length≤1073741824 by have:=len_le_sumL hx;omega);clear hfit hres;go_enter Tryz.func31,Tryz.ntmps31
 go_wp2_with fail;with_reducible refine (spec_l20Copy A d c _ _ _ hr (by omega) H28.out).mono ?_
 rintro e w1 ⟨A1,c1,rfl,ho1,hm1⟩;go_wp2_with fail;go_loopw [6,7,8,9] (fun v6 v7 _ _ wr=>∃ (k:Nat) (x:List (List Int)) (A2:Option Addr) (c2:Nat),v7=.int .i64 k∧v6=.slice A2 (List.length x) c2∧k≤ms.length∧Hid (replayM d (ms.drop k) x=(res,b))∧Hid (FitM (ms.drop k) x)∧OSS wr w.heap.size wr.heap.size 44 3 A2 c2 x∧Mid 0 0 w wr) (fun _ v7 _ _ _=>ms.length - (intOf v7).toNat)
 case atStart=>exact ⟨0,d,A1,c1,rfl,rfl,Nat.zero_le _,HRES,HFIT,ho1,hm1⟩
 case round =>
  clear HRES HFIT ho1 hm1;obtain ⟨wo,hwo⟩:∃ wo,wo=wr:=⟨_,rfl⟩
  subst hwo;obtain ⟨k,x,A2,c2,rfl,rfl,hk,HR,HF,ho,hmm⟩:=hrel;have hk0:(0:Int)≤(k:Int):=by omega
  by_cases hlt:k < ms.length
  ·have hkn:(k:Int) < (ms.length:Int):=by omega
   obtain ⟨bq,off,m,hA, -,hbh,hmk,e0,e1,e2,e3⟩:=(hm.mid hmm oZl).mv hlt;subst hA;have hb1:bq < wo.heap.size:=Nat.lt_of_lt_of_le hbh (Nat.le_trans hm.1 hmm.size);have hfk:=HF.out;have hrk:=HR.out;rw [drop_at hmk] at hfk hrk;obtain ⟨hxo,hxl,hnx⟩:=hfk;obtain ⟨y,t,hy⟩:∃ y t,applyM x m=(y,t):=⟨_,_,rfl⟩
   have HY:=Lib.hid hy;have HXO:=Lib.hid hxo;unfold replayM at hrk;rw [hy] at hnx hrk;have HN:=Lib.hid hnx;have HRK:=Lib.hid hrk;clear hmk hxo hnx hrk hy HR HF;go_wp2_with fail;refine (sspec_ApplyMove A2 x c2 m _ _ _ ho.rss HXO.out hxl trivial y t HY.out).mono ?_;rintro e w3 ⟨A4,c4,rfl,ho4,hm4⟩;have hsz0:=hmm.size;replace hmm:=hmm.trans hm4;clear ho e0 e1 e2 e3;cases t with
   | true =>
    have HR2:Hid (replayM d (ms.drop (k+1)) y=(res,b)):=Lib.hid (by have:=HRK.out;rwa [if_pos rfl] at this);have HF2:Hid (FitM (ms.drop (k+1)) y):=Lib.hid (HN.out rfl);clear HRK HN;go_wp2_with fail;go_roundw
    case rel=>exact ⟨k+1,y,A4,c4,by go_num,rfl,by omega,HR2,HF2,ho4.wide (by omega) (by have:=ho4.rss;exact ho4.1) (Nat.le_refl _),hmm⟩
    case measure=>simp [intOf];omega
   | false =>
    have hrd:d=res∧b=false:=by
     have:=HRK.out;rw [if_neg (by simp)] at this;exact ⟨(Prod.mk.inj this).1,(Prod.mk.inj this).2.symm⟩
    obtain ⟨rfl,rfl⟩:=hrd;clear HRK HN ho4;have hr2:=hr.mid hmm oZl;go_wp2_with fail;with_reducible refine (spec_l20Copy A d c _ _ _ hr2 (by omega) H28.out).mono ?_
    rintro e w5 ⟨A5,c5,rfl,ho5,hm5⟩;go_wp2_with fail;go_ret2;exact ⟨A5,c5,rfl,ho5.wide (by have:=hmm.size;omega) (by have:=ho5.rss;exact ho5.1) (Nat.le_refl _),hmm.trans hm5⟩
  ·have hkn:¬ (k:Int) < (ms.length:Int):=by omega
   have hrk:=HR.out;rw [List.drop_of_length_le (by omega)] at hrk;obtain ⟨rfl,rfl⟩:x=res∧true=b:=Prod.mk.inj hrk;clear hrk HR HF;go_wp2_with fail;go_ret2;exact ⟨A2,c2,rfl,ho,hmm⟩
theorem impl_ReplayMoves (A:Option Addr) (d:List (List Int)) (c:Nat) (B:Option Addr) (ms:List Mv) (cm:Nat) (w:World) (lo hi lo2 hi2:Nat) (hr:RSS w lo hi A d) (hm:RV w lo2 hi2 B (ints (mvsI ms))) (hml:ms.length≤1048576) (hok:OkSS d) (hl:d.length+sumL d≤1048576) (hfit:FitM ms d) (res:List (List Int)) (b:Bool) (hres:replayM d ms d=(res,b)) :
  Calls Tryz.prog 16 #[.slice A d.length c,.slice B ms.length cm] w fun e w'=>∃ A2 c2,e=.returned (.tuple #[.slice A2 res.length c2,.bool b])∧OSS w' w.heap.size w'.heap.size 44 3 A2 c2 res∧Mid 0 0 w w':=by
 have HFIT:=Lib.hid hfit;have HRES:=Lib.hid hres;have H28:=Lib.hid (fun xs (hx:xs∈d)=>show xs.length≤1073741824 by have:=len_le_sumL hx;omega);clear hfit hres;go_enter Tryz.func16,Tryz.ntmps16
 go_wp2_with fail;with_reducible refine (impl_copyLists A d c _ _ _ hr (by omega) H28.out).mono ?_
 rintro e w1 ⟨A1,c1,rfl,ho1,hm1⟩;go_wp2_with fail;go_loopw [6,15] (fun v6 v7 wr=>∃ (k:Nat) (x:List (List Int)) (A2:Option Addr) (c2:Nat),v7=.int .i64 k∧v6=.slice A2 (List.length x) c2∧k≤ms.length∧Hid (replayM d (ms.drop k) x=(res,b))∧Hid (FitM (ms.drop k) x)∧OSS wr w.heap.size wr.heap.size 44 3 A2 c2 x∧Mid 0 0 w wr) (fun _ v7 _=>ms.length - (intOf v7).toNat)
 case atStart=>exact ⟨0,d,A1,c1,rfl,rfl,Nat.zero_le _,HRES,HFIT,ho1,hm1⟩
 case round =>
  clear HRES HFIT ho1 hm1;obtain ⟨wo,hwo⟩:∃ wo,wo=wr:=⟨_,rfl⟩
  subst hwo;obtain ⟨k,x,A2,c2,rfl,rfl,hk,HR,HF,ho,hmm⟩:=hrel;have hk0:(0:Int)≤(k:Int):=by omega
  by_cases hlt:k < ms.length
  ·have hkn:(k:Int) < (ms.length:Int):=by omega
   obtain ⟨bq,off,m,hA, -,hbh,hmk,e0,e1,e2,e3⟩:=(hm.mid hmm oZl).mv hlt;subst hA;have hb1:bq < wo.heap.size:=Nat.lt_of_lt_of_le hbh (Nat.le_trans hm.1 hmm.size);have hfk:=HF.out;have hrk:=HR.out;rw [drop_at hmk] at hfk hrk;obtain ⟨hxo,hxl,hnx⟩:=hfk;obtain ⟨y,t,hy⟩:∃ y t,applyM x m=(y,t):=⟨_,_,rfl⟩
   have HY:=Lib.hid hy;have HXO:=Lib.hid hxo;unfold replayM at hrk;rw [hy] at hnx hrk;have HN:=Lib.hid hnx;have HRK:=Lib.hid hrk;have hal:=Mid.alloc wo (.cells #[.int .i64 m.kind,.int .i64 m.i,.int .i64 m.j,.int .i64 m.sign] 48);have B1:=Box.new wo #[.int .i64 m.kind,.int .i64 m.i,.int .i64 m.j,.int .i64 m.sign] 48;have hob:=ho.mid hal oZl;have hmb:=hmm.trans hal;have q0:=B1.cell 0 rfl;have q1:=B1.cell 1 rfl;have q2:=B1.cell 2 rfl;have q3:=B1.cell 3 rfl;clear hmk hxo hnx hrk hy HR HF;go_wp2_with fail;refine (simpl_ApplyMove A2 x c2 m _ _ _ hob.rss HXO.out hxl trivial y t HY.out).mono ?_;rintro e w3 ⟨A4,c4,rfl,ho4,hm4⟩;have hmc:=hmb.trans hm4;have hsz:=hal.size;have hsz2:=hmm.size;clear ho hob e0 e1 e2 e3 q0 q1 q2 q3 B1;cases t with
   | true =>
    have HR2:Hid (replayM d (ms.drop (k+1)) y=(res,b)):=Lib.hid (by have:=HRK.out;rwa [if_pos rfl] at this);have HF2:Hid (FitM (ms.drop (k+1)) y):=Lib.hid (HN.out rfl);clear HRK HN;go_wp2_with fail;go_roundw
    case rel=>exact ⟨k+1,y,A4,c4,by go_num,rfl,by omega,HR2,HF2,ho4.wide (by omega) (by have:=ho4.rss;exact ho4.1) (Nat.le_refl _),hmc⟩
    case measure=>simp [intOf];omega
   | false =>
    have hrd:d=res∧b=false:=by
     have:=HRK.out;rw [if_neg (by simp)] at this;exact ⟨(Prod.mk.inj this).1,(Prod.mk.inj this).2.symm⟩
    obtain ⟨rfl,rfl⟩:=hrd;clear HRK HN ho4;have hr2:=hr.mid hmc oZl;go_wp2_with fail;with_reducible refine (impl_copyLists A d c _ _ _ hr2 (by omega) H28.out).mono ?_
    rintro e w5 ⟨A5,c5,rfl,ho5,hm5⟩;go_wp2_with fail;go_ret2;exact ⟨A5,c5,rfl,ho5.wide (by have:=hmc.size;omega) (by have:=ho5.rss;exact ho5.1) (Nat.le_refl _),hmc.trans hm5⟩
  ·have hkn:¬ (k:Int) < (ms.length:Int):=by omega
   have hrk:=HR.out;rw [List.drop_of_length_le (by omega)] at hrk;obtain ⟨rfl,rfl⟩:x=res∧true=b:=Prod.mk.inj hrk;clear hrk HR HF;go_wp2_with fail;go_ret2;exact ⟨A2,c2,rfl,ho,hmm⟩
end
section
open Go.RowKit
theorem sameMoves_eq (A:Option Addr) (ms:List Mv) (c:Nat) (A':Option Addr) (c':Nat) (w:World) (lo hi lo' hi':Nat) (h:RV w lo hi A (ints (mvsI ms))) (h':RV w lo' hi' A' (ints (mvsI ms))) (hl:ms.length≤1048576) :
  Calls Tryz.prog 11 #[.slice A ms.length c,.slice A' ms.length c'] w fun e w'=>e=.returned (.bool true)∧Mid 0 0 w w':=by
 have hm:=Mid.refl 0 0 w;go_enter Tryz.func11,Tryz.ntmps11
 go_wp2_with fail;go_loopw [5] (fun iv wr=>∃ i:Nat,iv=.int .i64 i∧i≤ms.length∧RV wr lo hi A (ints (mvsI ms))∧RV wr lo' hi' A' (ints (mvsI ms))∧Mid 0 0 w wr) (fun iv _=>ms.length - (intOf iv).toNat)
 case atStart=>exact ⟨0,by go_num,Nat.zero_le _,h,h',hm⟩
 case round =>
  clear h h' hm;obtain ⟨i,rfl,hi2,h,h',hm⟩:=hrel;have hi0:(0:Int)≤(i:Int):=by omega
  by_cases hlt:i < ms.length
  ·have hlt2:(i:Int) < (ms.length:Int):=by omega
   obtain ⟨b1,f1,m,hA1, -,hb1,hx,e0,e1,e2,e3⟩:=h.mv hlt;obtain ⟨b2,f2,m2,hA2, -,hb2,hy,g0,g1,g2,g3⟩:=h'.mv hlt;obtain rfl:m=m2:=by rw [hx] at hy;exact Option.some.inj hy
   have hw1:b1 < wr.heap.size:=Nat.lt_of_lt_of_le hb1 h.1;have hw2:b2 < wr.heap.size:=Nat.lt_of_lt_of_le hb2 h'.1;subst hA1;subst hA2;clear hx hy;go_upto_region 6 with fail
   go_quiet (fail)
   go_wp2_with fail;go_roundw
   case rel=>exact ⟨i+1,by go_num,by omega,h,h',hm.drewN _⟩
   case measure=>simp [intOf];omega
  ·have hlt2:¬ (i:Int) < (ms.length:Int):=by omega
   go_wp2_with fail;go_ret;exact ⟨rfl,hm⟩
end
section
open Go.RowKit
def PathIs (r s:Int) (es:List Ed) (u:Int) (wd:List Int) (v:Int) (rs:Int) (res:List Ed) (b:Bool):Prop :=
 (b=true∧PathOk r s es u wd v∧rs=s+(wd.length:Int) - 1∧res=canon (es++pathE u s wd v wd.length)) ∨ (b=false∧¬ PathOk r s es u wd v∧rs=s∧res=es)
theorem PathIs.no {r s:Int} {es:List Ed} {u:Int} {wd:List Int} {v rs:Int} {res:List Ed} {b:Bool} (h:PathIs r s es u wd v rs res b) (hn:¬ PathOk r s es u wd v):b=false∧rs=s∧res=es:=by
 rcases h with ⟨-,h, -⟩ | ⟨h1, -,h2⟩
 ·exact absurd h hn
 ·exact ⟨h1,h2⟩
theorem PathIs.yes {r s:Int} {es:List Ed} {u:Int} {wd:List Int} {v rs:Int} {res:List Ed} {b:Bool} (h:PathIs r s es u wd v rs res b) (hn:PathOk r s es u wd v):b=true∧rs=s+(wd.length:Int) - 1∧res=canon (es++pathE u s wd v wd.length):=by
 rcases h with ⟨h1, -,h2⟩ | ⟨-,h, -⟩
 ·exact ⟨h1,h2⟩
 ·exact absurd hn h
theorem has_bool {x s:Int} (h1:1≤s) (h2:s≤40) {b:Bool} (hb:b=true↔0≤x∧x < s):inB x 0 (wrap64 (s - 1))=b∧inB x 0 (s - 1)=b:=by
 have hw:wrap64 (s - 1)=s - 1:=by unfold wrap64;omega
 rw [hw];have h3:inB x 0 (s - 1)=b:=by
  cases b with
  | true=>have:=hb.1 rfl;unfold inB;simp;omega
  | false =>
   have h:¬ (0≤x∧x < s):=fun h=>by have:=hb.2 h;cases this
   unfold inB;simp;omega
 exact ⟨h3,h3⟩
end
section
open Go.RowKit
theorem spec_AddPath (r s:Int) (A:Option Addr) (es:List Ed) (c:Nat) (u:Int) (Aw:Option Addr) (wd:List Int) (cw:Nat) (v:Int) (w:World) (lo hi lo' hi':Nat)
  (hr:RG w lo hi A es) (hw:RV w lo' hi' Aw (ints wd)) (hl:es.length≤1048576) (hwl:wd.length≤1048576) (hok:OkI wd) (rs:Int) (res:List Ed) (b:Bool) (hres:PathIs r s es u wd v rs res b) :
  Calls Tryz.prog 212 #[graV r s A es.length c,.int .i64 u,.slice Aw wd.length cw,.int .i64 v] w fun e w'=>∃ A1 c1,e=.returned (.tuple #[graV r rs A1 res.length c1,.bool b])∧OG w' w.heap.size w'.heap.size A1 c1 res∧Mid 0 0 w w':=by
 have HR:=Lib.hid hres;have HOK:=Lib.hid hok;clear hres hok;obtain ⟨b1,hb1⟩:=bool_of (IsGr r s es);obtain ⟨b2,hb2⟩:=bool_of (0≤u∧u < s);obtain ⟨b3,hb3⟩:=bool_of (0≤v∧v < s);obtain ⟨b4,hb4⟩:=bool_of (IsW r wd);have H1:=Lib.hid hb1;have H2:=Lib.hid hb2;have H3:=Lib.hid hb3;have H4:=Lib.hid hb4;clear hb1 hb2 hb3 hb4;have hm0:Mid 0 0 w ((w.alloc (.cells #[.int .i64 r,.int .i64 s,.slice A es.length c] 35)).alloc (.cells #[.int .i64 0,.int .i64 0,.slice none 0 0] 35)):=(Mid.alloc _ _).trans (Mid.alloc _ _);have B0:=(Box.new w #[.int .i64 r,.int .i64 s,.slice A es.length c] 35).mid (Mid.alloc _ (.cells #[.int .i64 0,.int .i64 0,.slice none 0 0] 35)) oZr;have B2:=Box.new (w.alloc (.cells #[.int .i64 r,.int .i64 s,.slice A es.length c] 35)) #[.int .i64 0,.int .i64 0,.slice none 0 0] 35;simp only [World.size_alloc] at B2;go_enter Tryz.func212,Tryz.ntmps212
 go_wp2_with fail;generalize hw1:((w.alloc (.cells #[.int .i64 r,.int .i64 s,.slice A es.length c] 35)).alloc (.cells #[.int .i64 0,.int .i64 0,.slice none 0 0] 35))=w1 at hm0 B0 B2 ⊢;have hs1:w1.heap.size=w.heap.size+1+1:=by rw [← hw1];simp
 have HS:=Lib.hid hs1;clear hw1 hs1;with_reducible refine (spec_l4Copy r s A es c _ _ _ (hr.mid hm0 oZl) hl).mono ?_
 rintro en w2 ⟨A1,c1,rfl,ho2,hm2⟩;have hal:=Mid.alloc w2 (.cells #[.int .i64 r,.int .i64 s,.slice A1 es.length c1] 35);have Y3:=Box.new w2 #[.int .i64 r,.int .i64 s,.slice A1 es.length c1] 35;replace B0:=B0.mid hm2 oZr;replace B2:=B2.mid hm2 oZr;replace hm0:=hm0.trans hm2;replace B0:=B0.mid hal oZr;replace B2:=B2.mid hal oZr;replace hm0:=hm0.trans hal;have hG2:w.heap.size+1 < w2.heap.size:=by have:=HS.out;have:=hm2.size;omega
 have ho5:=(ho2.mid hal oZl)
 have hlt2:=ho2.ov.2.2;have hb2k:Value.ownBlock (.slice A1 es.length c1)≠some w2.heap.size:=fun h=>by have:=hlt2 _ h;omega
 have p0:=B0.cell 0 rfl;have p1:=B0.cell 1 rfl;have p2:=B0.cell 2 rfl;go_wp2_with fail;generalize w2.alloc (.cells #[.int .i64 r,.int .i64 s,.slice A1 es.length c1] 35)=w3 at hm0 B0 B2 Y3 ho5 p0 p1 p2 ⊢;have hG3:w2.heap.size < w3.heap.size:=Y3.1;have HOW:=Lib.hid ho5.ov.2.1;have HBK:=Lib.hid hb2k;have ho6:=ho5.wide (Nat.le_refl _) (Nat.le_refl _) (Nat.le_of_lt hG3);generalize hG:w2.heap.size=G at Y3 hG2 hG3 ho5 HBK ⊢;have HGW:=Lib.hid (show w1.heap.size≤G by rw [← hG];exact hm2.size);clear hG hal hm2 hlt2 hb2k ho2 ho6;with_reducible refine (spec_IsGraph r s A es c _ _ _ (hr.mid hm0 oZl).rv hl b1 H1.out).mono ?_
 rintro en w4 ⟨rfl,hm4⟩;replace B0:=B0.mid hm4 oZr;replace B2:=B2.mid hm4 oZr;replace Y3:=Y3.mid hm4 oZr;replace ho5:=ho5.mid hm4 oZl;replace hm0:=hm0.trans hm4;replace HOW:=Lib.hid (owns_mid HOW.out hm4 oZl);clear hm4;cases b1 with
 | false =>
  have hno:¬ PathOk r s es u wd v:=fun h=>by have:=H1.out.2 h.gr;cases this
  clear p0 p1 p2;obtain ⟨rfl,rfl,rfl⟩:=HR.out.no hno;have a0:=B2.cell 0 rfl;have a1:=B2.cell 1 rfl;have a2:=B2.cell 2 rfl;have q0:=Y3.cell 0 rfl;have q1:=Y3.cell 1 rfl;have q2:=Y3.cell 2 rfl;have af:=B2.2.2;go_wp2_with fail;refine bodyPost_ret (v:=.tuple #[.agg #[.int .i64 r,.int .i64 rs,.slice A1 res.length c1],.bool false]) (by simp [results,Tryz.results212,go_sem,a0,a1,a2,af,q0,q1,q2]) rfl ⟨A1,c1,rfl,?_,?_⟩
  ·refine OG.wide (OG.mid ho5 (a:=w.heap.size) (b:=w.heap.size+2) ?_ (Or.inl (by have:=HS.out;omega))) (by have:=HS.out;omega) (by have:=ho5.size;simp;omega) (Nat.le_refl _)
   repeat (first | exact Mid.refl _ _ _ | refine Mid.stored ?_ _ (by simp;try omega) (by simp;try omega))
  ·repeat (first | exact hm0 | refine Mid.storeNew ?_ (by simp;try omega) _)
 | true =>
 have hgr:=H1.out.1 rfl;have hsz:=hgr.size;have hln:=hgr.len;have hrk:=hgr.rank;have GR:=Lib.hid hgr;clear hgr H1;have hwsub:IntKind.i64.wrap (s - 1)=s - 1:=IntWalk.i64_in _ (by omega);clear p0 p1 p2;have p0:=B0.cell 0 rfl;have p1:=B0.cell 1 rfl;have p2:=B0.cell 2 rfl;go_wp2_with fail;with_reducible refine (l1In_at (has_bool hsz.1 hsz.2 H2.out).2 _).mono ?_
 rintro en w5 ⟨rfl,rfl⟩;cases b2 with
 | false =>
  have hno:¬ PathOk r s es u wd v:=fun h=>by have:=H2.out.2 h.u0;cases this
  clear p0 p1 p2;obtain ⟨rfl,rfl,rfl⟩:=HR.out.no hno;have a0:=B2.cell 0 rfl;have a1:=B2.cell 1 rfl;have a2:=B2.cell 2 rfl;have q0:=Y3.cell 0 rfl;have q1:=Y3.cell 1 rfl;have q2:=Y3.cell 2 rfl;have af:=B2.2.2;go_wp2_with fail;refine bodyPost_ret (v:=.tuple #[.agg #[.int .i64 r,.int .i64 rs,.slice A1 res.length c1],.bool false]) (by simp [results,Tryz.results212,go_sem,a0,a1,a2,af,q0,q1,q2]) rfl ⟨A1,c1,rfl,?_,?_⟩
  ·refine OG.wide (OG.mid ho5 (a:=w.heap.size) (b:=w.heap.size+2) ?_ (Or.inl (by have:=HS.out;omega))) (by have:=HS.out;omega) (by have:=ho5.size;simp;omega) (Nat.le_refl _)
   repeat (first | exact Mid.refl _ _ _ | refine Mid.stored ?_ _ (by simp;try omega) (by simp;try omega))
  ·repeat (first | exact hm0 | refine Mid.storeNew ?_ (by simp;try omega) _)
 | true =>
 have hxu:=H2.out.1 rfl;clear H2;clear p0 p1 p2;have p0:=B0.cell 0 rfl;have p1:=B0.cell 1 rfl;have p2:=B0.cell 2 rfl;go_wp2_with fail;with_reducible refine (l1In_at (has_bool hsz.1 hsz.2 H3.out).2 _).mono ?_
 rintro en w6 ⟨rfl,rfl⟩;cases b3 with
 | false =>
  have hno:¬ PathOk r s es u wd v:=fun h=>by have:=H3.out.2 h.v0;cases this
  clear p0 p1 p2;obtain ⟨rfl,rfl,rfl⟩:=HR.out.no hno;have a0:=B2.cell 0 rfl;have a1:=B2.cell 1 rfl;have a2:=B2.cell 2 rfl;have q0:=Y3.cell 0 rfl;have q1:=Y3.cell 1 rfl;have q2:=Y3.cell 2 rfl;have af:=B2.2.2;go_wp2_with fail;refine bodyPost_ret (v:=.tuple #[.agg #[.int .i64 r,.int .i64 rs,.slice A1 res.length c1],.bool false]) (by simp [results,Tryz.results212,go_sem,a0,a1,a2,af,q0,q1,q2]) rfl ⟨A1,c1,rfl,?_,?_⟩
  ·refine OG.wide (OG.mid ho5 (a:=w.heap.size) (b:=w.heap.size+2) ?_ (Or.inl (by have:=HS.out;omega))) (by have:=HS.out;omega) (by have:=ho5.size;simp;omega) (Nat.le_refl _)
   repeat (first | exact Mid.refl _ _ _ | refine Mid.stored ?_ _ (by simp;try omega) (by simp;try omega))
  ·repeat (first | exact hm0 | refine Mid.storeNew ?_ (by simp;try omega) _)
 | true =>
 have hxv:=H3.out.1 rfl;clear H3;clear p0 p1 p2;have p0:=B0.cell 0 rfl;have p1:=B0.cell 1 rfl;have p2:=B0.cell 2 rfl;go_wp2_with fail;with_reducible refine (spec_IsWord r Aw wd cw _ _ ((hw.mid hm0 oZl).rs) HOK.out (by omega) b4 H4.out).mono ?_
 rintro en w7 ⟨rfl,nd,hwd7⟩;have hm7:Mid 0 0 w4 w7:=by rw [hwd7];exact (Mid.refl 0 0 w4).drewN nd
 clear hwd7;replace B0:=B0.mid hm7 oZr;replace B2:=B2.mid hm7 oZr;replace Y3:=Y3.mid hm7 oZr;replace ho5:=ho5.mid hm7 oZl;replace hm0:=hm0.trans hm7;replace HOW:=Lib.hid (owns_mid HOW.out hm7 oZl);clear hm7;cases b4 with
 | false =>
  have hno:¬ PathOk r s es u wd v:=fun h=>by have:=H4.out.2 h.word;cases this
  clear p0 p1 p2;obtain ⟨rfl,rfl,rfl⟩:=HR.out.no hno;have a0:=B2.cell 0 rfl;have a1:=B2.cell 1 rfl;have a2:=B2.cell 2 rfl;have q0:=Y3.cell 0 rfl;have q1:=Y3.cell 1 rfl;have q2:=Y3.cell 2 rfl;have af:=B2.2.2;go_wp2_with fail;refine bodyPost_ret (v:=.tuple #[.agg #[.int .i64 r,.int .i64 rs,.slice A1 res.length c1],.bool false]) (by simp [results,Tryz.results212,go_sem,a0,a1,a2,af,q0,q1,q2]) rfl ⟨A1,c1,rfl,?_,?_⟩
  ·refine OG.wide (OG.mid ho5 (a:=w.heap.size) (b:=w.heap.size+2) ?_ (Or.inl (by have:=HS.out;omega))) (by have:=HS.out;omega) (by have:=ho5.size;simp;omega) (Nat.le_refl _)
   repeat (first | exact Mid.refl _ _ _ | refine Mid.stored ?_ _ (by simp;try omega) (by simp;try omega))
  ·repeat (first | exact hm0 | refine Mid.storeNew ?_ (by simp;try omega) _)
 | true =>
 have hwd:=H4.out.1 rfl;have hwd24:=hwd.2.2.1;have HWD:=Lib.hid hwd;clear hwd H4;clear p0 p1 p2;have p0:=B0.cell 0 rfl;have p1:=B0.cell 1 rfl;have p2:=B0.cell 2 rfl;by_cases hne:wd=[]
 ·subst hne
  have hno:¬ PathOk r s es u [] v:=fun h=>h.ne rfl;clear p0 p1 p2;obtain ⟨rfl,rfl,rfl⟩:=HR.out.no hno;have a0:=B2.cell 0 rfl;have a1:=B2.cell 1 rfl;have a2:=B2.cell 2 rfl;have q0:=Y3.cell 0 rfl;have q1:=Y3.cell 1 rfl;have q2:=Y3.cell 2 rfl;have af:=B2.2.2;go_wp2_with fail;refine bodyPost_ret (v:=.tuple #[.agg #[.int .i64 r,.int .i64 rs,.slice A1 res.length c1],.bool false]) (by simp [results,Tryz.results212,go_sem,a0,a1,a2,af,q0,q1,q2]) rfl ⟨A1,c1,rfl,?_,?_⟩
  ·refine OG.wide (OG.mid ho5 (a:=w.heap.size) (b:=w.heap.size+2) ?_ (Or.inl (by have:=HS.out;omega))) (by have:=HS.out;omega) (by have:=ho5.size;simp;omega) (Nat.le_refl _)
   repeat (first | exact Mid.refl _ _ _ | refine Mid.stored ?_ _ (by simp;try omega) (by simp;try omega))
  ·repeat (first | exact hm0 | refine Mid.storeNew ?_ (by simp;try omega) _)
 have hpos:0 < wd.length:=List.length_pos_iff.2 hne;have d4:((wd.length:Int) == 0)=false:=by simp only [beq_eq_false_iff_ne];omega
 have HNE:=Lib.hid hne;clear hne;clear p0 p1 p2;have p0:=B0.cell 0 rfl;have p1:=B0.cell 1 rfl;have p2:=B0.cell 2 rfl;have d5':IntKind.i64.wrap (s+(wd.length:Int))=s+(wd.length:Int):=IntWalk.i64_in _ (by omega);have d5'':IntKind.i64.wrap (s+(wd.length:Int) - 1)=s+(wd.length:Int) - 1:=IntWalk.i64_in _ (by omega);by_cases hsl:40 < s+(wd.length:Int) - 1
 ·have hno:¬ PathOk r s es u wd v:=fun h=>by have:=h.sz;omega
  have d5:decide (40 < s+(wd.length:Int) - 1)=true:=by simpa using hsl
  clear p1;clear p0 p2;have p0:=B0.cell 0 rfl;have p1:=B0.cell 1 rfl;have p2:=B0.cell 2 rfl;obtain ⟨rfl,rfl,rfl⟩:=HR.out.no hno;have a0:=B2.cell 0 rfl;have a1:=B2.cell 1 rfl;have a2:=B2.cell 2 rfl;have q0:=Y3.cell 0 rfl;have q1:=Y3.cell 1 rfl;have q2:=Y3.cell 2 rfl;have af:=B2.2.2;go_wp2_with fail;refine bodyPost_ret (v:=.tuple #[.agg #[.int .i64 r,.int .i64 rs,.slice A1 res.length c1],.bool false]) (by simp [results,Tryz.results212,go_sem,a0,a1,a2,af,q0,q1,q2]) rfl ⟨A1,c1,rfl,?_,?_⟩
  ·refine OG.wide (OG.mid ho5 (a:=w.heap.size) (b:=w.heap.size+2) ?_ (Or.inl (by have:=HS.out;omega))) (by have:=HS.out;omega) (by have:=ho5.size;simp;omega) (Nat.le_refl _)
   repeat (first | exact Mid.refl _ _ _ | refine Mid.stored ?_ _ (by simp;try omega) (by simp;try omega))
  ·repeat (first | exact hm0 | refine Mid.storeNew ?_ (by simp;try omega) _)
 have d5:decide (40 < s+(wd.length:Int) - 1)=false:=by simpa using hsl
 by_cases hll:120 < es.length+wd.length
 ·have hno:¬ PathOk r s es u wd v:=fun h=>by have:=h.ln;omega
  have d6:decide (120 < (es.length:Int)+(wd.length:Int))=true:=by simp;omega
  obtain ⟨rfl,rfl,rfl⟩:=HR.out.no hno;have a0:=B2.cell 0 rfl;have a1:=B2.cell 1 rfl;have a2:=B2.cell 2 rfl;have q0:=Y3.cell 0 rfl;have q1:=Y3.cell 1 rfl;have q2:=Y3.cell 2 rfl;have af:=B2.2.2;go_wp2_with fail;refine bodyPost_ret (v:=.tuple #[.agg #[.int .i64 r,.int .i64 rs,.slice A1 res.length c1],.bool false]) (by simp [results,Tryz.results212,go_sem,a0,a1,a2,af,q0,q1,q2]) rfl ⟨A1,c1,rfl,?_,?_⟩
  ·refine OG.wide (OG.mid ho5 (a:=w.heap.size) (b:=w.heap.size+2) ?_ (Or.inl (by have:=HS.out;omega))) (by have:=HS.out;omega) (by have:=ho5.size;simp;omega) (Nat.le_refl _)
   repeat (first | exact Mid.refl _ _ _ | refine Mid.stored ?_ _ (by simp;try omega) (by simp;try omega))
  ·repeat (first | exact hm0 | refine Mid.storeNew ?_ (by simp;try omega) _)
 have d6:decide (120 < (es.length:Int)+(wd.length:Int))=false:=by simp;omega
 obtain ⟨rfl,hrs,hre⟩:=HR.out.yes ⟨GR.out,hxu,hxv,HWD.out,HNE.out,by omega,by omega⟩;have HRS:=Lib.hid hrs;have HRE:=Lib.hid hre;have hasc:=Lib.hid GR.out.asc;clear hrs hre HR;have hwn:IntKind.i64.wrap ((wd.length:Int) - 1)=(wd.length:Int) - 1:=IntWalk.i64_in _ (by omega);have hletb:=Lib.hid HWD.out.2.2.2.1;have q0:=Y3.cell 0 rfl;have q1:=Y3.cell 1 rfl;have q2:=Y3.cell 2 rfl;go_wp2_with fail;clear p0 p1 p2 q0 q1 q2;go_loopw [11,12] (fun at_ i wr=>∃ (k:Nat) (A2:Option Addr) (c2 lo2 hi2:Nat) (xs:List Ed) (sz:Int),k≤wd.length∧i=.int .i64 k∧at_=.int .i64 (pathV u s wd.length v k)∧Hid (sz=s+((min k (wd.length - 1):Nat):Int))∧Hid (xs=putAll es (pathE u s wd v k)) ∧
  OG wr lo2 hi2 A2 c2 xs∧(hi2≤G ∨ G+1≤lo2)∧w1.heap.size≤lo2 ∧
  Box wr w.heap.size [.int .i64 r,.int .i64 s,.slice A es.length c]∧Box wr (w.heap.size+1) [.int .i64 0,.int .i64 0,.slice none 0 0] ∧
  Box wr G [.int .i64 r,.int .i64 sz,.slice A2 xs.length c2]∧Mid 0 0 w wr) (fun _ i _=>wd.length - (intOf i).toNat)
 case atStart=>exact ⟨0,A1,c1,_,_,es,s,Nat.zero_le _,rfl,rfl,Lib.hid (by simp),Lib.hid (by simp [pathE,putAll]),ho5,.inl (Nat.le_refl _),Nat.le_refl _,B0,B2,Y3,hm0⟩
 case round =>
  clear B0 B2 Y3 hm0 ho5 HOW HBK hG3;obtain ⟨k,A2,c2,lo2,hi2,xs,sz,hk,rfl,rfl,HSZ,HX,hown,hdis,hlo2,Z0,Z2,Z3,hmr⟩:=hrel;have hszv:=HSZ.out;have hxl:xs.length≤1000:=by
   have h1:=putAll_len es (pathE u s wd v k);rw [← HX.out,pathE_len] at h1;omega
  by_cases hlt:k < wd.length
  ·obtain ⟨B,off,x,rfl,hbh,hx,hcx⟩:=(hw.mid hmr oZl).at hlt
   have hxb:=hletb.out x (List.mem_of_getElem? hx);have hkn:(k:Int) < (wd.length:Int):=by omega
   have hk0:(0:Int)≤(k:Int):=by omega
   have hpe:=pathE_succ (u:=u) (s:=s) (v:=v) hx;have HPE:=Lib.hid hpe;have hGr:G < wr.heap.size:=Z3.1;have hBw:B < wr.heap.size:=by have:=hw.1;have:=hmr.size;omega
   have hBG:B < G:=by have:=hw.1;omega
   have hw1r:w1.heap.size≤wr.heap.size:=by have:=HGW.out;omega
   clear hx hpe;generalize hat:pathV u s wd.length v k=at0 at HPE ⊢;clear hat;rcases (by omega:0 < x ∨ x < 0) with hx0 | hx0
   ·have dx:decide (0 < x)=true:=by simpa using hx0
    have hst0:∀ t,stepE at0 x t=⟨at0,x,t⟩:=fun t=>by rw [stepE,if_neg (by omega)]
    rw [hst0] at HPE;clear hst0;by_cases hlast:k+1 < wd.length
    ·have hmin:((min k (wd.length - 1):Nat):Int)=(k:Int):=by rw [Nat.min_eq_left (by omega)]
     have hmin2:((min (k+1) (wd.length - 1):Nat):Int)=(k:Int)+1:=by rw [Nat.min_eq_left (by omega)];rfl
     rw [hmin] at hszv;subst hszv;have hto:pathV u s wd.length v (k+1)=s+(k:Int):=by
      rw [pathV,if_neg (by omega),if_pos hlast];omega
     rw [hto] at HPE;have dk:decide ((k:Int)+1 < (wd.length:Int))=true:=by simp;omega
     have hws:IntKind.i64.wrap (s+(k:Int)+1)=s+(k:Int)+1:=IntWalk.i64_in _ (by omega);have q1:=Z3.cell 1 rfl;have qf:=Z3.2.2;have hst:=Mid.setCell wr (lo:=G) (hi:=G+1) (p:=⟨G,1,none⟩) (.int .i64 (s+(k:Int)+1)) (Nat.le_refl _) (Nat.lt_succ_self _);have V0:=Z0.mid hst (Or.inl (by omega));have V2:=Z2.mid hst (Or.inl (by omega));have V3:=Z3.set 1 (.int .i64 (s+(k:Int)+1)) (by simp) rfl;have hownV:=hown.mid hst (by omega);have hcV:=cell_keep hst hBw (Or.inl hBG) hcx;have hmv:=hmr.storeNew (p:=⟨G,1,none⟩) (by show w.heap.size≤G;omega) (.int .i64 (s+(k:Int)+1));have hsV:(wr.setCell ⟨G,1,none⟩ (.int .i64 (s+(k:Int)+1))).heap.size=wr.heap.size:=by simp
     go_wp2_with fail;clear dk dx;generalize wr.setCell ⟨G,1,none⟩ (.int .i64 (s+(k:Int)+1))=wx at V0 V2 V3 hownV hmv hsV hcV ⊢;have hnsz:Hid (s+(k:Int)+1=s+((min (k+1) (wd.length - 1):Nat):Int)):=Lib.hid (by rw [hmin2];omega);clear Z0 Z2 Z3 hown hmr q1 qf hst hcx hmin hmin2 HSZ;simp only [List.set_cons_succ,List.set_cons_zero] at V3;generalize s+(k:Int)+1=sz' at V3 hnsz;generalize s+(k:Int)=tz at HPE hto ⊢;have hGx:G < wx.heap.size:=V3.1;have hmd:=Mid.drew1 wx;have U0:=V0.mid hmd oZr;have U2:=V2.mid hmd oZr;have U3:=V3.mid hmd oZr;have hownU:=hownV.mid hmd oZl;have hmu:=hmv.trans hmd;have g2:=U3.cell 2 rfl;have f0:=cell_keep hmd (by omega) oZr hcV;clear V0 V2 V3 hownV hmv hmd hcV;refine wp_region_T (S:=(fun w'=>w'.cell? ⟨G,2,none⟩=some (.slice A2 xs.length c2)∧w'.cell? ⟨B,off+k,none⟩=some (.int .i64 x))) 11 (by kernel_rfl) ⟨g2,f0⟩ ?_;generalize World.drew wx=wz at U0 U2 U3 hownU hmu f0 g2 ⊢;have hS:wz.cell? ⟨G,2,none⟩=some (.slice A2 xs.length c2)∧wz.cell? ⟨B,off+k,none⟩=some (.int .i64 x):=⟨g2,f0⟩
     refine tkT 0 rfl hS ?_;try simp only [Act.put,zs1,zs2,zs3,zs4,zs5,zs6]
     refine tkT 1 rfl hS ?_;try simp only [Act.put,zs1,zs2,zs3,zs4,zs5,zs6]
     refine tkT 2 rfl hS ?_;try simp only [Act.put,zs1,zs2,zs3,zs4,zs5,zs6]
     refine tkT 3 rfl hS ?_;try simp only [Act.put,zs1,zs2,zs3,zs4,zs5,zs6]
     refine tkT 4 rfl hS ?_;try simp only [Act.put,zs1,zs2,zs3,zs4,zs5,zs6]
     refine tkT 5 rfl hS ?_;try simp only [Act.put,zs1,zs2,zs3,zs4,zs5,zs6]
     refine tkT 6 rfl hS ?_;try simp only [Act.put,zs1,zs2,zs3,zs4,zs5,zs6]
     refine tkT 7 rfl hS ?_;try simp only [Act.put,zs1,zs2,zs3,zs4,zs5,zs6]
     refine tkT 8 rfl hS ?_;try simp only [Act.put,zs1,zs2,zs3,zs4,zs5,zs6]
     have hP:=spec_l4Put A2 xs c2 ⟨at0,x,tz⟩ wz _ _ hownU.rg (by omega);refine rdT 9 rfl (fun K hK=>?_)
     (go_simp;(with_reducible refine hP.mono ?_);rintro en w9 ⟨A9,c9,rfl,ho9,hm9⟩;have T0':=U0.mid hm9 oZr;have T2':=U2.mid hm9 oZr;have T3':=U3.mid hm9 oZr;have f0':=cell_keep hm9 (by have:=U3.1;omega) oZr f0;go_wp2_with fail)
     refine hK.out _ _ (Or.inr ⟨T3'.cell 2 rfl,f0'⟩) (fun _=>?_);clear hK K;try simp only [Act.put,zs1,zs2,zs3,zs4,zs5,zs6]
     have hmr9:=hmu.trans hm9;have hGz:G < wz.heap.size:=U3.1;have hS3:=And.intro (T3'.cell 2 rfl) f0';have hr2:=T3'.cell 2 rfl;have hrf:=T3'.2.2;clear hS U0 U2 U3 hmu hP;refine tkT 10 rfl hS3 ?_;try simp only [Act.put,zs1,zs2,zs3,zs4,zs5,zs6]
     refine rdT 11 rfl (fun K hK=>?_)
     (go_simp)
     refine hK.out _ _ (Or.inl rfl) (fun _=>?_);clear hK K;try simp only [Act.put,zs1,zs2,zs3,zs4,zs5,zs6]
     refine wpAnyT_done (by kernel_rfl) ?_ _;go_wp2_with fail;go_roundw
     case rel =>
      have hst:=Mid.setCell w9 (lo:=G) (hi:=G+1) (p:=⟨G,2,none⟩) (.slice A9 (putE ⟨at0,x,tz⟩ xs).length c9) (Nat.le_refl _) (Nat.lt_succ_self _);refine ⟨k+1,A9,c9,_,_,putE ⟨at0,x,tz⟩ xs,sz',by omega,by go_num,by rw [hto],hnsz,Lib.hid ?_,ho9.mid hst (Or.inl (by omega)),.inr (by omega),by have:=HGW.out;omega,T0'.mid hst (Or.inl (by omega)),T2'.mid hst (Or.inl (by omega)),T3'.set 2 _ (by simp) rfl,hmr9.storeNew (by show w.heap.size≤G;omega) _⟩;rw [HPE.out,putAll_snoc,← HX.out]
     case measure=>simp [intOf];omega
    ·have hkl:k+1=wd.length:=by omega
     have hmin:min k (wd.length - 1)=min (k+1) (wd.length - 1):=by omega
     have hnsz:Hid (sz=s+((min (k+1) (wd.length - 1):Nat):Int)):=Lib.hid (by rw [hszv,hmin]);have hto:pathV u s wd.length v (k+1)=v:=by
      rw [pathV,if_neg (by omega),if_neg (by omega)]
     rw [hto] at HPE;have dk:decide ((k:Int)+1 < (wd.length:Int))=false:=by simp;omega
     clear hszv hmin HSZ;generalize sz=sz' at Z3 hnsz;go_wp2_with fail;clear dk dx;have V0:=Z0;have V2:=Z2;have V3:=Z3;have hownV:=hown;have hmv:=hmr;have hcV:=hcx;obtain ⟨wx,hwx⟩:∃ wx,wr=wx:=⟨_,rfl⟩
     have hsV:wx.heap.size=wr.heap.size:=by rw [hwx]
     rw [hwx] at V0 V2 V3 hownV hmv hcV ⊢;clear Z0 Z2 Z3 hown hmr hcx;have hGx:G < wx.heap.size:=V3.1;have hmd:=Mid.drew1 wx;have U0:=V0.mid hmd oZr;have U2:=V2.mid hmd oZr;have U3:=V3.mid hmd oZr;have hownU:=hownV.mid hmd oZl;have hmu:=hmv.trans hmd;have g2:=U3.cell 2 rfl;have f0:=cell_keep hmd (by omega) oZr hcV;clear V0 V2 V3 hownV hmv hmd hcV;refine wp_region_T (S:=(fun w'=>w'.cell? ⟨G,2,none⟩=some (.slice A2 xs.length c2)∧w'.cell? ⟨B,off+k,none⟩=some (.int .i64 x))) 11 (by kernel_rfl) ⟨g2,f0⟩ ?_;generalize World.drew wx=wz at U0 U2 U3 hownU hmu f0 g2 ⊢;have hS:wz.cell? ⟨G,2,none⟩=some (.slice A2 xs.length c2)∧wz.cell? ⟨B,off+k,none⟩=some (.int .i64 x):=⟨g2,f0⟩
     refine tkT 0 rfl hS ?_;try simp only [Act.put,zs1,zs2,zs3,zs4,zs5,zs6]
     refine tkT 1 rfl hS ?_;try simp only [Act.put,zs1,zs2,zs3,zs4,zs5,zs6]
     refine tkT 2 rfl hS ?_;try simp only [Act.put,zs1,zs2,zs3,zs4,zs5,zs6]
     refine tkT 3 rfl hS ?_;try simp only [Act.put,zs1,zs2,zs3,zs4,zs5,zs6]
     refine tkT 4 rfl hS ?_;try simp only [Act.put,zs1,zs2,zs3,zs4,zs5,zs6]
     refine tkT 5 rfl hS ?_;try simp only [Act.put,zs1,zs2,zs3,zs4,zs5,zs6]
     refine tkT 6 rfl hS ?_;try simp only [Act.put,zs1,zs2,zs3,zs4,zs5,zs6]
     refine tkT 7 rfl hS ?_;try simp only [Act.put,zs1,zs2,zs3,zs4,zs5,zs6]
     refine tkT 8 rfl hS ?_;try simp only [Act.put,zs1,zs2,zs3,zs4,zs5,zs6]
     have hP:=spec_l4Put A2 xs c2 ⟨at0,x,v⟩ wz _ _ hownU.rg (by omega);refine rdT 9 rfl (fun K hK=>?_)
     (go_simp;(with_reducible refine hP.mono ?_);rintro en w9 ⟨A9,c9,rfl,ho9,hm9⟩;have T0':=U0.mid hm9 oZr;have T2':=U2.mid hm9 oZr;have T3':=U3.mid hm9 oZr;have f0':=cell_keep hm9 (by have:=U3.1;omega) oZr f0;go_wp2_with fail)
     refine hK.out _ _ (Or.inr ⟨T3'.cell 2 rfl,f0'⟩) (fun _=>?_);clear hK K;try simp only [Act.put,zs1,zs2,zs3,zs4,zs5,zs6]
     have hmr9:=hmu.trans hm9;have hGz:G < wz.heap.size:=U3.1;have hS3:=And.intro (T3'.cell 2 rfl) f0';have hr2:=T3'.cell 2 rfl;have hrf:=T3'.2.2;clear hS U0 U2 U3 hmu hP;refine tkT 10 rfl hS3 ?_;try simp only [Act.put,zs1,zs2,zs3,zs4,zs5,zs6]
     refine rdT 11 rfl (fun K hK=>?_)
     (go_simp)
     refine hK.out _ _ (Or.inl rfl) (fun _=>?_);clear hK K;try simp only [Act.put,zs1,zs2,zs3,zs4,zs5,zs6]
     refine wpAnyT_done (by kernel_rfl) ?_ _;go_wp2_with fail;go_roundw
     case rel =>
      have hst:=Mid.setCell w9 (lo:=G) (hi:=G+1) (p:=⟨G,2,none⟩) (.slice A9 (putE ⟨at0,x,v⟩ xs).length c9) (Nat.le_refl _) (Nat.lt_succ_self _);refine ⟨k+1,A9,c9,_,_,putE ⟨at0,x,v⟩ xs,sz',by omega,by go_num,by rw [hto],hnsz,Lib.hid ?_,ho9.mid hst (Or.inl (by omega)),.inr (by omega),by have:=HGW.out;omega,T0'.mid hst (Or.inl (by omega)),T2'.mid hst (Or.inl (by omega)),T3'.set 2 _ (by simp) rfl,hmr9.storeNew (by show w.heap.size≤G;omega) _⟩;rw [HPE.out,putAll_snoc,← HX.out]
     case measure=>simp [intOf];omega
   ·have dx:decide (0 < x)=false:=by simp;omega
    have hst0:∀ t,stepE at0 x t=⟨t, -x,at0⟩:=fun t=>by rw [stepE,if_pos hx0]
    have hwx1:IntKind.i64.wrap (-x) = -x:=IntWalk.i64_in _ (by omega);have hwx2:wrap64 (-x) = -x:=by unfold wrap64;omega
    rw [hst0] at HPE;clear hst0;by_cases hlast:k+1 < wd.length
    ·have hmin:((min k (wd.length - 1):Nat):Int)=(k:Int):=by rw [Nat.min_eq_left (by omega)]
     have hmin2:((min (k+1) (wd.length - 1):Nat):Int)=(k:Int)+1:=by rw [Nat.min_eq_left (by omega)];rfl
     rw [hmin] at hszv;subst hszv;have hto:pathV u s wd.length v (k+1)=s+(k:Int):=by
      rw [pathV,if_neg (by omega),if_pos hlast];omega
     rw [hto] at HPE;have dk:decide ((k:Int)+1 < (wd.length:Int))=true:=by simp;omega
     have hws:IntKind.i64.wrap (s+(k:Int)+1)=s+(k:Int)+1:=IntWalk.i64_in _ (by omega);have q1:=Z3.cell 1 rfl;have qf:=Z3.2.2;have hst:=Mid.setCell wr (lo:=G) (hi:=G+1) (p:=⟨G,1,none⟩) (.int .i64 (s+(k:Int)+1)) (Nat.le_refl _) (Nat.lt_succ_self _);have V0:=Z0.mid hst (Or.inl (by omega));have V2:=Z2.mid hst (Or.inl (by omega));have V3:=Z3.set 1 (.int .i64 (s+(k:Int)+1)) (by simp) rfl;have hownV:=hown.mid hst (by omega);have hcV:=cell_keep hst hBw (Or.inl hBG) hcx;have hmv:=hmr.storeNew (p:=⟨G,1,none⟩) (by show w.heap.size≤G;omega) (.int .i64 (s+(k:Int)+1));have hsV:(wr.setCell ⟨G,1,none⟩ (.int .i64 (s+(k:Int)+1))).heap.size=wr.heap.size:=by simp
     go_wp2_with fail;clear dk dx;generalize wr.setCell ⟨G,1,none⟩ (.int .i64 (s+(k:Int)+1))=wx at V0 V2 V3 hownV hmv hsV hcV ⊢;have hnsz:Hid (s+(k:Int)+1=s+((min (k+1) (wd.length - 1):Nat):Int)):=Lib.hid (by rw [hmin2];omega);clear Z0 Z2 Z3 hown hmr q1 qf hst hcx hmin hmin2 HSZ;simp only [List.set_cons_succ,List.set_cons_zero] at V3;generalize s+(k:Int)+1=sz' at V3 hnsz;generalize s+(k:Int)=tz at HPE hto ⊢;have hGx:G < wx.heap.size:=V3.1;have hmd:=Mid.drew1 wx;have U0:=V0.mid hmd oZr;have U2:=V2.mid hmd oZr;have U3:=V3.mid hmd oZr;have hownU:=hownV.mid hmd oZl;have hmu:=hmv.trans hmd;have g2:=U3.cell 2 rfl;have f0:=cell_keep hmd (by omega) oZr hcV;clear V0 V2 V3 hownV hmv hmd hcV;refine wp_region_T (S:=(fun w'=>w'.cell? ⟨G,2,none⟩=some (.slice A2 xs.length c2)∧w'.cell? ⟨B,off+k,none⟩=some (.int .i64 x))) 12 (by kernel_rfl) ⟨g2,f0⟩ ?_;generalize World.drew wx=wz at U0 U2 U3 hownU hmu f0 g2 ⊢;have hS:wz.cell? ⟨G,2,none⟩=some (.slice A2 xs.length c2)∧wz.cell? ⟨B,off+k,none⟩=some (.int .i64 x):=⟨g2,f0⟩
     refine tkT 0 rfl hS ?_;try simp only [Act.put,zs1,zs2,zs3,zs4,zs5,zs6]
     refine tkT 1 rfl hS ?_;try simp only [Act.put,zs1,zs2,zs3,zs4,zs5,zs6]
     refine tkT 2 rfl hS ?_;try simp only [Act.put,zs1,zs2,zs3,zs4,zs5,zs6]
     refine tkT 3 rfl hS ?_;try simp only [Act.put,zs1,zs2,zs3,zs4,zs5,zs6]
     refine tkT 4 rfl hS ?_;try simp only [Act.put,zs1,zs2,zs3,zs4,zs5,zs6]
     refine tkT 5 rfl hS ?_;try simp only [Act.put,zs1,zs2,zs3,zs4,zs5,zs6]
     refine tkT 6 rfl hS ?_;try simp only [Act.put,zs1,zs2,zs3,zs4,zs5,zs6]
     refine tkT 7 rfl hS ?_;try simp only [Act.put,zs1,zs2,zs3,zs4,zs5,zs6]
     refine tkT 8 rfl hS ?_;try simp only [Act.put,zs1,zs2,zs3,zs4,zs5,zs6]
     refine tkT 9 rfl hS ?_;try simp only [Act.put,zs1,zs2,zs3,zs4,zs5,zs6]
     have hP:=spec_l4Put A2 xs c2 ⟨tz, -x,at0⟩ wz _ _ hownU.rg (by omega);refine rdT 10 rfl (fun K hK=>?_)
     (go_simp;(try simp only [hwx1,hwx2]);(with_reducible refine hP.mono ?_);rintro en w9 ⟨A9,c9,rfl,ho9,hm9⟩;have T0':=U0.mid hm9 oZr;have T2':=U2.mid hm9 oZr;have T3':=U3.mid hm9 oZr;have f0':=cell_keep hm9 (by have:=U3.1;omega) oZr f0;go_wp2_with fail)
     refine hK.out _ _ (Or.inr ⟨T3'.cell 2 rfl,f0'⟩) (fun _=>?_);clear hK K;try simp only [Act.put,zs1,zs2,zs3,zs4,zs5,zs6]
     have hmr9:=hmu.trans hm9;have hGz:G < wz.heap.size:=U3.1;have hS3:=And.intro (T3'.cell 2 rfl) f0';have hr2:=T3'.cell 2 rfl;have hrf:=T3'.2.2;clear hS U0 U2 U3 hmu hP;refine tkT 11 rfl hS3 ?_;try simp only [Act.put,zs1,zs2,zs3,zs4,zs5,zs6]
     refine rdT 12 rfl (fun K hK=>?_)
     (go_simp)
     refine hK.out _ _ (Or.inl rfl) (fun _=>?_);clear hK K;try simp only [Act.put,zs1,zs2,zs3,zs4,zs5,zs6]
     refine wpAnyT_done (by kernel_rfl) ?_ _;go_wp2_with fail;go_roundw
     case rel =>
      have hst:=Mid.setCell w9 (lo:=G) (hi:=G+1) (p:=⟨G,2,none⟩) (.slice A9 (putE ⟨tz, -x,at0⟩ xs).length c9) (Nat.le_refl _) (Nat.lt_succ_self _);refine ⟨k+1,A9,c9,_,_,putE ⟨tz, -x,at0⟩ xs,sz',by omega,by go_num,by rw [hto],hnsz,Lib.hid ?_,ho9.mid hst (Or.inl (by omega)),.inr (by omega),by have:=HGW.out;omega,T0'.mid hst (Or.inl (by omega)),T2'.mid hst (Or.inl (by omega)),T3'.set 2 _ (by simp) rfl,hmr9.storeNew (by show w.heap.size≤G;omega) _⟩;rw [HPE.out,putAll_snoc,← HX.out]
     case measure=>simp [intOf];omega
    ·have hkl:k+1=wd.length:=by omega
     have hmin:min k (wd.length - 1)=min (k+1) (wd.length - 1):=by omega
     have hnsz:Hid (sz=s+((min (k+1) (wd.length - 1):Nat):Int)):=Lib.hid (by rw [hszv,hmin]);have hto:pathV u s wd.length v (k+1)=v:=by
      rw [pathV,if_neg (by omega),if_neg (by omega)]
     rw [hto] at HPE;have dk:decide ((k:Int)+1 < (wd.length:Int))=false:=by simp;omega
     clear hszv hmin HSZ;generalize sz=sz' at Z3 hnsz;go_wp2_with fail;clear dk dx;have V0:=Z0;have V2:=Z2;have V3:=Z3;have hownV:=hown;have hmv:=hmr;have hcV:=hcx;obtain ⟨wx,hwx⟩:∃ wx,wr=wx:=⟨_,rfl⟩
     have hsV:wx.heap.size=wr.heap.size:=by rw [hwx]
     rw [hwx] at V0 V2 V3 hownV hmv hcV ⊢;clear Z0 Z2 Z3 hown hmr hcx;have hGx:G < wx.heap.size:=V3.1;have hmd:=Mid.drew1 wx;have U0:=V0.mid hmd oZr;have U2:=V2.mid hmd oZr;have U3:=V3.mid hmd oZr;have hownU:=hownV.mid hmd oZl;have hmu:=hmv.trans hmd;have g2:=U3.cell 2 rfl;have f0:=cell_keep hmd (by omega) oZr hcV;clear V0 V2 V3 hownV hmv hmd hcV;refine wp_region_T (S:=(fun w'=>w'.cell? ⟨G,2,none⟩=some (.slice A2 xs.length c2)∧w'.cell? ⟨B,off+k,none⟩=some (.int .i64 x))) 12 (by kernel_rfl) ⟨g2,f0⟩ ?_;generalize World.drew wx=wz at U0 U2 U3 hownU hmu f0 g2 ⊢;have hS:wz.cell? ⟨G,2,none⟩=some (.slice A2 xs.length c2)∧wz.cell? ⟨B,off+k,none⟩=some (.int .i64 x):=⟨g2,f0⟩
     refine tkT 0 rfl hS ?_;try simp only [Act.put,zs1,zs2,zs3,zs4,zs5,zs6]
     refine tkT 1 rfl hS ?_;try simp only [Act.put,zs1,zs2,zs3,zs4,zs5,zs6]
     refine tkT 2 rfl hS ?_;try simp only [Act.put,zs1,zs2,zs3,zs4,zs5,zs6]
     refine tkT 3 rfl hS ?_;try simp only [Act.put,zs1,zs2,zs3,zs4,zs5,zs6]
     refine tkT 4 rfl hS ?_;try simp only [Act.put,zs1,zs2,zs3,zs4,zs5,zs6]
     refine tkT 5 rfl hS ?_;try simp only [Act.put,zs1,zs2,zs3,zs4,zs5,zs6]
     refine tkT 6 rfl hS ?_;try simp only [Act.put,zs1,zs2,zs3,zs4,zs5,zs6]
     refine tkT 7 rfl hS ?_;try simp only [Act.put,zs1,zs2,zs3,zs4,zs5,zs6]
     refine tkT 8 rfl hS ?_;try simp only [Act.put,zs1,zs2,zs3,zs4,zs5,zs6]
     refine tkT 9 rfl hS ?_;try simp only [Act.put,zs1,zs2,zs3,zs4,zs5,zs6]
     have hP:=spec_l4Put A2 xs c2 ⟨v, -x,at0⟩ wz _ _ hownU.rg (by omega);refine rdT 10 rfl (fun K hK=>?_)
     (go_simp;(try simp only [hwx1,hwx2]);(with_reducible refine hP.mono ?_);rintro en w9 ⟨A9,c9,rfl,ho9,hm9⟩;have T0':=U0.mid hm9 oZr;have T2':=U2.mid hm9 oZr;have T3':=U3.mid hm9 oZr;have f0':=cell_keep hm9 (by have:=U3.1;omega) oZr f0;go_wp2_with fail)
     refine hK.out _ _ (Or.inr ⟨T3'.cell 2 rfl,f0'⟩) (fun _=>?_);clear hK K;try simp only [Act.put,zs1,zs2,zs3,zs4,zs5,zs6]
     have hmr9:=hmu.trans hm9;have hGz:G < wz.heap.size:=U3.1;have hS3:=And.intro (T3'.cell 2 rfl) f0';have hr2:=T3'.cell 2 rfl;have hrf:=T3'.2.2;clear hS U0 U2 U3 hmu hP;refine tkT 11 rfl hS3 ?_;try simp only [Act.put,zs1,zs2,zs3,zs4,zs5,zs6]
     refine rdT 12 rfl (fun K hK=>?_)
     (go_simp)
     refine hK.out _ _ (Or.inl rfl) (fun _=>?_);clear hK K;try simp only [Act.put,zs1,zs2,zs3,zs4,zs5,zs6]
     refine wpAnyT_done (by kernel_rfl) ?_ _;go_wp2_with fail;go_roundw
     case rel =>
      have hst:=Mid.setCell w9 (lo:=G) (hi:=G+1) (p:=⟨G,2,none⟩) (.slice A9 (putE ⟨v, -x,at0⟩ xs).length c9) (Nat.le_refl _) (Nat.lt_succ_self _);refine ⟨k+1,A9,c9,_,_,putE ⟨v, -x,at0⟩ xs,sz',by omega,by go_num,by rw [hto],hnsz,Lib.hid ?_,ho9.mid hst (Or.inl (by omega)),.inr (by omega),by have:=HGW.out;omega,T0'.mid hst (Or.inl (by omega)),T2'.mid hst (Or.inl (by omega)),T3'.set 2 _ (by simp) rfl,hmr9.storeNew (by show w.heap.size≤G;omega) _⟩;rw [HPE.out,putAll_snoc,← HX.out]
     case measure=>simp [intOf];omega
  ·obtain rfl:k=wd.length:=by omega
   have hszf:sz=s+(wd.length:Int) - 1:=by rw [hszv,Nat.min_eq_right (by omega)];omega
   subst hszf;have hxx:=HX.out;rw [putAll_canon hasc.out] at hxx;have hGr:G < wr.heap.size:=Z3.1;have HXX:=Lib.hid hxx;clear hszv hxx;have a0:=Z2.cell 0 rfl;have a1:=Z2.cell 1 rfl;have a2:=Z2.cell 2 rfl;have b0:=Z3.cell 0 rfl;have b1:=Z3.cell 1 rfl;have b2:=Z3.cell 2 rfl;have af:=Z2.2.2;have bf:=Z3.2.2;go_wp2_with fail;have hcl:(w.heap.size+1 == G)=false:=by simp;omega
   refine bodyPost_ret (v:=.tuple #[.agg #[.int .i64 r,.int .i64 (s+(wd.length:Int) - 1),.slice A2 xs.length c2],.bool true]) (by simp [results,Tryz.results212,go_sem,a0,a1,a2,b0,b1,b2,af,bf]) rfl ⟨A2,c2,?_,?_,?_⟩
   ·rw [HRS.out,HRE.out,HXX.out]
   ·rw [HRE.out,← HXX.out]
    refine OG.wide (OG.mid hown (a:=w.heap.size) (b:=w.heap.size+2) ?_ (Or.inl (by have:=HS.out;omega))) (by have:=HS.out;omega) (by have:=hown.size;simp;omega) (Nat.le_refl _);repeat (first | exact Mid.refl _ _ _ | refine Mid.stored ?_ _ (by simp;try omega) (by simp;try omega))
   ·repeat (first | exact hmr | refine Mid.storeNew ?_ (by simp;try omega) _)
end
def foldsUp (es:List Ed):Nat→List (Int × Int)
 | 0=>[]
 | k+1=>foldsUp es k++(match es[k]? with | none=>[] | some e=>(es.drop (k+1)).flatMap (foldsAB e))
theorem foldsUp_succ {es:List Ed} {k:Nat} {e:Ed} (h:es[k]?=some e):foldsUp es (k+1)=foldsUp es k++(es.drop (k+1)).flatMap (foldsAB e):=by
 rw [foldsUp,h]
theorem foldsUp_cons (f:Ed) (t:List Ed):∀ k,foldsUp (f :: t) (k+1)=t.flatMap (foldsAB f)++foldsUp t k
 | 0=>by simp [foldsUp]
 | k+1=>by
  rw [foldsUp,foldsUp_cons f t k,foldsUp,List.append_assoc];simp
theorem foldsUp_all:∀ es:List Ed,foldsUp es es.length=folds es
 | []=>rfl
 | f :: t=>by rw [List.length_cons,foldsUp_cons,foldsUp_all t,folds]
theorem foldsAB_len (e f:Ed):(foldsAB e f).length≤2:=by
 unfold foldsAB;split
 ·split <;> split <;> simp
 ·simp
theorem flat_len (e:Ed):∀ t:List Ed,(t.flatMap (foldsAB e)).length≤2 * t.length
 | []=>by simp
 | f :: t=>by
  have:=flat_len e t;have:=foldsAB_len e f;rw [List.flatMap_cons,List.length_append,List.length_cons];omega
theorem foldsUp_len (es:List Ed):∀ k,(foldsUp es k).length≤k * (2 * es.length)
 | 0=>by simp [foldsUp]
 | k+1=>by
  have:=foldsUp_len es k;rw [foldsUp,List.length_append,Nat.succ_mul];cases h:es[k]? with
  | none=>simp;omega
  | some e =>
   have h1:=flat_len e (es.drop (k+1));rw [List.length_drop] at h1;simp only;omega
def fdI (ps:List (Int × Int)):List Int:=(ps.map fun p=>[p.1,p.2]).flatten
theorem fdI_append (a b:List (Int × Int)):fdI (a++b)=fdI a++fdI b:=by simp [fdI]
theorem fdI_one (p:Int × Int):fdI [p]=[p.1,p.2]:=by simp [fdI]
theorem fdI_head (p:Int × Int) (t:List (Int × Int)):fdI (p :: t)=p.1 :: p.2 :: fdI t:=by simp [fdI]
theorem flat_take {e:Ed} {fs:List Ed} {j:Nat} {f:Ed} (h:fs[j]?=some f):(fs.take (j+1)).flatMap (foldsAB e)=(fs.take j).flatMap (foldsAB e)++foldsAB e f:=by
 rw [take_snoc h,List.flatMap_append];simp
section
open Go.RowKit
theorem infoF:(Tryz.prog.info? 179).map (fun i=>(i.zero,i.size,i.bytes))=some (some (.agg #[.int .i64 0,.int .i64 0]),2,16):=by kernel_rfl
theorem undSF:Tryz.prog.underlying 152=some (.slice 179):=by kernel_rfl
section
variable {W:World} {ops:Array Oper} {rest:List Oper} {o:Oper} {a:Act} {Q:Exit→Act→World→Prop}
theorem wpList_pushF (hgd:o.guard=none) (s x:Operand)
  (ho:o.op=.call { callee:=.builtin .append,args:=#[s,x],argTypes:=#[152,152] }) (lo:Nat) (A:Option Addr) (n c:Nat) (ps:List (Int × Int)) (hs:a.eval s=.slice A n c)
  (hown:W.ownsRow lo 179 2 (.slice A n c) n (ints (fdI ps))) (p:Int × Int) (hx:a.eval x=.slice (some ⟨W.heap.size,0,none⟩) 1 1) (hn:n≤1048576) (hb:lo≤W.heap.size)
  (h:∀ A' c' w',w'.ownsRow lo 179 2 (.slice A' (n+1) c') (n+1) (ints (fdI (ps++[p])))→W.grownBy w' (Value.ownBlock (.slice A n c))→(Value.ownBlock (.slice A' (n+1) c')=Value.ownBlock (.slice A n c) ∨ Value.ownBlock (.slice A' (n+1) c')=some (W.heap.size+1))→wpList Tryz.prog ops Q rest (a.put o.dst (.slice A' (n+1) c')) w') :
  wpList Tryz.prog ops Q (o :: rest) a (W.alloc (.cells #[.int .i64 p.1,.int .i64 p.2] 179)):=by
 refine wpList_push (news:=[.int .i64 p.1,.int .i64 p.2]) hgd s x 152 ho lo 179 (.agg #[.int .i64 0,.int .i64 0]) 2 16 undSF infoF rfl (by decide) (.slice A n c) n (ints (fdI ps)) hs hown 1 hx rfl ?_ (by unfold maxLen;omega) (by omega) hb ?_
 ·intro u hu
  simp at hu;rcases hu with rfl | rfl <;> rfl
 ·intro v' w' h1 h2 h3
  obtain ⟨A',c',rfl, -, -⟩:=owns_shape h1;refine h A' c' w' ?_ h2 h3;rw [fdI_append,ints_append,fdI_one];exact h1
end
end
section
open Go.RowKit
attribute [local go_sem ↓] Go.wp_at_zero Go.wp_at_succ
def FirstIs (es:List Ed) (p:Int × Int) (b:Bool):Prop:=(b=false∧folds es=[]∧p=(0,0)) ∨ (b=true∧∃ t,folds es=p :: t)
end
section
open Go.RowKit
attribute [local go_sem ↓] Go.wp_at_zero Go.wp_at_succ
end
section
open Go.RowKit
def OnceIs (s:Int) (es:List Ed) (p:Int × Int) (b:Bool) (rs:Int) (res:List Ed):Prop :=
 (b=false∧folds es=[]∧p=(0,0)∧rs=s∧res=es) ∨ (b=true∧(∃ t,folds es=p :: t)∧rs=s - 1∧res=mergeE p es)
theorem OnceIs.first {s:Int} {es:List Ed} {p:Int × Int} {b:Bool} {rs:Int} {res:List Ed} (h:OnceIs s es p b rs res):FirstIs es p b:=by
 rcases h with ⟨h1,h2,h3, -⟩ | ⟨h1,h2, -⟩
 ·exact .inl ⟨h1,h2,h3⟩
 ·exact .inr ⟨h1,h2⟩
theorem OnceIs.ex (s:Int) (es:List Ed):∃ p b rs res,OnceIs s es p b rs res:=by
 cases h:folds es with
 | nil=>exact ⟨(0,0),false,s,es,.inl ⟨rfl,h,rfl,rfl,rfl⟩⟩
 | cons p t=>exact ⟨p,true,s - 1,mergeE p es,.inr ⟨rfl,⟨t,h⟩,rfl,rfl⟩⟩
end
end Go.Proofs.YtkimajabegojoaaGreat
