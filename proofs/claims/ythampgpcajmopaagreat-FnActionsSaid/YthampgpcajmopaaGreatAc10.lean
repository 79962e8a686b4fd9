/- Contracts and lemmas of this seat, many texts in one: see the words ahead of each. No condition beyond those typed in each lemma. -/
import Derived.Test.YthampgpcajmopaaGreatAc9
import Derived.Test.YthampgpcajmopaaGreatAc2
import Derived.Test.YthampgpcajmopaaGreatAc1
import Derived.Test.YthampgpcajmopaaGreatAc3
import Derived.Test.YthampgpcajmopaaGreatAc8
import Derived.Test.YthampgpcajmopaaGreatAc4
import Derived.Test.YthampgpcajmopaaGreatAc6
import Derived.Test.YthampgpcajmopaaGreatAc5
import Derived.Test.YthampgpcajmopaaGreatAc7

namespace Go.Proofs.YthampgpcajmopaaGreat
set_option linter.unusedVariables false
set_option linter.unusedSimpArgs false
set_option maxHeartbeats 40000000
set_option maxRecDepth 100000
section
open Go.RowKit
end
section
open Go.RowKit
end
section
open Go.RowKit
end
section
open Go.RowKit
end
section
open Go.RowKit
theorem spec_AddPetal (r s:Int) (A:Option Addr) (es:List Ed) (c:Nat) (Aw:Option Addr) (wd:List Int) (cw:Nat) (w:World) (lo hi lo' hi':Nat) (hr:RG w lo hi A es) (hw:RV w lo' hi' Aw (ints wd)) (hl:es.length≤1048576) (hwl:wd.length≤1048576) (hok:OkI wd) (rs:Int) (res:List Ed) (b:Bool) (hres:PathIs r s es 0 wd 0 rs res b) :
  Calls Tryz.prog 105 #[graV r s A es.length c,.slice Aw wd.length cw] w fun e w'=>∃ A1 c1,e=.returned (.tuple #[graV r rs A1 res.length c1,.bool b])∧OG w' w.heap.size w'.heap.size A1 c1 res∧Mid 0 0 w w':=by
 have hm0:Mid 0 0 w ((w.alloc (.cells #[.int .i64 r,.int .i64 s,.slice A es.length c] 26)).alloc (.cells #[.int .i64 0,.int .i64 0,.slice none 0 0] 26)):=(Mid.alloc _ _).trans (Mid.alloc _ _);have b0:=(Box.new w #[.int .i64 r,.int .i64 s,.slice A es.length c] 26).mid (Mid.alloc _ (.cells #[.int .i64 0,.int .i64 0,.slice none 0 0] 26)) oZr;have b2:=Box.new (w.alloc (.cells #[.int .i64 r,.int .i64 s,.slice A es.length c] 26)) #[.int .i64 0,.int .i64 0,.slice none 0 0] 26;simp only [World.size_alloc] at b2;have HR:=Lib.hid hres;have HOK:=Lib.hid hok;clear hres hok;go_enter Tryz.func105,Tryz.ntmps105
 go_wp2_with fail;generalize ((w.alloc (.cells #[.int .i64 r,.int .i64 s,.slice A es.length c] 26)).alloc (.cells #[.int .i64 0,.int .i64 0,.slice none 0 0] 26))=w1 at hm0 b0 b2 ⊢;have hs1:w.heap.size+1 < w1.heap.size:=b2.1;with_reducible refine (spec_AddPath r s A es c 0 Aw wd cw 0 w1 _ _ _ _ (hr.mid hm0 oZl) (hw.mid hm0 oZl) hl hwl HOK.out rs res b HR.out).mono ?_
 rintro en w2 ⟨A2,c2,rfl,ho2,hm2⟩;replace b0:=b0.mid hm2 oZr;replace b2:=b2.mid hm2 oZr;replace hm0:=hm0.trans hm2;have hs2:=hm2.size;have ha2:=Mid.alloc w2 (.cells #[.int .i64 r,.int .i64 rs,.slice A2 res.length c2] 26);have Y2:=Box.new w2 #[.int .i64 r,.int .i64 rs,.slice A2 res.length c2] 26;have hs4:w.heap.size+1 < w2.heap.size:=by omega
 have hs5:w.heap.size < w2.heap.size:=by omega
 have q0:=Y2.cell 0 rfl;have q1:=Y2.cell 1 rfl;have q2:=Y2.cell 2 rfl;have z0:=b2.cell 0 rfl;have z1:=b2.cell 1 rfl;have z2:=b2.cell 2 rfl;have zf:=b2.2.2;clear ha2;go_wp2_with fail;refine bodyPost_ret (v:=.tuple #[.agg #[.int .i64 r,.int .i64 rs,.slice A2 res.length c2],.bool b]) (by simp [results,Tryz.results105,go_sem,z0,z1,z2,zf,q0,q1,q2,hs4,hs5,World.cell?_alloc_lt]) rfl ⟨A2,c2,rfl,?_,?_⟩
 ·refine OG.wide (OG.mid ho2 (a:=w.heap.size+1) (b:=w.heap.size+2) ?_ (Or.inl (by omega))) (by omega) (by simp;try omega) (Nat.le_refl _)
  repeat (first | exact Mid.refl _ _ _ | refine Mid.trans ?_ (Mid.zero (Mid.alloc _ _)) | refine Mid.stored ?_ _ (by simp;try omega) (by simp;try omega))
 ·repeat (first | exact hm0 | refine Mid.trans ?_ (Mid.alloc _ _) | refine Mid.storeNew ?_ (by simp;try omega) _)
end
def permE (x:Int) (p:List Int) (k:Nat):List Ed:=(List.range k).map fun (v:Nat)=>⟨(v:Int),x,p.getD v 0⟩
theorem permE_succ {x y:Int} {p:List Int} {k:Nat} (h:p[k]?=some y):permE x p (k+1)=permE x p k++[⟨(k:Int),x,y⟩]:=by simp [permE,List.range_succ,List.getD,h]
theorem permE_len (x:Int) (p:List Int) (k:Nat):(permE x p k).length=k:=by simp [permE]
def actEs (l:List (List Int)):Nat→List Ed
 | 0=>[]
 | k+1=>actEs l k++(match l[k]? with | none=>[] | some p=>permE ((k:Int)+1) p p.length)
theorem actEs_succ {l:List (List Int)} {k:Nat} {p:List Int} (h:l[k]?=some p):actEs l (k+1)=actEs l k++permE ((k:Int)+1) p p.length:=by rw [actEs,h]
structure GActOk (rank:Int) (l:List (List Int)) (n:Nat):Prop where
 rk:1≤rank∧rank≤3
 ln:(l.length:Int)=rank
 n0:0 < n
 all:∀ p∈l,IsPerm p∧p.length=n
theorem GActOk.n40 {rank:Int} {l:List (List Int)} {n:Nat} (h:GActOk rank l n):n≤40:=by
 have h1:=h.ln;have h2:=h.rk;cases l with
 | nil=>simp at h1;omega
 | cons p t =>
  have:=h.all p (by simp);have h3:=this.1.1;omega
theorem actEs_len {l:List (List Int)} {n:Nat} (h:∀ p∈l,p.length=n):∀ k,k≤l.length→(actEs l k).length=k * n
 | 0,_=>by simp [actEs]
 | k+1,hk=>by
  have hp:=List.getElem?_eq_getElem (l:=l) (i:=k) (by omega);rw [actEs_succ hp,List.length_append,permE_len,actEs_len h k (by omega),h _ (List.getElem_mem _),Nat.succ_mul]
theorem act_in {rank:Int} {l:List (List Int)} {n:Nat} (h:GActOk rank l n):∀ k,k≤l.length→∀ e∈actEs l k,InG rank n e
 | 0,_,e,he=>by simp [actEs] at he
 | k+1,hk,e,he=>by
  have hp:=List.getElem?_eq_getElem (l:=l) (i:=k) (by omega);rw [actEs_succ hp] at he;rcases List.mem_append.1 he with he | he
  ·exact act_in h k (by omega) e he
  ·simp only [permE,List.mem_map,List.mem_range] at he
   obtain ⟨v,hv,rfl⟩:=he;obtain ⟨h1,h2⟩:=h.all _ (List.getElem_mem (by omega:k < l.length));have h3:=h1.2.1 (l[k].getD v 0) (by rw [List.getD_eq_getElem?_getD,List.getElem?_eq_getElem hv];exact List.getElem_mem _);have h4:=h.ln;unfold InG;simp only;omega
theorem act_gr {rank:Int} {l:List (List Int)} {n:Nat} (h:GActOk rank l n):IsGr rank n (canon (actEs l l.length)):=by
 have h40:=h.n40;have hr:=h.rk;have hn:=h.n0;refine ⟨hr,⟨by omega,by omega⟩,?_,?_,asc_canon _⟩
 ·have h1:=canon_len (actEs l l.length)
  rw [actEs_len (fun p hp=>(h.all p hp).2) l.length (Nat.le_refl _)] at h1;have h2:=h.ln;have h3:l.length * n≤3 * 40:=Nat.mul_le_mul (by omega) h40;omega
 ·intro e he
  exact act_in h l.length (Nat.le_refl _) e (mem_canon.1 he)
section
open Go.RowKit
def n0L (l:List (List Int)):Nat:=(l.headD []).length
def GActIs (rank:Int) (l:List (List Int)) (rr rs:Int) (res:List Ed) (b:Bool):Prop :=
 (b=true∧GActOk rank l (n0L l)∧rr=rank∧rs=(coreA rank ((n0L l:Nat),canon (actEs l l.length))).1∧res=(coreA rank ((n0L l:Nat),canon (actEs l l.length))).2) ∨ (b=false∧¬ GActOk rank l (n0L l)∧rr=0∧rs=0∧res=[])
theorem GActIs_ex (rank:Int) (l:List (List Int)):∃ rr rs res b,GActIs rank l rr rs res b:=by
 by_cases h:GActOk rank l (n0L l)
 ·exact ⟨_,_,_,_,.inl ⟨rfl,h,rfl,rfl,rfl⟩⟩
 ·exact ⟨_,_,_,_,.inr ⟨rfl,h,rfl,rfl,rfl⟩⟩
theorem GActIs.no {rank:Int} {l:List (List Int)} {rr rs:Int} {res:List Ed} {b:Bool} (h:GActIs rank l rr rs res b) (hn:¬ GActOk rank l (n0L l)):b=false∧rr=0∧rs=0∧res=[]:=by
 rcases h with ⟨-,h, -⟩ | ⟨h1, -,h2⟩
 ·exact absurd h hn
 ·exact ⟨h1,h2⟩
theorem GActIs.yes {rank:Int} {l:List (List Int)} {rr rs:Int} {res:List Ed} {b:Bool} (h:GActIs rank l rr rs res b) (hn:GActOk rank l (n0L l)):b=true∧rank=rr∧rs=(coreA rank ((n0L l:Nat),canon (actEs l l.length))).1∧res=(coreA rank ((n0L l:Nat),canon (actEs l l.length))).2:=by
 rcases h with ⟨h1, -,h2,h3⟩ | ⟨-,h, -⟩
 ·exact ⟨h1,h2.symm,h3⟩
 ·exact absurd hn h
theorem GActIs.lens {rank:Int} {l:List (List Int)} {rr rs:Int} {res:List Ed} {b:Bool} (h:GActIs rank l rr rs res b):res.length≤120:=by
 rcases h with ⟨-,h, -, -,rfl⟩ | ⟨-, -, -, -,rfl⟩
 ·exact (coreA_gr (g:=((n0L l:Nat),canon (actEs l l.length))) (act_gr h)).len
 ·simp
theorem n0L_at {l:List (List Int)} {p:List Int} (h:l[0]?=some p):n0L l=p.length:=by
 cases l with
 | nil=>simp at h
 | cons q t=>simp at h;subst h;rfl
theorem inB_rank {x:Int} {b:Bool} (hb:b=true↔1≤x∧x≤3):inB x 1 3=b:=by
 cases b with
 | true=>have:=hb.1 rfl;unfold inB;simp;omega
 | false =>
  have h:¬ (1≤x∧x≤3):=fun h=>by have:=hb.2 h;cases this
  unfold inB;simp;omega
theorem impl_GraphOfAction (rank:Int) (A:Option Addr) (l:List (List Int)) (c:Nat) (w:World) (lo hi:Nat) (hr:RSS w lo hi A l) (hl:l.length+sumL l≤1048576) (hwf:(Lit.int .i64 rank).wf=true) (rr rs:Int) (res:List Ed) (b:Bool) (hres:GActIs rank l rr rs res b) :
  Calls Tryz.prog 78 #[.int .i64 rank,.slice A l.length c] w fun e w'=>∃ A1 c1,e=.returned (.tuple #[graV rr rs A1 res.length c1,.bool b])∧OG w' w.heap.size w'.heap.size A1 c1 res∧Mid 0 0 w w':=by
 have HR:=Lib.hid hres;clear hres;obtain ⟨b1,hb1⟩:=bool_of (1≤rank∧rank≤3);have H1:=Lib.hid hb1;have hi1:=inB_rank hb1;clear hb1;have hm0:Mid 0 0 w (w.alloc (.cells #[.int .i64 0,.int .i64 0,.slice none 0 0] 26)):=Mid.alloc _ _;have B2:=Box.new w #[.int .i64 0,.int .i64 0,.slice none 0 0] 26;go_enter Tryz.func78,Tryz.ntmps78
 go_wp2_with fail;generalize w.alloc (.cells #[.int .i64 0,.int .i64 0,.slice none 0 0] 26)=w1 at hm0 B2 ⊢;have hs1:w.heap.size < w1.heap.size:=B2.1;with_reducible refine (within_at hi1 _).mono ?_
 rintro en w2 ⟨rfl,rfl⟩;cases b1 with
 | false =>
  have hno:¬ GActOk rank l (n0L l):=fun h=>by have:=H1.out.2 h.rk;cases this
  obtain ⟨rfl,rfl,rfl,rfl⟩:=HR.out.no hno;have z0:=B2.cell 0 rfl;have z1:=B2.cell 1 rfl;have z2:=B2.cell 2 rfl;have zf:=B2.2.2;go_wp2_with fail;refine bodyPost_ret (v:=.tuple #[.agg #[.int .i64 0,.int .i64 0,.slice none 0 0],.bool false]) (by simp [results,Tryz.results78,go_sem,z0,z1,z2,zf]) rfl ⟨none,0,rfl,OG.nil,?_⟩;repeat (first | exact hm0 | refine Mid.storeNew ?_ (by simp;try omega) _)
 | true =>
 have hrk:=H1.out.1 rfl;clear H1 hi1;by_cases hln:(l.length:Int)=rank
 ·have dl:((l.length:Int) != rank)=false:=by simpa using hln
  obtain ⟨B0,o0,Ap0,cp0,p0,rfl, -,hB0,hp0,hc0, -⟩:=(hr.mid hm0 oZl).row (k:=0) (by omega);have hB0s:B0 < w1.heap.size:=by have:=(hr.mid hm0 oZl).size;omega
  have hn0:=n0L_at hp0;have hp0l:p0.length≤1048576:=by have:=len_le_sumL (List.mem_of_getElem? hp0);omega
  simp only [Nat.add_zero] at hc0;generalize hnn:p0.length=n at hc0 hn0 hp0l;have HNN:=Lib.hid hn0;clear hp0 hn0 hnn;have hzl:(0:Int) < (l.length:Int):=by omega
  have HLN:=Lib.hid hln;clear hln;by_cases hz:n=0
  ·have hno:¬ GActOk rank l n:=fun h=>by have:=h.n0;omega
   have dz:((n:Int) == 0)=true:=by rw [hz];rfl
   obtain ⟨rfl,rfl,rfl,rfl⟩:=HR.out.no (by rw [HNN.out];exact hno);have z0:=B2.cell 0 rfl;have z1:=B2.cell 1 rfl;have z2:=B2.cell 2 rfl;have zf:=B2.2.2;go_wp2_with fail;refine bodyPost_ret (v:=.tuple #[.agg #[.int .i64 0,.int .i64 0,.slice none 0 0],.bool false]) (by simp [results,Tryz.results78,go_sem,z0,z1,z2,zf]) rfl ⟨none,0,rfl,OG.nil,?_⟩;repeat (first | exact hm0 | refine Mid.storeNew ?_ (by simp;try omega) _)
  have dz:((n:Int) == 0)=false:=by simp only [beq_eq_false_iff_ne];omega
  have hw0:IntKind.i64.wrap ((n:Int) * rank)=(n:Int) * rank:=IntWalk.i64_in _ (by
   have h1:0≤(n:Int) * rank:=Int.mul_nonneg (by omega) (by omega);have h2:(n:Int) * rank≤1048576 * 3:=Int.mul_le_mul (by omega) (by omega) (by omega) (by omega);omega)
  by_cases hbig:120 < (n:Int) * rank
  ·have hno:¬ GActOk rank l n:=fun h=>by
    have h1:=h.n40;have h2:(n:Int) * rank≤40 * 3:=Int.mul_le_mul (by omega) (by omega) (by omega) (by omega);omega
   have db:decide (120 < (n:Int) * rank)=true:=by simpa using hbig
   obtain ⟨rfl,rfl,rfl,rfl⟩:=HR.out.no (by rw [HNN.out];exact hno);have z0:=B2.cell 0 rfl;have z1:=B2.cell 1 rfl;have z2:=B2.cell 2 rfl;have zf:=B2.2.2;go_wp2_with fail;refine bodyPost_ret (v:=.tuple #[.agg #[.int .i64 0,.int .i64 0,.slice none 0 0],.bool false]) (by simp [results,Tryz.results78,go_sem,z0,z1,z2,zf]) rfl ⟨none,0,rfl,OG.nil,?_⟩;repeat (first | exact hm0 | refine Mid.storeNew ?_ (by simp;try omega) _)
  have db:decide (120 < (n:Int) * rank)=false:=by simpa using hbig
  have hal:=Mid.alloc w1 (.cells #[.int .i64 rank,.int .i64 n,.slice none 0 0] 26);have Y3:=Box.new w1 #[.int .i64 rank,.int .i64 n,.slice none 0 0] 26;have Y2:=B2.mid hal oZr;have hmy:=hm0.trans hal;go_wp2_with fail;generalize w1.alloc (.cells #[.int .i64 rank,.int .i64 n,.slice none 0 0] 26)=w3 at Y2 Y3 hmy ⊢;have hs3:w1.heap.size < w3.heap.size:=Y3.1;clear hal hm0 B2 hc0;generalize hG:w1.heap.size=Gb at Y3 hs1 hs3 hB0s ⊢;clear hG;have hhw:=hr.size;go_loopw [45] (fun i wr=>∃ (k:Nat) (A2:Option Addr) (n2 c2:Nat),k≤l.length∧i=.int .i64 k∧Hid (n2=k * n)∧Hid (∀ p∈l.take k,IsPerm p∧p.length=n) ∧
   wr.ownsRow (Gb+1) 68 3 (.slice A2 n2 c2) n2 (ints (edI (actEs l k))) ∧
   Box wr w.heap.size [.int .i64 0,.int .i64 0,.slice none 0 0]∧Box wr Gb [.int .i64 rank,.int .i64 n,.slice A2 n2 c2]∧Mid 0 0 w wr) (fun i _=>l.length - (intOf i).toNat)
  case atStart=>exact ⟨0,none,0,0,Nat.zero_le _,rfl,Lib.hid (by simp),Lib.hid (by simp),World.ownsRow_nil _ _ _ _,Y2,Y3,hmy⟩
  case round =>
   clear Y2 Y3 hmy;obtain ⟨wo,hwo⟩:∃ wo,wo=wr:=⟨_,rfl⟩
   subst hwo;obtain ⟨k,A2,n2,c2,hk,rfl,HN,HALL,hown,Z2,Z3,hm⟩:=hrel;have hGo:Gb < wo.heap.size:=Z3.1;by_cases hlt:k < l.length
   ·obtain ⟨Bp,op,Ap,cp,p,he, -,hBp,hp,hcp,hrp⟩:=(hr.mid hm oZl).row hlt
    injection he with he
    injection he with he1 he2
    subst he1 he2;have hpl:p.length≤1048576:=by have:=len_le_sumL (List.mem_of_getElem? hp);omega
    have hk1:(k:Int) < (l.length:Int):=by omega
    have hk0:(0:Int)≤(k:Int):=by omega
    have HP:=Lib.hid hp;obtain ⟨bp,hbp⟩:=bool_of (IsPerm p);have HBP:=Lib.hid hbp;clear hp hbp;go_wp2_with fail;have hrp1:hi≤wo.heap.size:=hrp.1;with_reducible refine (impl_IsPermutation Ap p cp _ _ hrp.rs hrp1 hpl bp HBP.out).mono ?_
    rintro en w5 ⟨rfl,hbe5⟩;have hm5:Mid 0 0 wo w5:=Mid.of_below hbe5;have Q2:=Z2.mid hm5 oZr;have Q3:=Z3.mid hm5 oZr;have hown5:=owns_mid hown hm5 oZl;have hm9:=hm.trans hm5;have hrp5:=hrp.mid hm5 oZl;clear hcp Z2 Z3 hown hm hm5 hbe5 hrp;cases bp with
    | false =>
     have hno:¬ GActOk rank l n:=fun h=>by have:=HBP.out.2 (h.all p (List.mem_of_getElem? HP.out)).1;cases this
     obtain ⟨rfl,rfl,rfl,rfl⟩:=HR.out.no (by rw [HNN.out];exact hno);have z0:=Q2.cell 0 rfl;have z1:=Q2.cell 1 rfl;have z2:=Q2.cell 2 rfl;have zf:=Q2.2.2;go_wp2_with fail;refine bodyPost_ret (v:=.tuple #[.agg #[.int .i64 0,.int .i64 0,.slice none 0 0],.bool false]) (by simp [results,Tryz.results78,go_sem,z0,z1,z2,zf]) rfl ⟨none,0,rfl,OG.nil,?_⟩;repeat (first | exact hm9 | refine Mid.storeNew ?_ (by simp;try omega) _)
    | true =>
    have q1:=Q3.cell 1 rfl;by_cases hpn:p.length=n
    ·have dn:((p.length:Int) != (n:Int))=false:=by rw [hpn];simp
     have hperm:=HBP.out.1 rfl;have hp40:=hperm.1;have HPERM:=Lib.hid hperm;clear hperm;go_wp2_with fail;clear q1;go_loopw [63] (fun j wr=>∃ (m:Nat) (A3:Option Addr) (n3 c3:Nat),m≤p.length∧j=.int .i64 m∧Hid (n3=k * n+m) ∧
      wr.ownsRow (Gb+1) 68 3 (.slice A3 n3 c3) n3 (ints (edI (actEs l k++permE ((k:Int)+1) p m))) ∧
      Box wr w.heap.size [.int .i64 0,.int .i64 0,.slice none 0 0]∧Box wr Gb [.int .i64 rank,.int .i64 n,.slice A3 n3 c3]∧RV wr lo hi Ap (ints p)∧Mid 0 0 w wr) (fun j _=>p.length - (intOf j).toNat)
     case atStart=>exact ⟨0,A2,n2,c2,Nat.zero_le _,rfl,HN,by simpa [permE] using hown5,Q2,Q3,hrp5,hm9⟩
     case round =>
      clear hown5 Q2 Q3 hrp5 hm9;obtain ⟨m,A3,n3,c3,hmp,rfl,HN3,hown,Z2,Z3,hrp,hm⟩:=hrel;have hn3:n3≤1000:=by
       have h1:=HN3.out;have h2:k * n≤3 * 40:=Nat.mul_le_mul (by have:=HLN.out;omega) (by omega);omega
      by_cases hltm:m < p.length
      ·obtain ⟨Bx,ox,x,rfl,hBx,hx,hcx⟩:=hrp.at hltm
       have hm1:(m:Int) < (p.length:Int):=by omega
       have hm00:(0:Int)≤(m:Int):=by omega
       have hpe:=permE_succ (x:=(k:Int)+1) hx;have HPE:=Lib.hid hpe;have g2:=Z3.cell 2 rfl;have hwr:Gb+1≤wr.heap.size:=Z3.1;have HO:=Lib.hid hown;clear hx hpe hown;go_wp2_with (at_builtin;refine wpList_pushE rfl _ _ rfl (Gb+1) A3 n3 c3 _ rfl HO.out ⟨(m:Int),(k:Int)+1,x⟩ rfl (by omega) hwr ?_;intro A4 c4 w4 hown4 hm4;have X3:=Z3.mid hm4 (Or.inl (Nat.lt_succ_self _));have X2:=Z2.mid hm4 (Or.inl (by omega));have x2:=X3.cell 2 rfl;have xf:=X3.2.2;have HO4:=Lib.hid hown4;clear hown4)
       go_roundw
       case rel =>
        have hst:=Mid.setCell w4 (lo:=Gb) (hi:=Gb+1) (p:=⟨Gb,2,none⟩) (.slice A4 (n3+1) c4) (Nat.le_refl _) (Nat.lt_succ_self _);refine ⟨m+1,A4,n3+1,c4,by omega,by go_num,Lib.hid (by rw [HN3.out];omega),?_,X2.mid hst (Or.inl (by omega)),X3.set 2 _ (by simp) rfl,(hrp.mid hm4 (Or.inr (by omega))).mid hst (Or.inr (by omega)),(hm.transNew hm4 (Or.inl (by omega))).storeNew (by show w.heap.size≤Gb;omega) _⟩;have h1:=owns_mid HO4.out hst (Or.inl (Nat.le_refl _));rw [HPE.out,← List.append_assoc];exact h1
       case measure=>simp [intOf];omega
      ·obtain rfl:m=p.length:=by omega
       have hae:=actEs_succ HP.out;rw [← hae] at hown;go_wp2_with fail;go_roundw
       case rel =>
        refine ⟨k+1,A3,n3,c3,by omega,by go_num,Lib.hid (by rw [HN3.out,hpn,Nat.succ_mul]),Lib.hid (fun q hq=>?_),hown,Z2,Z3,hm⟩;rcases (mem_take_succ HP.out).1 hq with hq | hq
        ·exact HALL.out q hq
        ·rw [hq]
         exact ⟨HPERM.out,hpn⟩
       case measure=>simp [intOf];omega
    ·have dn:((p.length:Int) != (n:Int))=true:=by rw [bne_iff_ne];omega
     have hno:¬ GActOk rank l n:=fun h=>hpn (h.all p (List.mem_of_getElem? HP.out)).2;obtain ⟨rfl,rfl,rfl,rfl⟩:=HR.out.no (by rw [HNN.out];exact hno);have z0:=Q2.cell 0 rfl;have z1:=Q2.cell 1 rfl;have z2:=Q2.cell 2 rfl;have zf:=Q2.2.2;go_wp2_with fail;refine bodyPost_ret (v:=.tuple #[.agg #[.int .i64 0,.int .i64 0,.slice none 0 0],.bool false]) (by simp [results,Tryz.results78,go_sem,z0,z1,z2,zf]) rfl ⟨none,0,rfl,OG.nil,?_⟩;repeat (first | exact hm9 | refine Mid.storeNew ?_ (by simp;try omega) _)
   ·obtain rfl:k=l.length:=by omega
    rw [List.take_length] at HALL;have hok:GActOk rank l n:=⟨hrk,HLN.out,by omega,HALL.out⟩
    obtain ⟨rfl,rfl,hrs,hre⟩:=HR.out.yes (by rw [HNN.out];exact hok);rw [HNN.out] at hrs hre;have hgm:=act_gr hok;have hrg:RG wo (Gb+1) wo.heap.size A2 (actEs l l.length):=OV.rv (e:=68) (size:=3) (c:=c2) (n:=n2) ⟨Nat.le_refl _,hown,fun g hg=>(hown.lt g hg).2⟩;have hnl:(actEs l l.length).length=n2:=by rw [HN.out,actEs_len (fun q hq=>(HALL.out q hq).2) l.length (Nat.le_refl _)]
    have hn2:n2≤1000:=by
     have h1:=HN.out;have h2:=hok.n40;have h3:l.length * n≤3 * 40:=Nat.mul_le_mul (by have:=HLN.out;omega) h2;omega
    have HNL:=Lib.hid hnl;have z2:=Z3.cell 2 rfl;obtain ⟨rn,rfl⟩:∃ rn:Nat,rank=rn:=⟨rank.toNat,by omega⟩
    obtain ⟨ms,hms⟩:∃ ms,canon (actEs l l.length)=ms:=⟨_,rfl⟩
    rw [hms] at hgm hrs hre;obtain ⟨q,qs,hQ, -⟩:=nat_gr (coreA_gr (g:=((n:Int),ms)) hgm);have HGM:=Lib.hid hgm;rw [hQ] at hrs hre;subst hrs;subst res;have HQ:=Lib.hid hQ;have HMS:=Lib.hid hms;clear hnl hok HR hgm hQ hms;go_wp2_with fail;with_reducible refine (impl_sortedN A2 (actEs l l.length) n2 c2 _ _ _ HNL.out hrg (by omega)).mono ?_
    rintro en w6 ⟨A4,c4,rfl,ho6,hm6⟩;rw [HMS.out] at ho6 ⊢;have Q2:=Z2.mid hm6 oZr;have Q3:=Z3.mid hm6 oZr;have hst:=Mid.setCell w6 (lo:=Gb) (hi:=Gb+1) (p:=⟨Gb,2,none⟩) (.slice A4 ms.length c4) (Nat.le_refl _) (Nat.lt_succ_self _);have R2:=Q2.mid hst (Or.inl (by omega));have R3:=Q3.set 2 (.slice A4 ms.length c4) (by simp) rfl;have ho7:=ho6.mid hst (Or.inl (by omega));have hm7:=(hm.trans hm6).storeNew (p:=⟨Gb,2,none⟩) (by show w.heap.size≤Gb;omega) (.slice A4 ms.length c4);have q2:=Q3.cell 2 rfl;have qf:=Q3.2.2;simp only [List.set_cons_succ,List.set_cons_zero] at R3;have r0:=R3.cell 0 rfl;have r1:=R3.cell 1 rfl;have r2:=R3.cell 2 rfl;clear z2;go_wp2_with fail;generalize w6.setCell ⟨Gb,2,none⟩ (.slice A4 ms.length c4)=w7 at R2 R3 ho7 hm7 r0 r1 r2 ⊢;have hP:=impl_CoreGraph rn n A4 ms c4 w7 _ _ (OG.rg ho7) HGM.out;rw [HQ.out] at hP;dsimp only at hP;have HPP:=Lib.hid hP;clear hP;with_reducible refine HPP.out.mono ?_
    rintro en w8 ⟨A5,c5,rfl,ho8,hm8⟩;clear HPP;have S2:=R2.mid hm8 oZr;have hm9:=hm7.trans hm8;have hs8:w.heap.size < w7.heap.size:=R2.1;clear r0 r1 r2 q2;have z0:=S2.cell 0 rfl;have z1:=S2.cell 1 rfl;have z2:=S2.cell 2 rfl;have zf:=S2.2.2;go_wp2_with fail;refine bodyPost_ret (v:=.tuple #[.agg #[.int .i64 rn,.int .i64 q,.slice A5 qs.length c5],.bool true]) (by simp [results,Tryz.results78,go_sem,z0,z1,z2,zf]) rfl ⟨A5,c5,rfl,?_,?_⟩
    ·refine OG.wide (OG.mid ho8 (a:=w.heap.size) (b:=w.heap.size+1) ?_ (Or.inl (by omega))) (by omega) (by simp) (Nat.le_refl _)
     repeat (first | exact Mid.refl _ _ _ | refine Mid.stored ?_ _ (by simp;try omega) (by simp;try omega))
    ·repeat (first | exact hm9 | refine Mid.storeNew ?_ (by simp;try omega) _)
 ·have dl:((l.length:Int) != rank)=true:=by simpa using hln
  have hno:¬ GActOk rank l (n0L l):=fun h=>hln h.ln;obtain ⟨rfl,rfl,rfl,rfl⟩:=HR.out.no hno;have z0:=B2.cell 0 rfl;have z1:=B2.cell 1 rfl;have z2:=B2.cell 2 rfl;have zf:=B2.2.2;go_wp2_with fail;refine bodyPost_ret (v:=.tuple #[.agg #[.int .i64 0,.int .i64 0,.slice none 0 0],.bool false]) (by simp [results,Tryz.results78,go_sem,z0,z1,z2,zf]) rfl ⟨none,0,rfl,OG.nil,?_⟩;repeat (first | exact hm0 | refine Mid.storeNew ?_ (by simp;try omega) _)
end
section
open Go.RowKit
def AreW (rk:Int) (d:List (List Int)):Prop:=1≤rk∧rk≤3∧d.length≤6∧(∀ xs∈d,IsW rk xs)∧sumL d < 40
theorem spec_TotalLength (A:Option Addr) (d:List (List Int)) (c:Nat) (w:World) (lo hi:Nat) (hr:RSS w lo hi A d) (hl:d.length+sumL d≤1048576) :
  Calls Tryz.prog 268 #[.slice A d.length c] w fun e w'=>e=.returned (.int .i64 (sumL d:Nat))∧w=w':=by
 go_enter Tryz.func268,Tryz.ntmps268
 go_wp2_with fail;go_loop [3,4] (fun n i=>∃ k:Nat,k≤d.length∧i=.int .i64 k∧n=.int .i64 (sumL (d.take k):Nat)) (fun _ i=>d.length - (intOf i).toNat)
 case atStart=>exact ⟨0,Nat.zero_le _,rfl,by simp [sumL]⟩
 case round =>
  obtain ⟨k,hk,rfl,rfl⟩:=hrel;have hs:=sumL_take_le d k;by_cases hlt:k < d.length
  ·obtain ⟨b,off,A1,c1,xs,rfl, -, -,hx,hcx, -⟩:=hr.row hlt
   have hst:=sumL_take_succ hx;have hs2:=sumL_take_le d (k+1);have hsum:sumL (d.take k)+xs.length≤1048576:=by omega
   have hlt3:(k:Int) < (d.length:Int):=by omega
   have HST:=Lib.hid hst;clear hst hs2 hx;go_wp2_with fail;go_round
   case rel=>exact ⟨k+1,by omega,by go_num,by rw [HST.out];go_num⟩
   case measure=>simp [intOf];omega
  ·obtain rfl:k=d.length:=by omega
   go_wp2_with fail;go_ret;exact ⟨by first | rfl | rw [List.take_length] | simp,rfl⟩
theorem bool_false {r:Bool} {p:Prop} (h:r=true↔p) (hn:¬ p):r=false:=by
 cases r with
 | false=>rfl
 | true=>exact absurd (h.1 rfl) hn
theorem spec_AreWords (rk:Int) (A:Option Addr) (d:List (List Int)) (c:Nat) (w:World) (lo hi:Nat) (hr:RSS w lo hi A d) (hok:∀ xs∈d,OkI xs) (hl:d.length+sumL d≤1048576) (r:Bool) (hres:r=true↔AreW rk d) :
  Calls Tryz.prog 262 #[.int .i64 rk,.slice A d.length c] w fun e w'=>e=.returned (.bool r)∧∃ n,w'=w.drewN n:=by
 have HOK:=Lib.hid hok;have HR:=Lib.hid hres;clear hok hres;go_enter Tryz.func262,Tryz.ntmps262
 go_wp2_with fail;go_loopw [5] (fun i wr=>∃ k:Nat,k≤d.length∧i=.int .i64 k∧WordsTo rk d k∧∃ n,wr=w.drewN n) (fun i _=>d.length - (intOf i).toNat)
 case atStart=>exact ⟨0,Nat.zero_le _,rfl,WordsTo.zero _ _,0,rfl⟩
 case round =>
  obtain ⟨k,hk,rfl,hw,nd,rfl⟩:=hrel;have HW:=Lib.hid hw;clear hw;by_cases hlt:k < d.length
  ·obtain ⟨b,off,A1,c1,xs,rfl, -, -,hx,hcx,hrx⟩:=hr.row hlt
   have hlx:=row_le (List.mem_of_getElem? hx) hl;have hox:=HOK.out xs (List.mem_of_getElem? hx);have HOX:=Lib.hid hox;have HX:=Lib.hid hx;have hlt3:(k:Int) < (d.length:Int):=by omega
   clear hx hox;obtain ⟨v,hv⟩:=bool_ofR (IsW rk xs);have HV:=Lib.hid hv;clear hv;cases hvc:v with
   | false =>
    subst hvc;go_wp2_with fail;with_reducible refine (spec_IsWord rk A1 xs c1 _ _ (hrx.rs.drewN nd) HOX.out hlx false HV.out).mono ?_
    rintro e w' ⟨rfl,n2,rfl⟩;go_wp2_with fail;go_ret;obtain rfl:r=false:=bool_false HR.out (fun h=>by have:=HV.out.2 (h.2.2.2.1 xs (List.mem_of_getElem? HX.out));cases this);exact ⟨rfl,_,by first | rfl | exact dn _ _ _⟩
   | true =>
    subst hvc;have HV2:=Lib.hid (HV.out.1 rfl);clear HV;go_wp2_with fail;with_reducible refine (spec_IsWord rk A1 xs c1 _ _ (hrx.rs.drewN nd) HOX.out hlx true (iff_of_true rfl HV2.out)).mono ?_
    rintro e w' ⟨rfl,n2,rfl⟩;go_wp2_with fail;go_roundw
    case rel=>exact ⟨k+1,by omega,by go_num,HW.out.succ HX.out HV2.out,_,by first | rfl | exact dn _ _ _⟩
    case measure=>simp [intOf];omega
  ·obtain rfl:k=d.length:=by omega
   by_cases hb:inB rk 1 3=false
   ·obtain rfl:r=false:=bool_false HR.out (fun h=>by simp [inB] at hb;have:=h.1;have:=h.2.1;omega)
    have HB:=Lib.hid hb;clear hb;go_wp2_with fail;with_reducible refine (l1In_any _ _ _ _).mono ?_
    rintro e w' ⟨rfl,rfl⟩;rw [HB.out];go_wp2_with fail;go_ret;exact ⟨rfl,_,rfl⟩
   ·have hb':inB rk 1 3=true:=by simpa using hb
    have HB:=Lib.hid hb';have hrk:1≤rk∧rk≤3:=by simpa [inB] using hb'
    clear hb hb';by_cases h6:6 < d.length
    ·obtain rfl:r=false:=bool_false HR.out (fun h=>by have:=h.2.2.1;omega)
     have h63:¬ (d.length:Int)≤6:=by omega
     go_wp2_with fail;with_reducible refine (l1In_any _ _ _ _).mono ?_
     rintro e w' ⟨rfl,rfl⟩;rw [HB.out];go_wp2_with fail;go_ret;exact ⟨by first | rfl | (simp;omega),_,rfl⟩
    ·have h63:(d.length:Int)≤6:=by omega
     by_cases h40:sumL d < 40
     ·obtain rfl:r=true:=HR.out.2 ⟨hrk.1,hrk.2,by omega,wordsTo_all.1 HW.out,h40⟩
      have h403:(sumL d:Int) < 40:=by omega
      go_wp2_with fail;with_reducible refine (l1In_any _ _ _ _).mono ?_
      rintro e w' ⟨rfl,rfl⟩;rw [HB.out];go_wp2_with fail;with_reducible refine (spec_TotalLength A d c (w.drewN nd) _ _ (hr.mid ((Mid.refl 0 0 w).drewN nd) oZl) hl).mono ?_
      rintro e w' ⟨rfl,rfl⟩;go_wp2_with fail;go_ret;exact ⟨by simp [h403],_,rfl⟩
     ·obtain rfl:r=false:=bool_false HR.out (fun h=>h40 h.2.2.2.2)
      have h403:¬ (sumL d:Int) < 40:=by omega
      go_wp2_with fail;with_reducible refine (l1In_any _ _ _ _).mono ?_
      rintro e w' ⟨rfl,rfl⟩;rw [HB.out];go_wp2_with fail;with_reducible refine (spec_TotalLength A d c (w.drewN nd) _ _ (hr.mid ((Mid.refl 0 0 w).drewN nd) oZl) hl).mono ?_
      rintro e w' ⟨rfl,rfl⟩;go_wp2_with fail;go_ret;exact ⟨by simp;omega,_,rfl⟩
end
section
open Go.RowKit
theorem empty_gr {r:Int} (h:1≤r∧r≤3):IsGr r 1 []:=⟨h,by omega,by simp,by simp,List.Pairwise.nil⟩
structure FlOk (r:Int) (l:List (List Int)) (k:Nat) (g:Int × List Ed):Prop where
 gr:IsGr r g.1 g.2
 sz:g.1≤1+(sumL (l.take k):Nat)
 ln:g.2.length≤sumL (l.take k)
theorem FlOk.path {r:Int} {l:List (List Int)} {k:Nat} {g:Int × List Ed} {w:List Int} (ha:AreW r l) (h:FlOk r l k g) (hw:l[k]?=some w) (hn:w≠[]):PathOk r g.1 g.2 0 w 0:=by
 have h1:=sumL_take_succ hw;have h2:=sumL_take_le l (k+1);have h3:=ha.2.2.2.2;have h4:=h.sz;have h5:=h.ln;have h6:=h.gr.size;exact ⟨h.gr,by omega,by omega,ha.2.2.2.1 w (List.mem_of_getElem? hw),hn,by omega,by omega⟩
theorem FlOk.step {r:Int} {l:List (List Int)} {k:Nat} {g:Int × List Ed} {w:List Int} (ha:AreW r l) (h:FlOk r l k g) (hw:l[k]?=some w):FlOk r l (k+1) (petalA g w):=by
 have h1:=sumL_take_succ hw;by_cases hn:w=[]
 ·subst hn
  have h4:=h.sz;have h5:=h.ln;simp only [List.length_nil] at h1;rw [petalA,if_pos rfl];exact ⟨h.gr,by omega,by omega⟩
 ·have hp:=h.path ha hw hn
  have h4:=h.sz;have h5:=h.ln;have h6:=canon_len (g.2++pathE 0 g.1 w 0 w.length);have h7:0 < w.length:=List.length_pos_iff.2 hn;rw [List.length_append,pathE_len] at h6;rw [petalA,if_neg hn];exact ⟨path_gr hp,by simp only;omega,by simp only;omega⟩
theorem FlOk.zero {r:Int} (l:List (List Int)) (h:1≤r∧r≤3):FlOk r l 0 (1,[]):=⟨empty_gr h,by simp [sumL],by simp⟩
theorem fl_ok {r:Int} {l:List (List Int)} (ha:AreW r l):∀ k,k≤l.length→FlOk r l k (flowA (l.take k) (1,[]))
 | 0,_=>FlOk.zero l ⟨ha.1,ha.2.1⟩
 | k+1,hk=>by
  have hw:=List.getElem?_eq_getElem (l:=l) (i:=k) (by omega);rw [flowA_take hw];exact (fl_ok ha k (by omega)).step ha hw
def FlIs (rank:Int) (l:List (List Int)) (rr rs:Int) (res:List Ed) (b:Bool):Prop :=
 (b=true∧AreW rank l∧rr=rank∧rs=(flowA l (1,[])).1∧res=(flowA l (1,[])).2) ∨ (b=false∧¬ AreW rank l∧rr=0∧rs=0∧res=[])
def SubIs (rank:Int) (l:List (List Int)) (rr rs:Int) (res:List Ed) (b:Bool):Prop :=
 (b=true∧AreW rank l∧rr=rank∧rs=(coreA rank (flowA l (1,[]))).1∧res=(coreA rank (flowA l (1,[]))).2) ∨ (b=false∧¬ AreW rank l∧rr=0∧rs=0∧res=[])
theorem SubIs_ex (rank:Int) (l:List (List Int)):∃ rr rs res b,SubIs rank l rr rs res b:=by
 by_cases h:AreW rank l
 ·exact ⟨_,_,_,_,.inl ⟨rfl,h,rfl,rfl,rfl⟩⟩
 ·exact ⟨_,_,_,_,.inr ⟨rfl,h,rfl,rfl,rfl⟩⟩
theorem flow_gr {r:Int} {l:List (List Int)} (ha:AreW r l):IsGr r (flowA l (1,[])).1 (flowA l (1,[])).2:=by
 have:=(fl_ok ha l.length (Nat.le_refl _)).gr;rw [List.take_length] at this;exact this
theorem spec_NewGraph (rank:Int) (w:World) (h:1≤rank∧rank≤3) :
  Calls Tryz.prog 224 #[.int .i64 rank] w fun e w'=>e=.returned (.tuple #[graV rank 1 none 0 0,.bool true])∧Mid 0 0 w w':=by
 have hm0:Mid 0 0 w (w.alloc (.cells #[.int .i64 0,.int .i64 0,.slice none 0 0] 26)):=Mid.alloc _ _;have b2:=Box.new w #[.int .i64 0,.int .i64 0,.slice none 0 0] 26;have hi1:inB rank 1 3=true:=inB_rank (iff_of_true rfl h);go_enter Tryz.func224,Tryz.ntmps224
 go_wp2_with fail;generalize w.alloc (.cells #[.int .i64 0,.int .i64 0,.slice none 0 0] 26)=w1 at hm0 b2 ⊢;have hs1:w.heap.size < w1.heap.size:=b2.1;with_reducible refine (l1In_at hi1 _).mono ?_
 rintro en w2 ⟨rfl,rfl⟩;have z0:=b2.cell 0 rfl;have z1:=b2.cell 1 rfl;have z2:=b2.cell 2 rfl;have zf:=b2.2.2;go_wp2_with fail;refine bodyPost_ret (v:=.tuple #[.agg #[.int .i64 rank,.int .i64 1,.slice none 0 0],.bool true]) (by simp [results,Tryz.results224,go_sem,z0,z1,z2,zf]) rfl ⟨rfl,?_⟩;repeat (first | exact hm0 | refine Mid.storeNew ?_ (by simp;try omega) _)
theorem spec_FlowerOf (rank:Int) (A:Option Addr) (l:List (List Int)) (c:Nat) (w:World) (lo hi:Nat) (hr:RSS w lo hi A l) (hok:∀ xs∈l,OkI xs) (hl:l.length+sumL l≤1048576) (rr rs:Int) (res:List Ed) (b:Bool) (hres:FlIs rank l rr rs res b) :
  Calls Tryz.prog 243 #[.int .i64 rank,.slice A l.length c] w fun e w'=>∃ A1 c1,e=.returned (.tuple #[graV rr rs A1 res.length c1,.bool b])∧OG w' w.heap.size w'.heap.size A1 c1 res∧Mid 0 0 w w':=by
 have HR:=Lib.hid hres;have HOK:=Lib.hid hok;clear hres hok;obtain ⟨b1,hb1⟩:=bool_of (AreW rank l);have H1:=Lib.hid hb1;clear hb1;have hm0:Mid 0 0 w (w.alloc (.cells #[.int .i64 0,.int .i64 0,.slice none 0 0] 26)):=Mid.alloc _ _;have b2:=Box.new w #[.int .i64 0,.int .i64 0,.slice none 0 0] 26;go_enter Tryz.func243,Tryz.ntmps243
 go_wp2_with fail;generalize w.alloc (.cells #[.int .i64 0,.int .i64 0,.slice none 0 0] 26)=w1 at hm0 b2 ⊢;have hs1:w.heap.size < w1.heap.size:=b2.1;with_reducible refine (spec_AreWords rank A l c w1 _ _ (hr.mid hm0 oZl) HOK.out hl b1 H1.out).mono ?_
 rintro en w2 ⟨rfl,nd,hw2⟩;have hm2:Mid 0 0 w1 w2:=by rw [hw2];exact (Mid.refl 0 0 w1).drewN nd
 replace b2:=b2.mid hm2 oZr;replace hm0:=hm0.trans hm2;clear hw2 hm2;cases b1 with
 | false =>
  have hno:¬ AreW rank l:=fun h=>by have:=H1.out.2 h;cases this
  obtain ⟨rfl,rfl,rfl,rfl⟩:b=false∧rr=0∧rs=0∧res=[]:=by
   rcases HR.out with ⟨-,h, -⟩ | ⟨h1, -,h2⟩
   ·exact absurd h hno
   ·exact ⟨h1,h2⟩
  have z0:=b2.cell 0 rfl;have z1:=b2.cell 1 rfl;have z2:=b2.cell 2 rfl;have zf:=b2.2.2;clear hno HR;go_wp2_with fail;refine bodyPost_ret (v:=.tuple #[.agg #[.int .i64 0,.int .i64 0,.slice none 0 0],.bool false]) (by simp [results,Tryz.results243,go_sem,z0,z1,z2,zf]) rfl ⟨none,0,rfl,?_,?_⟩
  ·exact ⟨Nat.le_refl _,⟨rfl,.inl ⟨rfl,rfl⟩⟩,fun g hg=>by simp [Value.ownBlock] at hg⟩
  ·repeat (first | exact hm0 | refine Mid.trans ?_ (Mid.alloc _ _) | refine Mid.storeNew ?_ (by simp;try omega) _)
 | true =>
 have hare:=H1.out.1 rfl;have HA:=Lib.hid hare;have hrk:1≤rank∧rank≤3:=⟨hare.1,hare.2.1⟩
 obtain ⟨rfl,rfl,hrs,hre⟩:b=true∧rr=rank∧rs=(flowA l (1,[])).1∧res=(flowA l (1,[])).2:=by
  rcases HR.out with ⟨h1, -,h2⟩ | ⟨-,h, -⟩
  ·exact ⟨h1,h2⟩
  ·exact absurd hare h
 have HRS:=Lib.hid hrs;have HRE:=Lib.hid hre;clear hare H1 HR hrs hre;go_wp2_with fail;with_reducible refine (spec_NewGraph rr _ hrk).mono ?_
 rintro en w4 ⟨rfl,hm4⟩;have hs4:=hm4.size;have ha4:=Mid.alloc w4 (.cells #[.int .i64 rr,.int .i64 1,.slice none 0 0] 26);have Y4:=Box.new w4 #[.int .i64 rr,.int .i64 1,.slice none 0 0] 26;replace b2:=b2.mid hm4 oZr;replace hm0:=hm0.trans hm4;have hb4:=b2.1;replace b2:=b2.mid ha4 oZr;replace hm0:=hm0.trans ha4;go_wp2_with fail;generalize w4.alloc (.cells #[.int .i64 rr,.int .i64 1,.slice none 0 0] 26)=w5 at b2 Y4 hm0 ⊢;have hs5:w4.heap.size < w5.heap.size:=Y4.1;clear ha4 hm4;generalize hG:w4.heap.size=Gb at Y4 hb4 hs5;clear hG hs4;have hhi:=hr.size;go_loopw [8] (fun i wr=>∃ (k:Nat) (A2:Option Addr) (c2 hi2:Nat) (g:Int × List Ed),k≤l.length∧i=.int .i64 k∧Hid (g=flowA (l.take k) (1,[]))∧Hid (FlOk rr l k g)∧OG wr (Gb+1) hi2 A2 c2 g.2 ∧
   Box wr w.heap.size [.int .i64 0,.int .i64 0,.slice none 0 0]∧Box wr Gb [.int .i64 rr,.int .i64 g.1,.slice A2 g.2.length c2]∧Mid 0 0 w wr) (fun i _=>l.length - (intOf i).toNat)
 case atStart=>exact ⟨0,none,0,_,(1,[]),Nat.zero_le _,rfl,Lib.hid rfl,Lib.hid (FlOk.zero l hrk),OG.nil,b2,Y4,hm0⟩
 case round =>
  clear b2 Y4 hm0 hs5;obtain ⟨wo,hwo⟩:∃ wo,wo=wr:=⟨_,rfl⟩
  subst hwo;obtain ⟨k,A2,c2,hi2,⟨gs,ge⟩,hk,rfl,HGE,HFL,hown,Z2,Z3,hm⟩:=hrel;dsimp only at hown Z3;have hGo:Gb < wo.heap.size:=Z3.1;have hgl:=HFL.out.gr.len;dsimp only at hgl;by_cases hlt:k < l.length
  ·obtain ⟨Bp,op,Ap,cp,p,rfl, -,hBp,hp,hcp,hrp⟩:=(hr.mid hm oZl).row hlt
   have hpl:p.length≤1048576:=by have:=len_le_sumL (List.mem_of_getElem? hp);omega
   have hk1:(k:Int) < (l.length:Int):=by omega
   have hk0:(0:Int)≤(k:Int):=by omega
   have hBps:Bp < wo.heap.size:=by omega
   have HP:=Lib.hid hp;have hft:=flowA_take hp (1,[]);rw [← HGE.out] at hft;have HFT:=Lib.hid hft;have HST:=Lib.hid (HFL.out.step HA.out hp);clear hp hft;obtain ⟨bb,hPI⟩:∃ bb,PathIs rr gs ge 0 p 0 (petalA (gs,ge) p).1 (petalA (gs,ge) p).2 bb:=by
    by_cases hne:p=[]
    ·subst hne
     rw [petalA,if_pos rfl];exact ⟨false,.inr ⟨rfl,fun h=>h.ne rfl,rfl,rfl⟩⟩
    ·rw [petalA,if_neg hne]
     exact ⟨true,.inl ⟨rfl,HFL.out.path HA.out HP.out hne,rfl,rfl⟩⟩
   obtain ⟨g',hg'⟩:∃ g',petalA (gs,ge) p=g':=⟨_,rfl⟩
   rw [hg'] at hPI;have HG2:Hid (g'=flowA (l.take (k+1)) (1,[])):=Lib.hid (by rw [HFT.out,← hg']);have HF2:Hid (FlOk rr l (k+1) g'):=Lib.hid (by rw [← hg'];exact HST.out);have hP:=fun W (h1:RG W (Gb+1) hi2 A2 ge) (h2:RV W lo hi Ap (ints p))=>spec_AddPetal rr gs A2 ge c2 Ap p cp W _ _ _ _ h1 h2 (by omega) hpl (HOK.out p (List.mem_of_getElem? HP.out)) g'.1 g'.2 bb hPI;have HPP:=Lib.hid hP;clear hg' HST HFT hPI hP;go_wp2_with fail;have hmd:=Mid.drew1 wo;have hsd:=hmd.size;replace Z2:=Z2.mid hmd oZr;replace Z3:=Z3.mid hmd oZr;replace hown:=hown.mid hmd oZl;replace hm:=hm.trans hmd;replace hrp:=hrp.mid hmd oZl;replace hcp:=cell_keep hmd hBps oZr hcp;have q0:=Z3.cell 0 rfl;have q1:=Z3.cell 1 rfl;have q2:=Z3.cell 2 rfl;clear hmd;refine wp_region_Z (S:=(fun w'=>(w'.cell? ⟨Gb,0,none⟩=some (.int .i64 rr)∧w'.cell? ⟨Gb,1,none⟩=some (.int .i64 gs)∧w'.cell? ⟨Gb,2,none⟩=some (.slice A2 ge.length c2))∧w'.cell? ⟨Bp,op+k,none⟩=some (.slice Ap p.length cp))) [] (by kernel_rfl) ⟨⟨q0,q1,q2⟩,hcp⟩ ?_;generalize World.drew wo=wz at Z2 Z3 hown hm hrp hcp q0 q1 q2 hsd ⊢;have hS:(wz.cell? ⟨Gb,0,none⟩=some (.int .i64 rr)∧wz.cell? ⟨Gb,1,none⟩=some (.int .i64 gs)∧wz.cell? ⟨Gb,2,none⟩=some (.slice A2 ge.length c2))∧wz.cell? ⟨Bp,op+k,none⟩=some (.slice Ap p.length cp):=⟨⟨q0,q1,q2⟩,hcp⟩
   have hBz:Bp < wz.heap.size:=by omega
   refine tkZ [] 0 rfl hS ?_;try simp only [Act.put,zs1,zs2,zs3,zs4,zs5,zs6]
   refine tkZ [] 1 rfl hS ?_;try simp only [Act.put,zs1,zs2,zs3,zs4,zs5,zs6]
   refine tkZ [] 2 rfl hS ?_;try simp only [Act.put,zs1,zs2,zs3,zs4,zs5,zs6]
   refine tkZ [] 3 rfl hS ?_;try simp only [Act.put,zs1,zs2,zs3,zs4,zs5,zs6]
   refine tkZ [] 4 rfl hS ?_;try simp only [Act.put,zs1,zs2,zs3,zs4,zs5,zs6]
   refine wpAnyZ_ready (rs:=[5,9]) (by kernel_rfl) (by simp) (AllReadyZ.cons rfl (fun K hK=>?_) (AllReadyZ.cons rfl (fun K hK=>?_) AllReadyZ.nil))
   ·(go_simp;(with_reducible refine (HPP.out _ hown.rg hrp).mono ?_);rintro en w10 ⟨A6,c6,rfl,ho6,hm10⟩;have Z30:=Z3.mid hm10 oZr;have hcp0:=cell_keep hm10 hBz oZr hcp;go_wp2_with fail)
    refine hK.out _ _ (Or.inr ⟨⟨Z30.cell 0 rfl,Z30.cell 1 rfl,Z30.cell 2 rfl⟩,hcp0⟩) (fun _=>?_);clear hK K;try simp only [Act.put,zs1,zs2,zs3,zs4,zs5,zs6]
    replace Z2:=Z2.mid hm10 oZr;replace hm:=hm.trans hm10;have hs10:=hm10.size;have hS10:=And.intro (And.intro (Z30.cell 0 rfl) (And.intro (Z30.cell 1 rfl) (Z30.cell 2 rfl))) hcp0;clear Z3 hS q0 q1 q2 hown HPP;refine tkZ [] 6 rfl hS10 ?_;try simp only [Act.put,zs1,zs2,zs3,zs4,zs5,zs6]
    refine tkZ [] 7 rfl hS10 ?_;try simp only [Act.put,zs1,zs2,zs3,zs4,zs5,zs6]
    refine tkZ [] 8 rfl hS10 ?_;try simp only [Act.put,zs1,zs2,zs3,zs4,zs5,zs6]
    have hal:=Mid.alloc w10 (.cells #[.int .i64 0,.int .i64 0,.slice none 0 0] 26);have Z31:=Z30.mid hal oZr;have hcp1:=cell_keep hal (by omega) oZr hcp0;refine rdZ 9 rfl (fun K hK=>?_);go_simp;refine hK.out _ _ (Or.inr ⟨⟨Z31.cell 0 rfl,Z31.cell 1 rfl,Z31.cell 2 rfl⟩,hcp1⟩) (fun _=>?_);clear hK K;try simp only [Act.put,zs1,zs2,zs3,zs4,zs5,zs6]
    clear hal Z31 hcp1;have hal:=Mid.alloc w10 (.cells #[.int .i64 rr,.int .i64 g'.1,.slice A6 g'.2.length c6] 26);have Z31:=Z30.mid hal oZr;have hcp1:=cell_keep hal (by omega) oZr hcp0;refine rdZ 10 rfl (fun K hK=>?_);go_simp;refine hK.out _ _ (Or.inr ⟨⟨Z31.cell 0 rfl,Z31.cell 1 rfl,Z31.cell 2 rfl⟩,hcp1⟩) (fun _=>?_);clear hK K;try simp only [Act.put,zs1,zs2,zs3,zs4,zs5,zs6]
    refine rdZ 11 rfl (fun K hK=>?_);go_simp;refine hK.out _ _ (Or.inr ⟨⟨Z31.cell 0 rfl,Z31.cell 1 rfl,Z31.cell 2 rfl⟩,hcp1⟩) (fun _=>?_);clear hK K;try simp only [Act.put,zs1,zs2,zs3,zs4,zs5,zs6]
    refine wpAnyZ_done (by kernel_rfl) ?_ _;have Zx:=Box.new w10 #[.int .i64 rr,.int .i64 g'.1,.slice A6 g'.2.length c6] 26;replace ho6:=ho6.mid hal oZl;replace Z2:=Z2.mid hal oZr;replace hm:=hm.trans hal;have hgz:Gb+1≤w10.heap.size:=by omega
    have Z3:=Z31;clear Z30 Z31 hS10 hal hcp0 hcp1 hm10;generalize w10.alloc (.cells #[.int .i64 rr,.int .i64 g'.1,.slice A6 g'.2.length c6] 26)=w11 at Z2 Z3 Zx ho6 hm ⊢;generalize w10.heap.size=Gz at Zx hgz ho6 ⊢;have hst:=((Mid.setCell w11 (lo:=Gb) (hi:=Gb+1) (p:=⟨Gb,0,none⟩) (.int .i64 rr) (Nat.le_refl _) (Nat.lt_succ_self _)).trans (Mid.setCell _ (lo:=Gb) (hi:=Gb+1) (p:=⟨Gb,1,none⟩) (.int .i64 g'.1) (Nat.le_refl _) (Nat.lt_succ_self _))).trans (Mid.setCell _ (lo:=Gb) (hi:=Gb+1) (p:=⟨Gb,2,none⟩) (.slice A6 g'.2.length c6) (Nat.le_refl _) (Nat.lt_succ_self _));have Y7:=((Z3.set 0 (.int .i64 rr) (by simp) rfl).set 1 (.int .i64 g'.1) (by simp) rfl).set 2 (.slice A6 g'.2.length c6) (by simp) rfl;simp only [List.set_cons_succ,List.set_cons_zero] at Y7;have x0:=Zx.cell 0 rfl;have x1:=Zx.cell 1 rfl;have x2:=Zx.cell 2 rfl;have q0:=Z3.cell 0 rfl;have q1:=Z3.cell 1 rfl;have q2:=Z3.cell 2 rfl;have qf:=Z3.2.2;go_wp2_with fail;go_roundw
    case rel=>exact ⟨k+1,A6,c6,_,g',hlt,by go_num,HG2,HF2,(ho6.wide (lo':=Gb+1) (by omega) (Nat.le_refl _) ho6.size).mid hst (Or.inl (Nat.le_refl _)),Z2.mid hst (Or.inl (by omega)),Y7,((hm.storeNew (p:=⟨Gb,0,none⟩) (by show w.heap.size≤Gb;omega) (.int .i64 rr)).storeNew (p:=⟨Gb,1,none⟩) (by show w.heap.size≤Gb;omega) (.int .i64 g'.1)).storeNew (p:=⟨Gb,2,none⟩) (by show w.heap.size≤Gb;omega) (.slice A6 g'.2.length c6)⟩
    case measure=>simp [intOf];omega
   ·have hal:=Mid.alloc wz (.cells #[.int .i64 0,.int .i64 0,.slice none 0 0] 26)
    have Z31:=Z3.mid hal oZr;have hcp1:=cell_keep hal hBz oZr hcp;have Zx:=Box.new wz #[.int .i64 0,.int .i64 0,.slice none 0 0] 26;have hown1:=hown.mid hal oZl;have hrp1:=hrp.mid hal oZl;have hsl:=hal.size;go_simp;refine hK.out _ _ (Or.inr ⟨⟨Z31.cell 0 rfl,Z31.cell 1 rfl,Z31.cell 2 rfl⟩,hcp1⟩) (fun _=>?_);clear hK K;try simp only [Act.put,zs1,zs2,zs3,zs4,zs5,zs6]
    replace Z2:=Z2.mid hal oZr;replace hm:=hm.trans hal;clear Z3 hS q0 q1 q2 hown hrp hcp hal;have hzb:wz.heap.size < (wz.alloc (.cells #[.int .i64 0,.int .i64 0,.slice none 0 0] 26)).heap.size:=Zx.1;generalize wz.alloc (.cells #[.int .i64 0,.int .i64 0,.slice none 0 0] 26)=wy at Z31 Zx hown1 hrp1 hcp1 Z2 hm hsl hzb ⊢;have hBy:Bp < wy.heap.size:=by omega
    refine rdZ 5 rfl (fun K hK=>?_)
    (go_simp;(with_reducible refine (HPP.out _ hown1.rg hrp1).mono ?_);rintro en w10 ⟨A6,c6,rfl,ho6,hm10⟩;have Z30:=Z31.mid hm10 oZr;have hcp0:=cell_keep hm10 hBy oZr hcp1;go_wp2_with fail)
    refine hK.out _ _ (Or.inr ⟨⟨Z30.cell 0 rfl,Z30.cell 1 rfl,Z30.cell 2 rfl⟩,hcp0⟩) (fun _=>?_);clear hK K;try simp only [Act.put,zs1,zs2,zs3,zs4,zs5,zs6]
    replace Z2:=Z2.mid hm10 oZr;replace Zx:=Zx.mid hm10 oZr;replace hm:=hm.trans hm10;have hs10:=hm10.size;have hS10:=And.intro (And.intro (Z30.cell 0 rfl) (And.intro (Z30.cell 1 rfl) (Z30.cell 2 rfl))) hcp0;clear Z31 hown1 HPP hrp1 hcp1;refine tkZ [] 6 rfl hS10 ?_;try simp only [Act.put,zs1,zs2,zs3,zs4,zs5,zs6]
    refine tkZ [] 7 rfl hS10 ?_;try simp only [Act.put,zs1,zs2,zs3,zs4,zs5,zs6]
    refine tkZ [] 8 rfl hS10 ?_;try simp only [Act.put,zs1,zs2,zs3,zs4,zs5,zs6]
    have zzf:=Zx.2.2;have zz0:=Zx.cell 0 rfl;have zz1:=Zx.cell 1 rfl;have zz2:=Zx.cell 2 rfl;have hst:=((Mid.setCell w10 (lo:=wz.heap.size) (hi:=wz.heap.size+1) (p:=⟨wz.heap.size,0,none⟩) (.int .i64 rr) (Nat.le_refl _) (Nat.lt_succ_self _)).trans (Mid.setCell _ (lo:=wz.heap.size) (hi:=wz.heap.size+1) (p:=⟨wz.heap.size,1,none⟩) (.int .i64 g'.1) (Nat.le_refl _) (Nat.lt_succ_self _))).trans (Mid.setCell _ (lo:=wz.heap.size) (hi:=wz.heap.size+1) (p:=⟨wz.heap.size,2,none⟩) (.slice A6 g'.2.length c6) (Nat.le_refl _) (Nat.lt_succ_self _));have Z32:=Z30.mid hst (Or.inl (by omega));have hcp2:=cell_keep hst (by omega) (Or.inl hBz) hcp0;refine rdZ 10 rfl (fun K hK=>?_);go_simp;refine hK.out _ _ (Or.inr ⟨⟨Z32.cell 0 rfl,Z32.cell 1 rfl,Z32.cell 2 rfl⟩,hcp2⟩) (fun _=>?_);clear hK K;try simp only [Act.put,zs1,zs2,zs3,zs4,zs5,zs6]
    refine rdZ 11 rfl (fun K hK=>?_);go_simp;refine hK.out _ _ (Or.inr ⟨⟨Z32.cell 0 rfl,Z32.cell 1 rfl,Z32.cell 2 rfl⟩,hcp2⟩) (fun _=>?_);clear hK K;try simp only [Act.put,zs1,zs2,zs3,zs4,zs5,zs6]
    refine wpAnyZ_done (by kernel_rfl) ?_ _;replace ho6:=ho6.mid hst (Or.inl (by omega));replace Z2:=Z2.mid hst (Or.inl (by omega));replace Zx:=((Zx.set 0 (.int .i64 rr) (by simp) rfl).set 1 (.int .i64 g'.1) (by simp) rfl).set 2 (.slice A6 g'.2.length c6) (by simp) rfl;simp only [List.set_cons_succ,List.set_cons_zero] at Zx;replace hm:=((hm.storeNew (p:=⟨wz.heap.size,0,none⟩) (by show w.heap.size≤wz.heap.size;omega) (.int .i64 rr)).storeNew (p:=⟨wz.heap.size,1,none⟩) (by show w.heap.size≤wz.heap.size;omega) (.int .i64 g'.1)).storeNew (p:=⟨wz.heap.size,2,none⟩) (by show w.heap.size≤wz.heap.size;omega) (.slice A6 g'.2.length c6);have hgz:Gb+1≤wz.heap.size:=by omega
    have Z3:=Z32;clear Z30 Z32 hS10 hst hcp0 hcp2 hm10 zz0 zz1 zz2 zzf;generalize ((w10.setCell ⟨wz.heap.size,0,none⟩ (.int .i64 rr)).setCell ⟨wz.heap.size,1,none⟩ (.int .i64 g'.1)).setCell ⟨wz.heap.size,2,none⟩ (.slice A6 g'.2.length c6)=w11 at Z2 Z3 Zx ho6 hm ⊢;generalize wz.heap.size=Gz at Zx hgz hzb ⊢;have hst:=((Mid.setCell w11 (lo:=Gb) (hi:=Gb+1) (p:=⟨Gb,0,none⟩) (.int .i64 rr) (Nat.le_refl _) (Nat.lt_succ_self _)).trans (Mid.setCell _ (lo:=Gb) (hi:=Gb+1) (p:=⟨Gb,1,none⟩) (.int .i64 g'.1) (Nat.le_refl _) (Nat.lt_succ_self _))).trans (Mid.setCell _ (lo:=Gb) (hi:=Gb+1) (p:=⟨Gb,2,none⟩) (.slice A6 g'.2.length c6) (Nat.le_refl _) (Nat.lt_succ_self _));have Y7:=((Z3.set 0 (.int .i64 rr) (by simp) rfl).set 1 (.int .i64 g'.1) (by simp) rfl).set 2 (.slice A6 g'.2.length c6) (by simp) rfl;simp only [List.set_cons_succ,List.set_cons_zero] at Y7;have x0:=Zx.cell 0 rfl;have x1:=Zx.cell 1 rfl;have x2:=Zx.cell 2 rfl;have q0:=Z3.cell 0 rfl;have q1:=Z3.cell 1 rfl;have q2:=Z3.cell 2 rfl;have qf:=Z3.2.2;go_wp2_with fail;go_roundw
    case rel=>exact ⟨k+1,A6,c6,_,g',hlt,by go_num,HG2,HF2,(ho6.wide (lo':=Gb+1) (by omega) (Nat.le_refl _) ho6.size).mid hst (Or.inl (Nat.le_refl _)),Z2.mid hst (Or.inl (by omega)),Y7,((hm.storeNew (p:=⟨Gb,0,none⟩) (by show w.heap.size≤Gb;omega) (.int .i64 rr)).storeNew (p:=⟨Gb,1,none⟩) (by show w.heap.size≤Gb;omega) (.int .i64 g'.1)).storeNew (p:=⟨Gb,2,none⟩) (by show w.heap.size≤Gb;omega) (.slice A6 g'.2.length c6)⟩
    case measure=>simp [intOf];omega
  ·obtain rfl:k=l.length:=by omega
   rw [List.take_length] at HGE;have hrs2:rs=gs:=by rw [HRS.out,← HGE.out]
   have hre2:res=ge:=by rw [HRE.out,← HGE.out]
   clear HRS HRE HGE HFL;subst hrs2;subst res;have z0:=Z2.cell 0 rfl;have z1:=Z2.cell 1 rfl;have z2:=Z2.cell 2 rfl;have q0:=Z3.cell 0 rfl;have q1:=Z3.cell 1 rfl;have q2:=Z3.cell 2 rfl;have zf:=Z2.2.2;have hcl:(w.heap.size == Gb)=false:=by simp;omega
   go_wp2_with fail;refine bodyPost_ret (v:=.tuple #[.agg #[.int .i64 rr,.int .i64 rs,.slice A2 ge.length c2],.bool true]) (by simp [results,Tryz.results243,go_sem,z0,z1,z2,zf,q0,q1,q2]) rfl ⟨A2,c2,rfl,?_,?_⟩
   ·refine OG.wide (OG.mid hown (a:=w.heap.size) (b:=w.heap.size+1) ?_ (Or.inl (by omega))) (by omega) (by have:=hown.size;simp;omega) (Nat.le_refl _)
    repeat (first | exact Mid.refl _ _ _ | refine Mid.stored ?_ _ (by simp;try omega) (by simp;try omega))
   ·repeat (first | exact hm | refine Mid.storeNew ?_ (by simp;try omega) _)
theorem spec_SubgroupOf (rank:Int) (A:Option Addr) (l:List (List Int)) (c:Nat) (w:World) (lo hi:Nat) (hr:RSS w lo hi A l) (hok:∀ xs∈l,OkI xs) (hl:l.length+sumL l≤1048576) (rr rs:Int) (res:List Ed) (b:Bool) (hres:SubIs rank l rr rs res b) :
  Calls Tryz.prog 226 #[.int .i64 rank,.slice A l.length c] w fun e w'=>∃ A1 c1,e=.returned (.tuple #[graV rr rs A1 res.length c1,.bool b])∧OG w' w.heap.size w'.heap.size A1 c1 res∧Mid 0 0 w w':=by
 have HOK:=Lib.hid hok;clear hok;have hm0:Mid 0 0 w (w.alloc (.cells #[.int .i64 0,.int .i64 0,.slice none 0 0] 26)):=Mid.alloc _ _;have b2:=Box.new w #[.int .i64 0,.int .i64 0,.slice none 0 0] 26;by_cases ha:AreW rank l
 ·obtain ⟨rfl,rfl,hrs,hre⟩:b=true∧rr=rank∧rs=(coreA rank (flowA l (1,[]))).1∧res=(coreA rank (flowA l (1,[]))).2:=by
   rcases hres with ⟨h1, -,h2⟩ | ⟨-,h, -⟩
   ·exact ⟨h1,h2⟩
   ·exact absurd ha h
  have hfg:=flow_gr ha;obtain ⟨rn,rfl⟩:∃ rn:Nat,rr=rn:=⟨rr.toNat,by have:=hfg.rank;omega⟩
  have hFI:FlIs rn l rn (flowA l (1,[])).1 (flowA l (1,[])).2 true:=.inl ⟨rfl,ha,rfl,rfl,rfl⟩;obtain ⟨⟨fs,ms⟩,hF⟩:∃ F,flowA l (1,[])=F:=⟨_,rfl⟩
  rw [hF] at hFI hrs hre hfg;obtain ⟨sn,rfl⟩:∃ sn:Nat,fs=sn:=⟨fs.toNat,by have:=hfg.size;simp only at this;omega⟩
  obtain ⟨q,qs,hQ, -⟩:=nat_gr (coreA_gr (g:=((sn:Int),ms)) hfg);rw [hQ] at hrs hre;subst hrs;subst res;have HFI:=Lib.hid hFI;have HFG:=Lib.hid hfg;have HQ:=Lib.hid hQ;clear hres ha hFI hfg hF hQ;go_enter Tryz.func226,Tryz.ntmps226
  go_wp2_with fail;generalize w.alloc (.cells #[.int .i64 0,.int .i64 0,.slice none 0 0] 26)=w1 at hm0 b2 ⊢;have hs1:w.heap.size < w1.heap.size:=b2.1;with_reducible refine (spec_FlowerOf rn A l c w1 _ _ (hr.mid hm0 oZl) HOK.out hl rn sn ms true HFI.out).mono ?_
  rintro en w4 ⟨A4,c4,rfl,ho4,hm4⟩;have hs4:=hm4.size;have ha4:=Mid.alloc w4 (.cells #[.int .i64 rn,.int .i64 sn,.slice A4 ms.length c4] 26);have Y4:=Box.new w4 #[.int .i64 rn,.int .i64 sn,.slice A4 ms.length c4] 26;replace b2:=b2.mid hm4 oZr;replace hm0:=hm0.trans hm4;replace b2:=b2.mid ha4 oZr;replace ho4:=ho4.mid ha4 oZl;replace hm0:=hm0.trans ha4;have hsa:=ha4.size;have y0:=Y4.cell 0 rfl;have y1:=Y4.cell 1 rfl;have y2:=Y4.cell 2 rfl;have hP:=spec_CoreGraph rn sn A4 ms c4 (w4.alloc (.cells #[.int .i64 rn,.int .i64 sn,.slice A4 ms.length c4] 26)) _ _ (OG.rg ho4) HFG.out;rw [HQ.out] at hP;dsimp only at hP;have HPP:=Lib.hid hP;clear hP;go_wp2_with fail;with_reducible refine HPP.out.mono ?_
  rintro en w6 ⟨A5,c5,rfl,ho5,hm6⟩;clear HPP;replace b2:=b2.mid hm6 oZr;replace hm0:=hm0.trans hm6;have z0:=b2.cell 0 rfl;have z1:=b2.cell 1 rfl;have z2:=b2.cell 2 rfl;have zf:=b2.2.2;go_wp2_with fail;refine bodyPost_ret (v:=.tuple #[.agg #[.int .i64 rn,.int .i64 q,.slice A5 qs.length c5],.bool true]) (by simp [results,Tryz.results226,go_sem,z0,z1,z2,zf]) rfl ⟨A5,c5,rfl,?_,?_⟩
  ·refine OG.wide (OG.mid ho5 (a:=w.heap.size) (b:=w.heap.size+1) ?_ (Or.inl (by omega))) (by omega) (by simp) (Nat.le_refl _)
   repeat (first | exact Mid.refl _ _ _ | refine Mid.stored ?_ _ (by simp;try omega) (by simp;try omega))
  ·repeat (first | exact hm0 | refine Mid.storeNew ?_ (by simp;try omega) _)
 ·obtain ⟨rfl,rfl,rfl,rfl⟩:b=false∧rr=0∧rs=0∧res=[]:=by
   rcases hres with ⟨-,h, -⟩ | ⟨h1, -,h2⟩
   ·exact absurd h ha
   ·exact ⟨h1,h2⟩
  have hFI:FlIs rank l 0 0 [] false:=.inr ⟨rfl,ha,rfl,rfl,rfl⟩;have HFI:=Lib.hid hFI;clear hres ha hFI;go_enter Tryz.func226,Tryz.ntmps226
  go_wp2_with fail;generalize w.alloc (.cells #[.int .i64 0,.int .i64 0,.slice none 0 0] 26)=w1 at hm0 b2 ⊢;have hs1:w.heap.size < w1.heap.size:=b2.1;with_reducible refine (spec_FlowerOf rank A l c w1 _ _ (hr.mid hm0 oZl) HOK.out hl 0 0 [] false HFI.out).mono ?_
  rintro en w4 ⟨A4,c4,rfl, -,hm4⟩;replace b2:=b2.mid hm4 oZr;replace hm0:=hm0.trans hm4;have hb23:w.heap.size < w4.heap.size:=b2.1;have z0:=b2.cell 0 rfl;have z1:=b2.cell 1 rfl;have z2:=b2.cell 2 rfl;have zf:=b2.2.2;go_wp2_with fail;refine bodyPost_ret (v:=.tuple #[.agg #[.int .i64 0,.int .i64 0,.slice none 0 0],.bool false]) (by simp [results,Tryz.results226,go_sem,z0,z1,z2,zf,hb23,World.cell?_alloc_lt]) rfl ⟨none,0,rfl,?_,?_⟩
  ·exact ⟨Nat.le_refl _,⟨rfl,.inl ⟨rfl,rfl⟩⟩,fun g hg=>by simp [Value.ownBlock] at hg⟩
  ·repeat (first | exact hm0 | refine Mid.trans ?_ (Mid.alloc _ _) | refine Mid.storeNew ?_ (by simp;try omega) _)
end
section
open Go.RowKit
end
section
open Go.RowKit
theorem RSS.lit {w:World} (rows:List Row) (tSI:TypeId) (h:∀ r∈rows,Rs w w.heap.size r.A (ints r.xs)):RSS (w.alloc (.cells (rowsV rows).toArray tSI)) 0 (w.heap.size+1) (some ⟨w.heap.size,0,none⟩) (rowsD rows):=by
 refine ⟨rows,rfl,⟨by simp,fun _=>⟨w.heap.size,0,rfl,Nat.zero_le _,Nat.lt_succ_self _,fun j u hu=>?_⟩⟩,fun r hr=>⟨by simp,fun hn=>?_⟩⟩
 ·rw [Nat.zero_add,World.cell?_alloc_new]
  simpa using hu
 ·obtain ⟨b,off,e,hb,hc⟩:=(h r hr).alloc (Nat.le_refl _) (.cells (rowsV rows).toArray tSI) hn
  exact ⟨b,off,e,Nat.zero_le _,by omega,hc⟩
end
section
open Go.RowKit
theorem loop_inS {r s:Int} {es:List Ed} (h:IsFol r s es) {wd:List Int}:LoopP es (red [] wd)↔InS es wd:=by
 rw [inS_rdA h];unfold LoopP;constructor
 ·rintro ⟨h1,h2⟩
  exact Prod.ext h2 h1
 ·intro e
  rw [e];exact ⟨rfl,rfl⟩
theorem impl_ReduceLetters (A:Option Addr) (xs:List Int) (c:Nat) (w:World) (B:Nat) (hr:Rs w B A (ints xs)) (hB:B≤w.heap.size) (hok:OkI xs) (hl:xs.length≤268435456) :
  Calls Tryz.prog 107 #[.slice A xs.length c] w fun e w'=>∃ A2 c2,e=.returned (.slice A2 (red [] xs).length c2)∧w'.ownsRow w.heap.size 3 1 (.slice A2 (red [] xs).length c2) (red [] xs).length (ints (red [] xs))∧Mid 0 0 w w':=by
 have h:=RSS.lit (w:=w) [⟨A,c,xs⟩] 34 (by intro r hr2;simp at hr2;rcases hr2 with rfl;exact hr.more hB);have h2:=impl_product (some ⟨w.heap.size,0,none⟩) [xs] 1 _ _ _ h (by intro zs hz;simp at hz;rcases hz with rfl;exact hok) (by simp) (by simp [sumL];omega);have e:[xs].flatten=xs:=by simp
 rw [e] at h2;have H2:Hid (Calls Tryz.prog 122 #[.slice (some ⟨w.heap.size,0,none⟩) 1 1] (w.alloc (.cells #[.slice A xs.length c] 34)) fun e w'=>RetI 3 (red [] xs) (w.alloc (.cells #[.slice A xs.length c] 34)) e w'):=Lib.hid h2;have hal:=Mid.alloc w (.cells #[.slice A xs.length c] 34);have hsz:(w.alloc (.cells #[.slice A xs.length c] 34)).heap.size=w.heap.size+1:=by simp
 clear h h2 e hok;go_enter Tryz.func107,Tryz.ntmps107
 go_wp2_with fail;with_reducible refine H2.out.mono ?_
 rintro e w2 ⟨A2,c2,rfl,ho,hb⟩;go_wp2_with fail;go_ret;exact ⟨A2,c2,rfl,owns_base ho (by omega),hal.trans (Mid.of_below hb)⟩
theorem impl_Contains (r s:Int) (A:Option Addr) (es:List Ed) (c:Nat) (Aw:Option Addr) (wd:List Int) (cw:Nat) (w:World) (lo hi lo' hi':Nat) (hr:RG w lo hi A es) (hw:RV w lo' hi' Aw (ints wd)) (hl:es.length≤1048576) (hcl:es.length≤c) (hwl:wd.length≤1048576) (hok:OkI wd) (b:Bool) (hb:b=true↔IsCor r s es∧InS es wd) :
  Calls Tryz.prog 23 #[graV r s A es.length c,.slice Aw wd.length cw] w fun e w'=>e=.returned (.bool b)∧Mid 0 0 w w':=by
 have hm0:Mid 0 0 w (w.alloc (.cells #[.int .i64 r,.int .i64 s,.slice A es.length c] 26)):=Mid.alloc _ _;have b0:=Box.new w #[.int .i64 r,.int .i64 s,.slice A es.length c] 26;have HB:=Lib.hid hb;have HOK:=Lib.hid hok;have HRL:=Lib.hid (fun W (h:RV W lo' hi' Aw (ints wd))=>impl_ReduceLetters Aw wd cw W hi' h.rs h.1 hok (by omega));clear hb hok;by_cases h:IsCor r s es
 ·obtain ⟨r,n,rfl,rfl⟩:=h.gr.nat
  have HC:=Lib.hid h;clear h;have hrl:(red [] wd).length≤1048576:=by have:=red_nil_len wd;omega
  have HRO:=Lib.hid (red_ok HOK.out);obtain ⟨rw0,hrw⟩:∃ x,red [] wd=x:=⟨_,rfl⟩
  have hL:b=true↔LoopP es rw0:=by
   rw [← hrw,loop_inS HC.out.fol,HB.out];exact ⟨fun h=>h.2,fun h=>⟨HC.out,h⟩⟩
  have HL:=Lib.hid hL;rw [hrw] at HRL hrl HRO;clear HB hrw hL;go_enter Tryz.func23,Tryz.ntmps23
  go_wp2_with fail;generalize (w.alloc (.cells #[.int .i64 r,.int .i64 n,.slice A es.length c] 26))=w1 at hm0 b0 ⊢;have hmd:=Mid.drew1 w1;replace b0:=b0.mid hmd oZr;replace hm0:=hm0.trans hmd;have p0:=b0.cell 0 rfl;have p1:=b0.cell 1 rfl;have p2:=b0.cell 2 rfl;clear hmd;refine wp_region_Z (S:=(fun w'=>w'.cell? ⟨w.heap.size,0,none⟩=some (.int .i64 r)∧w'.cell? ⟨w.heap.size,1,none⟩=some (.int .i64 n)∧w'.cell? ⟨w.heap.size,2,none⟩=some (.slice A es.length c))) [] (by kernel_rfl) ⟨p0,p1,p2⟩ ?_;generalize World.drew w1=wz at b0 hm0 p0 p1 p2 ⊢;have hS:wz.cell? ⟨w.heap.size,0,none⟩=some (.int .i64 r)∧wz.cell? ⟨w.heap.size,1,none⟩=some (.int .i64 n)∧wz.cell? ⟨w.heap.size,2,none⟩=some (.slice A es.length c):=⟨p0,p1,p2⟩
  refine tkZ [] 0 rfl hS ?_;try simp only [Act.put,zs1,zs2,zs3,zs4,zs5,zs6]
  refine rdZ 1 rfl (fun K hK=>?_)
  (go_simp;(with_reducible refine (impl_IsCore r n A es c _ _ _ (hr.mid hm0 oZl) hl hcl true (iff_of_true rfl HC.out)).mono ?_);rintro en w4 ⟨rfl,hm4⟩;have b04:=b0.mid hm4 oZr;go_wp2_with fail)
  refine hK.out _ _ (Or.inr ⟨b04.cell 0 rfl,b04.cell 1 rfl,b04.cell 2 rfl⟩) (fun _=>?_);clear hK K;try simp only [Act.put,zs1,zs2,zs3,zs4,zs5,zs6]
  replace hm0:=hm0.trans hm4;clear hS p0 p1 p2 b0;have hS4:=And.intro (b04.cell 0 rfl) (And.intro (b04.cell 1 rfl) (b04.cell 2 rfl));refine tkZ [] 2 rfl hS4 ?_;try simp only [Act.put,zs1,zs2,zs3,zs4,zs5,zs6]
  refine tkZ [] 3 rfl hS4 ?_;try simp only [Act.put,zs1,zs2,zs3,zs4,zs5,zs6]
  refine tkZ [] 4 rfl hS4 ?_;try simp only [Act.put,zs1,zs2,zs3,zs4,zs5,zs6]
  clear hS4;refine rdZ 5 rfl (fun K hK=>?_)
  (go_simp;(with_reducible refine (HRL.out _ (hw.mid hm0 oZl)).mono ?_);rintro en w5 ⟨A5,c5,rfl,ho5,hm5⟩;have b05:=b04.mid hm5 oZr;go_wp2_with fail)
  refine hK.out _ _ (Or.inr ⟨b05.cell 0 rfl,b05.cell 1 rfl,b05.cell 2 rfl⟩) (fun _=>?_);clear hK K;try simp only [Act.put,zs1,zs2,zs3,zs4,zs5,zs6]
  replace hm0:=hm0.trans hm5;clear b04;refine rdZ 6 rfl (fun K hK=>?_)
  (go_simp;(with_reducible refine (impl_loops r n A es c A5 rw0 c5 _ _ _ _ _ (hr.mid hm0 oZl) (RV.of_rs (Rs.of_own ho5) (Nat.le_refl _)) HC.out.gr hrl HRO.out b HL.out).mono ?_);rintro en w6 ⟨rfl,hm6⟩;have b06:=b05.mid hm6 oZr;go_wp2_with fail)
  refine hK.out _ _ (Or.inr ⟨b06.cell 0 rfl,b06.cell 1 rfl,b06.cell 2 rfl⟩) (fun _=>?_);clear hK K;try simp only [Act.put,zs1,zs2,zs3,zs4,zs5,zs6]
  replace hm0:=hm0.trans hm6;clear b05 ho5;have hS6:=And.intro (b06.cell 0 rfl) (And.intro (b06.cell 1 rfl) (b06.cell 2 rfl));refine tkZ [] 7 rfl hS6 ?_;try simp only [Act.put,zs1,zs2,zs3,zs4,zs5,zs6]
  refine rdZ 8 rfl (fun K hK=>?_);go_simp;refine hK.out _ _ (Or.inr hS6) (fun _=>?_);clear hK K;try simp only [Act.put,zs1,zs2,zs3,zs4,zs5,zs6]
  refine wpAnyZ_done (by kernel_rfl) ?_ _;go_wp2_with fail;go_ret;exact ⟨rfl,hm0⟩
 ·have hbf:b=false:=by
   cases b
   ·rfl
   ·exact absurd (HB.out.mp rfl).1 h
  subst hbf;have HN:=Lib.hid h;clear h HB HRL HOK;go_enter Tryz.func23,Tryz.ntmps23
  go_wp2_with fail;generalize (w.alloc (.cells #[.int .i64 r,.int .i64 s,.slice A es.length c] 26))=w1 at hm0 b0 ⊢;have hmd:=Mid.drew1 w1;replace b0:=b0.mid hmd oZr;replace hm0:=hm0.trans hmd;have p0:=b0.cell 0 rfl;have p1:=b0.cell 1 rfl;have p2:=b0.cell 2 rfl;clear hmd;refine wp_region_Z (S:=(fun w'=>w'.cell? ⟨w.heap.size,0,none⟩=some (.int .i64 r)∧w'.cell? ⟨w.heap.size,1,none⟩=some (.int .i64 s)∧w'.cell? ⟨w.heap.size,2,none⟩=some (.slice A es.length c))) [] (by kernel_rfl) ⟨p0,p1,p2⟩ ?_;generalize World.drew w1=wz at b0 hm0 p0 p1 p2 ⊢;have hS:wz.cell? ⟨w.heap.size,0,none⟩=some (.int .i64 r)∧wz.cell? ⟨w.heap.size,1,none⟩=some (.int .i64 s)∧wz.cell? ⟨w.heap.size,2,none⟩=some (.slice A es.length c):=⟨p0,p1,p2⟩
  refine tkZ [] 0 rfl hS ?_;try simp only [Act.put,zs1,zs2,zs3,zs4,zs5,zs6]
  refine rdZ 1 rfl (fun K hK=>?_)
  (go_simp;(with_reducible refine (impl_IsCore r s A es c _ _ _ (hr.mid hm0 oZl) hl hcl false (iff_of_false (by simp) HN.out)).mono ?_);rintro en w4 ⟨rfl,hm4⟩;have b04:=b0.mid hm4 oZr;go_wp2_with fail)
  refine hK.out _ _ (Or.inr ⟨b04.cell 0 rfl,b04.cell 1 rfl,b04.cell 2 rfl⟩) (fun _=>?_);clear hK K;try simp only [Act.put,zs1,zs2,zs3,zs4,zs5,zs6]
  replace hm0:=hm0.trans hm4;clear hS p0 p1 p2 b0;have hS4:=And.intro (b04.cell 0 rfl) (And.intro (b04.cell 1 rfl) (b04.cell 2 rfl));refine tkZ [] 2 rfl hS4 ?_;try simp only [Act.put,zs1,zs2,zs3,zs4,zs5,zs6]
  refine wpAnyZ_takeC [] (i:=3) rfl (by kernel_rfl) (by kernel_rfl) (by kernel_rfl) (by kernel_rfl) (fun _ _ _ h=>h) (Or.inr ⟨by rfl,rfl⟩) hS4 ?_;try simp only [Act.put,zs1,zs2,zs3,zs4,zs5,zs6]
  refine wpAnyZ_takeC [] (i:=4) rfl (by kernel_rfl) (by kernel_rfl) (by kernel_rfl) (by kernel_rfl) (fun _ _ _ h=>h) (Or.inr ⟨by rfl,rfl⟩) hS4 ?_;try simp only [Act.put,zs1,zs2,zs3,zs4,zs5,zs6]
  refine rdZ 5 rfl (fun K hK=>?_);go_simp;refine hK.out _ _ (Or.inr hS4) (fun _=>?_);clear hK K;try simp only [Act.put,zs1,zs2,zs3,zs4,zs5,zs6]
  refine rdZ 6 rfl (fun K hK=>?_);go_simp;refine hK.out _ _ (Or.inr hS4) (fun _=>?_);clear hK K;try simp only [Act.put,zs1,zs2,zs3,zs4,zs5,zs6]
  refine tkZ [] 7 rfl hS4 ?_;try simp only [Act.put,zs1,zs2,zs3,zs4,zs5,zs6]
  refine rdZ 8 rfl (fun K hK=>?_);go_simp;refine hK.out _ _ (Or.inr hS4) (fun _=>?_);clear hK K;try simp only [Act.put,zs1,zs2,zs3,zs4,zs5,zs6]
  refine wpAnyZ_done (by kernel_rfl) ?_ _;go_wp2_with fail;go_ret;exact ⟨rfl,hm0⟩
end
section
open Go.RowKit
end
end Go.Proofs.YthampgpcajmopaaGreat
