/- Contracts and lemmas of this seat, many texts in one: see the words ahead of each. No condition beyond those typed in each lemma. -/
import Derived.Test.YthampgpcajmopaaGreatCv2
import Derived.Test.YthampgpcajmopaaGreatCv1

namespace Go.Proofs.YthampgpcajmopaaGreat
set_option linter.unusedVariables false
set_option linter.unusedSimpArgs false
set_option maxHeartbeats 40000000
set_option maxRecDepth 100000
section
open Go.RowKit
structure TwoI (w:World) (lo:Nat) (F T:Value) (n m:Nat) (xs ys:List Int):Prop where
 f:w.ownsRow lo 3 1 F n (ints xs)
 t:w.ownsRow lo 3 1 T m (ints ys)
 ne:F.ownBlock≠T.ownBlock
theorem TwoI.swap {w:World} {lo:Nat} {F T:Value} {n m:Nat} {xs ys:List Int} (h:TwoI w lo F T n m xs ys):TwoI w lo T F m n ys xs:=⟨h.t,h.f,fun e=>h.ne e.symm⟩
theorem TwoI.push {w w':World} {lo:Nat} {F T F':Value} {n m n':Nat} {xs ys xs':List Int} (h:TwoI w lo F T n m xs ys) (ho:w'.ownsRow lo 3 1 F' n' (ints xs')) (hg:w.grownBy w' F.ownBlock) (hb:F'.ownBlock=F.ownBlock ∨ F'.ownBlock=some (w.heap.size+1)):TwoI w' lo F' T n' m xs' ys:=by
 refine ⟨ho,h.t.kept hg ?_,fun e=>?_⟩
 ·cases hT:T.ownBlock with
  | none=>exact .inl rfl
  | some j=>exact .inr fun e=>h.ne (by rw [hT];exact e.symm)
 ·rcases hb with hb | hb
  ·exact h.ne (hb.symm.trans e)
  ·have:=(h.t.lt (w.heap.size+1) (by rw [← e,hb])).2
   omega
theorem TwoI.mid {w w':World} {lo a b:Nat} {F T:Value} {n m:Nat} {xs ys:List Int} (h:TwoI w lo F T n m xs ys) (hm:Mid a b w w') (hd:b≤lo):TwoI w' lo F T n m xs ys:=⟨owns_mid h.f hm (Or.inl hd),owns_mid h.t hm (Or.inl hd),h.ne⟩
theorem TwoI.cellF {w:World} {lo b off n c m j:Nat} {T:Value} {xs ys:List Int} {y:Int} (h:TwoI w lo (.slice (some ⟨b,off,none⟩) n c) T n m xs ys) (hj:xs[j]?=some y):w.cell? ⟨b,off+j,none⟩=some (.int .i64 y):=by
 obtain ⟨b',off',hA, -, -,hc⟩:=(owns_rv h.f).2 (by intro h0;simp [ints] at h0;subst h0;simp at hj);injection hA with hA
 injection hA with h1 h2
 subst h1 h2;exact hc j _ (by simp [ints,hj])
theorem TwoI.grownE {w w':World} {lo lo':Nat} {F T v:Value} {n m k:Nat} {xs ys:List Int} {es:List Ed} (h:TwoI w lo F T n m xs ys) (he:w.ownsRow lo' 68 3 v k (ints (edI es))) (hg:w.grownBy w' v.ownBlock):TwoI w' lo F T n m xs ys:=by
 refine ⟨h.f.kept hg ?_,h.t.kept hg ?_,h.ne⟩
 ·rcases owns_ne h.f he (by decide) with h1 | h1
  ·exact .inl h1
  ·exact .inr h1
 ·rcases owns_ne h.t he (by decide) with h1 | h1
  ·exact .inl h1
  ·exact .inr h1
section
variable {W:World} {ops:Array Oper} {rest:List Oper} {o:Oper} {a:Act} {Q:Exit→Act→World→Prop}
theorem wpList_push2 (hgd:o.guard=none) (s x:Operand)
  (ho:o.op=.call { callee:=.builtin .append,args:=#[s,x],argTypes:=#[34,34] }) (lo:Nat) (A:Option Addr) (n c:Nat) (xs:List Int) (T:Value) (m:Nat) (ys:List Int) (hs:a.eval s=.slice A n c)
  (h2:TwoI W lo (.slice A n c) T n m xs ys) (y:Int) (hx:a.eval x=.slice (some ⟨W.heap.size,0,none⟩) 1 1) (hn:n≤1048576) (hb:lo≤W.heap.size)
  (h:∀ A' c' w',TwoI w' lo (.slice A' (n+1) c') T (n+1) m (xs++[y]) ys→Mid lo W.heap.size W w'→wpList Tryz.prog ops Q rest (a.put o.dst (.slice A' (n+1) c')) w') :
  wpList Tryz.prog ops Q (o :: rest) a (W.alloc (.cells #[.int .i64 y] 3)):=by
 refine wpList_push (news:=[.int .i64 y]) hgd s x 34 ho lo 3 (.int .i64 0) 1 8 undSI infoI rfl (by decide) (.slice A n c) n (ints xs) hs h2.f 1 hx rfl ?_ (by unfold maxLen;omega) (by omega) hb ?_
 ·intro u hu
  simp at hu;subst hu
  rfl
 ·intro v' w' h3 h4 h5
  obtain ⟨A',c',rfl, -, -⟩:=owns_shape h3;refine h A' c' w' (h2.push ?_ h4 h5) (Mid.of_grownRow h2.f h4);rw [ints_append];exact h3
theorem wpList_pushE2 (hgd:o.guard=none) (s x:Operand)
  (ho:o.op=.call { callee:=.builtin .append,args:=#[s,x],argTypes:=#[24,24] }) (lo:Nat) (A:Option Addr) (n c:Nat) (es:List Ed) (hs:a.eval s=.slice A n c)
  (hown:W.ownsRow lo 68 3 (.slice A n c) n (ints (edI es))) (e:Ed) (hx:a.eval x=.slice (some ⟨W.heap.size,0,none⟩) 1 1) (hn:n≤1048576) (hb:lo≤W.heap.size)
  (h:∀ A' c' w',w'.ownsRow lo 68 3 (.slice A' (n+1) c') (n+1) (ints (edI (es++[e])))→W.grownBy w' (Value.ownBlock (.slice A n c))→(Value.ownBlock (.slice A' (n+1) c')=Value.ownBlock (.slice A n c) ∨ Value.ownBlock (.slice A' (n+1) c')=some (W.heap.size+1))→wpList Tryz.prog ops Q rest (a.put o.dst (.slice A' (n+1) c')) w') :
  wpList Tryz.prog ops Q (o :: rest) a (W.alloc (.cells #[.int .i64 e.a,.int .i64 e.l,.int .i64 e.b] 68)):=by
 refine wpList_push (news:=[.int .i64 e.a,.int .i64 e.l,.int .i64 e.b]) hgd s x 24 ho lo 68 (.agg #[.int .i64 0,.int .i64 0,.int .i64 0]) 3 24 undSE infoE rfl (by decide) (.slice A n c) n (ints (edI es)) hs hown 1 hx rfl ?_ (by unfold maxLen;omega) (by omega) hb ?_
 ·intro u hu
  simp at hu;rcases hu with rfl | rfl | rfl <;> rfl
 ·intro v' w' h1 h2 h3
  obtain ⟨A',c',rfl, -, -⟩:=owns_shape h1;refine h A' c' w' ?_ h2 h3;rw [edI_append,ints_append,edI_one];exact h1
end
def CompleteIs (r s:Int) (es:List Ed) (rr rs:Int) (res:List Ed) (b:Bool):Prop :=
 (b=true∧IsFol r s es∧rr=r∧rs=s∧res=canon (es++addLs s es r.toNat)) ∨ (b=false∧¬ IsFol r s es∧rr=0∧rs=0∧res=[])
theorem CompleteIs.no {r s:Int} {es:List Ed} {rr rs:Int} {res:List Ed} {b:Bool} (h:CompleteIs r s es rr rs res b) (hn:¬ IsFol r s es):b=false∧rr=0∧rs=0∧res=[]:=by
 rcases h with ⟨-,h, -⟩ | ⟨h1, -,h2⟩
 ·exact absurd h hn
 ·exact ⟨h1,h2⟩
theorem CompleteIs.yes {r s:Int} {es:List Ed} {rr rs:Int} {res:List Ed} {b:Bool} (h:CompleteIs r s es rr rs res b) (hn:IsFol r s es):b=true∧rr=r∧rs=s∧res=canon (es++addLs s es r.toNat):=by
 rcases h with ⟨h1, -,h2⟩ | ⟨-,h, -⟩
 ·exact ⟨h1,h2⟩
 ·exact absurd hn h
theorem impl_CompleteGraph (r s:Int) (A:Option Addr) (es:List Ed) (c:Nat) (w:World) (lo hi:Nat)
  (hr:RG w lo hi A es) (hl:es.length≤1048576) (hcl:es.length≤c) (rr rs:Int) (res:List Ed) (b:Bool) (hres:CompleteIs r s es rr rs res b) :
  Calls Tryz.prog 51 #[graV r s A es.length c] w fun e w'=>∃ A1 c1,e=.returned (.tuple #[graV rr rs A1 res.length c1,.bool b])∧OG w' w.heap.size w'.heap.size A1 c1 res∧Mid 0 0 w w':=by
 have HR:=Lib.hid hres;clear hres;obtain ⟨b1,hb1⟩:=bool_of (IsFol r s es);have H1:=Lib.hid hb1;clear hb1;have hm0:Mid 0 0 w ((w.alloc (.cells #[.int .i64 r,.int .i64 s,.slice A es.length c] 26)).alloc (.cells #[.int .i64 0,.int .i64 0,.slice none 0 0] 26)):=(Mid.alloc _ _).trans (Mid.alloc _ _);have B0:=(Box.new w #[.int .i64 r,.int .i64 s,.slice A es.length c] 26).mid (Mid.alloc _ (.cells #[.int .i64 0,.int .i64 0,.slice none 0 0] 26)) oZr;have B2:=Box.new (w.alloc (.cells #[.int .i64 r,.int .i64 s,.slice A es.length c] 26)) #[.int .i64 0,.int .i64 0,.slice none 0 0] 26;simp only [World.size_alloc] at B2;go_enter Tryz.func51,Tryz.ntmps51
 go_wp2_with fail;generalize hw1:((w.alloc (.cells #[.int .i64 r,.int .i64 s,.slice A es.length c] 26)).alloc (.cells #[.int .i64 0,.int .i64 0,.slice none 0 0] 26))=w1 at hm0 B0 B2 ⊢;have hs1:w1.heap.size=w.heap.size+1+1:=by rw [← hw1];simp
 have HS:=Lib.hid hs1;clear hw1 hs1;with_reducible refine (impl_IsFolded r s A es c _ _ _ (hr.mid hm0 oZl) hl hcl b1 H1.out).mono ?_
 rintro en w2 ⟨rfl,hm2⟩;have C0:=B0.mid hm2 oZr;have C2:=B2.mid hm2 oZr;have p0:=C0.cell 0 rfl;have p1:=C0.cell 1 rfl;have p2:=C0.cell 2 rfl;have z0:=C2.cell 0 rfl;have z1:=C2.cell 1 rfl;have z2:=C2.cell 2 rfl;have zf:=C2.2.2;have hm:=hm0.trans hm2;cases b1 with
 | false =>
  have hno:¬ IsFol r s es:=fun h=>by have:=H1.out.2 h;cases this
  obtain ⟨rfl,rfl,rfl,rfl⟩:=HR.out.no hno;go_wp2_with fail;refine bodyPost_ret (v:=.tuple #[.agg #[.int .i64 0,.int .i64 0,.slice none 0 0],.bool false]) (by simp [results,Tryz.results51,go_sem,z0,z1,z2,zf]) rfl ⟨none,0,rfl,OG.nil,?_⟩;repeat (first | exact hm | refine Mid.storeNew ?_ (by simp;try omega) _)
 | true =>
 have F1:=Lib.hid (H1.out.1 rfl);have hg:=F1.out.gr;have g1:=hg.rank;have g2:=hg.size;have g3:=hg.len;obtain ⟨rfl,hrr,hrs,hre⟩:=HR.out.yes F1.out;have HRR:=Lib.hid hrr;have HRS:=Lib.hid hrs;have HRE:=Lib.hid hre;have hmul:0≤s * r∧s * r≤120:=⟨Int.mul_nonneg (by omega) (by omega),by have:=Int.mul_le_mul (show s≤40 by omega) (show r≤3 by omega) (by omega) (by omega);omega⟩
 have hmd:decide (120 < s * r)=false:=by simp;omega
 clear B0 B2 HR H1 hrr hrs hre hg;go_wp2_with fail;with_reducible refine (impl_copyGraph r s A es c _ _ _ (hr.mid hm oZl) hl).mono ?_
 rintro en w4 ⟨A1,c1,rfl,ho4,hm4⟩;have E0:=C0.mid hm4 oZr;have E2:=C2.mid hm4 oZr;have hal:=Mid.alloc w4 (.cells #[.int .i64 r,.int .i64 s,.slice A1 es.length c1] 26);have Y0:=E0.mid hal oZr;have Y2:=E2.mid hal oZr;have Y3:=Box.new w4 #[.int .i64 r,.int .i64 s,.slice A1 es.length c1] 26;have hzs:=hm4.size;have hmy:=(hm.trans hm4).trans hal;have ho5:=(ho4.mid hal oZl).ov.2.1;have hlt4:=ho4.ov.2.2;clear p0 p1 p2 z0 z1 z2 zf C0 C2;have hz0:=E0.1;have hz2:=E2.1;clear E0 E2;have hb4:Value.ownBlock (.slice A1 es.length c1)≠some w4.heap.size:=fun h=>by have:=hlt4 _ h;omega
 have hw2:w.heap.size≤w2.heap.size:=hm.size;have hw22:w.heap.size+2≤w2.heap.size:=by have h1:=HS.out;have h2:=hm2.size;omega
 go_wp2_with fail;generalize hw5:w4.alloc (.cells #[.int .i64 r,.int .i64 s,.slice A1 es.length c1] 26)=w5 at Y0 Y2 Y3 hmy ho5 ⊢;have hs5:w4.heap.size+1≤w5.heap.size:=by rw [← hw5];simp
 clear hw5 hal;have hGw:w.heap.size+1 < w4.heap.size:=by have:=HS.out;have:=hm2.size;omega
 have hG2:w2.heap.size≤w4.heap.size:=hzs;generalize hG:w4.heap.size=G at Y3 hb4 hs5 hGw hG2 ⊢;have hgl:∀ e∈es,1≤e.l∧e.l≤3:=fun e he=>by have:=F1.out.gr.all e he;unfold InG at this;omega
 clear hG hm2 hm4 hm0 hlt4 hz0 hz2 hzs ho4 HS hm;go_loopw [5] (fun x wr=>∃ (k:Nat) (A2:Option Addr) (n2 c2:Nat),(k:Int)≤r∧x=.int .i64 ((k:Int)+1)∧Hid ((es++addLs s es k).length=n2) ∧
   wr.ownsRow w2.heap.size 68 3 (.slice A2 n2 c2) n2 (ints (edI (es++addLs s es k)))∧Value.ownBlock (.slice A2 n2 c2)≠some G ∧
   Box wr w.heap.size [.int .i64 r,.int .i64 s,.slice A es.length c]∧Box wr (w.heap.size+1) [.int .i64 0,.int .i64 0,.slice none 0 0] ∧
   Box wr G [.int .i64 r,.int .i64 s,.slice A2 n2 c2]∧Mid 0 0 w wr) (fun x _=>(r+1 - intOf x).toNat)
 case atStart=>exact ⟨0,A1,es.length,c1,by omega,rfl,Lib.hid (by simp [addLs]),by simpa [addLs] using ho5,hb4,Y0,Y2,Y3,hmy⟩
 case round =>
  obtain ⟨wo,hwo⟩:∃ wo,wo=wr:=⟨_,rfl⟩
  subst hwo;obtain ⟨k,A2,n2,c2,hk,rfl,HN,hown,hbk,Z0,Z2,Z3,hmr⟩:=hrel;have hGo:G < wo.heap.size:=Z3.1;have p0:=Z0.cell 0 rfl;have p1:=Z0.cell 1 rfl;have p2:=Z0.cell 2 rfl;by_cases hlt:(k:Int) < r
  ·have hkx:(k:Int)+1≤r:=by omega
   have hk0:(0:Int) < (k:Int)+1:=by omega
   have hal:=(Mid.alloc wo (.cells #[] 3)).trans (Mid.alloc (wo.alloc (.cells #[] 3)) (.cells #[] 3));have T0:TwoI ((wo.alloc (.cells #[] 3)).alloc (.cells #[] 3)) wo.heap.size (.slice (some ⟨wo.heap.size,0,none⟩) 0 0) (.slice (some ⟨wo.heap.size+1,0,none⟩) 0 0) 0 0 [] []:=by
    have O1:=owns_empty wo 3 1;have O2:=owns_empty (wo.alloc (.cells #[] 3)) 3 1;rw [World.size_alloc] at O2;refine ⟨O1.alloc _,owns_base O2 (Nat.le_succ _),?_⟩;intro h;simp [Value.ownBlock] at h
   go_wp2_with fail;go_loopw [6,7,8] (fun f t v wr=>∃ (j:Nat) (AF:Option Addr) (nF cF:Nat) (AT:Option Addr) (nT cT:Nat),(j:Int)≤s∧v=.int .i64 j∧f=.slice AF nF cF∧t=.slice AT nT cT∧Hid ((freeV es ((k:Int)+1) j).length=nF)∧Hid ((freeV es (-((k:Int)+1)) j).length=nT) ∧
    Hid (TwoI wr wo.heap.size (.slice AF nF cF) (.slice AT nT cT) nF nT (freeV es ((k:Int)+1) j) (freeV es (-((k:Int)+1)) j))∧Mid 0 0 wo wr) (fun _ _ v _=>(s - intOf v).toNat)
   case atStart=>exact ⟨0,_,0,0,_,0,0,by omega,rfl,rfl,rfl,Lib.hid rfl,Lib.hid rfl,Lib.hid T0,hal⟩
   case round =>
    obtain ⟨j,AF,nF,cF,AT,nT,cT,hj,rfl,rfl,rfl,HNF,HNT,HT,hmx⟩:=hrel;have hnF:nF≤40:=by have h1:=freeV_le es ((k:Int)+1) j;have h2:=HNF.out;omega
    have hnT:nT≤40:=by have h1:=freeV_le es (-((k:Int)+1)) j;have h2:=HNT.out;omega
    have X0:=Z0.mid hmx oZr;have q0:=X0.cell 0 rfl;have q1:=X0.cell 1 rfl;have q2:=X0.cell 2 rfl;by_cases hlt2:(j:Int) < s
    ·have hS1:=freeV_succ es ((k:Int)+1) j
     have hS2:=freeV_succ es (-((k:Int)+1)) j;go_wp2_with fail;with_reducible refine (impl_NextVertex r s A es c j ((k:Int)+1) _ lo hi (hr.mid (hmr.trans hmx) oZl) (by omega) hgl (by omega) (by omega)).mono ?_
     rintro en w6 ⟨rfl,hm6⟩;generalize hv1:nextV es (j:Int) ((k:Int)+1)=v1 at hS1 ⊢;have X1:=X0.mid hm6 oZr;clear q0 q1 q2;have q0:=X1.cell 0 rfl;have q1:=X1.cell 1 rfl;have q2:=X1.cell 2 rfl;have hmx6:=hmx.trans hm6;have hsz6:=hmx6.size;have HT6:=Lib.hid (HT.out.mid hm6 (Nat.zero_le _));have hwo:w.heap.size < wo.heap.size:=Z0.1;by_cases c1:v1 < 0
     ·have b1:decide (v1 < 0)=true:=by simpa using c1
      rw [if_pos c1] at hS1;go_wp2_with (at_builtin;refine wpList_push2 rfl _ _ rfl wo.heap.size AF nF cF _ _ _ _ rfl HT6.out j rfl (by omega) hsz6 ?_;intro A7 c7 w7 ht7 hm7;have X2:=X1.mid hm7 (Or.inl hwo);have z0:=X2.cell 0 rfl;have z1:=X2.cell 1 rfl;have z2:=X2.cell 2 rfl)
      with_reducible refine (impl_NextVertex r s A es c j (-((k:Int)+1)) _ lo hi (hr.mid (hmr.trans (hmx6.transNew hm7 (Or.inl (Nat.le_refl _)))) oZl) (by omega) hgl (by omega) (by omega)).mono ?_
      rintro en w8 ⟨rfl,hm8⟩;generalize hv2:nextV es (j:Int) (-((k:Int)+1))=v2 at hS2 ⊢;have hmx8:=((hmx6.transNew hm7 (Or.inl (Nat.le_refl _)))).trans hm8;have hsz8:=hmx8.size;have HT8:=Lib.hid ((ht7).mid hm8 (Nat.zero_le _));by_cases c2:v2 < 0
      ·have b2:decide (v2 < 0)=true:=by simpa using c2
       rw [if_pos c2] at hS2;clear hv2 c2 hv1;go_wp2_with (at_builtin;refine wpList_push2 rfl _ _ rfl wo.heap.size AT nT cT _ _ _ _ rfl HT8.out.swap j rfl (by omega) hsz8 ?_;intro A9 c9 w9 ht9 hm9)
       go_roundw
       case rel=>exact ⟨j+1,A7,nF+1,c7,A9,nT+1,c9,by omega,by go_num,rfl,rfl,Lib.hid (by rw [hS1,List.length_append,HNF.out];rfl),Lib.hid (by rw [hS2,List.length_append,HNT.out];rfl),Lib.hid (by rw [hS1,hS2];exact ht9.swap),hmx8.transNew hm9 (Or.inl (Nat.le_refl _))⟩
       case measure=>simp [intOf];omega
      ·have b2:decide (v2 < 0)=false:=by simpa using c2
       rw [if_neg c2] at hS2;clear hv2 c2 hv1;go_wp2_with fail;go_roundw
       case rel=>exact ⟨j+1,A7,nF+1,c7,AT,nT,cT,by omega,by go_num,rfl,rfl,Lib.hid (by rw [hS1,List.length_append,HNF.out];rfl),Lib.hid (by rw [hS2,List.append_nil,HNT.out]),Lib.hid (by rw [hS1,hS2,List.append_nil];exact HT8.out),hmx8⟩
       case measure=>simp [intOf];omega
     ·have b1:decide (v1 < 0)=false:=by simpa using c1
      rw [if_neg c1] at hS1;have X2:=X1;clear q0 q1 q2;have q0:=X2.cell 0 rfl;have q1:=X2.cell 1 rfl;have q2:=X2.cell 2 rfl;go_wp2_with fail;with_reducible refine (impl_NextVertex r s A es c j (-((k:Int)+1)) _ lo hi (hr.mid (hmr.trans hmx6) oZl) (by omega) hgl (by omega) (by omega)).mono ?_
      rintro en w8 ⟨rfl,hm8⟩;generalize hv2:nextV es (j:Int) (-((k:Int)+1))=v2 at hS2 ⊢;have hmx8:=(hmx6).trans hm8;have hsz8:=hmx8.size;have HT8:=Lib.hid ((HT6.out).mid hm8 (Nat.zero_le _));by_cases c2:v2 < 0
      ·have b2:decide (v2 < 0)=true:=by simpa using c2
       rw [if_pos c2] at hS2;clear hv2 c2 hv1;go_wp2_with (at_builtin;refine wpList_push2 rfl _ _ rfl wo.heap.size AT nT cT _ _ _ _ rfl HT8.out.swap j rfl (by omega) hsz8 ?_;intro A9 c9 w9 ht9 hm9)
       go_roundw
       case rel=>exact ⟨j+1,AF,nF,cF,A9,nT+1,c9,by omega,by go_num,rfl,rfl,Lib.hid (by rw [hS1,List.append_nil,HNF.out]),Lib.hid (by rw [hS2,List.length_append,HNT.out];rfl),Lib.hid (by rw [hS1,hS2];rw [List.append_nil];exact ht9.swap),hmx8.transNew hm9 (Or.inl (Nat.le_refl _))⟩
       case measure=>simp [intOf];omega
      ·have b2:decide (v2 < 0)=false:=by simpa using c2
       rw [if_neg c2] at hS2;clear hv2 c2 hv1;go_wp2_with fail;go_roundw
       case rel=>exact ⟨j+1,AF,nF,cF,AT,nT,cT,by omega,by go_num,rfl,rfl,Lib.hid (by rw [hS1,List.append_nil,HNF.out]),Lib.hid (by rw [hS2,List.append_nil,HNT.out]),Lib.hid (by rw [hS1,hS2,List.append_nil];rw [List.append_nil];exact HT8.out),hmx8⟩
       case measure=>simp [intOf];omega
    ·obtain ⟨wi,hwi⟩:∃ wi,wi=wr:=⟨_,rfl⟩
     subst hwi;obtain rfl:j=s.toNat:=by omega
     have hsame:=free_same F1.out hk0;have hall:=addL_all F1.out hk0;have hwo:w.heap.size < wo.heap.size:=Z0.1;have hnf:nF=nT:=by rw [← HNF.out,← HNT.out];exact hsame
     have X2:=Z2.mid hmx oZr;have X3:=Z3.mid hmx oZr;have hown2:=owns_mid hown hmx oZl;have hmi:=hmr.trans hmx;have HNX:=Lib.hid hnf;go_wp2_with fail;go_loopw [9,59] (fun _ i wr=>∃ (m:Nat) (A3:Option Addr) (n3 c3:Nat),m≤nF∧i=.int .i64 m∧Hid (((es++addLs s es k)++(addL s es ((k:Int)+1)).take m).length=n3) ∧
      wr.ownsRow w2.heap.size 68 3 (.slice A3 n3 c3) n3 (ints (edI ((es++addLs s es k)++(addL s es ((k:Int)+1)).take m)))∧Value.ownBlock (.slice A3 n3 c3)≠some G ∧
      Box wr w.heap.size [.int .i64 r,.int .i64 s,.slice A es.length c]∧Box wr (w.heap.size+1) [.int .i64 0,.int .i64 0,.slice none 0 0]∧Box wr G [.int .i64 r,.int .i64 s,.slice A3 n3 c3] ∧
      Hid (TwoI wr wo.heap.size (.slice AF nF cF) (.slice AT nT cT) nF nT (freeV es ((k:Int)+1) s.toNat) (freeV es (-((k:Int)+1)) s.toNat))∧Mid 0 0 w wr) (fun _ i _=>nF - (intOf i).toNat)
     case atStart=>exact ⟨0,A2,n2,c2,Nat.zero_le _,rfl,Lib.hid (by simpa using HN.out),by simpa using hown2,hbk,X0,X2,X3,HT,hmi⟩
     case round =>
      obtain ⟨m,A3,n3,c3,hm3,rfl,HN3,hown3,hbk3,V0,V2,V3,HT3,hmv⟩:=hrel;by_cases hlt3:m < nF
      ·obtain ⟨a,b',ha,hb',hab⟩:=addL_at F1.out hk0 (i:=m) (by rw [HNF.out];exact hlt3)
       obtain ⟨BF,oF,f,rfl,hBF,hf,cF0⟩:=(owns_rv HT3.out.f).at (k:=m) (by rw [HNF.out];exact hlt3);obtain ⟨BT,oT,t,rfl,hBT,ht,cT0⟩:=(owns_rv HT3.out.t).at (k:=m) (by rw [HNT.out];omega);rw [ha] at hf;rw [hb'] at ht;injection hf with hf
       injection ht with ht
       subst hf ht;have HAB:=Lib.hid hab;have hmn:(m:Int) < (nF:Int):=by omega
       have hmt:(m:Int) < (nT:Int):=by omega
       have hm0':(0:Int)≤(m:Int):=by omega
       have g0:=V3.cell 0 rfl;have g1:=V3.cell 1 rfl;have g2:=V3.cell 2 rfl;have HA1:=Lib.hid ha;have HA2:=Lib.hid hb';clear ha hb' hab;have hn3:n3≤1000:=by
        have h1:=addLs_len s es k;have h2:=HN3.out;have h3:=addL_len s es ((k:Int)+1);have h4:k * s.toNat≤3 * 40:=Nat.mul_le_mul (by omega) (by omega);simp at h2;omega
       have hbase:w2.heap.size≤wr.heap.size:=by have:=V3.1;omega
       go_wp2_with fail;have hmd:=Mid.drew1 wr;have U0:=V0.mid hmd oZr;have U2:=V2.mid hmd oZr;have U3:=V3.mid hmd oZr;have hownU:=owns_mid hown3 hmd oZl;have HT4:=HT3.out.mid hmd (Nat.zero_le _);have hmu:=hmv.trans hmd;have f0:=HT4.cellF HA1.out;have f1:=HT4.swap.cellF HA2.out;have g2:=U3.cell 2 rfl;clear V0 V2 V3 hown3 hmv hmd HT3 cF0 cT0 g0 g1;refine wp_region_T (S:=(fun w'=>w'.cell? ⟨G,2,none⟩=some (.slice A3 n3 c3)∧w'.cell? ⟨BF,oF+m,none⟩=some (.int .i64 a)∧w'.cell? ⟨BT,oT+m,none⟩=some (.int .i64 b'))) 15 (by kernel_rfl) ⟨g2,f0,f1⟩ ?_;generalize World.drew wr=wz at U0 U2 U3 hownU HT4 hmu f0 f1 g2 ⊢;have hS:wz.cell? ⟨G,2,none⟩=some (.slice A3 n3 c3)∧wz.cell? ⟨BF,oF+m,none⟩=some (.int .i64 a)∧wz.cell? ⟨BT,oT+m,none⟩=some (.int .i64 b'):=⟨g2,f0,f1⟩
       refine tkT 0 rfl hS ?_;try simp only [Act.put,zs1,zs2,zs3,zs4,zs5,zs6]
       refine tkT 1 rfl hS ?_;try simp only [Act.put,zs1,zs2,zs3,zs4,zs5,zs6]
       refine tkT 2 rfl hS ?_;try simp only [Act.put,zs1,zs2,zs3,zs4,zs5,zs6]
       refine tkT 3 rfl hS ?_;try simp only [Act.put,zs1,zs2,zs3,zs4,zs5,zs6]
       refine tkT 4 rfl hS ?_;try simp only [Act.put,zs1,zs2,zs3,zs4,zs5,zs6]
       refine tkT 5 rfl hS ?_;try simp only [Act.put,zs1,zs2,zs3,zs4,zs5,zs6]
       refine tkT 6 rfl hS ?_;try simp only [Act.put,zs1,zs2,zs3,zs4,zs5,zs6]
       refine tkT 7 rfl hS ?_;try simp only [Act.put,zs1,zs2,zs3,zs4,zs5,zs6]
       refine tkT 8 rfl hS ?_;try simp only [Act.put,zs1,zs2,zs3,zs4,zs5,zs6]
       refine tkT 9 rfl hS ?_;try simp only [Act.put,zs1,zs2,zs3,zs4,zs5,zs6]
       refine tkT 10 rfl hS ?_;try simp only [Act.put,zs1,zs2,zs3,zs4,zs5,zs6]
       refine tkT 11 rfl hS ?_;try simp only [Act.put,zs1,zs2,zs3,zs4,zs5,zs6]
       have haz:=Mid.alloc wz (.cells #[.int .i64 a,.int .i64 ((k:Int)+1),.int .i64 b'] 68);have T0':=U0.mid haz oZr;have T2':=U2.mid haz oZr;have T3':=U3.mid haz oZr;have hownT:=hownU.alloc (.cells #[.int .i64 a,.int .i64 ((k:Int)+1),.int .i64 b'] 68);have HT5:=HT4.mid haz (Nat.zero_le _);have hmt:=hmu.trans haz;have hS2:=And.intro (T3'.cell 2 rfl) (And.intro (HT5.cellF HA1.out) (HT5.swap.cellF HA2.out));have hrs:Rs (wz.alloc (.cells #[.int .i64 a,.int .i64 ((k:Int)+1),.int .i64 b'] 68)) (wz.heap.size+1) (some ⟨wz.heap.size,0,none⟩) [.int .i64 a,.int .i64 ((k:Int)+1),.int .i64 b']:=fun _=>⟨wz.heap.size,0,rfl,Nat.lt_succ_self _,fun j u hu=>(World.cell?_alloc_at _ _ _ _ rfl).trans (by simpa using hu)⟩
       have hone:∀ u∈[Value.int .i64 a,.int .i64 ((k:Int)+1),.int .i64 b'],u.oneCell'=true:=by
        intro u hu;simp at hu;rcases hu with rfl | rfl | rfl <;> rfl
       have hmxl:n3+1≤maxLen:=by unfold maxLen;omega
       have hbyt:(n3+1) * 24≤140737488355328:=by omega
       have hbas:w2.heap.size≤(wz.alloc (.cells #[.int .i64 a,.int .i64 ((k:Int)+1),.int .i64 b'] 68)).heap.size:=by have h1:=T3'.1;omega
       have hGz:G < wz.heap.size:=U3.1;have HO:=Lib.hid hone;have HB0:=Lib.hid (fun (g:Nat) (h:Value.ownBlock (.slice A3 n3 c3)=some g)=>(hownT.lt g h).1);have HBk:=Lib.hid hbk3;clear hone hbk3 U0 U2 U3 hownU f0 f1 g2 hS hmu haz HT4;refine rdT 12 rfl (fun K hK=>?_);go_simp;refine hK.out _ _ (Or.inr hS2) (fun _=>?_);clear hK K;try simp only [Act.put,zs1,zs2,zs3,zs4,zs5,zs6]
       generalize hwt:wz.alloc (.cells #[.int .i64 a,.int .i64 ((k:Int)+1),.int .i64 b'] 68)=wt at T0' T2' T3' hownT HT5 hmt hS2 hrs hbas ⊢;have hszt:wt.heap.size=wz.heap.size+1:=by rw [← hwt];simp
       have HZT:=Lib.hid hszt;clear hwt hszt;refine rdT 13 rfl (fun K hK=>?_)
       (refine step_cat (by rfl) (.tmp 63) (.tmp 74) 24 (by rfl) w2.heap.size 68 (.agg #[.int .i64 0,.int .i64 0,.int .i64 0]) 3 24 undSE infoE rfl (by decide) (.slice A3 n3 c3) n3 _ (by rfl) hownT (some ⟨wz.heap.size,0,none⟩) 1 1 _ [.int .i64 a,.int .i64 ((k:Int)+1),.int .i64 b'] (by rfl) hrs rfl HO.out hmxl hbyt hbas ?_;intro v9 w9 ho9 hgr9 hat9;obtain ⟨A9,c9,rfl, -, -⟩:=owns_shape ho9)
       refine hK.out _ _ (Or.inr ⟨(T3'.grown hgr9 HBk.out).cell 2 rfl,(HT5.grownE hownT hgr9).cellF HA1.out,(HT5.grownE hownT hgr9).swap.cellF HA2.out⟩) (fun _=>?_);clear hK K;try simp only [Act.put,zs1,zs2,zs3,zs4,zs5,zs6]
       have R3:=T3'.grown hgr9 HBk.out;have R0:=T0'.grown hgr9 (fun h=>by have:=HB0.out _ h;omega);have R2:=T2'.grown hgr9 (fun h=>by have:=HB0.out _ h;omega);have HT9:=HT5.grownE hownT hgr9;have hmr9:Mid 0 0 w w9:=hmt.transNew (Mid.of_grownRow hownT hgr9) (Or.inl hw2);have hS3:=And.intro (R3.cell 2 rfl) (And.intro (HT9.cellF HA1.out) (HT9.swap.cellF HA2.out));have hne:Value.ownBlock (.slice A9 (n3+1) c9)≠some G:=by
        rcases hat9 with h | h
        ·rw [h];exact HBk.out
        ·rw [h]
         intro he;injection he with he
         have:=HZT.out;omega
       have HNE:=Lib.hid hne;have hr2:=R3.cell 2 rfl;have hrf:=R3.2.2;clear hne hat9 hS2 hrs T0' T2' T3' hmt;refine tkT 14 rfl hS3 ?_;try simp only [Act.put,zs1,zs2,zs3,zs4,zs5,zs6]
       refine rdT 15 rfl (fun K hK=>?_)
       (go_simp)
       refine hK.out _ _ (Or.inl rfl) (fun _=>?_);clear hK K;try simp only [Act.put,zs1,zs2,zs3,zs4,zs5,zs6]
       refine wpAnyT_done (by kernel_rfl) ?_ _;go_wp2_with fail;go_roundw
       case rel =>
        have hst:=Mid.setCell w9 (lo:=G) (hi:=G+1) (p:=⟨G,2,none⟩) (.slice A9 (n3+1) c9) (Nat.le_refl _) (Nat.lt_succ_self _);have htk:(addL s es ((k:Int)+1)).take (m+1)=(addL s es ((k:Int)+1)).take m++[⟨a,(k:Int)+1,b'⟩]:=take_snoc HAB.out;refine ⟨m+1,A9,n3+1,c9,by omega,by go_num,Lib.hid (by rw [htk,← List.append_assoc,List.length_append,HN3.out];rfl),?_,HNE.out,R0.mid hst (Or.inl (by omega)),R2.mid hst (Or.inl (by omega)),R3.set 2 _ (by simp) rfl,Lib.hid ?_,hmr9.storeNew (by show w.heap.size≤G;omega) _⟩
        ·have h1:=owns_other ho9 (k:=G) (grown_setCell (World.grownBy.refl _ (some G)) 2 (.slice A9 (n3+1) c9)) HNE.out
         rw [htk,← List.append_assoc,edI_append,ints_append,edI_one];exact h1
        ·exact HT9.mid hst (by omega)
       case measure=>simp [intOf];omega
      ·obtain rfl:m=nF:=by omega
       have hta:(addL s es ((k:Int)+1)).take m=addL s es ((k:Int)+1):=List.take_of_length_le (by rw [hall,HNF.out];exact Nat.le_refl _);rw [hta,List.append_assoc,← addLs_succ] at hown3 HN3;go_wp2_with fail;go_roundw
       case rel=>exact ⟨k+1,A3,n3,c3,by omega,by go_num,HN3,hown3,hbk3,V0,V2,V3,hmv⟩
       case measure=>simp [intOf];omega
  ·obtain rfl:r=(k:Int):=by omega
   have hn2:n2≤1000:=by
    have h1:=addLs_len s es k;have h2:=HN.out;have h4:k * s.toNat≤3 * 40:=Nat.mul_le_mul (by omega) (by omega);simp at h2;omega
   have hrg:RG wo w2.heap.size wo.heap.size A2 (es++addLs s es k):=OV.rv (e:=68) (size:=3) (c:=c2) (n:=n2) ⟨Nat.le_refl _,hown,fun g hg=>(hown.lt g hg).2⟩;have z2:=Z3.cell 2 rfl;go_wp2_with fail;with_reducible refine (impl_sortedN A2 (es++addLs s es k) n2 c2 _ _ _ HN.out hrg (by omega)).mono ?_
   rintro en w6 ⟨A4,c4,rfl,ho6,hm6⟩;have Q2:=Z2.mid hm6 oZr;have Q3:=Z3.mid hm6 oZr;have hsz6:=hm6.size;clear z2 p0 p1 p2;have a0:=Q2.cell 0 rfl;have a1:=Q2.cell 1 rfl;have a2:=Q2.cell 2 rfl;have b0:=Q3.cell 0 rfl;have b1:=Q3.cell 1 rfl;have b2:=Q3.cell 2 rfl;have af:=Q2.2.2;have bf:=Q3.2.2;go_wp2_with fail;have hcl:(w.heap.size+1 == G)=false:=by simp;omega
   refine bodyPost_ret (v:=.tuple #[.agg #[.int .i64 k,.int .i64 s,.slice A4 (canon (es++addLs s es k)).length c4],.bool true]) (by simp [results,Tryz.results51,go_sem,a0,a1,a2,b0,b1,b2,af,bf]) rfl ⟨A4,c4,?_,?_,?_⟩
   ·rw [HRR.out,HRS.out,HRE.out]
    rfl
   ·rw [HRE.out]
    refine OG.wide (OG.mid ho6 (a:=w.heap.size) (b:=G+1) ?_ (Or.inl hGo)) (by have:=hmr.size;omega) (by simp) (Nat.le_refl _);repeat (first | exact Mid.refl _ _ _ | refine Mid.stored ?_ _ (by simp;try omega) (by simp;try omega))
   ·have h:=hmr.trans hm6
    repeat (first | exact h | refine Mid.storeNew ?_ (by simp;try omega) _)
end
section
open Go.RowKit
theorem spec_CompleteGraph (r s:Int) (A:Option Addr) (es:List Ed) (c:Nat) (w:World) (lo hi:Nat)
  (hr:RG w lo hi A es) (hl:es.length≤1048576) (rr rs:Int) (res:List Ed) (b:Bool) (hres:CompleteIs r s es rr rs res b) :
  Calls Tryz.prog 52 #[graV r s A es.length c] w fun e w'=>∃ A1 c1,e=.returned (.tuple #[graV rr rs A1 res.length c1,.bool b])∧OG w' w.heap.size w'.heap.size A1 c1 res∧Mid 0 0 w w':=by
 have HR:=Lib.hid hres;clear hres;obtain ⟨b1,hb1⟩:=bool_of (IsFol r s es);have H1:=Lib.hid hb1;clear hb1;have hm0:Mid 0 0 w ((w.alloc (.cells #[.int .i64 r,.int .i64 s,.slice A es.length c] 26)).alloc (.cells #[.int .i64 0,.int .i64 0,.slice none 0 0] 26)):=(Mid.alloc _ _).trans (Mid.alloc _ _);have B0:=(Box.new w #[.int .i64 r,.int .i64 s,.slice A es.length c] 26).mid (Mid.alloc _ (.cells #[.int .i64 0,.int .i64 0,.slice none 0 0] 26)) oZr;have B2:=Box.new (w.alloc (.cells #[.int .i64 r,.int .i64 s,.slice A es.length c] 26)) #[.int .i64 0,.int .i64 0,.slice none 0 0] 26;simp only [World.size_alloc] at B2;go_enter Tryz.func52,Tryz.ntmps52
 go_wp2_with fail;generalize hw1:((w.alloc (.cells #[.int .i64 r,.int .i64 s,.slice A es.length c] 26)).alloc (.cells #[.int .i64 0,.int .i64 0,.slice none 0 0] 26))=w1 at hm0 B0 B2 ⊢;have hs1:w1.heap.size=w.heap.size+1+1:=by rw [← hw1];simp
 have HS:=Lib.hid hs1;clear hw1 hs1;with_reducible refine (spec_IsFolded r s A es c _ _ _ (hr.mid hm0 oZl) hl b1 H1.out).mono ?_
 rintro en w2 ⟨rfl,hm2⟩;have C0:=B0.mid hm2 oZr;have C2:=B2.mid hm2 oZr;have p0:=C0.cell 0 rfl;have p1:=C0.cell 1 rfl;have p2:=C0.cell 2 rfl;have z0:=C2.cell 0 rfl;have z1:=C2.cell 1 rfl;have z2:=C2.cell 2 rfl;have zf:=C2.2.2;have hm:=hm0.trans hm2;cases b1 with
 | false =>
  have hno:¬ IsFol r s es:=fun h=>by have:=H1.out.2 h;cases this
  obtain ⟨rfl,rfl,rfl,rfl⟩:=HR.out.no hno;go_wp2_with fail;refine bodyPost_ret (v:=.tuple #[.agg #[.int .i64 0,.int .i64 0,.slice none 0 0],.bool false]) (by simp [results,Tryz.results52,go_sem,z0,z1,z2,zf]) rfl ⟨none,0,rfl,OG.nil,?_⟩;repeat (first | exact hm | refine Mid.storeNew ?_ (by simp;try omega) _)
 | true =>
 have F1:=Lib.hid (H1.out.1 rfl);have hg:=F1.out.gr;have g1:=hg.rank;have g2:=hg.size;have g3:=hg.len;obtain ⟨rfl,hrr,hrs,hre⟩:=HR.out.yes F1.out;have HRR:=Lib.hid hrr;have HRS:=Lib.hid hrs;have HRE:=Lib.hid hre;have hmul:0≤s * r∧s * r≤120:=⟨Int.mul_nonneg (by omega) (by omega),by have:=Int.mul_le_mul (show s≤40 by omega) (show r≤3 by omega) (by omega) (by omega);omega⟩
 have hmd:decide (120 < s * r)=false:=by simp;omega
 clear B0 B2 HR H1 hrr hrs hre hg;go_wp2_with fail;with_reducible refine (spec_l4Copy r s A es c _ _ _ (hr.mid hm oZl) hl).mono ?_
 rintro en w4 ⟨A1,c1,rfl,ho4,hm4⟩;have E0:=C0.mid hm4 oZr;have E2:=C2.mid hm4 oZr;have hal:=Mid.alloc w4 (.cells #[.int .i64 r,.int .i64 s,.slice A1 es.length c1] 26);have Y0:=E0.mid hal oZr;have Y2:=E2.mid hal oZr;have Y3:=Box.new w4 #[.int .i64 r,.int .i64 s,.slice A1 es.length c1] 26;have hzs:=hm4.size;have hmy:=(hm.trans hm4).trans hal;have ho5:=ho4.mid hal oZl;clear p0 p1 p2 z0 z1 z2 zf C0 C2;have hz0:=E0.1;have hz2:=E2.1;clear E0 E2;have hw2:w.heap.size≤w2.heap.size:=hm.size;have hw22:w.heap.size+2≤w2.heap.size:=by have h1:=HS.out;have h2:=hm2.size;omega
 go_wp2_with fail;generalize hw5:w4.alloc (.cells #[.int .i64 r,.int .i64 s,.slice A1 es.length c1] 26)=w5 at Y0 Y2 Y3 hmy ho5 ⊢;have hs5:w4.heap.size+1≤w5.heap.size:=by rw [← hw5];simp
 clear hw5 hal ho4;have hGw:w.heap.size+1 < w4.heap.size:=by have:=HS.out;have:=hm2.size;omega
 have hG2:w2.heap.size≤w4.heap.size:=hzs;generalize hG:w4.heap.size=G at Y3 hs5 hGw hG2 ho5 ⊢;have hgl:∀ e∈es,1≤e.l∧e.l≤3:=fun e he=>by have:=F1.out.gr.all e he;unfold InG at this;omega
 clear hG hm2 hm4 hm0 hz0 hz2 hzs HS hm;go_loopw [5] (fun x wr=>∃ (k:Nat) (A2:Option Addr) (c2 lo2 hi2:Nat) (xs:List Ed),(k:Int)≤r∧x=.int .i64 ((k:Int)+1)∧Hid (xs=putAll es (addLs s es k)) ∧
   OG wr lo2 hi2 A2 c2 xs∧(hi2≤G ∨ G+1≤lo2)∧w2.heap.size≤lo2 ∧
   Box wr w.heap.size [.int .i64 r,.int .i64 s,.slice A es.length c]∧Box wr (w.heap.size+1) [.int .i64 0,.int .i64 0,.slice none 0 0] ∧
   Box wr G [.int .i64 r,.int .i64 s,.slice A2 xs.length c2]∧Mid 0 0 w wr) (fun x _=>(r+1 - intOf x).toNat)
 case atStart=>exact ⟨0,A1,c1,_,_,es,by omega,rfl,Lib.hid (by simp [addLs,putAll]),ho5,.inl (Nat.le_refl _),Nat.le_refl _,Y0,Y2,Y3,hmy⟩
 case round =>
  obtain ⟨wo,hwo⟩:∃ wo,wo=wr:=⟨_,rfl⟩
  subst hwo;obtain ⟨k,A2,c2,lo2,hi2,xs,hk,rfl,HX,hown,hdis,hlo2,Z0,Z2,Z3,hmr⟩:=hrel;have hGo:G < wo.heap.size:=Z3.1;have p0:=Z0.cell 0 rfl;have p1:=Z0.cell 1 rfl;have p2:=Z0.cell 2 rfl;by_cases hlt:(k:Int) < r
  ·have hkx:(k:Int)+1≤r:=by omega
   have hk0:(0:Int) < (k:Int)+1:=by omega
   have hal:=(Mid.alloc wo (.cells #[] 3)).trans (Mid.alloc (wo.alloc (.cells #[] 3)) (.cells #[] 3));have T0:TwoI ((wo.alloc (.cells #[] 3)).alloc (.cells #[] 3)) wo.heap.size (.slice (some ⟨wo.heap.size,0,none⟩) 0 0) (.slice (some ⟨wo.heap.size+1,0,none⟩) 0 0) 0 0 [] []:=by
    have O1:=owns_empty wo 3 1;have O2:=owns_empty (wo.alloc (.cells #[] 3)) 3 1;rw [World.size_alloc] at O2;refine ⟨O1.alloc _,owns_base O2 (Nat.le_succ _),?_⟩;intro h;simp [Value.ownBlock] at h
   go_wp2_with fail;go_loopw [6,7,8] (fun f t v wr=>∃ (j:Nat) (AF:Option Addr) (nF cF:Nat) (AT:Option Addr) (nT cT:Nat),(j:Int)≤s∧v=.int .i64 j∧f=.slice AF nF cF∧t=.slice AT nT cT∧Hid ((freeV es ((k:Int)+1) j).length=nF)∧Hid ((freeV es (-((k:Int)+1)) j).length=nT) ∧
    Hid (TwoI wr wo.heap.size (.slice AF nF cF) (.slice AT nT cT) nF nT (freeV es ((k:Int)+1) j) (freeV es (-((k:Int)+1)) j))∧Mid 0 0 wo wr) (fun _ _ v _=>(s - intOf v).toNat)
   case atStart=>exact ⟨0,_,0,0,_,0,0,by omega,rfl,rfl,rfl,Lib.hid rfl,Lib.hid rfl,Lib.hid T0,hal⟩
   case round =>
    obtain ⟨j,AF,nF,cF,AT,nT,cT,hj,rfl,rfl,rfl,HNF,HNT,HT,hmx⟩:=hrel;have hnF:nF≤40:=by have h1:=freeV_le es ((k:Int)+1) j;have h2:=HNF.out;omega
    have hnT:nT≤40:=by have h1:=freeV_le es (-((k:Int)+1)) j;have h2:=HNT.out;omega
    have X0:=Z0.mid hmx oZr;have q0:=X0.cell 0 rfl;have q1:=X0.cell 1 rfl;have q2:=X0.cell 2 rfl;by_cases hlt2:(j:Int) < s
    ·have hS1:=freeV_succ es ((k:Int)+1) j
     have hS2:=freeV_succ es (-((k:Int)+1)) j;go_wp2_with fail;with_reducible refine (spec_NextVertex r s A es c j ((k:Int)+1) _ lo hi (hr.mid (hmr.trans hmx) oZl) (by omega) hgl (by omega) (by omega)).mono ?_
     rintro en w6 ⟨rfl,hm6⟩;generalize hv1:nextV es (j:Int) ((k:Int)+1)=v1 at hS1 ⊢;have X1:=X0.mid hm6 oZr;clear q0 q1 q2;have q0:=X1.cell 0 rfl;have q1:=X1.cell 1 rfl;have q2:=X1.cell 2 rfl;have hmx6:=hmx.trans hm6;have hsz6:=hmx6.size;have HT6:=Lib.hid (HT.out.mid hm6 (Nat.zero_le _));have hwo:w.heap.size < wo.heap.size:=Z0.1;by_cases c1:v1 < 0
     ·have b1:decide (v1 < 0)=true:=by simpa using c1
      rw [if_pos c1] at hS1;go_wp2_with (at_builtin;refine wpList_push2 rfl _ _ rfl wo.heap.size AF nF cF _ _ _ _ rfl HT6.out j rfl (by omega) hsz6 ?_;intro A7 c7 w7 ht7 hm7;have X2:=X1.mid hm7 (Or.inl hwo);have z0:=X2.cell 0 rfl;have z1:=X2.cell 1 rfl;have z2:=X2.cell 2 rfl)
      with_reducible refine (spec_NextVertex r s A es c j (-((k:Int)+1)) _ lo hi (hr.mid (hmr.trans (hmx6.transNew hm7 (Or.inl (Nat.le_refl _)))) oZl) (by omega) hgl (by omega) (by omega)).mono ?_
      rintro en w8 ⟨rfl,hm8⟩;generalize hv2:nextV es (j:Int) (-((k:Int)+1))=v2 at hS2 ⊢;have hmx8:=((hmx6.transNew hm7 (Or.inl (Nat.le_refl _)))).trans hm8;have hsz8:=hmx8.size;have HT8:=Lib.hid ((ht7).mid hm8 (Nat.zero_le _));by_cases c2:v2 < 0
      ·have b2:decide (v2 < 0)=true:=by simpa using c2
       rw [if_pos c2] at hS2;clear hv2 c2 hv1;go_wp2_with (at_builtin;refine wpList_push2 rfl _ _ rfl wo.heap.size AT nT cT _ _ _ _ rfl HT8.out.swap j rfl (by omega) hsz8 ?_;intro A9 c9 w9 ht9 hm9)
       go_roundw
       case rel=>exact ⟨j+1,A7,nF+1,c7,A9,nT+1,c9,by omega,by go_num,rfl,rfl,Lib.hid (by rw [hS1,List.length_append,HNF.out];rfl),Lib.hid (by rw [hS2,List.length_append,HNT.out];rfl),Lib.hid (by rw [hS1,hS2];exact ht9.swap),hmx8.transNew hm9 (Or.inl (Nat.le_refl _))⟩
       case measure=>simp [intOf];omega
      ·have b2:decide (v2 < 0)=false:=by simpa using c2
       rw [if_neg c2] at hS2;clear hv2 c2 hv1;go_wp2_with fail;go_roundw
       case rel=>exact ⟨j+1,A7,nF+1,c7,AT,nT,cT,by omega,by go_num,rfl,rfl,Lib.hid (by rw [hS1,List.length_append,HNF.out];rfl),Lib.hid (by rw [hS2,List.append_nil,HNT.out]),Lib.hid (by rw [hS1,hS2,List.append_nil];exact HT8.out),hmx8⟩
       case measure=>simp [intOf];omega
     ·have b1:decide (v1 < 0)=false:=by simpa using c1
      rw [if_neg c1] at hS1;have X2:=X1;clear q0 q1 q2;have q0:=X2.cell 0 rfl;have q1:=X2.cell 1 rfl;have q2:=X2.cell 2 rfl;go_wp2_with fail;with_reducible refine (spec_NextVertex r s A es c j (-((k:Int)+1)) _ lo hi (hr.mid (hmr.trans hmx6) oZl) (by omega) hgl (by omega) (by omega)).mono ?_
      rintro en w8 ⟨rfl,hm8⟩;generalize hv2:nextV es (j:Int) (-((k:Int)+1))=v2 at hS2 ⊢;have hmx8:=(hmx6).trans hm8;have hsz8:=hmx8.size;have HT8:=Lib.hid ((HT6.out).mid hm8 (Nat.zero_le _));by_cases c2:v2 < 0
      ·have b2:decide (v2 < 0)=true:=by simpa using c2
       rw [if_pos c2] at hS2;clear hv2 c2 hv1;go_wp2_with (at_builtin;refine wpList_push2 rfl _ _ rfl wo.heap.size AT nT cT _ _ _ _ rfl HT8.out.swap j rfl (by omega) hsz8 ?_;intro A9 c9 w9 ht9 hm9)
       go_roundw
       case rel=>exact ⟨j+1,AF,nF,cF,A9,nT+1,c9,by omega,by go_num,rfl,rfl,Lib.hid (by rw [hS1,List.append_nil,HNF.out]),Lib.hid (by rw [hS2,List.length_append,HNT.out];rfl),Lib.hid (by rw [hS1,hS2];rw [List.append_nil];exact ht9.swap),hmx8.transNew hm9 (Or.inl (Nat.le_refl _))⟩
       case measure=>simp [intOf];omega
      ·have b2:decide (v2 < 0)=false:=by simpa using c2
       rw [if_neg c2] at hS2;clear hv2 c2 hv1;go_wp2_with fail;go_roundw
       case rel=>exact ⟨j+1,AF,nF,cF,AT,nT,cT,by omega,by go_num,rfl,rfl,Lib.hid (by rw [hS1,List.append_nil,HNF.out]),Lib.hid (by rw [hS2,List.append_nil,HNT.out]),Lib.hid (by rw [hS1,hS2,List.append_nil];rw [List.append_nil];exact HT8.out),hmx8⟩
       case measure=>simp [intOf];omega
    ·obtain ⟨wi,hwi⟩:∃ wi,wi=wr:=⟨_,rfl⟩
     subst hwi;obtain rfl:j=s.toNat:=by omega
     have hsame:=free_same F1.out hk0;have hall:=addL_all F1.out hk0;have hwo:w.heap.size < wo.heap.size:=Z0.1;have hnf:nF=nT:=by rw [← HNF.out,← HNT.out];exact hsame
     have X2:=Z2.mid hmx oZr;have X3:=Z3.mid hmx oZr;have hown2:=hown.mid hmx oZl;have hmi:=hmr.trans hmx;have HNX:=Lib.hid hnf;go_wp2_with fail;go_loopw [9] (fun i wr=>∃ (m:Nat) (A3:Option Addr) (c3 lo3 hi3:Nat) (ys:List Ed),m≤nF∧i=.int .i64 m∧Hid (ys=putAll es (addLs s es k++(addL s es ((k:Int)+1)).take m)) ∧
      OG wr lo3 hi3 A3 c3 ys∧(hi3≤G ∨ G+1≤lo3)∧w2.heap.size≤lo3 ∧
      Box wr w.heap.size [.int .i64 r,.int .i64 s,.slice A es.length c]∧Box wr (w.heap.size+1) [.int .i64 0,.int .i64 0,.slice none 0 0]∧Box wr G [.int .i64 r,.int .i64 s,.slice A3 ys.length c3] ∧
      Hid (TwoI wr wo.heap.size (.slice AF nF cF) (.slice AT nT cT) nF nT (freeV es ((k:Int)+1) s.toNat) (freeV es (-((k:Int)+1)) s.toNat))∧Mid 0 0 w wr) (fun i _=>nF - (intOf i).toNat)
     case atStart=>exact ⟨0,A2,c2,lo2,hi2,xs,Nat.zero_le _,rfl,Lib.hid (by rw [List.take_zero,List.append_nil];exact HX.out),hown2,hdis,hlo2,X0,X2,X3,HT,hmi⟩
     case round =>
      obtain ⟨m,A3,c3,lo3,hi3,ys,hm3,rfl,HY,hown3,hdis3,hlo3,V0,V2,V3,HT3,hmv⟩:=hrel;have hyl:ys.length≤1000:=by
       have h1:=putAll_len es (addLs s es k++(addL s es ((k:Int)+1)).take m);have h2:=addLs_len s es k;have h3:=addL_len s es ((k:Int)+1);have h4:k * s.toNat≤3 * 40:=Nat.mul_le_mul (by omega) (by omega);rw [← HY.out] at h1;simp at h1;omega
      by_cases hlt3:m < nF
      ·obtain ⟨a,b',ha,hb',hab⟩:=addL_at F1.out hk0 (i:=m) (by rw [HNF.out];exact hlt3)
       obtain ⟨BF,oF,f,rfl,hBF,hf,cF0⟩:=(owns_rv HT3.out.f).at (k:=m) (by rw [HNF.out];exact hlt3);obtain ⟨BT,oT,t,rfl,hBT,ht,cT0⟩:=(owns_rv HT3.out.t).at (k:=m) (by rw [HNT.out];omega);rw [ha] at hf;rw [hb'] at ht;injection hf with hf
       injection ht with ht
       subst hf ht;have HAB:=Lib.hid hab;have hmn:(m:Int) < (nF:Int):=by omega
       have hmt:(m:Int) < (nT:Int):=by omega
       have hm0':(0:Int)≤(m:Int):=by omega
       have HA1:=Lib.hid ha;have HA2:=Lib.hid hb';clear ha hb' hab;have hbase:w2.heap.size≤wr.heap.size:=by have:=V3.1;omega
       go_wp2_with fail;have hmd:=Mid.drew1 wr;have U0:=V0.mid hmd oZr;have U2:=V2.mid hmd oZr;have U3:=V3.mid hmd oZr;have hownU:=hown3.mid hmd oZl;have HT4:=HT3.out.mid hmd (Nat.zero_le _);have hmu:=hmv.trans hmd;have f0:=HT4.cellF HA1.out;have f1:=HT4.swap.cellF HA2.out;have g2:=U3.cell 2 rfl;clear V0 V2 V3 hown3 hmv hmd HT3 cF0 cT0;refine wp_region_T (S:=(fun w'=>w'.cell? ⟨G,2,none⟩=some (.slice A3 ys.length c3)∧w'.cell? ⟨BF,oF+m,none⟩=some (.int .i64 a)∧w'.cell? ⟨BT,oT+m,none⟩=some (.int .i64 b'))) 14 (by kernel_rfl) ⟨g2,f0,f1⟩ ?_;generalize World.drew wr=wz at U0 U2 U3 hownU HT4 hmu f0 f1 g2 ⊢;have hS:wz.cell? ⟨G,2,none⟩=some (.slice A3 ys.length c3)∧wz.cell? ⟨BF,oF+m,none⟩=some (.int .i64 a)∧wz.cell? ⟨BT,oT+m,none⟩=some (.int .i64 b'):=⟨g2,f0,f1⟩
       refine tkT 0 rfl hS ?_;try simp only [Act.put,zs1,zs2,zs3,zs4,zs5,zs6]
       refine tkT 1 rfl hS ?_;try simp only [Act.put,zs1,zs2,zs3,zs4,zs5,zs6]
       refine tkT 2 rfl hS ?_;try simp only [Act.put,zs1,zs2,zs3,zs4,zs5,zs6]
       refine tkT 3 rfl hS ?_;try simp only [Act.put,zs1,zs2,zs3,zs4,zs5,zs6]
       refine tkT 4 rfl hS ?_;try simp only [Act.put,zs1,zs2,zs3,zs4,zs5,zs6]
       refine tkT 5 rfl hS ?_;try simp only [Act.put,zs1,zs2,zs3,zs4,zs5,zs6]
       refine tkT 6 rfl hS ?_;try simp only [Act.put,zs1,zs2,zs3,zs4,zs5,zs6]
       refine tkT 7 rfl hS ?_;try simp only [Act.put,zs1,zs2,zs3,zs4,zs5,zs6]
       refine tkT 8 rfl hS ?_;try simp only [Act.put,zs1,zs2,zs3,zs4,zs5,zs6]
       refine tkT 9 rfl hS ?_;try simp only [Act.put,zs1,zs2,zs3,zs4,zs5,zs6]
       refine tkT 10 rfl hS ?_;try simp only [Act.put,zs1,zs2,zs3,zs4,zs5,zs6]
       refine tkT 11 rfl hS ?_;try simp only [Act.put,zs1,zs2,zs3,zs4,zs5,zs6]
       have hP:=spec_l4Put A3 ys c3 ⟨a,(k:Int)+1,b'⟩ wz _ _ hownU.rg (by omega);refine rdT 12 rfl (fun K hK=>?_)
       (go_simp;refine hP.mono ?_;rintro en w9 ⟨A9,c9,rfl,ho9,hm9⟩;have T0':=U0.mid hm9 oZr;have T2':=U2.mid hm9 oZr;have T3':=U3.mid hm9 oZr;have HT5:=HT4.mid hm9 (Nat.zero_le _);go_wp2_with fail)
       refine hK.out _ _ (Or.inr ⟨T3'.cell 2 rfl,HT5.cellF HA1.out,HT5.swap.cellF HA2.out⟩) (fun _=>?_);clear hK K;try simp only [Act.put,zs1,zs2,zs3,zs4,zs5,zs6]
       have hmr9:=hmu.trans hm9;have hGz:G < wz.heap.size:=U3.1;have hw2z:w2.heap.size≤wz.heap.size:=by omega
       have hS3:=And.intro (T3'.cell 2 rfl) (And.intro (HT5.cellF HA1.out) (HT5.swap.cellF HA2.out));have hr2:=T3'.cell 2 rfl;have hrf:=T3'.2.2;clear hS U0 U2 U3 hmu HT4;refine tkT 13 rfl hS3 ?_;try simp only [Act.put,zs1,zs2,zs3,zs4,zs5,zs6]
       refine rdT 14 rfl (fun K hK=>?_)
       (go_simp)
       refine hK.out _ _ (Or.inl rfl) (fun _=>?_);clear hK K;try simp only [Act.put,zs1,zs2,zs3,zs4,zs5,zs6]
       refine wpAnyT_done (by kernel_rfl) ?_ _;go_wp2_with fail;go_roundw
       case rel =>
        have hst:=Mid.setCell w9 (lo:=G) (hi:=G+1) (p:=⟨G,2,none⟩) (.slice A9 (putE ⟨a,(k:Int)+1,b'⟩ ys).length c9) (Nat.le_refl _) (Nat.lt_succ_self _);have htk:(addL s es ((k:Int)+1)).take (m+1)=(addL s es ((k:Int)+1)).take m++[⟨a,(k:Int)+1,b'⟩]:=take_snoc HAB.out;refine ⟨m+1,A9,c9,_,_,_,by omega,by go_num,Lib.hid ?_,ho9.mid hst (Or.inl (by omega)),.inr (by omega),hw2z,T0'.mid hst (Or.inl (by omega)),T2'.mid hst (Or.inl (by omega)),T3'.set 2 _ (by simp) rfl,Lib.hid (HT5.mid hst (by omega)),hmr9.storeNew (by show w.heap.size≤G;omega) _⟩;rw [htk,← List.append_assoc,putAll_snoc,← HY.out]
       case measure=>simp [intOf];omega
      ·obtain rfl:m=nF:=by omega
       have hta:(addL s es ((k:Int)+1)).take m=addL s es ((k:Int)+1):=List.take_of_length_le (by rw [hall,HNF.out];exact Nat.le_refl _);rw [hta,← addLs_succ] at HY;go_wp2_with fail;go_roundw
       case rel=>exact ⟨k+1,A3,c3,lo3,hi3,ys,by omega,by go_num,HY,hown3,hdis3,hlo3,V0,V2,V3,hmv⟩
       case measure=>simp [intOf];omega
  ·obtain rfl:r=(k:Int):=by omega
   clear p0 p1 p2;have p0:=Z0.cell 0 rfl;have p1:=Z0.cell 1 rfl;have p2:=Z0.cell 2 rfl;have a0:=Z2.cell 0 rfl;have a1:=Z2.cell 1 rfl;have a2:=Z2.cell 2 rfl;have b0:=Z3.cell 0 rfl;have b1:=Z3.cell 1 rfl;have b2:=Z3.cell 2 rfl;have af:=Z2.2.2;have bf:=Z3.2.2;go_wp2_with fail;have hcl:(w.heap.size+1 == G)=false:=by simp;omega
   have hxx:=HX.out;rw [putAll_canon F1.out.gr.asc] at hxx;refine bodyPost_ret (v:=.tuple #[.agg #[.int .i64 k,.int .i64 s,.slice A2 xs.length c2],.bool true]) (by simp [results,Tryz.results52,go_sem,a0,a1,a2,b0,b1,b2,af,bf]) rfl ⟨A2,c2,?_,?_,?_⟩
   ·rw [HRR.out,HRS.out,HRE.out,hxx]
    rfl
   ·rw [HRE.out,Int.toNat_natCast,← hxx]
    refine OG.wide (OG.mid hown (a:=w.heap.size) (b:=w.heap.size+2) ?_ (Or.inl (by omega))) (by omega) (by have:=hown.size;simpa using this) (Nat.le_refl _);repeat (first | exact Mid.refl _ _ _ | refine Mid.stored ?_ _ (by simp;try omega) (by simp;try omega))
   ·repeat (first | exact hmr | refine Mid.storeNew ?_ (by simp;try omega) _)
end
section
open Go.RowKit
end
section
open Go.RowKit
theorem spec_AddEdgeB (r s:Int) (A:Option Addr) (es:List Ed) (c:Nat) (e:Ed) (w:World) (lo hi:Nat) (hr:RG w lo hi A es) (hg:IsGr r s es) (he:edB r s e=true) (hl:es.length < 120) (bb:Bool) (hne:decide ((es.length:Int) < ((putE e es).length:Int))=bb) :
  Calls Tryz.prog 222 #[graV r s A es.length c,e.v] w fun en w'=>∃ A1 c1,en=.returned (.tuple #[graV r s A1 (putE e es).length c1,.bool bb])∧OG w' w.heap.size w'.heap.size A1 c1 (putE e es)∧Mid 0 0 w w':=by
 have hm0:Mid 0 0 w (((w.alloc (.cells #[.int .i64 r,.int .i64 s,.slice A es.length c] 26)).alloc (.cells #[.int .i64 e.a,.int .i64 e.l,.int .i64 e.b] 68)).alloc (.cells #[.int .i64 0,.int .i64 0,.slice none 0 0] 26)):=((Mid.alloc _ _).trans (Mid.alloc _ _)).trans (Mid.alloc _ _);have B0:=((Box.new w #[.int .i64 r,.int .i64 s,.slice A es.length c] 26).mid (Mid.alloc _ (.cells #[.int .i64 e.a,.int .i64 e.l,.int .i64 e.b] 68)) oZr).mid (Mid.alloc _ (.cells #[.int .i64 0,.int .i64 0,.slice none 0 0] 26)) oZr;have B1:=(Box.new (w.alloc (.cells #[.int .i64 r,.int .i64 s,.slice A es.length c] 26)) #[.int .i64 e.a,.int .i64 e.l,.int .i64 e.b] 68).mid (Mid.alloc _ (.cells #[.int .i64 0,.int .i64 0,.slice none 0 0] 26)) oZr;have B2:=Box.new ((w.alloc (.cells #[.int .i64 r,.int .i64 s,.slice A es.length c] 26)).alloc (.cells #[.int .i64 e.a,.int .i64 e.l,.int .i64 e.b] 68)) #[.int .i64 0,.int .i64 0,.slice none 0 0] 26;simp only [World.size_alloc] at B1 B2;have HG:=Lib.hid hg;clear hg;go_enter Tryz.func222,Tryz.ntmps222
 go_wp2_with fail;generalize ((w.alloc (.cells #[.int .i64 r,.int .i64 s,.slice A es.length c] 26)).alloc (.cells #[.int .i64 e.a,.int .i64 e.l,.int .i64 e.b] 68)).alloc (.cells #[.int .i64 0,.int .i64 0,.slice none 0 0] 26)=w1 at hm0 B0 B1 B2 ⊢;have hs1:w.heap.size+1+1 < w1.heap.size:=B2.1;with_reducible refine (spec_l4Copy r s A es c _ _ _ (hr.mid hm0 oZl) (by omega)).mono ?_
 rintro en w2 ⟨A1,c1,rfl,ho2,hm2⟩;have hal:=Mid.alloc w2 (.cells #[.int .i64 r,.int .i64 s,.slice A1 es.length c1] 26);have Y3:=Box.new w2 #[.int .i64 r,.int .i64 s,.slice A1 es.length c1] 26;have hs2:=hm2.size;replace B0:=B0.mid hm2 oZr;replace B1:=B1.mid hm2 oZr;replace B2:=B2.mid hm2 oZr;replace hm0:=hm0.trans hm2;replace B0:=B0.mid hal oZr;replace B1:=B1.mid hal oZr;replace B2:=B2.mid hal oZr;replace hm0:=hm0.trans hal;have p0:=B0.cell 0 rfl;have p1:=B0.cell 1 rfl;have p2:=B0.cell 2 rfl;go_wp2_with fail;generalize w2.alloc (.cells #[.int .i64 r,.int .i64 s,.slice A1 es.length c1] 26)=w3 at hm0 B0 B1 B2 Y3 p0 p1 p2 ⊢;have hG3:w2.heap.size < w3.heap.size:=Y3.1;with_reducible refine (spec_IsGraph r s A es c _ _ _ (hr.mid hm0 oZl).rv (by omega) true (iff_of_true rfl HG.out)).mono ?_
 rintro en w4 ⟨rfl,hm4⟩;replace B0:=B0.mid hm4 oZr;replace B1:=B1.mid hm4 oZr;replace B2:=B2.mid hm4 oZr;replace Y3:=Y3.mid hm4 oZr;replace hm0:=hm0.trans hm4;have hs4:=hm4.size;clear p0 p1 p2 hm4 ho2 hal;have p0:=B0.cell 0 rfl;have p1:=B0.cell 1 rfl;have p2:=B0.cell 2 rfl;have k0:=B1.cell 0 rfl;have k1:=B1.cell 1 rfl;have k2:=B1.cell 2 rfl;go_wp2_with fail;have hEd:=spec_l4Edge r s A es.length c e w4;rw [he] at hEd;with_reducible refine hEd.mono ?_
 rintro en w5 ⟨rfl,hm5⟩;replace B0:=B0.mid hm5 oZr;replace B1:=B1.mid hm5 oZr;replace B2:=B2.mid hm5 oZr;replace Y3:=Y3.mid hm5 oZr;replace hm0:=hm0.trans hm5;have hs5:=hm5.size;clear p0 p1 p2 k0 k1 k2 hm5 hEd;have p0:=B0.cell 0 rfl;have p1:=B0.cell 1 rfl;have p2:=B0.cell 2 rfl;have k0:=B1.cell 0 rfl;have k1:=B1.cell 1 rfl;have k2:=B1.cell 2 rfl;have d1:decide ((120:Int)≤(es.length:Int))=false:=by simp;omega
 go_wp2_with fail;with_reducible refine (spec_l4Put A es c e w5 _ _ (hr.mid hm0 oZl) (by omega)).mono ?_
 rintro en w6 ⟨A6,c6,rfl,ho6,hm6⟩;replace B0:=B0.mid hm6 oZr;replace B1:=B1.mid hm6 oZr;replace B2:=B2.mid hm6 oZr;replace Y3:=Y3.mid hm6 oZr;replace hm0:=hm0.trans hm6;have hs6:=hm6.size;clear p0 p1 p2 k0 k1 k2 hm6;obtain ⟨P,hP⟩:∃ P,putE e es=P:=⟨_,rfl⟩
 rw [hP] at hne ho6 ⊢;have hst:=Mid.setCell w6 (lo:=w2.heap.size) (hi:=w2.heap.size+1) (p:=⟨w2.heap.size,2,none⟩) (.slice A6 P.length c6) (Nat.le_refl _) (Nat.lt_succ_self _);have qf:=Y3.2.2;have q2:=Y3.cell 2 rfl;have hG6:w2.heap.size < w6.heap.size:=Y3.1;have Y4:=Y3.set 2 (.slice A6 P.length c6) (by simp) rfl;simp only [List.set_cons_succ,List.set_cons_zero] at Y4;have B0s:=B0.mid hst (Or.inl (by omega));have B2s:=B2.mid hst (Or.inl (by omega));have hm9:=hm0.storeNew (p:=⟨w2.heap.size,2,none⟩) (by show w.heap.size≤w2.heap.size;omega) (.slice A6 P.length c6);have ho9:=ho6.mid hst (Or.inl (by omega));have hs9:=hst.size;go_wp2_with fail;generalize w6.setCell ⟨w2.heap.size,2,none⟩ (.slice A6 P.length c6)=w9 at Y4 B0s B2s hm9 ho9 hs9 ⊢;have hmd:=Mid.drew1 w9;clear B0 B2 Y3 hm0 ho6 hst B1;have hsd:w9.heap.size≤w9.drew.heap.size:=Nat.le_refl _;replace B0s:=B0s.mid hmd oZr;replace B2s:=B2s.mid hmd oZr;replace Y4:=Y4.mid hmd oZr;replace ho9:=ho9.mid hmd oZl;replace hm9:=hm9.trans hmd;have p0:=B0s.cell 0 rfl;have p1:=B0s.cell 1 rfl;have p2:=B0s.cell 2 rfl;have q0:=Y4.cell 0 rfl;have q1:=Y4.cell 1 rfl;have q2:=Y4.cell 2 rfl;have d2:=hne;have d2n:decide (es.length < P.length)=bb:=by rw [← hne];exact decide_eq_decide.2 (by omega)
 clear qf q2;have hb2:w.heap.size+1+1 < w2.heap.size:=by omega
 clear q0 q1 q2 p0 p1 p2;have q0:=Y4.cell 0 rfl;have q1:=Y4.cell 1 rfl;have q2:=Y4.cell 2 rfl;have p0:=B0s.cell 0 rfl;have p1:=B0s.cell 1 rfl;have p2:=B0s.cell 2 rfl;refine wp_region_Z (S:=(fun w'=>(w'.cell? ⟨w2.heap.size,0,none⟩=some (.int .i64 r)∧w'.cell? ⟨w2.heap.size,1,none⟩=some (.int .i64 s)∧w'.cell? ⟨w2.heap.size,2,none⟩=some (.slice A6 P.length c6))∧w'.cell? ⟨w.heap.size,2,none⟩=some (.slice A es.length c))) [] (by kernel_rfl) ⟨⟨q0,q1,q2⟩,p2⟩ ?_;generalize World.drew w9=wz at Y4 B0s B2s hm9 ho9 hsd q0 q1 q2 p2 ⊢;have hS:(wz.cell? ⟨w2.heap.size,0,none⟩=some (.int .i64 r)∧wz.cell? ⟨w2.heap.size,1,none⟩=some (.int .i64 s)∧wz.cell? ⟨w2.heap.size,2,none⟩=some (.slice A6 P.length c6))∧wz.cell? ⟨w.heap.size,2,none⟩=some (.slice A es.length c):=⟨⟨q0,q1,q2⟩,p2⟩
 refine tkZ [] 0 rfl hS ?_;try simp only [Act.put,zs1,zs2,zs3,zs4,zs5,zs6]
 refine tkZ [] 1 rfl hS ?_;try simp only [Act.put,zs1,zs2,zs3,zs4,zs5,zs6]
 refine tkZ [] 2 rfl hS ?_;try simp only [Act.put,zs1,zs2,zs3,zs4,zs5,zs6]
 refine tkZ [] 3 rfl hS ?_;try simp only [Act.put,zs1,zs2,zs3,zs4,zs5,zs6]
 refine tkZ [] 4 rfl hS ?_;try simp only [Act.put,zs1,zs2,zs3,zs4,zs5,zs6]
 refine tkZ [] 5 rfl hS ?_;try simp only [Act.put,zs1,zs2,zs3,zs4,zs5,zs6]
 refine tkZ [] 6 rfl hS ?_;try simp only [Act.put,zs1,zs2,zs3,zs4,zs5,zs6]
 refine tkZ [] 7 rfl hS ?_;try simp only [Act.put,zs1,zs2,zs3,zs4,zs5,zs6]
 have hst:=((Mid.setCell wz (lo:=w.heap.size+1+1) (hi:=w.heap.size+1+1+1) (p:=⟨w.heap.size+1+1,0,none⟩) (.int .i64 r) (Nat.le_refl _) (Nat.lt_succ_self _)).trans (Mid.setCell _ (lo:=w.heap.size+1+1) (hi:=w.heap.size+1+1+1) (p:=⟨w.heap.size+1+1,1,none⟩) (.int .i64 s) (Nat.le_refl _) (Nat.lt_succ_self _))).trans (Mid.setCell _ (lo:=w.heap.size+1+1) (hi:=w.heap.size+1+1+1) (p:=⟨w.heap.size+1+1,2,none⟩) (.slice A6 P.length c6) (Nat.le_refl _) (Nat.lt_succ_self _));have Y5:=Y4.mid hst (Or.inr (by omega));have B5:=B0s.mid hst (Or.inl (by omega));have V2:=((B2s.set 0 (.int .i64 r) (by simp) rfl).set 1 (.int .i64 s) (by simp) rfl).set 2 (.slice A6 P.length c6) (by simp) rfl;simp only [List.set_cons_succ,List.set_cons_zero] at V2;have ho10:=ho9.mid hst (Or.inl (by omega));have hm10:=((hm9.storeNew (p:=⟨w.heap.size+1+1,0,none⟩) (by show w.heap.size≤w.heap.size+1+1;omega) (.int .i64 r)).storeNew (p:=⟨w.heap.size+1+1,1,none⟩) (by show w.heap.size≤w.heap.size+1+1;omega) (.int .i64 s)).storeNew (p:=⟨w.heap.size+1+1,2,none⟩) (by show w.heap.size≤w.heap.size+1+1;omega) (.slice A6 P.length c6);have hsz:=hst.size;have a0:=B2s.cell 0 rfl;have a1:=B2s.cell 1 rfl;have a2:=B2s.cell 2 rfl;have af:=B2s.2.2;have hbz:w.heap.size+1+1 < wz.heap.size:=B2s.1;refine rdZ 8 rfl (fun K hK=>?_);go_simp;refine hK.out _ _ (Or.inr ⟨⟨Y5.cell 0 rfl,Y5.cell 1 rfl,Y5.cell 2 rfl⟩,B5.cell 2 rfl⟩) (fun _=>?_);clear hK K;try simp only [Act.put,zs1,zs2,zs3,zs4,zs5,zs6]
 refine rdZ 9 rfl (fun K hK=>?_);go_simp;refine hK.out _ _ (Or.inr ⟨⟨Y5.cell 0 rfl,Y5.cell 1 rfl,Y5.cell 2 rfl⟩,B5.cell 2 rfl⟩) (fun _=>?_);clear hK K;try simp only [Act.put,zs1,zs2,zs3,zs4,zs5,zs6]
 refine wpAnyZ_done (by kernel_rfl) ?_ _;clear hS q0 q1 q2 p0 p1 p2 a0 a1 a2 af hst Y4 B0s B2s ho9 hm9;generalize ((wz.setCell ⟨w.heap.size+1+1,0,none⟩ (.int .i64 r)).setCell ⟨w.heap.size+1+1,1,none⟩ (.int .i64 s)).setCell ⟨w.heap.size+1+1,2,none⟩ (.slice A6 P.length c6)=w11 at V2 Y5 B5 ho10 hm10 hsz ⊢;have a0:=V2.cell 0 rfl;have a1:=V2.cell 1 rfl;have a2:=V2.cell 2 rfl;have af:=V2.2.2;subst hP;go_wp2_with fail;refine bodyPost_ret (v:=.tuple #[.agg #[.int .i64 r,.int .i64 s,.slice A6 (putE e es).length c6],.bool bb]) (by simp [results,Tryz.results222,go_sem,a0,a1,a2,af,d2n]) rfl ⟨A6,c6,rfl,?_,?_⟩
 ·exact OG.wide ho10 (by omega) (by omega) (Nat.le_refl _)
 ·exact hm10
structure DrG (r s:Int) (es:List Ed):Prop where
 rk:-10≤r∧r≤10
 sz:-10≤s∧s≤100
 len:es.length≤121
 all:∀ e∈es,(-100≤e.a∧e.a≤100)∧(-100≤e.l∧e.l≤100)∧(-100≤e.b∧e.b≤100)
theorem DrG.of_gr {r s:Int} {es:List Ed} (h:IsGr r s es):DrG r s es:=⟨by have:=h.rank;omega,by have:=h.size;omega,by have:=h.len;omega,fun e he=>by
 have h1:=h.all e he;have h2:=h.rank;have h3:=h.size;simp only [InG] at h1;omega⟩
theorem DrG.zero:DrG 0 0 []:=⟨by omega,by omega,by simp,by simp⟩
theorem putE_gr {r s:Int} {es:List Ed} {e:Ed} (h:IsGr r s es) (he:InG r s e) (hl:es.length < 120):IsGr r s (putE e es):=⟨h.rank,h.size,by have:=putE_len e es;omega,fun x hx=>by
 rcases mem_putE.1 hx with rfl | hx
 ·exact he
 ·exact h.all x hx,asc_putE h.asc⟩
theorem edB_of {r s:Int} {e:Ed} (h:InG r s e) (hs:1≤s∧s≤40):edB r s e=true:=by
 simp only [InG] at h;unfold edB;have e1:wrap64 (s - 1)=s - 1:=by unfold wrap64;omega
 rw [e1];simp [inB];omega
theorem l4Graph_any (p:Nat) (A:Option Addr) (bs:List Int) (c:Nat) (w:World) (hb:OkB bs) (hl:bs.length≤1048576) (h:Cur w p A bs c) :
  Calls Tryz.prog 195 #[.pointer (some ⟨p,0,none⟩)] w fun e w'=>∃ r n A' c' es,e=.returned (graV (r:Nat) (n:Nat) A' (List.length es) c')∧(IsGr (r:Nat) (n:Nat) es∧n≤5∧es.length≤8)∧OG w' w.heap.size w'.heap.size A' c' es∧Cur w' p A bs c∧Mid p (p+1) w w':=by
 have hpw:=h.lt;have hal:=Mid.alloc w (.cells #[.int .i64 0,.int .i64 0,.slice none 0 0] 26);have B2:=Box.new w #[.int .i64 0,.int .i64 0,.slice none 0 0] 26;have h0:=h.mid hal (Or.inr rfl);go_enter Tryz.func195,Tryz.ntmps195
 have hal2:=Mid.alloc (w.alloc (.cells #[.int .i64 0,.int .i64 0,.slice none 0 0] 26)) (.cells #[.int .i64 1,.int .i64 2,.int .i64 2,.int .i64 2,.int .i64 3] 3);have hbx:=Box.new (w.alloc (.cells #[.int .i64 0,.int .i64 0,.slice none 0 0] 26)) #[.int .i64 1,.int .i64 2,.int .i64 2,.int .i64 2,.int .i64 3] 3;rw [World.size_alloc] at hbx;replace B2:=B2.mid hal2 oZr;replace h0:=h0.mid hal2 (Or.inr rfl);have hm0:=hal.trans hal2;go_wp2_with fail;generalize (w.alloc (.cells #[.int .i64 0,.int .i64 0,.slice none 0 0] 26)).alloc (.cells #[.int .i64 1,.int .i64 2,.int .i64 2,.int .i64 2,.int .i64 3] 3)=w1 at hbx B2 h0 hm0 ⊢;have hs1:w.heap.size+1 < w1.heap.size:=hbx.1;have hri:RI w1 (w.heap.size+1) (w.heap.size+1+1) (some ⟨w.heap.size+1,0,none⟩) [1,2,2,2,3] :=
  ⟨hs1,fun _=>⟨w.heap.size+1,0,rfl,Nat.le_refl _,Nat.lt_succ_self _,fun j u hu=>by rw [Nat.zero_add];exact hbx.2.1 j u (by simpa [ints] using hu)⟩⟩
 with_reducible refine (l1PickIntN (some ⟨w.heap.size+1,0,none⟩) [1,2,2,2,3] 5 5 rfl (by decide) (by decide) p A bs c _ (w.heap.size+1) _ hri (Or.inl (by omega)) hb hl h0).mono ?_
 rintro e w2 ⟨r,rfl,hrm,h2,m2⟩;have hr:1≤r∧r≤3:=by simp at hrm;omega
 have B2b:=B2.mid m2 (Or.inr (by omega));have hm2:=hm0.zero.trans m2;clear hri hbx hrm h0 B2 hm0 hal hal2 m2;go_wp2_with fail;with_reducible refine (l1BelowI 5 (by decide) (by decide) p A bs c _ hb hl h2).mono ?_
 rintro e w3 ⟨k,rfl,hk,h3,m3⟩;have B2c:=B2b.mid m3 (Or.inr (by omega));have hm3:=hm2.trans m3;have hs3:=hm3.size;have ek:IntKind.i64.wrap (1+(k:Int))=1+(k:Int):=IntWalk.i64_in _ (by omega);clear h2 B2b hm2 m3;go_wp2_with fail;have hal3:=Mid.alloc w3 (.cells #[.int .i64 r,.int .i64 (1+(k:Int)),.slice none 0 0] 26);have G0:=Box.new w3 #[.int .i64 r,.int .i64 (1+(k:Int)),.slice none 0 0] 26;have B2d:=B2c.mid hal3 oZr;have h4:=h3.mid hal3 (Or.inr rfl);have hm4:=hm3.trans hal3.zero;obtain ⟨gb,hgb⟩:∃ g,w3.heap.size=g:=⟨_,rfl⟩
 have hgw:w.heap.size < gb:=by have:=B2c.1;omega
 obtain ⟨rn,hrn⟩:=Int.eq_ofNat_of_zero_le (by omega:0≤r);obtain ⟨n,hn⟩:∃ n:Nat,1+(k:Int)=n:=⟨1+k,by omega⟩
 rw [hn,hgb,hrn] at G0 ⊢;rw [hn,hrn] at B2d h4 hm4;generalize w3.alloc (.cells #[.int .i64 (rn:Int),.int .i64 (n:Int),.slice none 0 0] 26)=w4 at G0 B2d h4 hm4 ⊢;have hrn3:1≤(rn:Int)∧(rn:Int)≤3:=by omega
 have hn5:1≤(n:Int)∧(n:Int)≤5:=by omega
 have hg4:gb < w4.heap.size:=G0.1;clear h3 B2c hal3 hm3 ek hn hrn hk hr hgb;with_reducible refine (l1BelowI 9 (by decide) (by decide) p A bs c _ hb hl h4).mono ?_
 rintro e w5 ⟨m0,rfl,hm0,h5,m5⟩;replace G0:=G0.mid m5 (Or.inr (by omega));replace B2d:=B2d.mid m5 (Or.inr (by omega));have hm5:=hm4.trans m5;have hog:OG w5 (gb+1) w5.heap.size none 0 []:=OG.nil;clear h4 m5 hm4;go_wp2_with fail;go_loopw [4] (fun nv wr=>∃ (m:Nat) (es:List Ed) (Ae:Option Addr) (ce L:Nat),nv=.int .i64 m∧Hid (es.length=L)∧L+m≤8∧Hid (IsGr rn n es)∧Box wr gb [.int .i64 rn,.int .i64 n,.slice Ae L ce]∧OG wr (gb+1) wr.heap.size Ae ce es∧Box wr w.heap.size [.int .i64 0,.int .i64 0,.slice none 0 0]∧Cur wr p A bs c∧Mid p (p+1) w wr)
  (fun nv _=>natV nv)
 case atStart=>exact ⟨m0,[],none,0,0,rfl,Lib.hid rfl,by omega,Lib.hid ⟨hrn3,by omega,by simp,by simp,List.Pairwise.nil⟩,G0,hog,B2d,h5,hm5⟩
 case round =>
  obtain ⟨m,es,Ae,ce,L,rfl,HL,hLm,HG,hG,hO,hB,hC,hM⟩:=hrel;have hgr:gb < wr.heap.size:=hG.1;by_cases hlt:0 < m
  ·replace hG:=hG.mid (Mid.drew1 wr) oZr
   replace hO:=hO.mid (Mid.drew1 wr) oZl;replace hB:=hB.mid (Mid.drew1 wr) oZr;replace hC:=hC.mid (Mid.drew1 wr) (Or.inr rfl);replace hM:=hM.trans (Mid.drew1 wr).zero;have hsd:wr.heap.size≤wr.drew.heap.size:=Nat.le_refl _;have p0:=hG.cell 0 rfl;have p1:=hG.cell 1 rfl;go_wp2_with fail;refine wp_region_Z (S:=(fun w'=>w'.cell? ⟨gb,0,none⟩=some (.int .i64 (rn:Int))∧w'.cell? ⟨gb,1,none⟩=some (.int .i64 (n:Int)))) [] (by kernel_rfl) ⟨p0,p1⟩ ?_;generalize World.drew wr=wz at hG hO hB hC hM p0 p1 hsd ⊢;have hS:wz.cell? ⟨gb,0,none⟩=some (.int .i64 (rn:Int))∧wz.cell? ⟨gb,1,none⟩=some (.int .i64 (n:Int)):=⟨p0,p1⟩
   have hgz:gb < wz.heap.size:=hG.1;have hOz:OG wz (gb+1) wz.heap.size Ae ce es:=hO.wide (Nat.le_refl _) hO.size (Nat.le_refl _);clear hO;refine tkZ [] 0 rfl hS ?_;try simp only [Act.put,zs1,zs2,zs3,zs4,zs5,zs6]
   refine tkZ [] 1 rfl hS ?_;try simp only [Act.put,zs1,zs2,zs3,zs4,zs5,zs6]
   refine tkZ [] 2 rfl hS ?_;try simp only [Act.put,zs1,zs2,zs3,zs4,zs5,zs6]
   refine tkZ [] 4 rfl hS ?_;try simp only [Act.put,zs1,zs2,zs3,zs4,zs5,zs6]
   refine tkZ [] 5 rfl hS ?_;try simp only [Act.put,zs1,zs2,zs3,zs4,zs5,zs6]
   refine tkZ [] 6 rfl hS ?_;try simp only [Act.put,zs1,zs2,zs3,zs4,zs5,zs6]
   refine tkZ [] 9 rfl hS ?_;try simp only [Act.put,zs1,zs2,zs3,zs4,zs5,zs6]
   refine tkZ [] 10 rfl hS ?_;try simp only [Act.put,zs1,zs2,zs3,zs4,zs5,zs6]
   refine tkZ [] 11 rfl hS ?_;try simp only [Act.put,zs1,zs2,zs3,zs4,zs5,zs6]
   refine wpAnyZ_ready (rs:=[3,14]) (by kernel_rfl) (by simp) (AllReadyZ.cons rfl (fun K hK=>?_) (AllReadyZ.cons rfl (fun K hK=>?_) AllReadyZ.nil))
   ·(go_simp;(with_reducible refine (l1BelowI (n:Int) (by omega) (by omega) p A bs c _ hb hl hC).mono ?_);rintro en wc1 ⟨x1,rfl,hx1,hC1,m1⟩;have hG1:=hG.mid m1 (Or.inr (by omega));go_wp2_with fail)
    refine hK.out _ _ (Or.inr ⟨hG1.cell 0 rfl,hG1.cell 1 rfl⟩) (fun _=>?_);clear hK K;try simp only [Act.put,zs1,zs2,zs3,zs4,zs5,zs6]
    have hS1:=And.intro (hG1.cell 0 rfl) (hG1.cell 1 rfl);have hB1:=hB.mid m1 (Or.inr (by omega));have hO1:=hOz.mid m1 (Or.inl (by omega));have hM1:=hM.trans m1;have hz1:=m1.size;refine wpAnyZ_ready (rs:=[7,14]) (by kernel_rfl) (by simp) (AllReadyZ.cons rfl (fun K hK=>?_) (AllReadyZ.cons rfl (fun K hK=>?_) AllReadyZ.nil))
    ·(go_simp;(with_reducible refine (l1BelowI (rn:Int) (by omega) (by omega) p A bs c _ hb hl hC1).mono ?_);rintro en wc2 ⟨x2,rfl,hx2,hC2,m2⟩;have hG2:=hG1.mid m2 (Or.inr (by omega));go_wp2_with fail)
     refine hK.out _ _ (Or.inr ⟨hG2.cell 0 rfl,hG2.cell 1 rfl⟩) (fun _=>?_);clear hK K;try simp only [Act.put,zs1,zs2,zs3,zs4,zs5,zs6]
     have hS2:=And.intro (hG2.cell 0 rfl) (hG2.cell 1 rfl);have hB2:=hB1.mid m2 (Or.inr (by omega));have hO2:=hO1.mid m2 (Or.inl (by omega));have hM2:=hM1.trans m2;have hz2:=m2.size;have ew2:IntKind.i64.wrap (1+(x2:Int))=1+(x2:Int):=IntWalk.i64_in _ (by omega);refine tkZ [] 8 rfl hS2 ?_;try simp only [Act.put,zs1,zs2,zs3,zs4,zs5,zs6]
     refine wpAnyZ_ready (rs:=[12,14]) (by kernel_rfl) (by simp) (AllReadyZ.cons rfl (fun K hK=>?_) (AllReadyZ.cons rfl (fun K hK=>?_) AllReadyZ.nil))
     ·(go_simp;(with_reducible refine (l1BelowI (n:Int) (by omega) (by omega) p A bs c _ hb hl hC2).mono ?_);rintro en wc3 ⟨x3,rfl,hx3,hC3,m3⟩;have hG3:=hG2.mid m3 (Or.inr (by omega));go_wp2_with fail)
      refine hK.out _ _ (Or.inr ⟨hG3.cell 0 rfl,hG3.cell 1 rfl⟩) (fun _=>?_);clear hK K;try simp only [Act.put,zs1,zs2,zs3,zs4,zs5,zs6]
      have hS3:=And.intro (hG3.cell 0 rfl) (hG3.cell 1 rfl);have hB3:=hB2.mid m3 (Or.inr (by omega));have hO3:=hO2.mid m3 (Or.inl (by omega));have hM3:=hM2.trans m3;have hz3:=m3.size;refine tkZ [] 13 rfl hS3 ?_;try simp only [Act.put,zs1,zs2,zs3,zs4,zs5,zs6]
      refine rdZ 14 rfl (fun K hK=>?_);go_simp;refine hK.out _ _ (Or.inr ⟨cell_keep (Mid.alloc wc3 (.cells #[.int .i64 0,.int .i64 0,.int .i64 0] 68)) hG3.1 oZr (hG3.cell 0 rfl),cell_keep (Mid.alloc wc3 (.cells #[.int .i64 0,.int .i64 0,.int .i64 0] 68)) hG3.1 oZr (hG3.cell 1 rfl)⟩) (fun _=>?_);clear hK K;try simp only [Act.put,zs1,zs2,zs3,zs4,zs5,zs6]
      have al4:=Mid.alloc wc3 (.cells #[.int .i64 0,.int .i64 0,.int .i64 0] 68);have hE4:=Box.new wc3 #[.int .i64 0,.int .i64 0,.int .i64 0] 68;have hG4:=hG3.mid al4 oZr;have hB4:=hB3.mid al4 oZr;have hO4:=hO3.mid al4 oZl;have hC4:=hC3.mid al4 (Or.inr rfl);have hM4:=hM3.trans al4.zero;have hz4:=al4.size;have hgE4:=hG3.1;have hcE4:=hC3.lt;have hbE4:=hB3.1;generalize wc3.alloc (.cells #[.int .i64 0,.int .i64 0,.int .i64 0] 68)=wc4 at hE4 hG4 hB4 hO4 hC4 hM4 hz4 ⊢;clear al4;have hS4:=And.intro (hG4.cell 0 rfl) (hG4.cell 1 rfl);have hef:=hE4.2.2;have e0:=hE4.cell 0 rfl;have e1:=hE4.cell 1 rfl;have e2:=hE4.cell 2 rfl;have hel:=hE4.1;have hne:gb≠wc3.heap.size:=by omega
      have hst:=((Mid.setCell wc4 (lo:=wc3.heap.size) (hi:=wc3.heap.size+1) (p:=⟨wc3.heap.size,0,none⟩) (.int .i64 (x1:Int)) (Nat.le_refl _) (Nat.lt_succ_self _)).trans (Mid.setCell _ (lo:=wc3.heap.size) (hi:=wc3.heap.size+1) (p:=⟨wc3.heap.size,1,none⟩) (.int .i64 (1+(x2:Int))) (Nat.le_refl _) (Nat.lt_succ_self _))).trans (Mid.setCell _ (lo:=wc3.heap.size) (hi:=wc3.heap.size+1) (p:=⟨wc3.heap.size,2,none⟩) (.int .i64 (x3:Int)) (Nat.le_refl _) (Nat.lt_succ_self _));have V:=((hE4.set 0 (.int .i64 (x1:Int)) (by simp) rfl).set 1 (.int .i64 (1+(x2:Int))) (by simp) rfl).set 2 (.int .i64 (x3:Int)) (by simp) rfl;simp only [List.set_cons_succ,List.set_cons_zero] at V;have hcl:=hC4.lt;have G9:=hG4.mid hst (by omega);have B9:=hB4.mid hst (by omega);have O9:=hO4.mid hst (by omega);have C9:=hC4.mid hst (by omega);have M9:=hM4.transNew hst (by omega);refine rdZ 15 rfl (fun K hK=>?_);go_simp;refine hK.out _ _ (Or.inr ⟨G9.cell 0 rfl,G9.cell 1 rfl⟩) (fun _=>?_);clear hK K;try simp only [Act.put,zs1,zs2,zs3,zs4,zs5,zs6]
      refine wpAnyZ_done (by kernel_rfl) ?_ _;generalize ((wc4.setCell ⟨wc3.heap.size,0,none⟩ (.int .i64 (x1:Int))).setCell ⟨wc3.heap.size,1,none⟩ (.int .i64 (1+(x2:Int)))).setCell ⟨wc3.heap.size,2,none⟩ (.int .i64 (x3:Int))=w9 at V G9 B9 O9 C9 M9 ⊢;obtain ⟨P,hP⟩:∃ P,putE ⟨(x1:Int),1+(x2:Int),(x3:Int)⟩ es=P:=⟨_,rfl⟩
      have hin:InG rn n ⟨(x1:Int),1+(x2:Int),(x3:Int)⟩:=by simp only [InG];omega
      have hLe:=HL.out;have hgP:IsGr rn n P:=hP ▸ putE_gr HG.out hin (by omega);have hPl:P.length≤L+1:=by have:=putE_len ⟨(x1:Int),1+(x2:Int),(x3:Int)⟩ es;rw [hP] at this;omega
      obtain ⟨bb,hbb⟩:∃ b,decide ((es.length:Int) < (P.length:Int))=b:=⟨_,rfl⟩
      have hAE:=spec_AddEdgeB rn n Ae es ce ⟨(x1:Int),1+(x2:Int),(x3:Int)⟩ w9 _ _ O9.rg HG.out (edB_of hin (by omega)) (by omega) bb (by rw [hP];exact hbb);obtain ⟨L2,hL2⟩:∃ l,P.length=l:=⟨_,rfl⟩
      rw [hP,hLe,hL2] at hAE;have HAE:Hid (Calls Tryz.prog 222 #[.agg #[.int .i64 (rn:Int),.int .i64 (n:Int),.slice Ae L ce],.agg #[.int .i64 (x1:Int),.int .i64 (1+(x2:Int)),.int .i64 (x3:Int)]] w9 fun en w'=>∃ A1 c1,en=.returned (.tuple #[.agg #[.int .i64 (rn:Int),.int .i64 (n:Int),.slice A1 L2 c1],.bool bb])∧OG w' w9.heap.size w'.heap.size A1 c1 P∧Mid 0 0 w9 w'):=Lib.hid hAE;have HP:=Lib.hid hgP;have HL2:=Lib.hid hL2;have hL3:L2≤L+1:=by omega
      have g0:=G9.cell 0 rfl;have g1:=G9.cell 1 rfl;have g2:=G9.cell 2 rfl;have v0:=V.cell 0 rfl;have v1:=V.cell 1 rfl;have v2:=V.cell 2 rfl;have hg9:=G9.1;have hev:=V.1;clear hP hin hLe hgP hPl hbb hAE hL2 O9 hst hef e0 e1 e2 hel hne;go_wp2_with fail;with_reducible refine (HAE.out).mono ?_
      rintro en wf ⟨A1,c1,rfl,oP,mf⟩;have G10:=G9.mid mf oZr;have B10:=B9.mid mf oZr;have C10:=C9.mid mf (Or.inr rfl);have M10:=M9.trans mf.zero;have hzf:=mf.size;clear g0 g1 g2 v0 v1 v2 V G9 B9 C9 M9 mf HAE hev;have g0:=G10.cell 0 rfl;have g1:=G10.cell 1 rfl;have g2:=G10.cell 2 rfl;have gf:=G10.2.2;have gl:=G10.1;have hbl:=B10.1;have hcl2:=C10.lt;have hst:=((Mid.setCell wf (lo:=gb) (hi:=gb+1) (p:=⟨gb,0,none⟩) (.int .i64 (rn:Int)) (Nat.le_refl _) (Nat.lt_succ_self _)).trans (Mid.setCell _ (lo:=gb) (hi:=gb+1) (p:=⟨gb,1,none⟩) (.int .i64 (n:Int)) (Nat.le_refl _) (Nat.lt_succ_self _))).trans (Mid.setCell _ (lo:=gb) (hi:=gb+1) (p:=⟨gb,2,none⟩) (.slice A1 L2 c1) (Nat.le_refl _) (Nat.lt_succ_self _));have G11:=((G10.set 0 (.int .i64 (rn:Int)) (by simp) rfl).set 1 (.int .i64 (n:Int)) (by simp) rfl).set 2 (.slice A1 L2 c1) (by simp) rfl;simp only [List.set_cons_succ,List.set_cons_zero] at G11;have B11:=B10.mid hst (by omega);have O11:=(oP.mid hst (Or.inl (by omega))).wide (lo':=gb+1) (by omega) hst.size (Nat.le_refl _);have C11:=C10.mid hst (by omega);have M11:=M10.transNew hst (by omega);clear hst B10 C10 M10 oP;go_wp2_with fail;go_roundw
      case rel=>exact ⟨m - 1,P,A1,c1,L2,by go_num,HL2,by omega,HP,G11,O11,B11,C11,M11⟩
      case measure=>simp [natV];omega
     ·go_simp
      refine hK.out _ _ (Or.inr ⟨cell_keep (Mid.alloc wc2 (.cells #[.int .i64 0,.int .i64 0,.int .i64 0] 68)) hG2.1 oZr (hG2.cell 0 rfl),cell_keep (Mid.alloc wc2 (.cells #[.int .i64 0,.int .i64 0,.int .i64 0] 68)) hG2.1 oZr (hG2.cell 1 rfl)⟩) (fun _=>?_);clear hK K;try simp only [Act.put,zs1,zs2,zs3,zs4,zs5,zs6]
      have al6:=Mid.alloc wc2 (.cells #[.int .i64 0,.int .i64 0,.int .i64 0] 68);have hE6:=Box.new wc2 #[.int .i64 0,.int .i64 0,.int .i64 0] 68;have hG6:=hG2.mid al6 oZr;have hB6:=hB2.mid al6 oZr;have hO6:=hO2.mid al6 oZl;have hC6:=hC2.mid al6 (Or.inr rfl);have hM6:=hM2.trans al6.zero;have hz6:=al6.size;have hgE6:=hG2.1;have hcE6:=hC2.lt;have hbE6:=hB2.1;generalize wc2.alloc (.cells #[.int .i64 0,.int .i64 0,.int .i64 0] 68)=wc6 at hE6 hG6 hB6 hO6 hC6 hM6 hz6 ⊢;clear al6;have hS6:=And.intro (hG6.cell 0 rfl) (hG6.cell 1 rfl);refine rdZ 12 rfl (fun K hK=>?_)
      (go_simp;(with_reducible refine (l1BelowI (n:Int) (by omega) (by omega) p A bs c _ hb hl hC6).mono ?_);rintro en wc7 ⟨x7,rfl,hx7,hC7,m7⟩;have hG7:=hG6.mid m7 (Or.inr (by omega));go_wp2_with fail)
      refine hK.out _ _ (Or.inr ⟨hG7.cell 0 rfl,hG7.cell 1 rfl⟩) (fun _=>?_);clear hK K;try simp only [Act.put,zs1,zs2,zs3,zs4,zs5,zs6]
      have hS7:=And.intro (hG7.cell 0 rfl) (hG7.cell 1 rfl);have hB7:=hB6.mid m7 (Or.inr (by omega));have hO7:=hO6.mid m7 (Or.inl (by omega));have hM7:=hM6.trans m7;have hz7:=m7.size;have hE7:=hE6.mid m7 (Or.inr (by omega));refine tkZ [] 13 rfl hS7 ?_;try simp only [Act.put,zs1,zs2,zs3,zs4,zs5,zs6]
      have hef:=hE7.2.2;have e0:=hE7.cell 0 rfl;have e1:=hE7.cell 1 rfl;have e2:=hE7.cell 2 rfl;have hel:=hE7.1;have hne:gb≠wc2.heap.size:=by omega
      have hst:=((Mid.setCell wc7 (lo:=wc2.heap.size) (hi:=wc2.heap.size+1) (p:=⟨wc2.heap.size,0,none⟩) (.int .i64 (x1:Int)) (Nat.le_refl _) (Nat.lt_succ_self _)).trans (Mid.setCell _ (lo:=wc2.heap.size) (hi:=wc2.heap.size+1) (p:=⟨wc2.heap.size,1,none⟩) (.int .i64 (1+(x2:Int))) (Nat.le_refl _) (Nat.lt_succ_self _))).trans (Mid.setCell _ (lo:=wc2.heap.size) (hi:=wc2.heap.size+1) (p:=⟨wc2.heap.size,2,none⟩) (.int .i64 (x7:Int)) (Nat.le_refl _) (Nat.lt_succ_self _));have V:=((hE7.set 0 (.int .i64 (x1:Int)) (by simp) rfl).set 1 (.int .i64 (1+(x2:Int))) (by simp) rfl).set 2 (.int .i64 (x7:Int)) (by simp) rfl;simp only [List.set_cons_succ,List.set_cons_zero] at V;have hcl:=hC7.lt;have G9:=hG7.mid hst (by omega);have B9:=hB7.mid hst (by omega);have O9:=hO7.mid hst (by omega);have C9:=hC7.mid hst (by omega);have M9:=hM7.transNew hst (by omega);refine rdZ 15 rfl (fun K hK=>?_);go_simp;refine hK.out _ _ (Or.inr ⟨G9.cell 0 rfl,G9.cell 1 rfl⟩) (fun _=>?_);clear hK K;try simp only [Act.put,zs1,zs2,zs3,zs4,zs5,zs6]
      refine wpAnyZ_done (by kernel_rfl) ?_ _;generalize ((wc7.setCell ⟨wc2.heap.size,0,none⟩ (.int .i64 (x1:Int))).setCell ⟨wc2.heap.size,1,none⟩ (.int .i64 (1+(x2:Int)))).setCell ⟨wc2.heap.size,2,none⟩ (.int .i64 (x7:Int))=w9 at V G9 B9 O9 C9 M9 ⊢;obtain ⟨P,hP⟩:∃ P,putE ⟨(x1:Int),1+(x2:Int),(x7:Int)⟩ es=P:=⟨_,rfl⟩
      have hin:InG rn n ⟨(x1:Int),1+(x2:Int),(x7:Int)⟩:=by simp only [InG];omega
      have hLe:=HL.out;have hgP:IsGr rn n P:=hP ▸ putE_gr HG.out hin (by omega);have hPl:P.length≤L+1:=by have:=putE_len ⟨(x1:Int),1+(x2:Int),(x7:Int)⟩ es;rw [hP] at this;omega
      obtain ⟨bb,hbb⟩:∃ b,decide ((es.length:Int) < (P.length:Int))=b:=⟨_,rfl⟩
      have hAE:=spec_AddEdgeB rn n Ae es ce ⟨(x1:Int),1+(x2:Int),(x7:Int)⟩ w9 _ _ O9.rg HG.out (edB_of hin (by omega)) (by omega) bb (by rw [hP];exact hbb);obtain ⟨L2,hL2⟩:∃ l,P.length=l:=⟨_,rfl⟩
      rw [hP,hLe,hL2] at hAE;have HAE:Hid (Calls Tryz.prog 222 #[.agg #[.int .i64 (rn:Int),.int .i64 (n:Int),.slice Ae L ce],.agg #[.int .i64 (x1:Int),.int .i64 (1+(x2:Int)),.int .i64 (x7:Int)]] w9 fun en w'=>∃ A1 c1,en=.returned (.tuple #[.agg #[.int .i64 (rn:Int),.int .i64 (n:Int),.slice A1 L2 c1],.bool bb])∧OG w' w9.heap.size w'.heap.size A1 c1 P∧Mid 0 0 w9 w'):=Lib.hid hAE;have HP:=Lib.hid hgP;have HL2:=Lib.hid hL2;have hL3:L2≤L+1:=by omega
      have g0:=G9.cell 0 rfl;have g1:=G9.cell 1 rfl;have g2:=G9.cell 2 rfl;have v0:=V.cell 0 rfl;have v1:=V.cell 1 rfl;have v2:=V.cell 2 rfl;have hg9:=G9.1;have hev:=V.1;clear hP hin hLe hgP hPl hbb hAE hL2 O9 hst hef e0 e1 e2 hel hne;go_wp2_with fail;with_reducible refine (HAE.out).mono ?_
      rintro en wf ⟨A1,c1,rfl,oP,mf⟩;have G10:=G9.mid mf oZr;have B10:=B9.mid mf oZr;have C10:=C9.mid mf (Or.inr rfl);have M10:=M9.trans mf.zero;have hzf:=mf.size;clear g0 g1 g2 v0 v1 v2 V G9 B9 C9 M9 mf HAE hev;have g0:=G10.cell 0 rfl;have g1:=G10.cell 1 rfl;have g2:=G10.cell 2 rfl;have gf:=G10.2.2;have gl:=G10.1;have hbl:=B10.1;have hcl2:=C10.lt;have hst:=((Mid.setCell wf (lo:=gb) (hi:=gb+1) (p:=⟨gb,0,none⟩) (.int .i64 (rn:Int)) (Nat.le_refl _) (Nat.lt_succ_self _)).trans (Mid.setCell _ (lo:=gb) (hi:=gb+1) (p:=⟨gb,1,none⟩) (.int .i64 (n:Int)) (Nat.le_refl _) (Nat.lt_succ_self _))).trans (Mid.setCell _ (lo:=gb) (hi:=gb+1) (p:=⟨gb,2,none⟩) (.slice A1 L2 c1) (Nat.le_refl _) (Nat.lt_succ_self _));have G11:=((G10.set 0 (.int .i64 (rn:Int)) (by simp) rfl).set 1 (.int .i64 (n:Int)) (by simp) rfl).set 2 (.slice A1 L2 c1) (by simp) rfl;simp only [List.set_cons_succ,List.set_cons_zero] at G11;have B11:=B10.mid hst (by omega);have O11:=(oP.mid hst (Or.inl (by omega))).wide (lo':=gb+1) (by omega) hst.size (Nat.le_refl _);have C11:=C10.mid hst (by omega);have M11:=M10.transNew hst (by omega);clear hst B10 C10 M10 oP;go_wp2_with fail;go_roundw
      case rel=>exact ⟨m - 1,P,A1,c1,L2,by go_num,HL2,by omega,HP,G11,O11,B11,C11,M11⟩
      case measure=>simp [natV];omega
    ·go_simp
     refine hK.out _ _ (Or.inr ⟨cell_keep (Mid.alloc wc1 (.cells #[.int .i64 0,.int .i64 0,.int .i64 0] 68)) hG1.1 oZr (hG1.cell 0 rfl),cell_keep (Mid.alloc wc1 (.cells #[.int .i64 0,.int .i64 0,.int .i64 0] 68)) hG1.1 oZr (hG1.cell 1 rfl)⟩) (fun _=>?_);clear hK K;try simp only [Act.put,zs1,zs2,zs3,zs4,zs5,zs6]
     have al9:=Mid.alloc wc1 (.cells #[.int .i64 0,.int .i64 0,.int .i64 0] 68);have hE9:=Box.new wc1 #[.int .i64 0,.int .i64 0,.int .i64 0] 68;have hG9:=hG1.mid al9 oZr;have hB9:=hB1.mid al9 oZr;have hO9:=hO1.mid al9 oZl;have hC9:=hC1.mid al9 (Or.inr rfl);have hM9:=hM1.trans al9.zero;have hz9:=al9.size;have hgE9:=hG1.1;have hcE9:=hC1.lt;have hbE9:=hB1.1;generalize wc1.alloc (.cells #[.int .i64 0,.int .i64 0,.int .i64 0] 68)=wc9 at hE9 hG9 hB9 hO9 hC9 hM9 hz9 ⊢;clear al9;have hS9:=And.intro (hG9.cell 0 rfl) (hG9.cell 1 rfl);refine rdZ 7 rfl (fun K hK=>?_)
     (go_simp;(with_reducible refine (l1BelowI (rn:Int) (by omega) (by omega) p A bs c _ hb hl hC9).mono ?_);rintro en wc10 ⟨x10,rfl,hx10,hC10,m10⟩;have hG10:=hG9.mid m10 (Or.inr (by omega));go_wp2_with fail)
     refine hK.out _ _ (Or.inr ⟨hG10.cell 0 rfl,hG10.cell 1 rfl⟩) (fun _=>?_);clear hK K;try simp only [Act.put,zs1,zs2,zs3,zs4,zs5,zs6]
     have hS10:=And.intro (hG10.cell 0 rfl) (hG10.cell 1 rfl);have hB10:=hB9.mid m10 (Or.inr (by omega));have hO10:=hO9.mid m10 (Or.inl (by omega));have hM10:=hM9.trans m10;have hz10:=m10.size;have hE10:=hE9.mid m10 (Or.inr (by omega));have ew10:IntKind.i64.wrap (1+(x10:Int))=1+(x10:Int):=IntWalk.i64_in _ (by omega);refine tkZ [] 8 rfl hS10 ?_;try simp only [Act.put,zs1,zs2,zs3,zs4,zs5,zs6]
     refine rdZ 12 rfl (fun K hK=>?_)
     (go_simp;(with_reducible refine (l1BelowI (n:Int) (by omega) (by omega) p A bs c _ hb hl hC10).mono ?_);rintro en wc11 ⟨x11,rfl,hx11,hC11,m11⟩;have hG11:=hG10.mid m11 (Or.inr (by omega));go_wp2_with fail)
     refine hK.out _ _ (Or.inr ⟨hG11.cell 0 rfl,hG11.cell 1 rfl⟩) (fun _=>?_);clear hK K;try simp only [Act.put,zs1,zs2,zs3,zs4,zs5,zs6]
     have hS11:=And.intro (hG11.cell 0 rfl) (hG11.cell 1 rfl);have hB11:=hB10.mid m11 (Or.inr (by omega));have hO11:=hO10.mid m11 (Or.inl (by omega));have hM11:=hM10.trans m11;have hz11:=m11.size;have hE11:=hE10.mid m11 (Or.inr (by omega));refine tkZ [] 13 rfl hS11 ?_;try simp only [Act.put,zs1,zs2,zs3,zs4,zs5,zs6]
     have hef:=hE11.2.2;have e0:=hE11.cell 0 rfl;have e1:=hE11.cell 1 rfl;have e2:=hE11.cell 2 rfl;have hel:=hE11.1;have hne:gb≠wc1.heap.size:=by omega
     have hst:=((Mid.setCell wc11 (lo:=wc1.heap.size) (hi:=wc1.heap.size+1) (p:=⟨wc1.heap.size,0,none⟩) (.int .i64 (x1:Int)) (Nat.le_refl _) (Nat.lt_succ_self _)).trans (Mid.setCell _ (lo:=wc1.heap.size) (hi:=wc1.heap.size+1) (p:=⟨wc1.heap.size,1,none⟩) (.int .i64 (1+(x10:Int))) (Nat.le_refl _) (Nat.lt_succ_self _))).trans (Mid.setCell _ (lo:=wc1.heap.size) (hi:=wc1.heap.size+1) (p:=⟨wc1.heap.size,2,none⟩) (.int .i64 (x11:Int)) (Nat.le_refl _) (Nat.lt_succ_self _));have V:=((hE11.set 0 (.int .i64 (x1:Int)) (by simp) rfl).set 1 (.int .i64 (1+(x10:Int))) (by simp) rfl).set 2 (.int .i64 (x11:Int)) (by simp) rfl;simp only [List.set_cons_succ,List.set_cons_zero] at V;have hcl:=hC11.lt;have G9:=hG11.mid hst (by omega);have B9:=hB11.mid hst (by omega);have O9:=hO11.mid hst (by omega);have C9:=hC11.mid hst (by omega);have M9:=hM11.transNew hst (by omega);refine rdZ 15 rfl (fun K hK=>?_);go_simp;refine hK.out _ _ (Or.inr ⟨G9.cell 0 rfl,G9.cell 1 rfl⟩) (fun _=>?_);clear hK K;try simp only [Act.put,zs1,zs2,zs3,zs4,zs5,zs6]
     refine wpAnyZ_done (by kernel_rfl) ?_ _;generalize ((wc11.setCell ⟨wc1.heap.size,0,none⟩ (.int .i64 (x1:Int))).setCell ⟨wc1.heap.size,1,none⟩ (.int .i64 (1+(x10:Int)))).setCell ⟨wc1.heap.size,2,none⟩ (.int .i64 (x11:Int))=w9 at V G9 B9 O9 C9 M9 ⊢;obtain ⟨P,hP⟩:∃ P,putE ⟨(x1:Int),1+(x10:Int),(x11:Int)⟩ es=P:=⟨_,rfl⟩
     have hin:InG rn n ⟨(x1:Int),1+(x10:Int),(x11:Int)⟩:=by simp only [InG];omega
     have hLe:=HL.out;have hgP:IsGr rn n P:=hP ▸ putE_gr HG.out hin (by omega);have hPl:P.length≤L+1:=by have:=putE_len ⟨(x1:Int),1+(x10:Int),(x11:Int)⟩ es;rw [hP] at this;omega
     obtain ⟨bb,hbb⟩:∃ b,decide ((es.length:Int) < (P.length:Int))=b:=⟨_,rfl⟩
     have hAE:=spec_AddEdgeB rn n Ae es ce ⟨(x1:Int),1+(x10:Int),(x11:Int)⟩ w9 _ _ O9.rg HG.out (edB_of hin (by omega)) (by omega) bb (by rw [hP];exact hbb);obtain ⟨L2,hL2⟩:∃ l,P.length=l:=⟨_,rfl⟩
     rw [hP,hLe,hL2] at hAE;have HAE:Hid (Calls Tryz.prog 222 #[.agg #[.int .i64 (rn:Int),.int .i64 (n:Int),.slice Ae L ce],.agg #[.int .i64 (x1:Int),.int .i64 (1+(x10:Int)),.int .i64 (x11:Int)]] w9 fun en w'=>∃ A1 c1,en=.returned (.tuple #[.agg #[.int .i64 (rn:Int),.int .i64 (n:Int),.slice A1 L2 c1],.bool bb])∧OG w' w9.heap.size w'.heap.size A1 c1 P∧Mid 0 0 w9 w'):=Lib.hid hAE;have HP:=Lib.hid hgP;have HL2:=Lib.hid hL2;have hL3:L2≤L+1:=by omega
     have g0:=G9.cell 0 rfl;have g1:=G9.cell 1 rfl;have g2:=G9.cell 2 rfl;have v0:=V.cell 0 rfl;have v1:=V.cell 1 rfl;have v2:=V.cell 2 rfl;have hg9:=G9.1;have hev:=V.1;clear hP hin hLe hgP hPl hbb hAE hL2 O9 hst hef e0 e1 e2 hel hne;go_wp2_with fail;with_reducible refine (HAE.out).mono ?_
     rintro en wf ⟨A1,c1,rfl,oP,mf⟩;have G10:=G9.mid mf oZr;have B10:=B9.mid mf oZr;have C10:=C9.mid mf (Or.inr rfl);have M10:=M9.trans mf.zero;have hzf:=mf.size;clear g0 g1 g2 v0 v1 v2 V G9 B9 C9 M9 mf HAE hev;have g0:=G10.cell 0 rfl;have g1:=G10.cell 1 rfl;have g2:=G10.cell 2 rfl;have gf:=G10.2.2;have gl:=G10.1;have hbl:=B10.1;have hcl2:=C10.lt;have hst:=((Mid.setCell wf (lo:=gb) (hi:=gb+1) (p:=⟨gb,0,none⟩) (.int .i64 (rn:Int)) (Nat.le_refl _) (Nat.lt_succ_self _)).trans (Mid.setCell _ (lo:=gb) (hi:=gb+1) (p:=⟨gb,1,none⟩) (.int .i64 (n:Int)) (Nat.le_refl _) (Nat.lt_succ_self _))).trans (Mid.setCell _ (lo:=gb) (hi:=gb+1) (p:=⟨gb,2,none⟩) (.slice A1 L2 c1) (Nat.le_refl _) (Nat.lt_succ_self _));have G11:=((G10.set 0 (.int .i64 (rn:Int)) (by simp) rfl).set 1 (.int .i64 (n:Int)) (by simp) rfl).set 2 (.slice A1 L2 c1) (by simp) rfl;simp only [List.set_cons_succ,List.set_cons_zero] at G11;have B11:=B10.mid hst (by omega);have O11:=(oP.mid hst (Or.inl (by omega))).wide (lo':=gb+1) (by omega) hst.size (Nat.le_refl _);have C11:=C10.mid hst (by omega);have M11:=M10.transNew hst (by omega);clear hst B10 C10 M10 oP;go_wp2_with fail;go_roundw
     case rel=>exact ⟨m - 1,P,A1,c1,L2,by go_num,HL2,by omega,HP,G11,O11,B11,C11,M11⟩
     case measure=>simp [natV];omega
   ·go_simp
    refine hK.out _ _ (Or.inr ⟨cell_keep (Mid.alloc wz (.cells #[.int .i64 0,.int .i64 0,.int .i64 0] 68)) hG.1 oZr (hG.cell 0 rfl),cell_keep (Mid.alloc wz (.cells #[.int .i64 0,.int .i64 0,.int .i64 0] 68)) hG.1 oZr (hG.cell 1 rfl)⟩) (fun _=>?_);clear hK K;try simp only [Act.put,zs1,zs2,zs3,zs4,zs5,zs6]
    have al13:=Mid.alloc wz (.cells #[.int .i64 0,.int .i64 0,.int .i64 0] 68);have hE13:=Box.new wz #[.int .i64 0,.int .i64 0,.int .i64 0] 68;have hG13:=hG.mid al13 oZr;have hB13:=hB.mid al13 oZr;have hO13:=hOz.mid al13 oZl;have hC13:=hC.mid al13 (Or.inr rfl);have hM13:=hM.trans al13.zero;have hz13:=al13.size;have hgE13:=hG.1;have hcE13:=hC.lt;have hbE13:=hB.1;generalize wz.alloc (.cells #[.int .i64 0,.int .i64 0,.int .i64 0] 68)=wc13 at hE13 hG13 hB13 hO13 hC13 hM13 hz13 ⊢;clear al13;have hS13:=And.intro (hG13.cell 0 rfl) (hG13.cell 1 rfl);refine rdZ 3 rfl (fun K hK=>?_)
    (go_simp;(with_reducible refine (l1BelowI (n:Int) (by omega) (by omega) p A bs c _ hb hl hC13).mono ?_);rintro en wc14 ⟨x14,rfl,hx14,hC14,m14⟩;have hG14:=hG13.mid m14 (Or.inr (by omega));go_wp2_with fail)
    refine hK.out _ _ (Or.inr ⟨hG14.cell 0 rfl,hG14.cell 1 rfl⟩) (fun _=>?_);clear hK K;try simp only [Act.put,zs1,zs2,zs3,zs4,zs5,zs6]
    have hS14:=And.intro (hG14.cell 0 rfl) (hG14.cell 1 rfl);have hB14:=hB13.mid m14 (Or.inr (by omega));have hO14:=hO13.mid m14 (Or.inl (by omega));have hM14:=hM13.trans m14;have hz14:=m14.size;have hE14:=hE13.mid m14 (Or.inr (by omega));refine rdZ 7 rfl (fun K hK=>?_)
    (go_simp;(with_reducible refine (l1BelowI (rn:Int) (by omega) (by omega) p A bs c _ hb hl hC14).mono ?_);rintro en wc15 ⟨x15,rfl,hx15,hC15,m15⟩;have hG15:=hG14.mid m15 (Or.inr (by omega));go_wp2_with fail)
    refine hK.out _ _ (Or.inr ⟨hG15.cell 0 rfl,hG15.cell 1 rfl⟩) (fun _=>?_);clear hK K;try simp only [Act.put,zs1,zs2,zs3,zs4,zs5,zs6]
    have hS15:=And.intro (hG15.cell 0 rfl) (hG15.cell 1 rfl);have hB15:=hB14.mid m15 (Or.inr (by omega));have hO15:=hO14.mid m15 (Or.inl (by omega));have hM15:=hM14.trans m15;have hz15:=m15.size;have hE15:=hE14.mid m15 (Or.inr (by omega));have ew15:IntKind.i64.wrap (1+(x15:Int))=1+(x15:Int):=IntWalk.i64_in _ (by omega);refine tkZ [] 8 rfl hS15 ?_;try simp only [Act.put,zs1,zs2,zs3,zs4,zs5,zs6]
    refine rdZ 12 rfl (fun K hK=>?_)
    (go_simp;(with_reducible refine (l1BelowI (n:Int) (by omega) (by omega) p A bs c _ hb hl hC15).mono ?_);rintro en wc16 ⟨x16,rfl,hx16,hC16,m16⟩;have hG16:=hG15.mid m16 (Or.inr (by omega));go_wp2_with fail)
    refine hK.out _ _ (Or.inr ⟨hG16.cell 0 rfl,hG16.cell 1 rfl⟩) (fun _=>?_);clear hK K;try simp only [Act.put,zs1,zs2,zs3,zs4,zs5,zs6]
    have hS16:=And.intro (hG16.cell 0 rfl) (hG16.cell 1 rfl);have hB16:=hB15.mid m16 (Or.inr (by omega));have hO16:=hO15.mid m16 (Or.inl (by omega));have hM16:=hM15.trans m16;have hz16:=m16.size;have hE16:=hE15.mid m16 (Or.inr (by omega));refine tkZ [] 13 rfl hS16 ?_;try simp only [Act.put,zs1,zs2,zs3,zs4,zs5,zs6]
    have hef:=hE16.2.2;have e0:=hE16.cell 0 rfl;have e1:=hE16.cell 1 rfl;have e2:=hE16.cell 2 rfl;have hel:=hE16.1;have hne:gb≠wz.heap.size:=by omega
    have hst:=((Mid.setCell wc16 (lo:=wz.heap.size) (hi:=wz.heap.size+1) (p:=⟨wz.heap.size,0,none⟩) (.int .i64 (x14:Int)) (Nat.le_refl _) (Nat.lt_succ_self _)).trans (Mid.setCell _ (lo:=wz.heap.size) (hi:=wz.heap.size+1) (p:=⟨wz.heap.size,1,none⟩) (.int .i64 (1+(x15:Int))) (Nat.le_refl _) (Nat.lt_succ_self _))).trans (Mid.setCell _ (lo:=wz.heap.size) (hi:=wz.heap.size+1) (p:=⟨wz.heap.size,2,none⟩) (.int .i64 (x16:Int)) (Nat.le_refl _) (Nat.lt_succ_self _));have V:=((hE16.set 0 (.int .i64 (x14:Int)) (by simp) rfl).set 1 (.int .i64 (1+(x15:Int))) (by simp) rfl).set 2 (.int .i64 (x16:Int)) (by simp) rfl;simp only [List.set_cons_succ,List.set_cons_zero] at V;have hcl:=hC16.lt;have G9:=hG16.mid hst (by omega);have B9:=hB16.mid hst (by omega);have O9:=hO16.mid hst (by omega);have C9:=hC16.mid hst (by omega);have M9:=hM16.transNew hst (by omega);refine rdZ 15 rfl (fun K hK=>?_);go_simp;refine hK.out _ _ (Or.inr ⟨G9.cell 0 rfl,G9.cell 1 rfl⟩) (fun _=>?_);clear hK K;try simp only [Act.put,zs1,zs2,zs3,zs4,zs5,zs6]
    refine wpAnyZ_done (by kernel_rfl) ?_ _;generalize ((wc16.setCell ⟨wz.heap.size,0,none⟩ (.int .i64 (x14:Int))).setCell ⟨wz.heap.size,1,none⟩ (.int .i64 (1+(x15:Int)))).setCell ⟨wz.heap.size,2,none⟩ (.int .i64 (x16:Int))=w9 at V G9 B9 O9 C9 M9 ⊢;obtain ⟨P,hP⟩:∃ P,putE ⟨(x14:Int),1+(x15:Int),(x16:Int)⟩ es=P:=⟨_,rfl⟩
    have hin:InG rn n ⟨(x14:Int),1+(x15:Int),(x16:Int)⟩:=by simp only [InG];omega
    have hLe:=HL.out;have hgP:IsGr rn n P:=hP ▸ putE_gr HG.out hin (by omega);have hPl:P.length≤L+1:=by have:=putE_len ⟨(x14:Int),1+(x15:Int),(x16:Int)⟩ es;rw [hP] at this;omega
    obtain ⟨bb,hbb⟩:∃ b,decide ((es.length:Int) < (P.length:Int))=b:=⟨_,rfl⟩
    have hAE:=spec_AddEdgeB rn n Ae es ce ⟨(x14:Int),1+(x15:Int),(x16:Int)⟩ w9 _ _ O9.rg HG.out (edB_of hin (by omega)) (by omega) bb (by rw [hP];exact hbb);obtain ⟨L2,hL2⟩:∃ l,P.length=l:=⟨_,rfl⟩
    rw [hP,hLe,hL2] at hAE;have HAE:Hid (Calls Tryz.prog 222 #[.agg #[.int .i64 (rn:Int),.int .i64 (n:Int),.slice Ae L ce],.agg #[.int .i64 (x14:Int),.int .i64 (1+(x15:Int)),.int .i64 (x16:Int)]] w9 fun en w'=>∃ A1 c1,en=.returned (.tuple #[.agg #[.int .i64 (rn:Int),.int .i64 (n:Int),.slice A1 L2 c1],.bool bb])∧OG w' w9.heap.size w'.heap.size A1 c1 P∧Mid 0 0 w9 w'):=Lib.hid hAE;have HP:=Lib.hid hgP;have HL2:=Lib.hid hL2;have hL3:L2≤L+1:=by omega
    have g0:=G9.cell 0 rfl;have g1:=G9.cell 1 rfl;have g2:=G9.cell 2 rfl;have v0:=V.cell 0 rfl;have v1:=V.cell 1 rfl;have v2:=V.cell 2 rfl;have hg9:=G9.1;have hev:=V.1;clear hP hin hLe hgP hPl hbb hAE hL2 O9 hst hef e0 e1 e2 hel hne;go_wp2_with fail;with_reducible refine (HAE.out).mono ?_
    rintro en wf ⟨A1,c1,rfl,oP,mf⟩;have G10:=G9.mid mf oZr;have B10:=B9.mid mf oZr;have C10:=C9.mid mf (Or.inr rfl);have M10:=M9.trans mf.zero;have hzf:=mf.size;clear g0 g1 g2 v0 v1 v2 V G9 B9 C9 M9 mf HAE hev;have g0:=G10.cell 0 rfl;have g1:=G10.cell 1 rfl;have g2:=G10.cell 2 rfl;have gf:=G10.2.2;have gl:=G10.1;have hbl:=B10.1;have hcl2:=C10.lt;have hst:=((Mid.setCell wf (lo:=gb) (hi:=gb+1) (p:=⟨gb,0,none⟩) (.int .i64 (rn:Int)) (Nat.le_refl _) (Nat.lt_succ_self _)).trans (Mid.setCell _ (lo:=gb) (hi:=gb+1) (p:=⟨gb,1,none⟩) (.int .i64 (n:Int)) (Nat.le_refl _) (Nat.lt_succ_self _))).trans (Mid.setCell _ (lo:=gb) (hi:=gb+1) (p:=⟨gb,2,none⟩) (.slice A1 L2 c1) (Nat.le_refl _) (Nat.lt_succ_self _));have G11:=((G10.set 0 (.int .i64 (rn:Int)) (by simp) rfl).set 1 (.int .i64 (n:Int)) (by simp) rfl).set 2 (.slice A1 L2 c1) (by simp) rfl;simp only [List.set_cons_succ,List.set_cons_zero] at G11;have B11:=B10.mid hst (by omega);have O11:=(oP.mid hst (Or.inl (by omega))).wide (lo':=gb+1) (by omega) hst.size (Nat.le_refl _);have C11:=C10.mid hst (by omega);have M11:=M10.transNew hst (by omega);clear hst B10 C10 M10 oP;go_wp2_with fail;go_roundw
    case rel=>exact ⟨m - 1,P,A1,c1,L2,by go_num,HL2,by omega,HP,G11,O11,B11,C11,M11⟩
    case measure=>simp [natV];omega
  ·have q0:=hG.cell 0 rfl
   have q1:=hG.cell 1 rfl;have q2:=hG.cell 2 rfl;have p0:=hB.cell 0 rfl;have p1:=hB.cell 1 rfl;have p2:=hB.cell 2 rfl;have pf:=hB.2.2;have hbw:=hB.1;have hle:=HL.out;have hst:=((Mid.setCell wr (lo:=w.heap.size) (hi:=w.heap.size+1) (p:=⟨w.heap.size,0,none⟩) (.int .i64 (rn:Int)) (Nat.le_refl _) (Nat.lt_succ_self _)).trans (Mid.setCell _ (lo:=w.heap.size) (hi:=w.heap.size+1) (p:=⟨w.heap.size,1,none⟩) (.int .i64 (n:Int)) (Nat.le_refl _) (Nat.lt_succ_self _))).trans (Mid.setCell _ (lo:=w.heap.size) (hi:=w.heap.size+1) (p:=⟨w.heap.size,2,none⟩) (.slice Ae L ce) (Nat.le_refl _) (Nat.lt_succ_self _));have O9:=Lib.hid ((hO.mid hst (Or.inl (by omega))).wide (lo':=w.heap.size) (by omega) hst.size (Nat.le_refl _));have C9:=Lib.hid (hC.mid hst (Or.inl hpw));have M9:=Lib.hid (hM.transNew hst (Or.inl (Nat.le_refl _)));have HLE:=Lib.hid hle;clear hst hle hO hC hM;go_wp2_with fail;refine bodyPost_ret (v:=.agg #[.int .i64 (rn:Int),.int .i64 (n:Int),.slice Ae L ce]) (by simp [results,Tryz.results195,go_sem,p0,p1,p2,pf,q0,q1,q2]) rfl ⟨rn,n,Ae,ce,es,?_,⟨HG.out,by omega,by have:=HLE.out;omega⟩,O9.out,C9.out,M9.out⟩;rw [HLE.out]
end
section
open Go.RowKit
theorem DrG.size {r s t:Int} {es:List Ed} (h:DrG r s es) (ht:-10≤t∧t≤100):DrG r t es:=⟨h.rk,ht,h.len,h.all⟩
theorem DrG.rank {r s t:Int} {es:List Ed} (h:DrG r s es) (ht:-10≤t∧t≤10):DrG t s es:=⟨ht,h.sz,h.len,h.all⟩
theorem DrG.add {r s:Int} {es:List Ed} {e:Ed} (h:DrG r s es) (hl:es.length≤120) (he:(-100≤e.a∧e.a≤100)∧(-100≤e.l∧e.l≤100)∧(-100≤e.b∧e.b≤100)):DrG r s (es++[e]):=⟨h.rk,h.sz,by rw [List.length_append];simp;omega,fun x hx=>by
 rcases List.mem_append.1 hx with hx | hx
 ·exact h.all x hx
 ·simp at hx
  rw [hx];exact he⟩
theorem l4Any_any (p:Nat) (A:Option Addr) (bs:List Int) (c:Nat) (w:World) (hb:OkB bs) (hl:bs.length≤1048576) (h:Cur w p A bs c) :
  Calls Tryz.prog 194 #[.pointer (some ⟨p,0,none⟩)] w fun e w'=>∃ r s A' c' es,e=.returned (graV r s A' (List.length es) c')∧DrG r s es∧OG w' w.heap.size w'.heap.size A' c' es∧Cur w' p A bs c∧Mid p (p+1) w w':=by
 have hpw:=h.lt;have hal:=Mid.alloc w (.cells #[.int .i64 0,.int .i64 0,.slice none 0 0] 26);have B2:=Box.new w #[.int .i64 0,.int .i64 0,.slice none 0 0] 26;have h0:=h.mid hal (Or.inr rfl);go_enter Tryz.func194,Tryz.ntmps194
 go_wp2_with fail;generalize (w.alloc (.cells #[.int .i64 0,.int .i64 0,.slice none 0 0] 26))=w1 at B2 h0 hal ⊢;have hs1:w.heap.size < w1.heap.size:=B2.1;with_reducible refine (l4Graph_any p A bs c w1 hb hl h0).mono ?_
 rintro e w2 ⟨r,n,Ae,ce,es,rfl,⟨hg,hn5,he8⟩,hO,h2,m2⟩;replace B2:=B2.mid m2 (Or.inr (by omega));have hm2:=hal.zero.trans m2;have hs2:=m2.size;have HG:=Lib.hid (DrG.of_gr hg);obtain ⟨L,hL⟩:∃ l,es.length=l:=⟨_,rfl⟩
 have HL:=Lib.hid hL;have hL8:L≤8:=by omega
 rw [hL];have hal2:=Mid.alloc w2 (.cells #[.int .i64 (r:Int),.int .i64 (n:Int),.slice Ae L ce] 26);have G0:=Box.new w2 #[.int .i64 (r:Int),.int .i64 (n:Int),.slice Ae L ce] 26;obtain ⟨gb,hgb⟩:∃ g,w2.heap.size=g:=⟨_,rfl⟩
 clear hg hn5 he8 hal h0 m2 hL;go_wp2_with fail;rw [hgb] at G0;replace B2:=B2.mid hal2 oZr;replace h2:=h2.mid hal2 (Or.inr rfl);replace hm2:=hm2.trans hal2.zero;have hO3:=(hO.mid hal2 oZl).wide (lo':=w.heap.size+1) (hi':=gb) (by omega) (by omega) (by have:=G0.1;omega);generalize w2.alloc (.cells #[.int .i64 (r:Int),.int .i64 (n:Int),.slice Ae L ce] 26)=w3 at G0 B2 h2 hm2 hO3 ⊢;have hg3:gb < w3.heap.size:=G0.1;have hwg:w.heap.size < gb:=by omega
 clear hal2 hO hs1 hs2 hgb;with_reducible refine (l1BelowI 14 (by decide) (by decide) p A bs c _ hb hl h2).mono ?_
 rintro e w4 ⟨k,rfl,hk,h4,m4⟩;replace G0:=G0.mid m4 (Or.inr (by omega));replace B2:=B2.mid m4 (Or.inr (by omega));have hO4:=hO3.mid m4 (Or.inl (by omega));have hm4:=hm2.trans m4;clear h2 hO3 hm2 m4 hg3;rcases (by omega:k=0 ∨ k=1 ∨ k=2 ∨ 3≤k) with rfl | rfl | rfl | hk3
 ·have HD:=Lib.hid (HG.out)
  have al:=Mid.alloc w4 (.cells #[.int .i64 (-1),.int .i64 0,.int .i64 1,.int .i64 41] 3);have hbx:=Box.new w4 #[.int .i64 (-1),.int .i64 0,.int .i64 1,.int .i64 41] 3;go_wp2_with fail;replace G0:=G0.mid al oZr;replace B2:=B2.mid al oZr;have hO5:=hO4.mid al oZl;have h5:=h4.mid al (Or.inr rfl);have hm5:=hm4.trans al.zero;have hgl4:=G0.1;have hpl4:=h4.lt;have hri:RI (w4.alloc (.cells #[.int .i64 (-1),.int .i64 0,.int .i64 1,.int .i64 41] 3)) w4.heap.size (w4.heap.size+1) (some ⟨w4.heap.size,0,none⟩) [-1,0,1,41]:=⟨hbx.1,fun _=>⟨w4.heap.size,0,rfl,Nat.le_refl _,Nat.lt_succ_self _,fun j u hu=>by rw [Nat.zero_add];exact hbx.2.1 j u (by simpa [ints] using hu)⟩⟩
  generalize (w4.alloc (.cells #[.int .i64 (-1),.int .i64 0,.int .i64 1,.int .i64 41] 3))=w5 at G0 B2 hO5 h5 hm5 hri hgl4 ⊢;clear hO4 h4 hm4 al hbx;with_reducible refine (l1PickIntN (some ⟨w4.heap.size,0,none⟩) [-1,0,1,41] 4 4 rfl (by decide) (by decide) p A bs c _ _ _ hri (Or.inl hpl4) hb hl h5).mono ?_
  rintro e w6 ⟨t,rfl,htm,h6,m6⟩;have ht:-10≤t∧t≤100:=by simp at htm;omega
  replace G0:=G0.mid m6 (Or.inr (by omega));replace B2:=B2.mid m6 (Or.inr (by omega));have hO6:=hO5.mid m6 (Or.inl (by omega));have hm6:=hm5.trans m6;clear hO5 h5 hm5 m6 hri htm;have g0:=G0.cell 0 rfl;have g1:=G0.cell 1 rfl;have g2:=G0.cell 2 rfl;have gf:=G0.2.2;have gl:=G0.1;have hst:=Mid.setCell w6 (lo:=gb) (hi:=gb+1) (p:=⟨gb,1,none⟩) (.int .i64 t) (Nat.le_refl _) (Nat.lt_succ_self _);replace G0:=G0.set 1 (.int .i64 t) (by simp) rfl;simp only [List.set_cons_succ,List.set_cons_zero] at G0;replace B2:=B2.mid hst (Or.inl (by omega));replace hO6:=hO6.mid hst (Or.inr (Nat.le_refl _));replace h6:=h6.mid hst (Or.inl (by omega));replace hm6:=hm6.transNew hst (Or.inl (by omega));have ql:=B2.1;have gl2:=G0.1;have k0:=G0.cell 0 rfl;have k1:=G0.cell 1 rfl;have k2:=G0.cell 2 rfl;have q0:=B2.cell 0 rfl;have q1:=B2.cell 1 rfl;have q2:=B2.cell 2 rfl;have qf:=B2.2.2;obtain ⟨wT,hwT⟩:∃ x,w6.setCell ⟨gb,1,none⟩ (.int .i64 t)=x:=⟨_,rfl⟩
  rw [hwT] at G0 B2 hO6 h6 hm6 ql gl2 k0 k1 k2 q0 q1 q2 qf;clear hst;have hst:=((Mid.setCell wT (lo:=w.heap.size) (hi:=w.heap.size+1) (p:=⟨w.heap.size,0,none⟩) (.int .i64 (r:Int)) (Nat.le_refl _) (Nat.lt_succ_self _)).trans (Mid.setCell _ (lo:=w.heap.size) (hi:=w.heap.size+1) (p:=⟨w.heap.size,1,none⟩) (.int .i64 t) (Nat.le_refl _) (Nat.lt_succ_self _))).trans (Mid.setCell _ (lo:=w.heap.size) (hi:=w.heap.size+1) (p:=⟨w.heap.size,2,none⟩) (.slice Ae L ce) (Nat.le_refl _) (Nat.lt_succ_self _));have O9:=Lib.hid ((hO6.mid hst (Or.inl (by omega))).wide (lo':=w.heap.size) (hi':=_) (by omega) (by have:=hst.size;have:=hO6.size;exact Nat.le_trans hO6.size hst.size) (Nat.le_refl _));have C9:=Lib.hid (h6.mid hst (Or.inl hpw));have M9:=Lib.hid (hm6.transNew hst (Or.inl (Nat.le_refl _)));clear hst hO6 h6 hm6;go_wp2_with fail;refine bodyPost_ret (v:=.agg #[.int .i64 (r:Int),.int .i64 t,.slice Ae L ce]) (by simp [results,Tryz.results194,go_sem,q0,q1,q2,qf,k0,k1,k2]) rfl ⟨(r:Int),t,Ae,ce,es,?_,(HG.out.size ht),O9.out,C9.out,M9.out⟩;rw [HL.out]
 ·have HD:=Lib.hid (HG.out)
  have al:=Mid.alloc w4 (.cells #[.int .i64 0,.int .i64 1,.int .i64 4] 3);have hbx:=Box.new w4 #[.int .i64 0,.int .i64 1,.int .i64 4] 3;go_wp2_with fail;replace G0:=G0.mid al oZr;replace B2:=B2.mid al oZr;have hO5:=hO4.mid al oZl;have h5:=h4.mid al (Or.inr rfl);have hm5:=hm4.trans al.zero;have hgl4:=G0.1;have hpl4:=h4.lt;have hri:RI (w4.alloc (.cells #[.int .i64 0,.int .i64 1,.int .i64 4] 3)) w4.heap.size (w4.heap.size+1) (some ⟨w4.heap.size,0,none⟩) [0,1,4]:=⟨hbx.1,fun _=>⟨w4.heap.size,0,rfl,Nat.le_refl _,Nat.lt_succ_self _,fun j u hu=>by rw [Nat.zero_add];exact hbx.2.1 j u (by simpa [ints] using hu)⟩⟩
  generalize (w4.alloc (.cells #[.int .i64 0,.int .i64 1,.int .i64 4] 3))=w5 at G0 B2 hO5 h5 hm5 hri hgl4 ⊢;clear hO4 h4 hm4 al hbx;with_reducible refine (l1PickIntN (some ⟨w4.heap.size,0,none⟩) [0,1,4] 3 3 rfl (by decide) (by decide) p A bs c _ _ _ hri (Or.inl hpl4) hb hl h5).mono ?_
  rintro e w6 ⟨t,rfl,htm,h6,m6⟩;have ht:-10≤t∧t≤10:=by simp at htm;omega
  replace G0:=G0.mid m6 (Or.inr (by omega));replace B2:=B2.mid m6 (Or.inr (by omega));have hO6:=hO5.mid m6 (Or.inl (by omega));have hm6:=hm5.trans m6;clear hO5 h5 hm5 m6 hri htm;have g0:=G0.cell 0 rfl;have g1:=G0.cell 1 rfl;have g2:=G0.cell 2 rfl;have gf:=G0.2.2;have gl:=G0.1;have hst:=Mid.setCell w6 (lo:=gb) (hi:=gb+1) (p:=⟨gb,0,none⟩) (.int .i64 t) (Nat.le_refl _) (Nat.lt_succ_self _);replace G0:=G0.set 0 (.int .i64 t) (by simp) rfl;simp only [List.set_cons_succ,List.set_cons_zero] at G0;replace B2:=B2.mid hst (Or.inl (by omega));replace hO6:=hO6.mid hst (Or.inr (Nat.le_refl _));replace h6:=h6.mid hst (Or.inl (by omega));replace hm6:=hm6.transNew hst (Or.inl (by omega));have ql:=B2.1;have gl2:=G0.1;have k0:=G0.cell 0 rfl;have k1:=G0.cell 1 rfl;have k2:=G0.cell 2 rfl;have q0:=B2.cell 0 rfl;have q1:=B2.cell 1 rfl;have q2:=B2.cell 2 rfl;have qf:=B2.2.2;obtain ⟨wT,hwT⟩:∃ x,w6.setCell ⟨gb,0,none⟩ (.int .i64 t)=x:=⟨_,rfl⟩
  rw [hwT] at G0 B2 hO6 h6 hm6 ql gl2 k0 k1 k2 q0 q1 q2 qf;clear hst;have hst:=((Mid.setCell wT (lo:=w.heap.size) (hi:=w.heap.size+1) (p:=⟨w.heap.size,0,none⟩) (.int .i64 t) (Nat.le_refl _) (Nat.lt_succ_self _)).trans (Mid.setCell _ (lo:=w.heap.size) (hi:=w.heap.size+1) (p:=⟨w.heap.size,1,none⟩) (.int .i64 (n:Int)) (Nat.le_refl _) (Nat.lt_succ_self _))).trans (Mid.setCell _ (lo:=w.heap.size) (hi:=w.heap.size+1) (p:=⟨w.heap.size,2,none⟩) (.slice Ae L ce) (Nat.le_refl _) (Nat.lt_succ_self _));have O9:=Lib.hid ((hO6.mid hst (Or.inl (by omega))).wide (lo':=w.heap.size) (hi':=_) (by omega) (by have:=hst.size;have:=hO6.size;exact Nat.le_trans hO6.size hst.size) (Nat.le_refl _));have C9:=Lib.hid (h6.mid hst (Or.inl hpw));have M9:=Lib.hid (hm6.transNew hst (Or.inl (Nat.le_refl _)));clear hst hO6 h6 hm6;go_wp2_with fail;refine bodyPost_ret (v:=.agg #[.int .i64 t,.int .i64 (n:Int),.slice Ae L ce]) (by simp [results,Tryz.results194,go_sem,q0,q1,q2,qf,k0,k1,k2]) rfl ⟨t,(n:Int),Ae,ce,es,?_,(HG.out.rank ht),O9.out,C9.out,M9.out⟩;rw [HL.out]
 ·have hmd:=Mid.drew1 w4
  replace G0:=G0.mid hmd oZr;replace B2:=B2.mid hmd oZr;replace hO4:=hO4.mid hmd oZl;replace h4:=h4.mid hmd (Or.inr rfl);replace hm4:=hm4.trans hmd.zero;clear hmd;have g2:=G0.cell 2 rfl;go_wp2_with fail;refine wp_region_Z (S:=(fun w'=>w'.cell? ⟨gb,2,none⟩=some (.slice Ae L ce))) [8] (by kernel_rfl) g2 ?_;generalize World.drew w4=wz at G0 B2 hO4 h4 hm4 g2 ⊢;refine tkZ [8] 0 rfl g2 ?_;try simp only [Act.put,zs1,zs2,zs3,zs4,zs5,zs6]
  refine tkZ [8] 1 rfl g2 ?_;try simp only [Act.put,zs1,zs2,zs3,zs4,zs5,zs6]
  refine tkZ [8] 2 rfl g2 ?_;try simp only [Act.put,zs1,zs2,zs3,zs4,zs5,zs6]
  refine rdZ 3 rfl (fun K hK=>?_)
  (go_simp;(with_reducible refine (l1BelowI 4 (by decide) (by decide) p A bs c _ hb hl h4).mono ?_);rintro en w5 ⟨x,rfl,hx,h5,m5⟩;have G5:=G0.mid m5 (Or.inr (by omega));go_wp2_with fail)
  refine hK.out _ _ (Or.inr (G5.cell 2 rfl)) (fun _=>?_);clear hK K;try simp only [Act.put,zs1,zs2,zs3,zs4,zs5,zs6]
  have B5:=B2.mid m5 (Or.inr (by omega));have O5:=hO4.mid m5 (Or.inl (by omega));have hm5:=hm4.trans m5;clear g2 G0 B2 hO4 h4 hm4 m5;have k2:=G5.cell 2 rfl;refine tkZ [8] 4 rfl k2 ?_;try simp only [Act.put,zs1,zs2,zs3,zs4,zs5,zs6]
  have al:=Mid.alloc w5 (.cells #[.int .i64 (x:Int),.int .i64 1,.int .i64 0] 68);have G6:=G5.mid al oZr;have hrs:Rs (w5.alloc (.cells #[.int .i64 (x:Int),.int .i64 1,.int .i64 0] 68)) (w5.heap.size+1) (some ⟨w5.heap.size,0,none⟩) [.int .i64 (x:Int),.int .i64 1,.int .i64 0]:=fun _=>⟨w5.heap.size,0,rfl,Nat.lt_succ_self _,fun j u hu=>(World.cell?_alloc_at _ _ _ _ rfl).trans (by simpa using hu)⟩
  refine rdZ 5 rfl (fun K hK=>?_);go_simp;refine hK.out _ _ (Or.inr (G6.cell 2 rfl)) (fun _=>?_);clear hK K;try simp only [Act.put,zs1,zs2,zs3,zs4,zs5,zs6]
  have B6:=B5.mid al oZr;have O6:=O5.mid al oZl;have h6:=h5.mid al (Or.inr rfl);have hm6:=hm5.trans al.zero;have hg5:=G5.1;generalize w5.alloc (.cells #[.int .i64 (x:Int),.int .i64 1,.int .i64 0] 68)=w6 at G6 hrs B6 O6 h6 hm6 ⊢;clear al B5 O5 h5 hm5 k2 G5;have hown:=O6.2.1;rw [HL.out] at hown;have hone:∀ u∈[Value.int .i64 (x:Int),.int .i64 1,.int .i64 0],u.oneCell'=true:=by
   intro u hu;simp at hu;rcases hu with rfl | rfl | rfl <;> rfl
  have HO:=Lib.hid hone;have hmxl:L+1≤maxLen:=by unfold maxLen;omega
  have hbyt:(L+1) * 24≤140737488355328:=by omega
  have hg6:gb < w6.heap.size:=G6.1;have hbas:w.heap.size+1≤w6.heap.size:=by have:=G6.1;omega
  have hne:Value.ownBlock (.slice Ae L ce)≠some gb:=fun h=>by have:=O6.2.2 gb (by rw [HL.out];exact h);omega
  have hne2:Value.ownBlock (.slice Ae L ce)≠some w.heap.size:=fun h=>by have:=hown.lt _ h;omega
  have HN:=Lib.hid hne;clear hone hne;refine rdZ 6 rfl (fun K hK=>?_)
  (refine step_cat (by rfl) (.tmp 23) (.tmp 27) 24 (by rfl) (w.heap.size+1) 68 (.agg #[.int .i64 0,.int .i64 0,.int .i64 0]) 3 24 undSE infoE rfl (by decide) (.slice Ae L ce) L _ (by rfl) hown (some ⟨w5.heap.size,0,none⟩) 1 1 _ [.int .i64 (x:Int),.int .i64 1,.int .i64 0] (by rfl) hrs rfl HO.out hmxl hbyt hbas ?_;intro v9 w9 ho9 hgr9 hat9;obtain ⟨A9,c9,rfl, -, -⟩:=owns_shape ho9)
  refine hK.out _ _ (Or.inr ((G6.grown hgr9 HN.out).cell 2 rfl)) (fun _=>?_);clear hK K;try simp only [Act.put,zs1,zs2,zs3,zs4,zs5,zs6]
  have G9:=G6.grown hgr9 HN.out;have B9:=B6.grown hgr9 hne2;have m9:=Mid.of_grownRow hown hgr9;have h9:=h6.mid m9 (Or.inl (by omega));have hm9:=hm6.transNew m9 (Or.inl (by omega));clear hrs B6 O6 h6 hm6 G6 hown hbas hne2;have gf:=G9.2.2;have gl:=G9.1;have g0:=G9.cell 0 rfl;have g1:=G9.cell 1 rfl;have g2:=G9.cell 2 rfl;refine tkZ [8] 7 rfl g2 ?_;try simp only [Act.put,zs1,zs2,zs3,zs4,zs5,zs6]
  have hst0:=Mid.setCell w9 (lo:=gb) (hi:=gb+1) (p:=⟨gb,2,none⟩) (.slice A9 (L+1) c9) (Nat.le_refl _) (Nat.lt_succ_self _);have G10:=G9.set 2 (.slice A9 (L+1) c9) (by simp) rfl;simp only [List.set_cons_succ,List.set_cons_zero] at G10;have B10:=B9.mid hst0 (Or.inl (by omega));have h10:=h9.mid hst0 (Or.inl (by omega));have hm10:=hm9.transNew hst0 (Or.inl (by omega));have ho10:(w9.setCell ⟨gb,2,none⟩ (.slice A9 (L+1) c9)).ownsRow (w.heap.size+1) 68 3 (.slice A9 (L+1) c9) (L+1) (ints (edI (es++[⟨(x:Int),1,0⟩]))):=by
   rw [edI_append,ints_append,edI_one];refine ownsRow_setCell_other ho9 ?_ _;rcases hat9 with h | h
   ·rw [h]
    exact HN.out
   ·rw [h]
    intro e;have:=Option.some.inj e;have hh:w6.heap.size=gb:=this;omega
  refine rdZ 8 rfl (fun K hK=>?_);go_simp;refine hK.out _ _ (Or.inl (by simp)) (fun _=>?_);clear hK K;try simp only [Act.put,zs1,zs2,zs3,zs4,zs5,zs6]
  refine wpAnyZ_done (by kernel_rfl) ?_ _;have hl9:(es++[(⟨(x:Int),1,0⟩:Ed)]).length=L+1:=by rw [List.length_append,HL.out];rfl
  have HL9:=Lib.hid hl9;obtain ⟨A11,c11,hv11,hn11,hO11⟩:=OG.mk' ho10;rw [hl9] at hv11;injection hv11 with e1 e2 e3
  subst e1 e3;have HD9:Hid (DrG (r:Int) (n:Int) (es++[(⟨(x:Int),1,0⟩:Ed)])):=Lib.hid (DrG.add HG.out (by rw [HL.out];omega) (And.intro (show -100≤(x:Int)∧(x:Int)≤100 by omega) (And.intro (by simp) (by simp))));generalize w9.setCell ⟨gb,2,none⟩ (.slice A9 (L+1) c9)=wT at G10 B10 h10 hm10 hO11 ⊢;clear hst0 G9 B9 h9 hm9 gf gl g0 g1 g2 m9 ho9 ho10 hgr9 hat9 hl9 hn11;have g0:=G10.cell 0 rfl;have g1:=G10.cell 1 rfl;have g2:=G10.cell 2 rfl;have q0:=B10.cell 0 rfl;have q1:=B10.cell 1 rfl;have q2:=B10.cell 2 rfl;have qf:=B10.2.2;have ql:=B10.1;have gl:=G10.1;have hst:=((Mid.setCell wT (lo:=w.heap.size) (hi:=w.heap.size+1) (p:=⟨w.heap.size,0,none⟩) (.int .i64 (r:Int)) (Nat.le_refl _) (Nat.lt_succ_self _)).trans (Mid.setCell _ (lo:=w.heap.size) (hi:=w.heap.size+1) (p:=⟨w.heap.size,1,none⟩) (.int .i64 (n:Int)) (Nat.le_refl _) (Nat.lt_succ_self _))).trans (Mid.setCell _ (lo:=w.heap.size) (hi:=w.heap.size+1) (p:=⟨w.heap.size,2,none⟩) (.slice A9 (L+1) c9) (Nat.le_refl _) (Nat.lt_succ_self _));have O9:=Lib.hid ((hO11.mid hst (Or.inl (by omega))).wide (lo':=w.heap.size) (by omega) (by have:=hst.size;have:=hO11.size;omega) (Nat.le_refl _));have C9:=Lib.hid (h10.mid hst (Or.inl hpw));have M9:=Lib.hid (hm10.transNew hst (Or.inl (Nat.le_refl _)));clear hst hO11 h10 hm10;go_wp2_with fail;refine bodyPost_ret (v:=.agg #[.int .i64 (r:Int),.int .i64 (n:Int),.slice A9 (L+1) c9]) (by simp [results,Tryz.results194,go_sem,q0,q1,q2,qf,g0,g1,g2]) rfl ⟨(r:Int),(n:Int),A9,c9,(es++[(⟨(x:Int),1,0⟩:Ed)]),?_,HD9.out,O9.out,C9.out,M9.out⟩;rw [HL9.out]
 ·have e0:¬ ((k:Int)=0):=by omega
  have e1:¬ ((k:Int)=1):=by omega
  have e2:¬ ((k:Int)=2):=by omega
  generalize hwT:w4=wT at G0 B2 hO4 h4 hm4 ⊢;have g0:=G0.cell 0 rfl;have g1:=G0.cell 1 rfl;have g2:=G0.cell 2 rfl;have q0:=B2.cell 0 rfl;have q1:=B2.cell 1 rfl;have q2:=B2.cell 2 rfl;have qf:=B2.2.2;have ql:=B2.1;have gl:=G0.1;have hst:=((Mid.setCell wT (lo:=w.heap.size) (hi:=w.heap.size+1) (p:=⟨w.heap.size,0,none⟩) (.int .i64 (r:Int)) (Nat.le_refl _) (Nat.lt_succ_self _)).trans (Mid.setCell _ (lo:=w.heap.size) (hi:=w.heap.size+1) (p:=⟨w.heap.size,1,none⟩) (.int .i64 (n:Int)) (Nat.le_refl _) (Nat.lt_succ_self _))).trans (Mid.setCell _ (lo:=w.heap.size) (hi:=w.heap.size+1) (p:=⟨w.heap.size,2,none⟩) (.slice Ae L ce) (Nat.le_refl _) (Nat.lt_succ_self _));have O9:=Lib.hid ((hO4.mid hst (Or.inl (by omega))).wide (lo':=w.heap.size) (by omega) (by have:=hst.size;have:=hO4.size;omega) (Nat.le_refl _));have C9:=Lib.hid (h4.mid hst (Or.inl hpw));have M9:=Lib.hid (hm4.transNew hst (Or.inl (Nat.le_refl _)));clear hst hO4 h4 hm4;go_wp2_with fail;refine bodyPost_ret (v:=.agg #[.int .i64 (r:Int),.int .i64 (n:Int),.slice Ae L ce]) (by simp [results,Tryz.results194,go_sem,q0,q1,q2,qf,g0,g1,g2]) rfl ⟨(r:Int),(n:Int),Ae,ce,es,?_,HG.out,O9.out,C9.out,M9.out⟩;rw [HL.out]
end
section
open Go.RowKit
end
section
open Go.RowKit
def seenOf (n:Nat) (l:List Int):List Value:=(List.range n).map (fun (j:Nat)=>Value.bool (decide ((j:Int)∈l)))
theorem seenOf_nil (n:Nat):seenOf n []=List.replicate n (.bool false):=by
 unfold seenOf;apply List.ext_getElem <;> simp
theorem seenOf_get {n j:Nat} {l:List Int} (h:j < n):(seenOf n l)[j]?=some (.bool (decide ((j:Int)∈l))):=by simp [seenOf,h]
theorem seenOf_set {n m:Nat} {l:List Int} (_h:m < n):(seenOf n l).set m (.bool true)=seenOf n (l++[(m:Int)]):=by
 unfold seenOf;apply List.ext_getElem
 ·simp
 ·intro i h1 h2
  rw [List.getElem_set];by_cases e:m=i
  ·subst e
   simp
  ·simp [e]
   intro e';omega
end
section
open Go.RowKit
end
section
open Go.RowKit
end
def placeL (n:Nat) (ord:List Int):List Int:=(List.range n).map fun (v:Nat)=>idxI ord (v:Int)
theorem placeL_len (n:Nat) (ord:List Int):(placeL n ord).length=n:=by simp [placeL]
theorem placeL_nil (n:Nat):placeL n []=List.replicate n (-1):=by
 unfold placeL;rw [List.eq_replicate_iff];refine ⟨by simp,fun b hb=>?_⟩;obtain ⟨v, -,rfl⟩:=List.mem_map.1 hb;exact idxI_neg (by simp)
theorem placeL_get {n j:Nat} (ord:List Int) (h:j < n):(placeL n ord)[j]?=some (idxI ord (j:Int)):=by simp [placeL,h]
theorem idxI_snoc {xs:List Int} {x:Int} (h:x ∉ xs) (v:Int):idxI (xs++[x]) v=if v=x then (xs.length:Int) else idxI xs v:=by
 unfold idxI;by_cases hv:v=x
 ·subst hv
  rw [if_pos (by simp),if_pos rfl,List.idxOf_append,if_neg h];simp
 ·rw [if_neg hv]
  by_cases hm:v∈xs
  ·rw [if_pos (by simp [hm]),if_pos hm,List.idxOf_append,if_pos hm]
  ·rw [if_neg (by simp [hm,hv]),if_neg hm]
theorem placeL_set {n m k:Nat} {ord:List Int} (hn:ord.Nodup) (hk:ord[k]?=some (m:Int)) (hm:m < n):(placeL n (ord.take k)).set m (k:Int)=placeL n (ord.take (k+1)):=by
 obtain ⟨hkl,hk'⟩:=List.getElem?_eq_some_iff.1 hk;have ht:ord.take (k+1)=ord.take k++[(m:Int)]:=by rw [List.take_succ_eq_append_getElem hkl,hk']
 have hnm:(m:Int) ∉ ord.take k:=by
  rw [← List.take_append_drop (k+1) ord,ht] at hn;exact fun h=>(List.nodup_append.1 (List.nodup_append.1 hn).1).2.2 _ h _ (by simp) rfl
 have hl:(ord.take k).length=k:=by rw [List.length_take];omega
 apply List.ext_getElem?;intro j;rw [ht];by_cases hj:j < n
 ·rw [placeL_get _ hj,idxI_snoc hnm]
  by_cases hjm:m=j
  ·subst hjm
   rw [List.getElem?_set_self (by rw [placeL_len];exact hj),if_pos rfl,hl]
  ·rw [List.getElem?_set_ne hjm,placeL_get _ hj,if_neg (by omega)]
 ·rw [List.getElem?_eq_none (by rw [List.length_set,placeL_len];omega),List.getElem?_eq_none (by rw [placeL_len];omega)]
def placeM (n:Nat) (ord:List Int):List Int:=(placeL n ord).map (·+1)
theorem placeM_nil (n:Nat):placeM n []=List.replicate n 0:=by simp [placeM,placeL_nil]
theorem placeM_get {n j:Nat} (ord:List Int) (h:j < n):(placeM n ord)[j]?=some (idxI ord (j:Int)+1):=by simp [placeM,placeL_get ord h]
theorem placeM_set {n m k:Nat} {ord:List Int} (hn:ord.Nodup) (hk:ord[k]?=some (m:Int)) (hm:m < n):(placeM n (ord.take k)).set m ((k:Int)+1)=placeM n (ord.take (k+1)):=by
 unfold placeM;rw [← placeL_set hn hk hm,List.map_set]
theorem not_in_take {k:Nat} {x:Int} {ord:List Int} (hn:ord.Nodup) (hk:ord[k]?=some x):x ∉ ord.take k:=by
 obtain ⟨hkl,hk'⟩:=List.getElem?_eq_some_iff.1 hk;have ht:ord.take (k+1)=ord.take k++[x]:=by rw [List.take_succ_eq_append_getElem hkl,hk']
 rw [← List.take_append_drop (k+1) ord,ht] at hn;exact fun h=>(List.nodup_append.1 (List.nodup_append.1 hn).1).2.2 _ h _ (by simp) rfl
section
open Go.RowKit
theorem lets_le {n:Nat} {x:Int} (h:x∈lets n):-(n:Int)≤x∧x≤n:=(mem_lets.1 h).2
theorem impl_letters (n:Nat) (w:World) (hn:n≤1000) :
  Calls Tryz.prog 134 #[.int .i64 n] w fun e w'=>∃ A c,e=.returned (.slice A (lets n).length c)∧RV w' w.heap.size w'.heap.size A (ints (lets n))∧Mid 0 0 w w':=by
 have hm0:Mid 0 0 w (w.alloc (.cells #[] 3)):=Mid.alloc _ _;have O0:=owns_empty w 3 1;go_enter Tryz.func134,Tryz.ntmps134
 go_wp2_with fail;go_loopw [3,4] (fun out i wr=>∃ (k:Nat) (A1:Option Addr) (c1 n1:Nat),k≤n∧i=.int .i64 ((k:Int)+1)∧out=.slice A1 n1 c1∧Hid ((lets k).length=n1) ∧
   wr.ownsRow w.heap.size 3 1 (.slice A1 n1 c1) n1 (ints (lets k))∧Mid 0 0 w wr∧w.heap.size≤wr.heap.size) (fun _ i _=>(n+1 - intOf i).toNat)
 case atStart=>exact ⟨0,_,0,0,Nat.zero_le _,rfl,rfl,Lib.hid rfl,O0,hm0,hm0.size⟩
 case round =>
  obtain ⟨k,A1,c1,n1,hk,rfl,rfl,HN,hown,hm,hsz⟩:=hrel;have hn1:n1≤2000:=by have h1:=lets_len k;have h2:=HN.out;omega
  by_cases hlt:k < n
  ·have hkn:(k:Int)+1≤n:=by omega
   have hk0:(0:Int)≤(k:Int):=by omega
   have b4:wrap64 (-((k:Int)+1)) = -((k:Int)+1):=by unfold wrap64;omega
   have HW:=Lib.hid hown;clear hown;go_wp2_with (at_builtin;refine wpList_push rfl _ _ 34 rfl w.heap.size 3 (.int .i64 0) 1 8 undSI infoI rfl (by decide) _ _ _ rfl HW.out 2 [.int .i64 ((k:Int)+1),.int .i64 (-((k:Int)+1))] rfl rfl ?c1 ?c2 ?c3 hsz ?next)
   case c1=>exact one_of_ints [(k:Int)+1, -((k:Int)+1)]
   case c2=>unfold maxLen;omega
   case c3=>omega
   case next =>
    intro v' w3 hown1 hgr _;obtain ⟨A3,c3,rfl, -, -⟩:=owns_shape hown1;have hm3:=Mid.of_grownRow HW.out hgr;go_wp2_with fail;go_roundw
    case rel =>
     refine ⟨k+1,A3,c3,n1+2,by omega,by go_num,rfl,Lib.hid (by have:=HN.out;simp [lets];omega),?_,hm.transNew hm3 (Or.inl (Nat.le_refl _)),Nat.le_trans hsz hm3.size⟩;rw [lets,ints_append];exact hown1
    case measure=>simp [intOf];omega
  ·obtain rfl:k=n:=by omega
   have hx:=HN.out;have hsz2:=hm.size;go_wp2_with fail;go_ret;exact ⟨_,_,(by rw [hx];rfl),owns_rv hown,hm⟩
theorem spec_l5Letters (n:Nat) (w:World) (hn:n≤1000) :
  Calls Tryz.prog 137 #[.int .i64 n] w fun e w'=>∃ A c,e=.returned (.slice A (lets n).length c)∧RV w' w.heap.size w'.heap.size A (ints (lets n))∧Mid 0 0 w w':=by
 have hm0:Mid 0 0 w (w.alloc (.cells #[] 3)):=Mid.alloc _ _;have O0:=owns_empty w 3 1;go_enter Tryz.func137,Tryz.ntmps137
 go_wp2_with fail;go_loopw [3,4] (fun out i wr=>∃ (k:Nat) (A1:Option Addr) (c1 n1:Nat),k≤n∧i=.int .i64 ((k:Int)+1)∧out=.slice A1 n1 c1∧Hid ((lets k).length=n1) ∧
   wr.ownsRow w.heap.size 3 1 (.slice A1 n1 c1) n1 (ints (lets k))∧Mid 0 0 w wr∧w.heap.size≤wr.heap.size) (fun _ i _=>(n+1 - intOf i).toNat)
 case atStart=>exact ⟨0,_,0,0,Nat.zero_le _,rfl,rfl,Lib.hid rfl,O0,hm0,hm0.size⟩
 case round =>
  obtain ⟨k,A1,c1,n1,hk,rfl,rfl,HN,hown,hm,hsz⟩:=hrel;have hn1:n1≤2000:=by have h1:=lets_len k;have h2:=HN.out;omega
  by_cases hlt:k < n
  ·have hkn:(k:Int)+1≤n:=by omega
   have hk0:(0:Int)≤(k:Int):=by omega
   have b4:wrap64 (-((k:Int)+1)) = -((k:Int)+1):=by unfold wrap64;omega
   have HW:=Lib.hid hown;clear hown;go_wp2_with (first | (at_builtin;refine wpList_pushI rfl _ _ rfl w.heap.size A1 n1 c1 (lets k) rfl HW.out ((k:Int)+1) rfl (by omega) hsz ?_;intro A2 c2 w2 hown2 hm2;have hsz2:=Nat.le_trans hsz hm2.size;have HW2:=Lib.hid hown2;clear hown2) | (at_builtin;refine wpList_pushI rfl _ _ rfl w.heap.size A2 (n1+1) c2 (lets k++[(k:Int)+1]) rfl HW2.out (-((k:Int)+1)) rfl (by omega) hsz2 ?_;intro A3 c3 w3 hown3 hm3))
   go_roundw
   case rel =>
    refine ⟨k+1,A3,c3,n1+1+1,by omega,by go_num,rfl,Lib.hid (by have:=HN.out;simp [lets];omega),?_,(hm.transNew hm2 (Or.inl (Nat.le_refl _))).transNew hm3 (Or.inl (Nat.le_refl _)),Nat.le_trans hsz2 hm3.size⟩;rw [List.append_assoc] at hown3;exact hown3
   case measure=>simp [intOf];omega
  ·obtain rfl:k=n:=by omega
   have hx:=HN.out;have hsz2:=hm.size;go_wp2_with fail;go_ret;exact ⟨_,_,(by rw [hx];rfl),owns_rv hown,hm⟩
theorem copyIntsN (A:Option Addr) (xs:List Int) (c:Nat) (w:World) (lo hi:Nat) (hr:RV w lo hi A (ints xs)) (hl:xs.length≤1048576) :
  Calls Tryz.prog 211 #[.slice A xs.length c] w fun e w'=>∃ g c2,e=.returned (.slice (some ⟨g,0,none⟩) xs.length c2)∧w'.ownsRow w.heap.size 3 1 (.slice (some ⟨g,0,none⟩) xs.length c2) xs.length (ints xs)∧Mid 0 0 w w':=by
 have hoe:=owns_empty w 3 1;have hal:=Mid.alloc w (.cells #[] 3);have hra:=(hr.mid hal oZl).rs;have hla:(ints xs).length=xs.length * 1:=by rw [ints_len];omega
 have hnn:(Value.slice (some ⟨w.heap.size,0,none⟩) 0 0).ownBlock≠none:=by simp [Value.ownBlock]
 have HNN:=Lib.hid hnn;clear hnn;go_enter Tryz.func211,Tryz.ntmps211
 go_wp2_with (at_builtin;refine wpList_cat rfl _ _ 34 rfl w.heap.size 3 (.int .i64 0) 1 8 undSI infoI rfl (by decide) _ _ _ rfl hoe A xs.length c _ (ints xs) rfl hra hla (one_of_ints _) ?c4 ?c5 ?c6 ?next)
 case c4=>unfold maxLen;omega
 case c5=>omega
 case c6=>simp
 case next =>
  intro v2 w2 ho2 hgr2 hat2;obtain ⟨g,c2,rfl,hg1, -, -⟩:=owns_blk ho2 hat2 HNN.out;try rw [Nat.zero_add,List.nil_append] at ho2
  have hm2:=Mid.of_grownRow hoe hgr2;have hmm:=hal.transNew hm2 (Or.inl (Nat.le_refl _));go_wp2_with fail;go_ret;exact ⟨g,c2,by simp,ho2,hmm⟩
end
structure JAt (s:Int) (es:List Ed) (v:Int) (vis:List Int):Prop where
 here:v∈vis
 rng:∀ u∈vis,0≤u∧u < s
 nd:vis.Nodup
 conn:∀ u∈vis,Conn es v u
theorem JAt.le {s:Int} {es:List Ed} {v:Int} {vis:List Int} (h:JAt s es v vis):vis.length≤s.toNat:=by
 refine nodup_le s.toNat vis h.nd fun u hu=>?_;have:=h.rng u hu;omega
theorem JAt.start {s:Int} (es:List Ed) {v:Int} (h0:0≤v) (h1:v < s):JAt s es v [v]:=by
 refine ⟨by simp,?_,by simp,?_⟩
 ·intro u hu;simp at hu;subst hu;exact ⟨h0,h1⟩
 ·intro u hu;simp at hu;subst hu;exact .here
theorem JAt.push {s:Int} {es:List Ed} {v u:Int} {vis:List Int} (h:JAt s es v vis) (hr:0≤u∧u < s) (hn:u ∉ vis) (hc:Conn es v u):JAt s es v (vis++[u]):=by
 refine ⟨by simp [h.here],?_,?_,?_⟩
 ·intro x hx
  rcases List.mem_append.1 hx with hx | hx
  ·exact h.rng x hx
  ·simp at hx;subst hx;exact hr
 ·rw [List.nodup_append]
  refine ⟨h.nd,by simp,?_⟩;intro a ha b hb;simp at hb;subst hb;intro e;subst e;exact hn ha
 ·intro x hx
  rcases List.mem_append.1 hx with hx | hx
  ·exact h.conn x hx
  ·simp at hx;subst hx;exact hc
def Shut' (es:List Ed) (k:Nat) (vis:List Int):Prop:=∀ (j:Nat) (e:Ed),j < k→es[j]?=some e→(e.a∈vis↔e.b∈vis)
theorem Shut'.zero (es:List Ed) (vis:List Int):Shut' es 0 vis:=fun j e h=>absurd h (Nat.not_lt_zero _)
theorem Shut'.succ {es:List Ed} {k:Nat} {vis:List Int} (h:Shut' es k vis) {e:Ed} (he:es[k]?=some e) (hc:e.a∈vis↔e.b∈vis):Shut' es (k+1) vis:=fun j f hj hf=>by
 by_cases h1:j < k
 ·exact h j f h1 hf
 ·obtain rfl:j=k:=by omega
  rw [he] at hf;injection hf with hf
  subst hf;exact hc
theorem JAt.done {s:Int} {es:List Ed} {v:Int} {vis:List Int} (h:JAt s es v vis) (hc:Shut' es es.length vis) (u:Int):u∈vis↔Conn es v u:=by
 refine conn_iff (P:=fun u=>u∈vis) h.here (fun e he=>?_) h.conn u;obtain ⟨j,hj,rfl⟩:=List.mem_iff_getElem.1 he;exact hc j _ hj (List.getElem?_eq_getElem hj)
theorem JAt.edge {s r:Int} {es:List Ed} {v:Int} {vis:List Int} (h:JAt s es v vis) {e:Ed} (he:e∈es) (hi:InG r s e) (hd:¬ (e.a∈vis↔e.b∈vis)) :
  ∃ u,JAt s es v (vis++[u])∧∀ x,x∈vis++[e.a]++[e.b]↔x∈vis++[u]:=by
 unfold InG at hi;by_cases ha:e.a∈vis
 ·have hb:e.b ∉ vis:=fun hb=>hd ⟨fun _=>hb,fun _=>ha⟩
  refine ⟨e.b,h.push (by omega) hb (.out he (h.conn _ ha)),fun x=>?_⟩;simp only [List.mem_append,List.mem_singleton];constructor
  ·rintro ((h | rfl) | h)
   ·exact .inl h
   ·exact .inl ha
   ·exact .inr h
  ·rintro (h | h)
   ·exact .inl (.inl h)
   ·exact .inr h
 ·have hb:e.b∈vis:=Classical.byContradiction fun hb=>hd ⟨fun h=>absurd h ha,fun h=>absurd h hb⟩
  refine ⟨e.a,h.push (by omega) ha (.inn he (h.conn _ hb)),fun x=>?_⟩;simp only [List.mem_append,List.mem_singleton];constructor
  ·rintro ((h | rfl) | rfl)
   ·exact .inl h
   ·exact .inr rfl
   ·exact .inl hb
  ·rintro (h | h)
   ·exact .inl (.inl h)
   ·exact .inl (.inr h)
theorem filter_split' (p:Nat→Bool):∀ l:List Nat,(l.filter p).length+(l.filter fun v=>!p v).length=l.length
 | []=>rfl
 | a :: t=>by
  have:=filter_split' p t;cases h:p a <;> simp [h] <;> omega
theorem unseen_len {n:Nat} {es:List Ed} {v:Int} {vis:List Int} (h:JAt n es v vis):((List.range n).filter fun (j:Nat)=>!decide ((j:Int)∈vis)).length+vis.length=n:=by
 have h1:vis.Perm (((List.range n).filter fun (j:Nat)=>decide ((j:Int)∈vis)).map fun (j:Nat)=>(j:Int)):=by
  refine (List.perm_ext_iff_of_nodup h.nd ?_).2 fun u=>?_
  ·exact List.pairwise_map.2 ((List.nodup_range.filter _).imp fun h he=>h (by omega))
  ·rw [List.mem_map]
   constructor
   ·intro hu
    have:=h.rng u hu;refine ⟨u.toNat,List.mem_filter.2 ⟨List.mem_range.2 (by omega),?_⟩,by omega⟩;rw [show ((u.toNat:Nat):Int)=u by omega]
    simpa using hu
   ·rintro ⟨k,hk,rfl⟩
    simpa using (List.mem_filter.1 hk).2
 have h2:=filter_split' (fun j:Nat=>decide ((j:Int)∈vis)) (List.range n);have h3:=h1.length_eq;rw [List.length_map] at h3;rw [List.length_range] at h2;omega
end Go.Proofs.YthampgpcajmopaaGreat
