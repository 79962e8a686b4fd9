/- Contracts and lemmas of this seat, many texts in one: see the words ahead of each. No condition beyond those typed in each lemma. -/
import Derived.Test.YthampgpcajmopaaGreatJn8
import Derived.Test.YthampgpcajmopaaGreatJn1
import Derived.Test.YthampgpcajmopaaGreatJn3
import Derived.Test.YthampgpcajmopaaGreatJn7
import Derived.Test.YthampgpcajmopaaGreatJn2
import Derived.Test.YthampgpcajmopaaGreatJn4
import Derived.Test.YthampgpcajmopaaGreatJn5
import Derived.Test.YthampgpcajmopaaGreatJn6
import Derived.IntWalk
import Derived.Outline

namespace Go.Proofs.YthampgpcajmopaaGreat
set_option linter.unusedVariables false
set_option linter.unusedSimpArgs false
set_option maxHeartbeats 40000000
set_option maxRecDepth 100000
section
open Go.RowKit
section
variable {W:World} {ops:Array Oper} {rest:List Oper} {o:Oper} {ac:Act} {Q:Exit→Act→World→Prop}
end
theorem RetI.get {eI:TypeId} {xs:List Int} {w w':World} {e:Ending} (h:RetI eI xs w e w'):∃ A c,e=.returned (.slice A xs.length c)∧w'.ownsRow w.heap.size eI 1 (.slice A xs.length c) xs.length (ints xs)∧Mid 0 0 w w':=by
 obtain ⟨A,c,h1,h2,h3⟩:=h;exact ⟨A,c,h1,h2,Mid.of_below h3⟩
end
section
open Go.RowKit
abbrev obS (A:Option Addr) (n c:Nat):Option Nat:=Value.ownBlock (.slice A n c)
structure Own1 (w:World) (lo:Nat) (A:Option Addr) (n c:Nat) (rows:List Row):Prop where
 out:w.ownsRow lo 34 1 (.slice A n c) n (rowsV rows)
 rows:OwnRows w lo w.heap.size 3 rows
section
variable {w w':World} {lo:Nat} {A A2:Option Addr} {n c n2 c2:Nat} {rows rows2:List Row}
theorem Own1.mid (h:Own1 w lo A n c rows) (m:Mid 0 0 w w'):Own1 w' lo A n c rows :=
 ⟨owns_mid h.out m oZl,(h.rows.mid m oZl).wide (Nat.le_refl _) m.size (Nat.le_refl _)⟩
theorem Own1.len (h:Own1 w lo A n c rows):rows.length=n:=by
 have:=h.out.1;rw [rowsV_len] at this;omega
theorem Own1.lt (h:Own1 w lo A n c rows) {g:Nat} (hg:obS A n c=some g):lo≤g∧g < w.heap.size:=h.out.lt g hg
theorem Own1.oss (h:Own1 w lo A n c rows) {xss:List (List Int)} (hd:rowsD rows=xss):OSS w lo w.heap.size 34 3 A c xss:=OSS.mk' h.out h.rows hd
theorem Own1.base {lo':Nat} (h:Own1 w lo A n c rows) (hl:lo'≤lo):Own1 w lo' A n c rows:=⟨owns_base h.out hl,h.rows.wide hl (Nat.le_refl _) (Nat.le_refl _)⟩
theorem Own1.other (h:Own1 w lo A n c rows) (h2:Own1 w lo A2 n2 c2 rows2) (hd:∀ g,obS A n c=some g→obS A2 n2 c2≠some g) (hg:w.grownBy w' (obS A2 n2 c2)):Own1 w' lo A n c rows:=by
 refine ⟨h.out.kept hg ?_,(h.rows.grown h2.out (by decide) hg).wide (Nat.le_refl _) hg.size (Nat.le_refl _)⟩;cases hv:Value.ownBlock (.slice A n c) with
 | none=>exact .inl rfl
 | some j=>exact .inr fun e=>hd j hv e.symm
theorem Own1.row (h:Own1 w lo A n c rows) {k:Nat} {r:Row} (hk:rows[k]?=some r):∃ b,A=some ⟨b,0,none⟩∧lo≤b∧b < w.heap.size∧w.cell? ⟨b,k,none⟩=some r.v∧RV w lo w.heap.size r.A (ints r.xs)∧r.xs.length≤r.c:=by
 have hl:=(List.getElem?_eq_some_iff.1 hk).1;obtain ⟨b,hA,h1,h2⟩:=owns_addr h.out (show 0 < n by have:=h.len;omega);subst hA;have hm:=h.rows.1 r (List.mem_of_getElem? hk);exact ⟨b,rfl,h1,h2,(h.out.cellAt k (by have:=h.len;omega)).trans (by simp [rowsV,hk]),OV.rv hm,owns_cap hm.2.1⟩
theorem Own1.push {W W':World} {A':Option Addr} {c':Nat} {r:Row} (h:Own1 w lo A n c rows) (m:Mid 0 0 w W) (hl:lo≤w.heap.size) (hrow:W.ownsRow w.heap.size 3 1 r.v r.xs.length (ints r.xs))
  (h1:W'.ownsRow lo 34 1 (.slice A' (n+1) c') (n+1) (rowsV rows++[r.v])) (h2:W.grownBy W' (obS A n c)):Own1 W' lo A' (n+1) c' (rows++[r]):=by
 refine ⟨by rw [rowsV_append];exact h1,?_⟩;have k1:=(h.rows.mid m oZl).push (r:=r) (base:=w.heap.size) (hi':=W.heap.size) hrow (Nat.le_refl _) hl m.size (Nat.le_refl _) (fun g hg=>(hrow.lt g hg).2);exact (k1.grown (h.mid m).out (by decide) h2).wide (Nat.le_refl _) h2.size (Nat.le_refl _)
end
theorem Own1.empty (w:World):Own1 (w.alloc (.cells #[] 34)) w.heap.size (some ⟨w.heap.size,0,none⟩) 0 0 []:=⟨owns_empty w 34 1,OwnRows.nil⟩
def Apart (A:Option Addr) (n c:Nat) (A2:Option Addr) (n2 c2:Nat):Prop:=∀ g,obS A n c=some g→obS A2 n2 c2≠some g
theorem Apart.symm {A A2:Option Addr} {n c n2 c2:Nat} (h:Apart A n c A2 n2 c2):Apart A2 n2 c2 A n c:=fun g hg e=>h g e hg
theorem Apart.push {W:World} {lo:Nat} {A A' A2:Option Addr} {n c n' c' n2 c2:Nat} {rows2:List Row} (h:Apart A n c A2 n2 c2) (hat:obS A' n' c'=obS A n c ∨ obS A' n' c'=some (W.heap.size+1)) (h2:Own1 W lo A2 n2 c2 rows2):Apart A' n' c' A2 n2 c2:=by
 intro g hg e;rcases hat with hat | hat
 ·exact h g (hat ▸ hg) e
 ·rw [hat] at hg
  injection hg with hg
  have:=h2.lt e;omega
theorem rs_one {w:World} {p:Nat} {v:Value} (h:w.cell? ⟨p,0,none⟩=some v):Rs w (p+1) (some ⟨p,0,none⟩) [v]:=fun _=>⟨p,0,rfl,Nat.lt_succ_self _,fun j u hu=>by
 rcases j with _ | j
 ·rw [← hu];exact h
 ·simp at hu⟩
theorem cell_grown {w w':World} {row:Option Nat} {b i:Nat} {v:Value} (hg:w.grownBy w' row) (hb:b < w.heap.size) (hn:some b≠row) (h:w.cell? ⟨b,i,none⟩=some v):w'.cell? ⟨b,i,none⟩=some v :=
 (World.cell?_of_block (hg.block b hb hn)).trans h
theorem own_ne {b g n c:Nat} (h:b≠g):some b≠Value.ownBlock (.slice (some ⟨g,0,none⟩) n c):=fun e=>by
 have e':some b=some g:=e;injection e' with e'
 exact h e'
section
variable {W:World} {ops:Array Oper} {rest:List Oper} {o:Oper} {ac:Act} {Q:Exit→Act→World→Prop}
theorem wpList_push1 {w:World} {lo:Nat} {A:Option Addr} {n c:Nat} {rows:List Row} (hgd:o.guard=none) (s x:Operand)
  (ho:o.op=.call { callee:=.builtin .append,args:=#[s,x],argTypes:=#[41,41] }) (hs:ac.eval s=.slice A n c)
  (h:Own1 w lo A n c rows) (m:Mid 0 0 w W) (r:Row) (u:Value) (hu:r.v=u) (hrow:W.ownsRow w.heap.size 3 1 r.v r.xs.length (ints r.xs)) (hx:ac.eval x=.slice (some ⟨W.heap.size,0,none⟩) 1 1) (hn:n≤1048576) (hb:lo≤w.heap.size)
  (hk:∀ A' c' w',Own1 w' lo A' (n+1) c' (rows++[r])→W.grownBy w' (obS A n c)→(obS A' (n+1) c'=obS A n c ∨ obS A' (n+1) c'=some (W.heap.size+1))→wpList Tryz.prog ops Q rest (ac.put o.dst (.slice A' (n+1) c')) w') :
  wpList Tryz.prog ops Q (o :: rest) ac (W.alloc (.cells #[u] 34)):=by
 subst hu;have hms:=m.size;refine wpList_push (news:=[r.v]) hgd s x 41 ho lo 34 (.slice none 0 0) 1 24 undSSI infoSI rfl (by decide) (.slice A n c) n (rowsV rows) hs (h.mid m).out 1 hx rfl ?_ (by unfold maxLen;omega) (by omega) (by omega) ?_
 ·intro u hu
  simp at hu;subst hu
  rfl
 ·intro v' w' h1 h2 h3
  obtain ⟨A',c',rfl, -, -⟩:=owns_shape h1;exact hk A' c' w' (h.push m hb hrow h1 h2) h2 h3
theorem step_push1 {K:Act→World→Prop} {E:Prop} {w:World} {lo:Nat} {A:Option Addr} {n c:Nat} {rows:List Row} (hgd:o.guard=none) (s x:Operand)
  (ho:o.op=.call { callee:=.builtin .append,args:=#[s,x],argTypes:=#[41,41] }) (hs:ac.eval s=.slice A n c)
  (h:Own1 w lo A n c rows) (m:Mid 0 0 w W) (r:Row) (u:Value) (hu:r.v=u) (hrow:W.ownsRow w.heap.size 3 1 r.v r.xs.length (ints r.xs)) (hx:ac.eval x=.slice (some ⟨W.heap.size,0,none⟩) 1 1) (hn:n≤1048576) (hb:lo≤w.heap.size)
  (hk:∀ A' c' w',Own1 w' lo A' (n+1) c' (rows++[r])→W.grownBy w' (obS A n c)→(obS A' (n+1) c'=obS A n c ∨ obS A' (n+1) c'=some (W.heap.size+1))→K (ac.put o.dst (.slice A' (n+1) c')) w') :
  if Region.wanted o (yielded ops ac.tmps)=true then Oper.wp Tryz.prog o ac (W.alloc (.cells #[u] 34)) K Q else E:=by
 subst hu;have hms:=m.size;refine step_cat (w:=W.alloc (.cells #[r.v] 34)) hgd s x 41 ho lo 34 (.slice none 0 0) 1 24 undSSI infoSI rfl (by decide) (.slice A n c) n (rowsV rows) hs ((h.mid m).out.alloc _) (some ⟨W.heap.size,0,none⟩) 1 1 (W.heap.size+1) [r.v] hx (fun _=>⟨W.heap.size,0,rfl,Nat.lt_succ_self _,fun j u hu=>(World.cell?_alloc_at _ _ _ _ rfl).trans (by simpa using hu)⟩) rfl ?_ (by unfold maxLen;omega) (by omega) (by simp;omega) ?_
 ·intro u hu
  simp at hu;subst hu
  rfl
 ·intro v' w' h1 h2 h3
  obtain ⟨A',c',rfl, -, -⟩:=owns_shape h1;have h2':=grown_trans (World.grownBy_alloc W _ _) h2;exact hk A' c' w' (h.push m hb hrow h1 h2') h2' (by simpa using h3)
end
end
section
open Go.RowKit
def notIn (T es:List Ed):List Ed:=es.filter fun e=>decide (e ∉ T)
theorem notIn_take {T es:List Ed} {k:Nat} {e:Ed} (h:es[k]?=some e):notIn T (es.take (k+1))=notIn T (es.take k)++(if e ∉ T then [e] else []):=by
 obtain ⟨hk,h'⟩:=List.getElem?_eq_some_iff.1 h;unfold notIn;rw [List.take_succ_eq_append_getElem hk,h',List.filter_append];by_cases h2:e ∉ T
 ·simp [h2]
 ·simp [h2]
theorem notIn_canon (T es:List Ed):notIn (canon T) es=notIn T es:=by
 unfold notIn
 congr 1
 funext e
 rw [decide_eq_decide,mem_canon]
theorem notIn_len (T es:List Ed):(notIn T es).length≤es.length:=List.length_filter_le _ _
theorem impl_ExtraEdges (r n:Nat) (A:Option Addr) (es:List Ed) (c:Nat) (w:World) (lo hi:Nat) (hr:RG w lo hi A es) (hcl:es.length≤c) (hf:IsFol r n es) (T:List Ed) (hTl:T.length≤1000000)
  (hT:∀ W,RG W lo hi A es→Calls Tryz.prog 212 #[graV r n A es.length c] W fun e w'=>∃ A1 c1,e=.returned (.slice A1 (canon T).length c1)∧OG w' W.heap.size w'.heap.size A1 c1 (canon T)∧Mid 0 0 W w') :
  Calls Tryz.prog 179 #[graV r n A es.length c] w fun e w'=>∃ A1 c1,e=.returned (.slice A1 (notIn T es).length c1)∧OG w' w.heap.size w'.heap.size A1 c1 (notIn T es)∧Mid 0 0 w w':=by
 have hl:=hf.gr.len;have HF:=Lib.hid hf;have HT:=Lib.hid hT;clear hf hT;rw [← notIn_canon];have hcT:(canon T).length≤1048576:=by have:=putAll_len [] T;unfold canon;simp at this;omega
 obtain ⟨TT,hTT⟩:∃ TT,canon T=TT:=⟨_,rfl⟩
 rw [hTT] at HT hcT ⊢;clear hTT hTl;have hm0:Mid 0 0 w ((w.alloc (.cells #[.int .i64 r,.int .i64 n,.slice A es.length c] 26)).alloc (.cells #[] 68)):=(Mid.alloc _ _).trans (Mid.alloc _ _);have B0:=(Box.new w #[.int .i64 r,.int .i64 n,.slice A es.length c] 26).mid (Mid.alloc _ (.cells #[] 68)) oZr;have O0:=owns_empty (w.alloc (.cells #[.int .i64 r,.int .i64 n,.slice A es.length c] 26)) 68 3;simp only [World.size_alloc] at O0;have p0:=B0.cell 0 rfl;have p1:=B0.cell 1 rfl;have p2:=B0.cell 2 rfl;go_enter Tryz.func179,Tryz.ntmps179
 go_wp2_with fail;generalize (w.alloc (.cells #[.int .i64 r,.int .i64 n,.slice A es.length c] 26)).alloc (.cells #[] 68)=w1 at hm0 B0 O0 p0 p1 p2 ⊢;have hs1:w.heap.size+1 < w1.heap.size:=(O0.lt _ rfl).2;with_reducible refine (impl_IsFolded r n A es c w1 lo hi (hr.mid hm0 oZl) (by omega) hcl true (iff_of_true rfl HF.out)).mono ?_
 rintro en w2 ⟨rfl,hm2⟩;have hs2:=hm2.size;clear p0 p1 p2;replace B0:=B0.mid hm2 oZr;replace O0:=owns_mid O0 hm2 oZl;replace hm0:=hm0.trans hm2;have p0:=B0.cell 0 rfl;have p1:=B0.cell 1 rfl;have p2:=B0.cell 2 rfl;clear hm2;go_wp2_with fail;with_reducible refine (HT.out w2 (hr.mid hm0 oZl)).mono ?_
 rintro en w3 ⟨AT,cT,rfl,hOT,hm3⟩;have hs3:=hm3.size;clear p0 p1 p2 HT;replace B0:=B0.mid hm3 oZr;replace O0:=owns_mid O0 hm3 oZl;replace hm0:=hm0.trans hm3;have p0:=B0.cell 0 rfl;have p1:=B0.cell 1 rfl;have p2:=B0.cell 2 rfl;clear hm3;have hRT:=hOT.rg;have HRT:=Lib.hid hRT;have HO0:Hid (w3.ownsRow (w.heap.size+1) 68 3 (.slice (some ⟨w.heap.size+1,0,none⟩) 0 0) 0 (ints (edI (notIn TT (es.take 0))))):=Lib.hid O0;have HN0:Hid ((notIn TT (es.take 0)).length=0):=Lib.hid rfl;have HD0:Hid (∀ g,Value.ownBlock (.slice (some (⟨w.heap.size+1,0,none⟩:Addr)) 0 0)=some g→g=w.heap.size+1 ∨ w3.heap.size≤g):=Lib.hid (fun g hg=>.inl (by injection hg with hg;exact hg.symm));have hL2:w.heap.size+2≤w2.heap.size:=by omega
 clear hOT hRT O0;generalize (some (⟨w.heap.size+1,0,none⟩:Addr))=A0 at HO0 HD0 ⊢;generalize w2.heap.size=L2 at HRT hL2 hs3;generalize hH:w3.heap.size=H3 at HRT HD0 hs3;have hsz3:H3≤w3.heap.size:=Nat.le_of_eq hH.symm;clear hH hs2;go_wp2_with fail;clear p0 p1 p2 B0;go_loopw [3,17] (fun ov kv wr=>∃ (k n2:Nat) (A2:Option Addr) (c2:Nat),kv=.int .i64 k∧ov=.slice A2 n2 c2∧k≤es.length∧Hid ((notIn TT (es.take k)).length=n2)∧Hid (wr.ownsRow (w.heap.size+1) 68 3 (.slice A2 n2 c2) n2 (ints (edI (notIn TT (es.take k)))))∧Hid (∀ g,Value.ownBlock (.slice A2 n2 c2)=some g→g=w.heap.size+1 ∨ H3≤g)∧Hid (RG wr L2 H3 AT TT)∧H3≤wr.heap.size∧Mid 0 0 w wr) (fun _ kv _=>es.length - (intOf kv).toNat)
 case atStart=>exact ⟨0,0,A0,0,rfl,rfl,Nat.zero_le _,HN0,HO0,HD0,HRT,hsz3,hm0⟩
 case round =>
  clear HN0 HO0 HD0 HRT hsz3 hm0;obtain ⟨wo,hwo⟩:∃ wo,wo=wr:=⟨_,rfl⟩
  subst hwo;obtain ⟨k,n2,A2,c2,rfl,rfl,hk,HN,HO,HD,HRT,hsz,hm0⟩:=hrel;have hn2:n2≤120:=by have h1:=notIn_len TT (es.take k);have h2:=HN.out;rw [List.length_take] at h1;omega
  by_cases hlt:k < es.length
  ·obtain ⟨b,off,e,hA, -,hbh,he,c0,c1,c2'⟩:=(hr.mid hm0 oZl).ed hlt
   subst hA;have hbs:b < wo.heap.size:=Nat.lt_of_lt_of_le hbh (Nat.le_trans hr.1 hm0.size);have hk0:(0:Int)≤(k:Int):=by omega
   have hkm:(k:Int) < (es.length:Int):=by omega
   have hal:=Mid.alloc wo (.cells #[.int .i64 e.a,.int .i64 e.l,.int .i64 e.b] 68);have B1:=Box.new wo #[.int .i64 e.a,.int .i64 e.l,.int .i64 e.b] 68;have HO1:=Lib.hid (owns_mid HO.out hal oZl);have HRT1:=Lib.hid (HRT.out.mid hal oZl);have hm1:=hm0.trans hal;have HE:=Lib.hid he;have hsal:=hal.size;have q0:=B1.cell 0 rfl;have q1:=B1.cell 1 rfl;have q2:=B1.cell 2 rfl;clear HO HRT hm0 he;go_wp2_with fail;generalize wo.alloc (.cells #[.int .i64 e.a,.int .i64 e.l,.int .i64 e.b] 68)=w4 at hal B1 HO1 HRT1 hm1 q0 q1 q2 hsal ⊢;with_reducible refine (containsE AT TT cT e w4 _ _ HRT1.out hcT).mono ?_
   rintro en w5 ⟨rfl,hm5⟩;have HO5:=Lib.hid (owns_mid HO1.out hm5 oZl);have HRT5:=Lib.hid (HRT1.out.mid hm5 oZl);have B5:=B1.mid hm5 oZr;have hs5:=hm5.size;have hm6:=hm1.trans hm5;clear HO1 HRT1 B1 hm1 hm5 q0 q1 q2 hal;have q0:=B5.cell 0 rfl;have q1:=B5.cell 1 rfl;have q2:=B5.cell 2 rfl;by_cases hin:e∈TT
   ·have din:decide (e∈TT)=true:=by simpa using hin
    have HN2:Hid ((notIn TT (es.take (k+1))).length=n2):=Lib.hid (by rw [notIn_take HE.out,if_neg (by simpa using hin),List.append_nil];exact HN.out);have HO6:Hid (w5.ownsRow (w.heap.size+1) 68 3 (.slice A2 n2 c2) n2 (ints (edI (notIn TT (es.take (k+1)))))):=Lib.hid (by rw [notIn_take HE.out,if_neg (by simpa using hin),List.append_nil];exact HO5.out);clear HN HO5;go_wp2_with fail;go_roundw
    case rel=>exact ⟨k+1,n2,A2,c2,by go_num,rfl,by omega,HN2,HO6,HD,HRT5,by omega,hm6⟩
    case measure=>simp [intOf];omega
   ·have din:decide (e∈TT)=false:=by simpa using hin
    go_wp2_with (at_builtin;refine MarkerX.to ?_)
    unfold MarkerX;refine wpList_pushE2 rfl _ _ rfl (w.heap.size+1) A2 n2 c2 _ rfl HO5.out e rfl (by omega) (by omega) ?_;intro A6 c6 w6 ho6 hgr6 hat6;have HN2:Hid ((notIn TT (es.take (k+1))).length=n2+1):=Lib.hid (by rw [notIn_take HE.out,if_pos hin,List.length_append,HN.out];rfl);have HO6:Hid (w6.ownsRow (w.heap.size+1) 68 3 (.slice A6 (n2+1) c6) (n2+1) (ints (edI (notIn TT (es.take (k+1)))))):=Lib.hid (by rw [notIn_take HE.out,if_pos hin];exact ho6);have HRT6:=Lib.hid (RV.grown HRT5.out hgr6 (fun g hg=>by rcases HD.out g hg with h | h <;> omega));have hm7:=hm6.grownNew hgr6 (fun g hg=>by have:=(HO5.out.lt g hg).1;omega);have hs6:=hgr6.size;have HD6:Hid (∀ g,Value.ownBlock (.slice A6 (n2+1) c6)=some g→g=w.heap.size+1 ∨ H3≤g):=Lib.hid (by
     intro g hg;rcases hat6 with h | h
     ·exact HD.out g (h ▸ hg)
     ·rw [h] at hg
      injection hg with hg
      omega)
    clear ho6 hgr6 hat6 HN HO5 HRT5 B5 hm6 HD q0 q1 q2;go_wp2_with fail;go_roundw
    case rel=>exact ⟨k+1,n2+1,A6,c6,by go_num,rfl,by omega,HN2,HO6,HD6,HRT6,by omega,hm7⟩
    case measure=>simp [intOf];omega
  ·obtain rfl:k=es.length:=by omega
   have hN:=HN.out;have hO:=HO.out;rw [List.take_length] at hN hO;subst hN;have hOG:OG wo w.heap.size wo.heap.size A2 c2 (notIn TT es):=⟨Nat.le_refl _,owns_base hO (Nat.le_succ _),fun g hg=>(hO.lt g hg).2⟩
   have HOG:=Lib.hid hOG;clear hO HO hOG HRT HN HD;go_wp2_with fail;go_ret;exact ⟨A2,c2,rfl,HOG.out,hm0⟩
end
section
open Go.RowKit
def WordsR (w:World) (H B:Nat) (vals:List Value) (st:BS):Prop:=∀ p∈st,∃ Aw cw,vals[p.1.toNat]?=some (.slice Aw p.2.length cw)∧(p.2≠[]→∃ b,Aw=some ⟨b,0,none⟩∧b < H∧b≠B∧b < w.heap.size∧∀ j u,(ints p.2)[j]?=some u→w.cell? ⟨b,j,none⟩=some u)
theorem WordsR.mid {w w':World} {H B:Nat} {vals:List Value} {st:BS} (h:WordsR w H B vals st) (m:Mid 0 0 w w'):WordsR w' H B vals st:=fun p hp=>by
 obtain ⟨Aw,cw,h1,h2⟩:=h p hp;refine ⟨Aw,cw,h1,fun hn=>?_⟩;obtain ⟨b,hA,h3,h4,h5,h6⟩:=h2 hn;exact ⟨b,hA,h3,h4,Nat.lt_of_lt_of_le h5 m.size,fun j u hu=>cell_keep m h5 oZr (h6 j u hu)⟩
theorem WordsR.grown {w w':World} {H B:Nat} {vals:List Value} {st:BS} {row:Option Nat} (h:WordsR w H B vals st) (hg:w.grownBy w' row) (hd:∀ g,row=some g→g=B ∨ H≤g):WordsR w' H B vals st:=fun p hp=>by
 obtain ⟨Aw,cw,h1,h2⟩:=h p hp;refine ⟨Aw,cw,h1,fun hn=>?_⟩;obtain ⟨b,hA,h3,h4,h5,h6⟩:=h2 hn;refine ⟨b,hA,h3,h4,Nat.lt_of_lt_of_le h5 hg.size,fun j u hu=>(World.cell?_of_block (hg.block b h5 (fun e=>?_))).trans (h6 j u hu)⟩;rcases hd b e.symm with h0 | h0
 ·exact h4 h0
 ·omega
theorem TreeSt.wordsR {w:World} {g n:Nat} {oB:Option Nat} {vals:List Value} {st:BS} {B:Nat} (h:TreeSt w g oB n vals st) (hB:∀ j,w.cell? ⟨B,j,none⟩=none):WordsR w w.heap.size B vals st:=fun p hp=>by
 obtain ⟨b,c,h1,h2,h3,h4,h5⟩:=h.on p hp;refine ⟨_,c,h1,fun hn=>⟨b,rfl,h5,?_,h5,h2⟩⟩;intro hb;subst hb;have hl:0 < p.2.length:=List.length_pos_iff.2 hn;have:=h2 0 (.int .i64 p.2[0]) (by rw [ints_get,List.getElem?_eq_getElem hl];rfl);rw [hB] at this;cases this
theorem WordsR.rv {w:World} {H B:Nat} {vals:List Value} {st:BS} (h:WordsR w H B vals st) (hH:H≤w.heap.size) {p:Int × List Int} (hp:p∈st):∃ Aw cw,vals[p.1.toNat]?=some (.slice Aw p.2.length cw)∧RV w 0 H Aw (ints p.2):=by
 obtain ⟨Aw,cw,h1,h2⟩:=h p hp;refine ⟨Aw,cw,h1,hH,fun hn=>?_⟩;obtain ⟨b,hA,h3,h4,h5,h6⟩:=h2 (by intro h0;rw [h0] at hn;exact hn rfl);exact ⟨b,0,hA,Nat.zero_le _,h3,fun j u hu=>by rw [Nat.zero_add];exact h6 j u hu⟩
theorem ob_oneB {b g n c:Nat} (h:Value.ownBlock (.slice (some ⟨b,0,none⟩) n c)=some g):g=b:=(Option.some.inj (show some b=some g from h)).symm
theorem rv_get0' {w:World} {lo hi b j:Nat} {cs:List Value} {u:Value} (h:RV w lo hi (some ⟨b,0,none⟩) cs) (hu:cs[j]?=some u):b < hi∧w.cell? ⟨b,j,none⟩=some u:=by
 obtain ⟨b',off,e, -,h2,hc⟩:=h.2 (by intro h0;subst h0;simp at hu);injection e with e
 injection e with e1 e2
 subst e1 e2;have:=hc j u hu;rw [Nat.zero_add] at this;exact ⟨h2,this⟩
theorem rss_lit3 {w:World} (A1 A2 A3:Option Addr) (c1 c2 c3:Nat) (x1 x2 x3:List Int) (h1:Rs w w.heap.size A1 (ints x1)) (h2:Rs w w.heap.size A2 (ints x2)) (h3:Rs w w.heap.size A3 (ints x3)) :
  RSS (w.alloc (.cells #[.slice A1 x1.length c1,.slice A2 x2.length c2,.slice A3 x3.length c3] 34)) 0 (w.heap.size+1) (some ⟨w.heap.size,0,none⟩) [x1,x2,x3]:=by
 have hk:∀ {A:Option Addr} {x:List Int},Rs w w.heap.size A (ints x)→RV (w.alloc (.cells #[.slice A1 x1.length c1,.slice A2 x2.length c2,.slice A3 x3.length c3] 34)) 0 (w.heap.size+1) A (ints x):=fun h=>by
  refine ⟨by simp,fun hn=>?_⟩;obtain ⟨b,off,e,hb,hc⟩:=(h.alloc (Nat.le_refl _) (.cells #[.slice A1 x1.length c1,.slice A2 x2.length c2,.slice A3 x3.length c3] 34)) hn;exact ⟨b,off,e,Nat.zero_le _,by omega,hc⟩
 refine ⟨[⟨A1,c1,x1⟩,⟨A2,c2,x2⟩,⟨A3,c3,x3⟩],rfl,⟨by simp,fun _=>⟨w.heap.size,0,rfl,Nat.zero_le _,Nat.lt_succ_self _,fun j u hu=>?_⟩⟩,fun r hr=>?_⟩
 ·rw [Nat.zero_add,World.cell?_alloc_new]
  simpa [rowsV,Row.v] using hu
 ·simp at hr
  rcases hr with rfl | rfl | rfl
  ·exact hk h1
  ·exact hk h2
  ·exact hk h3
theorem impl_BasisOf (r n:Nat) (A:Option Addr) (es:List Ed) (c:Nat) (w:World) (lo hi:Nat) (hr:RG w lo hi A es) (hcl:es.length≤c) (hco:IsCor r n es) (X:List Ed) (hX:∀ e∈X,e∈es) (hXl:X.length≤120)
  (hE:∀ W,RG W lo hi A es→Calls Tryz.prog 179 #[graV r n A es.length c] W fun e w'=>∃ A1 c1,e=.returned (.slice A1 X.length c1)∧OG w' W.heap.size w'.heap.size A1 c1 X∧Mid 0 0 W w') :
  Calls Tryz.prog 101 #[graV r n A es.length c] w fun e w'=>∃ A1 c1,e=.returned (.slice A1 (X.map (basisW r es)).length c1)∧OSS w' w.heap.size w'.heap.size 34 3 A1 c1 (X.map (basisW r es))∧Mid 0 0 w w':=by
 have hg:=hco.gr;have hn1:0 < n:=by have:=hg.size;omega
 have hn40:n≤40:=by have:=hg.size;omega
 have hl:=hg.len;have hr3:r≤3:=by have:=hg.rank;omega
 have HCO:=Lib.hid hco;have HE:=Lib.hid hE;have HX:=Lib.hid hX;clear hco hE hX;have hm0:Mid 0 0 w ((w.alloc (.cells #[.int .i64 r,.int .i64 n,.slice A es.length c] 26)).alloc (.cells #[] 34)):=(Mid.alloc _ _).trans (Mid.alloc _ _);have B0:=(Box.new w #[.int .i64 r,.int .i64 n,.slice A es.length c] 26).mid (Mid.alloc _ (.cells #[] 34)) oZr;have O0:=Own1.empty (w.alloc (.cells #[.int .i64 r,.int .i64 n,.slice A es.length c] 26));have hB:∀ j,((w.alloc (.cells #[.int .i64 r,.int .i64 n,.slice A es.length c] 26)).alloc (.cells #[] 34)).cell? ⟨w.heap.size+1,j,none⟩=none:=fun j=>by
  have h:=World.cell?_alloc_new (w.alloc (.cells #[.int .i64 r,.int .i64 n,.slice A es.length c] 26)) #[] 34 j;rw [World.size_alloc] at h;rw [h]
  rfl
 simp only [World.size_alloc] at O0;have p0:=B0.cell 0 rfl;have p1:=B0.cell 1 rfl;have p2:=B0.cell 2 rfl;go_enter Tryz.func101,Tryz.ntmps101
 go_wp2_with fail;generalize (w.alloc (.cells #[.int .i64 r,.int .i64 n,.slice A es.length c] 26)).alloc (.cells #[] 34)=w1 at hm0 B0 O0 hB p0 p1 p2 ⊢;have hs1:w.heap.size+1 < w1.heap.size:=(O0.lt rfl).2;with_reducible refine (impl_IsCore r n A es c w1 lo hi (hr.mid hm0 oZl) (by omega) hcl true (iff_of_true rfl HCO.out)).mono ?_
 rintro en w2 ⟨rfl,hm2⟩;have hs2:=hm2.size;have hB2:∀ j,w2.cell? ⟨w.heap.size+1,j,none⟩=none:=fun j=>(World.cell?_of_block (hm2.block _ (by simpa using hs1) (by omega))).trans (hB j);clear p0 p1 p2 hB;replace O0:=O0.mid hm2;replace B0:=B0.mid hm2 oZr;replace hm0:=hm0.trans hm2;have p0:=B0.cell 0 rfl;have p1:=B0.cell 1 rfl;have p2:=B0.cell 2 rfl;clear hm2;have hT:=impl_tree r n 0 A es c w2 lo hi (hr.mid hm0 oZl) hg hn1;have h00:((0:Nat):Int)=0:=rfl;rw [h00] at hT;have hor:ordE r es 0=(bfs es (lets r) 0).map Prod.fst:=by unfold ordE;rw [Int.toNat_natCast]
 rw [hor] at hT;obtain ⟨ST,hST⟩:∃ ST,bfs es (lets r) 0=ST:=⟨_,rfl⟩
 rw [hST] at hT;have HSTE:=Lib.hid hST;have HTL:=Lib.hid hT;clear hT h00 hor hST;go_wp2_with fail;with_reducible refine HTL.out.mono ?_
 rintro en w3 ⟨A1,c1,rfl,hm3, -,vals,hval,hts⟩;have hs3:=hm3.size;have hWR:=hts.wordsR (B:=w.heap.size+1) (fun j=>(World.cell?_of_block (hm3.block _ (show w.heap.size+1 < w2.heap.size by omega) (by omega))).trans (hB2 j));have hRV:=(owns_rv hval).wide (lo':=w.heap.size+2) (hi':=w3.heap.size) (by omega) (Nat.le_refl _) (Nat.le_refl _);clear p0 p1 p2 hval hts hB2 HTL;replace O0:=O0.mid hm3;replace B0:=B0.mid hm3 oZr;replace hm0:=hm0.trans hm3;have p0:=B0.cell 0 rfl;have p1:=B0.cell 1 rfl;have p2:=B0.cell 2 rfl;clear hm3;have HWR:=Lib.hid hWR;have HRV:=Lib.hid hRV;have HO:=Lib.hid O0;clear hWR hRV O0;go_wp2_with fail;with_reducible refine (HE.out w3 (hr.mid hm0 oZl)).mono ?_
 rintro en w4 ⟨AX,cX,rfl,hOX,hm4⟩;have hs4:=hm4.size;have HWR4:=Lib.hid (HWR.out.mid hm4);have HRV4:=Lib.hid (HRV.out.mid hm4 oZl);have HO4:=Lib.hid (HO.out.mid hm4);have HRX:=Lib.hid (hOX.rg.wide (lo':=w.heap.size+2) (hi':=w4.heap.size) (by omega) (Nat.le_refl _) (Nat.le_refl _));have HRV4':=Lib.hid (HRV4.out.wide (lo':=w.heap.size+2) (hi':=w4.heap.size) (Nat.le_refl _) hs4 (Nat.le_refl _));have hm05:=hm0.trans hm4;have HWR4':Hid (WordsR w4 w4.heap.size (w.heap.size+1) vals ST):=Lib.hid (fun p hp=>by
  obtain ⟨Aw,cw,h1,h2⟩:=HWR4.out p hp;refine ⟨Aw,cw,h1,fun hn=>?_⟩;obtain ⟨b,hA,h3,h4,h5,h6⟩:=h2 hn;exact ⟨b,hA,by omega,h4,h5,h6⟩)
 have HD0:Hid (∀ g,obS (some (⟨w.heap.size+1,0,none⟩:Addr)) 0 0=some g→g=w.heap.size+1 ∨ w4.heap.size≤g):=Lib.hid (fun g hg=>.inl (ob_oneB hg));have HN0:Hid (rowsD ([]:List Row)=(X.take 0).map (basisW r es)):=Lib.hid rfl;clear HWR HRV HO HWR4 HRV4 hOX B0 p0 p1 p2 hm0 hm4 HE;generalize (some (⟨w.heap.size+1,0,none⟩:Addr))=A0 at HO4 HD0 ⊢;generalize hH:w4.heap.size=H4 at HRX HRV4' HWR4' HD0;have hsz4:H4≤w4.heap.size:=Nat.le_of_eq hH.symm;have hw4:w.heap.size+2≤H4:=by omega
 generalize w2.heap.size+1=gv at HRV4' ⊢;clear hH;go_wp2_with fail;go_loopw [3,21] (fun ov kv wr=>∃ (k:Nat) (rows:List Row) (A2:Option Addr) (c2:Nat),kv=.int .i64 k∧ov=.slice A2 k c2∧k≤X.length∧Hid (rowsD rows=(X.take k).map (basisW r es))∧Hid (Own1 wr (w.heap.size+1) A2 k c2 rows)∧Hid (∀ g,obS A2 k c2=some g→g=w.heap.size+1 ∨ H4≤g)∧Hid (RG wr (w.heap.size+2) H4 AX X)∧Hid (RV wr (w.heap.size+2) H4 (some ⟨gv,0,none⟩) vals)∧Hid (WordsR wr H4 (w.heap.size+1) vals ST)∧H4≤wr.heap.size∧Mid 0 0 w wr) (fun _ kv _=>X.length - (intOf kv).toNat)
 case atStart=>exact ⟨0,[],A0,0,rfl,rfl,Nat.zero_le _,HN0,HO4,HD0,HRX,HRV4',HWR4',hsz4,hm05⟩
 case round =>
  clear HN0 HO4 HD0 HRX HRV4' HWR4' hsz4 hm05;obtain ⟨wo,hwo⟩:∃ wo,wo=wr:=⟨_,rfl⟩
  subst hwo;obtain ⟨k,rows,A2,c2,rfl,rfl,hk,HN,HO,HD,HRX,HRV,HWR,hsz,hm0⟩:=hrel;by_cases hlt:k < X.length
  ·obtain ⟨b,off,⟨ea,el,ebb⟩,hA, -,hbh,he,x0,x1,x2⟩:=(HRX.out).ed hlt
   simp only at x0 x1 x2;subst hA;have hbs:b < wo.heap.size:=Nat.lt_of_lt_of_le hbh hsz;have hk0:(0:Int)≤(k:Int):=by omega
   have hkm:(k:Int) < (X.length:Int):=by omega
   have hin:=hg.all _ (HX.out _ (List.mem_of_getElem? he));unfold InG at hin;simp only at hin;obtain ⟨pa,rfl⟩:∃ m:Nat,ea=m:=⟨ea.toNat,by omega⟩
   obtain ⟨pb,rfl⟩:∃ m:Nat,ebb=m:=⟨ebb.toNat,by omega⟩
   have hpan:pa < n:=by omega
   have hpbn:pb < n:=by omega
   have hwa:=wordV_mem HCO.out hpan;have hwb:=wordV_mem HCO.out hpbn;obtain ⟨hla,hlla⟩:=wordV_ok HCO.out hpan;obtain ⟨hlb,hllb⟩:=wordV_ok HCO.out hpbn;have hbas:basisW r es ⟨(pa:Int),el,(pb:Int)⟩=red [] (wordV r es (pa:Int)++[el]++invW (wordV r es (pb:Int))):=rfl;rw [HSTE.out] at hwa hwb;generalize wordV r es (pa:Int)=wa at hwa hla hlla hbas;generalize wordV r es (pb:Int)=wb at hwb hlb hllb hbas;obtain ⟨Aa,ca,hva,hra⟩:=HWR.out.rv hsz hwa;obtain ⟨Ab,cb,hvb,hrb⟩:=HWR.out.rv hsz hwb;simp only [Int.toNat_natCast] at hva hvb;obtain ⟨hgvH,hca⟩:=rv_get0' HRV.out hva;have hcb:=(rv_get0' HRV.out hvb).2;have hal:=Mid.alloc wo (.cells #[.int .i64 (pa:Int),.int .i64 el,.int .i64 (pb:Int)] 68);have B1:=Box.new wo #[.int .i64 (pa:Int),.int .i64 el,.int .i64 (pb:Int)] 68;have hgvo:gv < wo.heap.size:=by omega
   have HEK:=Lib.hid he;have HBAS:=Lib.hid hbas;have hel:-3≤el∧el≤3:=by omega
   have hoka:OkI wa:=fun x hx=>by have:=mem_lets.1 (hlla x hx);omega
   have hokb:OkI wb:=fun x hx=>by have:=mem_lets.1 (hllb x hx);omega
   have HOKA:=Lib.hid hoka;have HOKB:=Lib.hid hokb;have hpa0:(0:Int)≤(pa:Int):=by omega
   have hpan':(pa:Int) < (n:Int):=by omega
   have hpb0:(0:Int)≤(pb:Int):=by omega
   have hpbn':(pb:Int) < (n:Int):=by omega
   clear he hbas hva hvb hwa hwb hlla hllb hoka hokb hin;go_wp2_with fail;generalize wo.alloc (.cells #[.int .i64 (pa:Int),.int .i64 el,.int .i64 (pb:Int)] 68)=wbx at hal B1 ⊢;clear x0 x1 x2;have hmz:=hal.trans (Mid.drew1 wbx);have HO1:=Lib.hid (HO.out.mid hmz);have HRX1:=Lib.hid (HRX.out.mid hmz oZl);have HRV1:=Lib.hid (HRV.out.mid hmz oZl);have HWR1:=Lib.hid (HWR.out.mid hmz);have hra1:=hra.mid hmz oZl;have hrb1:=hrb.mid hmz oZl;have hca1:=cell_keep hmz hgvo oZr hca;have hcb1:=cell_keep hmz hgvo oZr hcb;have hgv1:gv < (World.drew wbx).heap.size:=Nat.lt_of_lt_of_le hgvo hmz.size;have hmt:=hm0.trans hmz;have B2:=B1.mid (Mid.drew1 wbx) oZr;have hsal:=hmz.size;have hbb:wo.heap.size < (World.drew wbx).heap.size:=B2.1;have q0:=B2.cell 0 rfl;have q1:=B2.cell 1 rfl;have q2:=B2.cell 2 rfl;clear hca hcb hra hrb hal B1 HO HRX HRV HWR hm0;refine wp_region_Z (S:=(fun w'=>w'.cell? ⟨wo.heap.size,0,none⟩=some (.int .i64 (pa:Int))∧w'.cell? ⟨wo.heap.size,1,none⟩=some (.int .i64 el)∧w'.cell? ⟨wo.heap.size,2,none⟩=some (.int .i64 (pb:Int))∧w'.cell? ⟨gv,pa,none⟩=some (.slice Aa wa.length ca)∧w'.cell? ⟨gv,pb,none⟩=some (.slice Ab wb.length cb))) [18,19] (by kernel_rfl) ⟨q0,q1,q2,hca1,hcb1⟩ ?_;generalize World.drew wbx=wz at HO1 HRX1 HRV1 HWR1 hra1 hrb1 hca1 hcb1 hgv1 hmt B2 hsal hbb q0 q1 q2 hmz ⊢;have hS:wz.cell? ⟨wo.heap.size,0,none⟩=some (.int .i64 (pa:Int))∧wz.cell? ⟨wo.heap.size,1,none⟩=some (.int .i64 el)∧wz.cell? ⟨wo.heap.size,2,none⟩=some (.int .i64 (pb:Int))∧wz.cell? ⟨gv,pa,none⟩=some (.slice Aa wa.length ca)∧wz.cell? ⟨gv,pb,none⟩=some (.slice Ab wb.length cb):=⟨q0,q1,q2,hca1,hcb1⟩
   refine tkZ [18,19] 0 rfl hS ?_;try simp only [Act.put,zs1,zs2,zs3,zs4,zs5,zs6]
   refine tkZ [4,5,15,16,17,18,19] 1 rfl hS ?_;try simp only [Act.put,zs1,zs2,zs3,zs4,zs5,zs6]
   refine tkZ [3,4,5,15,16,17,18,19] 2 rfl hS ?_;try simp only [Act.put,zs1,zs2,zs3,zs4,zs5,zs6]
   refine tkZ [4,5,15,16,17,18,19] 3 rfl hS ?_;try simp only [Act.put,zs1,zs2,zs3,zs4,zs5,zs6]
   refine tkZ [5,15,16,17,18,19] 4 rfl hS ?_;try simp only [Act.put,zs1,zs2,zs3,zs4,zs5,zs6]
   refine tkZ [15,16,17,18,19] 5 rfl hS ?_;try simp only [Act.put,zs1,zs2,zs3,zs4,zs5,zs6]
   refine tkZ [7,8,15,16,17,18,19] 6 rfl hS ?_;try simp only [Act.put,zs1,zs2,zs3,zs4,zs5,zs6]
   refine tkZ [8,15,16,17,18,19] 7 rfl hS ?_;try simp only [Act.put,zs1,zs2,zs3,zs4,zs5,zs6]
   refine tkZ [12,13,14,15,16,17,18,19] 9 rfl hS ?_;try simp only [Act.put,zs1,zs2,zs3,zs4,zs5,zs6]
   refine tkZ [11,12,13,14,15,16,17,18,19] 10 rfl hS ?_;try simp only [Act.put,zs1,zs2,zs3,zs4,zs5,zs6]
   refine tkZ [12,13,14,15,16,17,18,19] 11 rfl hS ?_;try simp only [Act.put,zs1,zs2,zs3,zs4,zs5,zs6]
   refine tkZ [13,14,15,16,17,18,19] 12 rfl hS ?_;try simp only [Act.put,zs1,zs2,zs3,zs4,zs5,zs6]
   refine tkZ [14,15,16,17,18,19] 13 rfl hS ?_;try simp only [Act.put,zs1,zs2,zs3,zs4,zs5,zs6]
   have q0z:=q0;have q1z:=q1;have q2z:=q2;have vaz:=hca1;have vbz:=hcb1;have hbbz:=hbb;have hgvz:=hgv1;have hHz:H4≤wz.heap.size:=by omega
   have hIz:=impl_InvertWord Ab wb cb H4 wz hrb1.rs hHz HOKB.out (by omega);clear q0 q1 q2 hca1 hcb1 hbb hgv1 B2 hmz hS;refine wpAnyZ_ready (rs:=[8,14]) (by kernel_rfl) (by simp) (AllReadyZ.cons rfl (fun K hK=>?_) (AllReadyZ.cons rfl (fun K hK=>?_) AllReadyZ.nil))
   ·go_simp
    refine hK.out _ _ (Or.inr ⟨cell_keep (Mid.alloc wz (.cells #[.int .i64 el] 3)) hbbz oZr q0z,cell_keep (Mid.alloc wz (.cells #[.int .i64 el] 3)) hbbz oZr q1z,cell_keep (Mid.alloc wz (.cells #[.int .i64 el] 3)) hbbz oZr q2z,cell_keep (Mid.alloc wz (.cells #[.int .i64 el] 3)) hgvz oZr vaz,cell_keep (Mid.alloc wz (.cells #[.int .i64 el] 3)) hgvz oZr vbz⟩) (fun _=>?_);clear hK K;try simp only [Act.put,zs1,zs2,zs3,zs4,zs5,zs6]
    have ha8:=Mid.alloc wz (.cells #[.int .i64 el] 3);have q08:=cell_keep ha8 hbbz oZr q0z;have q18:=cell_keep ha8 hbbz oZr q1z;have q28:=cell_keep ha8 hbbz oZr q2z;have va8:=cell_keep ha8 hgvz oZr vaz;have vb8:=cell_keep ha8 hgvz oZr vbz;have hbb8:wo.heap.size < (wz.alloc (.cells #[.int .i64 el] 3)).heap.size:=Nat.lt_of_lt_of_le hbbz ha8.size;have hgv8:gv < (wz.alloc (.cells #[.int .i64 el] 3)).heap.size:=Nat.lt_of_lt_of_le hgvz ha8.size;have hon8:(wz.alloc (.cells #[.int .i64 el] 3)).cell? ⟨wz.heap.size,0,none⟩=some (.int .i64 el):=World.cell?_alloc_at _ _ _ _ rfl;have hs8:wz.heap.size < (wz.alloc (.cells #[.int .i64 el] 3)).heap.size:=by simp
    generalize wz.alloc (.cells #[.int .i64 el] 3)=w8 at ha8 q08 q18 q28 va8 vb8 hbb8 hgv8 hon8 hs8 ⊢;have hrbA:=hrb1.mid ha8 oZl;have hH8:H4≤w8.heap.size:=by omega
    have hI8:=impl_InvertWord Ab wb cb H4 w8 hrbA.rs hH8 HOKB.out (by omega);clear hIz;refine rdZ 14 rfl (fun K hK=>?_)
    (go_simp;(with_reducible refine hI8.mono ?_);intro en w14 hq14;obtain ⟨A7,c7,rfl,ho14,hm14⟩:=RetI.get hq14;go_wp2_with fail)
    refine hK.out _ _ (Or.inr ⟨cell_keep hm14 hbb8 oZr q08,cell_keep hm14 hbb8 oZr q18,cell_keep hm14 hbb8 oZr q28,cell_keep hm14 hgv8 oZr va8,cell_keep hm14 hgv8 oZr vb8⟩) (fun _=>?_);clear hK K;try simp only [Act.put,zs1,zs2,zs3,zs4,zs5,zs6]
    have q0C:=cell_keep hm14 hbb8 oZr q08;have q1C:=cell_keep hm14 hbb8 oZr q18;have q2C:=cell_keep hm14 hbb8 oZr q28;have vaC:=cell_keep hm14 hgv8 oZr va8;have vbC:=cell_keep hm14 hgv8 oZr vb8;have hbbC:wo.heap.size < w14.heap.size:=Nat.lt_of_lt_of_le hbb8 hm14.size;have hgvC:gv < w14.heap.size:=Nat.lt_of_lt_of_le hgv8 hm14.size;have hmc:=ha8.trans hm14;have honeC:Rs w14 w14.heap.size (some ⟨wz.heap.size,0,none⟩) (ints [el]):=(rs_one (cell_keep hm14 hs8 oZr hon8)).more (by have:=hm14.size;omega);have hinvC:Rs w14 w14.heap.size A7 (ints (invW wb)):=(owns_rv ho14).rsS;clear ha8 hon8 hrbA hI8 hq14 ho14 hm14 q08 q18 q28 va8 vb8 q0z q1z q2z vaz vbz;generalize w14=wc at hmc honeC hinvC q0C q1C q2C vaC vbC hbbC hgvC ⊢
    -- both are made: at world wc;hmc:Mid 0 0 wz wc;the letter's block wz.heap.size;the inverse (A7,c7)
    have hraC:=hra1.mid hmc oZl;have hal15:=Mid.alloc wc (.cells #[.slice Aa wa.length ca,.slice (some ⟨wz.heap.size,0,none⟩) 1 1,.slice A7 (invW wb).length c7] 34);have q0D:=cell_keep hal15 hbbC oZr q0C;have q1D:=cell_keep hal15 hbbC oZr q1C;have q2D:=cell_keep hal15 hbbC oZr q2C;have vaD:=cell_keep hal15 hgvC oZr vaC;have vbD:=cell_keep hal15 hgvC oZr vbC;have hbbD:wo.heap.size < (wc.alloc (.cells #[.slice Aa wa.length ca,.slice (some ⟨wz.heap.size,0,none⟩) 1 1,.slice A7 (invW wb).length c7] 34)).heap.size:=Nat.lt_of_lt_of_le hbbC hal15.size;have hgvD:gv < (wc.alloc (.cells #[.slice Aa wa.length ca,.slice (some ⟨wz.heap.size,0,none⟩) 1 1,.slice A7 (invW wb).length c7] 34)).heap.size:=Nat.lt_of_lt_of_le hgvC hal15.size;have hrss:=rss_lit3 (w:=wc) Aa (some ⟨wz.heap.size,0,none⟩) A7 ca 1 c7 wa [el] (invW wb) hraC.rsS honeC hinvC;have hmd15:=hmc.trans hal15;refine rdZ 15 rfl (fun K hK=>?_);go_simp;refine hK.out _ _ (Or.inr ⟨cell_keep hal15 hbbC oZr q0C,cell_keep hal15 hbbC oZr q1C,cell_keep hal15 hbbC oZr q2C,cell_keep hal15 hgvC oZr vaC,cell_keep hal15 hgvC oZr vbC⟩) (fun _=>?_);clear hK K;try simp only [Act.put,zs1,zs2,zs3,zs4,zs5,zs6]
    have hsz15:(wc.alloc (.cells #[.slice Aa wa.length ca,.slice (some ⟨wz.heap.size,0,none⟩) 1 1,.slice A7 (invW wb).length c7] 34)).heap.size=wc.heap.size+1:=by simp
    generalize wc.alloc (.cells #[.slice Aa wa.length ca,.slice (some ⟨wz.heap.size,0,none⟩) 1 1,.slice A7 (invW wb).length c7] 34)=w15 at hal15 q0D q1D q2D vaD vbD hbbD hgvD hrss hmd15 hsz15 ⊢;have hokP:∀ xs∈[wa,[el],invW wb],OkI xs:=by
     intro xs hx;simp at hx;rcases hx with rfl | rfl | rfl
     ·exact HOKA.out
     ·intro y hy
      simp at hy;subst hy;omega
     ·exact okI_invW HOKB.out
    have hP:=impl_product (some ⟨wc.heap.size,0,none⟩) [wa,[el],invW wb] 3 w15 0 (wc.heap.size+1) hrss hokP (by simp) (by simp only [sumL,List.map_cons,List.map_nil,List.sum_cons,List.sum_nil,List.length_cons,List.length_nil,invW_len];omega);have hfl:([wa,[el],invW wb]:List (List Int)).flatten=wa++[el]++invW wb:=by simp
    rw [hfl,← HBAS.out] at hP;have hP':Calls Tryz.prog 122 #[.slice (some ⟨wc.heap.size,0,none⟩) 3 3] w15 fun e' w'=>RetI 3 (basisW r es ⟨(pa:Int),el,(pb:Int)⟩) w15 e' w':=hP;have HP:=Lib.hid hP';clear hP hfl hrss hP';refine rdZ 16 rfl (fun K hK=>?_)
    (go_simp;(with_reducible refine HP.out.mono ?_);intro en w16 hq16;obtain ⟨A16,c16,rfl,ho16,hm16⟩:=RetI.get hq16;go_wp2_with fail)
    refine hK.out _ _ (Or.inr ⟨cell_keep hm16 hbbD oZr q0D,cell_keep hm16 hbbD oZr q1D,cell_keep hm16 hbbD oZr q2D,cell_keep hm16 hgvD oZr vaD,cell_keep hm16 hgvD oZr vbD⟩) (fun _=>?_);clear hK K;try simp only [Act.put,zs1,zs2,zs3,zs4,zs5,zs6]
    have q0E:=cell_keep hm16 hbbD oZr q0D;have q1E:=cell_keep hm16 hbbD oZr q1D;have q2E:=cell_keep hm16 hbbD oZr q2D;have vaE:=cell_keep hm16 hgvD oZr vaD;have vbE:=cell_keep hm16 hgvD oZr vbD;have hbbE:wo.heap.size < w16.heap.size:=Nat.lt_of_lt_of_le hbbD hm16.size;have hgvE:gv < w16.heap.size:=Nat.lt_of_lt_of_le hgvD hm16.size;have hmd16:=hmd15.trans hm16;have hrow:w16.ownsRow wz.heap.size 3 1 (Row.v ⟨A16,c16,basisW r es ⟨(pa:Int),el,(pb:Int)⟩⟩) (basisW r es ⟨(pa:Int),el,(pb:Int)⟩).length (ints (basisW r es ⟨(pa:Int),el,(pb:Int)⟩)):=owns_base ho16 hmd15.size;have hszz:=hmd16.size;refine rdZ 17 rfl (fun K hK=>?_);go_simp;refine hK.out _ _ (Or.inr ⟨cell_keep (Mid.alloc w16 (.cells #[.slice A16 (basisW r es ⟨(pa:Int),el,(pb:Int)⟩).length c16] 34)) hbbE oZr q0E,cell_keep (Mid.alloc w16 (.cells #[.slice A16 (basisW r es ⟨(pa:Int),el,(pb:Int)⟩).length c16] 34)) hbbE oZr q1E,cell_keep (Mid.alloc w16 (.cells #[.slice A16 (basisW r es ⟨(pa:Int),el,(pb:Int)⟩).length c16] 34)) hbbE oZr q2E,cell_keep (Mid.alloc w16 (.cells #[.slice A16 (basisW r es ⟨(pa:Int),el,(pb:Int)⟩).length c16] 34)) hgvE oZr vaE,cell_keep (Mid.alloc w16 (.cells #[.slice A16 (basisW r es ⟨(pa:Int),el,(pb:Int)⟩).length c16] 34)) hgvE oZr vbE⟩) (fun _=>?_);clear hK K;try simp only [Act.put,zs1,zs2,zs3,zs4,zs5,zs6]
    refine rdZ 18 rfl (fun K hK=>?_)
    (refine step_push1 (by rfl) (.tmp 25) (.tmp 42) (by rfl) (by rfl) HO1.out hmd16 ⟨A16,c16,basisW r es ⟨(pa:Int),el,(pb:Int)⟩⟩ (.slice A16 (basisW r es ⟨(pa:Int),el,(pb:Int)⟩).length c16) rfl hrow (by rfl) (by omega) (by omega) ?_;intro A18 c18 w18 hO18 hgr18 hat18)
    refine hK.out _ _ (Or.inl (by simp)) (fun _=>?_);clear hK K;try simp only [Act.put,zs1,zs2,zs3,zs4,zs5,zs6]
    have HO18:=Lib.hid hO18;have HN18:Hid (rowsD (rows++[(⟨A16,c16,basisW r es ⟨(pa:Int),el,(pb:Int)⟩⟩:Row)])=(X.take (k+1)).map (basisW r es)):=Lib.hid (by
     obtain ⟨h1,h2⟩:=List.getElem?_eq_some_iff.1 HEK.out;rw [rowsD_append,HN.out,List.take_succ_eq_append_getElem h1,h2,List.map_append]
     rfl)
    have HRX18:=Lib.hid (RV.grown (HRX1.out.mid hmd16 oZl) hgr18 (fun g hg=>by rcases HD.out g hg with h | h <;> omega));have HRV18:=Lib.hid ((HRV1.out.mid hmd16 oZl).grown hgr18 (fun g hg=>by rcases HD.out g hg with h | h <;> omega));have HWR18:=Lib.hid ((HWR1.out.mid hmd16).grown hgr18 HD.out);have hm18:=(hmt.trans hmd16).grownNew hgr18 (fun g hg=>by have:=(HO1.out.lt hg).1;omega);have hs18:=hgr18.size;have HD18:Hid (∀ g,obS A18 (k+1) c18=some g→g=w.heap.size+1 ∨ H4≤g):=Lib.hid (by
     intro g hg;rcases hat18 with h | h
     ·exact HD.out g (h ▸ hg)
     ·rw [h] at hg
      have hg':=Option.some.inj hg;omega)
    clear hO18 hgr18 hat18 HO1 HRX1 HRV1 HWR1 hmt hmd16 hm16 ho16 hrow HD HN HP hmd15 hal15 hmc hraC honeC hinvC hra1 hrb1 q0C q1C q2C vaC vbC q0D q1D q2D vaD vbD q0E q1E q2E vaE vbE;refine rdZ 19 rfl (fun K hK=>?_);go_simp;refine hK.out _ _ (Or.inl (by simp)) (fun _=>?_);clear hK K;try simp only [Act.put,zs1,zs2,zs3,zs4,zs5,zs6]
    refine wpAnyZ_done (by kernel_rfl) ?_ _;go_wp2_with fail;go_roundw
    case rel=>exact ⟨k+1,_,A18,c18,by go_num,rfl,by omega,HN18,HO18,HD18,HRX18,HRV18,HWR18,by omega,hm18⟩
    case measure=>simp [intOf];omega
   ·(go_simp;(with_reducible refine hIz.mono ?_);intro en w14 hq14;obtain ⟨A7,c7,rfl,ho14,hm14⟩:=RetI.get hq14;go_wp2_with fail)
    refine hK.out _ _ (Or.inr ⟨cell_keep hm14 hbbz oZr q0z,cell_keep hm14 hbbz oZr q1z,cell_keep hm14 hbbz oZr q2z,cell_keep hm14 hgvz oZr vaz,cell_keep hm14 hgvz oZr vbz⟩) (fun _=>?_);clear hK K;try simp only [Act.put,zs1,zs2,zs3,zs4,zs5,zs6]
    have q04:=cell_keep hm14 hbbz oZr q0z;have q14:=cell_keep hm14 hbbz oZr q1z;have q24:=cell_keep hm14 hbbz oZr q2z;have va4:=cell_keep hm14 hgvz oZr vaz;have vb4:=cell_keep hm14 hgvz oZr vbz;have hbb4:wo.heap.size < w14.heap.size:=Nat.lt_of_lt_of_le hbbz hm14.size;have hgv4:gv < w14.heap.size:=Nat.lt_of_lt_of_le hgvz hm14.size;have hon14:w14.heap.size < (w14.alloc (.cells #[.int .i64 el] 3)).heap.size:=by simp
    refine rdZ 8 rfl (fun K hK=>?_);go_simp;refine hK.out _ _ (Or.inr ⟨cell_keep (Mid.alloc w14 (.cells #[.int .i64 el] 3)) hbb4 oZr q04,cell_keep (Mid.alloc w14 (.cells #[.int .i64 el] 3)) hbb4 oZr q14,cell_keep (Mid.alloc w14 (.cells #[.int .i64 el] 3)) hbb4 oZr q24,cell_keep (Mid.alloc w14 (.cells #[.int .i64 el] 3)) hgv4 oZr va4,cell_keep (Mid.alloc w14 (.cells #[.int .i64 el] 3)) hgv4 oZr vb4⟩) (fun _=>?_);clear hK K;try simp only [Act.put,zs1,zs2,zs3,zs4,zs5,zs6]
    have ha8:=Mid.alloc w14 (.cells #[.int .i64 el] 3);have q0C:=cell_keep ha8 hbb4 oZr q04;have q1C:=cell_keep ha8 hbb4 oZr q14;have q2C:=cell_keep ha8 hbb4 oZr q24;have vaC:=cell_keep ha8 hgv4 oZr va4;have vbC:=cell_keep ha8 hgv4 oZr vb4;have hbbC:wo.heap.size < (w14.alloc (.cells #[.int .i64 el] 3)).heap.size:=Nat.lt_of_lt_of_le hbb4 ha8.size;have hgvC:gv < (w14.alloc (.cells #[.int .i64 el] 3)).heap.size:=Nat.lt_of_lt_of_le hgv4 ha8.size;have hmc:=hm14.trans ha8;have honeC:Rs (w14.alloc (.cells #[.int .i64 el] 3)) (w14.alloc (.cells #[.int .i64 el] 3)).heap.size (some ⟨w14.heap.size,0,none⟩) (ints [el]):=(rs_one (World.cell?_alloc_at _ _ _ _ rfl)).more (by simp);have hinvC:Rs (w14.alloc (.cells #[.int .i64 el] 3)) (w14.alloc (.cells #[.int .i64 el] 3)).heap.size A7 (ints (invW wb)):=(owns_rv (owns_mid ho14 ha8 oZl)).rsS;generalize w14.alloc (.cells #[.int .i64 el] 3)=wc at ha8 hmc honeC hinvC q0C q1C q2C vaC vbC hbbC hgvC hon14 ⊢;clear ha8 hq14 ho14 hm14 hIz q04 q14 q24 va4 vb4 q0z q1z q2z vaz vbz
    -- both are made: at world wc;hmc:Mid 0 0 wz wc;the letter's block w14.heap.size;the inverse (A7,c7)
    have hraC:=hra1.mid hmc oZl;have hal15:=Mid.alloc wc (.cells #[.slice Aa wa.length ca,.slice (some ⟨w14.heap.size,0,none⟩) 1 1,.slice A7 (invW wb).length c7] 34);have q0D:=cell_keep hal15 hbbC oZr q0C;have q1D:=cell_keep hal15 hbbC oZr q1C;have q2D:=cell_keep hal15 hbbC oZr q2C;have vaD:=cell_keep hal15 hgvC oZr vaC;have vbD:=cell_keep hal15 hgvC oZr vbC;have hbbD:wo.heap.size < (wc.alloc (.cells #[.slice Aa wa.length ca,.slice (some ⟨w14.heap.size,0,none⟩) 1 1,.slice A7 (invW wb).length c7] 34)).heap.size:=Nat.lt_of_lt_of_le hbbC hal15.size;have hgvD:gv < (wc.alloc (.cells #[.slice Aa wa.length ca,.slice (some ⟨w14.heap.size,0,none⟩) 1 1,.slice A7 (invW wb).length c7] 34)).heap.size:=Nat.lt_of_lt_of_le hgvC hal15.size;have hrss:=rss_lit3 (w:=wc) Aa (some ⟨w14.heap.size,0,none⟩) A7 ca 1 c7 wa [el] (invW wb) hraC.rsS honeC hinvC;have hmd15:=hmc.trans hal15;refine rdZ 15 rfl (fun K hK=>?_);go_simp;refine hK.out _ _ (Or.inr ⟨cell_keep hal15 hbbC oZr q0C,cell_keep hal15 hbbC oZr q1C,cell_keep hal15 hbbC oZr q2C,cell_keep hal15 hgvC oZr vaC,cell_keep hal15 hgvC oZr vbC⟩) (fun _=>?_);clear hK K;try simp only [Act.put,zs1,zs2,zs3,zs4,zs5,zs6]
    have hsz15:(wc.alloc (.cells #[.slice Aa wa.length ca,.slice (some ⟨w14.heap.size,0,none⟩) 1 1,.slice A7 (invW wb).length c7] 34)).heap.size=wc.heap.size+1:=by simp
    generalize wc.alloc (.cells #[.slice Aa wa.length ca,.slice (some ⟨w14.heap.size,0,none⟩) 1 1,.slice A7 (invW wb).length c7] 34)=w15 at hal15 q0D q1D q2D vaD vbD hbbD hgvD hrss hmd15 hsz15 ⊢;have hokP:∀ xs∈[wa,[el],invW wb],OkI xs:=by
     intro xs hx;simp at hx;rcases hx with rfl | rfl | rfl
     ·exact HOKA.out
     ·intro y hy
      simp at hy;subst hy;omega
     ·exact okI_invW HOKB.out
    have hP:=impl_product (some ⟨wc.heap.size,0,none⟩) [wa,[el],invW wb] 3 w15 0 (wc.heap.size+1) hrss hokP (by simp) (by simp only [sumL,List.map_cons,List.map_nil,List.sum_cons,List.sum_nil,List.length_cons,List.length_nil,invW_len];omega);have hfl:([wa,[el],invW wb]:List (List Int)).flatten=wa++[el]++invW wb:=by simp
    rw [hfl,← HBAS.out] at hP;have hP':Calls Tryz.prog 122 #[.slice (some ⟨wc.heap.size,0,none⟩) 3 3] w15 fun e' w'=>RetI 3 (basisW r es ⟨(pa:Int),el,(pb:Int)⟩) w15 e' w':=hP;have HP:=Lib.hid hP';clear hP hfl hrss hP';refine rdZ 16 rfl (fun K hK=>?_)
    (go_simp;(with_reducible refine HP.out.mono ?_);intro en w16 hq16;obtain ⟨A16,c16,rfl,ho16,hm16⟩:=RetI.get hq16;go_wp2_with fail)
    refine hK.out _ _ (Or.inr ⟨cell_keep hm16 hbbD oZr q0D,cell_keep hm16 hbbD oZr q1D,cell_keep hm16 hbbD oZr q2D,cell_keep hm16 hgvD oZr vaD,cell_keep hm16 hgvD oZr vbD⟩) (fun _=>?_);clear hK K;try simp only [Act.put,zs1,zs2,zs3,zs4,zs5,zs6]
    have q0E:=cell_keep hm16 hbbD oZr q0D;have q1E:=cell_keep hm16 hbbD oZr q1D;have q2E:=cell_keep hm16 hbbD oZr q2D;have vaE:=cell_keep hm16 hgvD oZr vaD;have vbE:=cell_keep hm16 hgvD oZr vbD;have hbbE:wo.heap.size < w16.heap.size:=Nat.lt_of_lt_of_le hbbD hm16.size;have hgvE:gv < w16.heap.size:=Nat.lt_of_lt_of_le hgvD hm16.size;have hmd16:=hmd15.trans hm16;have hrow:w16.ownsRow wz.heap.size 3 1 (Row.v ⟨A16,c16,basisW r es ⟨(pa:Int),el,(pb:Int)⟩⟩) (basisW r es ⟨(pa:Int),el,(pb:Int)⟩).length (ints (basisW r es ⟨(pa:Int),el,(pb:Int)⟩)):=owns_base ho16 hmd15.size;have hszz:=hmd16.size;refine rdZ 17 rfl (fun K hK=>?_);go_simp;refine hK.out _ _ (Or.inr ⟨cell_keep (Mid.alloc w16 (.cells #[.slice A16 (basisW r es ⟨(pa:Int),el,(pb:Int)⟩).length c16] 34)) hbbE oZr q0E,cell_keep (Mid.alloc w16 (.cells #[.slice A16 (basisW r es ⟨(pa:Int),el,(pb:Int)⟩).length c16] 34)) hbbE oZr q1E,cell_keep (Mid.alloc w16 (.cells #[.slice A16 (basisW r es ⟨(pa:Int),el,(pb:Int)⟩).length c16] 34)) hbbE oZr q2E,cell_keep (Mid.alloc w16 (.cells #[.slice A16 (basisW r es ⟨(pa:Int),el,(pb:Int)⟩).length c16] 34)) hgvE oZr vaE,cell_keep (Mid.alloc w16 (.cells #[.slice A16 (basisW r es ⟨(pa:Int),el,(pb:Int)⟩).length c16] 34)) hgvE oZr vbE⟩) (fun _=>?_);clear hK K;try simp only [Act.put,zs1,zs2,zs3,zs4,zs5,zs6]
    refine rdZ 18 rfl (fun K hK=>?_)
    (refine step_push1 (by rfl) (.tmp 25) (.tmp 42) (by rfl) (by rfl) HO1.out hmd16 ⟨A16,c16,basisW r es ⟨(pa:Int),el,(pb:Int)⟩⟩ (.slice A16 (basisW r es ⟨(pa:Int),el,(pb:Int)⟩).length c16) rfl hrow (by rfl) (by omega) (by omega) ?_;intro A18 c18 w18 hO18 hgr18 hat18)
    refine hK.out _ _ (Or.inl (by simp)) (fun _=>?_);clear hK K;try simp only [Act.put,zs1,zs2,zs3,zs4,zs5,zs6]
    have HO18:=Lib.hid hO18;have HN18:Hid (rowsD (rows++[(⟨A16,c16,basisW r es ⟨(pa:Int),el,(pb:Int)⟩⟩:Row)])=(X.take (k+1)).map (basisW r es)):=Lib.hid (by
     obtain ⟨h1,h2⟩:=List.getElem?_eq_some_iff.1 HEK.out;rw [rowsD_append,HN.out,List.take_succ_eq_append_getElem h1,h2,List.map_append]
     rfl)
    have HRX18:=Lib.hid (RV.grown (HRX1.out.mid hmd16 oZl) hgr18 (fun g hg=>by rcases HD.out g hg with h | h <;> omega));have HRV18:=Lib.hid ((HRV1.out.mid hmd16 oZl).grown hgr18 (fun g hg=>by rcases HD.out g hg with h | h <;> omega));have HWR18:=Lib.hid ((HWR1.out.mid hmd16).grown hgr18 HD.out);have hm18:=(hmt.trans hmd16).grownNew hgr18 (fun g hg=>by have:=(HO1.out.lt hg).1;omega);have hs18:=hgr18.size;have HD18:Hid (∀ g,obS A18 (k+1) c18=some g→g=w.heap.size+1 ∨ H4≤g):=Lib.hid (by
     intro g hg;rcases hat18 with h | h
     ·exact HD.out g (h ▸ hg)
     ·rw [h] at hg
      have hg':=Option.some.inj hg;omega)
    clear hO18 hgr18 hat18 HO1 HRX1 HRV1 HWR1 hmt hmd16 hm16 ho16 hrow HD HN HP hmd15 hal15 hmc hraC honeC hinvC hra1 hrb1 q0C q1C q2C vaC vbC q0D q1D q2D vaD vbD q0E q1E q2E vaE vbE;refine rdZ 19 rfl (fun K hK=>?_);go_simp;refine hK.out _ _ (Or.inl (by simp)) (fun _=>?_);clear hK K;try simp only [Act.put,zs1,zs2,zs3,zs4,zs5,zs6]
    refine wpAnyZ_done (by kernel_rfl) ?_ _;go_wp2_with fail;go_roundw
    case rel=>exact ⟨k+1,_,A18,c18,by go_num,rfl,by omega,HN18,HO18,HD18,HRX18,HRV18,HWR18,by omega,hm18⟩
    case measure=>simp [intOf];omega
  ·obtain rfl:k=X.length:=by omega
   have hN:=HN.out;rw [List.take_length] at hN;have hlen:(X.map (basisW r es)).length=X.length:=List.length_map ..;have HQ:Hid (OSS wo w.heap.size wo.heap.size 34 3 A2 c2 (X.map (basisW r es))):=Lib.hid ((HO.out.base (Nat.le_succ _)).oss hN);have HLN:=Lib.hid hlen;clear hN hlen HN HO HD HRX HRV HWR;go_wp2_with fail;go_ret;exact ⟨A2,c2,by rw [HLN.out];rfl,HQ.out,hm0⟩
end
section
open Go.RowKit
end
section
open Go.RowKit
end
section
open Go.RowKit
end
section
open Go.RowKit
structure Mv where
 kind:Int
 i:Int
 j:Int
 sign:Int
deriving DecidableEq
def MvOk (l:List (List Int)) (m:Mv):Prop:=0≤m.j∧m.j < l.length∧m.j≠m.i∧(m.sign=1 ∨ m.sign = -1)
instance (l:List (List Int)) (m:Mv):Decidable (MvOk l m):=by unfold MvOk;infer_instance
theorem okI_app {xs ys:List Int} (h:OkI xs) (h':OkI ys):OkI (xs++ys):=fun x hx=>by
 rcases List.mem_append.1 hx with h1 | h1
 ·exact h x h1
 ·exact h' x h1
end
section
open Go.RowKit
theorem spec_MultiplyWords (A A':Option Addr) (xs ys:List Int) (c c':Nat) (w:World) (hr:Rs w w.heap.size A (ints xs)) (hr':Rs w w.heap.size A' (ints ys)) (hok:OkI xs) (hok':OkI ys) (hl:xs.length+ys.length≤268435456) :
  Calls Tryz.prog 76 #[.slice A xs.length c,.slice A' ys.length c'] w fun e w'=>RetI 3 (red [] (xs++ys)) w e w':=by
 have hoe:=owns_empty w 3 1;have hb0:Below w.heap.size w (w.alloc (.cells #[] 3)):=(Below.refl w.heap.size w).alloc (Nat.le_refl _) _;have hra:Rs (w.alloc (.cells #[] 3)) w.heap.size A (ints xs):=hr.alloc (Nat.le_refl _) _;have hla:(ints xs).length=xs.length * 1:=by rw [ints_len];omega
 have hlb:(ints ys).length=ys.length * 1:=by rw [ints_len];omega
 have hoo:=Lib.hid (okI_app hok hok');go_enter Tryz.func76,Tryz.ntmps76
 go_wp2_with (at_builtin;refine wpList_cat rfl (.tmp 5) (.tmp 6) 34 rfl w.heap.size 3 (.int .i64 0) 1 8 undSI infoI rfl (by decide) _ _ _ rfl hoe A xs.length c w.heap.size (ints xs) rfl hra hla (one_of_ints _) ?c4 ?c5 ?c6 ?next)
 case c4=>unfold maxLen;omega
 case c5=>omega
 case c6=>simp
 case next =>
  intro v2 w2 ho2 hgr2 _;try rw [Nat.zero_add,List.nil_append] at ho2
  have hb2:Below w.heap.size w w2:=hb0.grown hgr2 (by simp) (fun g hg=>(hoe.lt g hg).1);have hrb:Rs w2 w.heap.size A' (ints ys):=hr'.below hb2;have hs2:=hb2.size;go_wp2_with (at_builtin;refine wpList_cat rfl (.tmp 7) (.tmp 8) 34 rfl w.heap.size 3 (.int .i64 0) 1 8 undSI infoI rfl (by decide) _ _ _ rfl ho2 A' ys.length c' w.heap.size (ints ys) rfl hrb hlb (one_of_ints _) ?d4 ?d5 ?d6 ?next2)
  case d4=>unfold maxLen;omega
  case d5=>omega
  case d6=>omega
  case next2 =>
   intro v3 w3 ho3 hgr3 _;have hb3:Below w.heap.size w w3:=hb2.grown hgr3 hs2 (fun g hg=>(ho2.lt g hg).1);rw [← ints_append,← List.length_append] at ho3;have hlz:(xs++ys).length≤268435456:=by rw [List.length_append];exact hl
   obtain ⟨zs,hzs⟩:∃ zs,zs=xs++ys:=⟨_,rfl⟩
   rw [← hzs] at ho3 hoo hlz;have HZ:=Lib.hid hzs;clear hzs;obtain ⟨A3,c3,rfl, -, -⟩:=owns_shape ho3;go_wp2_with fail;refine (spec_ReduceLetters A3 zs c3 w3 w3.heap.size (Rs.of_own ho3) (Nat.le_refl _) hoo.out hlz).mono ?_;rintro e w4 ⟨A4,c4,rfl,ho4,hb4⟩;go_wp2_with fail;go_ret;obtain rfl:=HZ.out;exact ⟨A4,c4,rfl,owns_base ho4 hb3.size,hb3.trans (hb4.mono hb3.size)⟩
theorem OSS.cut {w:World} {lo hi:Nat} {tSI tI:TypeId} {A:Option Addr} {c:Nat} {xss:List (List Int)} (h:OSS w lo hi tSI tI A c xss):∃ rows,rowsD rows=xss∧w.ownsRow lo tSI 1 (.slice A xss.length c) xss.length (rowsV rows)∧(∀ g,Value.ownBlock (.slice A xss.length c)=some g→g < hi)∧OwnRows w lo hi tI rows:=by
 obtain ⟨_,rows,h1,h2,h3⟩:=h;exact ⟨rows,h1,h2.2.1,h2.2.2,h3⟩
end
section
open Go.RowKit
end
section
open Go.RowKit
end
section
open Go.RowKit
end
end Go.Proofs.YthampgpcajmopaaGreat
