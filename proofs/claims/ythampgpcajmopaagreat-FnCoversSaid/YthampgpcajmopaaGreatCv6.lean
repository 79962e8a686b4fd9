/- Contracts and lemmas of this seat, many texts in one: see the words ahead of each. No condition beyond those typed in each lemma. -/
import Derived.Test.YthampgpcajmopaaGreatCv5
import Derived.ChangeAlike
import Derived.Test.YthampgpcajmopaaGreatCv2

namespace Go.Proofs.YthampgpcajmopaaGreat
set_option linter.unusedVariables false
set_option linter.unusedSimpArgs false
set_option maxHeartbeats 40000000
set_option maxRecDepth 100000
section
open Go.RowKit
theorem infoF:(Tryz.prog.info? 130).map (fun i=>(i.zero,i.size,i.bytes))=some (some (.agg #[.int .i64 0,.int .i64 0]),2,16):=by kernel_rfl
theorem undSF:Tryz.prog.underlying 103=some (.slice 130):=by kernel_rfl
section
variable {W:World} {ops:Array Oper} {rest:List Oper} {o:Oper} {a:Act} {Q:Exit→Act→World→Prop}
theorem wpList_pushF (hgd:o.guard=none) (s x:Operand)
  (ho:o.op=.call { callee:=.builtin .append,args:=#[s,x],argTypes:=#[103,103] }) (lo:Nat) (A:Option Addr) (n c:Nat) (ps:List (Int × Int)) (hs:a.eval s=.slice A n c)
  (hown:W.ownsRow lo 130 2 (.slice A n c) n (ints (fdI ps))) (p:Int × Int) (hx:a.eval x=.slice (some ⟨W.heap.size,0,none⟩) 1 1) (hn:n≤1048576) (hb:lo≤W.heap.size)
  (h:∀ A' c' w',w'.ownsRow lo 130 2 (.slice A' (n+1) c') (n+1) (ints (fdI (ps++[p])))→W.grownBy w' (Value.ownBlock (.slice A n c))→(Value.ownBlock (.slice A' (n+1) c')=Value.ownBlock (.slice A n c) ∨ Value.ownBlock (.slice A' (n+1) c')=some (W.heap.size+1))→wpList Tryz.prog ops Q rest (a.put o.dst (.slice A' (n+1) c')) w') :
  wpList Tryz.prog ops Q (o :: rest) a (W.alloc (.cells #[.int .i64 p.1,.int .i64 p.2] 130)):=by
 refine wpList_push (news:=[.int .i64 p.1,.int .i64 p.2]) hgd s x 103 ho lo 130 (.agg #[.int .i64 0,.int .i64 0]) 2 16 undSF infoF rfl (by decide) (.slice A n c) n (ints (fdI ps)) hs hown 1 hx rfl ?_ (by unfold maxLen;omega) (by omega) hb ?_
 ·intro u hu
  simp at hu;rcases hu with rfl | rfl <;> rfl
 ·intro v' w' h1 h2 h3
  obtain ⟨A',c',rfl, -, -⟩:=owns_shape h1;refine h A' c' w' ?_ h2 h3;rw [fdI_append,ints_append,fdI_one];exact h1
end
theorem impl_folds (r s:Int) (A:Option Addr) (es:List Ed) (c:Nat) (w:World) (lo hi:Nat) (hr:RG w lo hi A es) (hl:es.length≤120) (hcl:es.length≤c) :
  Calls Tryz.prog 244 #[graV r s A es.length c] w fun e w'=>∃ A1 c1,e=.returned (.slice A1 (folds es).length c1)∧RV w' 0 w'.heap.size A1 (ints (fdI (folds es)))∧Mid 0 0 w w':=by
 have hm0:Mid 0 0 w ((w.alloc (.cells #[.int .i64 r,.int .i64 s,.slice A es.length c] 26)).alloc (.cells #[] 130)):=(Mid.alloc _ _).trans (Mid.alloc _ _);have b0:=(Box.new w #[.int .i64 r,.int .i64 s,.slice A es.length c] 26).mid (Mid.alloc _ (.cells #[] 130)) oZr;have O0:=owns_empty (w.alloc (.cells #[.int .i64 r,.int .i64 s,.slice A es.length c] 26)) 130 2;rw [World.size_alloc] at O0;go_enter Tryz.func244,Tryz.ntmps244
 go_wp2_with fail;go_loopw [3,12] (fun out iv wr=>∃ (k:Nat) (A1:Option Addr) (n1 c1:Nat),k≤es.length∧iv=.int .i64 k∧out=.slice A1 n1 c1∧Hid ((foldsUp es k).length=n1)∧wr.ownsRow (w.heap.size+1) 130 2 (.slice A1 n1 c1) n1 (ints (fdI (foldsUp es k))) ∧
   Box wr w.heap.size [.int .i64 r,.int .i64 s,.slice A es.length c]∧Mid 0 0 w wr) (fun _ i _=>es.length - (intOf i).toNat)
 case atStart=>exact ⟨0,_,0,0,Nat.zero_le _,rfl,rfl,Lib.hid rfl,O0,b0,hm0⟩
 case round =>
  clear O0 b0 hm0;obtain ⟨wo,hwo⟩:∃ wo,wo=wr:=⟨_,rfl⟩
  subst hwo;obtain ⟨k,A1,n1,c1,hk,rfl,rfl,HN,hown,b0,hm⟩:=hrel;by_cases hlt:k < es.length
  ·obtain ⟨B,off,e,rfl, -,hbh,he,e0,e1,e2⟩:=(hr.mid hm oZl).ed hlt
   have HE:=Lib.hid he;have hk0:(0:Int)≤(k:Int):=by omega
   have hk1:(k:Int) < (es.length:Int):=by omega
   have hk2:(k:Int)+1≤(es.length:Int):=by omega
   have hal:=Mid.alloc wo (.cells #[.int .i64 e.a,.int .i64 e.l,.int .i64 e.b] 68);have ZE:=Box.new wo #[.int .i64 e.a,.int .i64 e.l,.int .i64 e.b] 68;have HNE:=Lib.hid (show Value.ownBlock (.slice A1 n1 c1)≠some wo.heap.size from fun h=>by have:=(hown.lt _ h).2;omega);have hown1:=hown.alloc (.cells #[.int .i64 e.a,.int .i64 e.l,.int .i64 e.b] 68);have b1:=b0.mid hal oZr;have hm1:=hm.trans hal;have h0o:=b0.1;have p0:=b0.cell 0 rfl;have p1:=b0.cell 1 rfl;have p2:=b0.cell 2 rfl;clear he hown;by_cases hck:c=k+1
   ·have hrd:RG w lo hi (some ⟨B,off,none⟩) (es.drop (k+1)):=⟨hr.1,fun h=>absurd (show ints (edI (es.drop (k+1)))=[] by rw [List.drop_of_length_le (by omega)];rfl) h⟩
    have hckF:(c=k+1)=True:=eq_true hck;have hce:k+1≤c:=by omega
    clear hck;go_wp2_with fail;clear p0 p1 p2 e0 e1 e2;go_loopw [3,23] (fun out jv wr=>∃ (j:Nat) (A2:Option Addr) (n2 c2:Nat),j≤es.length - (k+1)∧jv=.int .i64 j∧out=.slice A2 n2 c2∧Hid ((foldsUp es k++((es.drop (k+1)).take j).flatMap (foldsAB e)).length=n2) ∧
      wr.ownsRow (w.heap.size+1) 130 2 (.slice A2 n2 c2) n2 (ints (fdI (foldsUp es k++((es.drop (k+1)).take j).flatMap (foldsAB e))))∧Hid (Value.ownBlock (.slice A2 n2 c2)≠some wo.heap.size) ∧
      Box wr w.heap.size [.int .i64 r,.int .i64 s,.slice (some ⟨B,off,none⟩) es.length c]∧Box wr wo.heap.size [.int .i64 e.a,.int .i64 e.l,.int .i64 e.b]∧Mid 0 0 w wr) (fun _ j _=>es.length - (k+1) - (intOf j).toNat)
    case atStart=>exact ⟨0,A1,n1,c1,Nat.zero_le _,rfl,rfl,Lib.hid (by simpa using HN.out),by simpa using hown1,HNE,b1,ZE,hm1⟩
    case round =>
     clear hown1 b1 ZE hm1 HN HNE;obtain ⟨j,A2,n2,c2,hj,rfl,rfl,HN,hown,HNE,b0,ZE,hm⟩:=hrel;have hn2:n2≤40000:=by
      have h1:=foldsUp_len es k;have h2:=flat_len e ((es.drop (k+1)).take j);have h3:=HN.out;have h4:k * (2 * es.length)≤120 * 240:=Nat.mul_le_mul (by omega) (by omega);rw [List.length_append] at h3;rw [List.length_take,List.length_drop] at h2;omega
     by_cases hlt2:j < es.length - (k+1)
     ·obtain ⟨B',off',f,hX, -,hbh2,hf,f0,f1,f2⟩:=(hrd.mid hm oZl).ed (k:=j) (by rw [List.length_drop];exact hlt2)
      injection hX with hX
      injection hX with hX1 hX2
      subst hX1 hX2;have HF:=Lib.hid (flat_take (e:=e) hf);have hj0:(0:Int)≤(j:Int):=by omega
      have hjn:(j:Int) < ((es.length - (k+1):Nat):Int):=by omega
      have hal:=Mid.alloc wr (.cells #[.int .i64 f.a,.int .i64 f.l,.int .i64 f.b] 68);have ZF:=Box.new wr #[.int .i64 f.a,.int .i64 f.l,.int .i64 f.b] 68;have hGw:wo.heap.size < wr.heap.size:=ZE.1;have h0r:w.heap.size < wr.heap.size:=b0.1;have HFE:=Lib.hid (show Value.ownBlock (.slice A2 n2 c2)≠some wr.heap.size from fun h=>by have:=(hown.lt _ h).2;omega);have hownA:=hown.alloc (.cells #[.int .i64 f.a,.int .i64 f.l,.int .i64 f.b] 68);have hB0:=Lib.hid (fun (g:Nat) (h:Value.ownBlock (.slice A2 n2 c2)=some g)=>(hown.lt g h).1);replace b0:=b0.mid hal oZr;replace ZE:=ZE.mid hal oZr;replace hm:=hm.trans hal;have g0:=ZE.cell 0 rfl;have g1:=ZE.cell 1 rfl;have g2:=ZE.cell 2 rfl;have h0:=ZF.cell 0 rfl;have h1:=ZF.cell 1 rfl;have h2:=ZF.cell 2 rfl;have HW:=Lib.hid hownA;have hszA:w.heap.size+1≤(wr.alloc (.cells #[.int .i64 f.a,.int .i64 f.l,.int .i64 f.b] 68)).heap.size:=by simp;omega
      clear hf hown hownA;by_cases e1:e.l=f.l
      ·have d1:(e.l != f.l)=false:=by simpa using e1
       by_cases e2:e.a=f.a
       ·have d2:(e.a == f.a)=true:=by simpa using e2
        by_cases e3:e.b=f.b
        ·have d3:(e.b == f.b)=true:=by simpa using e3
         have hAB:foldsAB e f=[(min e.b f.b,max e.b f.b),(min e.a f.a,max e.a f.a)]:=by simp [foldsAB,e1,e2,e3]
         have HAB:Hid (foldsUp es k++((es.drop (k+1)).take (j+1)).flatMap (foldsAB e)=(foldsUp es k++((es.drop (k+1)).take j).flatMap (foldsAB e))++[(min e.b f.b,max e.b f.b)]++[(min e.a f.a,max e.a f.a)]):=Lib.hid (by rw [HF.out,hAB];simp);clear e1 e2 e3 hAB;go_wp2_with (first | (at_builtin;refine wpList_pushF rfl _ _ rfl (w.heap.size+1) A2 n2 c2 _ rfl HW.out (min e.b f.b,max e.b f.b) (by rw [World.size_alloc];rfl) (by omega) hszA ?_;intro A8 c8 w8 ho8 hgr8 hat8;have ZE8:=ZE.grown hgr8 HNE.out;have ZF8:=ZF.grown hgr8 HFE.out;have g80:=ZE8.cell 0 rfl;have g81:=ZE8.cell 1 rfl;have g82:=ZE8.cell 2 rfl;have h80:=ZF8.cell 0 rfl;have h81:=ZF8.cell 1 rfl;have h82:=ZF8.cell 2 rfl;have HW8:=Lib.hid ho8;have hsz8:=Nat.le_trans hszA hgr8.size;clear ho8) | (at_builtin;refine wpList_pushF rfl _ _ rfl (w.heap.size+1) A8 (n2+1) c8 _ rfl HW8.out (min e.a f.a,max e.a f.a) rfl (by omega) hsz8 ?_;intro A9 c9 w9 ho9 hgr9 hat9))
         have hm8:=Mid.of_grownRow HW.out hgr8;have hm9:=Mid.of_grownRow HW8.out hgr9;have hs8:wr.heap.size+1≤w8.heap.size:=by have:=hgr8.size;simpa using this
         have HN8:Hid (Value.ownBlock (.slice A8 (n2+1) c8)≠some wo.heap.size):=Lib.hid (by
          rcases hat8 with h | h
          ·rw [h];exact HNE.out
          ·rw [h]
           intro he;injection he with he
           simp at he;omega)
         have HN9:Hid (Value.ownBlock (.slice A9 (n2+1+1) c9)≠some wo.heap.size):=Lib.hid (by
          rcases hat9 with h | h
          ·rw [h];exact HN8.out
          ·rw [h]
           intro he;injection he with he
           omega)
         have HB8:=Lib.hid (fun (g:Nat) (h:Value.ownBlock (.slice A8 (n2+1) c8)=some g)=>(HW8.out.lt g h).1);clear hat9 hat8;go_roundw
         case rel=>exact ⟨j+1,A9,n2+1+1,c9,by omega,by go_num,rfl,Lib.hid (by rw [HAB.out,List.length_append,List.length_append,HN.out];rfl),by rw [HAB.out];exact ho9,HN9,(b0.grown hgr8 (fun h=>by have:=hB0.out _ h;omega)).grown hgr9 (fun h=>by have:=HB8.out _ h;omega),ZE8.grown hgr9 HN8.out,(hm.transNew hm8 (Or.inl (Nat.le_succ _))).transNew hm9 (Or.inl (Nat.le_succ _))⟩
         case measure=>simp [intOf];omega
        ·have d3:(e.b == f.b)=false:=by simpa only [beq_eq_false_iff_ne] using e3
         have hAB:foldsAB e f=[(min e.b f.b,max e.b f.b)]:=by simp [foldsAB,e1,e2,e3]
         have HAB:Hid (foldsUp es k++((es.drop (k+1)).take (j+1)).flatMap (foldsAB e)=(foldsUp es k++((es.drop (k+1)).take j).flatMap (foldsAB e))++[(min e.b f.b,max e.b f.b)]):=Lib.hid (by rw [HF.out,hAB,List.append_assoc]);clear e1 e2 e3 hAB;go_wp2_with (at_builtin;refine wpList_pushF rfl _ _ rfl (w.heap.size+1) A2 n2 c2 _ rfl HW.out (min e.b f.b,max e.b f.b) (by rw [World.size_alloc];rfl) (by omega) hszA ?_;intro A9 c9 w9 ho9 hgr9 hat9;have ZE8:=ZE.grown hgr9 HNE.out;have ZF8:=ZF.grown hgr9 HFE.out;have g80:=ZE8.cell 0 rfl;have g81:=ZE8.cell 1 rfl;have g82:=ZE8.cell 2 rfl;have h80:=ZF8.cell 0 rfl;have h81:=ZF8.cell 1 rfl;have h82:=ZF8.cell 2 rfl)
         have hm9:=Mid.of_grownRow HW.out hgr9;have HN9:Hid (Value.ownBlock (.slice A9 (n2+1) c9)≠some wo.heap.size):=Lib.hid (by
          rcases hat9 with h | h
          ·rw [h];exact HNE.out
          ·rw [h]
           intro he;injection he with he
           simp at he;omega)
         clear hat9;go_roundw
         case rel=>exact ⟨j+1,A9,n2+1,c9,by omega,by go_num,rfl,Lib.hid (by rw [HAB.out,List.length_append,HN.out];rfl),by rw [HAB.out];exact ho9,HN9,b0.grown hgr9 (fun h=>by have:=hB0.out _ h;omega),ZE.grown hgr9 HNE.out,hm.transNew hm9 (Or.inl (Nat.le_succ _))⟩
         case measure=>simp [intOf];omega
       ·have d2:(e.a == f.a)=false:=by simpa only [beq_eq_false_iff_ne] using e2
        by_cases e3:e.b=f.b
        ·have d3:(e.b == f.b)=true:=by simpa using e3
         have hAB:foldsAB e f=[(min e.a f.a,max e.a f.a)]:=by simp [foldsAB,e1,e2,e3]
         have HAB:Hid (foldsUp es k++((es.drop (k+1)).take (j+1)).flatMap (foldsAB e)=(foldsUp es k++((es.drop (k+1)).take j).flatMap (foldsAB e))++[(min e.a f.a,max e.a f.a)]):=Lib.hid (by rw [HF.out,hAB,List.append_assoc]);clear e1 e2 e3 hAB;go_wp2_with (at_builtin;refine wpList_pushF rfl _ _ rfl (w.heap.size+1) A2 n2 c2 _ rfl HW.out (min e.a f.a,max e.a f.a) (by rw [World.size_alloc];rfl) (by omega) hszA ?_;intro A9 c9 w9 ho9 hgr9 hat9;have ZE8:=ZE.grown hgr9 HNE.out;have ZF8:=ZF.grown hgr9 HFE.out;have g80:=ZE8.cell 0 rfl;have g81:=ZE8.cell 1 rfl;have g82:=ZE8.cell 2 rfl;have h80:=ZF8.cell 0 rfl;have h81:=ZF8.cell 1 rfl;have h82:=ZF8.cell 2 rfl)
         have hm9:=Mid.of_grownRow HW.out hgr9;have HN9:Hid (Value.ownBlock (.slice A9 (n2+1) c9)≠some wo.heap.size):=Lib.hid (by
          rcases hat9 with h | h
          ·rw [h];exact HNE.out
          ·rw [h]
           intro he;injection he with he
           simp at he;omega)
         clear hat9;go_roundw
         case rel=>exact ⟨j+1,A9,n2+1,c9,by omega,by go_num,rfl,Lib.hid (by rw [HAB.out,List.length_append,HN.out];rfl),by rw [HAB.out];exact ho9,HN9,b0.grown hgr9 (fun h=>by have:=hB0.out _ h;omega),ZE.grown hgr9 HNE.out,hm.transNew hm9 (Or.inl (Nat.le_succ _))⟩
         case measure=>simp [intOf];omega
        ·have d3:(e.b == f.b)=false:=by simpa only [beq_eq_false_iff_ne] using e3
         have hAB:foldsAB e f=[]:=by simp [foldsAB,e1,e2,e3]
         have HAB:Hid (((es.drop (k+1)).take (j+1)).flatMap (foldsAB e)=((es.drop (k+1)).take j).flatMap (foldsAB e)):=Lib.hid (by rw [HF.out,hAB,List.append_nil]);clear e1 e2 e3 hAB;go_wp2_with fail;go_roundw
         case rel=>exact ⟨j+1,A2,n2,c2,by omega,by go_num,rfl,by rw [HAB.out];exact HN,by rw [HAB.out];exact HW.out,HNE,b0,ZE,hm⟩
         case measure=>simp [intOf];omega
      ·have d1:(e.l != f.l)=true:=by simpa using e1
       have hAB:foldsAB e f=[]:=by unfold foldsAB;rw [if_neg e1]
       have HAB:Hid (((es.drop (k+1)).take (j+1)).flatMap (foldsAB e)=((es.drop (k+1)).take j).flatMap (foldsAB e)):=Lib.hid (by rw [HF.out,hAB,List.append_nil]);clear e1 hAB;go_wp2_with fail;go_roundw
       case rel=>exact ⟨j+1,A2,n2,c2,by omega,by go_num,rfl,by rw [HAB.out];exact HN,by rw [HAB.out];exact HW.out,HNE,b0,ZE,hm⟩
       case measure=>simp [intOf];omega
     ·obtain rfl:j=es.length - (k+1):=by omega
      rw [List.take_of_length_le (by rw [List.length_drop];exact Nat.le_refl _),← foldsUp_succ HE.out] at HN hown;go_wp2_with fail;go_roundw
      case rel=>exact ⟨k+1,A2,n2,c2,by omega,by go_num,rfl,HN,hown,b0,hm⟩
      case measure=>simp [intOf];omega
   ·have hrd:=hr.drop (k:=k+1)
    have hckF:(c=k+1)=False:=eq_false hck;have hce:k+1≤c:=by omega
    clear hck;go_wp2_with fail;clear p0 p1 p2 e0 e1 e2;go_loopw [3,23] (fun out jv wr=>∃ (j:Nat) (A2:Option Addr) (n2 c2:Nat),j≤es.length - (k+1)∧jv=.int .i64 j∧out=.slice A2 n2 c2∧Hid ((foldsUp es k++((es.drop (k+1)).take j).flatMap (foldsAB e)).length=n2) ∧
      wr.ownsRow (w.heap.size+1) 130 2 (.slice A2 n2 c2) n2 (ints (fdI (foldsUp es k++((es.drop (k+1)).take j).flatMap (foldsAB e))))∧Hid (Value.ownBlock (.slice A2 n2 c2)≠some wo.heap.size) ∧
      Box wr w.heap.size [.int .i64 r,.int .i64 s,.slice (some ⟨B,off,none⟩) es.length c]∧Box wr wo.heap.size [.int .i64 e.a,.int .i64 e.l,.int .i64 e.b]∧Mid 0 0 w wr) (fun _ j _=>es.length - (k+1) - (intOf j).toNat)
    case atStart=>exact ⟨0,A1,n1,c1,Nat.zero_le _,rfl,rfl,Lib.hid (by simpa using HN.out),by simpa using hown1,HNE,b1,ZE,hm1⟩
    case round =>
     clear hown1 b1 ZE hm1 HN HNE;obtain ⟨j,A2,n2,c2,hj,rfl,rfl,HN,hown,HNE,b0,ZE,hm⟩:=hrel;have hn2:n2≤40000:=by
      have h1:=foldsUp_len es k;have h2:=flat_len e ((es.drop (k+1)).take j);have h3:=HN.out;have h4:k * (2 * es.length)≤120 * 240:=Nat.mul_le_mul (by omega) (by omega);rw [List.length_append] at h3;rw [List.length_take,List.length_drop] at h2;omega
     by_cases hlt2:j < es.length - (k+1)
     ·obtain ⟨B',off',f,hX, -,hbh2,hf,f0,f1,f2⟩:=(hrd.mid hm oZl).ed (k:=j) (by rw [List.length_drop];exact hlt2)
      injection hX with hX
      injection hX with hX1 hX2
      subst hX1 hX2;have HF:=Lib.hid (flat_take (e:=e) hf);have hj0:(0:Int)≤(j:Int):=by omega
      have hjn:(j:Int) < ((es.length - (k+1):Nat):Int):=by omega
      have hal:=Mid.alloc wr (.cells #[.int .i64 f.a,.int .i64 f.l,.int .i64 f.b] 68);have ZF:=Box.new wr #[.int .i64 f.a,.int .i64 f.l,.int .i64 f.b] 68;have hGw:wo.heap.size < wr.heap.size:=ZE.1;have h0r:w.heap.size < wr.heap.size:=b0.1;have HFE:=Lib.hid (show Value.ownBlock (.slice A2 n2 c2)≠some wr.heap.size from fun h=>by have:=(hown.lt _ h).2;omega);have hownA:=hown.alloc (.cells #[.int .i64 f.a,.int .i64 f.l,.int .i64 f.b] 68);have hB0:=Lib.hid (fun (g:Nat) (h:Value.ownBlock (.slice A2 n2 c2)=some g)=>(hown.lt g h).1);replace b0:=b0.mid hal oZr;replace ZE:=ZE.mid hal oZr;replace hm:=hm.trans hal;have g0:=ZE.cell 0 rfl;have g1:=ZE.cell 1 rfl;have g2:=ZE.cell 2 rfl;have h0:=ZF.cell 0 rfl;have h1:=ZF.cell 1 rfl;have h2:=ZF.cell 2 rfl;have HW:=Lib.hid hownA;have hszA:w.heap.size+1≤(wr.alloc (.cells #[.int .i64 f.a,.int .i64 f.l,.int .i64 f.b] 68)).heap.size:=by simp;omega
      clear hf hown hownA;by_cases e1:e.l=f.l
      ·have d1:(e.l != f.l)=false:=by simpa using e1
       by_cases e2:e.a=f.a
       ·have d2:(e.a == f.a)=true:=by simpa using e2
        by_cases e3:e.b=f.b
        ·have d3:(e.b == f.b)=true:=by simpa using e3
         have hAB:foldsAB e f=[(min e.b f.b,max e.b f.b),(min e.a f.a,max e.a f.a)]:=by simp [foldsAB,e1,e2,e3]
         have HAB:Hid (foldsUp es k++((es.drop (k+1)).take (j+1)).flatMap (foldsAB e)=(foldsUp es k++((es.drop (k+1)).take j).flatMap (foldsAB e))++[(min e.b f.b,max e.b f.b)]++[(min e.a f.a,max e.a f.a)]):=Lib.hid (by rw [HF.out,hAB];simp);clear e1 e2 e3 hAB;go_wp2_with (first | (at_builtin;refine wpList_pushF rfl _ _ rfl (w.heap.size+1) A2 n2 c2 _ rfl HW.out (min e.b f.b,max e.b f.b) (by rw [World.size_alloc];rfl) (by omega) hszA ?_;intro A8 c8 w8 ho8 hgr8 hat8;have ZE8:=ZE.grown hgr8 HNE.out;have ZF8:=ZF.grown hgr8 HFE.out;have g80:=ZE8.cell 0 rfl;have g81:=ZE8.cell 1 rfl;have g82:=ZE8.cell 2 rfl;have h80:=ZF8.cell 0 rfl;have h81:=ZF8.cell 1 rfl;have h82:=ZF8.cell 2 rfl;have HW8:=Lib.hid ho8;have hsz8:=Nat.le_trans hszA hgr8.size;clear ho8) | (at_builtin;refine wpList_pushF rfl _ _ rfl (w.heap.size+1) A8 (n2+1) c8 _ rfl HW8.out (min e.a f.a,max e.a f.a) rfl (by omega) hsz8 ?_;intro A9 c9 w9 ho9 hgr9 hat9))
         have hm8:=Mid.of_grownRow HW.out hgr8;have hm9:=Mid.of_grownRow HW8.out hgr9;have hs8:wr.heap.size+1≤w8.heap.size:=by have:=hgr8.size;simpa using this
         have HN8:Hid (Value.ownBlock (.slice A8 (n2+1) c8)≠some wo.heap.size):=Lib.hid (by
          rcases hat8 with h | h
          ·rw [h];exact HNE.out
          ·rw [h]
           intro he;injection he with he
           simp at he;omega)
         have HN9:Hid (Value.ownBlock (.slice A9 (n2+1+1) c9)≠some wo.heap.size):=Lib.hid (by
          rcases hat9 with h | h
          ·rw [h];exact HN8.out
          ·rw [h]
           intro he;injection he with he
           omega)
         have HB8:=Lib.hid (fun (g:Nat) (h:Value.ownBlock (.slice A8 (n2+1) c8)=some g)=>(HW8.out.lt g h).1);clear hat9 hat8;go_roundw
         case rel=>exact ⟨j+1,A9,n2+1+1,c9,by omega,by go_num,rfl,Lib.hid (by rw [HAB.out,List.length_append,List.length_append,HN.out];rfl),by rw [HAB.out];exact ho9,HN9,(b0.grown hgr8 (fun h=>by have:=hB0.out _ h;omega)).grown hgr9 (fun h=>by have:=HB8.out _ h;omega),ZE8.grown hgr9 HN8.out,(hm.transNew hm8 (Or.inl (Nat.le_succ _))).transNew hm9 (Or.inl (Nat.le_succ _))⟩
         case measure=>simp [intOf];omega
        ·have d3:(e.b == f.b)=false:=by simpa only [beq_eq_false_iff_ne] using e3
         have hAB:foldsAB e f=[(min e.b f.b,max e.b f.b)]:=by simp [foldsAB,e1,e2,e3]
         have HAB:Hid (foldsUp es k++((es.drop (k+1)).take (j+1)).flatMap (foldsAB e)=(foldsUp es k++((es.drop (k+1)).take j).flatMap (foldsAB e))++[(min e.b f.b,max e.b f.b)]):=Lib.hid (by rw [HF.out,hAB,List.append_assoc]);clear e1 e2 e3 hAB;go_wp2_with (at_builtin;refine wpList_pushF rfl _ _ rfl (w.heap.size+1) A2 n2 c2 _ rfl HW.out (min e.b f.b,max e.b f.b) (by rw [World.size_alloc];rfl) (by omega) hszA ?_;intro A9 c9 w9 ho9 hgr9 hat9;have ZE8:=ZE.grown hgr9 HNE.out;have ZF8:=ZF.grown hgr9 HFE.out;have g80:=ZE8.cell 0 rfl;have g81:=ZE8.cell 1 rfl;have g82:=ZE8.cell 2 rfl;have h80:=ZF8.cell 0 rfl;have h81:=ZF8.cell 1 rfl;have h82:=ZF8.cell 2 rfl)
         have hm9:=Mid.of_grownRow HW.out hgr9;have HN9:Hid (Value.ownBlock (.slice A9 (n2+1) c9)≠some wo.heap.size):=Lib.hid (by
          rcases hat9 with h | h
          ·rw [h];exact HNE.out
          ·rw [h]
           intro he;injection he with he
           simp at he;omega)
         clear hat9;go_roundw
         case rel=>exact ⟨j+1,A9,n2+1,c9,by omega,by go_num,rfl,Lib.hid (by rw [HAB.out,List.length_append,HN.out];rfl),by rw [HAB.out];exact ho9,HN9,b0.grown hgr9 (fun h=>by have:=hB0.out _ h;omega),ZE.grown hgr9 HNE.out,hm.transNew hm9 (Or.inl (Nat.le_succ _))⟩
         case measure=>simp [intOf];omega
       ·have d2:(e.a == f.a)=false:=by simpa only [beq_eq_false_iff_ne] using e2
        by_cases e3:e.b=f.b
        ·have d3:(e.b == f.b)=true:=by simpa using e3
         have hAB:foldsAB e f=[(min e.a f.a,max e.a f.a)]:=by simp [foldsAB,e1,e2,e3]
         have HAB:Hid (foldsUp es k++((es.drop (k+1)).take (j+1)).flatMap (foldsAB e)=(foldsUp es k++((es.drop (k+1)).take j).flatMap (foldsAB e))++[(min e.a f.a,max e.a f.a)]):=Lib.hid (by rw [HF.out,hAB,List.append_assoc]);clear e1 e2 e3 hAB;go_wp2_with (at_builtin;refine wpList_pushF rfl _ _ rfl (w.heap.size+1) A2 n2 c2 _ rfl HW.out (min e.a f.a,max e.a f.a) (by rw [World.size_alloc];rfl) (by omega) hszA ?_;intro A9 c9 w9 ho9 hgr9 hat9;have ZE8:=ZE.grown hgr9 HNE.out;have ZF8:=ZF.grown hgr9 HFE.out;have g80:=ZE8.cell 0 rfl;have g81:=ZE8.cell 1 rfl;have g82:=ZE8.cell 2 rfl;have h80:=ZF8.cell 0 rfl;have h81:=ZF8.cell 1 rfl;have h82:=ZF8.cell 2 rfl)
         have hm9:=Mid.of_grownRow HW.out hgr9;have HN9:Hid (Value.ownBlock (.slice A9 (n2+1) c9)≠some wo.heap.size):=Lib.hid (by
          rcases hat9 with h | h
          ·rw [h];exact HNE.out
          ·rw [h]
           intro he;injection he with he
           simp at he;omega)
         clear hat9;go_roundw
         case rel=>exact ⟨j+1,A9,n2+1,c9,by omega,by go_num,rfl,Lib.hid (by rw [HAB.out,List.length_append,HN.out];rfl),by rw [HAB.out];exact ho9,HN9,b0.grown hgr9 (fun h=>by have:=hB0.out _ h;omega),ZE.grown hgr9 HNE.out,hm.transNew hm9 (Or.inl (Nat.le_succ _))⟩
         case measure=>simp [intOf];omega
        ·have d3:(e.b == f.b)=false:=by simpa only [beq_eq_false_iff_ne] using e3
         have hAB:foldsAB e f=[]:=by simp [foldsAB,e1,e2,e3]
         have HAB:Hid (((es.drop (k+1)).take (j+1)).flatMap (foldsAB e)=((es.drop (k+1)).take j).flatMap (foldsAB e)):=Lib.hid (by rw [HF.out,hAB,List.append_nil]);clear e1 e2 e3 hAB;go_wp2_with fail;go_roundw
         case rel=>exact ⟨j+1,A2,n2,c2,by omega,by go_num,rfl,by rw [HAB.out];exact HN,by rw [HAB.out];exact HW.out,HNE,b0,ZE,hm⟩
         case measure=>simp [intOf];omega
      ·have d1:(e.l != f.l)=true:=by simpa using e1
       have hAB:foldsAB e f=[]:=by unfold foldsAB;rw [if_neg e1]
       have HAB:Hid (((es.drop (k+1)).take (j+1)).flatMap (foldsAB e)=((es.drop (k+1)).take j).flatMap (foldsAB e)):=Lib.hid (by rw [HF.out,hAB,List.append_nil]);clear e1 hAB;go_wp2_with fail;go_roundw
       case rel=>exact ⟨j+1,A2,n2,c2,by omega,by go_num,rfl,by rw [HAB.out];exact HN,by rw [HAB.out];exact HW.out,HNE,b0,ZE,hm⟩
       case measure=>simp [intOf];omega
     ·obtain rfl:j=es.length - (k+1):=by omega
      rw [List.take_of_length_le (by rw [List.length_drop];exact Nat.le_refl _),← foldsUp_succ HE.out] at HN hown;go_wp2_with fail;go_roundw
      case rel=>exact ⟨k+1,A2,n2,c2,by omega,by go_num,rfl,HN,hown,b0,hm⟩
      case measure=>simp [intOf];omega
  ·obtain rfl:k=es.length:=by omega
   rw [foldsUp_all] at HN hown;have hx:=HN.out;go_wp2_with fail;go_ret;exact ⟨A1,c1,by rw [hx];rfl,(owns_rv hown).wide (Nat.zero_le _) (Nat.le_refl _) (Nat.le_refl _),hm⟩
end
section
open Go.RowKit
attribute [local go_sem ↓] Go.wp_at_zero Go.wp_at_succ
def FirstIs (es:List Ed) (p:Int × Int) (b:Bool):Prop:=(b=false∧folds es=[]∧p=(0,0)) ∨ (b=true∧∃ t,folds es=p :: t)
theorem impl_FirstFold (r s:Int) (A:Option Addr) (es:List Ed) (c:Nat) (w:World) (lo hi:Nat) (hr:RG w lo hi A es) (hcl:es.length≤c) (hg:IsGr r s es) (p:Int × Int) (b:Bool) (hp:FirstIs es p b) :
  Calls Tryz.prog 227 #[graV r s A es.length c] w fun e w'=>e=.returned (.tuple #[.agg #[.int .i64 p.1,.int .i64 p.2],.bool b])∧Mid 0 0 w w':=by
 have hl:=hg.len;have HG:=Lib.hid hg;have hm0:Mid 0 0 w ((w.alloc (.cells #[.int .i64 r,.int .i64 s,.slice A es.length c] 26)).alloc (.cells #[.int .i64 0,.int .i64 0] 130)):=(Mid.alloc _ _).trans (Mid.alloc _ _);have b0:=(Box.new w #[.int .i64 r,.int .i64 s,.slice A es.length c] 26).mid (Mid.alloc _ (.cells #[.int .i64 0,.int .i64 0] 130)) oZr;have b2:=Box.new (w.alloc (.cells #[.int .i64 r,.int .i64 s,.slice A es.length c] 26)) #[.int .i64 0,.int .i64 0] 130;rw [World.size_alloc] at b2;clear hg;obtain ⟨p1,p2⟩:=p;go_enter Tryz.func227,Tryz.ntmps227
 go_wp2_with fail;with_reducible refine (impl_IsGraph r s A es c _ _ _ (hr.mid hm0 oZl).rv (by omega) true (iff_of_true rfl HG.out)).mono ?_
 rintro en w1 ⟨rfl,hm1⟩;replace b0:=b0.mid hm1 oZr;replace b2:=b2.mid hm1 oZr;replace hm0:=hm0.trans hm1;have q0:=b0.cell 0 rfl;have q1:=b0.cell 1 rfl;have q2:=b0.cell 2 rfl;go_wp2_with fail;with_reducible refine (impl_folds r s A es c _ _ _ (hr.mid hm0 oZl) hl hcl).mono ?_
 rintro en w2 ⟨A2,c2,rfl,hrv,hm2⟩;replace b2:=b2.mid hm2 oZr;replace hm0:=hm0.trans hm2;have zf:=b2.2.2;have z0:=b2.cell 0 rfl;have z1:=b2.cell 1 rfl;clear q0 q1 q2 hm1 hm2;rcases hp with ⟨rfl,hn,hpp⟩ | ⟨rfl,t,ht⟩
 ·injection hpp with h1 h2
  subst h1 h2;have hn0:(folds es).length=0:=by rw [hn];rfl
  clear hn;go_wp2_with fail;refine bodyPost_ret (v:=.tuple #[.agg #[.int .i64 0,.int .i64 0],.bool false]) (by simp [results,Tryz.results227,go_sem,z0,z1,zf]) rfl ⟨rfl,?_⟩;repeat (first | exact hm0 | refine Mid.storeNew ?_ (by simp;try omega) _)
 ·obtain ⟨nl,hnl⟩:∃ nl,(folds es).length=nl+1:=⟨t.length,by rw [ht];rfl⟩
  obtain ⟨g,off,rfl, -, -,hc⟩:=hrv.2 (by rw [ht];simp [fdI_head,ints]);have y0:=hc 0 (.int .i64 p1) (by rw [ht];simp [fdI_head,ints]);have y1:=hc 1 (.int .i64 p2) (by rw [ht];simp [fdI_head,ints]);rw [Nat.add_zero] at y0;have hd:((nl+1:Nat) == 0)=false:=by simp
  rw [hnl];have h1:(0:Int) < ((nl+1:Nat):Int):=by omega
  clear hc ht hrv hnl;go_wp2_with fail;refine bodyPost_ret (v:=.tuple #[.agg #[.int .i64 p1,.int .i64 p2],.bool true]) (by simp [results,Tryz.results227,go_sem,z0,z1,zf]) rfl ⟨rfl,?_⟩;repeat (first | exact hm0 | refine Mid.storeNew ?_ (by simp;try omega) _)
theorem fold_place (B:Nat) (p1 p2 v:Int) (w:World) (hc:w.cell? ⟨B,0,none⟩=some (.int .i64 p1)) (hc1:w.cell? ⟨B,1,none⟩=some (.int .i64 p2)) (h3:0≤v) (h4:v < 40) :
  Calls Tryz.prog 245 #[.int .i64 v,.pointer (some ⟨B,0,none⟩)] w fun e w'=>e=.returned (.int .i64 (foldV (p1,p2) v))∧w'=w:=by
 by_cases h0:v=p2
 ·have hv:foldV (p1,p2) v=p1:=by simp [foldV,h0]
  have hb:(v == p2)=true:=by simpa using h0
  rw [hv];clear hv h0;go_enter Tryz.func245,Tryz.ntmps245
  go_wp2_with fail;go_ret;exact ⟨rfl,rfl⟩
 ·have hb:(v == p2)=false:=by simpa only [beq_eq_false_iff_ne] using h0
  by_cases h1:p2 < v
  ·have hv:foldV (p1,p2) v=v - 1:=by simp [foldV,h0,h1]
   have hd:decide (p2 < v)=true:=by simpa using h1
   rw [hv];clear hv h0;go_enter Tryz.func245,Tryz.ntmps245
   go_wp2_with fail;go_ret;exact ⟨rfl,rfl⟩
  ·have hv:foldV (p1,p2) v=v:=by simp [foldV,h0,h1]
   have hd:decide (p2 < v)=false:=by simpa using h1
   rw [hv];clear hv h0;go_enter Tryz.func245,Tryz.ntmps245
   go_wp2_with fail;go_ret;exact ⟨rfl,rfl⟩
end
section
open Go.RowKit
attribute [local go_sem ↓] Go.wp_at_zero Go.wp_at_succ
theorem map_step {es:List Ed} {f:Ed→Ed} {k:Nat} {e:Ed} (h:es[k]?=some e):((es.take k).map f++es.drop k).set k (f e)=(es.take (k+1)).map f++es.drop (k+1):=by
 obtain ⟨hk,h'⟩:=List.getElem?_eq_some_iff.1 h;have hl:((es.take k).map f).length=k:=by rw [List.length_map,List.length_take];omega
 rw [List.drop_eq_getElem_cons hk,h',List.set_append_right _ _ (by omega),hl,Nat.sub_self,List.set_cons_zero,take_snoc h,List.map_append];simp
theorem map_here {es:List Ed} {f:Ed→Ed} {k:Nat} {e:Ed} (h:es[k]?=some e):((es.take k).map f++es.drop k)[k]?=some e:=by
 obtain ⟨hk,h'⟩:=List.getElem?_eq_some_iff.1 h;have hl:((es.take k).map f).length=k:=by rw [List.length_map,List.length_take];omega
 rw [List.getElem?_append_right (by omega),hl,Nat.sub_self,List.getElem?_drop,Nat.add_zero,h]
theorem impl_MergeVertices (r s:Int) (A:Option Addr) (es:List Ed) (c:Nat) (p1 p2:Int) (w:World) (lo hi:Nat) (hr:RG w lo hi A es) (hg:IsGr r s es) (h0:0≤p1) (h1:p1 < p2) (h2:p2 < s) :
  Calls Tryz.prog 228 #[graV r s A es.length c,.agg #[.int .i64 p1,.int .i64 p2]] w fun e w'=>∃ A1 c1,e=.returned (.tuple #[graV r (s - 1) A1 (mergeE (p1,p2) es).length c1,.bool true])∧OG w' w.heap.size w'.heap.size A1 c1 (mergeE (p1,p2) es)∧Mid 0 0 w w':=by
 have hl:=hg.len;have hs40:=hg.size;have HG:=Lib.hid hg;have hm0:Mid 0 0 w (((w.alloc (.cells #[.int .i64 r,.int .i64 s,.slice A es.length c] 26)).alloc (.cells #[.int .i64 p1,.int .i64 p2] 130)).alloc (.cells #[.int .i64 0,.int .i64 0,.slice none 0 0] 26)):=((Mid.alloc _ _).trans (Mid.alloc _ _)).trans (Mid.alloc _ _);have b0:=((Box.new w #[.int .i64 r,.int .i64 s,.slice A es.length c] 26).mid (Mid.alloc _ (.cells #[.int .i64 p1,.int .i64 p2] 130)) oZr).mid (Mid.alloc _ (.cells #[.int .i64 0,.int .i64 0,.slice none 0 0] 26)) oZr;have bf:=(Box.new (w.alloc (.cells #[.int .i64 r,.int .i64 s,.slice A es.length c] 26)) #[.int .i64 p1,.int .i64 p2] 130).mid (Mid.alloc _ (.cells #[.int .i64 0,.int .i64 0,.slice none 0 0] 26)) oZr;have b2:=Box.new ((w.alloc (.cells #[.int .i64 r,.int .i64 s,.slice A es.length c] 26)).alloc (.cells #[.int .i64 p1,.int .i64 p2] 130)) #[.int .i64 0,.int .i64 0,.slice none 0 0] 26;simp only [World.size_alloc,Nat.add_assoc,Nat.reduceAdd] at bf b2;have d1:decide (p1 < 0)=false:=by simp;omega
 have d2:decide (p2≤p1)=false:=by simp;omega
 have d3:decide (s≤p2)=false:=by simp;omega
 clear hg;go_enter Tryz.func228,Tryz.ntmps228
 go_wp2_with fail;generalize hw1:(((w.alloc (.cells #[.int .i64 r,.int .i64 s,.slice A es.length c] 26)).alloc (.cells #[.int .i64 p1,.int .i64 p2] 130)).alloc (.cells #[.int .i64 0,.int .i64 0,.slice none 0 0] 26))=w1 at hm0 b0 bf b2 ⊢;clear hw1;with_reducible refine (impl_copyGraph r s A es c _ _ _ (hr.mid hm0 oZl) (by omega)).mono ?_
 rintro en w2 ⟨A1,c1,rfl,ho,hm2⟩;have hs2:w.heap.size+2 < w1.heap.size:=b2.1;replace b0:=b0.mid hm2 oZr;replace bf:=bf.mid hm2 oZr;replace b2:=b2.mid hm2 oZr;replace hm0:=hm0.trans hm2;have hsz2:=hm2.size;have hown0:=owns_base (base':=w.heap.size+3) ho.ov.2.1 hs2;have hbk0:Value.ownBlock (.slice A1 es.length c1)≠some w2.heap.size:=fun h=>by have:=ho.ov.2.2 _ h;omega
 have hal:=Mid.alloc w2 (.cells #[.int .i64 r,.int .i64 s,.slice A1 es.length c1] 26);have Y3:=Box.new w2 #[.int .i64 r,.int .i64 s,.slice A1 es.length c1] 26;have hbs0:=b0.1;have u0:=b0.cell 0 rfl;have u1:=b0.cell 1 rfl;have u2:=b0.cell 2 rfl;replace b0:=b0.mid hal oZr;replace bf:=bf.mid hal oZr;replace b2:=b2.mid hal oZr;replace hown0:=owns_mid hown0 hal oZl;replace hm0:=hm0.trans hal;go_wp2_with fail;clear u0 u1 u2;generalize hw3:w2.alloc (.cells #[.int .i64 r,.int .i64 s,.slice A1 es.length c1] 26)=w3 at Y3 b0 bf b2 hown0 hm0 ⊢;have hs3:w3.heap.size=w2.heap.size+1:=by rw [← hw3];simp
 obtain ⟨G,hG⟩:∃ G,w2.heap.size=G:=⟨_,rfl⟩
 rw [hG] at Y3 hbk0 hsz2 hbs0 hs3 ⊢;clear hw3 hal hm2 ho hG;with_reducible refine (impl_IsGraph r s A es c _ _ _ (hr.mid hm0 oZl).rv (by omega) true (iff_of_true rfl HG.out)).mono ?_
 rintro en w4 ⟨rfl,hm4⟩;replace b0:=b0.mid hm4 oZr;replace bf:=bf.mid hm4 oZr;replace b2:=b2.mid hm4 oZr;replace Y3:=Y3.mid hm4 oZr;replace hown0:=owns_mid hown0 hm4 oZl;replace hm0:=hm0.trans hm4;have hGw:w.heap.size+3≤G:=by omega
 clear hm4 hs3 hsz2 hs2 hbs0;have q0:=b0.cell 0 rfl;have q1:=b0.cell 1 rfl;have q2:=b0.cell 2 rfl;have k0:=bf.cell 0 rfl;have k1:=bf.cell 1 rfl;have y0:=Y3.cell 0 rfl;have y1:=Y3.cell 1 rfl;have y2:=Y3.cell 2 rfl;go_wp2_with fail;clear q0 q1 q2 k0 k1 y0 y1 y2;have HBK:=Lib.hid hbk0;clear hbk0 b0;go_loopw [39] (fun i wr=>∃ k:Nat,k≤es.length∧i=.int .i64 k∧wr.ownsRow (w.heap.size+3) 68 3 (.slice A1 es.length c1) es.length (ints (edI ((es.take k).map (foldE (p1,p2))++es.drop k))) ∧
   Box wr (w.heap.size+1) [.int .i64 p1,.int .i64 p2]∧Box wr (w.heap.size+2) [.int .i64 0,.int .i64 0,.slice none 0 0]∧Box wr G [.int .i64 r,.int .i64 s,.slice A1 es.length c1]∧Mid 0 0 w wr) (fun i _=>es.length - (intOf i).toNat)
 case atStart=>exact ⟨0,Nat.zero_le _,rfl,by simpa using hown0,bf,b2,Y3,hm0⟩
 case round =>
  clear hown0 bf b2 Y3 hm0;obtain ⟨k,hk,rfl,hown,bf,b2,Y3,hm⟩:=hrel;by_cases hlt:k < es.length
  ·obtain ⟨g,rfl,hg1,hg2⟩:=owns_addr hown (by omega)
   obtain ⟨e,he⟩:=get_of_lt es hlt;have hmh:=map_here (f:=foldE (p1,p2)) he;obtain ⟨e0,e1,e2⟩:=owns_ed hown hmh;have hin:=HG.out.all e (List.mem_of_getElem? he);obtain ⟨i1,i2,i3,i4,i5,i6⟩:=hin;have HE:=Lib.hid he;have hgG:g≠G:=fun h=>HBK.out (by rw [h];rfl);have hk0:(0:Int)≤(k:Int):=by omega
   have hk1:(k:Int) < (es.length:Int):=by omega
   have hal:=Mid.alloc wr (.cells #[.int .i64 e.a,.int .i64 e.l,.int .i64 e.b] 68);have ZE:=Box.new wr #[.int .i64 e.a,.int .i64 e.l,.int .i64 e.b] 68;have hGr:G < wr.heap.size:=Y3.1;replace bf:=bf.mid hal oZr;replace b2:=b2.mid hal oZr;replace Y3:=Y3.mid hal oZr;replace hown:=owns_mid hown hal oZl;replace hm:=hm.trans hal;clear he;go_wp2_with fail;clear e0 e1 e2;generalize hwx:wr.alloc (.cells #[.int .i64 e.a,.int .i64 e.l,.int .i64 e.b] 68)=wx at ZE bf b2 Y3 hown hm ⊢;generalize hgE:wr.heap.size=E at ZE hg2 hGr ⊢;clear hgE hwx hal;have hmd:=Mid.drew1 wx;replace bf:=bf.mid hmd oZr;replace b2:=b2.mid hmd oZr;replace Y3:=Y3.mid hmd oZr;replace ZE:=ZE.mid hmd oZr;replace hown:=owns_mid hown hmd oZl;replace hm:=hm.trans hmd;obtain ⟨c0',c1',c2'⟩:=owns_ed hown hmh;have hfz:=fun i=>hown.frozenAt i;have f0:=ZE.cell 0 rfl;have f1:=ZE.cell 1 rfl;have f2:=ZE.cell 2 rfl;have g2:=Y3.cell 2 rfl;have k0:=bf.cell 0 rfl;have k1:=bf.cell 1 rfl;obtain ⟨x,hx⟩:∃ x,foldV (p1,p2) e.a=x:=⟨_,rfl⟩
   obtain ⟨y,hy⟩:∃ y,foldV (p1,p2) e.b=y:=⟨_,rfl⟩
   have hFE:Hid (foldE (p1,p2) e=⟨x,e.l,y⟩):=Lib.hid (by simp [foldE,hx,hy]);have hP1:=fold_place (w.heap.size+1) p1 p2 e.a _ k0 k1 i1 (by omega);have hP2:=fold_place (w.heap.size+1) p1 p2 e.b _ k0 k1 i3 (by omega);rw [hx] at hP1;rw [hy] at hP2;clear hx hy hmd;refine wp_region_T (S:=(fun w'=>w'.cell? ⟨E,0,none⟩=some (.int .i64 e.a)∧w'.cell? ⟨E,1,none⟩=some (.int .i64 e.l)∧w'.cell? ⟨E,2,none⟩=some (.int .i64 e.b)∧w'.cell? ⟨G,2,none⟩=some (.slice (some ⟨g,0,none⟩) es.length c1))) 15 (by kernel_rfl) ⟨f0,f1,f2,g2⟩ ?_;generalize World.drew wx=wz at bf b2 Y3 ZE hown hm f0 f1 f2 g2 k0 k1 hP1 hP2 c0' c1' c2' hfz ⊢;have hS:wz.cell? ⟨E,0,none⟩=some (.int .i64 e.a)∧wz.cell? ⟨E,1,none⟩=some (.int .i64 e.l)∧wz.cell? ⟨E,2,none⟩=some (.int .i64 e.b)∧wz.cell? ⟨G,2,none⟩=some (.slice (some ⟨g,0,none⟩) es.length c1):=⟨f0,f1,f2,g2⟩
   refine tkT 0 rfl hS ?_;try simp only [Act.put,zs1,zs2,zs3,zs4,zs5,zs6]
   refine tkT 1 rfl hS ?_;try simp only [Act.put,zs1,zs2,zs3,zs4,zs5,zs6]
   refine tkT 2 rfl hS ?_;try simp only [Act.put,zs1,zs2,zs3,zs4,zs5,zs6]
   refine tkT 3 rfl hS ?_;try simp only [Act.put,zs1,zs2,zs3,zs4,zs5,zs6]
   refine tkT 4 rfl hS ?_;try simp only [Act.put,zs1,zs2,zs3,zs4,zs5,zs6]
   refine tkT 5 rfl hS ?_;try simp only [Act.put,zs1,zs2,zs3,zs4,zs5,zs6]
   refine tkT 7 rfl hS ?_;try simp only [Act.put,zs1,zs2,zs3,zs4,zs5,zs6]
   refine tkT 8 rfl hS ?_;try simp only [Act.put,zs1,zs2,zs3,zs4,zs5,zs6]
   refine tkT 9 rfl hS ?_;try simp only [Act.put,zs1,zs2,zs3,zs4,zs5,zs6]
   refine tkT 10 rfl hS ?_;try simp only [Act.put,zs1,zs2,zs3,zs4,zs5,zs6]
   refine tkT 11 rfl hS ?_;try simp only [Act.put,zs1,zs2,zs3,zs4,zs5,zs6]
   refine rdT 6 rfl (fun K hK=>?_)
   (go_simp;refine hP1.mono ?_;rintro _ w' ⟨rfl,h⟩;obtain rfl:=h.symm;go_wp2_with fail)
   refine hK.out _ _ (Or.inr hS) (fun _=>?_);clear hK K;try simp only [Act.put,zs1,zs2,zs3,zs4,zs5,zs6]
   refine rdT 12 rfl (fun K hK=>?_)
   (go_simp;refine hP2.mono ?_;rintro _ w' ⟨rfl,h⟩;obtain rfl:=h.symm;go_wp2_with fail)
   refine hK.out _ _ (Or.inr hS) (fun _=>?_);clear hK K;try simp only [Act.put,zs1,zs2,zs3,zs4,zs5,zs6]
   refine tkT 13 rfl hS ?_;try simp only [Act.put,zs1,zs2,zs3,zs4,zs5,zs6]
   refine tkT 14 rfl hS ?_;try simp only [Act.put,zs1,zs2,zs3,zs4,zs5,zs6]
   clear hP1 hP2;refine rdT 15 rfl (fun K hK=>?_)
   (go_simp)
   refine hK.out _ _ (Or.inl rfl) (fun _=>?_);clear hK K;try simp only [Act.put,zs1,zs2,zs3,zs4,zs5,zs6]
   refine wpAnyT_done (by kernel_rfl) ?_ _;go_wp2_with fail;go_roundw
   case rel =>
    have h1:=owns_setE hown (k:=k) (foldE (p1,p2) e) (by rw [List.length_append,List.length_map,List.length_take,List.length_drop];omega);rw [map_step HE.out,hFE.out] at h1;have hst:=(Mid.setAt wz g (k * 3) (.int .i64 x)).trans ((Mid.setAt (wz.setCell ⟨g,k * 3,none⟩ (.int .i64 x)) g (k * 3+1) (.int .i64 e.l)).trans (Mid.setAt ((wz.setCell ⟨g,k * 3,none⟩ (.int .i64 x)).setCell ⟨g,k * 3+1,none⟩ (.int .i64 e.l)) g (k * 3+2) (.int .i64 y)));exact ⟨k+1,by omega,by go_num,h1,bf.mid hst (Or.inl (by omega)),b2.mid hst (Or.inl (by omega)),Y3.mid hst (by omega),((hm.storeNew (by show w.heap.size≤g;omega) _).storeNew (by show w.heap.size≤g;omega) _).storeNew (by show w.heap.size≤g;omega) _⟩
   case measure=>simp [intOf];omega
  ·obtain rfl:k=es.length:=by omega
   rw [List.take_length,List.drop_length,List.append_nil] at hown;have hml:(es.map (foldE (p1,p2))).length=es.length:=List.length_map _;have hrg:RG wr (w.heap.size+3) wr.heap.size A1 (es.map (foldE (p1,p2))):=owns_rv hown;have hGr:G < wr.heap.size:=Y3.1;have hb2s:=b2.1;have z2:=Y3.cell 2 rfl;have HML:=Lib.hid hml;clear hml;go_wp2_with fail;with_reducible refine (impl_sortedN A1 (es.map (foldE (p1,p2))) es.length c1 _ _ _ HML.out hrg (by omega)).mono ?_
   rintro en w6 ⟨A4,c4,rfl,ho6,hm6⟩;replace b2:=b2.mid hm6 oZr;replace Y3:=Y3.mid hm6 oZr;replace hm:=hm.trans hm6;have hsz6:=hm6.size;clear z2;have a0:=b2.cell 0 rfl;have a1:=b2.cell 1 rfl;have a2:=b2.cell 2 rfl;have x0:=Y3.cell 0 rfl;have x1:=Y3.cell 1 rfl;have x2:=Y3.cell 2 rfl;have af:=b2.2.2;have xf:=Y3.2.2;have hcl:¬ w.heap.size+2=G:=by omega
   have hcl2:¬ G=w.heap.size+2:=by omega
   obtain ⟨ms,hms⟩:∃ ms,canon (es.map (foldE (p1,p2)))=ms:=⟨_,rfl⟩
   rw [hms] at ho6 ⊢;have HMS:=Lib.hid (show mergeE (p1,p2) es=ms from hms);clear hms;go_wp2_with fail;have hcl3:(w.heap.size+2 == G)=false:=by simpa using hcl
   refine bodyPost_ret (v:=.tuple #[.agg #[.int .i64 r,.int .i64 (s - 1),.slice A4 ms.length c4],.bool true]) (by simp [results,Tryz.results228,go_sem,a0,a1,a2,x0,x1,x2,af,xf,hcl]) rfl ⟨A4,c4,by rw [HMS.out],?_,?_⟩
   ·rw [HMS.out]
    refine OG.wide (OG.mid ho6 (a:=w.heap.size) (b:=G+1) ?_ (Or.inl hGr)) (by omega) (by simp) (Nat.le_refl _);repeat (first | exact Mid.refl _ _ _ | refine Mid.stored ?_ _ (by simp;try omega) (by simp;try omega))
   ·repeat (first | exact hm | refine Mid.storeNew ?_ (by simp;try omega) _)
end
section
open Go.RowKit
def OnceIs (s:Int) (es:List Ed) (p:Int × Int) (b:Bool) (rs:Int) (res:List Ed):Prop :=
 (b=false∧folds es=[]∧p=(0,0)∧rs=s∧res=es) ∨ (b=true∧(∃ t,folds es=p :: t)∧rs=s - 1∧res=mergeE p es)
theorem OnceIs.first {s:Int} {es:List Ed} {p:Int × Int} {b:Bool} {rs:Int} {res:List Ed} (h:OnceIs s es p b rs res):FirstIs es p b:=by
 rcases h with ⟨h1,h2,h3, -⟩ | ⟨h1,h2, -⟩
 ·exact .inl ⟨h1,h2,h3⟩
 ·exact .inr ⟨h1,h2⟩
theorem OnceIs.ex (s:Int) (es:List Ed):∃ p b rs res,OnceIs s es p b rs res:=by
 cases h:folds es with
 | nil=>exact ⟨(0,0),false,s,es,.inl ⟨rfl,h,rfl,rfl,rfl⟩⟩
 | cons p t=>exact ⟨p,true,s - 1,mergeE p es,.inr ⟨rfl,⟨t,h⟩,rfl,rfl⟩⟩
theorem impl_FoldOnce (r s:Int) (A:Option Addr) (es:List Ed) (c:Nat) (w:World) (lo hi:Nat) (hr:RG w lo hi A es) (hcl:es.length≤c) (hg:IsGr r s es) (p:Int × Int) (b:Bool) (rs:Int) (res:List Ed) (hp:OnceIs s es p b rs res) :
  Calls Tryz.prog 204 #[graV r s A es.length c] w fun e w'=>∃ A1 c1,e=.returned (.tuple #[graV r rs A1 res.length c1,.agg #[.int .i64 p.1,.int .i64 p.2],.bool b])∧OG w' w.heap.size w'.heap.size A1 c1 res∧Mid 0 0 w w':=by
 have hl:=hg.len;have HG:=Lib.hid hg;have hm0:Mid 0 0 w (((w.alloc (.cells #[.int .i64 r,.int .i64 s,.slice A es.length c] 26)).alloc (.cells #[.int .i64 0,.int .i64 0,.slice none 0 0] 26)).alloc (.cells #[.int .i64 0,.int .i64 0] 130)):=((Mid.alloc _ _).trans (Mid.alloc _ _)).trans (Mid.alloc _ _);have b0:=((Box.new w #[.int .i64 r,.int .i64 s,.slice A es.length c] 26).mid (Mid.alloc _ (.cells #[.int .i64 0,.int .i64 0,.slice none 0 0] 26)) oZr).mid (Mid.alloc _ (.cells #[.int .i64 0,.int .i64 0] 130)) oZr;have b2:=(Box.new (w.alloc (.cells #[.int .i64 r,.int .i64 s,.slice A es.length c] 26)) #[.int .i64 0,.int .i64 0,.slice none 0 0] 26).mid (Mid.alloc _ (.cells #[.int .i64 0,.int .i64 0] 130)) oZr;have b3:=Box.new ((w.alloc (.cells #[.int .i64 r,.int .i64 s,.slice A es.length c] 26)).alloc (.cells #[.int .i64 0,.int .i64 0,.slice none 0 0] 26)) #[.int .i64 0,.int .i64 0] 130;simp only [World.size_alloc,Nat.add_assoc,Nat.reduceAdd] at b2 b3;have hF:=hp.first
 have HF:=Lib.hid hF;clear hg hF;obtain ⟨p1,p2⟩:=p;go_enter Tryz.func204,Tryz.ntmps204
 go_wp2_with fail;generalize hw1:(((w.alloc (.cells #[.int .i64 r,.int .i64 s,.slice A es.length c] 26)).alloc (.cells #[.int .i64 0,.int .i64 0,.slice none 0 0] 26)).alloc (.cells #[.int .i64 0,.int .i64 0] 130))=w1 at hm0 b0 b2 b3 ⊢;clear hw1;with_reducible refine (impl_FirstFold r s A es c _ _ _ (hr.mid hm0 oZl) hcl HG.out (p1,p2) b HF.out).mono ?_
 rintro en w2 ⟨rfl,hm2⟩;replace b0:=b0.mid hm2 oZr;replace b2:=b2.mid hm2 oZr;replace b3:=b3.mid hm2 oZr;replace hm0:=hm0.trans hm2;have hbs0:=b0.1;have hbs2:=b2.1;have hbs3:=b3.1;have u0:=b0.cell 0 rfl;have u1:=b0.cell 1 rfl;have u2:=b0.cell 2 rfl;have hal:=Mid.alloc w2 (.cells #[.int .i64 p1,.int .i64 p2] 130);have bf:=Box.new w2 #[.int .i64 p1,.int .i64 p2] 130;replace b0:=b0.mid hal oZr;replace b2:=b2.mid hal oZr;replace b3:=b3.mid hal oZr;replace hm0:=hm0.trans hal;clear hm2;rcases hp with ⟨rfl,hn,hpp,rfl,rfl⟩ | ⟨rfl,⟨t,ht⟩,rfl,hres⟩
 ·injection hpp with h1 h2
  subst h1 h2;clear hn;go_wp2_with fail;clear u0 u1 u2;generalize hw3:w2.alloc (.cells #[.int .i64 0,.int .i64 0] 130)=w3 at b0 b2 b3 bf hm0 ⊢;clear hw3 hal;with_reducible refine (impl_copyGraph r rs A res c _ _ _ (hr.mid hm0 oZl) (by omega)).mono ?_
  rintro en w4 ⟨A4,c4,rfl,hog,hm4⟩;have hs3:w.heap.size+3≤w3.heap.size:=b3.1;replace b2:=b2.mid hm4 oZr;replace b3:=b3.mid hm4 oZr;replace hm0:=hm0.trans hm4;have a0:=b2.cell 0 rfl;have a1:=b2.cell 1 rfl;have a2:=b2.cell 2 rfl;have x0:=b3.cell 0 rfl;have x1:=b3.cell 1 rfl;have af:=b2.2.2;have xf:=b3.2.2;go_wp2_with fail;refine bodyPost_ret (v:=.tuple #[.agg #[.int .i64 r,.int .i64 rs,.slice A4 res.length c4],.agg #[.int .i64 0,.int .i64 0],.bool false]) (by simp [results,Tryz.results204,go_sem,a0,a1,a2,x0,x1,af,xf]) rfl ⟨A4,c4,rfl,?_,?_⟩
  ·refine OG.wide (OG.mid hog (a:=w.heap.size+1) (b:=w.heap.size+3) ?_ (Or.inl (by omega))) (by omega) (by simp) (Nat.le_refl _)
   repeat (first | exact Mid.refl _ _ _ | refine Mid.stored ?_ _ (by simp;try omega) (by simp;try omega))
  ·repeat (first | exact hm0 | refine Mid.storeNew ?_ (by simp;try omega) _)
 ·obtain ⟨k1,k2,k3⟩:=mem_folds HG.out.all HG.out.asc (p:=(p1,p2)) (by rw [ht];simp)
  simp only at k1 k2 k3;have HRES:=Lib.hid hres;clear ht hres;have y0:=bf.cell 0 rfl;have y1:=bf.cell 1 rfl;go_wp2_with fail;clear u0 u1 u2 y0 y1;generalize hw3:w2.alloc (.cells #[.int .i64 p1,.int .i64 p2] 130)=w3 at b0 b2 b3 bf hm0 ⊢;have hs3:w3.heap.size=w2.heap.size+1:=by rw [← hw3];simp
  clear hw3 hal;obtain ⟨F,hF⟩:∃ F,w2.heap.size=F:=⟨_,rfl⟩
  rw [hF] at bf hs3 hbs0 hbs2 hbs3 ⊢;clear hF;with_reducible refine (impl_MergeVertices r s A es c p1 p2 _ _ _ (hr.mid hm0 oZl) HG.out k1 k2 k3).mono ?_
  rintro en w4 ⟨A4,c4,rfl,hog,hm4⟩;rw [← HRES.out] at hog ⊢;have hsz4:=hm4.size;replace b2:=b2.mid hm4 oZr;replace b3:=b3.mid hm4 oZr;replace bf:=bf.mid hm4 oZr;replace hm0:=hm0.trans hm4;have hal4:=Mid.alloc w4 (.cells #[.int .i64 r,.int .i64 (s - 1),.slice A4 res.length c4] 26);have bg:=Box.new w4 #[.int .i64 r,.int .i64 (s - 1),.slice A4 res.length c4] 26;replace b2:=b2.mid hal4 oZr;replace b3:=b3.mid hal4 oZr;replace bf:=bf.mid hal4 oZr;replace hog:=hog.mid hal4 oZl;replace hm0:=hm0.trans hal4;go_wp2_with fail;generalize hw5:w4.alloc (.cells #[.int .i64 r,.int .i64 (s - 1),.slice A4 res.length c4] 26)=w5 at b2 b3 bf bg hog hm0 ⊢;have hs5:w5.heap.size=w4.heap.size+1:=by rw [← hw5];simp
  clear hw5 hal4;obtain ⟨H,hH⟩:∃ H,w4.heap.size=H:=⟨_,rfl⟩
  rw [hH] at bg hsz4 hs5 hog ⊢;clear hH;have a0:=b2.cell 0 rfl;have a1:=b2.cell 1 rfl;have a2:=b2.cell 2 rfl;have x0:=b3.cell 0 rfl;have x1:=b3.cell 1 rfl;have y0:=bf.cell 0 rfl;have y1:=bf.cell 1 rfl;have z0:=bg.cell 0 rfl;have z1:=bg.cell 1 rfl;have z2:=bg.cell 2 rfl;have af:=b2.2.2;have xf:=b3.2.2;have n1:¬ w.heap.size+1=H:=by omega
  have n2:¬ w.heap.size+2=H:=by omega
  have n3:¬ w.heap.size+1=F:=by omega
  have n4:¬ w.heap.size+2=F:=by omega
  have n5:¬ F=H:=by omega
  go_region
  go_wp2_with fail;refine bodyPost_ret (v:=.tuple #[.agg #[.int .i64 r,.int .i64 (s - 1),.slice A4 res.length c4],.agg #[.int .i64 p1,.int .i64 p2],.bool true]) (by simp [results,Tryz.results204,go_sem,a0,a1,a2,x0,x1,af,xf]) rfl ⟨A4,c4,rfl,?_,?_⟩
  ·refine OG.wide (OG.mid hog (a:=w.heap.size+1) (b:=w.heap.size+3) ?_ (Or.inl (by omega))) (by omega) (by have:=hog.size;simp;omega) (Nat.le_refl _)
   refine Mid.trans ?_ (Mid.drew1 _).zero;repeat (first | exact Mid.refl _ _ _ | refine Mid.stored ?_ _ (by simp;try omega) (by simp;try omega))
  ·refine Mid.trans ?_ (Mid.drew1 _)
   repeat (first | exact hm0 | refine Mid.storeNew ?_ (by simp;try omega) _)
end
section
open Go.RowKit
theorem impl_FoldAll (r:Int) (n:Nat) (A:Option Addr) (es:List Ed) (c:Nat) (w:World) (lo hi:Nat) (hr:RG w lo hi A es) (hg:IsGr r n es) :
  Calls Tryz.prog 165 #[graV r n A es.length c] w fun e w'=>∃ A1 c1 Al nl cl,e=.returned (.tuple #[graV r (foldA 40 ((n:Int),es)).1 A1 (foldA 40 ((n:Int),es)).2.length c1,.slice Al nl cl])∧OG w' w.heap.size w'.heap.size A1 c1 (foldA 40 ((n:Int),es)).2∧Mid 0 0 w w':=by
 have hn40:n≤40:=by have:=hg.size;omega
 have hl:=hg.len;have hm0:Mid 0 0 w ((w.alloc (.cells #[.int .i64 r,.int .i64 n,.slice A es.length c] 26)).alloc (.cells #[.int .i64 0,.int .i64 0,.slice none 0 0] 26)):=(Mid.alloc _ _).trans (Mid.alloc _ _);have b0:=(Box.new w #[.int .i64 r,.int .i64 n,.slice A es.length c] 26).mid (Mid.alloc _ (.cells #[.int .i64 0,.int .i64 0,.slice none 0 0] 26)) oZr;have b2:=Box.new (w.alloc (.cells #[.int .i64 r,.int .i64 n,.slice A es.length c] 26)) #[.int .i64 0,.int .i64 0,.slice none 0 0] 26;simp only [World.size_alloc] at b2;have HG:=Lib.hid hg;obtain ⟨T,hT⟩:∃ T,foldA 40 ((n:Int),es)=T:=⟨_,rfl⟩
 rw [hT];have HT:=Lib.hid hT;clear hg hT;go_enter Tryz.func165,Tryz.ntmps165
 go_wp2_with fail;generalize hw1:((w.alloc (.cells #[.int .i64 r,.int .i64 n,.slice A es.length c] 26)).alloc (.cells #[.int .i64 0,.int .i64 0,.slice none 0 0] 26))=w1 at hm0 b0 b2 ⊢;clear hw1;with_reducible refine (impl_copyGraph r n A es c _ _ _ (hr.mid hm0 oZl) (by omega)).mono ?_
 rintro en w2 ⟨A1,c1,rfl,ho,hm2⟩;have hs2:w.heap.size+1 < w1.heap.size:=b2.1;replace b2:=b2.mid hm2 oZr;replace hm0:=hm0.trans hm2;have hsz2:=hm2.size;have hown0:=owns_base (base':=w.heap.size+2) ho.ov.2.1 hs2;have hbk0:Value.ownBlock (.slice A1 es.length c1)≠some w2.heap.size:=fun h=>by have:=ho.ov.2.2 _ h;omega
 have hal:=(Mid.alloc w2 (.cells #[.int .i64 r,.int .i64 n,.slice A1 es.length c1] 26)).trans (Mid.alloc (w2.alloc (.cells #[.int .i64 r,.int .i64 n,.slice A1 es.length c1] 26)) (.cells #[] 130));have Y3:=(Box.new w2 #[.int .i64 r,.int .i64 n,.slice A1 es.length c1] 26).mid (Mid.alloc (w2.alloc (.cells #[.int .i64 r,.int .i64 n,.slice A1 es.length c1] 26)) (.cells #[] 130)) oZr;have O0:=owns_empty (w2.alloc (.cells #[.int .i64 r,.int .i64 n,.slice A1 es.length c1] 26)) 130 2;rw [World.size_alloc] at O0;replace b2:=b2.mid hal oZr;replace hown0:=owns_mid hown0 hal oZl;replace hm0:=hm0.trans hal;go_wp2_with fail;generalize hw3:(w2.alloc (.cells #[.int .i64 r,.int .i64 n,.slice A1 es.length c1] 26)).alloc (.cells #[] 130)=w3 at Y3 O0 b2 hown0 hm0 ⊢;obtain ⟨G,hG⟩:∃ G,w2.heap.size=G:=⟨_,rfl⟩
 rw [hG] at Y3 O0 hbk0 hsz2 ⊢;have hGw:w.heap.size+2≤G:=by omega
 clear hw3 hal hm2 ho hG hsz2 hs2 b0;go_loopw [5] (fun l wr=>∃ (m s:Nat) (es1:List Ed) (A2:Option Addr) (c2:Nat) (Al:Option Addr) (nl cl:Nat) (ps:List (Int × Int)),l=.slice Al nl cl∧nl+s≤40∧Hid (foldA m ((s:Int),es1)=T)∧s≤m∧Hid (IsGr r s es1)∧wr.ownsRow (G+1) 130 2 (.slice Al nl cl) nl (ints (fdI ps)) ∧
   Hid (wr.ownsRow (w.heap.size+2) 68 3 (.slice A2 es1.length c2) es1.length (ints (edI es1)))∧Hid (Value.ownBlock (.slice A2 es1.length c2)≠some G)∧Box wr (w.heap.size+1) [.int .i64 0,.int .i64 0,.slice none 0 0]∧Box wr G [.int .i64 r,.int .i64 s,.slice A2 es1.length c2]∧Mid 0 0 w wr) (fun _ wr=>sizeAt wr G)
 case atStart=>exact ⟨40,n,es,A1,c1,_,0,0,[],rfl,by omega,HT,hn40,HG,O0,Lib.hid hown0,Lib.hid hbk0,b2,Y3,hm0⟩
 case round =>
  clear O0 hown0 b2 Y3 hm0 hbk0;obtain ⟨m,s,es1,A2,c2,Al,nl,cl,ps,rfl,hnl,HTm,hsm,HGs,hleft,HE,HBK,b2,Y3,hm⟩:=hrel;have hl1:=HGs.out.len;have hs1:1≤s:=by have:=HGs.out.size;omega
  have hlsz:=Lib.hid (sizeAt_box Y3);have hec:es1.length≤c2:=by
   obtain ⟨A',c',hv0,hsc,hcm⟩:=owns_shape HE.out;injection hv0 with _ _ hv0
   omega
  obtain ⟨p,b,rs,res,hone⟩:=OnceIs.ex (s:Int) es1;have HO:=Lib.hid (impl_FoldOnce r s A2 es1 c2 wr _ _ (owns_rv HE.out).rg hec HGs.out p b rs res hone);have HON:=Lib.hid hone;obtain ⟨p1,p2⟩:=p;clear hone;have y0:=Y3.cell 0 rfl;have y1:=Y3.cell 1 rfl;have y2:=Y3.cell 2 rfl;go_wp2_with fail;with_reducible refine HO.out.mono ?_
  rintro en w5 ⟨A3,c3,rfl,hog,hm5⟩;have hGr:G < wr.heap.size:=Y3.1;have hw2r:w.heap.size+2≤wr.heap.size:=by omega
  have hE5:=owns_mid HE.out hm5 oZl;replace b2:=b2.mid hm5 oZr;replace Y3:=Y3.mid hm5 oZr;replace hleft:=owns_mid hleft hm5 oZl;replace hm:=hm.trans hm5;clear HO y0 y1 y2 HE;have hal1:=Mid.alloc w5 (.cells #[.int .i64 r,.int .i64 rs,.slice A3 res.length c3] 26);have hal2:=Mid.alloc (w5.alloc (.cells #[.int .i64 r,.int .i64 rs,.slice A3 res.length c3] 26)) (.cells #[.int .i64 p1,.int .i64 p2] 130);have bh:=(Box.new w5 #[.int .i64 r,.int .i64 rs,.slice A3 res.length c3] 26).mid hal2 oZr;have bp:=Box.new (w5.alloc (.cells #[.int .i64 r,.int .i64 rs,.slice A3 res.length c3] 26)) #[.int .i64 p1,.int .i64 p2] 130;rw [World.size_alloc] at bp;have hal:=hal1.trans hal2;have hs5:=hm5.size;have hG5:G < w5.heap.size:=Y3.1;have hG6:G < w5.heap.size+1:=by omega
  have hb5:w.heap.size+1 < w5.heap.size:=b2.1;have hb6:w.heap.size < w5.heap.size:=by omega
  have yf:=Y3.2.2;have y0:=Y3.cell 0 rfl;have y1:=Y3.cell 1 rfl;have y2:=Y3.cell 2 rfl;cases b with
  | false =>
   have af:=b2.2.2;have a0:=b2.cell 0 rfl;have a1:=b2.cell 1 rfl;have a2:=b2.cell 2 rfl;have hfn:folds es1=[]∧True:=by
    rcases HON.out with h | h
    ·exact ⟨h.2.1,trivial⟩
    ·exact absurd h.1 (by decide)
   have hTT:=HTm.out;rw [foldA_nil (g:=((s:Int),es1)) hfn.1] at hTT;have HTT:=Lib.hid hTT;clear hTT hfn;go_wp2_with fail;refine bodyPost_ret (v:=.tuple #[.agg #[.int .i64 r,.int .i64 s,.slice A2 es1.length c2],.slice Al nl cl]) (by simp [results,Tryz.results165,go_sem,a0,a1,a2,af,hb5,hb6,World.cell?_alloc_lt]) rfl ⟨A2,c2,Al,nl,cl,by rw [← HTT.out],?_,?_⟩
   ·rw [← HTT.out]
    have h0:OG w5 (w.heap.size+2) w5.heap.size A2 c2 es1:=⟨Nat.le_refl _,hE5,fun g hg=>(hE5.lt g hg).2⟩
    refine OG.wide (OG.mid h0 (a:=w.heap.size+1) (b:=w.heap.size+2) ?_ (Or.inl (Nat.le_refl _))) (by omega) (by simp;try omega) (Nat.le_refl _);repeat (first | exact Mid.refl _ _ _ | refine Mid.trans ?_ (Mid.alloc _ _).zero | refine Mid.stored ?_ _ (by simp;try omega) (by simp;try omega))
   ·repeat (first | exact hm | refine Mid.trans ?_ (Mid.alloc _ _) | refine Mid.storeNew ?_ (by simp;try omega) _)
  | true =>
   obtain ⟨t,htt⟩:∃ t,folds es1=(p1,p2) :: t:=by
    rcases HON.out with h | h
    ·exact absurd h.1 (by decide)
    ·exact h.2.1
   obtain ⟨rfl,rfl⟩:rs=(s:Int) - 1∧res=mergeE (p1,p2) es1:=by
    rcases HON.out with h | h
    ·exact absurd h.1 (by decide)
    ·exact h.2.2
   obtain ⟨k1,k2,k3⟩:=mem_folds HGs.out.all HGs.out.asc (p:=(p1,p2)) (by rw [htt];simp);obtain ⟨m',rfl⟩:∃ m',m=m'+1:=⟨m - 1,by omega⟩
   have hTT:=HTm.out;rw [foldA_cons (g:=((s:Int),es1)) htt] at hTT;simp only at hTT;have HTT:=Lib.hid hTT;have HG2:=Lib.hid (mergeE_gr HGs.out k1 k2 k3);clear hTT htt k1 k2 k3 HON;obtain ⟨s',rfl⟩:∃ s',s=s'+1:=⟨s - 1,by omega⟩
   rw [show ((s'+1:Nat):Int) - 1=(s':Int) by omega] at HTT HG2 hal hal1 hal2 bh bp ⊢;obtain ⟨me,hme⟩:∃ me,mergeE (p1,p2) es1=me:=⟨_,rfl⟩
   rw [hme] at HTT HG2 hal hal1 hal2 bh bp hog ⊢;clear hme;have hst:=(Mid.setAt w5 G 0 (.int .i64 r)).trans ((Mid.setAt (w5.setCell ⟨G,0,none⟩ (.int .i64 r)) G 1 (.int .i64 s')).trans (Mid.setAt ((w5.setCell ⟨G,0,none⟩ (.int .i64 r)).setCell ⟨G,1,none⟩ (.int .i64 s')) G 2 (.slice A3 me.length c3)));have Y5:=((Y3.set 0 (.int .i64 r) (by simp) rfl).set 1 (.int .i64 s') (by simp) rfl).set 2 (.slice A3 me.length c3) (by simp) rfl;have hm6:=((hm.storeNew (p:=⟨G,0,none⟩) (by show w.heap.size≤G;omega) (.int .i64 r)).storeNew (p:=⟨G,1,none⟩) (by show w.heap.size≤G;omega) (.int .i64 s')).storeNew (p:=⟨G,2,none⟩) (by show w.heap.size≤G;omega) (.slice A3 me.length c3);have b6:=b2.mid hst (Or.inl (by omega));have hleft6:=owns_mid hleft hst (Or.inl (Nat.le_refl _));have hog6:=OG.mid hog hst (Or.inl hGr);have ha2:=(Mid.alloc (((w5.setCell ⟨G,0,none⟩ (.int .i64 r)).setCell ⟨G,1,none⟩ (.int .i64 s')).setCell ⟨G,2,none⟩ (.slice A3 me.length c3)) (.cells #[.int .i64 r,.int .i64 s',.slice A3 me.length c3] 26)).trans (Mid.alloc _ (.cells #[.int .i64 p1,.int .i64 p2] 130));replace b6:=b6.mid ha2 oZr;replace Y5:=Y5.mid ha2 oZr;replace hleft6:=owns_mid hleft6 ha2 oZl;replace hm6:=hm6.trans ha2;replace hog6:=OG.mid hog6 ha2 oZl;have hWs:(((((w5.setCell ⟨G,0,none⟩ (.int .i64 r)).setCell ⟨G,1,none⟩ (.int .i64 s')).setCell ⟨G,2,none⟩ (.slice A3 me.length c3)).alloc (.cells #[.int .i64 r,.int .i64 s',.slice A3 me.length c3] 26)).alloc (.cells #[.int .i64 p1,.int .i64 p2] 130)).heap.size=w5.heap.size+1+1:=by simp
   have HL:=Lib.hid hleft6;have HY:=Lib.hid Y5;have HB:=Lib.hid b6;have HM:=Lib.hid hm6;have HO6:=Lib.hid hog6;clear hleft6 Y5 b6 hm6 hog6 ha2 hst hleft b2 hm hog hE5 hal hal1 hal2 bh bp;go_wp2_with (at_builtin;refine wpList_pushF rfl _ _ rfl (G+1) Al nl cl ps rfl HL.out (p1,p2) (by rw [hWs];rfl) (by omega) (by rw [hWs];omega) ?_;intro A9 c9 w9 hl9 hgr9 hat9)
   have hm9:=Mid.of_grownRow HL.out hgr9;have hmo:=(HO6.out).2.1;have hE9:=(owns_base hmo hw2r).kept hgr9 (owns_ne hmo HL.out (by decide));have hbk9:Value.ownBlock (.slice A3 me.length c3)≠some G:=fun h=>by have:=(hmo.lt _ h).1;omega
   have Y9:=HY.out.mid hm9 (Or.inl (Nat.lt_succ_self _));have hmsz:=hlsz.out;go_roundw
   case rel=>exact ⟨m',s',me,A3,c3,A9,nl+1,c9,ps++[(p1,p2)],rfl,by omega,HTT,by omega,HG2,hl9,Lib.hid hE9,Lib.hid hbk9,HB.out.mid hm9 (Or.inl (by omega)),Y9,HM.out.transNew hm9 (Or.inl (by omega))⟩
   case measure=>rw [hmsz,sizeAt_box Y9];omega
end
section
open Go.RowKit
theorem spec_l7New (p1 p2 v:Int) (w:World) (h0:p1 < p2) (h1:0≤v) (h2:v < 1000000) :
  Calls Tryz.prog 247 #[.int .i64 v,.agg #[.int .i64 p1,.int .i64 p2]] w fun e w'=>e=.returned (.int .i64 (foldV (p1,p2) v))∧Mid 0 0 w w':=by
 have hm0:Mid 0 0 w (w.alloc (.cells #[.int .i64 p1,.int .i64 p2] 130)):=Mid.alloc _ _;have b0:=Box.new w #[.int .i64 p1,.int .i64 p2] 130;go_enter Tryz.func247,Tryz.ntmps247
 have q0:=b0.cell 0 rfl;have q1:=b0.cell 1 rfl;rcases (by omega:v=p2 ∨ p2 < v ∨ v < p2) with h | h | h
 ·subst h
  have d1:(v == v)=true:=by simp
  have d2:decide (v < p1)=false:=by simp;omega
  have hf:foldV (p1,v) v=p1:=by simp [foldV]
  have HF:=Lib.hid hf;clear hf;go_wp2_with fail;go_ret;exact ⟨by rw [HF.out];rfl,hm0⟩
 ·have d1:(v == p2)=false:=by simp only [beq_eq_false_iff_ne];omega
  have hf:foldV (p1,p2) v=v - 1:=by unfold foldV;rw [if_neg (by omega),if_pos (by simpa using h)]
  have HF:=Lib.hid hf;clear hf;go_wp2_with fail;go_ret;exact ⟨by rw [HF.out];rfl,hm0⟩
 ·have d1:(v == p2)=false:=by simp only [beq_eq_false_iff_ne];omega
  have hn:¬ p2 < v:=by omega
  have hf:foldV (p1,p2) v=v:=by unfold foldV;rw [if_neg (by omega),if_neg (by simpa using hn)]
  have HF:=Lib.hid hf;clear hf;go_wp2_with fail;go_ret;exact ⟨by rw [HF.out];rfl,hm0⟩
end
section
open Go.RowKit
theorem spec_MergeVertices (r s:Int) (A:Option Addr) (es:List Ed) (c:Nat) (p1 p2:Int) (w:World) (lo hi:Nat) (hr:RG w lo hi A es) (hg:IsGr r s es) (h0:0≤p1) (h1:p1 < p2) (h2:p2 < s) :
  Calls Tryz.prog 231 #[graV r s A es.length c,.agg #[.int .i64 p1,.int .i64 p2]] w fun e w'=>∃ A1 c1,e=.returned (.tuple #[graV r (s - 1) A1 (mergeE (p1,p2) es).length c1,.bool true])∧OG w' w.heap.size w'.heap.size A1 c1 (mergeE (p1,p2) es)∧Mid 0 0 w w':=by
 have hl:=hg.len;have hs40:=hg.size;have HG:=Lib.hid hg;have hm0:Mid 0 0 w (((w.alloc (.cells #[.int .i64 r,.int .i64 s,.slice A es.length c] 26)).alloc (.cells #[.int .i64 p1,.int .i64 p2] 130)).alloc (.cells #[.int .i64 0,.int .i64 0,.slice none 0 0] 26)):=((Mid.alloc _ _).trans (Mid.alloc _ _)).trans (Mid.alloc _ _);have b0:=((Box.new w #[.int .i64 r,.int .i64 s,.slice A es.length c] 26).mid (Mid.alloc _ (.cells #[.int .i64 p1,.int .i64 p2] 130)) oZr).mid (Mid.alloc _ (.cells #[.int .i64 0,.int .i64 0,.slice none 0 0] 26)) oZr;have bf:=(Box.new (w.alloc (.cells #[.int .i64 r,.int .i64 s,.slice A es.length c] 26)) #[.int .i64 p1,.int .i64 p2] 130).mid (Mid.alloc _ (.cells #[.int .i64 0,.int .i64 0,.slice none 0 0] 26)) oZr;have b2:=Box.new ((w.alloc (.cells #[.int .i64 r,.int .i64 s,.slice A es.length c] 26)).alloc (.cells #[.int .i64 p1,.int .i64 p2] 130)) #[.int .i64 0,.int .i64 0,.slice none 0 0] 26;simp only [World.size_alloc,Nat.add_assoc,Nat.reduceAdd] at bf b2;have d1:decide (p1 < 0)=false:=by simp;omega
 have d2:decide (p2≤p1)=false:=by simp;omega
 have d3:decide (s≤p2)=false:=by simp;omega
 clear hg;go_enter Tryz.func231,Tryz.ntmps231
 go_wp2_with fail;generalize hw1:(((w.alloc (.cells #[.int .i64 r,.int .i64 s,.slice A es.length c] 26)).alloc (.cells #[.int .i64 p1,.int .i64 p2] 130)).alloc (.cells #[.int .i64 0,.int .i64 0,.slice none 0 0] 26))=w1 at hm0 b0 bf b2 ⊢;clear hw1;with_reducible refine (spec_IsGraph r s A es c _ _ _ (hr.mid hm0 oZl).rv (by omega) true (iff_of_true rfl HG.out)).mono ?_
 rintro en w4 ⟨rfl,hm4⟩;replace b0:=b0.mid hm4 oZr;replace bf:=bf.mid hm4 oZr;replace b2:=b2.mid hm4 oZr;replace hm0:=hm0.trans hm4;have hs4:w.heap.size+3≤w4.heap.size:=b2.1;have q0:=b0.cell 0 rfl;have q1:=b0.cell 1 rfl;have q2:=b0.cell 2 rfl;have k0:=bf.cell 0 rfl;have k1:=bf.cell 1 rfl;have hal:=Mid.alloc w4 (.cells #[.int .i64 r,.int .i64 (s - 1),.slice none 0 0] 26);have Y3:=Box.new w4 #[.int .i64 r,.int .i64 (s - 1),.slice none 0 0] 26;replace b0:=b0.mid hal oZr;replace bf:=bf.mid hal oZr;replace b2:=b2.mid hal oZr;replace hm0:=hm0.trans hal;go_wp2_with fail;clear q0 q1 q2 k0 k1;have hs5:(w4.alloc (.cells #[.int .i64 r,.int .i64 (s - 1),.slice none 0 0] 26)).heap.size=w4.heap.size+1:=by simp
 generalize w4.alloc (.cells #[.int .i64 r,.int .i64 (s - 1),.slice none 0 0] 26)=w5 at Y3 b0 bf b2 hm0 hs5 ⊢;obtain ⟨G,hG⟩:∃ G,w4.heap.size=G:=⟨_,rfl⟩
 rw [hG] at Y3 hs4 hs5 ⊢;clear hal hm4 hG;go_loopw [7] (fun i wr=>∃ (q:Nat) (A2:Option Addr) (c2 lo2 hi2:Nat) (xs:List Ed),q≤es.length∧i=.int .i64 q∧Hid (xs=putAll [] ((es.take q).map (foldE (p1,p2)))) ∧
   OG wr lo2 hi2 A2 c2 xs∧G+1≤lo2 ∧
   Box wr w.heap.size [.int .i64 r,.int .i64 s,.slice A es.length c]∧Box wr (w.heap.size+1) [.int .i64 p1,.int .i64 p2]∧Box wr (w.heap.size+2) [.int .i64 0,.int .i64 0,.slice none 0 0]∧Box wr G [.int .i64 r,.int .i64 (s - 1),.slice A2 xs.length c2]∧Mid 0 0 w wr) (fun i _=>es.length - (intOf i).toNat)
 case atStart=>exact ⟨0,none,0,G+1,_,[],Nat.zero_le _,rfl,Lib.hid rfl,⟨Nat.le_of_eq hs5.symm,⟨rfl,.inl ⟨rfl,rfl⟩⟩,fun g hg=>by simp [Value.ownBlock] at hg⟩,Nat.le_refl _,b0,bf,b2,Y3,hm0⟩
 case round =>
  clear b0 bf b2 Y3 hm0 hs5;obtain ⟨q,A2,c2,lo2,hi2,xs,hq,rfl,HX,hown,hlo2,b0,bf,b2,Y3,hm⟩:=hrel;have hxl:xs.length≤120:=by
   have h1:=putAll_len [] ((es.take q).map (foldE (p1,p2)));rw [← HX.out] at h1;simp at h1;omega
  by_cases hlt:q < es.length
  ·obtain ⟨B,off,e,rfl, -,hbh,he,e0,e1,e2⟩:=(hr.mid hm oZl).ed hlt
   have hin:=HG.out.all e (List.mem_of_getElem? he);have htk:(es.take (q+1)).map (foldE (p1,p2))=(es.take q).map (foldE (p1,p2))++[foldE (p1,p2) e]:=by
    rw [take_snoc he,List.map_append]
    rfl
   obtain ⟨i1,i2,i3,i4,i5,i6⟩:=hin;have hq0:(0:Int)≤(q:Int):=by omega
   have hq1:(q:Int) < (es.length:Int):=by omega
   have hal:=Mid.alloc wr (.cells #[.int .i64 e.a,.int .i64 e.l,.int .i64 e.b] 68);have ZE:=Box.new wr #[.int .i64 e.a,.int .i64 e.l,.int .i64 e.b] 68;have hGr:G < wr.heap.size:=Y3.1;have u0:=b0.cell 0 rfl;have u1:=b0.cell 1 rfl;have u2:=b0.cell 2 rfl;replace b0:=b0.mid hal oZr;replace bf:=bf.mid hal oZr;replace b2:=b2.mid hal oZr;replace Y3:=Y3.mid hal oZr;replace hown:=hown.mid hal oZl;replace hm:=hm.trans hal;have HTK:=Lib.hid htk;clear he htk;go_wp2_with fail;clear e0 e1 e2 u0 u1 u2;generalize hwx:wr.alloc (.cells #[.int .i64 e.a,.int .i64 e.l,.int .i64 e.b] 68)=wx at ZE b0 bf b2 Y3 hown hm ⊢;generalize hgE:wr.heap.size=E at ZE hGr ⊢;clear hgE hwx hal;have hmd:=Mid.drew1 wx;replace b0:=b0.mid hmd oZr;replace bf:=bf.mid hmd oZr;replace b2:=b2.mid hmd oZr;replace Y3:=Y3.mid hmd oZr;replace ZE:=ZE.mid hmd oZr;replace hown:=hown.mid hmd oZl;replace hm:=hm.trans hmd;have f0:=ZE.cell 0 rfl;have f1:=ZE.cell 1 rfl;have f2:=ZE.cell 2 rfl;have g2:=Y3.cell 2 rfl;have k0:=bf.cell 0 rfl;have k1:=bf.cell 1 rfl;obtain ⟨x,hx⟩:∃ x,foldV (p1,p2) e.a=x:=⟨_,rfl⟩
   obtain ⟨y,hy⟩:∃ y,foldV (p1,p2) e.b=y:=⟨_,rfl⟩
   have HFE:Hid (foldE (p1,p2) e=⟨x,e.l,y⟩):=Lib.hid (by simp [foldE,hx,hy]);clear hmd;refine wp_region_T (S:=(fun w'=>w'.cell? ⟨E,0,none⟩=some (.int .i64 e.a)∧w'.cell? ⟨E,1,none⟩=some (.int .i64 e.l)∧w'.cell? ⟨E,2,none⟩=some (.int .i64 e.b)∧w'.cell? ⟨G,2,none⟩=some (.slice A2 xs.length c2)∧w'.cell? ⟨w.heap.size+1,0,none⟩=some (.int .i64 p1)∧w'.cell? ⟨w.heap.size+1,1,none⟩=some (.int .i64 p2))) 15 (by kernel_rfl) ⟨f0,f1,f2,g2,k0,k1⟩ ?_;generalize World.drew wx=wz at b0 bf b2 Y3 ZE hown hm f0 f1 f2 g2 k0 k1 ⊢;have hS:wz.cell? ⟨E,0,none⟩=some (.int .i64 e.a)∧wz.cell? ⟨E,1,none⟩=some (.int .i64 e.l)∧wz.cell? ⟨E,2,none⟩=some (.int .i64 e.b)∧wz.cell? ⟨G,2,none⟩=some (.slice A2 xs.length c2)∧wz.cell? ⟨w.heap.size+1,0,none⟩=some (.int .i64 p1)∧wz.cell? ⟨w.heap.size+1,1,none⟩=some (.int .i64 p2):=⟨f0,f1,f2,g2,k0,k1⟩
   have hP1:=spec_l7New p1 p2 e.a wz h1 i1 (by omega);rw [hx] at hP1;refine tkT 0 rfl hS ?_;try simp only [Act.put,zs1,zs2,zs3,zs4,zs5,zs6]
   refine tkT 1 rfl hS ?_;try simp only [Act.put,zs1,zs2,zs3,zs4,zs5,zs6]
   refine tkT 2 rfl hS ?_;try simp only [Act.put,zs1,zs2,zs3,zs4,zs5,zs6]
   refine tkT 3 rfl hS ?_;try simp only [Act.put,zs1,zs2,zs3,zs4,zs5,zs6]
   refine tkT 4 rfl hS ?_;try simp only [Act.put,zs1,zs2,zs3,zs4,zs5,zs6]
   refine tkT 6 rfl hS ?_;try simp only [Act.put,zs1,zs2,zs3,zs4,zs5,zs6]
   refine tkT 7 rfl hS ?_;try simp only [Act.put,zs1,zs2,zs3,zs4,zs5,zs6]
   refine tkT 8 rfl hS ?_;try simp only [Act.put,zs1,zs2,zs3,zs4,zs5,zs6]
   refine tkT 9 rfl hS ?_;try simp only [Act.put,zs1,zs2,zs3,zs4,zs5,zs6]
   refine tkT 10 rfl hS ?_;try simp only [Act.put,zs1,zs2,zs3,zs4,zs5,zs6]
   refine rdT 5 rfl (fun K hK=>?_)
   (go_simp;refine hP1.mono ?_;rintro _ w6 ⟨rfl,hc6⟩;have b06:=b0.mid hc6 oZr;have bf6:=bf.mid hc6 oZr;have b26:=b2.mid hc6 oZr;have Y36:=Y3.mid hc6 oZr;have ZE6:=ZE.mid hc6 oZr;have hown6:=OG.mid hown hc6 oZl;have hm6:=hm.trans hc6;have hS6:w6.cell? ⟨E,0,none⟩=some (.int .i64 e.a)∧w6.cell? ⟨E,1,none⟩=some (.int .i64 e.l)∧w6.cell? ⟨E,2,none⟩=some (.int .i64 e.b)∧w6.cell? ⟨G,2,none⟩=some (.slice A2 xs.length c2)∧w6.cell? ⟨w.heap.size+1,0,none⟩=some (.int .i64 p1)∧w6.cell? ⟨w.heap.size+1,1,none⟩=some (.int .i64 p2):=⟨ZE6.cell 0 rfl,ZE6.cell 1 rfl,ZE6.cell 2 rfl,Y36.cell 2 rfl,bf6.cell 0 rfl,bf6.cell 1 rfl⟩;go_wp2_with fail)
   refine hK.out _ _ (Or.inr hS6) (fun _=>?_);clear hK K;try simp only [Act.put,zs1,zs2,zs3,zs4,zs5,zs6]
   clear hS hP1 b0 bf b2 Y3 ZE hown hm f0 f1 f2 g2 k0 k1 hc6;have hP2:=spec_l7New p1 p2 e.b w6 h1 i3 (by omega);rw [hy] at hP2;clear hx hy;refine rdT 11 rfl (fun K hK=>?_)
   (go_simp;refine hP2.mono ?_;rintro _ w7 ⟨rfl,hc7⟩;have b07:=b06.mid hc7 oZr;have bf7:=bf6.mid hc7 oZr;have b27:=b26.mid hc7 oZr;have Y37:=Y36.mid hc7 oZr;have ZE7:=ZE6.mid hc7 oZr;have hown7:=OG.mid hown6 hc7 oZl;have hm7:=hm6.trans hc7;have hS7:w7.cell? ⟨E,0,none⟩=some (.int .i64 e.a)∧w7.cell? ⟨E,1,none⟩=some (.int .i64 e.l)∧w7.cell? ⟨E,2,none⟩=some (.int .i64 e.b)∧w7.cell? ⟨G,2,none⟩=some (.slice A2 xs.length c2)∧w7.cell? ⟨w.heap.size+1,0,none⟩=some (.int .i64 p1)∧w7.cell? ⟨w.heap.size+1,1,none⟩=some (.int .i64 p2):=⟨ZE7.cell 0 rfl,ZE7.cell 1 rfl,ZE7.cell 2 rfl,Y37.cell 2 rfl,bf7.cell 0 rfl,bf7.cell 1 rfl⟩;go_wp2_with fail)
   refine hK.out _ _ (Or.inr hS7) (fun _=>?_);clear hK K;try simp only [Act.put,zs1,zs2,zs3,zs4,zs5,zs6]
   clear hS6 hP2 b06 bf6 b26 Y36 ZE6 hown6 hm6 hc7;refine tkT 12 rfl hS7 ?_;try simp only [Act.put,zs1,zs2,zs3,zs4,zs5,zs6]
   have hQ:=spec_l4Put A2 xs c2 ⟨x,e.l,y⟩ w7 _ _ hown7.rg (by omega);refine rdT 13 rfl (fun K hK=>?_)
   (go_simp;refine hQ.mono ?_;rintro en w9 ⟨A9,c9,rfl,ho9,hc9⟩;have b09:=b07.mid hc9 oZr;have bf9:=bf7.mid hc9 oZr;have b29:=b27.mid hc9 oZr;have Y39:=Y37.mid hc9 oZr;have ZE9:=ZE7.mid hc9 oZr;have hown9:=OG.mid hown7 hc9 oZl;have hm9:=hm7.trans hc9;go_wp2_with fail)
   refine hK.out _ _ (Or.inr ⟨ZE9.cell 0 rfl,ZE9.cell 1 rfl,ZE9.cell 2 rfl,Y39.cell 2 rfl,bf9.cell 0 rfl,bf9.cell 1 rfl⟩) (fun _=>?_);clear hK K;try simp only [Act.put,zs1,zs2,zs3,zs4,zs5,zs6]
   have hS9:w9.cell? ⟨E,0,none⟩=some (.int .i64 e.a)∧w9.cell? ⟨E,1,none⟩=some (.int .i64 e.l)∧w9.cell? ⟨E,2,none⟩=some (.int .i64 e.b)∧w9.cell? ⟨G,2,none⟩=some (.slice A2 xs.length c2)∧w9.cell? ⟨w.heap.size+1,0,none⟩=some (.int .i64 p1)∧w9.cell? ⟨w.heap.size+1,1,none⟩=some (.int .i64 p2):=⟨ZE9.cell 0 rfl,ZE9.cell 1 rfl,ZE9.cell 2 rfl,Y39.cell 2 rfl,bf9.cell 0 rfl,bf9.cell 1 rfl⟩
   have hr2:=Y39.cell 2 rfl;have hrf:=Y39.2.2;have hG7:G+1≤w7.heap.size:=Y37.1;clear hS7 b07 bf7 b27 Y37 ZE7 hown7 hm7 hc9 hQ;refine tkT 14 rfl hS9 ?_;try simp only [Act.put,zs1,zs2,zs3,zs4,zs5,zs6]
   refine rdT 15 rfl (fun K hK=>?_)
   (go_simp)
   refine hK.out _ _ (Or.inl rfl) (fun _=>?_);clear hK K;try simp only [Act.put,zs1,zs2,zs3,zs4,zs5,zs6]
   refine wpAnyT_done (by kernel_rfl) ?_ _;go_wp2_with fail;go_roundw
   case rel =>
    have hst:=Mid.setAt w9 G 2 (.slice A9 (putE ⟨x,e.l,y⟩ xs).length c9);refine ⟨q+1,A9,c9,_,_,_,by omega,by go_num,Lib.hid ?_,ho9.mid hst (Or.inl hG7),hG7,b09.mid hst (Or.inl (by omega)),bf9.mid hst (Or.inl (by omega)),b29.mid hst (Or.inl (by omega)),Y39.set 2 _ (by simp) rfl,hm9.storeNew (p:=⟨G,2,none⟩) (by show w.heap.size≤G;omega) _⟩;rw [HTK.out,putAll_snoc,← HX.out,HFE.out]
   case measure=>simp [intOf];omega
  ·obtain rfl:q=es.length:=by omega
   have hxx:=HX.out;rw [List.take_length] at hxx;have HXX:=Lib.hid (show xs=mergeE (p1,p2) es from hxx);clear hxx;have u0:=b0.cell 0 rfl;have u1:=b0.cell 1 rfl;have u2:=b0.cell 2 rfl;have a0:=b2.cell 0 rfl;have a1:=b2.cell 1 rfl;have a2:=b2.cell 2 rfl;have x0:=Y3.cell 0 rfl;have x1:=Y3.cell 1 rfl;have x2:=Y3.cell 2 rfl;have af:=b2.2.2;have xf:=Y3.2.2;have hcl:¬ w.heap.size+2=G:=by omega
   have hcl2:¬ G=w.heap.size+2:=by omega
   go_wp2_with fail;have hcl3:(w.heap.size+2 == G)=false:=by simpa using hcl
   refine bodyPost_ret (v:=.tuple #[.agg #[.int .i64 r,.int .i64 (s - 1),.slice A2 xs.length c2],.bool true]) (by simp [results,Tryz.results231,go_sem,a0,a1,a2,x0,x1,x2,af,xf,hcl]) rfl ⟨A2,c2,by rw [HXX.out],?_,?_⟩
   ·rw [← HXX.out]
    refine OG.wide (OG.mid hown (a:=w.heap.size) (b:=G+1) ?_ (Or.inl hlo2)) (by omega) (by have:=hown.size;simpa using this) (Nat.le_refl _);repeat (first | exact Mid.refl _ _ _ | refine Mid.stored ?_ _ (by simp;try omega) (by simp;try omega))
   ·repeat (first | exact hm | refine Mid.storeNew ?_ (by simp;try omega) _)
end
section
open Go.RowKit
theorem spec_l7Folds (r s:Int) (A:Option Addr) (es:List Ed) (c:Nat) (w:World) (lo hi:Nat) (hr:RG w lo hi A es) (hl:es.length≤120) :
  Calls Tryz.prog 246 #[graV r s A es.length c] w fun e w'=>∃ A1 c1,e=.returned (.slice A1 (folds es).length c1)∧RV w' 0 w'.heap.size A1 (ints (fdI (folds es)))∧Mid 0 0 w w':=by
 have hm0:Mid 0 0 w ((w.alloc (.cells #[.int .i64 r,.int .i64 s,.slice A es.length c] 26)).alloc (.cells #[] 130)):=(Mid.alloc _ _).trans (Mid.alloc _ _);have b0:=(Box.new w #[.int .i64 r,.int .i64 s,.slice A es.length c] 26).mid (Mid.alloc _ (.cells #[] 130)) oZr;have O0:=owns_empty (w.alloc (.cells #[.int .i64 r,.int .i64 s,.slice A es.length c] 26)) 130 2;rw [World.size_alloc] at O0;go_enter Tryz.func246,Tryz.ntmps246
 go_wp2_with fail;go_loopw [3,4] (fun out iv wr=>∃ (k:Nat) (A1:Option Addr) (n1 c1:Nat),k≤es.length∧iv=.int .i64 k∧out=.slice A1 n1 c1∧Hid ((foldsUp es k).length=n1)∧wr.ownsRow (w.heap.size+1) 130 2 (.slice A1 n1 c1) n1 (ints (fdI (foldsUp es k))) ∧
   Box wr w.heap.size [.int .i64 r,.int .i64 s,.slice A es.length c]∧Mid 0 0 w wr) (fun _ i _=>es.length - (intOf i).toNat)
 case atStart=>exact ⟨0,_,0,0,Nat.zero_le _,rfl,rfl,Lib.hid rfl,O0,b0,hm0⟩
 case round =>
  clear O0 b0 hm0;obtain ⟨wo,hwo⟩:∃ wo,wo=wr:=⟨_,rfl⟩
  subst hwo;obtain ⟨k,A1,n1,c1,hk,rfl,rfl,HN,hown,b0,hm⟩:=hrel;have q0:=b0.cell 0 rfl;have q1:=b0.cell 1 rfl;have q2:=b0.cell 2 rfl;by_cases hlt:k < es.length
  ·obtain ⟨e,he⟩:=get_of_lt es hlt
   have HE:=Lib.hid he;have hk0:(0:Int)≤(k:Int):=by omega
   have hk1:(k:Int) < (es.length:Int):=by omega
   clear he;go_wp2_with fail;clear q0 q1 q2;go_loopw [3,5] (fun out jv wr=>∃ (j:Nat) (A2:Option Addr) (n2 c2:Nat),k+1+j≤es.length∧jv=.int .i64 ((k+1+j:Nat):Int)∧out=.slice A2 n2 c2∧Hid ((foldsUp es k++((es.drop (k+1)).take j).flatMap (foldsAB e)).length=n2) ∧
     wr.ownsRow (w.heap.size+1) 130 2 (.slice A2 n2 c2) n2 (ints (fdI (foldsUp es k++((es.drop (k+1)).take j).flatMap (foldsAB e)))) ∧
     Box wr w.heap.size [.int .i64 r,.int .i64 s,.slice A es.length c]∧Mid 0 0 w wr) (fun _ j _=>es.length - (intOf j).toNat)
   case atStart=>exact ⟨0,A1,n1,c1,by omega,by go_num,rfl,Lib.hid (by simpa using HN.out),by simpa using hown,b0,hm⟩
   case round =>
    clear hown b0 hm HN;obtain ⟨j,A2,n2,c2,hj,rfl,rfl,HN,hown,b0,hm⟩:=hrel;have hn2:n2≤40000:=by
     have h1:=foldsUp_len es k;have h2:=flat_len e ((es.drop (k+1)).take j);have h3:=HN.out;have h4:k * (2 * es.length)≤120 * 240:=Nat.mul_le_mul (by omega) (by omega);rw [List.length_append] at h3;rw [List.length_take,List.length_drop] at h2;omega
    obtain ⟨m,hmj⟩:∃ m,k+1+j=m:=⟨_,rfl⟩
    rw [hmj];have HM:=Lib.hid hmj;rw [hmj] at hj;clear hmj;have q0:=b0.cell 0 rfl;have q1:=b0.cell 1 rfl;have q2:=b0.cell 2 rfl;by_cases hlt2:m < es.length
    ·obtain ⟨B,off,e',rfl, -,hbh,he',e0,e1c,e2c⟩:=(hr.mid hm oZl).ed hlt
     rw [HE.out] at he';injection he' with he'
     subst he';obtain ⟨B',off',f,hX, -,hbh2,hf,f0,f1,f2⟩:=(hr.mid hm oZl).ed hlt2;injection hX with hX
     injection hX with hX1 hX2
     subst hX1 hX2;have HF:=Lib.hid (flat_take (e:=e) (show (es.drop (k+1))[j]?=some f by rw [List.getElem?_drop,HM.out];exact hf));have hj0:(0:Int)≤(m:Int):=by omega
     have hjn:(m:Int) < (es.length:Int):=by omega
     have zb:B < wr.heap.size:=Nat.lt_of_lt_of_le hbh (hr.mid hm oZl).1;have h0r:w.heap.size < wr.heap.size:=b0.1;have hal:=(Mid.alloc wr (.cells #[.int .i64 e.a,.int .i64 e.l,.int .i64 e.b] 68)).trans (Mid.alloc (wr.alloc (.cells #[.int .i64 e.a,.int .i64 e.l,.int .i64 e.b] 68)) (.cells #[.int .i64 f.a,.int .i64 f.l,.int .i64 f.b] 68));have ZE:=(Box.new wr #[.int .i64 e.a,.int .i64 e.l,.int .i64 e.b] 68).mid (Mid.alloc (wr.alloc (.cells #[.int .i64 e.a,.int .i64 e.l,.int .i64 e.b] 68)) (.cells #[.int .i64 f.a,.int .i64 f.l,.int .i64 f.b] 68)) oZr;have ZF:=Box.new (wr.alloc (.cells #[.int .i64 e.a,.int .i64 e.l,.int .i64 e.b] 68)) #[.int .i64 f.a,.int .i64 f.l,.int .i64 f.b] 68;rw [World.size_alloc] at ZF;have HNE:=Lib.hid (show Value.ownBlock (.slice A2 n2 c2)≠some wr.heap.size from fun h=>by have:=(hown.lt _ h).2;omega);have HFE:=Lib.hid (show Value.ownBlock (.slice A2 n2 c2)≠some (wr.heap.size+1) from fun h=>by have:=(hown.lt _ h).2;omega);have hB0:=Lib.hid (fun (g:Nat) (h:Value.ownBlock (.slice A2 n2 c2)=some g)=>(hown.lt g h).1);replace b0:=b0.mid hal oZr;replace hown:=owns_mid hown hal oZl;replace hm:=hm.trans hal;have HW:=Lib.hid hown;have hszA:w.heap.size+1≤((wr.alloc (.cells #[.int .i64 e.a,.int .i64 e.l,.int .i64 e.b] 68)).alloc (.cells #[.int .i64 f.a,.int .i64 f.l,.int .i64 f.b] 68)).heap.size:=by simp;omega
     clear hf hown hal;by_cases e1:e.l=f.l
     ·have d1:(e.l == f.l)=true:=by simpa using e1
      by_cases e2:e.a=f.a
      ·have d2:(e.a == f.a)=true:=by simpa using e2
       by_cases e3:e.b=f.b
       ·have d3:(e.b == f.b)=true:=by simpa using e3
        have hAB:foldsAB e f=[(min e.b f.b,max e.b f.b),(min e.a f.a,max e.a f.a)]:=by simp [foldsAB,e1,e2,e3]
        have HAB:Hid (foldsUp es k++((es.drop (k+1)).take (j+1)).flatMap (foldsAB e)=(foldsUp es k++((es.drop (k+1)).take j).flatMap (foldsAB e))++[(min e.b f.b,max e.b f.b)]++[(min e.a f.a,max e.a f.a)]):=Lib.hid (by rw [HF.out,hAB];simp);clear e1 e2 e3 hAB;go_wp2_with (first | (at_builtin;refine wpList_pushF rfl _ _ rfl (w.heap.size+1) A2 n2 c2 _ rfl HW.out (min e.b f.b,max e.b f.b) (by rw [World.size_alloc,World.size_alloc];rfl) (by omega) hszA ?_;intro A8 c8 w8 ho8 hgr8 hat8;have ZE8:=ZE.grown hgr8 HNE.out;have ZF8:=ZF.grown hgr8 HFE.out;have g80:=ZE8.cell 0 rfl;have g81:=ZE8.cell 1 rfl;have g82:=ZE8.cell 2 rfl;have h80:=ZF8.cell 0 rfl;have h81:=ZF8.cell 1 rfl;have h82:=ZF8.cell 2 rfl;have HW8:=Lib.hid ho8;have hsz8:=Nat.le_trans hszA hgr8.size;clear ho8) | (at_builtin;refine wpList_pushF rfl _ _ rfl (w.heap.size+1) A8 (n2+1) c8 _ rfl HW8.out (min e.a f.a,max e.a f.a) rfl (by omega) hsz8 ?_;intro A9 c9 w9 ho9 hgr9 hat9))
        have hm8:=Mid.of_grownRow HW.out hgr8;have hm9:=Mid.of_grownRow HW8.out hgr9;have HB8:=Lib.hid (fun (g:Nat) (h:Value.ownBlock (.slice A8 (n2+1) c8)=some g)=>(HW8.out.lt g h).1);clear hat9 hat8;go_roundw
        case rel=>exact ⟨j+1,A9,n2+1+1,c9,by have:=HM.out;omega,by have:=HM.out;go_num,rfl,Lib.hid (by rw [HAB.out,List.length_append,List.length_append,HN.out];rfl),by rw [HAB.out];exact ho9,(b0.grown hgr8 (fun h=>by have:=hB0.out _ h;omega)).grown hgr9 (fun h=>by have:=HB8.out _ h;omega),(hm.transNew hm8 (Or.inl (Nat.le_succ _))).transNew hm9 (Or.inl (Nat.le_succ _))⟩
        case measure=>have:=HM.out;simp [intOf];omega
       ·have d3:(e.b == f.b)=false:=by simpa only [beq_eq_false_iff_ne] using e3
        have hAB:foldsAB e f=[(min e.b f.b,max e.b f.b)]:=by simp [foldsAB,e1,e2,e3]
        have HAB:Hid (foldsUp es k++((es.drop (k+1)).take (j+1)).flatMap (foldsAB e)=(foldsUp es k++((es.drop (k+1)).take j).flatMap (foldsAB e))++[(min e.b f.b,max e.b f.b)]):=Lib.hid (by rw [HF.out,hAB,List.append_assoc]);clear e1 e2 e3 hAB;go_wp2_with (at_builtin;refine wpList_pushF rfl _ _ rfl (w.heap.size+1) A2 n2 c2 _ rfl HW.out (min e.b f.b,max e.b f.b) (by rw [World.size_alloc,World.size_alloc];rfl) (by omega) hszA ?_;intro A9 c9 w9 ho9 hgr9 hat9;have ZE8:=ZE.grown hgr9 HNE.out;have ZF8:=ZF.grown hgr9 HFE.out;have g80:=ZE8.cell 0 rfl;have g81:=ZE8.cell 1 rfl;have g82:=ZE8.cell 2 rfl;have h80:=ZF8.cell 0 rfl;have h81:=ZF8.cell 1 rfl;have h82:=ZF8.cell 2 rfl)
        have hm9:=Mid.of_grownRow HW.out hgr9;clear hat9;go_roundw
        case rel=>exact ⟨j+1,A9,n2+1,c9,by have:=HM.out;omega,by have:=HM.out;go_num,rfl,Lib.hid (by rw [HAB.out,List.length_append,HN.out];rfl),by rw [HAB.out];exact ho9,b0.grown hgr9 (fun h=>by have:=hB0.out _ h;omega),hm.transNew hm9 (Or.inl (Nat.le_succ _))⟩
        case measure=>have:=HM.out;simp [intOf];omega
      ·have d2:(e.a == f.a)=false:=by simpa only [beq_eq_false_iff_ne] using e2
       by_cases e3:e.b=f.b
       ·have d3:(e.b == f.b)=true:=by simpa using e3
        have hAB:foldsAB e f=[(min e.a f.a,max e.a f.a)]:=by simp [foldsAB,e1,e2,e3]
        have HAB:Hid (foldsUp es k++((es.drop (k+1)).take (j+1)).flatMap (foldsAB e)=(foldsUp es k++((es.drop (k+1)).take j).flatMap (foldsAB e))++[(min e.a f.a,max e.a f.a)]):=Lib.hid (by rw [HF.out,hAB,List.append_assoc]);clear e1 e2 e3 hAB;go_wp2_with (at_builtin;refine wpList_pushF rfl _ _ rfl (w.heap.size+1) A2 n2 c2 _ rfl HW.out (min e.a f.a,max e.a f.a) (by rw [World.size_alloc,World.size_alloc];rfl) (by omega) hszA ?_;intro A9 c9 w9 ho9 hgr9 hat9;have ZE8:=ZE.grown hgr9 HNE.out;have ZF8:=ZF.grown hgr9 HFE.out;have g80:=ZE8.cell 0 rfl;have g81:=ZE8.cell 1 rfl;have g82:=ZE8.cell 2 rfl;have h80:=ZF8.cell 0 rfl;have h81:=ZF8.cell 1 rfl;have h82:=ZF8.cell 2 rfl)
        have hm9:=Mid.of_grownRow HW.out hgr9;clear hat9;go_roundw
        case rel=>exact ⟨j+1,A9,n2+1,c9,by have:=HM.out;omega,by have:=HM.out;go_num,rfl,Lib.hid (by rw [HAB.out,List.length_append,HN.out];rfl),by rw [HAB.out];exact ho9,b0.grown hgr9 (fun h=>by have:=hB0.out _ h;omega),hm.transNew hm9 (Or.inl (Nat.le_succ _))⟩
        case measure=>have:=HM.out;simp [intOf];omega
       ·have d3:(e.b == f.b)=false:=by simpa only [beq_eq_false_iff_ne] using e3
        have hAB:foldsAB e f=[]:=by simp [foldsAB,e1,e2,e3]
        have HAB:Hid (((es.drop (k+1)).take (j+1)).flatMap (foldsAB e)=((es.drop (k+1)).take j).flatMap (foldsAB e)):=Lib.hid (by rw [HF.out,hAB,List.append_nil]);clear e1 e2 e3 hAB;go_wp2_with fail;go_roundw
        case rel=>exact ⟨j+1,A2,n2,c2,by have:=HM.out;omega,by have:=HM.out;go_num,rfl,by rw [HAB.out];exact HN,by rw [HAB.out];exact HW.out,b0,hm⟩
        case measure=>have:=HM.out;simp [intOf];omega
     ·have d1:(e.l == f.l)=false:=by simpa only [beq_eq_false_iff_ne] using e1
      have hAB:foldsAB e f=[]:=by unfold foldsAB;rw [if_neg e1]
      have HAB:Hid (((es.drop (k+1)).take (j+1)).flatMap (foldsAB e)=((es.drop (k+1)).take j).flatMap (foldsAB e)):=Lib.hid (by rw [HF.out,hAB,List.append_nil]);clear e1 hAB;go_wp2_with fail;go_roundw
      case rel=>exact ⟨j+1,A2,n2,c2,by have:=HM.out;omega,by have:=HM.out;go_num,rfl,by rw [HAB.out];exact HN,by rw [HAB.out];exact HW.out,b0,hm⟩
      case measure=>have:=HM.out;simp [intOf];omega
    ·have hje:j=es.length - (k+1):=by have:=HM.out;omega
     subst hje;rw [List.take_of_length_le (by rw [List.length_drop];exact Nat.le_refl _),← foldsUp_succ HE.out] at HN hown;obtain rfl:m=es.length:=by omega
     go_wp2_with fail;go_roundw
     case rel=>exact ⟨k+1,A2,n2,c2,by omega,by go_num,rfl,HN,hown,b0,hm⟩
     case measure=>simp [intOf];omega
  ·obtain rfl:k=es.length:=by omega
   rw [foldsUp_all] at HN hown;go_wp2_with fail;go_ret;have hn:=HN.out;subst hn;exact ⟨A1,c1,rfl,(owns_rv hown).wide (Nat.zero_le _) (Nat.le_refl _) (Nat.le_refl _),hm⟩
end
section
open Go.RowKit
theorem spec_FirstFold (r s:Int) (A:Option Addr) (es:List Ed) (c:Nat) (w:World) (lo hi:Nat) (hr:RG w lo hi A es) (hg:IsGr r s es) (p:Int × Int) (b:Bool) (hp:FirstIs es p b) :
  Calls Tryz.prog 230 #[graV r s A es.length c] w fun e w'=>e=.returned (.tuple #[.agg #[.int .i64 p.1,.int .i64 p.2],.bool b])∧Mid 0 0 w w':=by
 have hl:=hg.len;have HG:=Lib.hid hg;have hm0:Mid 0 0 w ((w.alloc (.cells #[.int .i64 r,.int .i64 s,.slice A es.length c] 26)).alloc (.cells #[.int .i64 0,.int .i64 0] 130)):=(Mid.alloc _ _).trans (Mid.alloc _ _);have b0:=(Box.new w #[.int .i64 r,.int .i64 s,.slice A es.length c] 26).mid (Mid.alloc _ (.cells #[.int .i64 0,.int .i64 0] 130)) oZr;have b2:=Box.new (w.alloc (.cells #[.int .i64 r,.int .i64 s,.slice A es.length c] 26)) #[.int .i64 0,.int .i64 0] 130;rw [World.size_alloc] at b2;clear hg;obtain ⟨p1,p2⟩:=p;go_enter Tryz.func230,Tryz.ntmps230
 go_wp2_with fail;with_reducible refine (spec_IsGraph r s A es c _ _ _ (hr.mid hm0 oZl).rv (by omega) true (iff_of_true rfl HG.out)).mono ?_
 rintro en w1 ⟨rfl,hm1⟩;replace b0:=b0.mid hm1 oZr;replace b2:=b2.mid hm1 oZr;replace hm0:=hm0.trans hm1;have q0:=b0.cell 0 rfl;have q1:=b0.cell 1 rfl;have q2:=b0.cell 2 rfl;go_wp2_with fail;with_reducible refine (spec_l7Folds r s A es c _ _ _ (hr.mid hm0 oZl) hl).mono ?_
 rintro en w2 ⟨A2,c2,rfl,hrv,hm2⟩;replace b2:=b2.mid hm2 oZr;replace hm0:=hm0.trans hm2;have zf:=b2.2.2;have z0:=b2.cell 0 rfl;have z1:=b2.cell 1 rfl;clear q0 q1 q2 hm1 hm2;rcases hp with ⟨rfl,hn,hpp⟩ | ⟨rfl,t,ht⟩
 ·injection hpp with h1 h2
  subst h1 h2;have hn0:(folds es).length=0:=by rw [hn];rfl
  clear hn;go_wp2_with fail;refine bodyPost_ret (v:=.tuple #[.agg #[.int .i64 0,.int .i64 0],.bool false]) (by simp [results,Tryz.results230,go_sem,z0,z1,zf]) rfl ⟨rfl,?_⟩;repeat (first | exact hm0 | refine Mid.storeNew ?_ (by simp;try omega) _)
 ·obtain ⟨nl,hnl⟩:∃ nl,(folds es).length=nl+1:=⟨t.length,by rw [ht];rfl⟩
  obtain ⟨g,off,rfl, -, -,hc⟩:=hrv.2 (by rw [ht];simp [fdI_head,ints]);have y0:=hc 0 (.int .i64 p1) (by rw [ht];simp [fdI_head,ints]);have y1:=hc 1 (.int .i64 p2) (by rw [ht];simp [fdI_head,ints]);rw [Nat.add_zero] at y0;have hd:((nl+1:Nat) == 0)=false:=by simp
  rw [hnl];have h1:(0:Int) < ((nl+1:Nat):Int):=by omega
  clear hc ht hrv hnl;go_wp2_with fail;refine bodyPost_ret (v:=.tuple #[.agg #[.int .i64 p1,.int .i64 p2],.bool true]) (by simp [results,Tryz.results230,go_sem,z0,z1,zf]) rfl ⟨rfl,?_⟩;repeat (first | exact hm0 | refine Mid.storeNew ?_ (by simp;try omega) _)
end
section
open Go.RowKit
theorem spec_FoldOnce (r s:Int) (A:Option Addr) (es:List Ed) (c:Nat) (w:World) (lo hi:Nat) (hr:RG w lo hi A es) (hg:IsGr r s es) (p:Int × Int) (b:Bool) (rs:Int) (res:List Ed) (hp:OnceIs s es p b rs res) :
  Calls Tryz.prog 206 #[graV r s A es.length c] w fun e w'=>∃ A1 c1,e=.returned (.tuple #[graV r rs A1 res.length c1,.agg #[.int .i64 p.1,.int .i64 p.2],.bool b])∧OG w' w.heap.size w'.heap.size A1 c1 res∧Mid 0 0 w w':=by
 have hl:=hg.len;have HG:=Lib.hid hg;have hm0:Mid 0 0 w (((w.alloc (.cells #[.int .i64 r,.int .i64 s,.slice A es.length c] 26)).alloc (.cells #[.int .i64 0,.int .i64 0,.slice none 0 0] 26)).alloc (.cells #[.int .i64 0,.int .i64 0] 130)):=((Mid.alloc _ _).trans (Mid.alloc _ _)).trans (Mid.alloc _ _);have b0:=((Box.new w #[.int .i64 r,.int .i64 s,.slice A es.length c] 26).mid (Mid.alloc _ (.cells #[.int .i64 0,.int .i64 0,.slice none 0 0] 26)) oZr).mid (Mid.alloc _ (.cells #[.int .i64 0,.int .i64 0] 130)) oZr;have b2:=(Box.new (w.alloc (.cells #[.int .i64 r,.int .i64 s,.slice A es.length c] 26)) #[.int .i64 0,.int .i64 0,.slice none 0 0] 26).mid (Mid.alloc _ (.cells #[.int .i64 0,.int .i64 0] 130)) oZr;have b3:=Box.new ((w.alloc (.cells #[.int .i64 r,.int .i64 s,.slice A es.length c] 26)).alloc (.cells #[.int .i64 0,.int .i64 0,.slice none 0 0] 26)) #[.int .i64 0,.int .i64 0] 130;simp only [World.size_alloc,Nat.add_assoc,Nat.reduceAdd] at b2 b3;have hF:=hp.first
 have HF:=Lib.hid hF;clear hg hF;obtain ⟨p1,p2⟩:=p;go_enter Tryz.func206,Tryz.ntmps206
 go_wp2_with fail;generalize hw1:(((w.alloc (.cells #[.int .i64 r,.int .i64 s,.slice A es.length c] 26)).alloc (.cells #[.int .i64 0,.int .i64 0,.slice none 0 0] 26)).alloc (.cells #[.int .i64 0,.int .i64 0] 130))=w1 at hm0 b0 b2 b3 ⊢;clear hw1;with_reducible refine (spec_FirstFold r s A es c _ _ _ (hr.mid hm0 oZl) HG.out (p1,p2) b HF.out).mono ?_
 rintro en w2 ⟨rfl,hm2⟩;replace b0:=b0.mid hm2 oZr;replace b2:=b2.mid hm2 oZr;replace b3:=b3.mid hm2 oZr;replace hm0:=hm0.trans hm2;have hbs0:=b0.1;have hbs2:=b2.1;have hbs3:=b3.1;have u0:=b0.cell 0 rfl;have u1:=b0.cell 1 rfl;have u2:=b0.cell 2 rfl;have hal:=Mid.alloc w2 (.cells #[.int .i64 p1,.int .i64 p2] 130);have bf:=Box.new w2 #[.int .i64 p1,.int .i64 p2] 130;replace b0:=b0.mid hal oZr;replace b2:=b2.mid hal oZr;replace b3:=b3.mid hal oZr;replace hm0:=hm0.trans hal;clear hm2;rcases hp with ⟨rfl,hn,hpp,rfl,rfl⟩ | ⟨rfl,⟨t,ht⟩,rfl,hres⟩
 ·injection hpp with h1 h2
  subst h1 h2;clear hn;go_wp2_with fail;clear u0 u1 u2;generalize hw3:w2.alloc (.cells #[.int .i64 0,.int .i64 0] 130)=w3 at b0 b2 b3 bf hm0 ⊢;clear hw3 hal;with_reducible refine (spec_l4Copy r rs A res c _ _ _ (hr.mid hm0 oZl) (by omega)).mono ?_
  rintro en w4 ⟨A4,c4,rfl,hog,hm4⟩;have hs3:w.heap.size+3≤w3.heap.size:=b3.1;replace b2:=b2.mid hm4 oZr;replace b3:=b3.mid hm4 oZr;replace hm0:=hm0.trans hm4;have a0:=b2.cell 0 rfl;have a1:=b2.cell 1 rfl;have a2:=b2.cell 2 rfl;have x0:=b3.cell 0 rfl;have x1:=b3.cell 1 rfl;have af:=b2.2.2;have xf:=b3.2.2;go_wp2_with fail;refine bodyPost_ret (v:=.tuple #[.agg #[.int .i64 r,.int .i64 rs,.slice A4 res.length c4],.agg #[.int .i64 0,.int .i64 0],.bool false]) (by simp [results,Tryz.results206,go_sem,a0,a1,a2,x0,x1,af,xf]) rfl ⟨A4,c4,rfl,?_,?_⟩
  ·refine OG.wide (OG.mid hog (a:=w.heap.size+1) (b:=w.heap.size+3) ?_ (Or.inl (by omega))) (by omega) (by simp) (Nat.le_refl _)
   repeat (first | exact Mid.refl _ _ _ | refine Mid.stored ?_ _ (by simp;try omega) (by simp;try omega))
  ·repeat (first | exact hm0 | refine Mid.storeNew ?_ (by simp;try omega) _)
 ·obtain ⟨k1,k2,k3⟩:=mem_folds HG.out.all HG.out.asc (p:=(p1,p2)) (by rw [ht];simp)
  simp only at k1 k2 k3;have HRES:=Lib.hid hres;clear ht hres;have y0:=bf.cell 0 rfl;have y1:=bf.cell 1 rfl;go_wp2_with fail;clear u0 u1 u2 y0 y1;generalize hw3:w2.alloc (.cells #[.int .i64 p1,.int .i64 p2] 130)=w3 at b0 b2 b3 bf hm0 ⊢;have hs3:w3.heap.size=w2.heap.size+1:=by rw [← hw3];simp
  clear hw3 hal;obtain ⟨F,hF⟩:∃ F,w2.heap.size=F:=⟨_,rfl⟩
  rw [hF] at bf hs3 hbs0 hbs2 hbs3 ⊢;clear hF;with_reducible refine (spec_MergeVertices r s A es c p1 p2 _ _ _ (hr.mid hm0 oZl) HG.out k1 k2 k3).mono ?_
  rintro en w4 ⟨A4,c4,rfl,hog,hm4⟩;rw [← HRES.out] at hog ⊢;have hsz4:=hm4.size;replace b2:=b2.mid hm4 oZr;replace b3:=b3.mid hm4 oZr;replace bf:=bf.mid hm4 oZr;replace hm0:=hm0.trans hm4;have hal4:=Mid.alloc w4 (.cells #[.int .i64 r,.int .i64 (s - 1),.slice A4 res.length c4] 26);have bg:=Box.new w4 #[.int .i64 r,.int .i64 (s - 1),.slice A4 res.length c4] 26;replace b2:=b2.mid hal4 oZr;replace b3:=b3.mid hal4 oZr;replace bf:=bf.mid hal4 oZr;replace hog:=hog.mid hal4 oZl;replace hm0:=hm0.trans hal4;go_wp2_with fail;generalize hw5:w4.alloc (.cells #[.int .i64 r,.int .i64 (s - 1),.slice A4 res.length c4] 26)=w5 at b2 b3 bf bg hog hm0 ⊢;have hs5:w5.heap.size=w4.heap.size+1:=by rw [← hw5];simp
  clear hw5 hal4;obtain ⟨H,hH⟩:∃ H,w4.heap.size=H:=⟨_,rfl⟩
  rw [hH] at bg hsz4 hs5 hog ⊢;clear hH;have a0:=b2.cell 0 rfl;have a1:=b2.cell 1 rfl;have a2:=b2.cell 2 rfl;have x0:=b3.cell 0 rfl;have x1:=b3.cell 1 rfl;have y0:=bf.cell 0 rfl;have y1:=bf.cell 1 rfl;have z0:=bg.cell 0 rfl;have z1:=bg.cell 1 rfl;have z2:=bg.cell 2 rfl;have af:=b2.2.2;have xf:=b3.2.2;have n1:¬ w.heap.size+1=H:=by omega
  have n2:¬ w.heap.size+2=H:=by omega
  have n3:¬ w.heap.size+1=F:=by omega
  have n4:¬ w.heap.size+2=F:=by omega
  have n5:¬ F=H:=by omega
  go_region
  go_wp2_with fail;refine bodyPost_ret (v:=.tuple #[.agg #[.int .i64 r,.int .i64 (s - 1),.slice A4 res.length c4],.agg #[.int .i64 p1,.int .i64 p2],.bool true]) (by simp [results,Tryz.results206,go_sem,a0,a1,a2,x0,x1,af,xf]) rfl ⟨A4,c4,rfl,?_,?_⟩
  ·refine OG.wide (OG.mid hog (a:=w.heap.size+1) (b:=w.heap.size+3) ?_ (Or.inl (by omega))) (by omega) (by have:=hog.size;simp;omega) (Nat.le_refl _)
   refine Mid.trans ?_ (Mid.drew1 _).zero;repeat (first | exact Mid.refl _ _ _ | refine Mid.stored ?_ _ (by simp;try omega) (by simp;try omega))
  ·refine Mid.trans ?_ (Mid.drew1 _)
   repeat (first | exact hm0 | refine Mid.storeNew ?_ (by simp;try omega) _)
end
section
open Go.RowKit
theorem spec_FoldAll (r:Int) (n:Nat) (A:Option Addr) (es:List Ed) (c:Nat) (w:World) (lo hi:Nat) (hr:RG w lo hi A es) (hg:IsGr r n es) :
  Calls Tryz.prog 167 #[graV r n A es.length c] w fun e w'=>∃ A1 c1 Al nl cl,e=.returned (.tuple #[graV r (foldA 40 ((n:Int),es)).1 A1 (foldA 40 ((n:Int),es)).2.length c1,.slice Al nl cl])∧OG w' w.heap.size w'.heap.size A1 c1 (foldA 40 ((n:Int),es)).2∧Mid 0 0 w w':=by
 have hn40:n≤40:=by have:=hg.size;omega
 have hl:=hg.len;have hm0:Mid 0 0 w ((w.alloc (.cells #[.int .i64 r,.int .i64 n,.slice A es.length c] 26)).alloc (.cells #[.int .i64 0,.int .i64 0,.slice none 0 0] 26)):=(Mid.alloc _ _).trans (Mid.alloc _ _);have b0:=(Box.new w #[.int .i64 r,.int .i64 n,.slice A es.length c] 26).mid (Mid.alloc _ (.cells #[.int .i64 0,.int .i64 0,.slice none 0 0] 26)) oZr;have b2:=Box.new (w.alloc (.cells #[.int .i64 r,.int .i64 n,.slice A es.length c] 26)) #[.int .i64 0,.int .i64 0,.slice none 0 0] 26;simp only [World.size_alloc] at b2;have HG:=Lib.hid hg;obtain ⟨T,hT⟩:∃ T,foldA 40 ((n:Int),es)=T:=⟨_,rfl⟩
 rw [hT];have HT:=Lib.hid hT;clear hg hT;go_enter Tryz.func167,Tryz.ntmps167
 go_wp2_with fail;generalize hw1:((w.alloc (.cells #[.int .i64 r,.int .i64 n,.slice A es.length c] 26)).alloc (.cells #[.int .i64 0,.int .i64 0,.slice none 0 0] 26))=w1 at hm0 b0 b2 ⊢;clear hw1;with_reducible refine (spec_l4Copy r n A es c _ _ _ (hr.mid hm0 oZl) (by omega)).mono ?_
 rintro en w2 ⟨A1,c1,rfl,ho,hm2⟩;have hs2:w.heap.size+1 < w1.heap.size:=b2.1;replace b2:=b2.mid hm2 oZr;replace hm0:=hm0.trans hm2;have hsz2:=hm2.size;have hown0:=owns_base (base':=w.heap.size+2) ho.ov.2.1 hs2;have hbk0:Value.ownBlock (.slice A1 es.length c1)≠some w2.heap.size:=fun h=>by have:=ho.ov.2.2 _ h;omega
 have hal:=(Mid.alloc w2 (.cells #[.int .i64 r,.int .i64 n,.slice A1 es.length c1] 26)).trans (Mid.alloc (w2.alloc (.cells #[.int .i64 r,.int .i64 n,.slice A1 es.length c1] 26)) (.cells #[] 130));have Y3:=(Box.new w2 #[.int .i64 r,.int .i64 n,.slice A1 es.length c1] 26).mid (Mid.alloc (w2.alloc (.cells #[.int .i64 r,.int .i64 n,.slice A1 es.length c1] 26)) (.cells #[] 130)) oZr;have O0:=owns_empty (w2.alloc (.cells #[.int .i64 r,.int .i64 n,.slice A1 es.length c1] 26)) 130 2;rw [World.size_alloc] at O0;replace b2:=b2.mid hal oZr;replace hown0:=owns_mid hown0 hal oZl;replace hm0:=hm0.trans hal;go_wp2_with fail;generalize hw3:(w2.alloc (.cells #[.int .i64 r,.int .i64 n,.slice A1 es.length c1] 26)).alloc (.cells #[] 130)=w3 at Y3 O0 b2 hown0 hm0 ⊢;obtain ⟨G,hG⟩:∃ G,w2.heap.size=G:=⟨_,rfl⟩
 rw [hG] at Y3 O0 hbk0 hsz2 ⊢;have hGw:w.heap.size+2≤G:=by omega
 clear hw3 hal hm2 ho hG hsz2 hs2 b0;go_loopw [5,6] (fun l iv wr=>∃ (i m s:Nat) (es1:List Ed) (A2:Option Addr) (c2:Nat) (Al:Option Addr) (nl cl:Nat) (ps:List (Int × Int)),l=.slice Al nl cl∧iv=.int .i64 i∧i+m=40∧nl+s≤40∧Hid (foldA m ((s:Int),es1)=T)∧s≤m∧Hid (IsGr r s es1)∧wr.ownsRow (G+1) 130 2 (.slice Al nl cl) nl (ints (fdI ps)) ∧
   Hid (wr.ownsRow (w.heap.size+2) 68 3 (.slice A2 es1.length c2) es1.length (ints (edI es1)))∧Hid (Value.ownBlock (.slice A2 es1.length c2)≠some G)∧Box wr (w.heap.size+1) [.int .i64 0,.int .i64 0,.slice none 0 0]∧Box wr G [.int .i64 r,.int .i64 s,.slice A2 es1.length c2]∧Mid 0 0 w wr) (fun _ _ wr=>sizeAt wr G)
 case atStart=>exact ⟨0,40,n,es,A1,c1,_,0,0,[],rfl,rfl,by omega,by omega,HT,hn40,HG,O0,Lib.hid hown0,Lib.hid hbk0,b2,Y3,hm0⟩
 case round =>
  clear O0 hown0 b2 Y3 hm0 hbk0;obtain ⟨i,m,s,es1,A2,c2,Al,nl,cl,ps,rfl,rfl,him,hnl,HTm,hsm,HGs,hleft,HE,HBK,b2,Y3,hm⟩:=hrel;have hl1:=HGs.out.len;have hs1:1≤s:=by have:=HGs.out.size;omega
  have hlsz:=Lib.hid (sizeAt_box Y3);have hi40:(i:Int) < 40:=by omega
  have hec:es1.length≤c2:=by
   obtain ⟨A',c',hv0,hsc,hcm⟩:=owns_shape HE.out;injection hv0 with _ _ hv0
   omega
  obtain ⟨p,b,rs,res,hone⟩:=OnceIs.ex (s:Int) es1;have HO:=Lib.hid (spec_FoldOnce r s A2 es1 c2 wr _ _ (owns_rv HE.out).rg HGs.out p b rs res hone);have HON:=Lib.hid hone;obtain ⟨p1,p2⟩:=p;clear hone;have y0:=Y3.cell 0 rfl;have y1:=Y3.cell 1 rfl;have y2:=Y3.cell 2 rfl;go_wp2_with fail;with_reducible refine HO.out.mono ?_
  rintro en w5 ⟨A3,c3,rfl,hog,hm5⟩;have hGr:G < wr.heap.size:=Y3.1;have hw2r:w.heap.size+2≤wr.heap.size:=by omega
  have hE5:=owns_mid HE.out hm5 oZl;replace b2:=b2.mid hm5 oZr;replace Y3:=Y3.mid hm5 oZr;replace hleft:=owns_mid hleft hm5 oZl;replace hm:=hm.trans hm5;clear HO y0 y1 y2 HE;have hal1:=Mid.alloc w5 (.cells #[.int .i64 r,.int .i64 rs,.slice A3 res.length c3] 26);have hal2:=Mid.alloc (w5.alloc (.cells #[.int .i64 r,.int .i64 rs,.slice A3 res.length c3] 26)) (.cells #[.int .i64 p1,.int .i64 p2] 130);have bh:=(Box.new w5 #[.int .i64 r,.int .i64 rs,.slice A3 res.length c3] 26).mid hal2 oZr;have bp:=Box.new (w5.alloc (.cells #[.int .i64 r,.int .i64 rs,.slice A3 res.length c3] 26)) #[.int .i64 p1,.int .i64 p2] 130;rw [World.size_alloc] at bp;have hal:=hal1.trans hal2;have hs5:=hm5.size;have hG5:G < w5.heap.size:=Y3.1;have hG6:G < w5.heap.size+1:=by omega
  have hb5:w.heap.size+1 < w5.heap.size:=b2.1;have hb6:w.heap.size < w5.heap.size:=by omega
  have yf:=Y3.2.2;have y0:=Y3.cell 0 rfl;have y1:=Y3.cell 1 rfl;have y2:=Y3.cell 2 rfl;cases b with
  | false =>
   have af:=b2.2.2;have a0:=b2.cell 0 rfl;have a1:=b2.cell 1 rfl;have a2:=b2.cell 2 rfl;have hfn:folds es1=[]∧True:=by
    rcases HON.out with h | h
    ·exact ⟨h.2.1,trivial⟩
    ·exact absurd h.1 (by decide)
   have hTT:=HTm.out;rw [foldA_nil (g:=((s:Int),es1)) hfn.1] at hTT;have HTT:=Lib.hid hTT;clear hTT hfn;go_wp2_with fail;refine bodyPost_ret (v:=.tuple #[.agg #[.int .i64 r,.int .i64 s,.slice A2 es1.length c2],.slice Al nl cl]) (by simp [results,Tryz.results167,go_sem,a0,a1,a2,af,hb5,hb6,World.cell?_alloc_lt]) rfl ⟨A2,c2,Al,nl,cl,by rw [← HTT.out],?_,?_⟩
   ·rw [← HTT.out]
    have h0:OG w5 (w.heap.size+2) w5.heap.size A2 c2 es1:=⟨Nat.le_refl _,hE5,fun g hg=>(hE5.lt g hg).2⟩
    refine OG.wide (OG.mid h0 (a:=w.heap.size+1) (b:=w.heap.size+2) ?_ (Or.inl (Nat.le_refl _))) (by omega) (by simp;try omega) (Nat.le_refl _);repeat (first | exact Mid.refl _ _ _ | refine Mid.trans ?_ (Mid.alloc _ _).zero | refine Mid.stored ?_ _ (by simp;try omega) (by simp;try omega))
   ·repeat (first | exact hm | refine Mid.trans ?_ (Mid.alloc _ _) | refine Mid.storeNew ?_ (by simp;try omega) _)
  | true =>
   obtain ⟨t,htt⟩:∃ t,folds es1=(p1,p2) :: t:=by
    rcases HON.out with h | h
    ·exact absurd h.1 (by decide)
    ·exact h.2.1
   obtain ⟨rfl,rfl⟩:rs=(s:Int) - 1∧res=mergeE (p1,p2) es1:=by
    rcases HON.out with h | h
    ·exact absurd h.1 (by decide)
    ·exact h.2.2
   obtain ⟨k1,k2,k3⟩:=mem_folds HGs.out.all HGs.out.asc (p:=(p1,p2)) (by rw [htt];simp);obtain ⟨m',rfl⟩:∃ m',m=m'+1:=⟨m - 1,by omega⟩
   have hTT:=HTm.out;rw [foldA_cons (g:=((s:Int),es1)) htt] at hTT;simp only at hTT;have HTT:=Lib.hid hTT;have HG2:=Lib.hid (mergeE_gr HGs.out k1 k2 k3);clear hTT htt k1 k2 k3 HON;obtain ⟨s',rfl⟩:∃ s',s=s'+1:=⟨s - 1,by omega⟩
   rw [show ((s'+1:Nat):Int) - 1=(s':Int) by omega] at HTT HG2 hal hal1 hal2 bh bp ⊢;obtain ⟨me,hme⟩:∃ me,mergeE (p1,p2) es1=me:=⟨_,rfl⟩
   rw [hme] at HTT HG2 hal hal1 hal2 bh bp hog ⊢;clear hme;have hst:=(Mid.setAt w5 G 0 (.int .i64 r)).trans ((Mid.setAt (w5.setCell ⟨G,0,none⟩ (.int .i64 r)) G 1 (.int .i64 s')).trans (Mid.setAt ((w5.setCell ⟨G,0,none⟩ (.int .i64 r)).setCell ⟨G,1,none⟩ (.int .i64 s')) G 2 (.slice A3 me.length c3)));have Y5:=((Y3.set 0 (.int .i64 r) (by simp) rfl).set 1 (.int .i64 s') (by simp) rfl).set 2 (.slice A3 me.length c3) (by simp) rfl;have hm6:=((hm.storeNew (p:=⟨G,0,none⟩) (by show w.heap.size≤G;omega) (.int .i64 r)).storeNew (p:=⟨G,1,none⟩) (by show w.heap.size≤G;omega) (.int .i64 s')).storeNew (p:=⟨G,2,none⟩) (by show w.heap.size≤G;omega) (.slice A3 me.length c3);have b6:=b2.mid hst (Or.inl (by omega));have hleft6:=owns_mid hleft hst (Or.inl (Nat.le_refl _));have hog6:=OG.mid hog hst (Or.inl hGr);have ha2:=(Mid.alloc (((w5.setCell ⟨G,0,none⟩ (.int .i64 r)).setCell ⟨G,1,none⟩ (.int .i64 s')).setCell ⟨G,2,none⟩ (.slice A3 me.length c3)) (.cells #[.int .i64 r,.int .i64 s',.slice A3 me.length c3] 26)).trans (Mid.alloc _ (.cells #[.int .i64 p1,.int .i64 p2] 130));replace b6:=b6.mid ha2 oZr;replace Y5:=Y5.mid ha2 oZr;replace hleft6:=owns_mid hleft6 ha2 oZl;replace hm6:=hm6.trans ha2;replace hog6:=OG.mid hog6 ha2 oZl;have hWs:(((((w5.setCell ⟨G,0,none⟩ (.int .i64 r)).setCell ⟨G,1,none⟩ (.int .i64 s')).setCell ⟨G,2,none⟩ (.slice A3 me.length c3)).alloc (.cells #[.int .i64 r,.int .i64 s',.slice A3 me.length c3] 26)).alloc (.cells #[.int .i64 p1,.int .i64 p2] 130)).heap.size=w5.heap.size+1+1:=by simp
   have HL:=Lib.hid hleft6;have HY:=Lib.hid Y5;have HB:=Lib.hid b6;have HM:=Lib.hid hm6;have HO6:=Lib.hid hog6;clear hleft6 Y5 b6 hm6 hog6 ha2 hst hleft b2 hm hog hE5 hal hal1 hal2 bh bp;go_wp2_with (at_builtin;refine wpList_pushF rfl _ _ rfl (G+1) Al nl cl ps rfl HL.out (p1,p2) (by rw [hWs];rfl) (by omega) (by rw [hWs];omega) ?_;intro A9 c9 w9 hl9 hgr9 hat9)
   have hm9:=Mid.of_grownRow HL.out hgr9;have hmo:=(HO6.out).2.1;have hE9:=(owns_base hmo hw2r).kept hgr9 (owns_ne hmo HL.out (by decide));have hbk9:Value.ownBlock (.slice A3 me.length c3)≠some G:=fun h=>by have:=(hmo.lt _ h).1;omega
   have Y9:=HY.out.mid hm9 (Or.inl (Nat.lt_succ_self _));have hmsz:=hlsz.out;go_roundw
   case rel=>exact ⟨i+1,m',s',me,A3,c3,A9,nl+1,c9,ps++[(p1,p2)],rfl,by go_num,by omega,by omega,HTT,by omega,HG2,hl9,Lib.hid hE9,Lib.hid hbk9,HB.out.mid hm9 (Or.inl (by omega)),Y9,HM.out.transNew hm9 (Or.inl (by omega))⟩
   case measure=>rw [hmsz,sizeAt_box Y9];omega
end
theorem letter_count {r s:Int} {es:List Ed} (h:IsFol r s es) {x:Int} (hx:0 < x):(freeV es x s.toNat).length+(es.filter fun e=>e.l == x).length=s.toNat:=by
 have hg:=h.gr.all;have hs:=h.gr.size;have nd:((es.filter fun e=>e.l == x).map Ed.a).Nodup:=by
  rw [List.Nodup,List.pairwise_map];refine (h.fol.filter _).imp_of_mem ?_;intro a b h1 h2 h3 h4;have h5:a.l=x:=by simpa using (List.mem_filter.1 h1).2
  have h6:b.l=x:=by simpa using (List.mem_filter.1 h2).2
  exact h3 ⟨by omega,.inl h4⟩
 have h1:=count_free (es:=es) (x:=x) (n:=s.toNat) nd fun v=>by
  rw [List.mem_map,Int.not_lt,nextV_pos_iff hg];constructor
  ·rintro ⟨e,he,rfl⟩
   obtain ⟨h1,h2⟩:=List.mem_filter.1 he;have:=hg e h1;unfold InG at this;refine ⟨by omega,by omega,e,h1,e.b,endOf_some.2 (.inl ⟨hx,by simpa using h2,rfl,rfl⟩)⟩
  ·rintro ⟨h0,hl,e,he,u,hu⟩
   refine ⟨e,List.mem_filter.2 ⟨he,?_⟩,?_⟩ <;> have:=endOf_some.1 hu
   ·simp;omega
   ·omega
 rwa [List.length_map] at h1
theorem upto_split (n:Nat):∀ l:List Ed,(l.filter fun e=>decide (e.l≤((n+1:Nat):Int))).length=(l.filter fun e=>decide (e.l≤(n:Int))).length+(l.filter fun e=>e.l == ((n:Int)+1)).length
 | []=>rfl
 | e :: t=>by
  have ih:=upto_split n t;rcases (by omega:e.l≤(n:Int) ∨ e.l=(n:Int)+1 ∨ (n:Int)+1 < e.l) with h | h | h
  ·have h1:decide (e.l≤((n+1:Nat):Int))=true:=by simp;omega
   have h2:decide (e.l≤(n:Int))=true:=by simpa using h
   have h3:(e.l == ((n:Int)+1))=false:=by simp only [beq_eq_false_iff_ne];omega
   simp only [List.filter_cons,h1,h2,h3,if_true,List.length_cons];simp only [Bool.false_eq_true,if_false];omega
  ·have h1:decide (e.l≤((n+1:Nat):Int))=true:=by simp;omega
   have h2:decide (e.l≤(n:Int))=false:=by simp;omega
   have h3:(e.l == ((n:Int)+1))=true:=by simpa using h
   simp only [List.filter_cons,h1,h2,h3,if_true,List.length_cons];simp only [Bool.false_eq_true,if_false];omega
  ·have h1:decide (e.l≤((n+1:Nat):Int))=false:=by simp;omega
   have h2:decide (e.l≤(n:Int))=false:=by simp;omega
   have h3:(e.l == ((n:Int)+1))=false:=by simp only [beq_eq_false_iff_ne];omega
   simp only [List.filter_cons,h1,h2,h3];simp only [Bool.false_eq_true,if_false];exact ih
theorem addLs_count {r s:Int} {es:List Ed} (h:IsFol r s es):∀ n:Nat,(es.filter fun e=>decide (e.l≤(n:Int))).length+(addLs s es n).length≤n * s.toNat
 | 0=>by
  have h0:es.filter (fun e=>decide (e.l≤((0:Nat):Int)))=[]:=by
   rw [List.filter_eq_nil_iff];intro e he;have:=h.gr.all e he;unfold InG at this;simp;omega
  rw [h0];simp [addLs]
 | n+1=>by
  have ih:=addLs_count h n;have h1:=letter_count h (x:=(n:Int)+1) (by omega);have h2:(addL s es ((n:Int)+1)).length≤(freeV es ((n:Int)+1) s.toNat).length:=by
   unfold addL;rw [List.length_zipWith];omega
  rw [upto_split,addLs_succ,List.length_append,Nat.succ_mul];omega
theorem complete_gr {r s:Int} {es:List Ed} (h:IsFol r s es):IsGr r s (canon (es++addLs s es r.toNat)):=by
 have hr:=h.gr.rank;have hs:=h.gr.size;refine ⟨hr,hs,?_,?_,asc_canon _⟩
 ·have h1:=canon_len (es++addLs s es r.toNat)
  have h2:=addLs_count h r.toNat;have h3:es.filter (fun e=>decide (e.l≤(r.toNat:Int)))=es:=by
   rw [List.filter_eq_self];intro e he;have:=h.gr.all e he;unfold InG at this;simp;omega
  rw [h3] at h2;have h4:r.toNat * s.toNat≤3 * 40:=Nat.mul_le_mul (by omega) (by omega);rw [List.length_append] at h1;omega
 ·intro e he
  rcases List.mem_append.1 (mem_canon.1 he) with h1 | h1
  ·exact h.gr.all e h1
  ·unfold addLs at h1
   obtain ⟨i,hi,h2⟩:=List.mem_flatMap.1 h1;have hi':i < r.toNat:=List.mem_range.1 hi;unfold addL at h2;obtain ⟨k,hk,hk'⟩:=List.getElem_of_mem h2;rw [List.getElem_zipWith] at hk';rw [List.length_zipWith] at hk;have ha:=mem_freeV.1 (List.getElem_mem (l:=freeV es ((i:Int)+1) s.toNat) (n:=k) (by omega));have hb:=mem_freeV.1 (List.getElem_mem (l:=freeV es (-((i:Int)+1)) s.toNat) (n:=k) (by omega));subst hk';unfold InG;simp only;omega
def stepE (u x v:Int):Ed:=if x < 0 then ⟨v, -x,u⟩ else ⟨u,x,v⟩
def pathV (u s:Int) (n:Nat) (v:Int) (i:Nat):Int:=if i=0 then u else if i < n then s+(i:Int) - 1 else v
def pathE (u s:Int) (w:List Int) (v:Int) (k:Nat):List Ed:=(List.range k).map fun i=>stepE (pathV u s w.length v i) (w.getD i 0) (pathV u s w.length v (i+1))
theorem pathE_succ {u s v x:Int} {w:List Int} {k:Nat} (h:w[k]?=some x):pathE u s w v (k+1)=pathE u s w v k++[stepE (pathV u s w.length v k) x (pathV u s w.length v (k+1))]:=by
 simp [pathE,List.range_succ,List.getD,h]
theorem pathE_len (u s:Int) (w:List Int) (v:Int) (k:Nat):(pathE u s w v k).length=k:=by simp [pathE]
structure PathOk (r s:Int) (es:List Ed) (u:Int) (w:List Int) (v:Int):Prop where
 gr:IsGr r s es
 u0:0≤u∧u < s
 v0:0≤v∧v < s
 word:IsW r w
 ne:w≠[]
 sz:s+(w.length:Int) - 1≤40
 ln:es.length+w.length≤120
theorem pathV_in {u s v:Int} {n:Nat} (hu:0≤u∧u < s) (hv:0≤v∧v < s) (i:Nat):0≤pathV u s n v i∧(0 < n→pathV u s n v i < s+(n:Int) - 1):=by
 unfold pathV;split
 ·omega
 ·split <;> omega
theorem stepE_in {r s u x v:Int} (hu:0≤u∧u < s) (hv:0≤v∧v < s) (hx:x≠0∧-r≤x∧x≤r):InG r s (stepE u x v):=by
 unfold stepE InG;split <;> simp only <;> omega
theorem path_gr {r s:Int} {es:List Ed} {u:Int} {w:List Int} {v:Int} (h:PathOk r s es u w v):IsGr r (s+(w.length:Int) - 1) (canon (es++pathE u s w v w.length)):=by
 have hs:=h.gr.size;have hn:0 < w.length:=List.length_pos_iff.2 h.ne;refine ⟨h.gr.rank,⟨by omega,h.sz⟩,?_,?_,asc_canon _⟩
 ·have h1:=canon_len (es++pathE u s w v w.length)
  rw [List.length_append,pathE_len] at h1;have:=h.ln;omega
 ·intro e he
  rcases List.mem_append.1 (mem_canon.1 he) with h1 | h1
  ·have:=h.gr.all e h1
   unfold InG at this ⊢;omega
  ·simp only [pathE,List.mem_map,List.mem_range] at h1
   obtain ⟨i,hi,rfl⟩:=h1;have h2:=pathV_in (n:=w.length) h.u0 h.v0 i;have h3:=pathV_in (n:=w.length) h.u0 h.v0 (i+1);refine stepE_in ⟨h2.1,h2.2 hn⟩ ⟨h3.1,h3.2 hn⟩ ?_;have hw:=h.word.2.2.2;have hm:w.getD i 0∈w:=by
    rw [List.getD_eq_getElem?_getD,List.getElem?_eq_getElem hi];exact List.getElem_mem hi
   exact hw.1 _ hm
def rdA (es:List Ed):Int→List Int→Int × Nat
 | v,[]=>(v,0)
 | v,x :: t=>if nextV es v x < 0 then (v,0) else ((rdA es (nextV es v x) t).1,(rdA es (nextV es v x) t).2+1)
theorem rdA_le (es:List Ed):∀ (w:List Int) (v:Int),(rdA es v w).2≤w.length
 | [],v=>Nat.le_refl _
 | x :: t,v=>by
  rw [rdA];split
  ·exact Nat.zero_le _
  ·exact Nat.succ_le_succ (rdA_le es t _)
theorem rdA_in {r s:Int} {es:List Ed} (hg:∀ e∈es,InG r s e):∀ (w:List Int) {v:Int},0≤v∧v < s→0≤(rdA es v w).1∧(rdA es v w).1 < s
 | [],v,h=>h
 | x :: t,v,h=>by
  rw [rdA];split
  ·exact h
  ·have:=nextV_cases hg v x
   exact rdA_in hg t (by omega)
def ExtIs (r s:Int) (es:List Ed) (w:List Int) (b:Bool) (s2:Int) (es2:List Ed) (x:Int):Prop :=
 (b=true∧(rdA es 0 w).2=w.length∧s2=s∧es2=es∧x=(rdA es 0 w).1) ∨
 (b=true∧(rdA es 0 w).2 < w.length∧s < 40∧PathOk r (s+1) es (rdA es 0 w).1 (w.drop (rdA es 0 w).2) s∧s2=s+1+((w.drop (rdA es 0 w).2).length:Int) - 1 ∧
  es2=canon (es++pathE (rdA es 0 w).1 (s+1) (w.drop (rdA es 0 w).2) s (w.drop (rdA es 0 w).2).length)∧x=s) ∨
 (b=false∧(rdA es 0 w).2 < w.length∧¬ (s < 40∧PathOk r (s+1) es (rdA es 0 w).1 (w.drop (rdA es 0 w).2) s)∧s2=0∧es2=[]∧x=0)
theorem ext_ex (r s:Int) (es:List Ed) (w:List Int):∃ b s2 es2 x,ExtIs r s es w b s2 es2 x:=by
 rcases Nat.lt_or_ge (rdA es 0 w).2 w.length with h | h
 ·by_cases hc:s < 40∧PathOk r (s+1) es (rdA es 0 w).1 (w.drop (rdA es 0 w).2) s
  ·exact ⟨_,_,_,_,.inr (.inl ⟨rfl,h,hc.1,hc.2,rfl,rfl,rfl⟩)⟩
  ·exact ⟨_,_,_,_,.inr (.inr ⟨rfl,h,hc,rfl,rfl,rfl⟩)⟩
 ·have:=rdA_le es w 0
  exact ⟨_,_,_,_,.inl ⟨rfl,by omega,rfl,rfl,rfl⟩⟩
def petalA (g:Int × List Ed) (w:List Int):Int × List Ed:=if w=[] then g else (g.1+(w.length:Int) - 1,canon (g.2++pathE 0 g.1 w 0 w.length))
def flowA (l:List (List Int)) (g:Int × List Ed):Int × List Ed:=l.foldl petalA g
theorem flowA_take {l:List (List Int)} {k:Nat} {w:List Int} (h:l[k]?=some w) (g:Int × List Ed):flowA (l.take (k+1)) g=petalA (flowA (l.take k) g) w:=by
 unfold flowA;rw [List.take_add_one,h];simp [List.foldl_append]
section
open Go.RowKit
def PathIs (r s:Int) (es:List Ed) (u:Int) (wd:List Int) (v:Int) (rs:Int) (res:List Ed) (b:Bool):Prop :=
 (b=true∧PathOk r s es u wd v∧rs=s+(wd.length:Int) - 1∧res=canon (es++pathE u s wd v wd.length)) ∨ (b=false∧¬ PathOk r s es u wd v∧rs=s∧res=es)
theorem PathIs.no {r s:Int} {es:List Ed} {u:Int} {wd:List Int} {v rs:Int} {res:List Ed} {b:Bool} (h:PathIs r s es u wd v rs res b) (hn:¬ PathOk r s es u wd v):b=false∧rs=s∧res=es:=by
 rcases h with ⟨-,h, -⟩ | ⟨h1, -,h2⟩
 ·exact absurd h hn
 ·exact ⟨h1,h2⟩
theorem PathIs.yes {r s:Int} {es:List Ed} {u:Int} {wd:List Int} {v rs:Int} {res:List Ed} {b:Bool} (h:PathIs r s es u wd v rs res b) (hn:PathOk r s es u wd v):b=true∧rs=s+(wd.length:Int) - 1∧res=canon (es++pathE u s wd v wd.length):=by
 rcases h with ⟨h1, -,h2⟩ | ⟨-,h, -⟩
 ·exact ⟨h1,h2⟩
 ·exact absurd hn h
theorem PathIs_ex (r s:Int) (es:List Ed) (u:Int) (wd:List Int) (v:Int):∃ rs res b,PathIs r s es u wd v rs res b:=by
 by_cases h:PathOk r s es u wd v
 ·exact ⟨_,_,_,.inl ⟨rfl,h,rfl,rfl⟩⟩
 ·exact ⟨_,_,_,.inr ⟨rfl,h,rfl,rfl⟩⟩
theorem has_bool {x s:Int} (h1:1≤s) (h2:s≤40) {b:Bool} (hb:b=true↔0≤x∧x < s):inB x 0 (wrap64 (s - 1))=b∧inB x 0 (s - 1)=b:=by
 have hw:wrap64 (s - 1)=s - 1:=by unfold wrap64;omega
 rw [hw];have h3:inB x 0 (s - 1)=b:=by
  cases b with
  | true=>have:=hb.1 rfl;unfold inB;simp;omega
  | false =>
   have h:¬ (0≤x∧x < s):=fun h=>by have:=hb.2 h;cases this
   unfold inB;simp;omega
 exact ⟨h3,h3⟩
theorem impl_step (u x v:Int) (w:World) (h1:-9223372036854775808 < x) (h2:x≤9223372036854775807) :
  Calls Tryz.prog 215 #[.int .i64 u,.int .i64 x,.int .i64 v] w fun e w'=>e=.returned (stepE u x v).v∧Mid 0 0 w w':=by
 by_cases h:x < 0
 ·have d1:decide (x < 0)=true:=by simpa using h
  have he:stepE u x v=⟨v, -x,u⟩:=by rw [stepE,if_pos h]
  rw [he];clear he;go_enter Tryz.func215,Tryz.ntmps215
  go_wp2_with fail;refine bodyPost_ret (v:=.agg #[.int .i64 v,.int .i64 (-x),.int .i64 u]) (by simp [results,Tryz.results215,go_sem]) rfl ⟨rfl,?_⟩;repeat (first | exact Mid.alloc _ _ | refine Mid.storeNew ?_ (by simp) _)
 ·have d1:decide (x < 0)=false:=by simpa using h
  have he:stepE u x v=⟨u,x,v⟩:=by rw [stepE,if_neg h]
  rw [he];clear he;go_enter Tryz.func215,Tryz.ntmps215
  go_wp2_with fail;refine bodyPost_ret (v:=.agg #[.int .i64 u,.int .i64 x,.int .i64 v]) (by simp [results,Tryz.results215,go_sem]) rfl ⟨rfl,?_⟩;repeat (first | exact Mid.alloc _ _ | refine Mid.storeNew ?_ (by simp) _)
theorem impl_AddPath (r s:Int) (A:Option Addr) (es:List Ed) (c:Nat) (u:Int) (Aw:Option Addr) (wd:List Int) (cw:Nat) (v:Int) (w:World) (lo hi lo' hi':Nat)
  (hr:RG w lo hi A es) (hw:RV w lo' hi' Aw (ints wd)) (hl:es.length≤1048576) (hwl:wd.length≤1048576) (hok:OkI wd) (rs:Int) (res:List Ed) (b:Bool) (hres:PathIs r s es u wd v rs res b) :
  Calls Tryz.prog 184 #[graV r s A es.length c,.int .i64 u,.slice Aw wd.length cw,.int .i64 v] w fun e w'=>∃ A1 c1,e=.returned (.tuple #[graV r rs A1 res.length c1,.bool b])∧OG w' w.heap.size w'.heap.size A1 c1 res∧Mid 0 0 w w':=by
 have HR:=Lib.hid hres;have HOK:=Lib.hid hok;clear hres hok;obtain ⟨b1,hb1⟩:=bool_of (IsGr r s es);obtain ⟨b2,hb2⟩:=bool_of (0≤u∧u < s);obtain ⟨b3,hb3⟩:=bool_of (0≤v∧v < s);obtain ⟨b4,hb4⟩:=bool_of (IsW r wd);have H1:=Lib.hid hb1;have H2:=Lib.hid hb2;have H3:=Lib.hid hb3;have H4:=Lib.hid hb4;clear hb1 hb2 hb3 hb4;have hm0:Mid 0 0 w ((w.alloc (.cells #[.int .i64 r,.int .i64 s,.slice A es.length c] 26)).alloc (.cells #[.int .i64 0,.int .i64 0,.slice none 0 0] 26)):=(Mid.alloc _ _).trans (Mid.alloc _ _);have B0:=(Box.new w #[.int .i64 r,.int .i64 s,.slice A es.length c] 26).mid (Mid.alloc _ (.cells #[.int .i64 0,.int .i64 0,.slice none 0 0] 26)) oZr;have B2:=Box.new (w.alloc (.cells #[.int .i64 r,.int .i64 s,.slice A es.length c] 26)) #[.int .i64 0,.int .i64 0,.slice none 0 0] 26;simp only [World.size_alloc] at B2;go_enter Tryz.func184,Tryz.ntmps184
 go_wp2_with fail;generalize hw1:((w.alloc (.cells #[.int .i64 r,.int .i64 s,.slice A es.length c] 26)).alloc (.cells #[.int .i64 0,.int .i64 0,.slice none 0 0] 26))=w1 at hm0 B0 B2 ⊢;have hs1:w1.heap.size=w.heap.size+1+1:=by rw [← hw1];simp
 have HS:=Lib.hid hs1;clear hw1 hs1;with_reducible refine (impl_copyGraph r s A es c _ _ _ (hr.mid hm0 oZl) hl).mono ?_
 rintro en w2 ⟨A1,c1,rfl,ho2,hm2⟩;have hal:=Mid.alloc w2 (.cells #[.int .i64 r,.int .i64 s,.slice A1 es.length c1] 26);have Y3:=Box.new w2 #[.int .i64 r,.int .i64 s,.slice A1 es.length c1] 26;replace B0:=B0.mid hm2 oZr;replace B2:=B2.mid hm2 oZr;replace hm0:=hm0.trans hm2;replace B0:=B0.mid hal oZr;replace B2:=B2.mid hal oZr;replace hm0:=hm0.trans hal;have hG2:w.heap.size+1 < w2.heap.size:=by have:=HS.out;have:=hm2.size;omega
 have ho5:=(ho2.mid hal oZl)
 have hlt2:=ho2.ov.2.2;have hb2k:Value.ownBlock (.slice A1 es.length c1)≠some w2.heap.size:=fun h=>by have:=hlt2 _ h;omega
 have p0:=B0.cell 0 rfl;have p1:=B0.cell 1 rfl;have p2:=B0.cell 2 rfl;go_wp2_with fail;generalize w2.alloc (.cells #[.int .i64 r,.int .i64 s,.slice A1 es.length c1] 26)=w3 at hm0 B0 B2 Y3 ho5 p0 p1 p2 ⊢;have hG3:w2.heap.size < w3.heap.size:=Y3.1;have HOW:=Lib.hid ho5.ov.2.1;have HBK:=Lib.hid hb2k;have ho6:=ho5.wide (Nat.le_refl _) (Nat.le_refl _) (Nat.le_of_lt hG3);generalize hG:w2.heap.size=G at Y3 hG2 hG3 ho5 HBK ⊢;have HGW:=Lib.hid (show w1.heap.size≤G by rw [← hG];exact hm2.size);clear hG hal hm2 hlt2 hb2k ho2 ho6;with_reducible refine (impl_IsGraph r s A es c _ _ _ (hr.mid hm0 oZl).rv hl b1 H1.out).mono ?_
 rintro en w4 ⟨rfl,hm4⟩;replace B0:=B0.mid hm4 oZr;replace B2:=B2.mid hm4 oZr;replace Y3:=Y3.mid hm4 oZr;replace ho5:=ho5.mid hm4 oZl;replace hm0:=hm0.trans hm4;replace HOW:=Lib.hid (owns_mid HOW.out hm4 oZl);clear hm4;cases b1 with
 | false =>
  have hno:¬ PathOk r s es u wd v:=fun h=>by have:=H1.out.2 h.gr;cases this
  clear p0 p1 p2;obtain ⟨rfl,rfl,rfl⟩:=HR.out.no hno;have a0:=B2.cell 0 rfl;have a1:=B2.cell 1 rfl;have a2:=B2.cell 2 rfl;have q0:=Y3.cell 0 rfl;have q1:=Y3.cell 1 rfl;have q2:=Y3.cell 2 rfl;have af:=B2.2.2;go_wp2_with fail;refine bodyPost_ret (v:=.tuple #[.agg #[.int .i64 r,.int .i64 rs,.slice A1 res.length c1],.bool false]) (by simp [results,Tryz.results184,go_sem,a0,a1,a2,af,q0,q1,q2]) rfl ⟨A1,c1,rfl,?_,?_⟩
  ·refine OG.wide (OG.mid ho5 (a:=w.heap.size) (b:=w.heap.size+2) ?_ (Or.inl (by have:=HS.out;omega))) (by have:=HS.out;omega) (by have:=ho5.size;simp;omega) (Nat.le_refl _)
   repeat (first | exact Mid.refl _ _ _ | refine Mid.stored ?_ _ (by simp;try omega) (by simp;try omega))
  ·repeat (first | exact hm0 | refine Mid.storeNew ?_ (by simp;try omega) _)
 | true =>
 have hgr:=H1.out.1 rfl;have hsz:=hgr.size;have hln:=hgr.len;have hrk:=hgr.rank;have GR:=Lib.hid hgr;clear hgr H1;clear p0 p1 p2;have p0:=B0.cell 0 rfl;have p1:=B0.cell 1 rfl;have p2:=B0.cell 2 rfl;go_wp2_with fail;with_reducible refine (impl_has r s A es.length c u _ b2 (has_bool hsz.1 hsz.2 H2.out).1).mono ?_
 rintro en w5 ⟨rfl,hm5⟩;replace B0:=B0.mid hm5 oZr;replace B2:=B2.mid hm5 oZr;replace Y3:=Y3.mid hm5 oZr;replace ho5:=ho5.mid hm5 oZl;replace hm0:=hm0.trans hm5;replace HOW:=Lib.hid (owns_mid HOW.out hm5 oZl);clear hm5;cases b2 with
 | false =>
  have hno:¬ PathOk r s es u wd v:=fun h=>by have:=H2.out.2 h.u0;cases this
  clear p0 p1 p2;obtain ⟨rfl,rfl,rfl⟩:=HR.out.no hno;have a0:=B2.cell 0 rfl;have a1:=B2.cell 1 rfl;have a2:=B2.cell 2 rfl;have q0:=Y3.cell 0 rfl;have q1:=Y3.cell 1 rfl;have q2:=Y3.cell 2 rfl;have af:=B2.2.2;go_wp2_with fail;refine bodyPost_ret (v:=.tuple #[.agg #[.int .i64 r,.int .i64 rs,.slice A1 res.length c1],.bool false]) (by simp [results,Tryz.results184,go_sem,a0,a1,a2,af,q0,q1,q2]) rfl ⟨A1,c1,rfl,?_,?_⟩
  ·refine OG.wide (OG.mid ho5 (a:=w.heap.size) (b:=w.heap.size+2) ?_ (Or.inl (by have:=HS.out;omega))) (by have:=HS.out;omega) (by have:=ho5.size;simp;omega) (Nat.le_refl _)
   repeat (first | exact Mid.refl _ _ _ | refine Mid.stored ?_ _ (by simp;try omega) (by simp;try omega))
  ·repeat (first | exact hm0 | refine Mid.storeNew ?_ (by simp;try omega) _)
 | true =>
 have hxu:=H2.out.1 rfl;clear H2;clear p0 p1 p2;have p0:=B0.cell 0 rfl;have p1:=B0.cell 1 rfl;have p2:=B0.cell 2 rfl;go_wp2_with fail;with_reducible refine (impl_has r s A es.length c v _ b3 (has_bool hsz.1 hsz.2 H3.out).1).mono ?_
 rintro en w6 ⟨rfl,hm6⟩;replace B0:=B0.mid hm6 oZr;replace B2:=B2.mid hm6 oZr;replace Y3:=Y3.mid hm6 oZr;replace ho5:=ho5.mid hm6 oZl;replace hm0:=hm0.trans hm6;replace HOW:=Lib.hid (owns_mid HOW.out hm6 oZl);clear hm6;cases b3 with
 | false =>
  have hno:¬ PathOk r s es u wd v:=fun h=>by have:=H3.out.2 h.v0;cases this
  clear p0 p1 p2;obtain ⟨rfl,rfl,rfl⟩:=HR.out.no hno;have a0:=B2.cell 0 rfl;have a1:=B2.cell 1 rfl;have a2:=B2.cell 2 rfl;have q0:=Y3.cell 0 rfl;have q1:=Y3.cell 1 rfl;have q2:=Y3.cell 2 rfl;have af:=B2.2.2;go_wp2_with fail;refine bodyPost_ret (v:=.tuple #[.agg #[.int .i64 r,.int .i64 rs,.slice A1 res.length c1],.bool false]) (by simp [results,Tryz.results184,go_sem,a0,a1,a2,af,q0,q1,q2]) rfl ⟨A1,c1,rfl,?_,?_⟩
  ·refine OG.wide (OG.mid ho5 (a:=w.heap.size) (b:=w.heap.size+2) ?_ (Or.inl (by have:=HS.out;omega))) (by have:=HS.out;omega) (by have:=ho5.size;simp;omega) (Nat.le_refl _)
   repeat (first | exact Mid.refl _ _ _ | refine Mid.stored ?_ _ (by simp;try omega) (by simp;try omega))
  ·repeat (first | exact hm0 | refine Mid.storeNew ?_ (by simp;try omega) _)
 | true =>
 have hxv:=H3.out.1 rfl;clear H3;clear p0 p1 p2;have p0:=B0.cell 0 rfl;have p1:=B0.cell 1 rfl;have p2:=B0.cell 2 rfl;by_cases hne:wd=[]
 ·subst hne
  have hno:¬ PathOk r s es u [] v:=fun h=>h.ne rfl;clear p0 p1 p2;obtain ⟨rfl,rfl,rfl⟩:=HR.out.no hno;have a0:=B2.cell 0 rfl;have a1:=B2.cell 1 rfl;have a2:=B2.cell 2 rfl;have q0:=Y3.cell 0 rfl;have q1:=Y3.cell 1 rfl;have q2:=Y3.cell 2 rfl;have af:=B2.2.2;go_wp2_with fail;refine bodyPost_ret (v:=.tuple #[.agg #[.int .i64 r,.int .i64 rs,.slice A1 res.length c1],.bool false]) (by simp [results,Tryz.results184,go_sem,a0,a1,a2,af,q0,q1,q2]) rfl ⟨A1,c1,rfl,?_,?_⟩
  ·refine OG.wide (OG.mid ho5 (a:=w.heap.size) (b:=w.heap.size+2) ?_ (Or.inl (by have:=HS.out;omega))) (by have:=HS.out;omega) (by have:=ho5.size;simp;omega) (Nat.le_refl _)
   repeat (first | exact Mid.refl _ _ _ | refine Mid.stored ?_ _ (by simp;try omega) (by simp;try omega))
  ·repeat (first | exact hm0 | refine Mid.storeNew ?_ (by simp;try omega) _)
 have hpos:0 < wd.length:=List.length_pos_iff.2 hne;have d4:((wd.length:Int) == 0)=false:=by simp only [beq_eq_false_iff_ne];omega
 have HNE:=Lib.hid hne;clear hne;clear p0 p1 p2;have p0:=B0.cell 0 rfl;have p1:=B0.cell 1 rfl;have p2:=B0.cell 2 rfl;go_wp2_with fail;with_reducible refine (impl_IsWord r Aw wd cw _ _ ((hw.mid hm0 oZl).rs) HOK.out (by omega) b4 H4.out).mono ?_
 rintro en w7 ⟨rfl,rfl⟩;cases b4 with
 | false =>
  have hno:¬ PathOk r s es u wd v:=fun h=>by have:=H4.out.2 h.word;cases this
  clear p0 p1 p2;obtain ⟨rfl,rfl,rfl⟩:=HR.out.no hno;have a0:=B2.cell 0 rfl;have a1:=B2.cell 1 rfl;have a2:=B2.cell 2 rfl;have q0:=Y3.cell 0 rfl;have q1:=Y3.cell 1 rfl;have q2:=Y3.cell 2 rfl;have af:=B2.2.2;go_wp2_with fail;refine bodyPost_ret (v:=.tuple #[.agg #[.int .i64 r,.int .i64 rs,.slice A1 res.length c1],.bool false]) (by simp [results,Tryz.results184,go_sem,a0,a1,a2,af,q0,q1,q2]) rfl ⟨A1,c1,rfl,?_,?_⟩
  ·refine OG.wide (OG.mid ho5 (a:=w.heap.size) (b:=w.heap.size+2) ?_ (Or.inl (by have:=HS.out;omega))) (by have:=HS.out;omega) (by have:=ho5.size;simp;omega) (Nat.le_refl _)
   repeat (first | exact Mid.refl _ _ _ | refine Mid.stored ?_ _ (by simp;try omega) (by simp;try omega))
  ·repeat (first | exact hm0 | refine Mid.storeNew ?_ (by simp;try omega) _)
 | true =>
 have hwd:=H4.out.1 rfl;have hwd24:=hwd.2.2.1;have HWD:=Lib.hid hwd;clear hwd H4;clear p0 p1 p2;have p0:=B0.cell 0 rfl;have p1:=B0.cell 1 rfl;have p2:=B0.cell 2 rfl;have d5':IntKind.i64.wrap (s+(wd.length:Int))=s+(wd.length:Int):=IntWalk.i64_in _ (by omega);have d5'':IntKind.i64.wrap (s+(wd.length:Int) - 1)=s+(wd.length:Int) - 1:=IntWalk.i64_in _ (by omega);by_cases hsl:40 < s+(wd.length:Int) - 1
 ·have hno:¬ PathOk r s es u wd v:=fun h=>by have:=h.sz;omega
  have d5:decide (40 < s+(wd.length:Int) - 1)=true:=by simpa using hsl
  clear p1;clear p0 p2;have p0:=B0.cell 0 rfl;have p1:=B0.cell 1 rfl;have p2:=B0.cell 2 rfl;obtain ⟨rfl,rfl,rfl⟩:=HR.out.no hno;have a0:=B2.cell 0 rfl;have a1:=B2.cell 1 rfl;have a2:=B2.cell 2 rfl;have q0:=Y3.cell 0 rfl;have q1:=Y3.cell 1 rfl;have q2:=Y3.cell 2 rfl;have af:=B2.2.2;go_wp2_with fail;refine bodyPost_ret (v:=.tuple #[.agg #[.int .i64 r,.int .i64 rs,.slice A1 res.length c1],.bool false]) (by simp [results,Tryz.results184,go_sem,a0,a1,a2,af,q0,q1,q2]) rfl ⟨A1,c1,rfl,?_,?_⟩
  ·refine OG.wide (OG.mid ho5 (a:=w.heap.size) (b:=w.heap.size+2) ?_ (Or.inl (by have:=HS.out;omega))) (by have:=HS.out;omega) (by have:=ho5.size;simp;omega) (Nat.le_refl _)
   repeat (first | exact Mid.refl _ _ _ | refine Mid.stored ?_ _ (by simp;try omega) (by simp;try omega))
  ·repeat (first | exact hm0 | refine Mid.storeNew ?_ (by simp;try omega) _)
 have d5:decide (40 < s+(wd.length:Int) - 1)=false:=by simpa using hsl
 by_cases hll:120 < es.length+wd.length
 ·have hno:¬ PathOk r s es u wd v:=fun h=>by have:=h.ln;omega
  have d6:decide (120 < (es.length:Int)+(wd.length:Int))=true:=by simp;omega
  obtain ⟨rfl,rfl,rfl⟩:=HR.out.no hno;have a0:=B2.cell 0 rfl;have a1:=B2.cell 1 rfl;have a2:=B2.cell 2 rfl;have q0:=Y3.cell 0 rfl;have q1:=Y3.cell 1 rfl;have q2:=Y3.cell 2 rfl;have af:=B2.2.2;go_wp2_with fail;refine bodyPost_ret (v:=.tuple #[.agg #[.int .i64 r,.int .i64 rs,.slice A1 res.length c1],.bool false]) (by simp [results,Tryz.results184,go_sem,a0,a1,a2,af,q0,q1,q2]) rfl ⟨A1,c1,rfl,?_,?_⟩
  ·refine OG.wide (OG.mid ho5 (a:=w.heap.size) (b:=w.heap.size+2) ?_ (Or.inl (by have:=HS.out;omega))) (by have:=HS.out;omega) (by have:=ho5.size;simp;omega) (Nat.le_refl _)
   repeat (first | exact Mid.refl _ _ _ | refine Mid.stored ?_ _ (by simp;try omega) (by simp;try omega))
  ·repeat (first | exact hm0 | refine Mid.storeNew ?_ (by simp;try omega) _)
 have d6:decide (120 < (es.length:Int)+(wd.length:Int))=false:=by simp;omega
 obtain ⟨rfl,hrs,hre⟩:=HR.out.yes ⟨GR.out,hxu,hxv,HWD.out,HNE.out,by omega,by omega⟩;have HRS:=Lib.hid hrs;have HRE:=Lib.hid hre;have hasc:=Lib.hid GR.out.asc;clear hrs hre HR;have hwn:IntKind.i64.wrap ((wd.length:Int) - 1)=(wd.length:Int) - 1:=IntWalk.i64_in _ (by omega);have hletb:=Lib.hid HWD.out.2.2.2.1;have q0:=Y3.cell 0 rfl;have q1:=Y3.cell 1 rfl;have q2:=Y3.cell 2 rfl;go_wp2_with fail;clear p0 p1 p2 q0 q1 q2;go_loopw [11,66] (fun at_ i wr=>∃ (k:Nat) (A2:Option Addr) (n2 c2:Nat) (sz:Int),k≤wd.length∧i=.int .i64 k∧at_=.int .i64 (pathV u s wd.length v k)∧Hid (sz=s+((min k (wd.length - 1):Nat):Int))∧Hid (n2=es.length+k) ∧
  wr.ownsRow w1.heap.size 68 3 (.slice A2 n2 c2) n2 (ints (edI (es++pathE u s wd v k)))∧Value.ownBlock (.slice A2 n2 c2)≠some G ∧
  Box wr w.heap.size [.int .i64 r,.int .i64 s,.slice A es.length c]∧Box wr (w.heap.size+1) [.int .i64 0,.int .i64 0,.slice none 0 0] ∧
  Box wr G [.int .i64 r,.int .i64 sz,.slice A2 n2 c2]∧Mid 0 0 w wr) (fun _ i _=>wd.length - (intOf i).toNat)
 case atStart=>exact ⟨0,A1,es.length,c1,s,Nat.zero_le _,rfl,rfl,Lib.hid (by simp),Lib.hid rfl,by simpa [pathE] using HOW.out,HBK.out,B0,B2,Y3,hm0⟩
 case round =>
  clear B0 B2 Y3 hm0 ho5 HOW HBK hG3;obtain ⟨k,A2,n2,c2,sz,hk,rfl,rfl,HSZ,HN,hown,hbk,Z0,Z2,Z3,hmr⟩:=hrel;have hszv:=HSZ.out;have hn2:n2≤240:=by have:=HN.out;omega
  by_cases hlt:k < wd.length
  ·obtain ⟨B,off,x,rfl,hbh,hx,hcx⟩:=(hw.mid hmr oZl).at hlt
   have hxl:=hletb.out x (List.mem_of_getElem? hx);have hkn:(k:Int) < (wd.length:Int):=by omega
   have hk0:(0:Int)≤(k:Int):=by omega
   have hpe:=pathE_succ (u:=u) (s:=s) (v:=v) hx;have HPE:=Lib.hid hpe;have hGr:G < wr.heap.size:=Z3.1;have hw1r:w1.heap.size≤wr.heap.size:=by have:=HGW.out;omega
   clear hx hpe;generalize hat:pathV u s wd.length v k=at0 at HPE ⊢;clear hat;by_cases hlast:k+1 < wd.length
   ·have hmin:((min k (wd.length - 1):Nat):Int)=(k:Int):=by rw [Nat.min_eq_left (by omega)]
    have hmin2:((min (k+1) (wd.length - 1):Nat):Int)=(k:Int)+1:=by rw [Nat.min_eq_left (by omega)];rfl
    rw [hmin] at hszv;subst hszv;have hto:pathV u s wd.length v (k+1)=s+(k:Int):=by
     rw [pathV,if_neg (by omega),if_pos hlast];omega
    rw [hto] at HPE;have dk:decide ((k:Int) < (wd.length:Int) - 1)=true:=by simp;omega
    have hws:IntKind.i64.wrap (s+(k:Int)+1)=s+(k:Int)+1:=IntWalk.i64_in _ (by omega);have q1:=Z3.cell 1 rfl;have qf:=Z3.2.2;have hst:=Mid.setCell wr (lo:=G) (hi:=G+1) (p:=⟨G,1,none⟩) (.int .i64 (s+(k:Int)+1)) (Nat.le_refl _) (Nat.lt_succ_self _);have V0:=Z0.mid hst (Or.inl (by omega));have V2:=Z2.mid hst (Or.inl (by omega));have V3:=Z3.set 1 (.int .i64 (s+(k:Int)+1)) (by simp) rfl;have hownV:=owns_other hown (k:=G) (grown_setCell (World.grownBy.refl _ (some G)) 1 (.int .i64 (s+(k:Int)+1))) hbk;have hmv:=hmr.storeNew (p:=⟨G,1,none⟩) (by show w.heap.size≤G;omega) (.int .i64 (s+(k:Int)+1));have hsV:(wr.setCell ⟨G,1,none⟩ (.int .i64 (s+(k:Int)+1))).heap.size=wr.heap.size:=by simp
    go_wp2_with fail;generalize wr.setCell ⟨G,1,none⟩ (.int .i64 (s+(k:Int)+1))=wx at V0 V2 V3 hownV hmv hsV ⊢;have hnsz:Hid (s+(k:Int)+1=s+((min (k+1) (wd.length - 1):Nat):Int)):=Lib.hid (by rw [hmin2];omega);clear Z0 Z2 Z3 hown hmr q1 qf hst hcx hmin hmin2 HSZ;simp only [List.set_cons_succ,List.set_cons_zero] at V3;generalize s+(k:Int)+1=sz' at V3 hnsz;generalize s+(k:Int)=to at HPE hto ⊢;have hGx:G < wx.heap.size:=V3.1;have hmd:=Mid.drew1 wx;have U0:=V0.mid hmd oZr;have U2:=V2.mid hmd oZr;have U3:=V3.mid hmd oZr;have hownU:=owns_mid hownV hmd oZl;have hmu:=hmv.trans hmd;have g2:=U3.cell 2 rfl;have hsd:=hmd.size;have hP1:=fun W=>impl_step at0 x to W (by omega) (by omega);clear V0 V2 V3 hownV hmv hmd;refine wp_region_T (S:=(fun w'=>w'.cell? ⟨G,2,none⟩=some (.slice A2 n2 c2))) 9 (by kernel_rfl) g2 ?_;generalize World.drew wx=wz at U0 U2 U3 hownU hmu g2 hsd ⊢;refine tkT 0 rfl g2 ?_;try simp only [Act.put,zs1,zs2,zs3,zs4,zs5,zs6]
    refine tkT 1 rfl g2 ?_;try simp only [Act.put,zs1,zs2,zs3,zs4,zs5,zs6]
    refine tkT 2 rfl g2 ?_;try simp only [Act.put,zs1,zs2,zs3,zs4,zs5,zs6]
    refine tkT 3 rfl g2 ?_;try simp only [Act.put,zs1,zs2,zs3,zs4,zs5,zs6]
    refine tkT 4 rfl g2 ?_;try simp only [Act.put,zs1,zs2,zs3,zs4,zs5,zs6]
    refine rdT 5 rfl (fun K hK=>?_)
    (go_simp;refine (hP1 _).mono ?_;rintro en w7 ⟨rfl,hm7⟩;have U3':=U3.mid hm7 oZr;go_wp2_with fail)
    refine hK.out _ _ (Or.inr (U3'.cell 2 rfl)) (fun _=>?_);clear hK K;try simp only [Act.put,zs1,zs2,zs3,zs4,zs5,zs6]
    have U0':=U0.mid hm7 oZr;have U2':=U2.mid hm7 oZr;have hownU':=owns_mid hownU hm7 oZl;have hmu':=hmu.trans hm7;have hs7:=hm7.size;clear U0 U2 U3 hownU hmu g2 hP1 hm7;generalize stepE at0 x to=ed at HPE ⊢;have haz:=Mid.alloc w7 (.cells #[.int .i64 ed.a,.int .i64 ed.l,.int .i64 ed.b] 68);have T0:=U0'.mid haz oZr;have T2:=U2'.mid haz oZr;have T3:=U3'.mid haz oZr;have hownT:=hownU'.alloc (.cells #[.int .i64 ed.a,.int .i64 ed.l,.int .i64 ed.b] 68);have hmt:=hmu'.trans haz;have hS2:=T3.cell 2 rfl;have hrs:Rs (w7.alloc (.cells #[.int .i64 ed.a,.int .i64 ed.l,.int .i64 ed.b] 68)) (w7.heap.size+1) (some ⟨w7.heap.size,0,none⟩) [.int .i64 ed.a,.int .i64 ed.l,.int .i64 ed.b]:=fun _=>⟨w7.heap.size,0,rfl,Nat.lt_succ_self _,fun j u hu=>(World.cell?_alloc_at _ _ _ _ rfl).trans (by simpa using hu)⟩
    have hone:∀ u∈[Value.int .i64 ed.a,.int .i64 ed.l,.int .i64 ed.b],u.oneCell'=true:=by
     intro u hu;simp at hu;rcases hu with rfl | rfl | rfl <;> rfl
    have hmxl:n2+1≤maxLen:=by unfold maxLen;omega
    have hbyt:(n2+1) * 24≤140737488355328:=by omega
    have hbas:w1.heap.size≤(w7.alloc (.cells #[.int .i64 ed.a,.int .i64 ed.l,.int .i64 ed.b] 68)).heap.size:=by simp;omega
    have hGz:G < w7.heap.size:=U3'.1;have HO:=Lib.hid hone;have HB0:=Lib.hid (fun (g:Nat) (h:Value.ownBlock (.slice A2 n2 c2)=some g)=>(hownT.lt g h).1);have HBk:=Lib.hid hbk;clear hone hbk U0' U2' U3' hownU' hmu' haz;refine rdT 6 rfl (fun K hK=>?_);go_simp;refine hK.out _ _ (Or.inr hS2) (fun _=>?_);clear hK K;try simp only [Act.put,zs1,zs2,zs3,zs4,zs5,zs6]
    generalize hwt:w7.alloc (.cells #[.int .i64 ed.a,.int .i64 ed.l,.int .i64 ed.b] 68)=wt at T0 T2 T3 hownT hmt hS2 hrs hbas ⊢;have hszt:wt.heap.size=w7.heap.size+1:=by rw [← hwt];simp
    have HZT:=Lib.hid hszt;clear hwt hszt;refine rdT 7 rfl (fun K hK=>?_)
    (refine step_cat (by rfl) (.tmp 84) (.tmp 89) 24 (by rfl) w1.heap.size 68 (.agg #[.int .i64 0,.int .i64 0,.int .i64 0]) 3 24 undSE infoE rfl (by decide) (.slice A2 n2 c2) n2 _ (by rfl) hownT (some ⟨w7.heap.size,0,none⟩) 1 1 _ [.int .i64 ed.a,.int .i64 ed.l,.int .i64 ed.b] (by rfl) hrs rfl HO.out hmxl hbyt hbas ?_;intro v2 w8 ho8 hgr8 hat8;obtain ⟨A3,c3,rfl, -, -⟩:=owns_shape ho8)
    refine hK.out _ _ (Or.inr ((T3.grown hgr8 HBk.out).cell 2 rfl)) (fun _=>?_);clear hK K;try simp only [Act.put,zs1,zs2,zs3,zs4,zs5,zs6]
    have R3:=T3.grown hgr8 HBk.out;have R0:=T0.grown hgr8 (fun h=>by have:=HB0.out _ h;have:=HS.out;omega);have R2:=T2.grown hgr8 (fun h=>by have:=HB0.out _ h;have:=HS.out;omega);have hmr8:Mid 0 0 w w8:=hmt.transNew (Mid.of_grownRow hownT hgr8) (Or.inl (by have:=HS.out;omega));have hS3:=R3.cell 2 rfl;have hne:Value.ownBlock (.slice A3 (n2+1) c3)≠some G:=by
     rcases hat8 with h | h
     ·rw [h];exact HBk.out
     ·rw [h]
      intro he;injection he with he
      have:=HZT.out;omega
    have HNE2:=Lib.hid hne;have hrf:=R3.2.2;clear hne hat8 hS2 hrs T0 T2 T3 hmt;refine tkT 8 rfl hS3 ?_;try simp only [Act.put,zs1,zs2,zs3,zs4,zs5,zs6]
    refine rdT 9 rfl (fun K hK=>?_)
    (go_simp)
    refine hK.out _ _ (Or.inl rfl) (fun _=>?_);clear hK K;try simp only [Act.put,zs1,zs2,zs3,zs4,zs5,zs6]
    refine wpAnyT_done (by kernel_rfl) ?_ _;go_wp2_with fail;go_roundw
    case rel =>
     have hst:=Mid.setCell w8 (lo:=G) (hi:=G+1) (p:=⟨G,2,none⟩) (.slice A3 (n2+1) c3) (Nat.le_refl _) (Nat.lt_succ_self _);refine ⟨k+1,A3,n2+1,c3,sz',by omega,by go_num,by rw [hto],hnsz,Lib.hid (by rw [HN.out];omega),?_,HNE2.out,R0.mid hst (Or.inl (by omega)),R2.mid hst (Or.inl (by omega)),R3.set 2 _ (by simp) rfl,hmr8.storeNew (by show w.heap.size≤G;omega) _⟩;have h1:=owns_other ho8 (k:=G) (grown_setCell (World.grownBy.refl _ (some G)) 2 (.slice A3 (n2+1) c3)) HNE2.out;rw [HPE.out,← List.append_assoc,edI_append,ints_append,edI_one];exact h1
    case measure=>simp [intOf];omega
   ·have hkl:k+1=wd.length:=by omega
    have hmin:min k (wd.length - 1)=min (k+1) (wd.length - 1):=by omega
    have hnsz:Hid (sz=s+((min (k+1) (wd.length - 1):Nat):Int)):=Lib.hid (by rw [hszv,hmin]);have hto:pathV u s wd.length v (k+1)=v:=by
     rw [pathV,if_neg (by omega),if_neg (by omega)]
    rw [hto] at HPE;have dk:decide ((k:Int) < (wd.length:Int) - 1)=false:=by simp;omega
    clear hszv hmin HSZ;generalize sz=sz' at Z3 hnsz;go_wp2_with fail;have V0:=Z0;have V2:=Z2;have V3:=Z3;have hownV:=hown;have hmv:=hmr;obtain ⟨wx,hwx⟩:∃ wx,wr=wx:=⟨_,rfl⟩
    have hsV:wx.heap.size=wr.heap.size:=by rw [hwx]
    rw [hwx] at V0 V2 V3 hownV hmv ⊢;clear Z0 Z2 Z3 hown hmr hcx;have hGx:G < wx.heap.size:=V3.1;have hmd:=Mid.drew1 wx;have U0:=V0.mid hmd oZr;have U2:=V2.mid hmd oZr;have U3:=V3.mid hmd oZr;have hownU:=owns_mid hownV hmd oZl;have hmu:=hmv.trans hmd;have g2:=U3.cell 2 rfl;have hsd:=hmd.size;have hP1:=fun W=>impl_step at0 x v W (by omega) (by omega);clear V0 V2 V3 hownV hmv hmd;refine wp_region_T (S:=(fun w'=>w'.cell? ⟨G,2,none⟩=some (.slice A2 n2 c2))) 9 (by kernel_rfl) g2 ?_;generalize World.drew wx=wz at U0 U2 U3 hownU hmu g2 hsd ⊢;refine tkT 0 rfl g2 ?_;try simp only [Act.put,zs1,zs2,zs3,zs4,zs5,zs6]
    refine tkT 1 rfl g2 ?_;try simp only [Act.put,zs1,zs2,zs3,zs4,zs5,zs6]
    refine tkT 2 rfl g2 ?_;try simp only [Act.put,zs1,zs2,zs3,zs4,zs5,zs6]
    refine tkT 3 rfl g2 ?_;try simp only [Act.put,zs1,zs2,zs3,zs4,zs5,zs6]
    refine tkT 4 rfl g2 ?_;try simp only [Act.put,zs1,zs2,zs3,zs4,zs5,zs6]
    refine rdT 5 rfl (fun K hK=>?_)
    (go_simp;refine (hP1 _).mono ?_;rintro en w7 ⟨rfl,hm7⟩;have U3':=U3.mid hm7 oZr;go_wp2_with fail)
    refine hK.out _ _ (Or.inr (U3'.cell 2 rfl)) (fun _=>?_);clear hK K;try simp only [Act.put,zs1,zs2,zs3,zs4,zs5,zs6]
    have U0':=U0.mid hm7 oZr;have U2':=U2.mid hm7 oZr;have hownU':=owns_mid hownU hm7 oZl;have hmu':=hmu.trans hm7;have hs7:=hm7.size;clear U0 U2 U3 hownU hmu g2 hP1 hm7;generalize stepE at0 x v=ed at HPE ⊢;have haz:=Mid.alloc w7 (.cells #[.int .i64 ed.a,.int .i64 ed.l,.int .i64 ed.b] 68);have T0:=U0'.mid haz oZr;have T2:=U2'.mid haz oZr;have T3:=U3'.mid haz oZr;have hownT:=hownU'.alloc (.cells #[.int .i64 ed.a,.int .i64 ed.l,.int .i64 ed.b] 68);have hmt:=hmu'.trans haz;have hS2:=T3.cell 2 rfl;have hrs:Rs (w7.alloc (.cells #[.int .i64 ed.a,.int .i64 ed.l,.int .i64 ed.b] 68)) (w7.heap.size+1) (some ⟨w7.heap.size,0,none⟩) [.int .i64 ed.a,.int .i64 ed.l,.int .i64 ed.b]:=fun _=>⟨w7.heap.size,0,rfl,Nat.lt_succ_self _,fun j u hu=>(World.cell?_alloc_at _ _ _ _ rfl).trans (by simpa using hu)⟩
    have hone:∀ u∈[Value.int .i64 ed.a,.int .i64 ed.l,.int .i64 ed.b],u.oneCell'=true:=by
     intro u hu;simp at hu;rcases hu with rfl | rfl | rfl <;> rfl
    have hmxl:n2+1≤maxLen:=by unfold maxLen;omega
    have hbyt:(n2+1) * 24≤140737488355328:=by omega
    have hbas:w1.heap.size≤(w7.alloc (.cells #[.int .i64 ed.a,.int .i64 ed.l,.int .i64 ed.b] 68)).heap.size:=by simp;omega
    have hGz:G < w7.heap.size:=U3'.1;have HO:=Lib.hid hone;have HB0:=Lib.hid (fun (g:Nat) (h:Value.ownBlock (.slice A2 n2 c2)=some g)=>(hownT.lt g h).1);have HBk:=Lib.hid hbk;clear hone hbk U0' U2' U3' hownU' hmu' haz;refine rdT 6 rfl (fun K hK=>?_);go_simp;refine hK.out _ _ (Or.inr hS2) (fun _=>?_);clear hK K;try simp only [Act.put,zs1,zs2,zs3,zs4,zs5,zs6]
    generalize hwt:w7.alloc (.cells #[.int .i64 ed.a,.int .i64 ed.l,.int .i64 ed.b] 68)=wt at T0 T2 T3 hownT hmt hS2 hrs hbas ⊢;have hszt:wt.heap.size=w7.heap.size+1:=by rw [← hwt];simp
    have HZT:=Lib.hid hszt;clear hwt hszt;refine rdT 7 rfl (fun K hK=>?_)
    (refine step_cat (by rfl) (.tmp 84) (.tmp 89) 24 (by rfl) w1.heap.size 68 (.agg #[.int .i64 0,.int .i64 0,.int .i64 0]) 3 24 undSE infoE rfl (by decide) (.slice A2 n2 c2) n2 _ (by rfl) hownT (some ⟨w7.heap.size,0,none⟩) 1 1 _ [.int .i64 ed.a,.int .i64 ed.l,.int .i64 ed.b] (by rfl) hrs rfl HO.out hmxl hbyt hbas ?_;intro v2 w8 ho8 hgr8 hat8;obtain ⟨A3,c3,rfl, -, -⟩:=owns_shape ho8)
    refine hK.out _ _ (Or.inr ((T3.grown hgr8 HBk.out).cell 2 rfl)) (fun _=>?_);clear hK K;try simp only [Act.put,zs1,zs2,zs3,zs4,zs5,zs6]
    have R3:=T3.grown hgr8 HBk.out;have R0:=T0.grown hgr8 (fun h=>by have:=HB0.out _ h;have:=HS.out;omega);have R2:=T2.grown hgr8 (fun h=>by have:=HB0.out _ h;have:=HS.out;omega);have hmr8:Mid 0 0 w w8:=hmt.transNew (Mid.of_grownRow hownT hgr8) (Or.inl (by have:=HS.out;omega));have hS3:=R3.cell 2 rfl;have hne:Value.ownBlock (.slice A3 (n2+1) c3)≠some G:=by
     rcases hat8 with h | h
     ·rw [h];exact HBk.out
     ·rw [h]
      intro he;injection he with he
      have:=HZT.out;omega
    have HNE2:=Lib.hid hne;have hrf:=R3.2.2;clear hne hat8 hS2 hrs T0 T2 T3 hmt;refine tkT 8 rfl hS3 ?_;try simp only [Act.put,zs1,zs2,zs3,zs4,zs5,zs6]
    refine rdT 9 rfl (fun K hK=>?_)
    (go_simp)
    refine hK.out _ _ (Or.inl rfl) (fun _=>?_);clear hK K;try simp only [Act.put,zs1,zs2,zs3,zs4,zs5,zs6]
    refine wpAnyT_done (by kernel_rfl) ?_ _;go_wp2_with fail;go_roundw
    case rel =>
     have hst:=Mid.setCell w8 (lo:=G) (hi:=G+1) (p:=⟨G,2,none⟩) (.slice A3 (n2+1) c3) (Nat.le_refl _) (Nat.lt_succ_self _);refine ⟨k+1,A3,n2+1,c3,sz',by omega,by go_num,by rw [hto],hnsz,Lib.hid (by rw [HN.out];omega),?_,HNE2.out,R0.mid hst (Or.inl (by omega)),R2.mid hst (Or.inl (by omega)),R3.set 2 _ (by simp) rfl,hmr8.storeNew (by show w.heap.size≤G;omega) _⟩;have h1:=owns_other ho8 (k:=G) (grown_setCell (World.grownBy.refl _ (some G)) 2 (.slice A3 (n2+1) c3)) HNE2.out;rw [HPE.out,← List.append_assoc,edI_append,ints_append,edI_one];exact h1
    case measure=>simp [intOf];omega
  ·obtain rfl:k=wd.length:=by omega
   have hszf:sz=s+(wd.length:Int) - 1:=by rw [hszv,Nat.min_eq_right (by omega)];omega
   subst hszf;have hrg:RG wr w1.heap.size wr.heap.size A2 (es++pathE u s wd v wd.length):=OV.rv (e:=68) (size:=3) (c:=c2) (n:=n2) ⟨Nat.le_refl _,hown,fun g hg=>(hown.lt g hg).2⟩;have hnl:(es++pathE u s wd v wd.length).length=n2:=by rw [HN.out,List.length_append,pathE_len]
   have HNL:=Lib.hid hnl;have z2:=Z3.cell 2 rfl;clear hnl hszv;go_wp2_with fail;with_reducible refine (impl_sortedN A2 (es++pathE u s wd v wd.length) n2 c2 _ _ _ HNL.out hrg (by omega)).mono ?_
   rintro en w6 ⟨A4,c4,rfl,ho6,hm6⟩;have Q2:=Z2.mid hm6 oZr;have Q3:=Z3.mid hm6 oZr;have hG6:G < wr.heap.size:=Z3.1;have hsz6:=hm6.size;clear z2;have a0:=Q2.cell 0 rfl;have a1:=Q2.cell 1 rfl;have a2:=Q2.cell 2 rfl;have b0:=Q3.cell 0 rfl;have b1:=Q3.cell 1 rfl;have b2:=Q3.cell 2 rfl;have af:=Q2.2.2;have bf:=Q3.2.2;go_wp2_with fail;have hcl:(w.heap.size+1 == G)=false:=by simp;omega
   refine bodyPost_ret (v:=.tuple #[.agg #[.int .i64 r,.int .i64 (s+(wd.length:Int) - 1),.slice A4 (canon (es++pathE u s wd v wd.length)).length c4],.bool true]) (by simp [results,Tryz.results184,go_sem,a0,a1,a2,b0,b1,b2,af,bf]) rfl ⟨A4,c4,?_,?_,?_⟩
   ·rw [HRS.out,HRE.out]
   ·rw [HRE.out]
    refine OG.wide (OG.mid ho6 (a:=w.heap.size) (b:=G+1) ?_ (Or.inl hG6)) (by have:=hmr.size;omega) (by simp) (Nat.le_refl _);repeat (first | exact Mid.refl _ _ _ | refine Mid.stored ?_ _ (by simp;try omega) (by simp;try omega))
   ·have h:=hmr.trans hm6
    repeat (first | exact h | refine Mid.storeNew ?_ (by simp;try omega) _)
end
end Go.Proofs.YthampgpcajmopaaGreat
