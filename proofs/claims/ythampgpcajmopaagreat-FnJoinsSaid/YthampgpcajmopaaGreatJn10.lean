/- Contracts and lemmas of this seat, many texts in one: see the words ahead of each. No condition beyond those typed in each lemma. -/
import Derived.Test.YthampgpcajmopaaGreatJn9
import Derived.Test.YthampgpcajmopaaGreatJn5
import Derived.Test.YthampgpcajmopaaGreatJn6
import Derived.Test.YthampgpcajmopaaGreatJn8
import Derived.Test.YthampgpcajmopaaGreatJn1
import Derived.Test.YthampgpcajmopaaGreatJn4
import Derived.Test.YthampgpcajmopaaGreatJn3
import Derived.Test.YthampgpcajmopaaGreatJn7
import Derived.Test.YthampgpcajmopaaGreatJn2
import Derived.Maps.OwnSet
import Derived.DeepKeys4

namespace Go.Proofs.YthampgpcajmopaaGreat
set_option linter.unusedVariables false
set_option linter.unusedSimpArgs false
set_option maxHeartbeats 40000000
set_option maxRecDepth 100000
section
open Go.RowKit
end
section
open Go.RowKit
open Classical in
noncomputable def jwA (r s:Int) (es:List Ed) (wd:List Int):Option (Int × List Ed) :=
 if IsCor r s es∧IsW r wd then (if wd=[] then some (s,es) else if PathOk r s es 0 wd 0 then some (coreA r (s+(wd.length:Int) - 1,canon (es++pathE 0 s wd 0 wd.length))) else none) else none
def JwIs (r s:Int) (es:List Ed) (wd:List Int) (rr rs:Int) (res:List Ed) (b:Bool):Prop :=
 (b=true∧jwA r s es wd=some (rs,res)∧rr=r) ∨ (b=false∧jwA r s es wd=none∧rr=0∧rs=0∧res=[])
theorem JwIs_ex (r s:Int) (es:List Ed) (wd:List Int):∃ rr rs res b,JwIs r s es wd rr rs res b:=by
 cases h:jwA r s es wd with
 | none=>exact ⟨_,_,_,_,.inr ⟨rfl,h,rfl,rfl,rfl⟩⟩
 | some p=>exact ⟨_,p.1,p.2,_,.inl ⟨rfl,h,rfl⟩⟩
theorem JwIs.no {r s:Int} {es:List Ed} {wd:List Int} {rr rs:Int} {res:List Ed} {b:Bool} (h:JwIs r s es wd rr rs res b) (hn:jwA r s es wd=none):b=false∧rr=0∧rs=0∧res=[]:=by
 rcases h with ⟨-,h, -⟩ | ⟨h1, -,h2⟩
 ·rw [hn] at h
  cases h
 ·exact ⟨h1,h2⟩
theorem JwIs.yes {r s:Int} {es:List Ed} {wd:List Int} {rr rs q:Int} {res qs:List Ed} {b:Bool} (h:JwIs r s es wd rr rs res b) (hn:jwA r s es wd=some (q,qs)):b=true∧rr=r∧rs=q∧res=qs:=by
 rcases h with ⟨h1,h,h2⟩ | ⟨-,h, -⟩
 ·rw [hn] at h
  injection h with h
  injection h with h3 h4
  exact ⟨h1,h2,h3.symm,h4.symm⟩
 ·rw [hn] at h
  cases h
theorem jwA_some {r s:Int} {es:List Ed} {wd:List Int} {p:Int × List Ed} (h:jwA r s es wd=some p):IsCor r s es∧IsW r wd∧IsGr r p.1 p.2:=by
 unfold jwA at h;split at h
 ·rename_i hc
  refine ⟨hc.1,hc.2,?_⟩;split at h
  ·injection h with h
   subst h;exact hc.1.gr
  ·split at h
   ·rename_i hp
    injection h with h
    subst h;exact coreA_gr (g:=(s+(wd.length:Int) - 1,canon (es++pathE 0 s wd 0 wd.length))) (path_gr hp)
   ·cases h
 ·cases h
theorem JwIs.lens {r s:Int} {es:List Ed} {wd:List Int} {rr rs:Int} {res:List Ed} {b:Bool} (h:JwIs r s es wd rr rs res b):res.length≤120:=by
 rcases h with ⟨-,h, -⟩ | ⟨-, -, -, -,rfl⟩
 ·exact (jwA_some h).2.2.len
 ·simp
noncomputable def seI (r s:Int) (es:List Ed) (rr rs:Int) (res:List Ed) (b:Bool):Int:=if b=true then rankI rr rs res - rankI r s es else -1
theorem spec_AddPetal (r s:Int) (A:Option Addr) (es:List Ed) (c:Nat) (Aw:Option Addr) (wd:List Int) (cw:Nat) (w:World) (lo hi lo' hi':Nat) (hr:RG w lo hi A es) (hw:RV w lo' hi' Aw (ints wd)) (hl:es.length≤1048576) (hwl:wd.length≤1048576) (hok:OkI wd) (rs:Int) (res:List Ed) (b:Bool) (hres:PathIs r s es 0 wd 0 rs res b) :
  Calls Tryz.prog 105 #[graV r s A es.length c,.slice Aw wd.length cw] w fun e w'=>∃ A1 c1,e=.returned (.tuple #[graV r rs A1 res.length c1,.bool b])∧OG w' w.heap.size w'.heap.size A1 c1 res∧Mid 0 0 w w':=by
 have hm0:Mid 0 0 w ((w.alloc (.cells #[.int .i64 r,.int .i64 s,.slice A es.length c] 26)).alloc (.cells #[.int .i64 0,.int .i64 0,.slice none 0 0] 26)):=(Mid.alloc _ _).trans (Mid.alloc _ _);have b0:=(Box.new w #[.int .i64 r,.int .i64 s,.slice A es.length c] 26).mid (Mid.alloc _ (.cells #[.int .i64 0,.int .i64 0,.slice none 0 0] 26)) oZr;have b2:=Box.new (w.alloc (.cells #[.int .i64 r,.int .i64 s,.slice A es.length c] 26)) #[.int .i64 0,.int .i64 0,.slice none 0 0] 26;simp only [World.size_alloc] at b2;have HR:=Lib.hid hres;have HOK:=Lib.hid hok;clear hres hok;go_enter Tryz.func105,Tryz.ntmps105
 go_wp2_with fail;generalize ((w.alloc (.cells #[.int .i64 r,.int .i64 s,.slice A es.length c] 26)).alloc (.cells #[.int .i64 0,.int .i64 0,.slice none 0 0] 26))=w1 at hm0 b0 b2 ⊢;have hs1:w.heap.size+1 < w1.heap.size:=b2.1;with_reducible refine (spec_AddPath r s A es c 0 Aw wd cw 0 w1 _ _ _ _ (hr.mid hm0 oZl) (hw.mid hm0 oZl) hl hwl HOK.out rs res b HR.out).mono ?_
 rintro en w2 ⟨A2,c2,rfl,ho2,hm2⟩;replace b0:=b0.mid hm2 oZr;replace b2:=b2.mid hm2 oZr;replace hm0:=hm0.trans hm2;have hs2:=hm2.size;have ha2:=Mid.alloc w2 (.cells #[.int .i64 r,.int .i64 rs,.slice A2 res.length c2] 26);have Y2:=Box.new w2 #[.int .i64 r,.int .i64 rs,.slice A2 res.length c2] 26;have hs4:w.heap.size+1 < w2.heap.size:=by omega
 have hs5:w.heap.size < w2.heap.size:=by omega
 have q0:=Y2.cell 0 rfl;have q1:=Y2.cell 1 rfl;have q2:=Y2.cell 2 rfl;have z0:=b2.cell 0 rfl;have z1:=b2.cell 1 rfl;have z2:=b2.cell 2 rfl;have zf:=b2.2.2;clear ha2;go_wp2_with fail;refine bodyPost_ret (v:=.tuple #[.agg #[.int .i64 r,.int .i64 rs,.slice A2 res.length c2],.bool b]) (by simp [results,Tryz.results105,go_sem,z0,z1,z2,zf,q0,q1,q2,hs4,hs5,World.cell?_alloc_lt]) rfl ⟨A2,c2,rfl,?_,?_⟩
 ·refine OG.wide (OG.mid ho2 (a:=w.heap.size+1) (b:=w.heap.size+2) ?_ (Or.inl (by omega))) (by omega) (by simp;try omega) (Nat.le_refl _)
  repeat (first | exact Mid.refl _ _ _ | refine Mid.trans ?_ (Mid.zero (Mid.alloc _ _)) | refine Mid.stored ?_ _ (by simp;try omega) (by simp;try omega))
 ·repeat (first | exact hm0 | refine Mid.trans ?_ (Mid.alloc _ _) | refine Mid.storeNew ?_ (by simp;try omega) _)
theorem spec_JoinWord (r s:Int) (A:Option Addr) (es:List Ed) (c:Nat) (Aw:Option Addr) (wd:List Int) (cw:Nat) (w:World) (lo hi lo' hi':Nat) (hr:RG w lo hi A es) (hw:RV w lo' hi' Aw (ints wd)) (hl:es.length≤1048576) (hwl:wd.length≤1048576) (hok:OkI wd) (rr rs:Int) (res:List Ed) (b:Bool) (hres:JwIs r s es wd rr rs res b) :
  Calls Tryz.prog 22 #[graV r s A es.length c,.slice Aw wd.length cw] w fun e w'=>∃ A1 c1,e=.returned (.tuple #[graV rr rs A1 res.length c1,.bool b])∧OG w' w.heap.size w'.heap.size A1 c1 res∧Mid 0 0 w w':=by
 have hm0:Mid 0 0 w ((w.alloc (.cells #[.int .i64 r,.int .i64 s,.slice A es.length c] 26)).alloc (.cells #[.int .i64 0,.int .i64 0,.slice none 0 0] 26)):=(Mid.alloc _ _).trans (Mid.alloc _ _);have b0:=(Box.new w #[.int .i64 r,.int .i64 s,.slice A es.length c] 26).mid (Mid.alloc _ (.cells #[.int .i64 0,.int .i64 0,.slice none 0 0] 26)) oZr;have b2:=Box.new (w.alloc (.cells #[.int .i64 r,.int .i64 s,.slice A es.length c] 26)) #[.int .i64 0,.int .i64 0,.slice none 0 0] 26;simp only [World.size_alloc] at b2;have HR:=Lib.hid hres;have HOK:=Lib.hid hok;clear hres hok;go_enter Tryz.func22,Tryz.ntmps22
 go_wp2_with fail;generalize ((w.alloc (.cells #[.int .i64 r,.int .i64 s,.slice A es.length c] 26)).alloc (.cells #[.int .i64 0,.int .i64 0,.slice none 0 0] 26))=w1 at hm0 b0 b2 ⊢;have hs1:w.heap.size+1 < w1.heap.size:=b2.1;by_cases hc:IsCor r s es
 ·have HC:=Lib.hid hc
  clear hc;with_reducible refine (spec_IsSubgroup r s A es c _ _ _ (hr.mid hm0 oZl) hl true (iff_of_true rfl HC.out)).mono ?_
  rintro en w2 ⟨rfl,hm2⟩;replace b0:=b0.mid hm2 oZr;replace b2:=b2.mid hm2 oZr;replace hm0:=hm0.trans hm2;have hs2:=hm2.size;have p0:=b0.cell 0 rfl;have p1:=b0.cell 1 rfl;have p2:=b0.cell 2 rfl;go_wp2_with fail;by_cases hwd:IsW r wd
  ·have HW:=Lib.hid hwd
   clear hwd;with_reducible refine (spec_IsWord r Aw wd cw _ _ ((hw.mid hm0 oZl).rs) HOK.out (by omega) true (iff_of_true rfl HW.out)).mono ?_
   rintro en w3 ⟨rfl,nd,hw3⟩;have hm3:Mid 0 0 w2 w3:=by rw [hw3];exact (Mid.refl 0 0 w2).drewN nd
   replace b0:=b0.mid hm3 oZr;replace b2:=b2.mid hm3 oZr;replace hm0:=hm0.trans hm3;have hs3:=hm3.size;clear p0 p1 p2 hw3 hm3;have p0:=b0.cell 0 rfl;have p1:=b0.cell 1 rfl;have p2:=b0.cell 2 rfl;by_cases hne:wd=[]
   ·subst hne
    have hjw:jwA r s es []=some (s,es):=by rw [jwA,if_pos ⟨HC.out,HW.out⟩,if_pos rfl]
    obtain ⟨rfl,rfl,rfl,rfl⟩:=HR.out.yes hjw;clear HR hjw;go_wp2_with fail;with_reducible refine (spec_l4Copy rr rs A res c _ _ _ (hr.mid hm0 oZl) hl).mono ?_
    rintro en w4 ⟨A4,c4,rfl,ho4,hm4⟩;replace b2:=b2.mid hm4 oZr;replace hm0:=hm0.trans hm4;have hs4:=hm4.size;have z0:=b2.cell 0 rfl;have z1:=b2.cell 1 rfl;have z2:=b2.cell 2 rfl;have zf:=b2.2.2;clear p0 p1 p2;go_wp2_with fail;refine bodyPost_ret (v:=.tuple #[.agg #[.int .i64 rr,.int .i64 rs,.slice A4 res.length c4],.bool true]) (by simp [results,Tryz.results22,go_sem,z0,z1,z2,zf]) rfl ⟨A4,c4,rfl,?_,?_⟩
    ·refine OG.wide (OG.mid ho4 (a:=w.heap.size+1) (b:=w.heap.size+2) ?_ (Or.inl (by omega))) (by omega) (by simp) (Nat.le_refl _)
     repeat (first | exact Mid.refl _ _ _ | refine Mid.stored ?_ _ (by simp;try omega) (by simp;try omega))
    ·repeat (first | exact hm0 | refine Mid.storeNew ?_ (by simp;try omega) _)
   ·have d4:((wd.length:Int) == 0)=false:=by have:=List.length_pos_iff.2 hne;simp only [beq_eq_false_iff_ne];omega
    have HNE:=Lib.hid hne;clear hne;by_cases hp:PathOk r s es 0 wd 0
    ·have HP:=Lib.hid hp
     clear hp;obtain ⟨ms,hms⟩:∃ ms,canon (es++pathE 0 s wd 0 wd.length)=ms:=⟨_,rfl⟩
     have hgm:=path_gr HP.out;rw [hms] at hgm;obtain ⟨sn,hsn⟩:∃ sn:Nat,s+(wd.length:Int) - 1=sn:=⟨(s+(wd.length:Int) - 1).toNat,by have:=hgm.size;omega⟩
     have hPI:PathIs r s es 0 wd 0 (s+(wd.length:Int) - 1) ms true:=Or.inl ⟨rfl,HP.out,rfl,hms.symm⟩;have hjw:jwA r s es wd=some (coreA r (s+(wd.length:Int) - 1,canon (es++pathE 0 s wd 0 wd.length))):=by rw [jwA,if_pos ⟨HC.out,HW.out⟩,if_neg HNE.out,if_pos HP.out]
     rw [hms,hsn] at hjw;rw [hsn] at hPI hgm;have HGM:=Lib.hid hgm;have HPI:=Lib.hid hPI;have HSN:=Lib.hid hsn;clear hms hgm hPI hsn;obtain ⟨rn,rfl⟩:∃ rn:Nat,r=rn:=⟨r.toNat,by have:=HGM.out.rank;omega⟩
     obtain ⟨q,qs,hQ, -⟩:=nat_gr (coreA_gr (g:=((sn:Int),ms)) HGM.out);rw [hQ] at hjw;obtain ⟨rfl,hrr,hrs,hre⟩:=HR.out.yes hjw;subst hrr hrs;subst res;clear HR hjw;go_wp2_with fail;with_reducible refine (spec_AddPetal rn s A es c Aw wd cw _ _ _ _ _ (hr.mid hm0 oZl) (hw.mid hm0 oZl) hl hwl HOK.out sn ms true HPI.out).mono ?_
     rintro en w4 ⟨A4,c4,rfl,ho4,hm4⟩;have hs4:=hm4.size;have ha4:=Mid.alloc w4 (.cells #[.int .i64 rn,.int .i64 sn,.slice A4 ms.length c4] 26);have Y4:=Box.new w4 #[.int .i64 rn,.int .i64 sn,.slice A4 ms.length c4] 26;replace b2:=b2.mid hm4 oZr;replace hm0:=hm0.trans hm4;replace b2:=b2.mid ha4 oZr;replace ho4:=ho4.mid ha4 oZl;replace hm0:=hm0.trans ha4;have hsa:=ha4.size;have y0:=Y4.cell 0 rfl;have y1:=Y4.cell 1 rfl;have y2:=Y4.cell 2 rfl;have hP:=spec_CoreGraph rn sn A4 ms c4 (w4.alloc (.cells #[.int .i64 rn,.int .i64 sn,.slice A4 ms.length c4] 26)) _ _ (OG.rg ho4) HGM.out;rw [hQ] at hP;dsimp only at hP;have HPP:=Lib.hid hP;clear hP hQ p0 p1 p2;go_wp2_with fail;with_reducible refine HPP.out.mono ?_
     rintro en w6 ⟨A5,c5,rfl,ho5,hm6⟩;clear HPP;replace b2:=b2.mid hm6 oZr;replace hm0:=hm0.trans hm6;have z0:=b2.cell 0 rfl;have z1:=b2.cell 1 rfl;have z2:=b2.cell 2 rfl;have zf:=b2.2.2;go_wp2_with fail;refine bodyPost_ret (v:=.tuple #[.agg #[.int .i64 rn,.int .i64 q,.slice A5 qs.length c5],.bool true]) (by simp [results,Tryz.results22,go_sem,z0,z1,z2,zf]) rfl ⟨A5,c5,rfl,?_,?_⟩
     ·refine OG.wide (OG.mid ho5 (a:=w.heap.size+1) (b:=w.heap.size+2) ?_ (Or.inl (by omega))) (by omega) (by simp) (Nat.le_refl _)
      repeat (first | exact Mid.refl _ _ _ | refine Mid.stored ?_ _ (by simp;try omega) (by simp;try omega))
     ·repeat (first | exact hm0 | refine Mid.storeNew ?_ (by simp;try omega) _)
    ·have hPI:PathIs r s es 0 wd 0 s es false:=Or.inr ⟨rfl,hp,rfl,rfl⟩
     have hjw:jwA r s es wd=none:=by rw [jwA,if_pos ⟨HC.out,HW.out⟩,if_neg HNE.out,if_neg hp]
     obtain ⟨rfl,rfl,rfl,rfl⟩:=HR.out.no hjw;have HPI:=Lib.hid hPI;clear HR hjw hp hPI;go_wp2_with fail;with_reducible refine (spec_AddPetal r s A es c Aw wd cw _ _ _ _ _ (hr.mid hm0 oZl) (hw.mid hm0 oZl) hl hwl HOK.out s es false HPI.out).mono ?_
     rintro en w4 ⟨A4,c4,rfl,ho4,hm4⟩;replace b2:=b2.mid hm4 oZr;replace hm0:=hm0.trans hm4;have hb23:w.heap.size+1 < w4.heap.size:=b2.1;have hb22:w.heap.size < w4.heap.size:=by omega
     have z0:=b2.cell 0 rfl;have z1:=b2.cell 1 rfl;have z2:=b2.cell 2 rfl;have zf:=b2.2.2;clear p0 p1 p2;go_wp2_with fail;refine bodyPost_ret (v:=.tuple #[.agg #[.int .i64 0,.int .i64 0,.slice none 0 0],.bool false]) (by simp [results,Tryz.results22,go_sem,z0,z1,z2,zf,hb22,hb23,World.cell?_alloc_lt]) rfl ⟨none,0,rfl,?_,?_⟩
     ·exact ⟨Nat.le_refl _,⟨rfl,.inl ⟨rfl,rfl⟩⟩,fun g hg=>by simp [Value.ownBlock] at hg⟩
     ·repeat (first | exact hm0 | refine Mid.trans ?_ (Mid.alloc _ _) | refine Mid.storeNew ?_ (by simp;try omega) _)
  ·have hjw:jwA r s es wd=none:=by rw [jwA,if_neg fun h=>hwd h.2]
   obtain ⟨rfl,rfl,rfl,rfl⟩:=HR.out.no hjw;have HW:=Lib.hid hwd;clear hwd hjw HR;with_reducible refine (spec_IsWord r Aw wd cw _ _ ((hw.mid hm0 oZl).rs) HOK.out (by omega) false (iff_of_false Bool.false_ne_true HW.out)).mono ?_
   rintro en w3 ⟨rfl,nd,hw3⟩;have hm3:Mid 0 0 w2 w3:=by rw [hw3];exact (Mid.refl 0 0 w2).drewN nd
   replace b0:=b0.mid hm3 oZr;replace b2:=b2.mid hm3 oZr;replace hm0:=hm0.trans hm3;have hs3:=hm3.size;clear p0 p1 p2 hw3 hm3;have p0:=b0.cell 0 rfl;have p1:=b0.cell 1 rfl;have p2:=b0.cell 2 rfl;have z0:=b2.cell 0 rfl;have z1:=b2.cell 1 rfl;have z2:=b2.cell 2 rfl;have zf:=b2.2.2;clear p0 p1 p2;go_wp2_with fail;refine bodyPost_ret (v:=.tuple #[.agg #[.int .i64 0,.int .i64 0,.slice none 0 0],.bool false]) (by simp [results,Tryz.results22,go_sem,z0,z1,z2,zf]) rfl ⟨none,0,rfl,?_,?_⟩
   ·exact ⟨Nat.le_refl _,⟨rfl,.inl ⟨rfl,rfl⟩⟩,fun g hg=>by simp [Value.ownBlock] at hg⟩
   ·repeat (first | exact hm0 | refine Mid.trans ?_ (Mid.alloc _ _) | refine Mid.storeNew ?_ (by simp;try omega) _)
 ·have hjw:jwA r s es wd=none:=by rw [jwA,if_neg fun h=>hc h.1]
  obtain ⟨rfl,rfl,rfl,rfl⟩:=HR.out.no hjw;have HC:=Lib.hid hc;clear hc hjw HR;with_reducible refine (spec_IsSubgroup r s A es c _ _ _ (hr.mid hm0 oZl) hl false (iff_of_false Bool.false_ne_true HC.out)).mono ?_
  rintro en w2 ⟨rfl,hm2⟩;replace b2:=b2.mid hm2 oZr;replace hm0:=hm0.trans hm2;have z0:=b2.cell 0 rfl;have z1:=b2.cell 1 rfl;have z2:=b2.cell 2 rfl;have zf:=b2.2.2;go_wp2_with fail;refine bodyPost_ret (v:=.tuple #[.agg #[.int .i64 0,.int .i64 0,.slice none 0 0],.bool false]) (by simp [results,Tryz.results22,go_sem,z0,z1,z2,zf]) rfl ⟨none,0,rfl,?_,?_⟩
  ·exact ⟨Nat.le_refl _,⟨rfl,.inl ⟨rfl,rfl⟩⟩,fun g hg=>by simp [Value.ownBlock] at hg⟩
  ·repeat (first | exact hm0 | refine Mid.trans ?_ (Mid.alloc _ _) | refine Mid.storeNew ?_ (by simp;try omega) _)
theorem spec_SmallestExtension (r s:Int) (A:Option Addr) (es:List Ed) (c:Nat) (Aw:Option Addr) (wd:List Int) (cw:Nat) (w:World) (lo hi lo' hi':Nat) (hr:RG w lo hi A es) (hw:RV w lo' hi' Aw (ints wd)) (hl:es.length≤1048576) (hwl:wd.length≤1048576) (hok:OkI wd) (rr rs:Int) (res:List Ed) (b:Bool) (hres:JwIs r s es wd rr rs res b) :
  Calls Tryz.prog 26 #[graV r s A es.length c,.slice Aw wd.length cw] w fun e w'=>∃ A1 c1,e=.returned (.tuple #[graV rr rs A1 res.length c1,.int .i64 (seI r s es rr rs res b)])∧OG w' w.heap.size w'.heap.size A1 c1 res∧Mid 0 0 w w':=by
 have hm0:Mid 0 0 w ((w.alloc (.cells #[.int .i64 r,.int .i64 s,.slice A es.length c] 26)).alloc (.cells #[.int .i64 0,.int .i64 0,.slice none 0 0] 26)):=(Mid.alloc _ _).trans (Mid.alloc _ _);have b0:=(Box.new w #[.int .i64 r,.int .i64 s,.slice A es.length c] 26).mid (Mid.alloc _ (.cells #[.int .i64 0,.int .i64 0,.slice none 0 0] 26)) oZr;have b2:=Box.new (w.alloc (.cells #[.int .i64 r,.int .i64 s,.slice A es.length c] 26)) #[.int .i64 0,.int .i64 0,.slice none 0 0] 26;simp only [World.size_alloc] at b2;have hl2:=hres.lens;have hl3:res.length≤1048576:=by omega
 obtain ⟨k1,k2⟩:=rankI_bnd (r:=r) (s:=s) hl;obtain ⟨k5,k6⟩:=rankI_bnd (r:=rr) (s:=rs) hl3;have HR:=Lib.hid hres;have HOK:=Lib.hid hok;have hJ:=fun W hh hh'=>spec_JoinWord r s A es c Aw wd cw W lo hi lo' hi' hh hh' hl hwl HOK.out rr rs res b HR.out;have h1:=fun W hh=>spec_RankOf r s A es c W lo hi hh hl;have h3:=fun A c W lo hi hh=>spec_RankOf rr rs A res c W lo hi hh hl3;have hdr:seI r s es rr rs res b=if b=true then rankI rr rs res - rankI r s es else -1:=rfl
 generalize seI r s es rr rs res b=dd at hdr ⊢;generalize rankI r s es=x1 at k1 k2 h1 hdr;generalize rankI rr rs res=x3 at k5 k6 h3 hdr;have HJ:=Lib.hid hJ;have HR1:=Lib.hid h1;have HR3:=Lib.hid h3;have HD:=Lib.hid hdr;clear hJ h1 h3 hdr hok;go_enter Tryz.func26,Tryz.ntmps26
 go_wp2_with fail;generalize ((w.alloc (.cells #[.int .i64 r,.int .i64 s,.slice A es.length c] 26)).alloc (.cells #[.int .i64 0,.int .i64 0,.slice none 0 0] 26))=w1 at hm0 b0 b2 ⊢;have hs1:w.heap.size+1 < w1.heap.size:=b2.1;with_reducible refine (HJ.out w1 (hr.mid hm0 oZl) (hw.mid hm0 oZl)).mono ?_
 rintro en w2 ⟨A2,c2,rfl,ho2,hm2⟩;have hcl2:=ho2.cnt.1;have hs2:=hm2.size;have ha2:=Mid.alloc w2 (.cells #[.int .i64 rr,.int .i64 rs,.slice A2 res.length c2] 26);have Y2:=Box.new w2 #[.int .i64 rr,.int .i64 rs,.slice A2 res.length c2] 26;replace b0:=b0.mid hm2 oZr;replace b2:=b2.mid hm2 oZr;replace hm0:=hm0.trans hm2;have hb23:w.heap.size+1 < w2.heap.size:=b2.1;have hb22:w.heap.size < w2.heap.size:=by omega
 have bz:=b2;have hmz:=hm0;replace b0:=b0.mid ha2 oZr;replace b2:=b2.mid ha2 oZr;replace ho2:=ho2.mid ha2 oZl;replace hm0:=hm0.trans ha2;have hs3:=ha2.size;clear HJ hm2;cases b with
 | false =>
  have hno:rr=0∧rs=0∧res=[]:=by
   rcases hres with ⟨h, -⟩ | ⟨-, -,h⟩
   ·cases h
   ·exact h
  obtain ⟨rfl,rfl,rfl⟩:=hno;have hdd:dd = -1:=by rw [HD.out];rfl
  subst hdd;have z0:=bz.cell 0 rfl;have z1:=bz.cell 1 rfl;have z2:=bz.cell 2 rfl;have zf:=bz.2.2;clear hres HR;go_wp2_with fail;refine bodyPost_ret (v:=.tuple #[.agg #[.int .i64 0,.int .i64 0,.slice none 0 0],.int .i64 (-1)]) (by simp [results,Tryz.results26,go_sem,z0,z1,z2,zf,hb22,hb23,World.cell?_alloc_lt]) rfl ⟨none,0,rfl,?_,?_⟩
  ·exact ⟨Nat.le_refl _,⟨rfl,.inl ⟨rfl,rfl⟩⟩,fun g hg=>by simp [Value.ownBlock] at hg⟩
  ·repeat (first | exact hmz | refine Mid.trans ?_ (Mid.alloc _ _) | refine Mid.storeNew ?_ (by simp;try omega) _)
 | true =>
  have hdd:dd=x3 - x1:=by rw [HD.out];rfl
  subst hdd;have hw2:IntKind.i64.wrap (x3 - x1)=x3 - x1:=IntWalk.i64_in _ (by omega);clear hres HR;go_wp2_with fail;generalize w2.alloc (.cells #[.int .i64 rr,.int .i64 rs,.slice A2 res.length c2] 26)=w3 at hm0 b0 b2 ho2 Y2 hs3 ⊢;have hmd:=Mid.drew1 w3;have hsd:=hmd.size;clear bz hmz;replace b0:=b0.mid hmd oZr;replace b2:=b2.mid hmd oZr;replace Y2:=Y2.mid hmd oZr;replace ho2:=ho2.mid hmd oZl;replace hm0:=hm0.trans hmd;have p0:=b0.cell 0 rfl;have p1:=b0.cell 1 rfl;have p2:=b0.cell 2 rfl;have q0:=Y2.cell 0 rfl;have q1:=Y2.cell 1 rfl;have q2:=Y2.cell 2 rfl;refine wp_region_T (S:=(fun w'=>(w'.cell? ⟨w.heap.size,0,none⟩=some (.int .i64 r)∧w'.cell? ⟨w.heap.size,1,none⟩=some (.int .i64 s)∧w'.cell? ⟨w.heap.size,2,none⟩=some (.slice A es.length c))∧w'.cell? ⟨w2.heap.size,0,none⟩=some (.int .i64 rr)∧w'.cell? ⟨w2.heap.size,1,none⟩=some (.int .i64 rs)∧w'.cell? ⟨w2.heap.size,2,none⟩=some (.slice A2 res.length c2))) 7 (by kernel_rfl) ⟨⟨p0,p1,p2⟩,q0,q1,q2⟩ ?_;generalize World.drew w3=wz at b0 b2 Y2 ho2 hm0 p0 p1 p2 q0 q1 q2 hsd ⊢;have hS:(wz.cell? ⟨w.heap.size,0,none⟩=some (.int .i64 r)∧wz.cell? ⟨w.heap.size,1,none⟩=some (.int .i64 s)∧wz.cell? ⟨w.heap.size,2,none⟩=some (.slice A es.length c))∧wz.cell? ⟨w2.heap.size,0,none⟩=some (.int .i64 rr)∧wz.cell? ⟨w2.heap.size,1,none⟩=some (.int .i64 rs)∧wz.cell? ⟨w2.heap.size,2,none⟩=some (.slice A2 res.length c2):=⟨⟨p0,p1,p2⟩,q0,q1,q2⟩
  refine tkT 0 rfl hS ?_;try simp only [Act.put,zs1,zs2,zs3,zs4,zs5,zs6]
  refine tkT 1 rfl hS ?_;try simp only [Act.put,zs1,zs2,zs3,zs4,zs5,zs6]
  refine tkT 3 rfl hS ?_;try simp only [Act.put,zs1,zs2,zs3,zs4,zs5,zs6]
  refine rdT 2 rfl (fun K hK=>?_)
  (go_simp;refine (HR3.out A2 c2 _ _ _ ho2.rg).mono ?_;rintro en w4 ⟨rfl,hm4⟩;have b01:=b0.mid hm4 oZr;have Y21:=Y2.mid hm4 oZr;go_wp2_with fail)
  refine hK.out _ _ (Or.inr ⟨⟨b01.cell 0 rfl,b01.cell 1 rfl,b01.cell 2 rfl⟩,Y21.cell 0 rfl,Y21.cell 1 rfl,Y21.cell 2 rfl⟩) (fun _=>?_);clear hK K;try simp only [Act.put,zs1,zs2,zs3,zs4,zs5,zs6]
  replace hm0:=hm0.trans hm4;have b21:=b2.mid hm4 oZr;have ho4:=ho2.mid hm4 oZl;have hs4:=hm4.size;clear hS p0 p1 p2 q0 q1 q2 b0 Y2 b2 ho2 hm4;refine rdT 4 rfl (fun K hK=>?_)
  (go_simp;refine (HR1.out _ (hr.mid hm0 oZl)).mono ?_;rintro en w5 ⟨rfl,hm5⟩;have b02:=b01.mid hm5 oZr;have Y22:=Y21.mid hm5 oZr;go_wp2_with fail)
  refine hK.out _ _ (Or.inr ⟨⟨b02.cell 0 rfl,b02.cell 1 rfl,b02.cell 2 rfl⟩,Y22.cell 0 rfl,Y22.cell 1 rfl,Y22.cell 2 rfl⟩) (fun _=>?_);clear hK K;try simp only [Act.put,zs1,zs2,zs3,zs4,zs5,zs6]
  replace hm0:=hm0.trans hm5;have b22:=b21.mid hm5 oZr;have ho5:=ho4.mid hm5 oZl;have hs5:=hm5.size;have hS5:=And.intro (And.intro (b02.cell 0 rfl) (And.intro (b02.cell 1 rfl) (b02.cell 2 rfl))) (And.intro (Y22.cell 0 rfl) (And.intro (Y22.cell 1 rfl) (Y22.cell 2 rfl)));clear b01 b21 Y21 ho4 hm5;refine tkT 5 rfl hS5 ?_;try simp only [Act.put,zs1,zs2,zs3,zs4,zs5,zs6]
  have z0:=b22.cell 0 rfl;have z1:=b22.cell 1 rfl;have z2:=b22.cell 2 rfl;have zf:=b22.2.2;have hst:=((Mid.setCell w5 (lo:=w.heap.size+1) (hi:=w.heap.size+2) (p:=⟨w.heap.size+1,0,none⟩) (.int .i64 rr) (Nat.le_refl _) (Nat.lt_succ_self _)).trans (Mid.setCell _ (lo:=w.heap.size+1) (hi:=w.heap.size+2) (p:=⟨w.heap.size+1,1,none⟩) (.int .i64 rs) (Nat.le_refl _) (Nat.lt_succ_self _))).trans (Mid.setCell _ (lo:=w.heap.size+1) (hi:=w.heap.size+2) (p:=⟨w.heap.size+1,2,none⟩) (.slice A2 res.length c2) (Nat.le_refl _) (Nat.lt_succ_self _));have b03:=b02.mid hst (Or.inl (by omega));have Y23:=Y22.mid hst (Or.inr (by omega));have hS6:=And.intro (And.intro (b03.cell 0 rfl) (And.intro (b03.cell 1 rfl) (b03.cell 2 rfl))) (And.intro (Y23.cell 0 rfl) (And.intro (Y23.cell 1 rfl) (Y23.cell 2 rfl)));refine rdT 6 rfl (fun K hK=>?_);go_simp;refine hK.out _ _ (Or.inr hS6) (fun _=>?_);clear hK K;try simp only [Act.put,zs1,zs2,zs3,zs4,zs5,zs6]
  refine rdT 7 rfl (fun K hK=>?_);go_simp;refine hK.out _ _ (Or.inl rfl) (fun _=>?_);clear hK K;try simp only [Act.put,zs1,zs2,zs3,zs4,zs5,zs6]
  refine wpAnyT_done (by kernel_rfl) ?_ _;go_wp2_with fail;refine bodyPost_ret (v:=.tuple #[.agg #[.int .i64 rr,.int .i64 rs,.slice A2 res.length c2],.int .i64 (x3 - x1)]) (by simp [results,Tryz.results26,go_sem,z0,z1,z2,zf]) rfl ⟨A2,c2,rfl,?_,?_⟩
  ·refine OG.wide (OG.mid ho5 (a:=w.heap.size+1) (b:=w.heap.size+2) ?_ (Or.inl (by omega))) (by omega) (by simp;omega) (Nat.le_refl _)
   repeat (first | exact Mid.refl _ _ _ | refine Mid.stored ?_ _ (by simp;try omega) (by simp;try omega))
  ·repeat (first | exact hm0 | refine Mid.storeNew ?_ (by simp;try omega) _)
theorem impl_AddPetal (r s:Int) (A:Option Addr) (es:List Ed) (c:Nat) (Aw:Option Addr) (wd:List Int) (cw:Nat) (w:World) (lo hi lo' hi':Nat) (hr:RG w lo hi A es) (hw:RV w lo' hi' Aw (ints wd)) (hl:es.length≤1048576) (hwl:wd.length≤1048576) (hok:OkI wd) (rs:Int) (res:List Ed) (b:Bool) (hres:PathIs r s es 0 wd 0 rs res b) :
  Calls Tryz.prog 104 #[graV r s A es.length c,.slice Aw wd.length cw] w fun e w'=>∃ A1 c1,e=.returned (.tuple #[graV r rs A1 res.length c1,.bool b])∧OG w' w.heap.size w'.heap.size A1 c1 res∧Mid 0 0 w w':=by
 have hm0:Mid 0 0 w ((w.alloc (.cells #[.int .i64 r,.int .i64 s,.slice A es.length c] 26)).alloc (.cells #[.int .i64 0,.int .i64 0,.slice none 0 0] 26)):=(Mid.alloc _ _).trans (Mid.alloc _ _);have b0:=(Box.new w #[.int .i64 r,.int .i64 s,.slice A es.length c] 26).mid (Mid.alloc _ (.cells #[.int .i64 0,.int .i64 0,.slice none 0 0] 26)) oZr;have b2:=Box.new (w.alloc (.cells #[.int .i64 r,.int .i64 s,.slice A es.length c] 26)) #[.int .i64 0,.int .i64 0,.slice none 0 0] 26;simp only [World.size_alloc] at b2;have HR:=Lib.hid hres;have HOK:=Lib.hid hok;clear hres hok;go_enter Tryz.func104,Tryz.ntmps104
 go_wp2_with fail;generalize ((w.alloc (.cells #[.int .i64 r,.int .i64 s,.slice A es.length c] 26)).alloc (.cells #[.int .i64 0,.int .i64 0,.slice none 0 0] 26))=w1 at hm0 b0 b2 ⊢;have hs1:w.heap.size+1 < w1.heap.size:=b2.1;with_reducible refine (impl_AddPath r s A es c 0 Aw wd cw 0 w1 _ _ _ _ (hr.mid hm0 oZl) (hw.mid hm0 oZl) hl hwl HOK.out rs res b HR.out).mono ?_
 rintro en w2 ⟨A2,c2,rfl,ho2,hm2⟩;replace b0:=b0.mid hm2 oZr;replace b2:=b2.mid hm2 oZr;replace hm0:=hm0.trans hm2;have hs2:=hm2.size;have z0:=b2.cell 0 rfl;have z1:=b2.cell 1 rfl;have z2:=b2.cell 2 rfl;have zf:=b2.2.2;go_wp2_with fail;refine bodyPost_ret (v:=.tuple #[.agg #[.int .i64 r,.int .i64 rs,.slice A2 res.length c2],.bool b]) (by simp [results,Tryz.results104,go_sem,z0,z1,z2,zf]) rfl ⟨A2,c2,rfl,?_,?_⟩
 ·refine OG.wide (OG.mid ho2 (a:=w.heap.size+1) (b:=w.heap.size+2) ?_ (Or.inl (by omega))) (by omega) (by simp) (Nat.le_refl _)
  repeat (first | exact Mid.refl _ _ _ | refine Mid.stored ?_ _ (by simp;try omega) (by simp;try omega))
 ·repeat (first | exact hm0 | refine Mid.storeNew ?_ (by simp;try omega) _)
theorem impl_JoinWord (r s:Int) (A:Option Addr) (es:List Ed) (c:Nat) (Aw:Option Addr) (wd:List Int) (cw:Nat) (w:World) (lo hi lo' hi':Nat) (hr:RG w lo hi A es) (hw:RV w lo' hi' Aw (ints wd)) (hl:es.length≤1048576) (hcl:es.length≤c) (hwl:wd.length≤1048576) (hok:OkI wd) (rr rs:Int) (res:List Ed) (b:Bool) (hres:JwIs r s es wd rr rs res b) :
  Calls Tryz.prog 21 #[graV r s A es.length c,.slice Aw wd.length cw] w fun e w'=>∃ A1 c1,e=.returned (.tuple #[graV rr rs A1 res.length c1,.bool b])∧OG w' w.heap.size w'.heap.size A1 c1 res∧Mid 0 0 w w':=by
 have hm0:Mid 0 0 w ((w.alloc (.cells #[.int .i64 r,.int .i64 s,.slice A es.length c] 26)).alloc (.cells #[.int .i64 0,.int .i64 0,.slice none 0 0] 26)):=(Mid.alloc _ _).trans (Mid.alloc _ _);have b0:=(Box.new w #[.int .i64 r,.int .i64 s,.slice A es.length c] 26).mid (Mid.alloc _ (.cells #[.int .i64 0,.int .i64 0,.slice none 0 0] 26)) oZr;have b2:=Box.new (w.alloc (.cells #[.int .i64 r,.int .i64 s,.slice A es.length c] 26)) #[.int .i64 0,.int .i64 0,.slice none 0 0] 26;simp only [World.size_alloc] at b2;have HR:=Lib.hid hres;have HOK:=Lib.hid hok;clear hres hok;go_enter Tryz.func21,Tryz.ntmps21
 go_wp2_with fail;generalize ((w.alloc (.cells #[.int .i64 r,.int .i64 s,.slice A es.length c] 26)).alloc (.cells #[.int .i64 0,.int .i64 0,.slice none 0 0] 26))=w1 at hm0 b0 b2 ⊢;have hs1:w.heap.size+1 < w1.heap.size:=b2.1;by_cases hc:IsCor r s es
 ·have HC:=Lib.hid hc
  clear hc;with_reducible refine (impl_IsCore r s A es c _ _ _ (hr.mid hm0 oZl) hl hcl true (iff_of_true rfl HC.out)).mono ?_
  rintro en w2 ⟨rfl,hm2⟩;replace b0:=b0.mid hm2 oZr;replace b2:=b2.mid hm2 oZr;replace hm0:=hm0.trans hm2;have hs2:=hm2.size;have p0:=b0.cell 0 rfl;have p1:=b0.cell 1 rfl;have p2:=b0.cell 2 rfl;go_wp2_with fail;by_cases hwd:IsW r wd
  ·have HW:=Lib.hid hwd
   clear hwd;with_reducible refine (impl_IsWord r Aw wd cw _ _ ((hw.mid hm0 oZl).rs) HOK.out (by omega) true (iff_of_true rfl HW.out)).mono ?_
   rintro en w3 ⟨rfl,rfl⟩;by_cases hne:wd=[]
   ·subst hne
    have hjw:jwA r s es []=some (s,es):=by rw [jwA,if_pos ⟨HC.out,HW.out⟩,if_pos rfl]
    obtain ⟨rfl,rfl,rfl,rfl⟩:=HR.out.yes hjw;clear HR hjw;go_wp2_with fail;with_reducible refine (impl_copyGraph rr rs A res c _ _ _ (hr.mid hm0 oZl) hl).mono ?_
    rintro en w4 ⟨A4,c4,rfl,ho4,hm4⟩;replace b2:=b2.mid hm4 oZr;replace hm0:=hm0.trans hm4;have hs4:=hm4.size;have z0:=b2.cell 0 rfl;have z1:=b2.cell 1 rfl;have z2:=b2.cell 2 rfl;have zf:=b2.2.2;clear p0 p1 p2;go_wp2_with fail;refine bodyPost_ret (v:=.tuple #[.agg #[.int .i64 rr,.int .i64 rs,.slice A4 res.length c4],.bool true]) (by simp [results,Tryz.results21,go_sem,z0,z1,z2,zf]) rfl ⟨A4,c4,rfl,?_,?_⟩
    ·refine OG.wide (OG.mid ho4 (a:=w.heap.size+1) (b:=w.heap.size+2) ?_ (Or.inl (by omega))) (by omega) (by simp) (Nat.le_refl _)
     repeat (first | exact Mid.refl _ _ _ | refine Mid.stored ?_ _ (by simp;try omega) (by simp;try omega))
    ·repeat (first | exact hm0 | refine Mid.storeNew ?_ (by simp;try omega) _)
   ·have d4:((wd.length:Int) == 0)=false:=by have:=List.length_pos_iff.2 hne;simp only [beq_eq_false_iff_ne];omega
    have HNE:=Lib.hid hne;clear hne;by_cases hp:PathOk r s es 0 wd 0
    ·have HP:=Lib.hid hp
     clear hp;obtain ⟨ms,hms⟩:∃ ms,canon (es++pathE 0 s wd 0 wd.length)=ms:=⟨_,rfl⟩
     have hgm:=path_gr HP.out;rw [hms] at hgm;obtain ⟨sn,hsn⟩:∃ sn:Nat,s+(wd.length:Int) - 1=sn:=⟨(s+(wd.length:Int) - 1).toNat,by have:=hgm.size;omega⟩
     have hPI:PathIs r s es 0 wd 0 (s+(wd.length:Int) - 1) ms true:=Or.inl ⟨rfl,HP.out,rfl,hms.symm⟩;have hjw:jwA r s es wd=some (coreA r (s+(wd.length:Int) - 1,canon (es++pathE 0 s wd 0 wd.length))):=by rw [jwA,if_pos ⟨HC.out,HW.out⟩,if_neg HNE.out,if_pos HP.out]
     rw [hms,hsn] at hjw;rw [hsn] at hPI hgm;have HGM:=Lib.hid hgm;have HPI:=Lib.hid hPI;have HSN:=Lib.hid hsn;clear hms hgm hPI hsn;obtain ⟨rn,rfl⟩:∃ rn:Nat,r=rn:=⟨r.toNat,by have:=HGM.out.rank;omega⟩
     obtain ⟨q,qs,hQ, -⟩:=nat_gr (coreA_gr (g:=((sn:Int),ms)) HGM.out);rw [hQ] at hjw;obtain ⟨rfl,hrr,hrs,hre⟩:=HR.out.yes hjw;subst hrr hrs;subst res;clear HR hjw;go_wp2_with fail;with_reducible refine (impl_AddPetal rn s A es c Aw wd cw _ _ _ _ _ (hr.mid hm0 oZl) (hw.mid hm0 oZl) hl hwl HOK.out sn ms true HPI.out).mono ?_
     rintro en w4 ⟨A4,c4,rfl,ho4,hm4⟩;have hs4:=hm4.size;have ha4:=Mid.alloc w4 (.cells #[.int .i64 rn,.int .i64 sn,.slice A4 ms.length c4] 26);have Y4:=Box.new w4 #[.int .i64 rn,.int .i64 sn,.slice A4 ms.length c4] 26;replace b2:=b2.mid hm4 oZr;replace hm0:=hm0.trans hm4;replace b2:=b2.mid ha4 oZr;replace ho4:=ho4.mid ha4 oZl;replace hm0:=hm0.trans ha4;have hsa:=ha4.size;have y0:=Y4.cell 0 rfl;have y1:=Y4.cell 1 rfl;have y2:=Y4.cell 2 rfl;have hP:=impl_CoreGraph rn sn A4 ms c4 (w4.alloc (.cells #[.int .i64 rn,.int .i64 sn,.slice A4 ms.length c4] 26)) _ _ (OG.rg ho4) HGM.out;rw [hQ] at hP;dsimp only at hP;have HPP:=Lib.hid hP;clear hP hQ p0 p1 p2;go_wp2_with fail;with_reducible refine HPP.out.mono ?_
     rintro en w6 ⟨A5,c5,rfl,ho5,hm6⟩;clear HPP;replace b2:=b2.mid hm6 oZr;replace hm0:=hm0.trans hm6;have z0:=b2.cell 0 rfl;have z1:=b2.cell 1 rfl;have z2:=b2.cell 2 rfl;have zf:=b2.2.2;go_wp2_with fail;refine bodyPost_ret (v:=.tuple #[.agg #[.int .i64 rn,.int .i64 q,.slice A5 qs.length c5],.bool true]) (by simp [results,Tryz.results21,go_sem,z0,z1,z2,zf]) rfl ⟨A5,c5,rfl,?_,?_⟩
     ·refine OG.wide (OG.mid ho5 (a:=w.heap.size+1) (b:=w.heap.size+2) ?_ (Or.inl (by omega))) (by omega) (by simp) (Nat.le_refl _)
      repeat (first | exact Mid.refl _ _ _ | refine Mid.stored ?_ _ (by simp;try omega) (by simp;try omega))
     ·repeat (first | exact hm0 | refine Mid.storeNew ?_ (by simp;try omega) _)
    ·have hPI:PathIs r s es 0 wd 0 s es false:=Or.inr ⟨rfl,hp,rfl,rfl⟩
     have hjw:jwA r s es wd=none:=by rw [jwA,if_pos ⟨HC.out,HW.out⟩,if_neg HNE.out,if_neg hp]
     obtain ⟨rfl,rfl,rfl,rfl⟩:=HR.out.no hjw;have HPI:=Lib.hid hPI;clear HR hjw hp hPI;go_wp2_with fail;with_reducible refine (impl_AddPetal r s A es c Aw wd cw _ _ _ _ _ (hr.mid hm0 oZl) (hw.mid hm0 oZl) hl hwl HOK.out s es false HPI.out).mono ?_
     rintro en w4 ⟨A4,c4,rfl,ho4,hm4⟩;replace b2:=b2.mid hm4 oZr;replace hm0:=hm0.trans hm4;have hb23:w.heap.size+1 < w4.heap.size:=b2.1;have hb22:w.heap.size < w4.heap.size:=by omega
     have z0:=b2.cell 0 rfl;have z1:=b2.cell 1 rfl;have z2:=b2.cell 2 rfl;have zf:=b2.2.2;clear p0 p1 p2;go_wp2_with fail;refine bodyPost_ret (v:=.tuple #[.agg #[.int .i64 0,.int .i64 0,.slice none 0 0],.bool false]) (by simp [results,Tryz.results21,go_sem,z0,z1,z2,zf,hb22,hb23,World.cell?_alloc_lt]) rfl ⟨none,0,rfl,?_,?_⟩
     ·exact ⟨Nat.le_refl _,⟨rfl,.inl ⟨rfl,rfl⟩⟩,fun g hg=>by simp [Value.ownBlock] at hg⟩
     ·repeat (first | exact hm0 | refine Mid.trans ?_ (Mid.alloc _ _) | refine Mid.storeNew ?_ (by simp;try omega) _)
  ·have hjw:jwA r s es wd=none:=by rw [jwA,if_neg fun h=>hwd h.2]
   obtain ⟨rfl,rfl,rfl,rfl⟩:=HR.out.no hjw;have HW:=Lib.hid hwd;clear hwd hjw HR;with_reducible refine (impl_IsWord r Aw wd cw _ _ ((hw.mid hm0 oZl).rs) HOK.out (by omega) false (iff_of_false Bool.false_ne_true HW.out)).mono ?_
   rintro en w3 ⟨rfl,rfl⟩;have z0:=b2.cell 0 rfl;have z1:=b2.cell 1 rfl;have z2:=b2.cell 2 rfl;have zf:=b2.2.2;clear p0 p1 p2;go_wp2_with fail;refine bodyPost_ret (v:=.tuple #[.agg #[.int .i64 0,.int .i64 0,.slice none 0 0],.bool false]) (by simp [results,Tryz.results21,go_sem,z0,z1,z2,zf]) rfl ⟨none,0,rfl,?_,?_⟩
   ·exact ⟨Nat.le_refl _,⟨rfl,.inl ⟨rfl,rfl⟩⟩,fun g hg=>by simp [Value.ownBlock] at hg⟩
   ·repeat (first | exact hm0 | refine Mid.trans ?_ (Mid.alloc _ _) | refine Mid.storeNew ?_ (by simp;try omega) _)
 ·have hjw:jwA r s es wd=none:=by rw [jwA,if_neg fun h=>hc h.1]
  obtain ⟨rfl,rfl,rfl,rfl⟩:=HR.out.no hjw;have HC:=Lib.hid hc;clear hc hjw HR;with_reducible refine (impl_IsCore r s A es c _ _ _ (hr.mid hm0 oZl) hl hcl false (iff_of_false Bool.false_ne_true HC.out)).mono ?_
  rintro en w2 ⟨rfl,hm2⟩;replace b2:=b2.mid hm2 oZr;replace hm0:=hm0.trans hm2;have z0:=b2.cell 0 rfl;have z1:=b2.cell 1 rfl;have z2:=b2.cell 2 rfl;have zf:=b2.2.2;go_wp2_with fail;refine bodyPost_ret (v:=.tuple #[.agg #[.int .i64 0,.int .i64 0,.slice none 0 0],.bool false]) (by simp [results,Tryz.results21,go_sem,z0,z1,z2,zf]) rfl ⟨none,0,rfl,?_,?_⟩
  ·exact ⟨Nat.le_refl _,⟨rfl,.inl ⟨rfl,rfl⟩⟩,fun g hg=>by simp [Value.ownBlock] at hg⟩
  ·repeat (first | exact hm0 | refine Mid.trans ?_ (Mid.alloc _ _) | refine Mid.storeNew ?_ (by simp;try omega) _)
theorem impl_SmallestExtension (r s:Int) (A:Option Addr) (es:List Ed) (c:Nat) (Aw:Option Addr) (wd:List Int) (cw:Nat) (w:World) (lo hi lo' hi':Nat) (hr:RG w lo hi A es) (hw:RV w lo' hi' Aw (ints wd)) (hl:es.length≤1048576) (hcl:es.length≤c) (hwl:wd.length≤1048576) (hok:OkI wd) (rr rs:Int) (res:List Ed) (b:Bool) (hres:JwIs r s es wd rr rs res b) :
  Calls Tryz.prog 25 #[graV r s A es.length c,.slice Aw wd.length cw] w fun e w'=>∃ A1 c1,e=.returned (.tuple #[graV rr rs A1 res.length c1,.int .i64 (seI r s es rr rs res b)])∧OG w' w.heap.size w'.heap.size A1 c1 res∧Mid 0 0 w w':=by
 have hm0:Mid 0 0 w ((w.alloc (.cells #[.int .i64 r,.int .i64 s,.slice A es.length c] 26)).alloc (.cells #[.int .i64 0,.int .i64 0,.slice none 0 0] 26)):=(Mid.alloc _ _).trans (Mid.alloc _ _);have b0:=(Box.new w #[.int .i64 r,.int .i64 s,.slice A es.length c] 26).mid (Mid.alloc _ (.cells #[.int .i64 0,.int .i64 0,.slice none 0 0] 26)) oZr;have b2:=Box.new (w.alloc (.cells #[.int .i64 r,.int .i64 s,.slice A es.length c] 26)) #[.int .i64 0,.int .i64 0,.slice none 0 0] 26;simp only [World.size_alloc] at b2;have hl2:=hres.lens;have hl3:res.length≤1048576:=by omega
 obtain ⟨k1,k2⟩:=rankI_bnd (r:=r) (s:=s) hl;obtain ⟨k5,k6⟩:=rankI_bnd (r:=rr) (s:=rs) hl3;have HR:=Lib.hid hres;have HOK:=Lib.hid hok;have hJ:=fun W hh hh'=>impl_JoinWord r s A es c Aw wd cw W lo hi lo' hi' hh hh' hl hcl hwl HOK.out rr rs res b HR.out;have h1:=fun W hh=>impl_RankOf r s A es c W lo hi hh hl hcl;have h3:=fun A c W lo hi hh hc=>impl_RankOf rr rs A res c W lo hi hh hl3 hc;have hdr:seI r s es rr rs res b=if b=true then rankI rr rs res - rankI r s es else -1:=rfl
 generalize seI r s es rr rs res b=dd at hdr ⊢;generalize rankI r s es=x1 at k1 k2 h1 hdr;generalize rankI rr rs res=x3 at k5 k6 h3 hdr;have HJ:=Lib.hid hJ;have HR1:=Lib.hid h1;have HR3:=Lib.hid h3;have HD:=Lib.hid hdr;clear hJ h1 h3 hdr hok;go_enter Tryz.func25,Tryz.ntmps25
 go_wp2_with fail;generalize ((w.alloc (.cells #[.int .i64 r,.int .i64 s,.slice A es.length c] 26)).alloc (.cells #[.int .i64 0,.int .i64 0,.slice none 0 0] 26))=w1 at hm0 b0 b2 ⊢;have hs1:w.heap.size+1 < w1.heap.size:=b2.1;with_reducible refine (HJ.out w1 (hr.mid hm0 oZl) (hw.mid hm0 oZl)).mono ?_
 rintro en w2 ⟨A2,c2,rfl,ho2,hm2⟩;have hcl2:=ho2.cnt.1;have hs2:=hm2.size;have ha2:=Mid.alloc w2 (.cells #[.int .i64 rr,.int .i64 rs,.slice A2 res.length c2] 26);have Y2:=Box.new w2 #[.int .i64 rr,.int .i64 rs,.slice A2 res.length c2] 26;replace b0:=b0.mid hm2 oZr;replace b2:=b2.mid hm2 oZr;replace hm0:=hm0.trans hm2;have hb23:w.heap.size+1 < w2.heap.size:=b2.1;have hb22:w.heap.size < w2.heap.size:=by omega
 have bz:=b2;have hmz:=hm0;replace b0:=b0.mid ha2 oZr;replace b2:=b2.mid ha2 oZr;replace ho2:=ho2.mid ha2 oZl;replace hm0:=hm0.trans ha2;have hs3:=ha2.size;clear HJ hm2;cases b with
 | false =>
  have hno:rr=0∧rs=0∧res=[]:=by
   rcases hres with ⟨h, -⟩ | ⟨-, -,h⟩
   ·cases h
   ·exact h
  obtain ⟨rfl,rfl,rfl⟩:=hno;have hdd:dd = -1:=by rw [HD.out];rfl
  subst hdd;have z0:=bz.cell 0 rfl;have z1:=bz.cell 1 rfl;have z2:=bz.cell 2 rfl;have zf:=bz.2.2;clear hres HR;go_wp2_with fail;refine bodyPost_ret (v:=.tuple #[.agg #[.int .i64 0,.int .i64 0,.slice none 0 0],.int .i64 (-1)]) (by simp [results,Tryz.results25,go_sem,z0,z1,z2,zf,hb22,hb23,World.cell?_alloc_lt]) rfl ⟨none,0,rfl,?_,?_⟩
  ·exact ⟨Nat.le_refl _,⟨rfl,.inl ⟨rfl,rfl⟩⟩,fun g hg=>by simp [Value.ownBlock] at hg⟩
  ·repeat (first | exact hmz | refine Mid.trans ?_ (Mid.alloc _ _) | refine Mid.storeNew ?_ (by simp;try omega) _)
 | true =>
  have hdd:dd=x3 - x1:=by rw [HD.out];rfl
  subst hdd;have hw2:IntKind.i64.wrap (x3 - x1)=x3 - x1:=IntWalk.i64_in _ (by omega);clear hres HR;go_wp2_with fail;generalize w2.alloc (.cells #[.int .i64 rr,.int .i64 rs,.slice A2 res.length c2] 26)=w3 at hm0 b0 b2 ho2 Y2 hs3 ⊢;have hmd:=Mid.drew1 w3;have hsd:=hmd.size;clear bz hmz;replace b0:=b0.mid hmd oZr;replace b2:=b2.mid hmd oZr;replace Y2:=Y2.mid hmd oZr;replace ho2:=ho2.mid hmd oZl;replace hm0:=hm0.trans hmd;have p0:=b0.cell 0 rfl;have p1:=b0.cell 1 rfl;have p2:=b0.cell 2 rfl;have q0:=Y2.cell 0 rfl;have q1:=Y2.cell 1 rfl;have q2:=Y2.cell 2 rfl;refine wp_region_T (S:=(fun w'=>(w'.cell? ⟨w.heap.size,0,none⟩=some (.int .i64 r)∧w'.cell? ⟨w.heap.size,1,none⟩=some (.int .i64 s)∧w'.cell? ⟨w.heap.size,2,none⟩=some (.slice A es.length c))∧w'.cell? ⟨w2.heap.size,0,none⟩=some (.int .i64 rr)∧w'.cell? ⟨w2.heap.size,1,none⟩=some (.int .i64 rs)∧w'.cell? ⟨w2.heap.size,2,none⟩=some (.slice A2 res.length c2))) 7 (by kernel_rfl) ⟨⟨p0,p1,p2⟩,q0,q1,q2⟩ ?_;generalize World.drew w3=wz at b0 b2 Y2 ho2 hm0 p0 p1 p2 q0 q1 q2 hsd ⊢;have hS:(wz.cell? ⟨w.heap.size,0,none⟩=some (.int .i64 r)∧wz.cell? ⟨w.heap.size,1,none⟩=some (.int .i64 s)∧wz.cell? ⟨w.heap.size,2,none⟩=some (.slice A es.length c))∧wz.cell? ⟨w2.heap.size,0,none⟩=some (.int .i64 rr)∧wz.cell? ⟨w2.heap.size,1,none⟩=some (.int .i64 rs)∧wz.cell? ⟨w2.heap.size,2,none⟩=some (.slice A2 res.length c2):=⟨⟨p0,p1,p2⟩,q0,q1,q2⟩
  refine tkT 0 rfl hS ?_;try simp only [Act.put,zs1,zs2,zs3,zs4,zs5,zs6]
  refine tkT 1 rfl hS ?_;try simp only [Act.put,zs1,zs2,zs3,zs4,zs5,zs6]
  refine tkT 3 rfl hS ?_;try simp only [Act.put,zs1,zs2,zs3,zs4,zs5,zs6]
  refine rdT 2 rfl (fun K hK=>?_)
  (go_simp;refine (HR3.out A2 c2 _ _ _ ho2.rg hcl2).mono ?_;rintro en w4 ⟨rfl,hm4⟩;have b01:=b0.mid hm4 oZr;have Y21:=Y2.mid hm4 oZr;go_wp2_with fail)
  refine hK.out _ _ (Or.inr ⟨⟨b01.cell 0 rfl,b01.cell 1 rfl,b01.cell 2 rfl⟩,Y21.cell 0 rfl,Y21.cell 1 rfl,Y21.cell 2 rfl⟩) (fun _=>?_);clear hK K;try simp only [Act.put,zs1,zs2,zs3,zs4,zs5,zs6]
  replace hm0:=hm0.trans hm4;have b21:=b2.mid hm4 oZr;have ho4:=ho2.mid hm4 oZl;have hs4:=hm4.size;clear hS p0 p1 p2 q0 q1 q2 b0 Y2 b2 ho2 hm4;refine rdT 4 rfl (fun K hK=>?_)
  (go_simp;refine (HR1.out _ (hr.mid hm0 oZl)).mono ?_;rintro en w5 ⟨rfl,hm5⟩;have b02:=b01.mid hm5 oZr;have Y22:=Y21.mid hm5 oZr;go_wp2_with fail)
  refine hK.out _ _ (Or.inr ⟨⟨b02.cell 0 rfl,b02.cell 1 rfl,b02.cell 2 rfl⟩,Y22.cell 0 rfl,Y22.cell 1 rfl,Y22.cell 2 rfl⟩) (fun _=>?_);clear hK K;try simp only [Act.put,zs1,zs2,zs3,zs4,zs5,zs6]
  replace hm0:=hm0.trans hm5;have b22:=b21.mid hm5 oZr;have ho5:=ho4.mid hm5 oZl;have hs5:=hm5.size;have hS5:=And.intro (And.intro (b02.cell 0 rfl) (And.intro (b02.cell 1 rfl) (b02.cell 2 rfl))) (And.intro (Y22.cell 0 rfl) (And.intro (Y22.cell 1 rfl) (Y22.cell 2 rfl)));clear b01 b21 Y21 ho4 hm5;refine tkT 5 rfl hS5 ?_;try simp only [Act.put,zs1,zs2,zs3,zs4,zs5,zs6]
  have z0:=b22.cell 0 rfl;have z1:=b22.cell 1 rfl;have z2:=b22.cell 2 rfl;have zf:=b22.2.2;have hst:=((Mid.setCell w5 (lo:=w.heap.size+1) (hi:=w.heap.size+2) (p:=⟨w.heap.size+1,0,none⟩) (.int .i64 rr) (Nat.le_refl _) (Nat.lt_succ_self _)).trans (Mid.setCell _ (lo:=w.heap.size+1) (hi:=w.heap.size+2) (p:=⟨w.heap.size+1,1,none⟩) (.int .i64 rs) (Nat.le_refl _) (Nat.lt_succ_self _))).trans (Mid.setCell _ (lo:=w.heap.size+1) (hi:=w.heap.size+2) (p:=⟨w.heap.size+1,2,none⟩) (.slice A2 res.length c2) (Nat.le_refl _) (Nat.lt_succ_self _));have b03:=b02.mid hst (Or.inl (by omega));have Y23:=Y22.mid hst (Or.inr (by omega));have hS6:=And.intro (And.intro (b03.cell 0 rfl) (And.intro (b03.cell 1 rfl) (b03.cell 2 rfl))) (And.intro (Y23.cell 0 rfl) (And.intro (Y23.cell 1 rfl) (Y23.cell 2 rfl)));refine rdT 6 rfl (fun K hK=>?_);go_simp;refine hK.out _ _ (Or.inr hS6) (fun _=>?_);clear hK K;try simp only [Act.put,zs1,zs2,zs3,zs4,zs5,zs6]
  refine rdT 7 rfl (fun K hK=>?_);go_simp;refine hK.out _ _ (Or.inl rfl) (fun _=>?_);clear hK K;try simp only [Act.put,zs1,zs2,zs3,zs4,zs5,zs6]
  refine wpAnyT_done (by kernel_rfl) ?_ _;go_wp2_with fail;refine bodyPost_ret (v:=.tuple #[.agg #[.int .i64 rr,.int .i64 rs,.slice A2 res.length c2],.int .i64 (x3 - x1)]) (by simp [results,Tryz.results25,go_sem,z0,z1,z2,zf]) rfl ⟨A2,c2,rfl,?_,?_⟩
  ·refine OG.wide (OG.mid ho5 (a:=w.heap.size+1) (b:=w.heap.size+2) ?_ (Or.inl (by omega))) (by omega) (by simp;omega) (Nat.le_refl _)
   repeat (first | exact Mid.refl _ _ _ | refine Mid.stored ?_ _ (by simp;try omega) (by simp;try omega))
  ·repeat (first | exact hm0 | refine Mid.storeNew ?_ (by simp;try omega) _)
end
section
open Go.RowKit
theorem inB_rank {x:Int} {b:Bool} (hb:b=true↔1≤x∧x≤3):inB x 1 3=b:=by
 cases b with
 | true=>have:=hb.1 rfl;unfold inB;simp;omega
 | false =>
  have h:¬ (1≤x∧x≤3):=fun h=>by have:=hb.2 h;cases this
  unfold inB;simp;omega
end
section
open Go.RowKit
def AreW (rk:Int) (d:List (List Int)):Prop:=1≤rk∧rk≤3∧d.length≤6∧(∀ xs∈d,IsW rk xs)∧sumL d < 40
theorem spec_TotalLength (A:Option Addr) (d:List (List Int)) (c:Nat) (w:World) (lo hi:Nat) (hr:RSS w lo hi A d) (hl:d.length+sumL d≤1048576) :
  Calls Tryz.prog 268 #[.slice A d.length c] w fun e w'=>e=.returned (.int .i64 (sumL d:Nat))∧w=w':=by
 go_enter Tryz.func268,Tryz.ntmps268
 go_wp2_with fail;go_loop [3,4] (fun n i=>∃ k:Nat,k≤d.length∧i=.int .i64 k∧n=.int .i64 (sumL (d.take k):Nat)) (fun _ i=>d.length - (intOf i).toNat)
 case atStart=>exact ⟨0,Nat.zero_le _,rfl,by simp [sumL]⟩
 case round =>
  obtain ⟨k,hk,rfl,rfl⟩:=hrel;have hs:=sumL_take_le d k;by_cases hlt:k < d.length
  ·obtain ⟨b,off,A1,c1,xs,rfl, -, -,hx,hcx, -⟩:=hr.row hlt
   have hst:=sumL_take_succ hx;have hs2:=sumL_take_le d (k+1);have hsum:sumL (d.take k)+xs.length≤1048576:=by omega
   have hlt3:(k:Int) < (d.length:Int):=by omega
   have HST:=Lib.hid hst;clear hst hs2 hx;go_wp2_with fail;go_round
   case rel=>exact ⟨k+1,by omega,by go_num,by rw [HST.out];go_num⟩
   case measure=>simp [intOf];omega
  ·obtain rfl:k=d.length:=by omega
   go_wp2_with fail;go_ret;exact ⟨by first | rfl | rw [List.take_length] | simp,rfl⟩
theorem bool_false {r:Bool} {p:Prop} (h:r=true↔p) (hn:¬ p):r=false:=by
 cases r with
 | false=>rfl
 | true=>exact absurd (h.1 rfl) hn
theorem spec_AreWords (rk:Int) (A:Option Addr) (d:List (List Int)) (c:Nat) (w:World) (lo hi:Nat) (hr:RSS w lo hi A d) (hok:∀ xs∈d,OkI xs) (hl:d.length+sumL d≤1048576) (r:Bool) (hres:r=true↔AreW rk d) :
  Calls Tryz.prog 262 #[.int .i64 rk,.slice A d.length c] w fun e w'=>e=.returned (.bool r)∧∃ n,w'=w.drewN n:=by
 have HOK:=Lib.hid hok;have HR:=Lib.hid hres;clear hok hres;go_enter Tryz.func262,Tryz.ntmps262
 go_wp2_with fail;go_loopw [5] (fun i wr=>∃ k:Nat,k≤d.length∧i=.int .i64 k∧WordsTo rk d k∧∃ n,wr=w.drewN n) (fun i _=>d.length - (intOf i).toNat)
 case atStart=>exact ⟨0,Nat.zero_le _,rfl,WordsTo.zero _ _,0,rfl⟩
 case round =>
  obtain ⟨k,hk,rfl,hw,nd,rfl⟩:=hrel;have HW:=Lib.hid hw;clear hw;by_cases hlt:k < d.length
  ·obtain ⟨b,off,A1,c1,xs,rfl, -, -,hx,hcx,hrx⟩:=hr.row hlt
   have hlx:=row_le (List.mem_of_getElem? hx) hl;have hox:=HOK.out xs (List.mem_of_getElem? hx);have HOX:=Lib.hid hox;have HX:=Lib.hid hx;have hlt3:(k:Int) < (d.length:Int):=by omega
   clear hx hox;obtain ⟨v,hv⟩:=bool_ofR (IsW rk xs);have HV:=Lib.hid hv;clear hv;cases hvc:v with
   | false =>
    subst hvc;go_wp2_with fail;with_reducible refine (spec_IsWord rk A1 xs c1 _ _ (hrx.rs.drewN nd) HOX.out hlx false HV.out).mono ?_
    rintro e w' ⟨rfl,n2,rfl⟩;go_wp2_with fail;go_ret;obtain rfl:r=false:=bool_false HR.out (fun h=>by have:=HV.out.2 (h.2.2.2.1 xs (List.mem_of_getElem? HX.out));cases this);exact ⟨rfl,_,by first | rfl | exact dn _ _ _⟩
   | true =>
    subst hvc;have HV2:=Lib.hid (HV.out.1 rfl);clear HV;go_wp2_with fail;with_reducible refine (spec_IsWord rk A1 xs c1 _ _ (hrx.rs.drewN nd) HOX.out hlx true (iff_of_true rfl HV2.out)).mono ?_
    rintro e w' ⟨rfl,n2,rfl⟩;go_wp2_with fail;go_roundw
    case rel=>exact ⟨k+1,by omega,by go_num,HW.out.succ HX.out HV2.out,_,by first | rfl | exact dn _ _ _⟩
    case measure=>simp [intOf];omega
  ·obtain rfl:k=d.length:=by omega
   by_cases hb:inB rk 1 3=false
   ·obtain rfl:r=false:=bool_false HR.out (fun h=>by simp [inB] at hb;have:=h.1;have:=h.2.1;omega)
    have HB:=Lib.hid hb;clear hb;go_wp2_with fail;with_reducible refine (l1In_any _ _ _ _).mono ?_
    rintro e w' ⟨rfl,rfl⟩;rw [HB.out];go_wp2_with fail;go_ret;exact ⟨rfl,_,rfl⟩
   ·have hb':inB rk 1 3=true:=by simpa using hb
    have HB:=Lib.hid hb';have hrk:1≤rk∧rk≤3:=by simpa [inB] using hb'
    clear hb hb';by_cases h6:6 < d.length
    ·obtain rfl:r=false:=bool_false HR.out (fun h=>by have:=h.2.2.1;omega)
     have h63:¬ (d.length:Int)≤6:=by omega
     go_wp2_with fail;with_reducible refine (l1In_any _ _ _ _).mono ?_
     rintro e w' ⟨rfl,rfl⟩;rw [HB.out];go_wp2_with fail;go_ret;exact ⟨by first | rfl | (simp;omega),_,rfl⟩
    ·have h63:(d.length:Int)≤6:=by omega
     by_cases h40:sumL d < 40
     ·obtain rfl:r=true:=HR.out.2 ⟨hrk.1,hrk.2,by omega,wordsTo_all.1 HW.out,h40⟩
      have h403:(sumL d:Int) < 40:=by omega
      go_wp2_with fail;with_reducible refine (l1In_any _ _ _ _).mono ?_
      rintro e w' ⟨rfl,rfl⟩;rw [HB.out];go_wp2_with fail;with_reducible refine (spec_TotalLength A d c (w.drewN nd) _ _ (hr.mid ((Mid.refl 0 0 w).drewN nd) oZl) hl).mono ?_
      rintro e w' ⟨rfl,rfl⟩;go_wp2_with fail;go_ret;exact ⟨by simp [h403],_,rfl⟩
     ·obtain rfl:r=false:=bool_false HR.out (fun h=>h40 h.2.2.2.2)
      have h403:¬ (sumL d:Int) < 40:=by omega
      go_wp2_with fail;with_reducible refine (l1In_any _ _ _ _).mono ?_
      rintro e w' ⟨rfl,rfl⟩;rw [HB.out];go_wp2_with fail;with_reducible refine (spec_TotalLength A d c (w.drewN nd) _ _ (hr.mid ((Mid.refl 0 0 w).drewN nd) oZl) hl).mono ?_
      rintro e w' ⟨rfl,rfl⟩;go_wp2_with fail;go_ret;exact ⟨by simp;omega,_,rfl⟩
end
section
open Go.RowKit
theorem empty_gr {r:Int} (h:1≤r∧r≤3):IsGr r 1 []:=⟨h,by omega,by simp,by simp,List.Pairwise.nil⟩
structure FlOk (r:Int) (l:List (List Int)) (k:Nat) (g:Int × List Ed):Prop where
 gr:IsGr r g.1 g.2
 sz:g.1≤1+(sumL (l.take k):Nat)
 ln:g.2.length≤sumL (l.take k)
theorem FlOk.path {r:Int} {l:List (List Int)} {k:Nat} {g:Int × List Ed} {w:List Int} (ha:AreW r l) (h:FlOk r l k g) (hw:l[k]?=some w) (hn:w≠[]):PathOk r g.1 g.2 0 w 0:=by
 have h1:=sumL_take_succ hw;have h2:=sumL_take_le l (k+1);have h3:=ha.2.2.2.2;have h4:=h.sz;have h5:=h.ln;have h6:=h.gr.size;exact ⟨h.gr,by omega,by omega,ha.2.2.2.1 w (List.mem_of_getElem? hw),hn,by omega,by omega⟩
theorem FlOk.step {r:Int} {l:List (List Int)} {k:Nat} {g:Int × List Ed} {w:List Int} (ha:AreW r l) (h:FlOk r l k g) (hw:l[k]?=some w):FlOk r l (k+1) (petalA g w):=by
 have h1:=sumL_take_succ hw;by_cases hn:w=[]
 ·subst hn
  have h4:=h.sz;have h5:=h.ln;simp only [List.length_nil] at h1;rw [petalA,if_pos rfl];exact ⟨h.gr,by omega,by omega⟩
 ·have hp:=h.path ha hw hn
  have h4:=h.sz;have h5:=h.ln;have h6:=canon_len (g.2++pathE 0 g.1 w 0 w.length);have h7:0 < w.length:=List.length_pos_iff.2 hn;rw [List.length_append,pathE_len] at h6;rw [petalA,if_neg hn];exact ⟨path_gr hp,by simp only;omega,by simp only;omega⟩
theorem FlOk.zero {r:Int} (l:List (List Int)) (h:1≤r∧r≤3):FlOk r l 0 (1,[]):=⟨empty_gr h,by simp [sumL],by simp⟩
theorem fl_ok {r:Int} {l:List (List Int)} (ha:AreW r l):∀ k,k≤l.length→FlOk r l k (flowA (l.take k) (1,[]))
 | 0,_=>FlOk.zero l ⟨ha.1,ha.2.1⟩
 | k+1,hk=>by
  have hw:=List.getElem?_eq_getElem (l:=l) (i:=k) (by omega);rw [flowA_take hw];exact (fl_ok ha k (by omega)).step ha hw
def FlIs (rank:Int) (l:List (List Int)) (rr rs:Int) (res:List Ed) (b:Bool):Prop :=
 (b=true∧AreW rank l∧rr=rank∧rs=(flowA l (1,[])).1∧res=(flowA l (1,[])).2) ∨ (b=false∧¬ AreW rank l∧rr=0∧rs=0∧res=[])
def SubIs (rank:Int) (l:List (List Int)) (rr rs:Int) (res:List Ed) (b:Bool):Prop :=
 (b=true∧AreW rank l∧rr=rank∧rs=(coreA rank (flowA l (1,[]))).1∧res=(coreA rank (flowA l (1,[]))).2) ∨ (b=false∧¬ AreW rank l∧rr=0∧rs=0∧res=[])
theorem SubIs_ex (rank:Int) (l:List (List Int)):∃ rr rs res b,SubIs rank l rr rs res b:=by
 by_cases h:AreW rank l
 ·exact ⟨_,_,_,_,.inl ⟨rfl,h,rfl,rfl,rfl⟩⟩
 ·exact ⟨_,_,_,_,.inr ⟨rfl,h,rfl,rfl,rfl⟩⟩
theorem flow_gr {r:Int} {l:List (List Int)} (ha:AreW r l):IsGr r (flowA l (1,[])).1 (flowA l (1,[])).2:=by
 have:=(fl_ok ha l.length (Nat.le_refl _)).gr;rw [List.take_length] at this;exact this
theorem spec_NewGraph (rank:Int) (w:World) (h:1≤rank∧rank≤3) :
  Calls Tryz.prog 224 #[.int .i64 rank] w fun e w'=>e=.returned (.tuple #[graV rank 1 none 0 0,.bool true])∧Mid 0 0 w w':=by
 have hm0:Mid 0 0 w (w.alloc (.cells #[.int .i64 0,.int .i64 0,.slice none 0 0] 26)):=Mid.alloc _ _;have b2:=Box.new w #[.int .i64 0,.int .i64 0,.slice none 0 0] 26;have hi1:inB rank 1 3=true:=inB_rank (iff_of_true rfl h);go_enter Tryz.func224,Tryz.ntmps224
 go_wp2_with fail;generalize w.alloc (.cells #[.int .i64 0,.int .i64 0,.slice none 0 0] 26)=w1 at hm0 b2 ⊢;have hs1:w.heap.size < w1.heap.size:=b2.1;with_reducible refine (l1In_at hi1 _).mono ?_
 rintro en w2 ⟨rfl,rfl⟩;have z0:=b2.cell 0 rfl;have z1:=b2.cell 1 rfl;have z2:=b2.cell 2 rfl;have zf:=b2.2.2;go_wp2_with fail;refine bodyPost_ret (v:=.tuple #[.agg #[.int .i64 rank,.int .i64 1,.slice none 0 0],.bool true]) (by simp [results,Tryz.results224,go_sem,z0,z1,z2,zf]) rfl ⟨rfl,?_⟩;repeat (first | exact hm0 | refine Mid.storeNew ?_ (by simp;try omega) _)
theorem spec_FlowerOf (rank:Int) (A:Option Addr) (l:List (List Int)) (c:Nat) (w:World) (lo hi:Nat) (hr:RSS w lo hi A l) (hok:∀ xs∈l,OkI xs) (hl:l.length+sumL l≤1048576) (rr rs:Int) (res:List Ed) (b:Bool) (hres:FlIs rank l rr rs res b) :
  Calls Tryz.prog 243 #[.int .i64 rank,.slice A l.length c] w fun e w'=>∃ A1 c1,e=.returned (.tuple #[graV rr rs A1 res.length c1,.bool b])∧OG w' w.heap.size w'.heap.size A1 c1 res∧Mid 0 0 w w':=by
 have HR:=Lib.hid hres;have HOK:=Lib.hid hok;clear hres hok;obtain ⟨b1,hb1⟩:=bool_of (AreW rank l);have H1:=Lib.hid hb1;clear hb1;have hm0:Mid 0 0 w (w.alloc (.cells #[.int .i64 0,.int .i64 0,.slice none 0 0] 26)):=Mid.alloc _ _;have b2:=Box.new w #[.int .i64 0,.int .i64 0,.slice none 0 0] 26;go_enter Tryz.func243,Tryz.ntmps243
 go_wp2_with fail;generalize w.alloc (.cells #[.int .i64 0,.int .i64 0,.slice none 0 0] 26)=w1 at hm0 b2 ⊢;have hs1:w.heap.size < w1.heap.size:=b2.1;with_reducible refine (spec_AreWords rank A l c w1 _ _ (hr.mid hm0 oZl) HOK.out hl b1 H1.out).mono ?_
 rintro en w2 ⟨rfl,nd,hw2⟩;have hm2:Mid 0 0 w1 w2:=by rw [hw2];exact (Mid.refl 0 0 w1).drewN nd
 replace b2:=b2.mid hm2 oZr;replace hm0:=hm0.trans hm2;clear hw2 hm2;cases b1 with
 | false =>
  have hno:¬ AreW rank l:=fun h=>by have:=H1.out.2 h;cases this
  obtain ⟨rfl,rfl,rfl,rfl⟩:b=false∧rr=0∧rs=0∧res=[]:=by
   rcases HR.out with ⟨-,h, -⟩ | ⟨h1, -,h2⟩
   ·exact absurd h hno
   ·exact ⟨h1,h2⟩
  have z0:=b2.cell 0 rfl;have z1:=b2.cell 1 rfl;have z2:=b2.cell 2 rfl;have zf:=b2.2.2;clear hno HR;go_wp2_with fail;refine bodyPost_ret (v:=.tuple #[.agg #[.int .i64 0,.int .i64 0,.slice none 0 0],.bool false]) (by simp [results,Tryz.results243,go_sem,z0,z1,z2,zf]) rfl ⟨none,0,rfl,?_,?_⟩
  ·exact ⟨Nat.le_refl _,⟨rfl,.inl ⟨rfl,rfl⟩⟩,fun g hg=>by simp [Value.ownBlock] at hg⟩
  ·repeat (first | exact hm0 | refine Mid.trans ?_ (Mid.alloc _ _) | refine Mid.storeNew ?_ (by simp;try omega) _)
 | true =>
 have hare:=H1.out.1 rfl;have HA:=Lib.hid hare;have hrk:1≤rank∧rank≤3:=⟨hare.1,hare.2.1⟩
 obtain ⟨rfl,rfl,hrs,hre⟩:b=true∧rr=rank∧rs=(flowA l (1,[])).1∧res=(flowA l (1,[])).2:=by
  rcases HR.out with ⟨h1, -,h2⟩ | ⟨-,h, -⟩
  ·exact ⟨h1,h2⟩
  ·exact absurd hare h
 have HRS:=Lib.hid hrs;have HRE:=Lib.hid hre;clear hare H1 HR hrs hre;go_wp2_with fail;with_reducible refine (spec_NewGraph rr _ hrk).mono ?_
 rintro en w4 ⟨rfl,hm4⟩;have hs4:=hm4.size;have ha4:=Mid.alloc w4 (.cells #[.int .i64 rr,.int .i64 1,.slice none 0 0] 26);have Y4:=Box.new w4 #[.int .i64 rr,.int .i64 1,.slice none 0 0] 26;replace b2:=b2.mid hm4 oZr;replace hm0:=hm0.trans hm4;have hb4:=b2.1;replace b2:=b2.mid ha4 oZr;replace hm0:=hm0.trans ha4;go_wp2_with fail;generalize w4.alloc (.cells #[.int .i64 rr,.int .i64 1,.slice none 0 0] 26)=w5 at b2 Y4 hm0 ⊢;have hs5:w4.heap.size < w5.heap.size:=Y4.1;clear ha4 hm4;generalize hG:w4.heap.size=Gb at Y4 hb4 hs5;clear hG hs4;have hhi:=hr.size;go_loopw [8] (fun i wr=>∃ (k:Nat) (A2:Option Addr) (c2 hi2:Nat) (g:Int × List Ed),k≤l.length∧i=.int .i64 k∧Hid (g=flowA (l.take k) (1,[]))∧Hid (FlOk rr l k g)∧OG wr (Gb+1) hi2 A2 c2 g.2 ∧
   Box wr w.heap.size [.int .i64 0,.int .i64 0,.slice none 0 0]∧Box wr Gb [.int .i64 rr,.int .i64 g.1,.slice A2 g.2.length c2]∧Mid 0 0 w wr) (fun i _=>l.length - (intOf i).toNat)
 case atStart=>exact ⟨0,none,0,_,(1,[]),Nat.zero_le _,rfl,Lib.hid rfl,Lib.hid (FlOk.zero l hrk),OG.nil,b2,Y4,hm0⟩
 case round =>
  clear b2 Y4 hm0 hs5;obtain ⟨wo,hwo⟩:∃ wo,wo=wr:=⟨_,rfl⟩
  subst hwo;obtain ⟨k,A2,c2,hi2,⟨gs,ge⟩,hk,rfl,HGE,HFL,hown,Z2,Z3,hm⟩:=hrel;dsimp only at hown Z3;have hGo:Gb < wo.heap.size:=Z3.1;have hgl:=HFL.out.gr.len;dsimp only at hgl;by_cases hlt:k < l.length
  ·obtain ⟨Bp,op,Ap,cp,p,rfl, -,hBp,hp,hcp,hrp⟩:=(hr.mid hm oZl).row hlt
   have hpl:p.length≤1048576:=by have:=len_le_sumL (List.mem_of_getElem? hp);omega
   have hk1:(k:Int) < (l.length:Int):=by omega
   have hk0:(0:Int)≤(k:Int):=by omega
   have hBps:Bp < wo.heap.size:=by omega
   have HP:=Lib.hid hp;have hft:=flowA_take hp (1,[]);rw [← HGE.out] at hft;have HFT:=Lib.hid hft;have HST:=Lib.hid (HFL.out.step HA.out hp);clear hp hft;obtain ⟨bb,hPI⟩:∃ bb,PathIs rr gs ge 0 p 0 (petalA (gs,ge) p).1 (petalA (gs,ge) p).2 bb:=by
    by_cases hne:p=[]
    ·subst hne
     rw [petalA,if_pos rfl];exact ⟨false,.inr ⟨rfl,fun h=>h.ne rfl,rfl,rfl⟩⟩
    ·rw [petalA,if_neg hne]
     exact ⟨true,.inl ⟨rfl,HFL.out.path HA.out HP.out hne,rfl,rfl⟩⟩
   obtain ⟨g',hg'⟩:∃ g',petalA (gs,ge) p=g':=⟨_,rfl⟩
   rw [hg'] at hPI;have HG2:Hid (g'=flowA (l.take (k+1)) (1,[])):=Lib.hid (by rw [HFT.out,← hg']);have HF2:Hid (FlOk rr l (k+1) g'):=Lib.hid (by rw [← hg'];exact HST.out);have hP:=fun W (h1:RG W (Gb+1) hi2 A2 ge) (h2:RV W lo hi Ap (ints p))=>spec_AddPetal rr gs A2 ge c2 Ap p cp W _ _ _ _ h1 h2 (by omega) hpl (HOK.out p (List.mem_of_getElem? HP.out)) g'.1 g'.2 bb hPI;have HPP:=Lib.hid hP;clear hg' HST HFT hPI hP;go_wp2_with fail;have hmd:=Mid.drew1 wo;have hsd:=hmd.size;replace Z2:=Z2.mid hmd oZr;replace Z3:=Z3.mid hmd oZr;replace hown:=hown.mid hmd oZl;replace hm:=hm.trans hmd;replace hrp:=hrp.mid hmd oZl;replace hcp:=cell_keep hmd hBps oZr hcp;have q0:=Z3.cell 0 rfl;have q1:=Z3.cell 1 rfl;have q2:=Z3.cell 2 rfl;clear hmd;refine wp_region_Z (S:=(fun w'=>(w'.cell? ⟨Gb,0,none⟩=some (.int .i64 rr)∧w'.cell? ⟨Gb,1,none⟩=some (.int .i64 gs)∧w'.cell? ⟨Gb,2,none⟩=some (.slice A2 ge.length c2))∧w'.cell? ⟨Bp,op+k,none⟩=some (.slice Ap p.length cp))) [] (by kernel_rfl) ⟨⟨q0,q1,q2⟩,hcp⟩ ?_;generalize World.drew wo=wz at Z2 Z3 hown hm hrp hcp q0 q1 q2 hsd ⊢;have hS:(wz.cell? ⟨Gb,0,none⟩=some (.int .i64 rr)∧wz.cell? ⟨Gb,1,none⟩=some (.int .i64 gs)∧wz.cell? ⟨Gb,2,none⟩=some (.slice A2 ge.length c2))∧wz.cell? ⟨Bp,op+k,none⟩=some (.slice Ap p.length cp):=⟨⟨q0,q1,q2⟩,hcp⟩
   have hBz:Bp < wz.heap.size:=by omega
   refine tkZ [] 0 rfl hS ?_;try simp only [Act.put,zs1,zs2,zs3,zs4,zs5,zs6]
   refine tkZ [] 1 rfl hS ?_;try simp only [Act.put,zs1,zs2,zs3,zs4,zs5,zs6]
   refine tkZ [] 2 rfl hS ?_;try simp only [Act.put,zs1,zs2,zs3,zs4,zs5,zs6]
   refine tkZ [] 3 rfl hS ?_;try simp only [Act.put,zs1,zs2,zs3,zs4,zs5,zs6]
   refine tkZ [] 4 rfl hS ?_;try simp only [Act.put,zs1,zs2,zs3,zs4,zs5,zs6]
   refine wpAnyZ_ready (rs:=[5,9]) (by kernel_rfl) (by simp) (AllReadyZ.cons rfl (fun K hK=>?_) (AllReadyZ.cons rfl (fun K hK=>?_) AllReadyZ.nil))
   ·(go_simp;(with_reducible refine (HPP.out _ hown.rg hrp).mono ?_);rintro en w10 ⟨A6,c6,rfl,ho6,hm10⟩;have Z30:=Z3.mid hm10 oZr;have hcp0:=cell_keep hm10 hBz oZr hcp;go_wp2_with fail)
    refine hK.out _ _ (Or.inr ⟨⟨Z30.cell 0 rfl,Z30.cell 1 rfl,Z30.cell 2 rfl⟩,hcp0⟩) (fun _=>?_);clear hK K;try simp only [Act.put,zs1,zs2,zs3,zs4,zs5,zs6]
    replace Z2:=Z2.mid hm10 oZr;replace hm:=hm.trans hm10;have hs10:=hm10.size;have hS10:=And.intro (And.intro (Z30.cell 0 rfl) (And.intro (Z30.cell 1 rfl) (Z30.cell 2 rfl))) hcp0;clear Z3 hS q0 q1 q2 hown HPP;refine tkZ [] 6 rfl hS10 ?_;try simp only [Act.put,zs1,zs2,zs3,zs4,zs5,zs6]
    refine tkZ [] 7 rfl hS10 ?_;try simp only [Act.put,zs1,zs2,zs3,zs4,zs5,zs6]
    refine tkZ [] 8 rfl hS10 ?_;try simp only [Act.put,zs1,zs2,zs3,zs4,zs5,zs6]
    have hal:=Mid.alloc w10 (.cells #[.int .i64 0,.int .i64 0,.slice none 0 0] 26);have Z31:=Z30.mid hal oZr;have hcp1:=cell_keep hal (by omega) oZr hcp0;refine rdZ 9 rfl (fun K hK=>?_);go_simp;refine hK.out _ _ (Or.inr ⟨⟨Z31.cell 0 rfl,Z31.cell 1 rfl,Z31.cell 2 rfl⟩,hcp1⟩) (fun _=>?_);clear hK K;try simp only [Act.put,zs1,zs2,zs3,zs4,zs5,zs6]
    clear hal Z31 hcp1;have hal:=Mid.alloc w10 (.cells #[.int .i64 rr,.int .i64 g'.1,.slice A6 g'.2.length c6] 26);have Z31:=Z30.mid hal oZr;have hcp1:=cell_keep hal (by omega) oZr hcp0;refine rdZ 10 rfl (fun K hK=>?_);go_simp;refine hK.out _ _ (Or.inr ⟨⟨Z31.cell 0 rfl,Z31.cell 1 rfl,Z31.cell 2 rfl⟩,hcp1⟩) (fun _=>?_);clear hK K;try simp only [Act.put,zs1,zs2,zs3,zs4,zs5,zs6]
    refine rdZ 11 rfl (fun K hK=>?_);go_simp;refine hK.out _ _ (Or.inr ⟨⟨Z31.cell 0 rfl,Z31.cell 1 rfl,Z31.cell 2 rfl⟩,hcp1⟩) (fun _=>?_);clear hK K;try simp only [Act.put,zs1,zs2,zs3,zs4,zs5,zs6]
    refine wpAnyZ_done (by kernel_rfl) ?_ _;have Zx:=Box.new w10 #[.int .i64 rr,.int .i64 g'.1,.slice A6 g'.2.length c6] 26;replace ho6:=ho6.mid hal oZl;replace Z2:=Z2.mid hal oZr;replace hm:=hm.trans hal;have hgz:Gb+1≤w10.heap.size:=by omega
    have Z3:=Z31;clear Z30 Z31 hS10 hal hcp0 hcp1 hm10;generalize w10.alloc (.cells #[.int .i64 rr,.int .i64 g'.1,.slice A6 g'.2.length c6] 26)=w11 at Z2 Z3 Zx ho6 hm ⊢;generalize w10.heap.size=Gz at Zx hgz ho6 ⊢;have hst:=((Mid.setCell w11 (lo:=Gb) (hi:=Gb+1) (p:=⟨Gb,0,none⟩) (.int .i64 rr) (Nat.le_refl _) (Nat.lt_succ_self _)).trans (Mid.setCell _ (lo:=Gb) (hi:=Gb+1) (p:=⟨Gb,1,none⟩) (.int .i64 g'.1) (Nat.le_refl _) (Nat.lt_succ_self _))).trans (Mid.setCell _ (lo:=Gb) (hi:=Gb+1) (p:=⟨Gb,2,none⟩) (.slice A6 g'.2.length c6) (Nat.le_refl _) (Nat.lt_succ_self _));have Y7:=((Z3.set 0 (.int .i64 rr) (by simp) rfl).set 1 (.int .i64 g'.1) (by simp) rfl).set 2 (.slice A6 g'.2.length c6) (by simp) rfl;simp only [List.set_cons_succ,List.set_cons_zero] at Y7;have x0:=Zx.cell 0 rfl;have x1:=Zx.cell 1 rfl;have x2:=Zx.cell 2 rfl;have q0:=Z3.cell 0 rfl;have q1:=Z3.cell 1 rfl;have q2:=Z3.cell 2 rfl;have qf:=Z3.2.2;go_wp2_with fail;go_roundw
    case rel=>exact ⟨k+1,A6,c6,_,g',hlt,by go_num,HG2,HF2,(ho6.wide (lo':=Gb+1) (by omega) (Nat.le_refl _) ho6.size).mid hst (Or.inl (Nat.le_refl _)),Z2.mid hst (Or.inl (by omega)),Y7,((hm.storeNew (p:=⟨Gb,0,none⟩) (by show w.heap.size≤Gb;omega) (.int .i64 rr)).storeNew (p:=⟨Gb,1,none⟩) (by show w.heap.size≤Gb;omega) (.int .i64 g'.1)).storeNew (p:=⟨Gb,2,none⟩) (by show w.heap.size≤Gb;omega) (.slice A6 g'.2.length c6)⟩
    case measure=>simp [intOf];omega
   ·have hal:=Mid.alloc wz (.cells #[.int .i64 0,.int .i64 0,.slice none 0 0] 26)
    have Z31:=Z3.mid hal oZr;have hcp1:=cell_keep hal hBz oZr hcp;have Zx:=Box.new wz #[.int .i64 0,.int .i64 0,.slice none 0 0] 26;have hown1:=hown.mid hal oZl;have hrp1:=hrp.mid hal oZl;have hsl:=hal.size;go_simp;refine hK.out _ _ (Or.inr ⟨⟨Z31.cell 0 rfl,Z31.cell 1 rfl,Z31.cell 2 rfl⟩,hcp1⟩) (fun _=>?_);clear hK K;try simp only [Act.put,zs1,zs2,zs3,zs4,zs5,zs6]
    replace Z2:=Z2.mid hal oZr;replace hm:=hm.trans hal;clear Z3 hS q0 q1 q2 hown hrp hcp hal;have hzb:wz.heap.size < (wz.alloc (.cells #[.int .i64 0,.int .i64 0,.slice none 0 0] 26)).heap.size:=Zx.1;generalize wz.alloc (.cells #[.int .i64 0,.int .i64 0,.slice none 0 0] 26)=wy at Z31 Zx hown1 hrp1 hcp1 Z2 hm hsl hzb ⊢;have hBy:Bp < wy.heap.size:=by omega
    refine rdZ 5 rfl (fun K hK=>?_)
    (go_simp;(with_reducible refine (HPP.out _ hown1.rg hrp1).mono ?_);rintro en w10 ⟨A6,c6,rfl,ho6,hm10⟩;have Z30:=Z31.mid hm10 oZr;have hcp0:=cell_keep hm10 hBy oZr hcp1;go_wp2_with fail)
    refine hK.out _ _ (Or.inr ⟨⟨Z30.cell 0 rfl,Z30.cell 1 rfl,Z30.cell 2 rfl⟩,hcp0⟩) (fun _=>?_);clear hK K;try simp only [Act.put,zs1,zs2,zs3,zs4,zs5,zs6]
    replace Z2:=Z2.mid hm10 oZr;replace Zx:=Zx.mid hm10 oZr;replace hm:=hm.trans hm10;have hs10:=hm10.size;have hS10:=And.intro (And.intro (Z30.cell 0 rfl) (And.intro (Z30.cell 1 rfl) (Z30.cell 2 rfl))) hcp0;clear Z31 hown1 HPP hrp1 hcp1;refine tkZ [] 6 rfl hS10 ?_;try simp only [Act.put,zs1,zs2,zs3,zs4,zs5,zs6]
    refine tkZ [] 7 rfl hS10 ?_;try simp only [Act.put,zs1,zs2,zs3,zs4,zs5,zs6]
    refine tkZ [] 8 rfl hS10 ?_;try simp only [Act.put,zs1,zs2,zs3,zs4,zs5,zs6]
    have zzf:=Zx.2.2;have zz0:=Zx.cell 0 rfl;have zz1:=Zx.cell 1 rfl;have zz2:=Zx.cell 2 rfl;have hst:=((Mid.setCell w10 (lo:=wz.heap.size) (hi:=wz.heap.size+1) (p:=⟨wz.heap.size,0,none⟩) (.int .i64 rr) (Nat.le_refl _) (Nat.lt_succ_self _)).trans (Mid.setCell _ (lo:=wz.heap.size) (hi:=wz.heap.size+1) (p:=⟨wz.heap.size,1,none⟩) (.int .i64 g'.1) (Nat.le_refl _) (Nat.lt_succ_self _))).trans (Mid.setCell _ (lo:=wz.heap.size) (hi:=wz.heap.size+1) (p:=⟨wz.heap.size,2,none⟩) (.slice A6 g'.2.length c6) (Nat.le_refl _) (Nat.lt_succ_self _));have Z32:=Z30.mid hst (Or.inl (by omega));have hcp2:=cell_keep hst (by omega) (Or.inl hBz) hcp0;refine rdZ 10 rfl (fun K hK=>?_);go_simp;refine hK.out _ _ (Or.inr ⟨⟨Z32.cell 0 rfl,Z32.cell 1 rfl,Z32.cell 2 rfl⟩,hcp2⟩) (fun _=>?_);clear hK K;try simp only [Act.put,zs1,zs2,zs3,zs4,zs5,zs6]
    refine rdZ 11 rfl (fun K hK=>?_);go_simp;refine hK.out _ _ (Or.inr ⟨⟨Z32.cell 0 rfl,Z32.cell 1 rfl,Z32.cell 2 rfl⟩,hcp2⟩) (fun _=>?_);clear hK K;try simp only [Act.put,zs1,zs2,zs3,zs4,zs5,zs6]
    refine wpAnyZ_done (by kernel_rfl) ?_ _;replace ho6:=ho6.mid hst (Or.inl (by omega));replace Z2:=Z2.mid hst (Or.inl (by omega));replace Zx:=((Zx.set 0 (.int .i64 rr) (by simp) rfl).set 1 (.int .i64 g'.1) (by simp) rfl).set 2 (.slice A6 g'.2.length c6) (by simp) rfl;simp only [List.set_cons_succ,List.set_cons_zero] at Zx;replace hm:=((hm.storeNew (p:=⟨wz.heap.size,0,none⟩) (by show w.heap.size≤wz.heap.size;omega) (.int .i64 rr)).storeNew (p:=⟨wz.heap.size,1,none⟩) (by show w.heap.size≤wz.heap.size;omega) (.int .i64 g'.1)).storeNew (p:=⟨wz.heap.size,2,none⟩) (by show w.heap.size≤wz.heap.size;omega) (.slice A6 g'.2.length c6);have hgz:Gb+1≤wz.heap.size:=by omega
    have Z3:=Z32;clear Z30 Z32 hS10 hst hcp0 hcp2 hm10 zz0 zz1 zz2 zzf;generalize ((w10.setCell ⟨wz.heap.size,0,none⟩ (.int .i64 rr)).setCell ⟨wz.heap.size,1,none⟩ (.int .i64 g'.1)).setCell ⟨wz.heap.size,2,none⟩ (.slice A6 g'.2.length c6)=w11 at Z2 Z3 Zx ho6 hm ⊢;generalize wz.heap.size=Gz at Zx hgz hzb ⊢;have hst:=((Mid.setCell w11 (lo:=Gb) (hi:=Gb+1) (p:=⟨Gb,0,none⟩) (.int .i64 rr) (Nat.le_refl _) (Nat.lt_succ_self _)).trans (Mid.setCell _ (lo:=Gb) (hi:=Gb+1) (p:=⟨Gb,1,none⟩) (.int .i64 g'.1) (Nat.le_refl _) (Nat.lt_succ_self _))).trans (Mid.setCell _ (lo:=Gb) (hi:=Gb+1) (p:=⟨Gb,2,none⟩) (.slice A6 g'.2.length c6) (Nat.le_refl _) (Nat.lt_succ_self _));have Y7:=((Z3.set 0 (.int .i64 rr) (by simp) rfl).set 1 (.int .i64 g'.1) (by simp) rfl).set 2 (.slice A6 g'.2.length c6) (by simp) rfl;simp only [List.set_cons_succ,List.set_cons_zero] at Y7;have x0:=Zx.cell 0 rfl;have x1:=Zx.cell 1 rfl;have x2:=Zx.cell 2 rfl;have q0:=Z3.cell 0 rfl;have q1:=Z3.cell 1 rfl;have q2:=Z3.cell 2 rfl;have qf:=Z3.2.2;go_wp2_with fail;go_roundw
    case rel=>exact ⟨k+1,A6,c6,_,g',hlt,by go_num,HG2,HF2,(ho6.wide (lo':=Gb+1) (by omega) (Nat.le_refl _) ho6.size).mid hst (Or.inl (Nat.le_refl _)),Z2.mid hst (Or.inl (by omega)),Y7,((hm.storeNew (p:=⟨Gb,0,none⟩) (by show w.heap.size≤Gb;omega) (.int .i64 rr)).storeNew (p:=⟨Gb,1,none⟩) (by show w.heap.size≤Gb;omega) (.int .i64 g'.1)).storeNew (p:=⟨Gb,2,none⟩) (by show w.heap.size≤Gb;omega) (.slice A6 g'.2.length c6)⟩
    case measure=>simp [intOf];omega
  ·obtain rfl:k=l.length:=by omega
   rw [List.take_length] at HGE;have hrs2:rs=gs:=by rw [HRS.out,← HGE.out]
   have hre2:res=ge:=by rw [HRE.out,← HGE.out]
   clear HRS HRE HGE HFL;subst hrs2;subst res;have z0:=Z2.cell 0 rfl;have z1:=Z2.cell 1 rfl;have z2:=Z2.cell 2 rfl;have q0:=Z3.cell 0 rfl;have q1:=Z3.cell 1 rfl;have q2:=Z3.cell 2 rfl;have zf:=Z2.2.2;have hcl:(w.heap.size == Gb)=false:=by simp;omega
   go_wp2_with fail;refine bodyPost_ret (v:=.tuple #[.agg #[.int .i64 rr,.int .i64 rs,.slice A2 ge.length c2],.bool true]) (by simp [results,Tryz.results243,go_sem,z0,z1,z2,zf,q0,q1,q2]) rfl ⟨A2,c2,rfl,?_,?_⟩
   ·refine OG.wide (OG.mid hown (a:=w.heap.size) (b:=w.heap.size+1) ?_ (Or.inl (by omega))) (by omega) (by have:=hown.size;simp;omega) (Nat.le_refl _)
    repeat (first | exact Mid.refl _ _ _ | refine Mid.stored ?_ _ (by simp;try omega) (by simp;try omega))
   ·repeat (first | exact hm | refine Mid.storeNew ?_ (by simp;try omega) _)
theorem spec_SubgroupOf (rank:Int) (A:Option Addr) (l:List (List Int)) (c:Nat) (w:World) (lo hi:Nat) (hr:RSS w lo hi A l) (hok:∀ xs∈l,OkI xs) (hl:l.length+sumL l≤1048576) (rr rs:Int) (res:List Ed) (b:Bool) (hres:SubIs rank l rr rs res b) :
  Calls Tryz.prog 226 #[.int .i64 rank,.slice A l.length c] w fun e w'=>∃ A1 c1,e=.returned (.tuple #[graV rr rs A1 res.length c1,.bool b])∧OG w' w.heap.size w'.heap.size A1 c1 res∧Mid 0 0 w w':=by
 have HOK:=Lib.hid hok;clear hok;have hm0:Mid 0 0 w (w.alloc (.cells #[.int .i64 0,.int .i64 0,.slice none 0 0] 26)):=Mid.alloc _ _;have b2:=Box.new w #[.int .i64 0,.int .i64 0,.slice none 0 0] 26;by_cases ha:AreW rank l
 ·obtain ⟨rfl,rfl,hrs,hre⟩:b=true∧rr=rank∧rs=(coreA rank (flowA l (1,[]))).1∧res=(coreA rank (flowA l (1,[]))).2:=by
   rcases hres with ⟨h1, -,h2⟩ | ⟨-,h, -⟩
   ·exact ⟨h1,h2⟩
   ·exact absurd ha h
  have hfg:=flow_gr ha;obtain ⟨rn,rfl⟩:∃ rn:Nat,rr=rn:=⟨rr.toNat,by have:=hfg.rank;omega⟩
  have hFI:FlIs rn l rn (flowA l (1,[])).1 (flowA l (1,[])).2 true:=.inl ⟨rfl,ha,rfl,rfl,rfl⟩;obtain ⟨⟨fs,ms⟩,hF⟩:∃ F,flowA l (1,[])=F:=⟨_,rfl⟩
  rw [hF] at hFI hrs hre hfg;obtain ⟨sn,rfl⟩:∃ sn:Nat,fs=sn:=⟨fs.toNat,by have:=hfg.size;simp only at this;omega⟩
  obtain ⟨q,qs,hQ, -⟩:=nat_gr (coreA_gr (g:=((sn:Int),ms)) hfg);rw [hQ] at hrs hre;subst hrs;subst res;have HFI:=Lib.hid hFI;have HFG:=Lib.hid hfg;have HQ:=Lib.hid hQ;clear hres ha hFI hfg hF hQ;go_enter Tryz.func226,Tryz.ntmps226
  go_wp2_with fail;generalize w.alloc (.cells #[.int .i64 0,.int .i64 0,.slice none 0 0] 26)=w1 at hm0 b2 ⊢;have hs1:w.heap.size < w1.heap.size:=b2.1;with_reducible refine (spec_FlowerOf rn A l c w1 _ _ (hr.mid hm0 oZl) HOK.out hl rn sn ms true HFI.out).mono ?_
  rintro en w4 ⟨A4,c4,rfl,ho4,hm4⟩;have hs4:=hm4.size;have ha4:=Mid.alloc w4 (.cells #[.int .i64 rn,.int .i64 sn,.slice A4 ms.length c4] 26);have Y4:=Box.new w4 #[.int .i64 rn,.int .i64 sn,.slice A4 ms.length c4] 26;replace b2:=b2.mid hm4 oZr;replace hm0:=hm0.trans hm4;replace b2:=b2.mid ha4 oZr;replace ho4:=ho4.mid ha4 oZl;replace hm0:=hm0.trans ha4;have hsa:=ha4.size;have y0:=Y4.cell 0 rfl;have y1:=Y4.cell 1 rfl;have y2:=Y4.cell 2 rfl;have hP:=spec_CoreGraph rn sn A4 ms c4 (w4.alloc (.cells #[.int .i64 rn,.int .i64 sn,.slice A4 ms.length c4] 26)) _ _ (OG.rg ho4) HFG.out;rw [HQ.out] at hP;dsimp only at hP;have HPP:=Lib.hid hP;clear hP;go_wp2_with fail;with_reducible refine HPP.out.mono ?_
  rintro en w6 ⟨A5,c5,rfl,ho5,hm6⟩;clear HPP;replace b2:=b2.mid hm6 oZr;replace hm0:=hm0.trans hm6;have z0:=b2.cell 0 rfl;have z1:=b2.cell 1 rfl;have z2:=b2.cell 2 rfl;have zf:=b2.2.2;go_wp2_with fail;refine bodyPost_ret (v:=.tuple #[.agg #[.int .i64 rn,.int .i64 q,.slice A5 qs.length c5],.bool true]) (by simp [results,Tryz.results226,go_sem,z0,z1,z2,zf]) rfl ⟨A5,c5,rfl,?_,?_⟩
  ·refine OG.wide (OG.mid ho5 (a:=w.heap.size) (b:=w.heap.size+1) ?_ (Or.inl (by omega))) (by omega) (by simp) (Nat.le_refl _)
   repeat (first | exact Mid.refl _ _ _ | refine Mid.stored ?_ _ (by simp;try omega) (by simp;try omega))
  ·repeat (first | exact hm0 | refine Mid.storeNew ?_ (by simp;try omega) _)
 ·obtain ⟨rfl,rfl,rfl,rfl⟩:b=false∧rr=0∧rs=0∧res=[]:=by
   rcases hres with ⟨-,h, -⟩ | ⟨h1, -,h2⟩
   ·exact absurd h ha
   ·exact ⟨h1,h2⟩
  have hFI:FlIs rank l 0 0 [] false:=.inr ⟨rfl,ha,rfl,rfl,rfl⟩;have HFI:=Lib.hid hFI;clear hres ha hFI;go_enter Tryz.func226,Tryz.ntmps226
  go_wp2_with fail;generalize w.alloc (.cells #[.int .i64 0,.int .i64 0,.slice none 0 0] 26)=w1 at hm0 b2 ⊢;have hs1:w.heap.size < w1.heap.size:=b2.1;with_reducible refine (spec_FlowerOf rank A l c w1 _ _ (hr.mid hm0 oZl) HOK.out hl 0 0 [] false HFI.out).mono ?_
  rintro en w4 ⟨A4,c4,rfl, -,hm4⟩;replace b2:=b2.mid hm4 oZr;replace hm0:=hm0.trans hm4;have hb23:w.heap.size < w4.heap.size:=b2.1;have z0:=b2.cell 0 rfl;have z1:=b2.cell 1 rfl;have z2:=b2.cell 2 rfl;have zf:=b2.2.2;go_wp2_with fail;refine bodyPost_ret (v:=.tuple #[.agg #[.int .i64 0,.int .i64 0,.slice none 0 0],.bool false]) (by simp [results,Tryz.results226,go_sem,z0,z1,z2,zf,hb23,World.cell?_alloc_lt]) rfl ⟨none,0,rfl,?_,?_⟩
  ·exact ⟨Nat.le_refl _,⟨rfl,.inl ⟨rfl,rfl⟩⟩,fun g hg=>by simp [Value.ownBlock] at hg⟩
  ·repeat (first | exact hm0 | refine Mid.trans ?_ (Mid.alloc _ _) | refine Mid.storeNew ?_ (by simp;try omega) _)
end
section
open Go.RowKit
noncomputable def basA (r:Int) (es:List Ed):List (List Int):=(notIn (treeE es (bfs es (lets r.toNat) 0)) es).map (basisW r.toNat es)
theorem basisW_ok {r n:Nat} {es:List Ed} (h:IsCor r n es) {e:Ed} (he:e∈es):(basisW r es e).length≤81∧OkI (basisW r es e):=by
 have hin:=h.gr.all e he;have hr:=h.gr.rank;have hn:=h.gr.size;unfold InG at hin;obtain ⟨a,l,b⟩:=e;simp only at hin;obtain ⟨pa,rfl⟩:∃ m:Nat,a=m:=⟨a.toNat,by omega⟩
 obtain ⟨pb,rfl⟩:∃ m:Nat,b=m:=⟨b.toNat,by omega⟩
 obtain ⟨h1,h2⟩:=wordV_ok h (v:=pa) (by omega);obtain ⟨h3,h4⟩:=wordV_ok h (v:=pb) (by omega);unfold basisW;simp only;refine ⟨?_,red_ok ?_⟩
 ·have h5:=red_nil_len (wordV r es (pa:Int)++[l]++invW (wordV r es (pb:Int)))
  rw [List.length_append,List.length_append,invW_len] at h5;simp only [List.length_cons,List.length_nil] at h5;omega
 ·intro x hx
  rcases List.mem_append.1 hx with hx | hx
  ·rcases List.mem_append.1 hx with hx | hx
   ·have:=mem_lets.1 (h2 x hx)
    omega
   ·simp at hx
    subst hx;omega
  ·exact okI_invW (fun y hy=>by have:=mem_lets.1 (h4 y hy);omega) x hx
theorem basA_len {r n:Nat} {es:List Ed} (h:IsCor r n es):(basA r es).length≤120:=by
 have h1:=notIn_len (treeE es (bfs es (lets r) 0)) es;have h2:=h.gr.len;unfold basA;rw [List.length_map,Int.toNat_natCast];omega
theorem basA_ok {r n:Nat} {es:List Ed} (h:IsCor r n es) {x:List Int} (hx:x∈basA r es):x.length≤81∧OkI x:=by
 unfold basA at hx;obtain ⟨e,he,rfl⟩:=List.mem_map.1 hx;rw [Int.toNat_natCast] at he ⊢;exact basisW_ok h (List.mem_filter.1 he).1
theorem impl_BasisA (r n:Nat) (A:Option Addr) (es:List Ed) (c:Nat) (w:World) (lo hi:Nat) (hr:RG w lo hi A es) (hcl:es.length≤c) (hco:IsCor r n es) :
  Calls Tryz.prog 101 #[graV r n A es.length c] w fun e w'=>∃ A1 c1,e=.returned (.slice A1 (basA r es).length c1)∧OSS w' w.heap.size w'.heap.size 34 3 A1 c1 (basA r es)∧Mid 0 0 w w':=by
 have hn40:=hco.gr.size;have hl:=hco.gr.len;have hT:(treeE es (bfs es (lets r) 0)).length≤1000000:=by
  unfold treeE;rw [List.length_map,List.length_tail,hco.found];omega
 have hX:=notIn_len (treeE es (bfs es (lets r) 0)) es;have h:=impl_BasisOf r n A es c w lo hi hr hcl hco (notIn (treeE es (bfs es (lets r) 0)) es) (fun e he=>(List.mem_filter.1 he).1) (by omega)
  (fun W hW=>impl_ExtraEdges r n A es c W lo hi hW hcl hco.fol _ hT fun W' hW'=>impl_treeEdges r n A es c W' lo hi hW' hco.fol)
 unfold basA;rw [Int.toNat_natCast];exact h
end
section
open Go.RowKit
theorem RSS.lit {w:World} (rows:List Row) (tSI:TypeId) (h:∀ r∈rows,Rs w w.heap.size r.A (ints r.xs)):RSS (w.alloc (.cells (rowsV rows).toArray tSI)) 0 (w.heap.size+1) (some ⟨w.heap.size,0,none⟩) (rowsD rows):=by
 refine ⟨rows,rfl,⟨by simp,fun _=>⟨w.heap.size,0,rfl,Nat.zero_le _,Nat.lt_succ_self _,fun j u hu=>?_⟩⟩,fun r hr=>⟨by simp,fun hn=>?_⟩⟩
 ·rw [Nat.zero_add,World.cell?_alloc_new]
  simpa using hu
 ·obtain ⟨b,off,e,hb,hc⟩:=(h r hr).alloc (Nat.le_refl _) (.cells (rowsV rows).toArray tSI) hn
  exact ⟨b,off,e,Nat.zero_le _,by omega,hc⟩
end
section
open Go.RowKit
theorem loop_inS {r s:Int} {es:List Ed} (h:IsFol r s es) {wd:List Int}:LoopP es (red [] wd)↔InS es wd:=by
 rw [inS_rdA h];unfold LoopP;constructor
 ·rintro ⟨h1,h2⟩
  exact Prod.ext h2 h1
 ·intro e
  rw [e];exact ⟨rfl,rfl⟩
theorem impl_ReduceLetters (A:Option Addr) (xs:List Int) (c:Nat) (w:World) (B:Nat) (hr:Rs w B A (ints xs)) (hB:B≤w.heap.size) (hok:OkI xs) (hl:xs.length≤268435456) :
  Calls Tryz.prog 107 #[.slice A xs.length c] w fun e w'=>∃ A2 c2,e=.returned (.slice A2 (red [] xs).length c2)∧w'.ownsRow w.heap.size 3 1 (.slice A2 (red [] xs).length c2) (red [] xs).length (ints (red [] xs))∧Mid 0 0 w w':=by
 have h:=RSS.lit (w:=w) [⟨A,c,xs⟩] 34 (by intro r hr2;simp at hr2;rcases hr2 with rfl;exact hr.more hB);have h2:=impl_product (some ⟨w.heap.size,0,none⟩) [xs] 1 _ _ _ h (by intro zs hz;simp at hz;rcases hz with rfl;exact hok) (by simp) (by simp [sumL];omega);have e:[xs].flatten=xs:=by simp
 rw [e] at h2;have H2:Hid (Calls Tryz.prog 122 #[.slice (some ⟨w.heap.size,0,none⟩) 1 1] (w.alloc (.cells #[.slice A xs.length c] 34)) fun e w'=>RetI 3 (red [] xs) (w.alloc (.cells #[.slice A xs.length c] 34)) e w'):=Lib.hid h2;have hal:=Mid.alloc w (.cells #[.slice A xs.length c] 34);have hsz:(w.alloc (.cells #[.slice A xs.length c] 34)).heap.size=w.heap.size+1:=by simp
 clear h h2 e hok;go_enter Tryz.func107,Tryz.ntmps107
 go_wp2_with fail;with_reducible refine H2.out.mono ?_
 rintro e w2 ⟨A2,c2,rfl,ho,hb⟩;go_wp2_with fail;go_ret;exact ⟨A2,c2,rfl,owns_base ho (by omega),hal.trans (Mid.of_below hb)⟩
theorem impl_Contains (r s:Int) (A:Option Addr) (es:List Ed) (c:Nat) (Aw:Option Addr) (wd:List Int) (cw:Nat) (w:World) (lo hi lo' hi':Nat) (hr:RG w lo hi A es) (hw:RV w lo' hi' Aw (ints wd)) (hl:es.length≤1048576) (hcl:es.length≤c) (hwl:wd.length≤1048576) (hok:OkI wd) (b:Bool) (hb:b=true↔IsCor r s es∧InS es wd) :
  Calls Tryz.prog 23 #[graV r s A es.length c,.slice Aw wd.length cw] w fun e w'=>e=.returned (.bool b)∧Mid 0 0 w w':=by
 have hm0:Mid 0 0 w (w.alloc (.cells #[.int .i64 r,.int .i64 s,.slice A es.length c] 26)):=Mid.alloc _ _;have b0:=Box.new w #[.int .i64 r,.int .i64 s,.slice A es.length c] 26;have HB:=Lib.hid hb;have HOK:=Lib.hid hok;have HRL:=Lib.hid (fun W (h:RV W lo' hi' Aw (ints wd))=>impl_ReduceLetters Aw wd cw W hi' h.rs h.1 hok (by omega));clear hb hok;by_cases h:IsCor r s es
 ·obtain ⟨r,n,rfl,rfl⟩:=h.gr.nat
  have HC:=Lib.hid h;clear h;have hrl:(red [] wd).length≤1048576:=by have:=red_nil_len wd;omega
  have HRO:=Lib.hid (red_ok HOK.out);obtain ⟨rw0,hrw⟩:∃ x,red [] wd=x:=⟨_,rfl⟩
  have hL:b=true↔LoopP es rw0:=by
   rw [← hrw,loop_inS HC.out.fol,HB.out];exact ⟨fun h=>h.2,fun h=>⟨HC.out,h⟩⟩
  have HL:=Lib.hid hL;rw [hrw] at HRL hrl HRO;clear HB hrw hL;go_enter Tryz.func23,Tryz.ntmps23
  go_wp2_with fail;generalize (w.alloc (.cells #[.int .i64 r,.int .i64 n,.slice A es.length c] 26))=w1 at hm0 b0 ⊢;have hmd:=Mid.drew1 w1;replace b0:=b0.mid hmd oZr;replace hm0:=hm0.trans hmd;have p0:=b0.cell 0 rfl;have p1:=b0.cell 1 rfl;have p2:=b0.cell 2 rfl;clear hmd;refine wp_region_Z (S:=(fun w'=>w'.cell? ⟨w.heap.size,0,none⟩=some (.int .i64 r)∧w'.cell? ⟨w.heap.size,1,none⟩=some (.int .i64 n)∧w'.cell? ⟨w.heap.size,2,none⟩=some (.slice A es.length c))) [] (by kernel_rfl) ⟨p0,p1,p2⟩ ?_;generalize World.drew w1=wz at b0 hm0 p0 p1 p2 ⊢;have hS:wz.cell? ⟨w.heap.size,0,none⟩=some (.int .i64 r)∧wz.cell? ⟨w.heap.size,1,none⟩=some (.int .i64 n)∧wz.cell? ⟨w.heap.size,2,none⟩=some (.slice A es.length c):=⟨p0,p1,p2⟩
  refine tkZ [] 0 rfl hS ?_;try simp only [Act.put,zs1,zs2,zs3,zs4,zs5,zs6]
  refine rdZ 1 rfl (fun K hK=>?_)
  (go_simp;(with_reducible refine (impl_IsCore r n A es c _ _ _ (hr.mid hm0 oZl) hl hcl true (iff_of_true rfl HC.out)).mono ?_);rintro en w4 ⟨rfl,hm4⟩;have b04:=b0.mid hm4 oZr;go_wp2_with fail)
  refine hK.out _ _ (Or.inr ⟨b04.cell 0 rfl,b04.cell 1 rfl,b04.cell 2 rfl⟩) (fun _=>?_);clear hK K;try simp only [Act.put,zs1,zs2,zs3,zs4,zs5,zs6]
  replace hm0:=hm0.trans hm4;clear hS p0 p1 p2 b0;have hS4:=And.intro (b04.cell 0 rfl) (And.intro (b04.cell 1 rfl) (b04.cell 2 rfl));refine tkZ [] 2 rfl hS4 ?_;try simp only [Act.put,zs1,zs2,zs3,zs4,zs5,zs6]
  refine tkZ [] 3 rfl hS4 ?_;try simp only [Act.put,zs1,zs2,zs3,zs4,zs5,zs6]
  refine tkZ [] 4 rfl hS4 ?_;try simp only [Act.put,zs1,zs2,zs3,zs4,zs5,zs6]
  clear hS4;refine rdZ 5 rfl (fun K hK=>?_)
  (go_simp;(with_reducible refine (HRL.out _ (hw.mid hm0 oZl)).mono ?_);rintro en w5 ⟨A5,c5,rfl,ho5,hm5⟩;have b05:=b04.mid hm5 oZr;go_wp2_with fail)
  refine hK.out _ _ (Or.inr ⟨b05.cell 0 rfl,b05.cell 1 rfl,b05.cell 2 rfl⟩) (fun _=>?_);clear hK K;try simp only [Act.put,zs1,zs2,zs3,zs4,zs5,zs6]
  replace hm0:=hm0.trans hm5;clear b04;refine rdZ 6 rfl (fun K hK=>?_)
  (go_simp;(with_reducible refine (impl_loops r n A es c A5 rw0 c5 _ _ _ _ _ (hr.mid hm0 oZl) (RV.of_rs (Rs.of_own ho5) (Nat.le_refl _)) HC.out.gr hrl HRO.out b HL.out).mono ?_);rintro en w6 ⟨rfl,hm6⟩;have b06:=b05.mid hm6 oZr;go_wp2_with fail)
  refine hK.out _ _ (Or.inr ⟨b06.cell 0 rfl,b06.cell 1 rfl,b06.cell 2 rfl⟩) (fun _=>?_);clear hK K;try simp only [Act.put,zs1,zs2,zs3,zs4,zs5,zs6]
  replace hm0:=hm0.trans hm6;clear b05 ho5;have hS6:=And.intro (b06.cell 0 rfl) (And.intro (b06.cell 1 rfl) (b06.cell 2 rfl));refine tkZ [] 7 rfl hS6 ?_;try simp only [Act.put,zs1,zs2,zs3,zs4,zs5,zs6]
  refine rdZ 8 rfl (fun K hK=>?_);go_simp;refine hK.out _ _ (Or.inr hS6) (fun _=>?_);clear hK K;try simp only [Act.put,zs1,zs2,zs3,zs4,zs5,zs6]
  refine wpAnyZ_done (by kernel_rfl) ?_ _;go_wp2_with fail;go_ret;exact ⟨rfl,hm0⟩
 ·have hbf:b=false:=by
   cases b
   ·rfl
   ·exact absurd (HB.out.mp rfl).1 h
  subst hbf;have HN:=Lib.hid h;clear h HB HRL HOK;go_enter Tryz.func23,Tryz.ntmps23
  go_wp2_with fail;generalize (w.alloc (.cells #[.int .i64 r,.int .i64 s,.slice A es.length c] 26))=w1 at hm0 b0 ⊢;have hmd:=Mid.drew1 w1;replace b0:=b0.mid hmd oZr;replace hm0:=hm0.trans hmd;have p0:=b0.cell 0 rfl;have p1:=b0.cell 1 rfl;have p2:=b0.cell 2 rfl;clear hmd;refine wp_region_Z (S:=(fun w'=>w'.cell? ⟨w.heap.size,0,none⟩=some (.int .i64 r)∧w'.cell? ⟨w.heap.size,1,none⟩=some (.int .i64 s)∧w'.cell? ⟨w.heap.size,2,none⟩=some (.slice A es.length c))) [] (by kernel_rfl) ⟨p0,p1,p2⟩ ?_;generalize World.drew w1=wz at b0 hm0 p0 p1 p2 ⊢;have hS:wz.cell? ⟨w.heap.size,0,none⟩=some (.int .i64 r)∧wz.cell? ⟨w.heap.size,1,none⟩=some (.int .i64 s)∧wz.cell? ⟨w.heap.size,2,none⟩=some (.slice A es.length c):=⟨p0,p1,p2⟩
  refine tkZ [] 0 rfl hS ?_;try simp only [Act.put,zs1,zs2,zs3,zs4,zs5,zs6]
  refine rdZ 1 rfl (fun K hK=>?_)
  (go_simp;(with_reducible refine (impl_IsCore r s A es c _ _ _ (hr.mid hm0 oZl) hl hcl false (iff_of_false (by simp) HN.out)).mono ?_);rintro en w4 ⟨rfl,hm4⟩;have b04:=b0.mid hm4 oZr;go_wp2_with fail)
  refine hK.out _ _ (Or.inr ⟨b04.cell 0 rfl,b04.cell 1 rfl,b04.cell 2 rfl⟩) (fun _=>?_);clear hK K;try simp only [Act.put,zs1,zs2,zs3,zs4,zs5,zs6]
  replace hm0:=hm0.trans hm4;clear hS p0 p1 p2 b0;have hS4:=And.intro (b04.cell 0 rfl) (And.intro (b04.cell 1 rfl) (b04.cell 2 rfl));refine tkZ [] 2 rfl hS4 ?_;try simp only [Act.put,zs1,zs2,zs3,zs4,zs5,zs6]
  refine wpAnyZ_takeC [] (i:=3) rfl (by kernel_rfl) (by kernel_rfl) (by kernel_rfl) (by kernel_rfl) (fun _ _ _ h=>h) (Or.inr ⟨by rfl,rfl⟩) hS4 ?_;try simp only [Act.put,zs1,zs2,zs3,zs4,zs5,zs6]
  refine wpAnyZ_takeC [] (i:=4) rfl (by kernel_rfl) (by kernel_rfl) (by kernel_rfl) (by kernel_rfl) (fun _ _ _ h=>h) (Or.inr ⟨by rfl,rfl⟩) hS4 ?_;try simp only [Act.put,zs1,zs2,zs3,zs4,zs5,zs6]
  refine rdZ 5 rfl (fun K hK=>?_);go_simp;refine hK.out _ _ (Or.inr hS4) (fun _=>?_);clear hK K;try simp only [Act.put,zs1,zs2,zs3,zs4,zs5,zs6]
  refine rdZ 6 rfl (fun K hK=>?_);go_simp;refine hK.out _ _ (Or.inr hS4) (fun _=>?_);clear hK K;try simp only [Act.put,zs1,zs2,zs3,zs4,zs5,zs6]
  refine tkZ [] 7 rfl hS4 ?_;try simp only [Act.put,zs1,zs2,zs3,zs4,zs5,zs6]
  refine rdZ 8 rfl (fun K hK=>?_);go_simp;refine hK.out _ _ (Or.inr hS4) (fun _=>?_);clear hK K;try simp only [Act.put,zs1,zs2,zs3,zs4,zs5,zs6]
  refine wpAnyZ_done (by kernel_rfl) ?_ _;go_wp2_with fail;go_ret;exact ⟨rfl,hm0⟩
end
section
open Go.RowKit
theorem rankI_cor {r s:Int} {es:List Ed} (h:IsCor r s es):rankI r s es=(es.length:Int) - s+1:=if_pos h
theorem isW_lt {r:Int} {w:List Int} (h:IsW r w):LtW w∧Rd w:=by
 have h1:=h.2.2.2;have hl:LtW w:=fun x hx=>by
  have h2:=h1.1 x hx;have h3:=h.1;have h4:=h.2.1;unfold Lt3;omega
 refine ⟨hl,fun a b x e=>?_⟩;have e1:w[a.length]?=some x:=by rw [e];simp
 have e2:w[a.length+1]?=some (-x):=by
  rw [e,List.getElem?_append_right (by omega)];simp
 have:=h1.2 a.length x (-x) e1 e2;omega
theorem isW_loop {r s:Int} {es:List Ed} (hf:IsFol r s es) {w:List Int} (h:IsW r w):LoopP es w↔InS es w:=by
 obtain ⟨lw,hr⟩:=isW_lt h;rw [← loop_inS hf,red_self hr lw]
theorem basA_eq {r:Int} {es:List Ed}:basA r es=basisG r.toNat es:=rfl
def Inside (r s:Int) (es:List Ed) (r' s':Int) (es':List Ed):Prop:=IsCor r s es∧IsCor r' s' es'∧r=r'∧∀ w∈basA r es,InS es' w
theorem inside_of {r s:Int} {es:List Ed} {s':Int} {es':List Ed} (h:IsCor r s es) (h':IsCor r s' es') (hi:∀ w,LtW w→InS es w→InS es' w):Inside r s es r s' es':=by
 refine ⟨h,h',rfl,fun w hw=>?_⟩;obtain ⟨a,n,rfl,rfl⟩:=h.gr.nat;rw [basA_eq,Int.toNat_natCast] at hw;exact hi w (basisG_inS h hw).1 (basisG_inS h hw).2
theorem inside_lang {r s:Int} {es:List Ed} {r' s':Int} {es':List Ed} (h:Inside r s es r' s' es'):∀ w,LtW w→InS es w→InS es' w:=by
 obtain ⟨h1,h2,h3,h4⟩:=h;obtain ⟨a,n,rfl,rfl⟩:=h1.gr.nat;rw [basA_eq,Int.toNat_natCast] at h4;exact (inside_iff h1 h2.fol).1 h4
end
section
open Go.RowKit
def JoinWordIs (r0 s0:Int) (d0:List Ed) (d1:List Int) (rr0 rs0:Int) (res0:List Ed) (res1:Bool):Prop:=JwIs r0 s0 d0 d1 rr0 rs0 res0 res1
theorem JoinWordIs_ex (r0 s0:Int) (d0:List Ed) (d1:List Int) (hl0:d0.length≤1048576) (_:OkI d1) (hl1:d1.length≤1048576):∃ rr0 rs0 res0 res1,JoinWordIs r0 s0 d0 d1 rr0 rs0 res0 res1:=JwIs_ex r0 s0 d0 d1
theorem JoinWordIs_len {r0 s0:Int} {d0:List Ed} {d1:List Int} {rr0 rs0:Int} {res0:List Ed} {res1:Bool} (h:JoinWordIs r0 s0 d0 d1 rr0 rs0 res0 res1) (hl0:d0.length≤1048576) (_:OkI d1) (hl1:d1.length≤1048576):res0.length≤1048576:=by
 have:=JwIs.lens h;omega
theorem sspec_JoinWord (r0 s0:Int) (A0:Option Addr) (d0:List Ed) (c0:Nat) (A1:Option Addr) (d1:List Int) (c1:Nat) (w:World) (lo0 hi0:Nat) (h0:OG w lo0 hi0 A0 c0 d0) (hl0:d0.length≤1048576) (lo1 hi1:Nat) (h1:OI w lo1 hi1 A1 c1 d1) (o1:OkI d1) (hl1:d1.length≤1048576) (rr0 rs0:Int) (res0:List Ed) (res1:Bool) (h:JoinWordIs r0 s0 d0 d1 rr0 rs0 res0 res1) :
  Calls Tryz.prog 22 #[.agg #[.int .i64 r0,.int .i64 s0,.slice A0 d0.length c0],.slice A1 d1.length c1] w fun e w'=>∃ (A:Option Addr) (c:Nat),e=.returned (.tuple #[.agg #[.int .i64 rr0,.int .i64 rs0,.slice A res0.length c],.bool res1])∧OG w' w.heap.size w'.heap.size A c res0∧Mid 0 0 w w' :=
 spec_JoinWord r0 s0 A0 d0 c0 A1 d1 c1 w lo0 hi0 lo1 hi1 h0.rg h1.ri hl0 hl1 o1 rr0 rs0 res0 res1 h
theorem simpl_JoinWord (r0 s0:Int) (A0:Option Addr) (d0:List Ed) (c0:Nat) (A1:Option Addr) (d1:List Int) (c1:Nat) (w:World) (lo0 hi0:Nat) (h0:OG w lo0 hi0 A0 c0 d0) (hl0:d0.length≤1048576) (lo1 hi1:Nat) (h1:OI w lo1 hi1 A1 c1 d1) (o1:OkI d1) (hl1:d1.length≤1048576) (rr0 rs0:Int) (res0:List Ed) (res1:Bool) (h:JoinWordIs r0 s0 d0 d1 rr0 rs0 res0 res1) :
  Calls Tryz.prog 21 #[.agg #[.int .i64 r0,.int .i64 s0,.slice A0 d0.length c0],.slice A1 d1.length c1] w fun e w'=>∃ (A:Option Addr) (c:Nat),e=.returned (.tuple #[.agg #[.int .i64 rr0,.int .i64 rs0,.slice A res0.length c],.bool res1])∧OG w' w.heap.size w'.heap.size A c res0∧Mid 0 0 w w' :=
 impl_JoinWord r0 s0 A0 d0 c0 A1 d1 c1 w lo0 hi0 lo1 hi1 h0.rg h1.ri hl0 h0.cnt.1 hl1 o1 rr0 rs0 res0 res1 h
def SmallestExtensionIs (r0 s0:Int) (d0:List Ed) (d1:List Int) (rr0 rs0:Int) (res0:List Ed) (res1:Int):Prop:=∃ b,JwIs r0 s0 d0 d1 rr0 rs0 res0 b∧res1=seI r0 s0 d0 rr0 rs0 res0 b
theorem SmallestExtensionIs_ex (r0 s0:Int) (d0:List Ed) (d1:List Int) (hl0:d0.length≤1048576) (_:OkI d1) (hl1:d1.length≤1048576):∃ rr0 rs0 res0 res1,SmallestExtensionIs r0 s0 d0 d1 rr0 rs0 res0 res1:=by
 obtain ⟨rr,rs,res,b,h⟩:=JwIs_ex r0 s0 d0 d1;exact ⟨rr,rs,res,_,b,h,rfl⟩
theorem SmallestExtensionIs_len {r0 s0:Int} {d0:List Ed} {d1:List Int} {rr0 rs0:Int} {res0:List Ed} {res1:Int} (h:SmallestExtensionIs r0 s0 d0 d1 rr0 rs0 res0 res1) (hl0:d0.length≤1048576) (_:OkI d1) (hl1:d1.length≤1048576):res0.length≤1048576:=by
 obtain ⟨b,h, -⟩:=h;have:=JwIs.lens h;omega
theorem sspec_SmallestExtension (r0 s0:Int) (A0:Option Addr) (d0:List Ed) (c0:Nat) (A1:Option Addr) (d1:List Int) (c1:Nat) (w:World) (lo0 hi0:Nat) (h0:OG w lo0 hi0 A0 c0 d0) (hl0:d0.length≤1048576) (lo1 hi1:Nat) (h1:OI w lo1 hi1 A1 c1 d1) (o1:OkI d1) (hl1:d1.length≤1048576) (rr0 rs0:Int) (res0:List Ed) (res1:Int) (h:SmallestExtensionIs r0 s0 d0 d1 rr0 rs0 res0 res1) :
  Calls Tryz.prog 26 #[.agg #[.int .i64 r0,.int .i64 s0,.slice A0 d0.length c0],.slice A1 d1.length c1] w fun e w'=>∃ (A:Option Addr) (c:Nat),e=.returned (.tuple #[.agg #[.int .i64 rr0,.int .i64 rs0,.slice A res0.length c],.int .i64 res1])∧OG w' w.heap.size w'.heap.size A c res0∧Mid 0 0 w w':=by
 obtain ⟨b,h,rfl⟩:=h;exact spec_SmallestExtension r0 s0 A0 d0 c0 A1 d1 c1 w lo0 hi0 lo1 hi1 h0.rg h1.ri hl0 hl1 o1 rr0 rs0 res0 b h
theorem simpl_SmallestExtension (r0 s0:Int) (A0:Option Addr) (d0:List Ed) (c0:Nat) (A1:Option Addr) (d1:List Int) (c1:Nat) (w:World) (lo0 hi0:Nat) (h0:OG w lo0 hi0 A0 c0 d0) (hl0:d0.length≤1048576) (lo1 hi1:Nat) (h1:OI w lo1 hi1 A1 c1 d1) (o1:OkI d1) (hl1:d1.length≤1048576) (rr0 rs0:Int) (res0:List Ed) (res1:Int) (h:SmallestExtensionIs r0 s0 d0 d1 rr0 rs0 res0 res1) :
  Calls Tryz.prog 25 #[.agg #[.int .i64 r0,.int .i64 s0,.slice A0 d0.length c0],.slice A1 d1.length c1] w fun e w'=>∃ (A:Option Addr) (c:Nat),e=.returned (.tuple #[.agg #[.int .i64 rr0,.int .i64 rs0,.slice A res0.length c],.int .i64 res1])∧OG w' w.heap.size w'.heap.size A c res0∧Mid 0 0 w w':=by
 obtain ⟨b,h,rfl⟩:=h;exact impl_SmallestExtension r0 s0 A0 d0 c0 A1 d1 c1 w lo0 hi0 lo1 hi1 h0.rg h1.ri hl0 h0.cnt.1 hl1 o1 rr0 rs0 res0 b h
end
section
open Go.RowKit
theorem pbEs_no {ea eb:List Ed} {P:PS} {i:Nat} {p:Int × Int} {k:Nat} (h:nextV ea p.1 ((k:Int)+1) < 0 ∨ nextV eb p.2 ((k:Int)+1) < 0):pbEs ea eb P i p (k+1)=pbEs ea eb P i p k:=by
 rw [pbEs_succ,pbEd,if_pos h];simp
theorem pbEs_yes {ea eb:List Ed} {P:PS} {i:Nat} {p:Int × Int} {k:Nat} (h1:¬ nextV ea p.1 ((k:Int)+1) < 0) (h2:¬ nextV eb p.2 ((k:Int)+1) < 0):pbEs ea eb P i p (k+1)=pbEs ea eb P i p k++[⟨i,(k:Int)+1,(P.idxOf (pbNext ea eb p ((k:Int)+1)):Nat)⟩]:=by
 rw [pbEs_succ,pbEd,if_neg (fun h=>h.elim h1 h2)];simp
theorem spec_l14Edges (r na nb:Nat) (A B AP:Option Addr) (ea eb:List Ed) (P:PS) (c d cp PL:Nat) (w:World) (lo hi lo2 hi2 lo3 hi3:Nat) (hr:RG w lo hi A ea) (hr2:RG w lo2 hi2 B eb) (hr3:RV w lo3 hi3 AP (ints (P.map (pcode nb)))) (hg:IsGr r na ea) (hg2:IsGr r nb eb) (hin:∀ p∈P,PIn na nb p) (hPL:P.length=PL) (hPl:PL≤1600) :
  Calls Tryz.prog 177 #[graV r na A ea.length c,graV r nb B eb.length d,.slice AP PL cp] w fun e w'=>e=.returned (.int .i64 ((pbAll ea eb r P PL).length:Nat))∧Mid 0 0 w w':=by
 have hna:na≤40:=by have:=hg.size;omega
 have hnb:nb≤40:=by have:=hg2.size;omega
 have hnb0:¬ nb=0:=by have:=hg2.size;omega
 have hrr:r≤3:=by have:=hg.rank;omega
 have hl:=hg.len;have hl2:=hg2.len;have hgl:∀ e∈ea,1≤e.l∧e.l≤3:=fun e he=>by have:=hg.all e he;unfold InG at this;omega
 have hgl2:∀ e∈eb,1≤e.l∧e.l≤3:=fun e he=>by have:=hg2.all e he;unfold InG at this;omega
 obtain ⟨N,hN⟩:∃ N:Nat,(na:Int) * (nb:Int)=(N:Int):=⟨na * nb,by simp⟩
 have hall:∀ i,i≤PL→(pbAll ea eb r P i).length≤4800:=fun i hi=>by
  have h1:=pbAll_len ea eb r P i;have h2:i * r≤1600 * 3:=Nat.mul_le_mul (by omega) hrr;omega
 have HALL:=Lib.hid hall;have HG:=Lib.hid hg;have HG2:=Lib.hid hg2;have HGL:=Lib.hid hgl;have HGL2:=Lib.hid hgl2;have HNN:=Lib.hid hN;have HIN:=Lib.hid hin;have HPL:=Lib.hid hPL;have hm0:Mid 0 0 w ((w.alloc (.cells #[.int .i64 r,.int .i64 na,.slice A ea.length c] 26)).alloc (.cells #[.int .i64 r,.int .i64 nb,.slice B eb.length d] 26)):=(Mid.alloc _ _).trans (Mid.alloc _ _);have B0:=(Box.new w #[.int .i64 r,.int .i64 na,.slice A ea.length c] 26).mid (Mid.alloc _ (.cells #[.int .i64 r,.int .i64 nb,.slice B eb.length d] 26)) oZr;have B1:=Box.new (w.alloc (.cells #[.int .i64 r,.int .i64 na,.slice A ea.length c] 26)) #[.int .i64 r,.int .i64 nb,.slice B eb.length d] 26;rw [World.size_alloc] at B1;clear hg hg2 hgl hgl2 hin hN hPL hall;go_enter Tryz.func177,Tryz.ntmps177
 go_wp2_with fail;go_loopw [7,8] (fun nv iv wr=>∃ (i m:Nat),i≤PL∧iv=.int .i64 i∧nv=.int .i64 m∧Hid ((pbAll ea eb r P i).length=m) ∧
   Box wr w.heap.size [.int .i64 r,.int .i64 na,.slice A ea.length c]∧Box wr (w.heap.size+1) [.int .i64 r,.int .i64 nb,.slice B eb.length d]∧Mid 0 0 w wr) (fun _ i _=>PL - (intOf i).toNat)
 case atStart=>exact ⟨0,0,Nat.zero_le _,rfl,rfl,Lib.hid rfl,B0,B1,hm0⟩
 case round =>
  clear B0 B1 hm0;obtain ⟨wo,hwo⟩:∃ wo,wo=wr:=⟨_,rfl⟩
  subst hwo;obtain ⟨i,m0,hil,rfl,rfl,HN,bx,bz,hm⟩:=hrel;by_cases hlt:i < PL
  ·obtain ⟨p,hp⟩:=get_of_lt P (show i < P.length by rw [HPL.out];exact hlt)
   obtain ⟨q,a,b,m,rfl,ha,hb, -, -,hq,hpc, -,hqd,hqm⟩:=pcode_nat HNN.out (HIN.out p (List.mem_of_getElem? hp));have HP:=Lib.hid hp;have HQ:=Lib.hid hpc;have HS:=Lib.hid (pbAll_succ (ea:=ea) (eb:=eb) (r:=r) hp);have hi0:(0:Int)≤(i:Int):=by omega
   have hi1:(i:Int) < (PL:Int):=by omega
   have hm00:m0≤4800:=by have h1:=HALL.out i hil;have h2:=HN.out;omega
   clear hp hpc;go_wp2_with fail;go_loopw [7,9] (fun nv xv wr=>∃ (k m:Nat),k≤r∧xv=.int .i64 ((k:Int)+1)∧nv=.int .i64 m∧Hid (m0+(pbEs ea eb P i ((a:Int),(b:Int)) k).length=m) ∧
    Box wr w.heap.size [.int .i64 r,.int .i64 na,.slice A ea.length c]∧Box wr (w.heap.size+1) [.int .i64 r,.int .i64 nb,.slice B eb.length d]∧Mid 0 0 w wr) (fun _ x _=>(r+1 - intOf x).toNat)
   case atStart=>exact ⟨0,m0,Nat.zero_le _,by go_num,rfl,Lib.hid (by simp [pbEs]),bx,bz,hm⟩
   case round =>
    clear bx bz hm;obtain ⟨k,m1,hk,rfl,rfl,HM,bx,bz,hm⟩:=hrel;have hm1b:m1≤4803:=by have h1:=pbEs_len ea eb P i ((a:Int),(b:Int)) k;have h2:=HM.out;omega
    have p0:=bx.cell 0 rfl;have p'0:=bz.cell 0 rfl;by_cases hlt2:k < r
    ·have hkr:(k:Int)+1≤(r:Int):=by omega
     obtain ⟨B4,o4,x,rfl,hB4,hx,hcx⟩:=(hr3.mid hm oZl).at (k:=i) (by rw [List.length_map,HPL.out];exact hlt);have hxq:x=(q:Int):=by
      rw [List.getElem?_map,HP.out] at hx;injection hx with hx
      exact hx.symm.trans HQ.out
     subst hxq;have hB4s:B4 < wr.heap.size:=Nat.lt_of_lt_of_le hB4 (hr3.mid hm oZl).1;have hwa:IntKind.i64.wrap (a:Int)=(a:Int):=IntWalk.i64_in _ (by omega);have hwb:IntKind.i64.wrap (b:Int)=(b:Int):=IntWalk.i64_in _ (by omega);have k0:=wg_cell bx.1 (bx.cell 0 rfl);have k1:=wg_cell bx.1 (bx.cell 1 rfl);have k2:=wg_cell bx.1 (bx.cell 2 rfl);have k3:=wg_cell hB4s hcx;have k5:=wg_cell bz.1 (bz.cell 0 rfl);have k6:=wg_cell bz.1 (bz.cell 1 rfl);have k7:=wg_cell bz.1 (bz.cell 2 rfl);have hA:=fun m os=>spec_NextVertex r na A ea c a ((k:Int)+1) (wg wr m os) lo hi (hr.mid (hm.trans (Mid.ofWg wr m os)) oZl) (by omega) HGL.out (by omega) (by omega);have hB:=fun m os=>spec_NextVertex r nb B eb d b ((k:Int)+1) (wg wr m os) lo2 hi2 (hr2.mid (hm.trans (Mid.ofWg wr m os)) oZl) (by omega) HGL2.out (by omega) (by omega);clear hx hcx;by_cases ht1:nextV ea a ((k:Int)+1) < 0
     ·have b1:decide (0≤nextV ea a ((k:Int)+1))=false:=by simp;omega
      have HE:=Lib.hid (pbEs_no (ea:=ea) (eb:=eb) (P:=P) (i:=i) (p:=((a:Int),(b:Int))) (Or.inl ht1));clear ht1;go_wp2_with fail;refine wp_region_quiet_wg (by kernel_rfl) (by kernel_rfl) ?_;repeat
       (with_reducible refine wpQuiet_step (fun K hK=>?_))
       go_simp
       first
        | ((with_reducible refine hK _ ?_);clear hK K)
        | (rw [if_neg (by decide)];(with_reducible refine hK _ ?_);clear hK K)
        | (apply Exists.intro;refine ⟨fun _=>?_,hK _ ?_⟩;((first | (go_at_call 138;with_reducible exact Calls.wg_of (hA _ _)) | (go_at_call 138;with_reducible exact Calls.wg_of (hB _ _))));clear hK K)
      with_reducible refine wpQuiet_nil ?_
      intro _ hw';obtain ⟨⟨nq,osq⟩,hw''⟩:=hw';subst hw'';have hwg:=Mid.ofWg wr nq osq;generalize wg wr nq osq=w6 at hwg ⊢;replace bx:=bx.mid hwg oZr;replace bz:=bz.mid hwg oZr;replace hm:=hm.trans hwg;clear k0 k1 k2 k3 k5 k6 k7 hA hB p0 p'0;go_wp2_with fail;go_roundw
      case rel=>exact ⟨k+1,m1,by omega,by go_num,rfl,by rw [HE.out];exact HM,bx,bz,hm⟩
      case measure=>simp [intOf];omega
     ·have b1:decide (0≤nextV ea a ((k:Int)+1))=true:=by simp;omega
      by_cases ht2:nextV eb b ((k:Int)+1) < 0
      ·have b2:decide (0≤nextV eb b ((k:Int)+1))=false:=by simp;omega
       have HE:=Lib.hid (pbEs_no (ea:=ea) (eb:=eb) (P:=P) (i:=i) (p:=((a:Int),(b:Int))) (Or.inr ht2));clear ht1 ht2;go_wp2_with fail;refine wp_region_quiet_wg (by kernel_rfl) (by kernel_rfl) ?_;repeat
        (with_reducible refine wpQuiet_step (fun K hK=>?_))
        go_simp
        first
         | ((with_reducible refine hK _ ?_);clear hK K)
         | (rw [if_neg (by decide)];(with_reducible refine hK _ ?_);clear hK K)
         | (apply Exists.intro;refine ⟨fun _=>?_,hK _ ?_⟩;((first | (go_at_call 138;with_reducible exact Calls.wg_of (hA _ _)) | (go_at_call 138;with_reducible exact Calls.wg_of (hB _ _))));clear hK K)
       with_reducible refine wpQuiet_nil ?_
       intro _ hw';obtain ⟨⟨nq,osq⟩,hw''⟩:=hw';subst hw'';have hwg:=Mid.ofWg wr nq osq;generalize wg wr nq osq=w6 at hwg ⊢;replace bx:=bx.mid hwg oZr;replace bz:=bz.mid hwg oZr;replace hm:=hm.trans hwg;clear k0 k1 k2 k3 k5 k6 k7 hA hB p0 p'0;go_wp2_with fail;go_roundw
       case rel=>exact ⟨k+1,m1,by omega,by go_num,rfl,by rw [HE.out];exact HM,bx,bz,hm⟩
       case measure=>simp [intOf];omega
      ·have b2:decide (0≤nextV eb b ((k:Int)+1))=true:=by simp;omega
       have HE:=Lib.hid (pbEs_yes (ea:=ea) (eb:=eb) (P:=P) (i:=i) (p:=((a:Int),(b:Int))) ht1 ht2);clear ht1 ht2;go_wp2_with fail;refine wp_region_quiet_wg (by kernel_rfl) (by kernel_rfl) ?_;repeat
        (with_reducible refine wpQuiet_step (fun K hK=>?_))
        go_simp
        first
         | ((with_reducible refine hK _ ?_);clear hK K)
         | (rw [if_neg (by decide)];(with_reducible refine hK _ ?_);clear hK K)
         | (apply Exists.intro;refine ⟨fun _=>?_,hK _ ?_⟩;((first | (go_at_call 138;with_reducible exact Calls.wg_of (hA _ _)) | (go_at_call 138;with_reducible exact Calls.wg_of (hB _ _))));clear hK K)
       with_reducible refine wpQuiet_nil ?_
       intro _ hw';obtain ⟨⟨nq,osq⟩,hw''⟩:=hw';subst hw'';have hwg:=Mid.ofWg wr nq osq;generalize wg wr nq osq=w6 at hwg ⊢;replace bx:=bx.mid hwg oZr;replace bz:=bz.mid hwg oZr;replace hm:=hm.trans hwg;clear k0 k1 k2 k3 k5 k6 k7 hA hB p0 p'0;go_wp2_with fail;go_roundw
       case rel=>exact ⟨k+1,m1+1,by omega,by go_num,by go_num,Lib.hid (by rw [HE.out,List.length_append];have:=HM.out;simp;omega),bx,bz,hm⟩
       case measure=>simp [intOf];omega
    ·obtain rfl:k=r:=by omega
     go_wp2_with fail;go_roundw
     case rel=>exact ⟨i+1,m1,by omega,by go_num,rfl,Lib.hid (by rw [HS.out,List.length_append,HN.out];exact HM.out),bx,bz,hm⟩
     case measure=>simp [intOf];omega
  ·obtain rfl:i=PL:=by omega
   go_wp2_with fail;go_ret;exact ⟨by rw [HN.out];rfl,hm⟩
end
section
open Go.RowKit
open Go.Maps (Keyed)
section
variable {w:World} {ops:Array Oper} {rest:List Oper} {o:Oper} {a:Act} {Q:Exit→Act→World→Prop} {b:Nat} {st:PS}
end
end
section
open Go.RowKit
theorem canon_put (l:List Ed) (e:Ed):canon (l++[e])=putE e (canon l):=(canon_eq (asc_putE (asc_canon l)) fun x=>by rw [mem_putE,mem_canon,List.mem_append,List.mem_singleton];exact or_comm).symm
theorem RV.atI {w:World} {lo hi b off:Nat} {l:List Int} {k:Nat} {f:Int} (h:RV w lo hi (some ⟨b,off,none⟩) (ints l)) (hk:l[k]?=some f):b < w.heap.size∧w.cell? ⟨b,off+k,none⟩=some (.int .i64 f):=by
 obtain ⟨b2,off2,f2,he,h1,h2,h3⟩:=h.at (List.getElem?_eq_some_iff.1 hk).1;injection he with he
 injection he with he1 he2
 subst he1 he2;rw [hk] at h2;injection h2 with h2
 subst h2;exact ⟨Nat.lt_of_lt_of_le h1 h.1,h3⟩
theorem pb_code {nb:Int} {P:PS} {k:Nat} {p:Int × Int} {q:Int} (hp:P[k]?=some p) (hq:pcode nb p=q):(P.map (pcode nb))[k]?=some q:=by
 rw [List.getElem?_map,hp,← hq]
 rfl
theorem pb_idx {na nb:Int} {P:PS} (h:PbOk na nb P) {t:Int × Int} (ht:t∈P) {k:Nat} {p:Int × Int} (hp:P[k]?=some p):pcode nb p=pcode nb t↔k=P.idxOf t:=by
 have hpm:=List.mem_of_getElem? hp;have hlt:=(List.getElem?_eq_some_iff.1 hp).1;have h2:P[P.idxOf t]?=some t:=by
  rw [List.getElem?_eq_getElem (List.idxOf_lt_length_of_mem ht)];exact congrArg some (List.getElem_idxOf _)
 constructor
 ·intro he
  have:p=t:=pcode_inj (h.rng p hpm) (h.rng t ht) he;subst this;exact (List.getElem?_inj hlt h.nd).1 (hp.trans h2.symm)
 ·intro he
  subst he;rw [h2] at hp;injection hp with hp
  rw [hp]
section
variable {W:World} {ops:Array Oper} {rest:List Oper} {o:Oper} {a:Act} {Q:Exit→Act→World→Prop}
end
section
variable {w w':World} {r:Int} {Bo M G:Nat} {A1:Option Addr} {n1 c1:Nat} {sto stm:PS} {A2:Option Addr} {n2 c2:Nat} {xs:List Ed}
end
end
section
open Go.RowKit
theorem spec_PullbackAt (r s:Int) (A:Option Addr) (es:List Ed) (c:Nat) (r' s':Int) (B:Option Addr) (es':List Ed) (d:Nat) (u v:Int) (w:World) (lo hi lo2 hi2:Nat)
  (hr:RG w lo hi A es) (hr2:RG w lo2 hi2 B es') (hl:es.length≤1048576) (hl2:es'.length≤1048576) (rr rs:Int) (res:List Ed) (b:Bool) (hres:PullIs r s es r' s' es' u v rr rs res b) :
  Calls Tryz.prog 99 #[graV r s A es.length c,graV r' s' B es'.length d,.int .i64 u,.int .i64 v] w fun e w'=>∃ A1 c1,e=.returned (.tuple #[graV rr rs A1 res.length c1,.bool b])∧OG w' w.heap.size w'.heap.size A1 c1 res∧Mid 0 0 w w':=by
 have HR:=Lib.hid hres;clear hres;obtain ⟨b1,hb1⟩:=bool_of (IsFol r s es);have H1:=Lib.hid hb1;obtain ⟨b2,hb2⟩:=bool_of (IsFol r' s' es');have H2:=Lib.hid hb2;clear hb1 hb2;have hm0:Mid 0 0 w (((w.alloc (.cells #[.int .i64 r,.int .i64 s,.slice A es.length c] 26)).alloc (.cells #[.int .i64 r',.int .i64 s',.slice B es'.length d] 26)).alloc (.cells #[.int .i64 0,.int .i64 0,.slice none 0 0] 26)):=((Mid.alloc _ _).trans (Mid.alloc _ _)).trans (Mid.alloc _ _);have B0:=((Box.new w #[.int .i64 r,.int .i64 s,.slice A es.length c] 26).mid (Mid.alloc _ (.cells #[.int .i64 r',.int .i64 s',.slice B es'.length d] 26)) oZr).mid (Mid.alloc _ (.cells #[.int .i64 0,.int .i64 0,.slice none 0 0] 26)) oZr;have B1:=(Box.new (w.alloc (.cells #[.int .i64 r,.int .i64 s,.slice A es.length c] 26)) #[.int .i64 r',.int .i64 s',.slice B es'.length d] 26).mid (Mid.alloc _ (.cells #[.int .i64 0,.int .i64 0,.slice none 0 0] 26)) oZr;have B2:=Box.new ((w.alloc (.cells #[.int .i64 r,.int .i64 s,.slice A es.length c] 26)).alloc (.cells #[.int .i64 r',.int .i64 s',.slice B es'.length d] 26)) #[.int .i64 0,.int .i64 0,.slice none 0 0] 26;simp only [World.size_alloc] at B1 B2;go_enter Tryz.func99,Tryz.ntmps99
 go_wp2_with fail;generalize hw1:((w.alloc (.cells #[.int .i64 r,.int .i64 s,.slice A es.length c] 26)).alloc (.cells #[.int .i64 r',.int .i64 s',.slice B es'.length d] 26)).alloc (.cells #[.int .i64 0,.int .i64 0,.slice none 0 0] 26)=w1 at hm0 B0 B1 B2 ⊢;have hs1:w1.heap.size=w.heap.size+1+1+1:=by rw [← hw1];simp
 have HS:=Lib.hid hs1;clear hw1 hs1;with_reducible refine (spec_IsFolded r s A es c _ _ _ (hr.mid hm0 oZl) hl b1 H1.out).mono ?_
 rintro en w2 ⟨rfl,hm2⟩;replace B0:=B0.mid hm2 oZr;replace B1:=B1.mid hm2 oZr;replace B2:=B2.mid hm2 oZr;replace hm0:=hm0.trans hm2;have p0:=B0.cell 0 rfl;have p1:=B0.cell 1 rfl;have p2:=B0.cell 2 rfl;have k0:=B1.cell 0 rfl;have k1:=B1.cell 1 rfl;have k2:=B1.cell 2 rfl;have z0:=B2.cell 0 rfl;have z1:=B2.cell 1 rfl;have z2:=B2.cell 2 rfl;have zf:=B2.2.2;cases b1 with
 | false =>
  have hno:¬ PullOk r s es r' s' es' u v:=fun h=>by
   have:=H1.out.2 h.f1;cases this
  obtain ⟨rfl,rfl,rfl,rfl⟩:=HR.out.no hno;go_wp2_with fail;refine bodyPost_ret (v:=.tuple #[.agg #[.int .i64 0,.int .i64 0,.slice none 0 0],.bool false]) (by simp [results,Tryz.results99,go_sem,z0,z1,z2,zf]) rfl ⟨none,0,rfl,OG.nil,?_⟩;repeat (first | exact hm0 | refine Mid.storeNew ?_ (by simp;try omega) _)
 | true =>
 have F1:=Lib.hid (H1.out.1 rfl);clear H1;go_wp2_with fail;with_reducible refine (spec_IsFolded r' s' B es' d _ _ _ (hr2.mid hm0 oZl) hl2 b2 H2.out).mono ?_
 rintro en w3 ⟨rfl,hm3⟩;replace B0:=B0.mid hm3 oZr;replace B1:=B1.mid hm3 oZr;replace B2:=B2.mid hm3 oZr;replace hm0:=hm0.trans hm3;clear p0 p1 p2 k0 k1 k2 z0 z1 z2 zf;have p0:=B0.cell 0 rfl;have p1:=B0.cell 1 rfl;have p2:=B0.cell 2 rfl;have k0:=B1.cell 0 rfl;have k1:=B1.cell 1 rfl;have k2:=B1.cell 2 rfl;have z0:=B2.cell 0 rfl;have z1:=B2.cell 1 rfl;have z2:=B2.cell 2 rfl;have zf:=B2.2.2;cases b2 with
 | false =>
  have hno:¬ PullOk r s es r' s' es' u v:=fun h=>by
   have:=H2.out.2 h.f2;cases this
  obtain ⟨rfl,rfl,rfl,rfl⟩:=HR.out.no hno;go_wp2_with fail;refine bodyPost_ret (v:=.tuple #[.agg #[.int .i64 0,.int .i64 0,.slice none 0 0],.bool false]) (by simp [results,Tryz.results99,go_sem,z0,z1,z2,zf]) rfl ⟨none,0,rfl,OG.nil,?_⟩;repeat (first | exact hm0 | refine Mid.storeNew ?_ (by simp;try omega) _)
 | true =>
 have F2:=Lib.hid (H2.out.1 rfl);have g1:=F1.out.gr.rank;have g2:=F1.out.gr.size;have g3:=F2.out.gr.size;have g4:=F1.out.gr.len;have g5:=F2.out.gr.len;clear H2;rcases (Decidable.em (r=r')).symm with hrk | hrk
 ·have h1a:(r != r')=true:=by simpa using hrk
  have hrk':=Lib.hid hrk;have hno:¬ PullOk r s es r' s' es' u v:=fun h=>by
   exact hrk'.out h.rk
  obtain ⟨rfl,rfl,rfl,rfl⟩:=HR.out.no hno;go_wp2_with fail;refine bodyPost_ret (v:=.tuple #[.agg #[.int .i64 0,.int .i64 0,.slice none 0 0],.bool false]) (by simp [results,Tryz.results99,go_sem,z0,z1,z2,zf]) rfl ⟨none,0,rfl,OG.nil,?_⟩;repeat (first | exact hm0 | refine Mid.storeNew ?_ (by simp;try omega) _)
 subst hrk;rcases (Decidable.em (0≤u∧u < s)).symm with hu | hu
 ·have hib:inB u 0 (s - 1)=false:=by unfold inB;simp;omega
  have HU:=Lib.hid hu;clear hu;go_wp2_with fail;with_reducible refine (l1In_at hib _).mono ?_
  rintro en w4 ⟨rfl,rfl⟩;have hno:¬ PullOk r s es r s' es' u v:=fun h=>by
   exact HU.out h.u0
  obtain ⟨rfl,rfl,rfl,rfl⟩:=HR.out.no hno;go_wp2_with fail;refine bodyPost_ret (v:=.tuple #[.agg #[.int .i64 0,.int .i64 0,.slice none 0 0],.bool false]) (by simp [results,Tryz.results99,go_sem,z0,z1,z2,zf]) rfl ⟨none,0,rfl,OG.nil,?_⟩;repeat (first | exact hm0 | refine Mid.storeNew ?_ (by simp;try omega) _)
 have hib:inB u 0 (s - 1)=true:=by unfold inB;simp;omega
 go_wp2_with fail;with_reducible refine (l1In_at hib _).mono ?_
 rintro en w4 ⟨rfl,rfl⟩;rcases (Decidable.em (0≤v∧v < s')).symm with hv | hv
 ·have hib2:inB v 0 (s' - 1)=false:=by unfold inB;simp;omega
  have HV:=Lib.hid hv;clear hv;go_wp2_with fail;with_reducible refine (l1In_at hib2 _).mono ?_
  rintro en w4 ⟨rfl,rfl⟩;have hno:¬ PullOk r s es r s' es' u v:=fun h=>by
   exact HV.out h.v0
  obtain ⟨rfl,rfl,rfl,rfl⟩:=HR.out.no hno;go_wp2_with fail;refine bodyPost_ret (v:=.tuple #[.agg #[.int .i64 0,.int .i64 0,.slice none 0 0],.bool false]) (by simp [results,Tryz.results99,go_sem,z0,z1,z2,zf]) rfl ⟨none,0,rfl,OG.nil,?_⟩;repeat (first | exact hm0 | refine Mid.storeNew ?_ (by simp;try omega) _)
 have hib2:inB v 0 (s' - 1)=true:=by unfold inB;simp;omega
 go_wp2_with fail;with_reducible refine (l1In_at hib2 _).mono ?_
 rintro en w4 ⟨rfl,rfl⟩;clear hib hib2;obtain ⟨rn,rfl⟩:∃ n:Nat,r=n:=⟨r.toNat,by omega⟩
 obtain ⟨sn,rfl⟩:∃ n:Nat,s=n:=⟨s.toNat,by omega⟩
 obtain ⟨tn,rfl⟩:∃ n:Nat,s'=n:=⟨s'.toNat,by omega⟩
 obtain ⟨un,rfl⟩:∃ n:Nat,u=n:=⟨u.toNat,by omega⟩
 obtain ⟨vn,rfl⟩:∃ n:Nat,v=n:=⟨v.toNat,by omega⟩
 have hun:un < sn:=by omega
 have hvn:vn < tn:=by omega
 have hp0:PIn sn tn ((un:Int),(vn:Int)):=⟨Int.natCast_nonneg _,Int.ofNat_lt.2 hun,Int.natCast_nonneg _,Int.ofNat_lt.2 hvn⟩
 go_wp2_with fail;with_reducible refine (spec_l14Pairs rn sn tn un vn A B es es' c d _ _ _ _ _ (hr.mid hm0 oZl) (hr2.mid hm0 oZl) F1.out.gr F2.out.gr hun hvn).mono ?_
 rintro en w5 ⟨A5,c5,rfl,hP5,hm5⟩;obtain ⟨P,hPP⟩:∃ P,pairsOf es es' (lets rn) ((un:Int),(vn:Int))=P:=⟨_,rfl⟩
 obtain ⟨PL,hPL⟩:∃ n,P.length=n:=⟨_,rfl⟩
 rw [hPP] at hP5 ⊢;rw [hPL];have hPlen:0 < P.length:=by rw [← hPP];exact pbSt_pos _ _ _ _ 1601
 obtain ⟨B5,o5,x0,hA5, -, -, -⟩:=hP5.at (k:=0) (by rw [List.length_map];exact hPlen);subst hA5;clear hPlen;have hPok:=pairs_ok (lets rn) F1.out.gr.all F2.out.gr.all hp0;have hPle:=pairs_len (lets rn) F1.out.gr F2.out.gr hp0;have hPcl:=pairs_closed (lets rn) F1.out.gr F2.out.gr hp0;rw [hPP] at hPok hPle hPcl;rw [hPL] at hPle;have HPP:=Lib.hid hPP;have HPL:=Lib.hid hPL;have HPK:=Lib.hid hPok;have HPC:=Lib.hid hPcl;clear hPP hPL hPok hPcl;replace B0:=B0.mid hm5 oZr;replace B1:=B1.mid hm5 oZr;replace B2:=B2.mid hm5 oZr;replace hm0:=hm0.trans hm5;clear p0 p1 p2 k0 k1 k2 z0 z1 z2 zf;have p0:=B0.cell 0 rfl;have p1:=B0.cell 1 rfl;have p2:=B0.cell 2 rfl;have k0:=B1.cell 0 rfl;have k1:=B1.cell 1 rfl;have k2:=B1.cell 2 rfl;have z0:=B2.cell 0 rfl;have z1:=B2.cell 1 rfl;have z2:=B2.cell 2 rfl;have zf:=B2.2.2;go_wp2_with fail;with_reducible refine (spec_l14Edges rn sn tn A B (some ⟨B5,o5,none⟩) es es' P c d c5 PL _ _ _ _ _ _ _ (hr.mid hm0 oZl) (hr2.mid hm0 oZl) hP5 F1.out.gr F2.out.gr HPK.out.rng HPL.out hPle).mono ?_
 rintro en w6 ⟨rfl,hm6⟩;obtain ⟨m,hmE⟩:∃ n,(pbAll es es' rn P PL).length=n:=⟨_,rfl⟩
 rw [hmE];have hm48:m≤4800:=by
  have h1:=pbAll_len es es' rn P PL;have h2:PL * rn≤1600 * 3:=Nat.mul_le_mul hPle (by omega);omega
 have HME:=Lib.hid hmE;clear hmE;replace B0:=B0.mid hm6 oZr;replace B1:=B1.mid hm6 oZr;replace B2:=B2.mid hm6 oZr;replace hm0:=hm0.trans hm6;replace hP5:=hP5.mid hm6 oZl;clear p0 p1 p2 k0 k1 k2 z0 z1 z2 zf;have p0:=B0.cell 0 rfl;have p1:=B0.cell 1 rfl;have p2:=B0.cell 2 rfl;have k0:=B1.cell 0 rfl;have k1:=B1.cell 1 rfl;have k2:=B1.cell 2 rfl;have z0:=B2.cell 0 rfl;have z1:=B2.cell 1 rfl;have z2:=B2.cell 2 rfl;have zf:=B2.2.2;rcases (Decidable.em (PL≤40)).symm with hsz | hsz
 ·have b3:decide (40 < (PL:Int))=true:=by simp;omega
  have hno:¬ PullOk (rn:Int) (sn:Int) es (rn:Int) (tn:Int) es' (un:Int) (vn:Int):=fun h=>by
   have h1:=h.sz;rw [Int.toNat_natCast,HPP.out,HPL.out] at h1;omega
  obtain ⟨rfl,rfl,rfl,rfl⟩:=HR.out.no hno;go_wp2_with fail;refine bodyPost_ret (v:=.tuple #[.agg #[.int .i64 0,.int .i64 0,.slice none 0 0],.bool false]) (by simp [results,Tryz.results99,go_sem,z0,z1,z2,zf]) rfl ⟨none,0,rfl,OG.nil,?_⟩;repeat (first | exact hm0 | refine Mid.storeNew ?_ (by simp;try omega) _)
 have b3:decide (40 < (PL:Int))=false:=by simp;omega
 rcases (Decidable.em (m≤120)).symm with hln | hln
 ·have b4:decide (120 < (m:Int))=true:=by simp;omega
  have hno:¬ PullOk (rn:Int) (sn:Int) es (rn:Int) (tn:Int) es' (un:Int) (vn:Int):=fun h=>by
   have h1:=h.ln;rw [Int.toNat_natCast,HPP.out,HPL.out,HME.out] at h1;omega
  obtain ⟨rfl,rfl,rfl,rfl⟩:=HR.out.no hno;go_wp2_with fail;refine bodyPost_ret (v:=.tuple #[.agg #[.int .i64 0,.int .i64 0,.slice none 0 0],.bool false]) (by simp [results,Tryz.results99,go_sem,z0,z1,z2,zf]) rfl ⟨none,0,rfl,OG.nil,?_⟩;repeat (first | exact hm0 | refine Mid.storeNew ?_ (by simp;try omega) _)
 have b4:decide (120 < (m:Int))=false:=by simp;omega
 have hok:PullOk (rn:Int) (sn:Int) es (rn:Int) (tn:Int) es' (un:Int) (vn:Int):=⟨F1.out,F2.out,rfl,⟨hp0.1,hp0.2.1⟩,⟨hp0.2.2.1,hp0.2.2.2⟩,by rw [Int.toNat_natCast,HPP.out,HPL.out];exact hsz,by rw [Int.toNat_natCast,HPP.out,HPL.out,HME.out];exact hln⟩
 obtain ⟨rfl,hrr,hrs,hre⟩:=HR.out.yes hok;rw [Int.toNat_natCast,HPP.out,HPL.out] at hrs;unfold pullE at hre;rw [Int.toNat_natCast,HPP.out,HPL.out] at hre;have HRR:=Lib.hid hrr;have HRS:=Lib.hid hrs;have HRE:=Lib.hid hre;clear hrr hrs hre HR;have hnb0:¬ tn=0:=by omega
 have hmulb:(sn:Int) * (tn:Int)≤40 * 40:=Int.mul_le_mul (by omega) (by omega) (by omega) (by omega);obtain ⟨N,hN⟩:∃ N:Nat,(sn:Int) * (tn:Int)=(N:Int):=⟨sn * tn,by simp⟩
 have hN16:N≤1600:=by rw [hN] at hmulb;omega
 have HNN:=Lib.hid hN;have HGL:Hid (∀ e∈es,1≤e.l∧e.l≤3):=Lib.hid (fun e he=>by have:=F1.out.gr.all e he;unfold InG at this;omega);have HGL2:Hid (∀ e∈es',1≤e.l∧e.l≤3):=Lib.hid (fun e he=>by have:=F2.out.gr.all e he;unfold InG at this;omega);have hrn3:rn≤3:=by omega
 have hal:=Mid.alloc w6 (.cells #[.int .i64 rn,.int .i64 PL,.slice none 0 0] 26);have B3:=Box.new w6 #[.int .i64 rn,.int .i64 PL,.slice none 0 0] 26;have hG6:=B2.1;have hGP:=hm6.size;clear hmulb hN;go_wp2_with fail;replace B0:=B0.mid hal oZr;replace B1:=B1.mid hal oZr;replace B2:=B2.mid hal oZr;replace hm0:=hm0.trans hal;replace hP5:=hP5.mid hal oZl;clear p0 p1 p2 k0 k1 k2 z0 z1 z2 zf hm2 hm3 hm5 hm6 HS;generalize hw7:w6.alloc (.cells #[.int .i64 rn,.int .i64 PL,.slice none 0 0] 26)=w7 at B0 B1 B2 B3 hm0 hP5 ⊢;have hs7:w7.heap.size=w6.heap.size+1:=by rw [← hw7];simp
 clear hw7 hal;generalize hG:w6.heap.size=G at B3 hs7 hG6 hGP ⊢;generalize hGPe:w5.heap.size=GP at hP5 hGP;clear hG hGPe;have O3:OG w7 (G+1) w7.heap.size none 0 []:=OG.nil;go_loopw [13] (fun iv wr=>∃ (i:Nat) (A3:Option Addr) (c3 lo3 hi3:Nat) (xs:List Ed),i≤PL∧iv=.int .i64 i∧Hid (xs=canon (pbAll es es' rn P i))∧OG wr lo3 hi3 A3 c3 xs∧(hi3≤G ∨ G+1≤lo3)∧w.heap.size+3≤lo3∧Box wr w.heap.size [.int .i64 rn,.int .i64 sn,.slice A es.length c]∧Box wr (w.heap.size+1) [.int .i64 rn,.int .i64 tn,.slice B es'.length d]∧Box wr (w.heap.size+1+1) [.int .i64 0,.int .i64 0,.slice none 0 0] ∧
    Box wr G [.int .i64 rn,.int .i64 PL,.slice A3 xs.length c3]∧Hid (RV wr 0 GP (some ⟨B5,o5,none⟩) (ints (P.map (pcode tn))))∧Mid 0 0 w wr) (fun iv _=>PL - (intOf iv).toNat)
 case atStart=>exact ⟨0,none,0,_,_,[],Nat.zero_le _,rfl,Lib.hid (by simp [pbAll,canon,putAll]),O3,.inr (Nat.le_refl _),by omega,B0,B1,B2,B3,Lib.hid hP5,hm0⟩
 case round =>
  clear O3 B0 B1 B2 B3 hP5 hm0;obtain ⟨wo,hwo⟩:∃ wo,wo=wr:=⟨_,rfl⟩
  subst hwo;obtain ⟨i,A3,c3,lo3,hi3,xs,hi,rfl,HX,ho,hdis,hlo3,B0,B1,B2,B3,HP5,hm⟩:=hrel;by_cases hlt:i < PL
  ·obtain ⟨p,hp⟩:=get_of_lt P (show i < P.length by rw [HPL.out];exact hlt)
   obtain ⟨q,a,b,mm,rfl,ha,hb, -, -,hq,hpc, -,hqd,hqm⟩:=pcode_nat HNN.out (HPK.out.rng p (List.mem_of_getElem? hp));have HP:=Lib.hid hp;have HPQ:=Lib.hid (pb_code hp hpc);have HSU:=Lib.hid (pbAll_succ (ea:=es) (eb:=es') (r:=rn) hp);have hi0:(0:Int)≤(i:Int):=by omega
   have hi1:(i:Int) < (PL:Int):=by omega
   clear hp hpc;go_wp2_with fail;go_loopw [14] (fun xv wr=>∃ (k:Nat) (A3:Option Addr) (c3 lo3 hi3:Nat) (xs:List Ed),k≤rn∧xv=.int .i64 ((k:Int)+1)∧Hid (xs=canon (pbAll es es' rn P i++pbEs es es' P i ((a:Int),(b:Int)) k))∧OG wr lo3 hi3 A3 c3 xs∧(hi3≤G ∨ G+1≤lo3)∧w.heap.size+3≤lo3∧Box wr w.heap.size [.int .i64 rn,.int .i64 sn,.slice A es.length c]∧Box wr (w.heap.size+1) [.int .i64 rn,.int .i64 tn,.slice B es'.length d]∧Box wr (w.heap.size+1+1) [.int .i64 0,.int .i64 0,.slice none 0 0] ∧
    Box wr G [.int .i64 rn,.int .i64 PL,.slice A3 xs.length c3]∧Hid (RV wr 0 GP (some ⟨B5,o5,none⟩) (ints (P.map (pcode tn))))∧Mid 0 0 w wr) (fun xv _=>(rn+1 - intOf xv).toNat)
   case atStart=>exact ⟨0,A3,c3,lo3,hi3,xs,Nat.zero_le _,by go_num,Lib.hid (by rw [HX.out];simp [pbEs]),ho,hdis,hlo3,B0,B1,B2,B3,HP5,hm⟩
   case round =>
    clear ho hdis hlo3 B0 B1 B2 B3 HP5 hm HX;obtain ⟨k,A3,c3,lo3,hi3,xs,hk,rfl,HX,ho,hdis,hlo3,B0,B1,B2,B3,HP5,hm⟩:=hrel;have p0:=B0.cell 0 rfl;by_cases hlt2:k < rn
    ·have hkr:(k:Int)+1≤(rn:Int):=by omega
     have hc5:=HP5.out.atI HPQ.out;have hB4s:B5 < wr.heap.size:=hc5.1;have hwa:IntKind.i64.wrap (a:Int)=(a:Int):=IntWalk.i64_in _ (by omega);have hwb:IntKind.i64.wrap (b:Int)=(b:Int):=IntWalk.i64_in _ (by omega);have k0:=wg_cell B0.1 (B0.cell 0 rfl);have k1:=wg_cell B0.1 (B0.cell 1 rfl);have k2:=wg_cell B0.1 (B0.cell 2 rfl);have k3:=wg_cell hB4s hc5.2;have k5:=wg_cell B1.1 (B1.cell 1 rfl);have hA:=fun m os=>spec_NextVertex rn sn A es c a ((k:Int)+1) (wg wr m os) _ _ (hr.mid (hm.trans (Mid.ofWg wr m os)) oZl) (by omega) HGL.out (by omega) (by omega);clear hc5;go_wp2_with fail;refine wp_region_quiet_wg (by kernel_rfl) (by kernel_rfl) ?_;repeat
      (with_reducible refine wpQuiet_step (fun K hK=>?_))
      go_simp
      first
       | ((with_reducible refine hK _ ?_);clear hK K)
       | (rw [if_neg (by decide)];(with_reducible refine hK _ ?_);clear hK K)
       | (apply Exists.intro;refine ⟨fun _=>?_,hK _ ?_⟩;((go_at_call 138;exact Calls.wg_of (hA _ _)));clear hK K)
     with_reducible refine wpQuiet_nil ?_
     intro _ hw';obtain ⟨⟨nq,osq⟩,hw''⟩:=hw';subst hw'';have hwg:=Mid.ofWg wr nq osq;generalize wg wr nq osq=w8 at hwg ⊢;replace B0:=B0.mid hwg oZr;replace B1:=B1.mid hwg oZr;replace B2:=B2.mid hwg oZr;replace B3:=B3.mid hwg oZr;replace hm:=hm.trans hwg;replace ho:=ho.mid hwg oZl;replace HP5:=Lib.hid (HP5.out.mid hwg oZl);have hc6:=HP5.out.atI HPQ.out;have hB4s8:B5 < w8.heap.size:=hc6.1;clear k0 k1 k2 k3 k5 hA p0 hB4s;have k0:=wg_cell B1.1 (B1.cell 0 rfl);have k1:=wg_cell B1.1 (B1.cell 1 rfl);have k2:=wg_cell B1.1 (B1.cell 2 rfl);have k3:=wg_cell hB4s8 hc6.2;have hA:=fun m os=>spec_NextVertex rn tn B es' d b ((k:Int)+1) (wg w8 m os) lo2 hi2 (hr2.mid (hm.trans (Mid.ofWg w8 m os)) oZl) (by omega) HGL2.out (by omega) (by omega);clear hc6;go_wp2_with fail;refine wp_region_quiet_wg (by kernel_rfl) (by kernel_rfl) ?_;repeat
      (with_reducible refine wpQuiet_step (fun K hK=>?_))
      go_simp
      first
       | ((with_reducible refine hK _ ?_);clear hK K)
       | (rw [if_neg (by decide)];(with_reducible refine hK _ ?_);clear hK K)
       | (apply Exists.intro;refine ⟨fun _=>?_,hK _ ?_⟩;((go_at_call 138;exact Calls.wg_of (hA _ _)));clear hK K)
     with_reducible refine wpQuiet_nil ?_
     intro _ hw';obtain ⟨⟨nq,osq⟩,hw''⟩:=hw';subst hw'';have hwg2:=Mid.ofWg w8 nq osq;generalize wg w8 nq osq=w9 at hwg2 ⊢;replace B0:=B0.mid hwg2 oZr;replace B1:=B1.mid hwg2 oZr;replace B2:=B2.mid hwg2 oZr;replace B3:=B3.mid hwg2 oZr;replace hm:=hm.trans hwg2;replace ho:=ho.mid hwg2 oZl;replace HP5:=Lib.hid (HP5.out.mid hwg2 oZl);clear k0 k1 k2 k3 hA hwg hwg2 hB4s8;by_cases ht1:nextV es a ((k:Int)+1) < 0
     ·have b1:decide (0≤nextV es a ((k:Int)+1))=false:=by simp;omega
      have HE:=Lib.hid (pbEs_no (ea:=es) (eb:=es') (P:=P) (i:=i) (p:=((a:Int),(b:Int))) (Or.inl ht1));clear ht1;have hPL0:0 < PL:=by omega
      have dPL:decide ((0:Int) < (PL:Int))=true:=by simp;omega
      go_wp2_with fail;go_loopw [17] (fun kv wr=>kv=.int .i64 0∧wr=w9) (fun _ _=>0)
      case atStart=>exact ⟨rfl,rfl⟩
      case round =>
       obtain ⟨rfl,rfl⟩:=hrel;go_wp2_with fail;go_roundw
       case rel=>exact ⟨k+1,A3,c3,lo3,hi3,xs,by omega,by go_num,by rw [HE.out];exact HX,ho,hdis,hlo3,B0,B1,B2,B3,HP5,hm⟩
       case measure=>simp [intOf];omega
     ·have b1:decide (0≤nextV es a ((k:Int)+1))=true:=by simp;omega
      by_cases ht2:nextV es' b ((k:Int)+1) < 0
      ·have b2:decide (0≤nextV es' b ((k:Int)+1))=false:=by simp;omega
       have HE:=Lib.hid (pbEs_no (ea:=es) (eb:=es') (P:=P) (i:=i) (p:=((a:Int),(b:Int))) (Or.inr ht2));clear ht1 ht2;have hPL0:0 < PL:=by omega
       have dPL:decide ((0:Int) < (PL:Int))=true:=by simp;omega
       go_wp2_with fail;go_loopw [17] (fun kv wr=>kv=.int .i64 0∧wr=w9) (fun _ _=>0)
       case atStart=>exact ⟨rfl,rfl⟩
       case round =>
        obtain ⟨rfl,rfl⟩:=hrel;go_wp2_with fail;go_roundw
        case rel=>exact ⟨k+1,A3,c3,lo3,hi3,xs,by omega,by go_num,by rw [HE.out];exact HX,ho,hdis,hlo3,B0,B1,B2,B3,HP5,hm⟩
        case measure=>simp [intOf];omega
      ·have hpin2:=pbNext_in F1.out.gr.all F2.out.gr.all ((a:Int),(b:Int)) ht1 ht2
       obtain ⟨q',x',y',m',hpe,hx',hy',hme',hqe',hq',hpc',hmq', -, -⟩:=pcode_nat HNN.out hpin2;have hmemP:=HPC.out _ (List.mem_of_getElem? HP.out) ((k:Int)+1) (mem_lets.2 ⟨by omega,by omega,by omega⟩) ht1 ht2;have hes:=pbEs_yes (ea:=es) (eb:=es') (P:=P) (i:=i) (p:=((a:Int),(b:Int))) ht1 ht2;have htx:nextV es a ((k:Int)+1)=(x':Int):=congrArg Prod.fst hpe;have hty:nextV es' b ((k:Int)+1)=(y':Int):=congrArg Prod.snd hpe;obtain ⟨idx,hidx⟩:∃ n,P.idxOf (pbNext es es' ((a:Int),(b:Int)) ((k:Int)+1))=n:=⟨_,rfl⟩
       have hidl:idx < PL:=by rw [← hidx,← HPL.out];exact List.idxOf_lt_length_of_mem hmemP
       rw [hidx] at hes;have HE:=Lib.hid hes;have HID:=Lib.hid hidx;have HMP:=Lib.hid hmemP;have HQ':=Lib.hid hpc';simp only [htx,hty];clear b1 ht1 ht2 hpe htx hty hpin2 hpc' hidx hmemP hes;have c1':decide ((0:Int)≤(x':Int))=true:=by simp
       have c2':decide ((0:Int)≤(y':Int))=true:=by simp
       have hxl:xs.length≤4900:=by
        rw [HX.out];have h1:=canon_len (pbAll es es' rn P i++pbEs es es' P i ((a:Int),(b:Int)) k);have h2:=pbAll_len es es' rn P i;have h3:=pbEs_len es es' P i ((a:Int),(b:Int)) k;have h4:i * rn≤1600 * 3:=Nat.mul_le_mul (by omega) (by omega);rw [List.length_append] at h1;omega
       obtain ⟨wi,hwi⟩:∃ wi,wi=wr:=⟨_,rfl⟩
       subst hwi;go_wp2_with fail;go_loopw [17] (fun kv wr=>∃ (kk:Nat) (A3:Option Addr) (c3 lo3 hi3:Nat) (ys:List Ed),kk≤PL∧kv=.int .i64 kk∧Hid (ys=if kk≤idx then xs else putE ⟨i,(k:Int)+1,(idx:Nat)⟩ xs)∧OG wr lo3 hi3 A3 c3 ys∧(hi3≤G ∨ G+1≤lo3)∧w.heap.size+3≤lo3∧Box wr w.heap.size [.int .i64 rn,.int .i64 sn,.slice A es.length c]∧Box wr (w.heap.size+1) [.int .i64 rn,.int .i64 tn,.slice B es'.length d]∧Box wr (w.heap.size+1+1) [.int .i64 0,.int .i64 0,.slice none 0 0] ∧
    Box wr G [.int .i64 rn,.int .i64 PL,.slice A3 ys.length c3]∧Hid (RV wr 0 GP (some ⟨B5,o5,none⟩) (ints (P.map (pcode tn))))∧Mid 0 0 w wr) (fun kv _=>PL - (intOf kv).toNat)
       case atStart=>exact ⟨0,A3,c3,lo3,hi3,xs,Nat.zero_le _,rfl,Lib.hid (if_pos (Nat.zero_le _)).symm,ho,hdis,hlo3,B0,B1,B2,B3,HP5,hm⟩
       case round =>
        clear ho hdis hlo3 B0 B1 B2 B3 HP5 hm;obtain ⟨kk,A4,c4,lo4,hi4,ys,hkk,rfl,HY,ho,hdis,hlo3,B0,B1,B2,B3,HP5,hm⟩:=hrel;by_cases hlt3:kk < PL
        ·obtain ⟨t,ht⟩:=get_of_lt P (show kk < P.length by rw [HPL.out];exact hlt3)
         obtain ⟨qk,ak,bk,mk, -, -, -, -, -,hqk,hpk, -, -, -⟩:=pcode_nat HNN.out (HPK.out.rng t (List.mem_of_getElem? ht));have hck:=HP5.out.atI (pb_code ht hpk);have hI:(qk:Int)=(q':Int)↔kk=idx:=by rw [← hpk,← HQ'.out,← HID.out];exact pb_idx HPK.out HMP.out ht
         have hkk0:(0:Int)≤(kk:Int):=by omega
         have hkk1:(kk:Int) < (PL:Int):=by omega
         have hyl:ys.length≤5000:=by
          rw [HY.out];split
          ·omega
          ·have:=putE_len ⟨i,(k:Int)+1,(idx:Nat)⟩ xs
           omega
         have hwm:IntKind.i64.wrap (m':Int)=(m':Int):=IntWalk.i64_in _ (by omega);have hwq:IntKind.i64.wrap (q':Int)=(q':Int):=IntWalk.i64_in _ (by omega);have k3:=wg_cell hck.1 hck.2;have k5:=wg_cell B1.1 (B1.cell 1 rfl);by_cases hki:kk=idx
         ·have hqq:((qk:Int) == (q':Int))=true:=beq_iff_eq.2 (hI.2 hki)
          have HKI:=Lib.hid hki;clear ht hpk hck hI hki;go_wp2_with fail;refine wp_region_quiet_wg (by kernel_rfl) (by kernel_rfl) ?_;repeat
           (with_reducible refine wpQuiet_step (fun K hK=>?_))
           go_simp
           first
            | ((with_reducible refine hK _ ?_);clear hK K)
            | (rw [if_neg (by decide)];(with_reducible refine hK _ ?_);clear hK K)
            | (apply Exists.intro;refine ⟨fun _=>?_,hK _ ?_⟩;(fail);clear hK K)
          with_reducible refine wpQuiet_nil ?_
          intro _ hw';obtain ⟨⟨nq,osq⟩,hw''⟩:=hw';subst hw'';have hwg:=Mid.ofWg wr nq osq;generalize wg wr nq osq=wz at hwg ⊢;replace B0:=B0.mid hwg oZr;replace B1:=B1.mid hwg oZr;replace B2:=B2.mid hwg oZr;replace B3:=B3.mid hwg oZr;replace hm:=hm.trans hwg;replace ho:=ho.mid hwg oZl;replace HP5:=Lib.hid (HP5.out.mid hwg oZl);clear k3 k5 hwg;have g2:=B3.cell 2 rfl;have B3z:=B3.1;go_wp2_with fail;with_reducible refine (spec_l4Put A4 ys c4 ⟨i,(k:Int)+1,kk⟩ wz _ _ ho.rg (by omega)).mono ?_
          rintro en w10 ⟨A9,c9,rfl,ho9,hm9⟩;replace B0:=B0.mid hm9 oZr;replace B1:=B1.mid hm9 oZr;replace B2:=B2.mid hm9 oZr;replace B3:=B3.mid hm9 oZr;replace hm:=hm.trans hm9;have HP9:=Lib.hid (HP5.out.mid hm9 oZl);have hGz:G < w10.heap.size:=B3.1;clear g2 ho HP5;have hsz9:=hm9.size;have hloz:G < wz.heap.size:=B3z;have g2:=B3.cell 2 rfl;have gf:=B3.2.2;go_wp2_with fail;go_roundw
          case rel =>
           have hst:=Mid.setCell w10 (lo:=G) (hi:=G+1) (p:=⟨G,2,none⟩) (.slice A9 (putE ⟨i,(k:Int)+1,kk⟩ ys).length c9) (Nat.le_refl _) (Nat.lt_succ_self _);refine ⟨kk+1,A9,c9,_,_,_,by omega,by go_num,Lib.hid ?_,ho9.mid hst (Or.inl (by omega)),.inr (by omega),by omega,B0.mid hst (Or.inl (by omega)),B1.mid hst (Or.inl (by omega)),B2.mid hst (Or.inl (by omega)),B3.set 2 _ (by simp) rfl,Lib.hid (HP9.out.mid hst (Or.inr (by omega))),hm.storeNew (by show w.heap.size≤G;omega) _⟩;rw [HY.out,HKI.out,if_pos (Nat.le_refl _),if_neg (Nat.not_succ_le_self _)]
          case measure=>simp [intOf];omega
         ·have hqq:((qk:Int) == (q':Int))=false:=beq_eq_false_iff_ne.2 fun h=>hki (hI.1 h)
          have HKI:=Lib.hid hki;clear ht hpk hck hI hki;go_wp2_with fail;refine wp_region_quiet_wg (by kernel_rfl) (by kernel_rfl) ?_;repeat
           (with_reducible refine wpQuiet_step (fun K hK=>?_))
           go_simp
           first
            | ((with_reducible refine hK _ ?_);clear hK K)
            | (rw [if_neg (by decide)];(with_reducible refine hK _ ?_);clear hK K)
            | (apply Exists.intro;refine ⟨fun _=>?_,hK _ ?_⟩;(fail);clear hK K)
          with_reducible refine wpQuiet_nil ?_
          intro _ hw';obtain ⟨⟨nq,osq⟩,hw''⟩:=hw';subst hw'';have hwg:=Mid.ofWg wr nq osq;generalize wg wr nq osq=wz at hwg ⊢;replace B0:=B0.mid hwg oZr;replace B1:=B1.mid hwg oZr;replace B2:=B2.mid hwg oZr;replace B3:=B3.mid hwg oZr;replace hm:=hm.trans hwg;replace ho:=ho.mid hwg oZl;replace HP5:=Lib.hid (HP5.out.mid hwg oZl);clear k3 k5 hwg;go_wp2_with fail;go_roundw
          case rel =>
           refine ⟨kk+1,A4,c4,lo4,hi4,ys,by omega,by go_num,Lib.hid ?_,ho,hdis,hlo3,B0,B1,B2,B3,HP5,hm⟩;rw [HY.out];have:=HKI.out;by_cases h1:kk≤idx
           ·rw [if_pos h1,if_pos (by omega)]
           ·rw [if_neg h1,if_neg (by omega)]
          case measure=>simp [intOf];omega
        ·obtain rfl:kk=PL:=by omega
         have HY2:Hid (ys=putE ⟨i,(k:Int)+1,(idx:Nat)⟩ xs):=Lib.hid (by rw [HY.out,if_neg (by omega)]);go_wp2_with fail;go_roundw
         case rel=>exact ⟨k+1,A4,c4,lo4,hi4,ys,by omega,by go_num,Lib.hid (by rw [HE.out,← List.append_assoc,canon_put,← HX.out];exact HY2.out),ho,hdis,hlo3,B0,B1,B2,B3,HP5,hm⟩
         case measure=>simp [intOf];omega
    ·obtain rfl:k=rn:=by omega
     rw [← HSU.out] at HX;have dk:decide ((k:Int)+1≤(k:Int))=false:=by simp;omega
     clear HPP HPL HPK HPC HME HRE HRR HRS hok HSU HP HPQ hqd hqm;go_wp2_with fail;go_roundw
     case rel=>exact ⟨i+1,A3,c3,lo3,hi3,xs,by omega,by go_num,HX,ho,hdis,hlo3,B0,B1,B2,B3,HP5,hm⟩
     case measure=>simp [intOf];omega
  ·obtain rfl:i=PL:=by omega
   have z0:=B2.cell 0 rfl;have z1:=B2.cell 1 rfl;have z2:=B2.cell 2 rfl;have g0:=B3.cell 0 rfl;have g1:=B3.cell 1 rfl;have g2:=B3.cell 2 rfl;have zf:=B2.2.2;have gf:=B3.2.2;go_wp2_with fail;have hcl:(w.heap.size+1+1 == G)=false:=by simp;omega
   have hxx:=HX.out;refine bodyPost_ret (v:=.tuple #[.agg #[.int .i64 rn,.int .i64 i,.slice A3 xs.length c3],.bool true]) (by simp [results,Tryz.results99,go_sem,z0,z1,z2,g0,g1,g2,zf,gf]) rfl ⟨A3,c3,?_,?_,?_⟩
   ·rw [HRR.out,HRS.out,HRE.out,hxx]
   ·rw [HRE.out,← hxx]
    refine OG.wide (OG.mid ho (a:=w.heap.size) (b:=w.heap.size+3) ?_ (Or.inl (by omega))) (by omega) (by have:=ho.size;simpa using this) (Nat.le_refl _);repeat (first | exact Mid.refl _ _ _ | refine Mid.stored ?_ _ (by simp;try omega) (by simp;try omega))
   ·repeat (first | exact hm | refine Mid.storeNew ?_ (by simp;try omega) _)
end
section
open Go.RowKit
end
section
open Go.RowKit
end
end Go.Proofs.YthampgpcajmopaaGreat
