/- Contracts and lemmas of this seat, many texts in one: see the words ahead of each. No condition beyond those typed in each lemma. -/
import Derived.Test.YthampgpcajmopaaGreatCj2
import Derived.Test.YthampgpcajmopaaGreatCj7
import Derived.Test.YthampgpcajmopaaGreatCj4
import Derived.Test.YthampgpcajmopaaGreatCj3
import Derived.Test.YthampgpcajmopaaGreatCj8
import Derived.Test.YthampgpcajmopaaGreatCj5
import Derived.Test.YthampgpcajmopaaGreatCj1
import Derived.Test.YthampgpcajmopaaGreatCj6

namespace Go.Proofs.YthampgpcajmopaaGreat
set_option linter.unusedVariables false
set_option linter.unusedSimpArgs false
set_option maxHeartbeats 40000000
set_option maxRecDepth 100000
section
open Go.RowKit
def notIn (T es:List Ed):List Ed:=es.filter fun e=>decide (e ∉ T)
theorem notIn_take {T es:List Ed} {k:Nat} {e:Ed} (h:es[k]?=some e):notIn T (es.take (k+1))=notIn T (es.take k)++(if e ∉ T then [e] else []):=by
 obtain ⟨hk,h'⟩:=List.getElem?_eq_some_iff.1 h;unfold notIn;rw [List.take_succ_eq_append_getElem hk,h',List.filter_append];by_cases h2:e ∉ T
 ·simp [h2]
 ·simp [h2]
theorem notIn_len (T es:List Ed):(notIn T es).length≤es.length:=List.length_filter_le _ _
end
section
open Go.RowKit
theorem ob_oneB {b g n c:Nat} (h:Value.ownBlock (.slice (some ⟨b,0,none⟩) n c)=some g):g=b:=(Option.some.inj (show some b=some g from h)).symm
theorem rss_lit3 {w:World} (A1 A2 A3:Option Addr) (c1 c2 c3:Nat) (x1 x2 x3:List Int) (h1:Rs w w.heap.size A1 (ints x1)) (h2:Rs w w.heap.size A2 (ints x2)) (h3:Rs w w.heap.size A3 (ints x3)) :
  RSS (w.alloc (.cells #[.slice A1 x1.length c1,.slice A2 x2.length c2,.slice A3 x3.length c3] 34)) 0 (w.heap.size+1) (some ⟨w.heap.size,0,none⟩) [x1,x2,x3]:=by
 have hk:∀ {A:Option Addr} {x:List Int},Rs w w.heap.size A (ints x)→RV (w.alloc (.cells #[.slice A1 x1.length c1,.slice A2 x2.length c2,.slice A3 x3.length c3] 34)) 0 (w.heap.size+1) A (ints x):=fun h=>by
  refine ⟨by simp,fun hn=>?_⟩;obtain ⟨b,off,e,hb,hc⟩:=(h.alloc (Nat.le_refl _) (.cells #[.slice A1 x1.length c1,.slice A2 x2.length c2,.slice A3 x3.length c3] 34)) hn;exact ⟨b,off,e,Nat.zero_le _,by omega,hc⟩
 refine ⟨[⟨A1,c1,x1⟩,⟨A2,c2,x2⟩,⟨A3,c3,x3⟩],rfl,⟨by simp,fun _=>⟨w.heap.size,0,rfl,Nat.zero_le _,Nat.lt_succ_self _,fun j u hu=>?_⟩⟩,fun r hr=>?_⟩
 ·rw [Nat.zero_add,World.cell?_alloc_new]
  simpa [rowsV,Row.v] using hu
 ·simp at hr
  rcases hr with rfl | rfl | rfl
  ·exact hk h1
  ·exact hk h2
  ·exact hk h3
end
section
open Go.RowKit
def Marks (n:Nat) (bs:List Value) (st:BS):Prop:=bs.length=n∧∀ u:Nat,u < n→bs[u]?=some (.bool (decide ((u:Int)∈st.map Prod.fst)))
theorem Marks.none (n:Nat):Marks n (List.replicate n (.bool false)) []:=⟨by simp,fun u hu=>by simp [hu]⟩
theorem Marks.set {n t:Nat} {bs:List Value} {st:BS} {wd:List Int} (h:Marks n bs st) (ht:t < n):Marks n (bs.set t (.bool true)) (st++[((t:Int),wd)]):=by
 refine ⟨by rw [List.length_set];exact h.1,fun u hu=>?_⟩;by_cases hut:u=t
 ·subst hut
  rw [List.getElem?_set_self (by rw [h.1];exact ht)];simp
 ·rw [List.getElem?_set_ne (Ne.symm hut),h.2 u hu]
  have h1:¬ (u:Int)=(t:Int):=by omega
  simp [h1]
theorem TreeSt.other {w:World} {g n gs tt:Nat} {oB:Option Nat} {vals:List Value} {st:BS} {v:Value} (h:TreeSt w g oB n vals st) (hb:∃ b,w.cell? ⟨gs,0,none⟩=some (.bool b)):TreeSt (w.setCell ⟨gs,tt,none⟩ v) g oB n vals st:=by
 refine ⟨h.len,fun p hp=>?_,h.off⟩;obtain ⟨b,c,h1,h2,h3,h4,h5⟩:=h.on p hp;refine ⟨b,c,h1,fun j u hu=>?_,h3,h4,by simpa using h5⟩;have hbg:b≠gs:=by
  intro e;subst e;have hj:=(List.getElem?_eq_some_iff.1 hu).1;rw [ints_len] at hj;have hl:0 < p.2.length:=by omega
  have h6:=h2 0 (.int .i64 p.2[0]) (by rw [ints_get,List.getElem?_eq_getElem hl];rfl);obtain ⟨bb,h7⟩:=hb;rw [h7] at h6;cases h6
 exact (World.cell?_setCell_other w _ _ v (by intro e;injection e with e;exact hbg e.symm)).trans (h2 j u hu)
theorem spec_l5Search (r n:Nat) (A:Option Addr) (es:List Ed) (c:Nat) (w:World) (lo hi:Nat) (hr:RG w lo hi A es) (hg:IsGr r n es) (hn1:0 < n) :
  Calls Tryz.prog 218 #[graV r n A es.length c,.int .i64 0] w fun e w'=>∃ gs gw bs vals oB,e=.returned (.tuple #[.slice (some ⟨gs,0,none⟩) n n,.slice (some ⟨gw,0,none⟩) n n])∧Mid 0 0 w w' ∧
   w'.ownsRow w.heap.size 4 1 (.slice (some ⟨gs,0,none⟩) n n) n bs∧Marks n bs (bfs es (lets r) 0)∧w'.ownsRow w.heap.size 34 1 (.slice (some ⟨gw,0,none⟩) n n) n vals∧TreeSt w' gw oB n vals (bfs es (lets r) 0):=by
 have hn40:n≤40:=by have:=hg.size;omega
 have hr3:r≤3:=by have:=hg.rank;omega
 have hl:=hg.len;have hmx:n≤maxLen:=by unfold maxLen;omega
 have hgl:∀ e∈es,1≤e.l∧e.l≤3:=fun e he=>by have:=hg.all e he;unfold InG at this;omega
 have hm0:Mid 0 0 w (w.alloc (.cells #[.int .i64 r,.int .i64 n,.slice A es.length c] 26)):=Mid.alloc _ _;have B0:=Box.new w #[.int .i64 r,.int .i64 n,.slice A es.length c] 26;have HG:=Lib.hid hg;have HGL:=Lib.hid hgl;have hv0:(0:Int)≤0:=Int.le_refl _;have hv3:(0:Int) < (n:Int):=by omega
 clear hg hgl;have p0:=B0.cell 0 rfl;have p1:=B0.cell 1 rfl;have p2:=B0.cell 2 rfl;go_enter Tryz.func218,Tryz.ntmps218
 go_wp2_with (at_make;refine MarkerX.to ?_)
 generalize w.alloc (.cells #[.int .i64 r,.int .i64 n,.slice A es.length c] 26)=w1 at hm0 B0 p0 p1 p2 ⊢;have hs1:w.heap.size < w1.heap.size:=B0.1;unfold MarkerX;refine wpList_mk rfl _ _ 124 rfl 4 (.bool false) 1 undSB infoB rfl .i64 .i64 _ _ n rfl rfl rfl rfl (by omega) hmx ?_;intro w2 hown2 hgr2 hsz2;have hm2:=Mid.of_grown (lo:=0) (hi:=0) hgr2 (by intro g h;cases h);clear p0 p1 p2;replace B0:=B0.mid hm2 oZr;replace hm0:=hm0.trans hm2;have p0:=B0.cell 0 rfl;have p1:=B0.cell 1 rfl;have p2:=B0.cell 2 rfl;go_wp2_with (at_make;refine MarkerX.to ?_)
 unfold MarkerX;refine wpList_mk rfl _ _ 41 rfl 34 (.slice none 0 0) 24 undSSI infoSI rfl .i64 .i64 _ _ n rfl rfl rfl rfl (by omega) hmx ?_;intro w3 hown3 hgr3 hsz3;have hm3:=Mid.of_grown (lo:=0) (hi:=0) hgr3 (by intro g h;cases h);clear p0 p1 p2;replace B0:=B0.mid hm3 oZr;replace hown2:=owns_mid hown2 hm3 oZl;replace hm0:=hm0.trans hm3;have hne:¬ w1.heap.size=w2.heap.size:=by omega
 have hfs:=hown2.frozenAt 0;have hfw:=hown3.frozenAt 0;have hcs:=hown2.cellAt 0 (by omega);have hcw:=hown3.cellAt 0 (by omega);rw [List.getElem?_replicate,if_pos hn1] at hcs hcw;generalize w1.heap.size=gs at hown2 hfs hcs hne hs1 hsz2 ⊢;generalize hgw:w2.heap.size=gw at hown3 hfw hcw hne hsz2 hsz3 ⊢;have p0:=B0.cell 0 rfl;have p1:=B0.cell 1 rfl;have p2:=B0.cell 2 rfl;have hbw:¬ gs=w.heap.size:=by omega
 have hbw2:¬ gw=w.heap.size:=by omega
 have hmA:=Mid.setAt w3 gs 0 (.bool true);have hBA:=B0.mid hmA (Or.inl hs1);have hmB:=Mid.setAt (w3.setCell ⟨gs,0,none⟩ (.bool true)) gw 0 (.slice (some ⟨w3.heap.size,0,none⟩) 0 0);have hBB:=hBA.mid hmB (Or.inl (by omega));have hBC:=hBB.mid (Mid.alloc ((w3.setCell ⟨gs,0,none⟩ (.bool true)).setCell ⟨gw,0,none⟩ (.slice (some ⟨w3.heap.size,0,none⟩) 0 0)) (.cells #[] 3)) oZr;have hBD:=hBC.mid (Mid.alloc (((w3.setCell ⟨gs,0,none⟩ (.bool true)).setCell ⟨gw,0,none⟩ (.slice (some ⟨w3.heap.size,0,none⟩) 0 0)).alloc (.cells #[] 3)) (.cells #[.int .i64 0] 3)) oZr;have hsA:=owns_set hown2 0 (.bool true) rfl;have hwA:=hown3.kept (grown_of_setCell w3 gs 0 (.bool true)) (owns_ne hown3 hown2 (by decide));have hsB:=hsA.kept (grown_of_setCell (w3.setCell ⟨gs,0,none⟩ (.bool true)) gw 0 (.slice (some ⟨w3.heap.size,0,none⟩) 0 0)) (owns_ne hsA hwA (by decide));have hwB:=owns_set hwA 0 (.slice (some ⟨w3.heap.size,0,none⟩) 0 0) rfl;have hsD:=(hsB.alloc (.cells #[] 3)).alloc (.cells #[.int .i64 0] 3);have hwD:=(hwB.alloc (.cells #[] 3)).alloc (.cells #[.int .i64 0] 3);have hmD:=(((hm0.storeNew (p:=⟨gs,0,none⟩) (by show w.heap.size≤gs;omega) (.bool true)).storeNew (p:=⟨gw,0,none⟩) (by show w.heap.size≤gw;omega) (.slice (some ⟨w3.heap.size,0,none⟩) 0 0)).trans (Mid.alloc ((w3.setCell ⟨gs,0,none⟩ (.bool true)).setCell ⟨gw,0,none⟩ (.slice (some ⟨w3.heap.size,0,none⟩) 0 0)) (.cells #[] 3))).trans (Mid.alloc (((w3.setCell ⟨gs,0,none⟩ (.bool true)).setCell ⟨gw,0,none⟩ (.slice (some ⟨w3.heap.size,0,none⟩) 0 0)).alloc (.cells #[] 3)) (.cells #[.int .i64 0] 3));have T0:TreeSt ((w3.setCell ⟨gs,0,none⟩ (.bool true)).alloc (.cells #[] 3)) gw (some (w3.heap.size+1)) n (List.replicate n (.slice none 0 0)) []:=⟨by simp,by simp,fun u hu _=>by simp [hu]⟩
 have T1:=T0.set (t:=0) (b:=w3.heap.size) (c:=0) (wd:=[]) hn1 (by simp) (by simp) (by simp [ints]) (by omega) (by intro e;have:=Option.some.inj e;omega) (by simp);have heq:((w3.setCell ⟨gs,0,none⟩ (.bool true)).alloc (.cells #[] 3)).setCell ⟨gw,0,none⟩ (.slice (some ⟨w3.heap.size,0,none⟩) 0 0)=((w3.setCell ⟨gs,0,none⟩ (.bool true)).setCell ⟨gw,0,none⟩ (.slice (some ⟨w3.heap.size,0,none⟩) 0 0)).alloc (.cells #[] 3):=by go_simp
 simp only [List.length_nil,List.nil_append] at T1;have h00:((0:Nat):Int)=0:=rfl;rw [h00] at T1;rw [heq] at T1;have T2:=T1.mid (a:=0) (b:=0) (Mid.alloc (((w3.setCell ⟨gs,0,none⟩ (.bool true)).setCell ⟨gw,0,none⟩ (.slice (some ⟨w3.heap.size,0,none⟩) 0 0)).alloc (.cells #[] 3)) (.cells #[.int .i64 0] 3));have hM0:=(Marks.none n).set (t:=0) (wd:=[]) hn1;rw [h00,List.nil_append] at hM0;have hsX:(((w3.setCell ⟨gs,0,none⟩ (.bool true)).setCell ⟨gw,0,none⟩ (.slice (some ⟨w3.heap.size,0,none⟩) 0 0)).alloc (.cells #[] 3)).heap.size=w3.heap.size+1:=by simp
 have O2:((((w3.setCell ⟨gs,0,none⟩ (.bool true)).setCell ⟨gw,0,none⟩ (.slice (some ⟨w3.heap.size,0,none⟩) 0 0)).alloc (.cells #[] 3)).alloc (.cells #[.int .i64 0] 3)).ownsRow (w3.heap.size+1) 3 1 (.slice (some ⟨w3.heap.size+1,0,none⟩) 1 1) 1 (ints [(0:Int)]):=by rw [← hsX];exact World.ownsRow_lit (size:=1) (((w3.setCell ⟨gs,0,none⟩ (.bool true)).setCell ⟨gw,0,none⟩ (.slice (some ⟨w3.heap.size,0,none⟩) 0 0)).alloc (.cells #[] 3)) #[.int .i64 0] 1 (Nat.le_refl _) (by simp [maxLen]) (by simp)
 clear p0 p1 p2;have p0:=hBD.cell 0 rfl;have p1:=hBD.cell 1 rfl;have p2:=hBD.cell 2 rfl;clear hmA hBA hmB hBB hBC hsA hwA hsB hwB T0 T1 heq B0 hm0 hsX;go_wp2_with fail;generalize hw4:(((w3.setCell ⟨gs,0,none⟩ (.bool true)).setCell ⟨gw,0,none⟩ (.slice (some ⟨w3.heap.size,0,none⟩) 0 0)).alloc (.cells #[] 3)).alloc (.cells #[.int .i64 0] 3)=w4 at hBD hsD hwD hmD T2 O2 p0 p1 p2 ⊢;clear hw4 hgr2 hgr3 hm2 hm3 hown2 hown3 hfs hfw hcs hcw hgw;have HS:=Lib.hid hsD;have HM:=Lib.hid hM0;have HT:=Lib.hid T2;generalize (List.replicate n (Value.bool false)).set 0 (.bool true)=bs0 at HS HM;generalize (List.replicate n (Value.slice none 0 0)).set 0 (.slice (some ⟨w3.heap.size,0,none⟩) 0 0)=vals0 at hwD HT;have hq4:w3.heap.size+1 < w4.heap.size:=(O2.lt _ rfl).2;clear hsD hM0 T2;with_reducible refine (spec_l5Letters r _ (by omega)).mono ?_
 rintro en w5 ⟨A4,c4,rfl,hL4,hm5⟩;have hs5:=hm5.size;clear p0 p1 p2;replace hBD:=hBD.mid hm5 oZr;replace O2:=owns_mid O2 hm5 oZl;replace hwD:=owns_mid hwD hm5 oZl;replace hmD:=hmD.trans hm5;replace HS:=Lib.hid (owns_mid HS.out hm5 oZl);replace HT:=Lib.hid (HT.out.mid (a:=0) (b:=0) hm5);have HLL:=Lib.hid (lets_len r);obtain ⟨LL,hLL⟩:∃ LL,(lets r).length=LL:=⟨_,rfl⟩
 have hLL6:LL≤6:=by have:=HLL.out;omega
 rw [hLL];have HLn:=Lib.hid hLL;have HL4:=Lib.hid hL4;have HT1:Hid (TreeSt w5 gw (Value.ownBlock (.slice (some (⟨w3.heap.size+1,0,none⟩:Addr)) 1 1)) n vals0 (bfsSt es (lets r) 0 0)):=Lib.hid HT.out;have HM1:Hid (Marks n bs0 (bfsSt es (lets r) 0 0)):=Lib.hid HM.out;have HW1:=Lib.hid hwD;have HD0:Hid (∀ g,Value.ownBlock (.slice (some (⟨w3.heap.size+1,0,none⟩:Addr)) 1 1)=some g→g < w4.heap.size ∨ w5.heap.size≤g):=Lib.hid (fun g hg=>.inl (by have:=Option.some.inj (show some (w3.heap.size+1)=some g from hg);omega));have HQ:=Lib.hid (show w5.ownsRow (gw+1) 3 1 (.slice (some ⟨w3.heap.size+1,0,none⟩) 1 1) 1 (ints ((bfsSt es (lets r) 0 0).map Prod.fst)) from owns_base O2 (by omega));have hgL:gw < w4.heap.size:=by omega
 clear hLL hL4 hm5 O2 HT HM hwD;generalize (some (⟨w3.heap.size+1,0,none⟩:Addr))=Q0 at HQ HD0 HT1 ⊢;generalize w4.heap.size=L4 at HL4 HD0 hgL;generalize w5.heap.size=H4 at HL4 HD0;go_wp2_with fail;go_loopw [8,10] (fun ord iv wr=>∃ (i n1:Nat) (A1:Option Addr) (c1:Nat) (vals bs:List Value),i≤n1∧iv=.int .i64 i∧ord=.slice A1 n1 c1∧Hid ((bfsSt es (lets r) 0 i).length=n1)∧Hid (wr.ownsRow (gw+1) 3 1 (.slice A1 n1 c1) n1 (ints ((bfsSt es (lets r) 0 i).map Prod.fst)))∧Hid (wr.ownsRow gw 34 1 (.slice (some ⟨gw,0,none⟩) n n) n vals)∧Hid (wr.ownsRow gs 4 1 (.slice (some ⟨gs,0,none⟩) n n) n bs)∧Hid (Marks n bs (bfsSt es (lets r) 0 i))∧Hid (TreeSt wr gw (Value.ownBlock (.slice A1 n1 c1)) n vals (bfsSt es (lets r) 0 i))∧Hid (RV wr L4 H4 A4 (ints (lets r)))∧Hid (∀ g,Value.ownBlock (.slice A1 n1 c1)=some g→g < L4 ∨ H4≤g)∧Box wr w.heap.size [.int .i64 r,.int .i64 n,.slice A es.length c]∧Mid 0 0 w wr) (fun _ i _=>(41 - intOf i).toNat)
 case atStart=>exact ⟨0,1,Q0,1,vals0,bs0,Nat.zero_le _,rfl,rfl,Lib.hid rfl,HQ,HW1,HS,HM1,HT1,HL4,HD0,hBD,hmD⟩
 case round =>
  clear HQ HW1 HS HM1 HT1 HL4 HD0 hBD hmD;obtain ⟨wo,hwo⟩:∃ wo,wo=wr:=⟨_,rfl⟩
  subst hwo;obtain ⟨i,n1,A1,c1,vals,bs,hin,rfl,rfl,HN,HQ,HW,HS,HM,HT,HL4,HD,bx,hm⟩:=hrel;have hok:=bfsSt_ok (L:=lets r) HG.out.all hv0 hv3 i;have hn1:n1≤40:=by have h1:=hok.len (by omega);have h2:=HN.out;omega
  have HOK:=Lib.hid hok;clear hok;by_cases hlt:i < n1
  ·obtain ⟨p,hp⟩:=get_of_lt (bfsSt es (lets r) 0 i) (show i < (bfsSt es (lets r) 0 i).length by rw [HN.out];exact hlt)
   have hrng:=HOK.out.rng p (List.mem_of_getElem? hp);obtain ⟨pu,wd⟩:=p;simp only at hrng;obtain ⟨u,rfl⟩:∃ u:Nat,pu=u:=⟨pu.toNat,by omega⟩
   have hun:u < n:=by omega
   have hwl:=HOK.out.wl i _ hp;simp only at hwl;have HP:=Lib.hid hp;have hNX:=Lib.hid (bfsSt_next hp);have hi0:(0:Int)≤(i:Int):=by omega
   clear hp;go_wp2_with fail;go_loopw [8,11] (fun ord jv wr=>∃ (j n1:Nat) (A1:Option Addr) (c1:Nat) (vals bs:List Value),j≤LL∧jv=.int .i64 j∧ord=.slice A1 n1 c1∧Hid ((bfsRow es ((lets r).take j) ((u:Int),wd) (bfsSt es (lets r) 0 i)).length=n1)∧Hid (wr.ownsRow (gw+1) 3 1 (.slice A1 n1 c1) n1 (ints ((bfsRow es ((lets r).take j) ((u:Int),wd) (bfsSt es (lets r) 0 i)).map Prod.fst)))∧Hid (wr.ownsRow gw 34 1 (.slice (some ⟨gw,0,none⟩) n n) n vals)∧Hid (wr.ownsRow gs 4 1 (.slice (some ⟨gs,0,none⟩) n n) n bs)∧Hid (Marks n bs (bfsRow es ((lets r).take j) ((u:Int),wd) (bfsSt es (lets r) 0 i)))∧Hid (TreeSt wr gw (Value.ownBlock (.slice A1 n1 c1)) n vals (bfsRow es ((lets r).take j) ((u:Int),wd) (bfsSt es (lets r) 0 i)))∧Hid (RV wr L4 H4 A4 (ints (lets r)))∧Hid (∀ g,Value.ownBlock (.slice A1 n1 c1)=some g→g < L4 ∨ H4≤g)∧Box wr w.heap.size [.int .i64 r,.int .i64 n,.slice A es.length c]∧Mid 0 0 w wr) (fun _ j _=>LL - (intOf j).toNat)
   case atStart=>exact ⟨0,n1,_,c1,vals,bs,Nat.zero_le _,rfl,rfl,by rw [List.take_zero];exact HN,by rw [List.take_zero];exact HQ,HW,HS,by rw [List.take_zero];exact HM,by rw [List.take_zero];exact HT,HL4,HD,bx,hm⟩
   case round =>
    clear HQ HW HS HM HT HL4 HD bx hm;obtain ⟨j,n1,A1,c1,vals,bs,hj,rfl,rfl,HN,HQ,HW,HS,HM,HT,HL4,HD,bx,hm⟩:=hrel;obtain ⟨stj,hstj⟩:∃ st,bfsRow es ((lets r).take j) ((u:Int),wd) (bfsSt es (lets r) 0 i)=st:=⟨_,rfl⟩
    have hokj:BfsOk n (lets r) stj:=by rw [← hstj];exact BfsOk.row HG.out.all _ (fun x hx=>List.mem_of_mem_take hx) HOK.out HP.out
    have hpj:stj[i]?=some ((u:Int),wd):=by rw [← hstj];exact prefix_get (bfsRow_pre _ _ _ _) HP.out
    rw [hstj] at HN HQ HM HT;have hn1b:n1≤40:=by have h1:=hokj.len (by omega);have h2:=HN.out;omega
    by_cases hlt2:j < LL
    ·obtain ⟨B4,o4,x,rfl,hB4,hx,hcx⟩:=HL4.out.at (k:=j) (by rw [HLn.out];exact hlt2)
     have hxm:=lets_le (List.mem_of_getElem? hx);have hnx:=bfsRow_take (es:=es) (p:=((u:Int),wd)) (st:=bfsSt es (lets r) 0 i) hx;rw [hstj] at hnx;simp only at hnx;have hj0:(0:Int)≤(j:Int):=by omega
     have hj1:(j:Int) < (LL:Int):=by omega
     have hil:i < n1:=by have h1:=(List.getElem?_eq_some_iff.1 hpj).1;have h2:=HN.out;omega
     have hi1:(i:Int) < (n1:Int):=by omega
     obtain ⟨g1,rfl,hg1,hg1s⟩:=owns_addr HQ.out (show 0 < n1 by omega);have hcu:wr.cell? ⟨g1,i,none⟩=some (.int .i64 u):=(HQ.out.cellAt i (by omega)).trans (by rw [ints_get,List.getElem?_map,hpj];rfl);have hB4s:B4 < wr.heap.size:=Nat.lt_of_lt_of_le hB4 HL4.out.1;have hcs:=nextV_cases HG.out.all (u:Int) x;obtain ⟨bw,cw,hvw,hrvw⟩:=HT.out.word (List.mem_of_getElem? hpj);simp only [Int.toNat_natCast] at hvw hrvw;have HVW:=Lib.hid hvw;have HOJ:=Lib.hid hokj;have HXJ:=Lib.hid hx;have HPJ:=Lib.hid hpj;have HCX:=Lib.hid hcx;have HCU:=Lib.hid hcu;have k0:=wg_cell bx.1 (bx.cell 0 rfl);have k1:=wg_cell bx.1 (bx.cell 1 rfl);have k2:=wg_cell bx.1 (bx.cell 2 rfl);have k3:=wg_cell hg1s hcu;have k4:=wg_cell hB4s hcx;have hA:=fun m os=>spec_NextVertex r n A es c u x (wg wr m os) lo hi (hr.mid (hm.trans (Mid.ofWg wr m os)) oZl) (by omega) HGL.out (by omega) (by omega);clear hx hokj hpj hstj hcu hcx hvw;go_wp2_with fail;refine wp_region_quiet_wg (by kernel_rfl) (by kernel_rfl) ?_;repeat
      (with_reducible refine wpQuiet_step (fun K hK=>?_))
      go_simp
      first
       | ((with_reducible refine hK _ ?_);clear hK K)
       | (rw [if_neg (by decide)];(with_reducible refine hK _ ?_);clear hK K)
       | (apply Exists.intro;refine ⟨fun _=>?_,hK _ ?_⟩;((go_at_call 138;exact Calls.wg_of (hA _ _)));clear hK K)
     with_reducible refine wpQuiet_nil ?_
     intro _ hw';obtain ⟨⟨nq,osq⟩,hw''⟩:=hw';subst hw'';have hwg:=Mid.ofWg wr nq osq;have HCX6:=Lib.hid (cell_keep hwg hB4s oZr HCX.out);have HCU6:=Lib.hid (cell_keep hwg hg1s oZr HCU.out);generalize wg wr nq osq=w6 at hwg HCX6 HCU6 ⊢;have hswg:=hwg.size;replace bx:=bx.mid hwg oZr;replace hm:=hm.trans hwg;replace HQ:=Lib.hid (owns_mid HQ.out hwg oZl);replace HW:=Lib.hid (owns_mid HW.out hwg oZl);replace HS:=Lib.hid (owns_mid HS.out hwg oZl);replace HT:=Lib.hid (HT.out.mid (a:=0) (b:=0) hwg);replace HL4:=Lib.hid (HL4.out.mid hwg oZl);replace hrvw:=(hrvw.mid hwg oZl).wide (Nat.le_refl _) hwg.size (Nat.le_refl _);generalize htx:nextV es (u:Int) x=tt at hnx hcs ⊢;clear k0 k1 k2 k3 k4 hA HCX HCU;by_cases ht0:tt < 0
     ·have b1:decide (0≤tt)=false:=by simp;omega
      have HNX:=Lib.hid (hnx.trans (by rw [bfsStep,htx,if_pos (.inl ht0)]:bfsStep es (u:Int) wd stj x=stj));clear hnx hcs ht0 htx hrvw;go_wp2_with fail;go_roundw
      case rel=>exact ⟨j+1,n1,_,c1,vals,bs,by omega,by go_num,rfl,by rw [HNX.out];exact HN,by rw [HNX.out];exact HQ,HW,HS,by rw [HNX.out];exact HM,by rw [HNX.out];exact HT,HL4,HD,bx,hm⟩
      case measure=>simp [intOf];omega
     ·obtain ⟨tn,rfl⟩:∃ tn:Nat,tt=tn:=⟨tt.toNat,by omega⟩
      have htn:tn < n:=by omega
      have ht1:(tn:Int) < (n:Int):=by omega
      have ht2:(0:Int)≤(tn:Int):=by omega
      have b1:decide (0≤(tn:Int))=true:=by simp
      have hcse:w6.cell? ⟨gs,tn,none⟩=some (.bool (decide ((tn:Int)∈stj.map Prod.fst))):=(HS.out.cellAt tn (by omega)).trans (HM.out.2 tn htn);clear hcs ht0;by_cases hmem:(tn:Int)∈stj.map Prod.fst
      ·rw [decide_eq_true hmem] at hcse
       have HNX:=Lib.hid (hnx.trans (by rw [bfsStep,htx,if_pos (.inr hmem)]:bfsStep es (u:Int) wd stj x=stj));clear hnx htx hmem hrvw;go_wp2_with fail;go_roundw
       case rel=>exact ⟨j+1,n1,_,c1,vals,bs,by omega,by go_num,rfl,by rw [HNX.out];exact HN,by rw [HNX.out];exact HQ,HW,HS,by rw [HNX.out];exact HM,by rw [HNX.out];exact HT,HL4,HD,bx,hm⟩
       case measure=>simp [intOf];omega
      ·rw [decide_eq_false hmem] at hcse
       have HNX:=Lib.hid (hnx.trans (by rw [bfsStep,htx,if_neg (fun h=>h.elim (fun h=>by omega) hmem)]:bfsStep es (u:Int) wd stj x=stj++[((tn:Int),wd++[x])]));have HMEM:=Lib.hid hmem;have hfse:=HS.out.frozenAt tn;clear hnx htx hmem;have hbb0:∃ b,w6.cell? ⟨gs,0,none⟩=some (.bool b):=⟨_,(HS.out.cellAt 0 (by omega)).trans (HM.out.2 0 (by omega))⟩
       have hmS:=Mid.setAt w6 gs tn (.bool true);have HT7:=Lib.hid (HT.out.other (tt:=tn) (v:=.bool true) hbb0);have HS7:=Lib.hid (owns_set HS.out tn (.bool true) rfl);have HM7:=Lib.hid (HM.out.set (wd:=wd++[x]) htn);have HW7:=Lib.hid (owns_mid HW.out hmS (Or.inl (by omega)));have HQ7:=Lib.hid (owns_mid HQ.out hmS (Or.inl (by omega)));have HL7:=Lib.hid (HL4.out.mid hmS (Or.inl (by omega)));have bx7:=bx.mid hmS (Or.inl hs1);have hm7:=hm.storeNew (p:=⟨gs,tn,none⟩) (by show w.heap.size≤gs;omega) (.bool true);have hcu7:=cell_keep hmS (show g1 < w6.heap.size by omega) (Or.inr (by omega)) HCU6.out;have hsz7:(w6.setCell ⟨gs,tn,none⟩ (.bool true)).heap.size=w6.heap.size:=by simp [World.setCell]
       clear hrvw HQ HS HW HT HL4 bx hm hmS hbb0;go_wp2_with fail;generalize w6.setCell ⟨gs,tn,none⟩ (.bool true)=w7 at HT7 HS7 HW7 HQ7 HL7 bx7 hm7 hcu7 hsz7 ⊢;have hmd:=Mid.drew1 w7;have HT8:=Lib.hid (HT7.out.mid (a:=0) (b:=0) hmd);have HS8:=Lib.hid (owns_mid HS7.out hmd oZl);have HW8:=Lib.hid (owns_mid HW7.out hmd oZl);have HQ8:=Lib.hid (owns_mid HQ7.out hmd oZl);have HL8:=Lib.hid (HL7.out.mid hmd oZl);have bx8:=bx7.mid hmd oZr;have hm8:=hm7.trans hmd;have hsd:=hmd.size;have qaz:=cell_keep hmd (show g1 < w7.heap.size by omega) oZr hcu7;obtain ⟨bw2,cw2,hvw2,hrv2⟩:=HT8.out.word (List.mem_of_getElem? HPJ.out);simp only [Int.toNat_natCast] at hvw2 hrv2;have qbz:(World.drew w7).cell? ⟨gw,u,none⟩=some (.slice (some ⟨bw2,0,none⟩) wd.length cw2):=(HW8.out.cellAt u (by omega)).trans hvw2;have qcz:(World.drew w7).cell? ⟨B4,o4+j,none⟩=some (.int .i64 x):=by
        obtain ⟨B',o',x',hA', -,hx',hc'⟩:=HL8.out.at (k:=j) (by rw [HLn.out];exact hlt2);injection hA' with hA'
        injection hA' with e1 e2
        subst e1 e2;rw [HXJ.out] at hx';injection hx' with hx'
        subst hx';exact hc'
       have haz:g1 < (World.drew w7).heap.size:=by omega
       have hbz:gw < (World.drew w7).heap.size:=(HW8.out.lt _ rfl).2;have hcz:B4 < (World.drew w7).heap.size:=by omega
       have hrvz:=hrv2.wide (lo':=0) (hi':=(World.drew w7).heap.size) (Nat.zero_le _) (Nat.le_refl _) (Nat.le_refl _);have hu0:(0:Int)≤(u:Int):=by omega
       have hu1:(u:Int) < (n:Int):=by omega
       have hlaw:(ints wd).length=wd.length * 1:=by rw [ints_len];omega
       have hone1:∀ u∈[Value.int .i64 x],u.oneCell'=true:=by
        intro u hu;simp at hu;subst hu
        rfl
       have hmx1:wd.length+1≤maxLen:=by unfold maxLen;omega
       have hby1:(wd.length+1) * 8≤140737488355328:=by omega
       have hmx3:0+wd.length≤maxLen:=by unfold maxLen;omega
       have hby3:(0+wd.length) * 8≤140737488355328:=by omega
       clear HT7 HS7 HW7 HQ7 HL7 bx7 hm7 hcu7 hmd hvw2 hrv2;refine wp_region_Z (S:=(fun w'=>w'.cell? ⟨g1,i,none⟩=some (.int .i64 (u:Int))∧w'.cell? ⟨gw,u,none⟩=some (.slice (some ⟨bw2,0,none⟩) wd.length cw2)∧w'.cell? ⟨B4,o4+j,none⟩=some (.int .i64 x))) [18] (by kernel_rfl) ⟨qaz,qbz,qcz⟩ ?_;generalize World.drew w7=wz at HT8 HS8 HW8 HQ8 HL8 bx8 hm8 hsd qaz qbz qcz haz hbz hcz hrvz ⊢;have hSz:wz.cell? ⟨g1,i,none⟩=some (.int .i64 (u:Int))∧wz.cell? ⟨gw,u,none⟩=some (.slice (some ⟨bw2,0,none⟩) wd.length cw2)∧wz.cell? ⟨B4,o4+j,none⟩=some (.int .i64 x):=⟨qaz,qbz,qcz⟩
       refine tkZ [17,18] 0 rfl hSz ?_;try simp only [Act.put,zs1,zs2,zs3,zs4,zs5,zs6]
       refine tkZ [17,18] 1 rfl hSz ?_;try simp only [Act.put,zs1,zs2,zs3,zs4,zs5,zs6]
       refine tkZ [8,9,10,16,18] 3 rfl hSz ?_;try simp only [Act.put,zs1,zs2,zs3,zs4,zs5,zs6]
       refine tkZ [6,7,8,9,10,16,18] 4 rfl hSz ?_;try simp only [Act.put,zs1,zs2,zs3,zs4,zs5,zs6]
       refine tkZ [6,7,8,9,10,16,18] 5 rfl hSz ?_;try simp only [Act.put,zs1,zs2,zs3,zs4,zs5,zs6]
       refine tkZ [7,8,9,10,16,18] 6 rfl hSz ?_;try simp only [Act.put,zs1,zs2,zs3,zs4,zs5,zs6]
       refine tkZ [8,9,10,16,18] 7 rfl hSz ?_;try simp only [Act.put,zs1,zs2,zs3,zs4,zs5,zs6]
       refine tkZ [9,10,16,18] 8 rfl hSz ?_;try simp only [Act.put,zs1,zs2,zs3,zs4,zs5,zs6]
       refine tkZ [10,16,18] 9 rfl hSz ?_;try simp only [Act.put,zs1,zs2,zs3,zs4,zs5,zs6]
       refine tkZ [13,14,15,16,18] 11 rfl hSz ?_;try simp only [Act.put,zs1,zs2,zs3,zs4,zs5,zs6]
       refine tkZ [13,14,15,16,18] 12 rfl hSz ?_;try simp only [Act.put,zs1,zs2,zs3,zs4,zs5,zs6]
       refine tkZ [14,15,16,18] 13 rfl hSz ?_;try simp only [Act.put,zs1,zs2,zs3,zs4,zs5,zs6]
       refine tkZ [15,16,18] 14 rfl hSz ?_;try simp only [Act.put,zs1,zs2,zs3,zs4,zs5,zs6]
       clear hSz;refine wpAnyZ_ready (rs:=[2,15]) (by kernel_rfl) (by simp) (AllReadyZ.cons rfl (fun K hK=>?_) (AllReadyZ.cons rfl (fun K hK=>?_) AllReadyZ.nil))
       ·go_simp
        refine hK.out _ _ (Or.inr ⟨cell_keep (Mid.alloc wz (.cells #[] 3)) haz oZr qaz,cell_keep (Mid.alloc wz (.cells #[] 3)) hbz oZr qbz,cell_keep (Mid.alloc wz (.cells #[] 3)) hcz oZr qcz⟩) (fun _=>?_);clear hK K;try simp only [Act.put,zs1,zs2,zs3,zs4,zs5,zs6]
        have hal1:=Mid.alloc wz (.cells #[] 3);have e1:=owns_empty wz 3 1;have hr1:=hrvz.mid hal1 oZl;have qaa:=cell_keep hal1 haz oZr qaz;have qba:=cell_keep hal1 hbz oZr qbz;have qca:=cell_keep hal1 hcz oZr qcz;have haa:g1 < (wz.alloc (.cells #[] 3)).heap.size:=Nat.lt_of_lt_of_le haz hal1.size;have hba:gw < (wz.alloc (.cells #[] 3)).heap.size:=Nat.lt_of_lt_of_le hbz hal1.size;have hca:B4 < (wz.alloc (.cells #[] 3)).heap.size:=Nat.lt_of_lt_of_le hcz hal1.size;have hlt1:wz.heap.size < (wz.alloc (.cells #[] 3)).heap.size:=by simp
        generalize wz.alloc (.cells #[] 3)=wa at hal1 e1 hr1 qaa qba qca haa hba hca hlt1 ⊢;have hbs3:wz.heap.size≤wa.heap.size:=by omega
        refine wpAnyZ_ready (rs:=[10,15]) (by kernel_rfl) (by simp) (AllReadyZ.cons rfl (fun K hK=>?_) (AllReadyZ.cons rfl (fun K hK=>?_) AllReadyZ.nil))
        ·(refine step_cat (by rfl) (.tmp 67) (.tmp 74) 34 (by rfl) wz.heap.size 3 (.int .i64 0) 1 8 undSI infoI rfl (by decide) _ 0 _ (by rfl) e1 (some ⟨bw2,0,none⟩) wd.length cw2 _ (ints wd) (by rfl) hr1.rs hlaw (one_of_ints _) hmx3 hby3 hbs3 ?_;intro v3 w3x ho3 hgr3 hat3;obtain ⟨A3x,c3x,rfl, -, -⟩:=owns_shape ho3)
         refine hK.out _ _ (Or.inr ⟨cell_keep (Mid.of_grownRow e1 hgr3) haa (Or.inl haz) qaa,cell_keep (Mid.of_grownRow e1 hgr3) hba (Or.inl hbz) qba,cell_keep (Mid.of_grownRow e1 hgr3) hca (Or.inl hcz) qca⟩) (fun _=>?_);clear hK K;try simp only [Act.put,zs1,zs2,zs3,zs4,zs5,zs6]
         try rw [Nat.zero_add,List.nil_append] at ho3
         try rw [Nat.zero_add]
         have hm3:=hal1.transNew (Mid.of_grownRow e1 hgr3) (Or.inl (Nat.le_refl _));have qab:=cell_keep (Mid.of_grownRow e1 hgr3) haa (Or.inl haz) qaa;have qbb:=cell_keep (Mid.of_grownRow e1 hgr3) hba (Or.inl hbz) qba;have qcb:=cell_keep (Mid.of_grownRow e1 hgr3) hca (Or.inl hcz) qca;have hab:g1 < w3x.heap.size:=Nat.lt_of_lt_of_le haa (Mid.of_grownRow e1 hgr3).size;have hbb:gw < w3x.heap.size:=Nat.lt_of_lt_of_le hba (Mid.of_grownRow e1 hgr3).size;have hcb:B4 < w3x.heap.size:=Nat.lt_of_lt_of_le hca (Mid.of_grownRow e1 hgr3).size;clear hal1 e1 hr1 hgr3 hat3 hbs3 qaa qba qca;refine rdZ 15 rfl (fun K hK=>?_);go_simp;refine hK.out _ _ (Or.inr ⟨cell_keep (Mid.alloc w3x (.cells #[.int .i64 x] 3)) hab oZr qab,cell_keep (Mid.alloc w3x (.cells #[.int .i64 x] 3)) hbb oZr qbb,cell_keep (Mid.alloc w3x (.cells #[.int .i64 x] 3)) hcb oZr qcb⟩) (fun _=>?_);clear hK K;try simp only [Act.put,zs1,zs2,zs3,zs4,zs5,zs6]
         have hal8:=Mid.alloc w3x (.cells #[.int .i64 x] 3);have qac:=cell_keep hal8 hab oZr qab;have qbc:=cell_keep hal8 hbb oZr qbb;have qcc:=cell_keep hal8 hcb oZr qcb;have hac:g1 < (w3x.alloc (.cells #[.int .i64 x] 3)).heap.size:=Nat.lt_of_lt_of_le hab hal8.size;have hbc:gw < (w3x.alloc (.cells #[.int .i64 x] 3)).heap.size:=Nat.lt_of_lt_of_le hbb hal8.size;have hcc:B4 < (w3x.alloc (.cells #[.int .i64 x] 3)).heap.size:=Nat.lt_of_lt_of_le hcb hal8.size;have hmc:=hm3.trans hal8;have hrow:=ho3.alloc (.cells #[.int .i64 x] 3);have hone:=rs_one (w:=w3x.alloc (.cells #[.int .i64 x] 3)) (p:=w3x.heap.size) (v:=.int .i64 x) (World.cell?_alloc_at _ _ _ _ rfl);generalize w3x.alloc (.cells #[.int .i64 x] 3)=wc at hal8 hmc hrow hone qac qbc qcc hac hbc hcc ⊢;clear hal8 ho3 hm3 qab qbb qcb;refine rdZ 16 rfl (fun K hK=>?_)
         (refine step_cat (by rfl) (.tmp 75) (.tmp 80) 34 (by rfl) wz.heap.size 3 (.int .i64 0) 1 8 undSI infoI rfl (by decide) (.slice A3x wd.length c3x) wd.length _ (by rfl) hrow (some ⟨w3x.heap.size,0,none⟩) 1 1 _ [.int .i64 x] (by rfl) hone rfl hone1 hmx1 hby1 hmc.size ?_;intro v9 w9 ho9 hgr9 hat9;obtain ⟨A9x,c9x,rfl, -, -⟩:=owns_shape ho9)
         refine hK.out _ _ (Or.inr ⟨cell_keep (Mid.of_grownRow hrow hgr9) hac (Or.inl haz) qac,cell_keep (Mid.of_grownRow hrow hgr9) hbc (Or.inl hbz) qbc,cell_keep (Mid.of_grownRow hrow hgr9) hcc (Or.inl hcz) qcc⟩) (fun _=>?_);clear hK K;try simp only [Act.put,zs1,zs2,zs3,zs4,zs5,zs6]
         have hm9:=hmc.transNew (Mid.of_grownRow hrow hgr9) (Or.inl (Nat.le_refl _));have qa9:=cell_keep (Mid.of_grownRow hrow hgr9) hac (Or.inl haz) qac;have qb9:=cell_keep (Mid.of_grownRow hrow hgr9) hbc (Or.inl hbz) qbc;have qc9:=cell_keep (Mid.of_grownRow hrow hgr9) hcc (Or.inl hcz) qcc;obtain ⟨g9,rfl,hg9a,hg9b⟩:=owns_addr ho9 (Nat.succ_pos _);have HC9:Hid (∀ jj uu,(ints (wd++[x]))[jj]?=some uu→w9.cell? ⟨g9,jj,none⟩=some uu):=Lib.hid (fun jj uu hu=>by
          have hlj:=(List.getElem?_eq_some_iff.1 hu).1;rw [ints_len,List.length_append] at hlj;rw [ints_append] at hu;exact (ho9.cellAt jj (by simp at hlj;omega)).trans hu)
         have HW9:=Lib.hid (owns_mid HW8.out hm9 oZl);have HT9:=Lib.hid (HT8.out.mid (a:=0) (b:=0) hm9);have HS9:=Lib.hid (owns_mid HS8.out hm9 oZl);have HQ9:=Lib.hid (owns_mid HQ8.out hm9 oZl);have HL9:=Lib.hid (HL8.out.mid hm9 oZl);have bx9:=bx8.mid hm9 oZr;have hm09:=hm8.trans hm9;have hval:=HT8.out.off tn htn HMEM.out;have hct9:w9.cell? ⟨gw,tn,none⟩=some (.slice none 0 0):=(HW9.out.cellAt tn (by omega)).trans hval;have hfz9:=HW9.out.frozenAt tn;have hqb:=(HQ8.out.lt g1 rfl).2;clear ho9 hgr9 hat9 hrow hone hmc HW8 HT8 HS8 HQ8 HL8 bx8 hm8 hval;have hmW:=Mid.setAt w9 gw tn (.slice (some ⟨g9,0,none⟩) (wd.length+1) c9x);have T10:=HT9.out.set (t:=tn) (b:=g9) (c:=c9x) (wd:=wd++[x]) htn HMEM.out (fun p hp=>(HOJ.out.rng p hp).1) HC9.out (by omega) (fun e=>by have:=Option.some.inj (show some g1=some g9 from e);omega) hg9b;rw [show (wd++[x]).length=wd.length+1 by simp] at T10;have HT10:=Lib.hid T10;have HW10:=Lib.hid (owns_set HW9.out tn (.slice (some ⟨g9,0,none⟩) (wd.length+1) c9x) rfl);have HS10:=Lib.hid (HS9.out.kept (grown_of_setCell w9 gw tn (.slice (some ⟨g9,0,none⟩) (wd.length+1) c9x)) (owns_ne HS9.out HW9.out (by decide)));have HQ10:=Lib.hid (owns_mid HQ9.out hmW (Or.inl (Nat.le_refl _)));have HL10:=Lib.hid (HL9.out.mid hmW (Or.inl (by omega)));have bx10:=bx9.mid hmW (Or.inl (by omega));have hm010:=hm09.storeNew (p:=⟨gw,tn,none⟩) (by show w.heap.size≤gw;omega) (.slice (some ⟨g9,0,none⟩) (wd.length+1) c9x);have hsz10:=hmW.size;clear T10 HW9 HS9 HQ9 HL9 bx9 hm09 HT9 HC9 hmW;refine rdZ 17 rfl (fun K hK=>?_);go_simp;refine hK.out _ _ (Or.inr ⟨qa9,qb9,qc9⟩) (fun _=>?_);clear hK K;try simp only [Act.put,zs1,zs2,zs3,zs4,zs5,zs6]
         clear qa9 qb9 qc9;refine rdZ 18 rfl (fun K hK=>?_);go_simp;refine hK.out _ _ (Or.inl (by simp)) (fun _=>?_);clear hK K;try simp only [Act.put,zs1,zs2,zs3,zs4,zs5,zs6]
         generalize w9.setCell ⟨gw,tn,none⟩ (.slice (some ⟨g9,0,none⟩) (wd.length+1) c9x)=w10 at HT10 HW10 HS10 HQ10 HL10 bx10 hm010 hsz10 ⊢;clear hct9 hfz9;refine wpAnyZ_done (by kernel_rfl) ?_ _;go_wp2_with (at_builtin;refine MarkerX.to ?_)
         unfold MarkerX;refine wpList_pushI2 rfl _ _ rfl (gw+1) _ n1 c1 (stj.map Prod.fst) rfl HQ10.out tn rfl (by omega) (by omega) ?_;intro A11 c11 w11 hq11 hgr11 hat11;have hmap:(stj++[((tn:Int),wd++[x])]).map Prod.fst=stj.map Prod.fst++[(tn:Int)]:=by simp
         rw [← hmap,← HNX.out] at hq11;have HQ11:=Lib.hid hq11;have HW11:=Lib.hid (HW10.out.kept hgr11 (owns_ne HW10.out HQ10.out (by decide)));have HS11:=Lib.hid (HS10.out.kept hgr11 (owns_ne HS10.out HQ10.out (by decide)));have hT11:=HT10.out.grow hgr11 (oB':=Value.ownBlock (.slice A11 (n1+1) c11)) (hat11.imp id fun h=>⟨_,h,by omega⟩);rw [← HNX.out] at hT11;have HT11:=Lib.hid hT11;have hM11:=HM7.out;rw [← HNX.out] at hM11;have HM11:=Lib.hid hM11;have HL11:=Lib.hid (HL10.out.grown hgr11 HD.out);have bx11:=bx10.grown hgr11 (by intro h0;have:=Option.some.inj (show some g1=some w.heap.size from h0);omega);have hm11:=hm010.grownNew hgr11 (fun g hg=>by have:=Option.some.inj (show some g1=some g from hg);omega);have HN11:Hid ((bfsRow es ((lets r).take (j+1)) ((u:Int),wd) (bfsSt es (lets r) 0 i)).length=n1+1):=Lib.hid (by rw [HNX.out,List.length_append,HN.out];rfl);have hH10:H4≤w10.heap.size:=HL10.out.1;have HD11:Hid (∀ g,Value.ownBlock (.slice A11 (n1+1) c11)=some g→g < L4 ∨ H4≤g):=Lib.hid (by
          intro g hg;rcases hat11 with h | h
          ·exact HD.out g (h.symm.trans hg)
          ·rw [h] at hg
           have:=Option.some.inj hg;omega)
         clear hq11 hgr11 hat11 hmap hT11 hM11 HQ10 HW10 HS10 HT10 HL10 bx10 hm010 HD;go_wp2_with fail;go_roundw
         case rel=>exact ⟨j+1,n1+1,A11,c11,_,_,by omega,by go_num,rfl,HN11,HQ11,HW11,HS11,HM11,HT11,HL11,HD11,bx11,hm11⟩
         case measure=>simp [intOf];omega
        ·go_simp
         refine hK.out _ _ (Or.inr ⟨cell_keep (Mid.alloc wa (.cells #[.int .i64 x] 3)) haa oZr qaa,cell_keep (Mid.alloc wa (.cells #[.int .i64 x] 3)) hba oZr qba,cell_keep (Mid.alloc wa (.cells #[.int .i64 x] 3)) hca oZr qca⟩) (fun _=>?_);clear hK K;try simp only [Act.put,zs1,zs2,zs3,zs4,zs5,zs6]
         have hal8:=Mid.alloc wa (.cells #[.int .i64 x] 3);have qab:=cell_keep hal8 haa oZr qaa;have qbb:=cell_keep hal8 hba oZr qba;have qcb:=cell_keep hal8 hca oZr qca;have hab:g1 < (wa.alloc (.cells #[.int .i64 x] 3)).heap.size:=Nat.lt_of_lt_of_le haa hal8.size;have hbb:gw < (wa.alloc (.cells #[.int .i64 x] 3)).heap.size:=Nat.lt_of_lt_of_le hba hal8.size;have hcb:B4 < (wa.alloc (.cells #[.int .i64 x] 3)).heap.size:=Nat.lt_of_lt_of_le hca hal8.size;have hmb:=hal1.trans hal8;replace e1:=e1.alloc (.cells #[.int .i64 x] 3);replace hr1:=hr1.mid hal8 oZl;have c8:(wa.alloc (.cells #[.int .i64 x] 3)).cell? ⟨wa.heap.size,0,none⟩=some (.int .i64 x):=World.cell?_alloc_at _ _ _ _ rfl;have hlt8:wa.heap.size < (wa.alloc (.cells #[.int .i64 x] 3)).heap.size:=by simp
         generalize wa.alloc (.cells #[.int .i64 x] 3)=wb at hal8 hmb e1 hr1 c8 qab qbb qcb hab hbb hcb hlt8 ⊢;replace hbs3:wz.heap.size≤wb.heap.size:=by omega
         clear hal1 hal8 qaa qba qca;refine rdZ 10 rfl (fun K hK=>?_)
         (refine step_cat (by rfl) (.tmp 67) (.tmp 74) 34 (by rfl) wz.heap.size 3 (.int .i64 0) 1 8 undSI infoI rfl (by decide) _ 0 _ (by rfl) e1 (some ⟨bw2,0,none⟩) wd.length cw2 _ (ints wd) (by rfl) hr1.rs hlaw (one_of_ints _) hmx3 hby3 hbs3 ?_;intro v3 w3x ho3 hgr3 hat3;obtain ⟨A3x,c3x,rfl, -, -⟩:=owns_shape ho3)
         refine hK.out _ _ (Or.inr ⟨cell_keep (Mid.of_grownRow e1 hgr3) hab (Or.inl haz) qab,cell_keep (Mid.of_grownRow e1 hgr3) hbb (Or.inl hbz) qbb,cell_keep (Mid.of_grownRow e1 hgr3) hcb (Or.inl hcz) qcb⟩) (fun _=>?_);clear hK K;try simp only [Act.put,zs1,zs2,zs3,zs4,zs5,zs6]
         try rw [Nat.zero_add,List.nil_append] at ho3
         try rw [Nat.zero_add]
         have qac:=cell_keep (Mid.of_grownRow e1 hgr3) hab (Or.inl haz) qab;have qbc:=cell_keep (Mid.of_grownRow e1 hgr3) hbb (Or.inl hbz) qbb;have qcc:=cell_keep (Mid.of_grownRow e1 hgr3) hcb (Or.inl hcz) qcb;have hac:g1 < w3x.heap.size:=Nat.lt_of_lt_of_le hab (Mid.of_grownRow e1 hgr3).size;have hbc:gw < w3x.heap.size:=Nat.lt_of_lt_of_le hbb (Mid.of_grownRow e1 hgr3).size;have hcc:B4 < w3x.heap.size:=Nat.lt_of_lt_of_le hcb (Mid.of_grownRow e1 hgr3).size;have hmc:=hmb.transNew (Mid.of_grownRow e1 hgr3) (Or.inl (Nat.le_refl _));have hrow:=ho3;have hone:=rs_one (cell_grown hgr3 hlt8 (own_ne (by omega)) c8);generalize w3x=wc at hmc hrow hone qac qbc qcc hac hbc hcc ⊢;clear hmb e1 hr1 c8 hgr3 hat3 ho3 qab qbb qcb;refine rdZ 16 rfl (fun K hK=>?_)
         (refine step_cat (by rfl) (.tmp 75) (.tmp 80) 34 (by rfl) wz.heap.size 3 (.int .i64 0) 1 8 undSI infoI rfl (by decide) (.slice A3x wd.length c3x) wd.length _ (by rfl) hrow (some ⟨wa.heap.size,0,none⟩) 1 1 _ [.int .i64 x] (by rfl) hone rfl hone1 hmx1 hby1 hmc.size ?_;intro v9 w9 ho9 hgr9 hat9;obtain ⟨A9x,c9x,rfl, -, -⟩:=owns_shape ho9)
         refine hK.out _ _ (Or.inr ⟨cell_keep (Mid.of_grownRow hrow hgr9) hac (Or.inl haz) qac,cell_keep (Mid.of_grownRow hrow hgr9) hbc (Or.inl hbz) qbc,cell_keep (Mid.of_grownRow hrow hgr9) hcc (Or.inl hcz) qcc⟩) (fun _=>?_);clear hK K;try simp only [Act.put,zs1,zs2,zs3,zs4,zs5,zs6]
         have hm9:=hmc.transNew (Mid.of_grownRow hrow hgr9) (Or.inl (Nat.le_refl _));have qa9:=cell_keep (Mid.of_grownRow hrow hgr9) hac (Or.inl haz) qac;have qb9:=cell_keep (Mid.of_grownRow hrow hgr9) hbc (Or.inl hbz) qbc;have qc9:=cell_keep (Mid.of_grownRow hrow hgr9) hcc (Or.inl hcz) qcc;obtain ⟨g9,rfl,hg9a,hg9b⟩:=owns_addr ho9 (Nat.succ_pos _);have HC9:Hid (∀ jj uu,(ints (wd++[x]))[jj]?=some uu→w9.cell? ⟨g9,jj,none⟩=some uu):=Lib.hid (fun jj uu hu=>by
          have hlj:=(List.getElem?_eq_some_iff.1 hu).1;rw [ints_len,List.length_append] at hlj;rw [ints_append] at hu;exact (ho9.cellAt jj (by simp at hlj;omega)).trans hu)
         have HW9:=Lib.hid (owns_mid HW8.out hm9 oZl);have HT9:=Lib.hid (HT8.out.mid (a:=0) (b:=0) hm9);have HS9:=Lib.hid (owns_mid HS8.out hm9 oZl);have HQ9:=Lib.hid (owns_mid HQ8.out hm9 oZl);have HL9:=Lib.hid (HL8.out.mid hm9 oZl);have bx9:=bx8.mid hm9 oZr;have hm09:=hm8.trans hm9;have hval:=HT8.out.off tn htn HMEM.out;have hct9:w9.cell? ⟨gw,tn,none⟩=some (.slice none 0 0):=(HW9.out.cellAt tn (by omega)).trans hval;have hfz9:=HW9.out.frozenAt tn;have hqb:=(HQ8.out.lt g1 rfl).2;clear ho9 hgr9 hat9 hrow hone hmc HW8 HT8 HS8 HQ8 HL8 bx8 hm8 hval;have hmW:=Mid.setAt w9 gw tn (.slice (some ⟨g9,0,none⟩) (wd.length+1) c9x);have T10:=HT9.out.set (t:=tn) (b:=g9) (c:=c9x) (wd:=wd++[x]) htn HMEM.out (fun p hp=>(HOJ.out.rng p hp).1) HC9.out (by omega) (fun e=>by have:=Option.some.inj (show some g1=some g9 from e);omega) hg9b;rw [show (wd++[x]).length=wd.length+1 by simp] at T10;have HT10:=Lib.hid T10;have HW10:=Lib.hid (owns_set HW9.out tn (.slice (some ⟨g9,0,none⟩) (wd.length+1) c9x) rfl);have HS10:=Lib.hid (HS9.out.kept (grown_of_setCell w9 gw tn (.slice (some ⟨g9,0,none⟩) (wd.length+1) c9x)) (owns_ne HS9.out HW9.out (by decide)));have HQ10:=Lib.hid (owns_mid HQ9.out hmW (Or.inl (Nat.le_refl _)));have HL10:=Lib.hid (HL9.out.mid hmW (Or.inl (by omega)));have bx10:=bx9.mid hmW (Or.inl (by omega));have hm010:=hm09.storeNew (p:=⟨gw,tn,none⟩) (by show w.heap.size≤gw;omega) (.slice (some ⟨g9,0,none⟩) (wd.length+1) c9x);have hsz10:=hmW.size;clear T10 HW9 HS9 HQ9 HL9 bx9 hm09 HT9 HC9 hmW;refine rdZ 17 rfl (fun K hK=>?_);go_simp;refine hK.out _ _ (Or.inr ⟨qa9,qb9,qc9⟩) (fun _=>?_);clear hK K;try simp only [Act.put,zs1,zs2,zs3,zs4,zs5,zs6]
         clear qa9 qb9 qc9;refine rdZ 18 rfl (fun K hK=>?_);go_simp;refine hK.out _ _ (Or.inl (by simp)) (fun _=>?_);clear hK K;try simp only [Act.put,zs1,zs2,zs3,zs4,zs5,zs6]
         generalize w9.setCell ⟨gw,tn,none⟩ (.slice (some ⟨g9,0,none⟩) (wd.length+1) c9x)=w10 at HT10 HW10 HS10 HQ10 HL10 bx10 hm010 hsz10 ⊢;clear hct9 hfz9;refine wpAnyZ_done (by kernel_rfl) ?_ _;go_wp2_with (at_builtin;refine MarkerX.to ?_)
         unfold MarkerX;refine wpList_pushI2 rfl _ _ rfl (gw+1) _ n1 c1 (stj.map Prod.fst) rfl HQ10.out tn rfl (by omega) (by omega) ?_;intro A11 c11 w11 hq11 hgr11 hat11;have hmap:(stj++[((tn:Int),wd++[x])]).map Prod.fst=stj.map Prod.fst++[(tn:Int)]:=by simp
         rw [← hmap,← HNX.out] at hq11;have HQ11:=Lib.hid hq11;have HW11:=Lib.hid (HW10.out.kept hgr11 (owns_ne HW10.out HQ10.out (by decide)));have HS11:=Lib.hid (HS10.out.kept hgr11 (owns_ne HS10.out HQ10.out (by decide)));have hT11:=HT10.out.grow hgr11 (oB':=Value.ownBlock (.slice A11 (n1+1) c11)) (hat11.imp id fun h=>⟨_,h,by omega⟩);rw [← HNX.out] at hT11;have HT11:=Lib.hid hT11;have hM11:=HM7.out;rw [← HNX.out] at hM11;have HM11:=Lib.hid hM11;have HL11:=Lib.hid (HL10.out.grown hgr11 HD.out);have bx11:=bx10.grown hgr11 (by intro h0;have:=Option.some.inj (show some g1=some w.heap.size from h0);omega);have hm11:=hm010.grownNew hgr11 (fun g hg=>by have:=Option.some.inj (show some g1=some g from hg);omega);have HN11:Hid ((bfsRow es ((lets r).take (j+1)) ((u:Int),wd) (bfsSt es (lets r) 0 i)).length=n1+1):=Lib.hid (by rw [HNX.out,List.length_append,HN.out];rfl);have hH10:H4≤w10.heap.size:=HL10.out.1;have HD11:Hid (∀ g,Value.ownBlock (.slice A11 (n1+1) c11)=some g→g < L4 ∨ H4≤g):=Lib.hid (by
          intro g hg;rcases hat11 with h | h
          ·exact HD.out g (h.symm.trans hg)
          ·rw [h] at hg
           have:=Option.some.inj hg;omega)
         clear hq11 hgr11 hat11 hmap hT11 hM11 HQ10 HW10 HS10 HT10 HL10 bx10 hm010 HD;go_wp2_with fail;go_roundw
         case rel=>exact ⟨j+1,n1+1,A11,c11,_,_,by omega,by go_num,rfl,HN11,HQ11,HW11,HS11,HM11,HT11,HL11,HD11,bx11,hm11⟩
         case measure=>simp [intOf];omega
       ·go_simp
        refine hK.out _ _ (Or.inr ⟨cell_keep (Mid.alloc wz (.cells #[.int .i64 x] 3)) haz oZr qaz,cell_keep (Mid.alloc wz (.cells #[.int .i64 x] 3)) hbz oZr qbz,cell_keep (Mid.alloc wz (.cells #[.int .i64 x] 3)) hcz oZr qcz⟩) (fun _=>?_);clear hK K;try simp only [Act.put,zs1,zs2,zs3,zs4,zs5,zs6]
        have hal8:=Mid.alloc wz (.cells #[.int .i64 x] 3);have qab:=cell_keep hal8 haz oZr qaz;have qbb:=cell_keep hal8 hbz oZr qbz;have qcb:=cell_keep hal8 hcz oZr qcz;have hab:g1 < (wz.alloc (.cells #[.int .i64 x] 3)).heap.size:=Nat.lt_of_lt_of_le haz hal8.size;have hbb:gw < (wz.alloc (.cells #[.int .i64 x] 3)).heap.size:=Nat.lt_of_lt_of_le hbz hal8.size;have hcb:B4 < (wz.alloc (.cells #[.int .i64 x] 3)).heap.size:=Nat.lt_of_lt_of_le hcz hal8.size;have hr8:=hrvz.mid hal8 oZl;have c8:(wz.alloc (.cells #[.int .i64 x] 3)).cell? ⟨wz.heap.size,0,none⟩=some (.int .i64 x):=World.cell?_alloc_at _ _ _ _ rfl;have hlt8:wz.heap.size < (wz.alloc (.cells #[.int .i64 x] 3)).heap.size:=by simp
        generalize wz.alloc (.cells #[.int .i64 x] 3)=wb at hal8 hr8 c8 qab qbb qcb hab hbb hcb hlt8 ⊢;refine rdZ 2 rfl (fun K hK=>?_);go_simp;refine hK.out _ _ (Or.inr ⟨cell_keep (Mid.alloc wb (.cells #[] 3)) hab oZr qab,cell_keep (Mid.alloc wb (.cells #[] 3)) hbb oZr qbb,cell_keep (Mid.alloc wb (.cells #[] 3)) hcb oZr qcb⟩) (fun _=>?_);clear hK K;try simp only [Act.put,zs1,zs2,zs3,zs4,zs5,zs6]
        have hal1:=Mid.alloc wb (.cells #[] 3);have e1:=owns_empty wb 3 1;have hr1:=hr8.mid hal1 oZl;have c1x:=cell_keep hal1 hlt8 oZr c8;have qaa:=cell_keep hal1 hab oZr qab;have qba:=cell_keep hal1 hbb oZr qbb;have qca:=cell_keep hal1 hcb oZr qcb;have haa:g1 < (wb.alloc (.cells #[] 3)).heap.size:=Nat.lt_of_lt_of_le hab hal1.size;have hba:gw < (wb.alloc (.cells #[] 3)).heap.size:=Nat.lt_of_lt_of_le hbb hal1.size;have hca:B4 < (wb.alloc (.cells #[] 3)).heap.size:=Nat.lt_of_lt_of_le hcb hal1.size;have hma:=hal8.trans hal1;have hlt1:wb.heap.size < (wb.alloc (.cells #[] 3)).heap.size:=by simp
        generalize wb.alloc (.cells #[] 3)=wa at hal1 e1 hr1 c1x qaa qba qca haa hba hca hma hlt1 ⊢;have hbs3:wb.heap.size≤wa.heap.size:=by omega
        clear hal8 hal1 hr8 c8;refine rdZ 10 rfl (fun K hK=>?_)
        (refine step_cat (by rfl) (.tmp 67) (.tmp 74) 34 (by rfl) wb.heap.size 3 (.int .i64 0) 1 8 undSI infoI rfl (by decide) _ 0 _ (by rfl) e1 (some ⟨bw2,0,none⟩) wd.length cw2 _ (ints wd) (by rfl) hr1.rs hlaw (one_of_ints _) hmx3 hby3 hbs3 ?_;intro v3 w3x ho3 hgr3 hat3;obtain ⟨A3x,c3x,rfl, -, -⟩:=owns_shape ho3)
        refine hK.out _ _ (Or.inr ⟨cell_keep (Mid.of_grownRow e1 hgr3) haa (Or.inl hab) qaa,cell_keep (Mid.of_grownRow e1 hgr3) hba (Or.inl hbb) qba,cell_keep (Mid.of_grownRow e1 hgr3) hca (Or.inl hcb) qca⟩) (fun _=>?_);clear hK K;try simp only [Act.put,zs1,zs2,zs3,zs4,zs5,zs6]
        try rw [Nat.zero_add,List.nil_append] at ho3
        try rw [Nat.zero_add]
        have qac:=cell_keep (Mid.of_grownRow e1 hgr3) haa (Or.inl hab) qaa;have qbc:=cell_keep (Mid.of_grownRow e1 hgr3) hba (Or.inl hbb) qba;have qcc:=cell_keep (Mid.of_grownRow e1 hgr3) hca (Or.inl hcb) qca;have hac:g1 < w3x.heap.size:=Nat.lt_of_lt_of_le haa (Mid.of_grownRow e1 hgr3).size;have hbc:gw < w3x.heap.size:=Nat.lt_of_lt_of_le hba (Mid.of_grownRow e1 hgr3).size;have hcc:B4 < w3x.heap.size:=Nat.lt_of_lt_of_le hca (Mid.of_grownRow e1 hgr3).size;have hmc:=hma.transNew (Mid.of_grownRow e1 hgr3) (Or.inl (by omega));have hrow:=owns_base ho3 (show wz.heap.size≤wb.heap.size by omega);have hone:=rs_one (cell_grown hgr3 (show wz.heap.size < wa.heap.size by omega) (own_ne (by omega)) c1x);generalize w3x=wc at hmc hrow hone qac qbc qcc hac hbc hcc ⊢;clear e1 hr1 c1x hma hgr3 hat3 ho3 qaa qba qca qab qbb qcb;refine rdZ 16 rfl (fun K hK=>?_)
        (refine step_cat (by rfl) (.tmp 75) (.tmp 80) 34 (by rfl) wz.heap.size 3 (.int .i64 0) 1 8 undSI infoI rfl (by decide) (.slice A3x wd.length c3x) wd.length _ (by rfl) hrow (some ⟨wz.heap.size,0,none⟩) 1 1 _ [.int .i64 x] (by rfl) hone rfl hone1 hmx1 hby1 hmc.size ?_;intro v9 w9 ho9 hgr9 hat9;obtain ⟨A9x,c9x,rfl, -, -⟩:=owns_shape ho9)
        refine hK.out _ _ (Or.inr ⟨cell_keep (Mid.of_grownRow hrow hgr9) hac (Or.inl haz) qac,cell_keep (Mid.of_grownRow hrow hgr9) hbc (Or.inl hbz) qbc,cell_keep (Mid.of_grownRow hrow hgr9) hcc (Or.inl hcz) qcc⟩) (fun _=>?_);clear hK K;try simp only [Act.put,zs1,zs2,zs3,zs4,zs5,zs6]
        have hm9:=hmc.transNew (Mid.of_grownRow hrow hgr9) (Or.inl (Nat.le_refl _));have qa9:=cell_keep (Mid.of_grownRow hrow hgr9) hac (Or.inl haz) qac;have qb9:=cell_keep (Mid.of_grownRow hrow hgr9) hbc (Or.inl hbz) qbc;have qc9:=cell_keep (Mid.of_grownRow hrow hgr9) hcc (Or.inl hcz) qcc;obtain ⟨g9,rfl,hg9a,hg9b⟩:=owns_addr ho9 (Nat.succ_pos _);have HC9:Hid (∀ jj uu,(ints (wd++[x]))[jj]?=some uu→w9.cell? ⟨g9,jj,none⟩=some uu):=Lib.hid (fun jj uu hu=>by
         have hlj:=(List.getElem?_eq_some_iff.1 hu).1;rw [ints_len,List.length_append] at hlj;rw [ints_append] at hu;exact (ho9.cellAt jj (by simp at hlj;omega)).trans hu)
        have HW9:=Lib.hid (owns_mid HW8.out hm9 oZl);have HT9:=Lib.hid (HT8.out.mid (a:=0) (b:=0) hm9);have HS9:=Lib.hid (owns_mid HS8.out hm9 oZl);have HQ9:=Lib.hid (owns_mid HQ8.out hm9 oZl);have HL9:=Lib.hid (HL8.out.mid hm9 oZl);have bx9:=bx8.mid hm9 oZr;have hm09:=hm8.trans hm9;have hval:=HT8.out.off tn htn HMEM.out;have hct9:w9.cell? ⟨gw,tn,none⟩=some (.slice none 0 0):=(HW9.out.cellAt tn (by omega)).trans hval;have hfz9:=HW9.out.frozenAt tn;have hqb:=(HQ8.out.lt g1 rfl).2;clear ho9 hgr9 hat9 hrow hone hmc HW8 HT8 HS8 HQ8 HL8 bx8 hm8 hval;have hmW:=Mid.setAt w9 gw tn (.slice (some ⟨g9,0,none⟩) (wd.length+1) c9x);have T10:=HT9.out.set (t:=tn) (b:=g9) (c:=c9x) (wd:=wd++[x]) htn HMEM.out (fun p hp=>(HOJ.out.rng p hp).1) HC9.out (by omega) (fun e=>by have:=Option.some.inj (show some g1=some g9 from e);omega) hg9b;rw [show (wd++[x]).length=wd.length+1 by simp] at T10;have HT10:=Lib.hid T10;have HW10:=Lib.hid (owns_set HW9.out tn (.slice (some ⟨g9,0,none⟩) (wd.length+1) c9x) rfl);have HS10:=Lib.hid (HS9.out.kept (grown_of_setCell w9 gw tn (.slice (some ⟨g9,0,none⟩) (wd.length+1) c9x)) (owns_ne HS9.out HW9.out (by decide)));have HQ10:=Lib.hid (owns_mid HQ9.out hmW (Or.inl (Nat.le_refl _)));have HL10:=Lib.hid (HL9.out.mid hmW (Or.inl (by omega)));have bx10:=bx9.mid hmW (Or.inl (by omega));have hm010:=hm09.storeNew (p:=⟨gw,tn,none⟩) (by show w.heap.size≤gw;omega) (.slice (some ⟨g9,0,none⟩) (wd.length+1) c9x);have hsz10:=hmW.size;clear T10 HW9 HS9 HQ9 HL9 bx9 hm09 HT9 HC9 hmW;refine rdZ 17 rfl (fun K hK=>?_);go_simp;refine hK.out _ _ (Or.inr ⟨qa9,qb9,qc9⟩) (fun _=>?_);clear hK K;try simp only [Act.put,zs1,zs2,zs3,zs4,zs5,zs6]
        clear qa9 qb9 qc9;refine rdZ 18 rfl (fun K hK=>?_);go_simp;refine hK.out _ _ (Or.inl (by simp)) (fun _=>?_);clear hK K;try simp only [Act.put,zs1,zs2,zs3,zs4,zs5,zs6]
        generalize w9.setCell ⟨gw,tn,none⟩ (.slice (some ⟨g9,0,none⟩) (wd.length+1) c9x)=w10 at HT10 HW10 HS10 HQ10 HL10 bx10 hm010 hsz10 ⊢;clear hct9 hfz9;refine wpAnyZ_done (by kernel_rfl) ?_ _;go_wp2_with (at_builtin;refine MarkerX.to ?_)
        unfold MarkerX;refine wpList_pushI2 rfl _ _ rfl (gw+1) _ n1 c1 (stj.map Prod.fst) rfl HQ10.out tn rfl (by omega) (by omega) ?_;intro A11 c11 w11 hq11 hgr11 hat11;have hmap:(stj++[((tn:Int),wd++[x])]).map Prod.fst=stj.map Prod.fst++[(tn:Int)]:=by simp
        rw [← hmap,← HNX.out] at hq11;have HQ11:=Lib.hid hq11;have HW11:=Lib.hid (HW10.out.kept hgr11 (owns_ne HW10.out HQ10.out (by decide)));have HS11:=Lib.hid (HS10.out.kept hgr11 (owns_ne HS10.out HQ10.out (by decide)));have hT11:=HT10.out.grow hgr11 (oB':=Value.ownBlock (.slice A11 (n1+1) c11)) (hat11.imp id fun h=>⟨_,h,by omega⟩);rw [← HNX.out] at hT11;have HT11:=Lib.hid hT11;have hM11:=HM7.out;rw [← HNX.out] at hM11;have HM11:=Lib.hid hM11;have HL11:=Lib.hid (HL10.out.grown hgr11 HD.out);have bx11:=bx10.grown hgr11 (by intro h0;have:=Option.some.inj (show some g1=some w.heap.size from h0);omega);have hm11:=hm010.grownNew hgr11 (fun g hg=>by have:=Option.some.inj (show some g1=some g from hg);omega);have HN11:Hid ((bfsRow es ((lets r).take (j+1)) ((u:Int),wd) (bfsSt es (lets r) 0 i)).length=n1+1):=Lib.hid (by rw [HNX.out,List.length_append,HN.out];rfl);have hH10:H4≤w10.heap.size:=HL10.out.1;have HD11:Hid (∀ g,Value.ownBlock (.slice A11 (n1+1) c11)=some g→g < L4 ∨ H4≤g):=Lib.hid (by
         intro g hg;rcases hat11 with h | h
         ·exact HD.out g (h.symm.trans hg)
         ·rw [h] at hg
          have:=Option.some.inj hg;omega)
        clear hq11 hgr11 hat11 hmap hT11 hM11 HQ10 HW10 HS10 HT10 HL10 bx10 hm010 HD;go_wp2_with fail;go_roundw
        case rel=>exact ⟨j+1,n1+1,A11,c11,_,_,by omega,by go_num,rfl,HN11,HQ11,HW11,HS11,HM11,HT11,HL11,HD11,bx11,hm11⟩
        case measure=>simp [intOf];omega
    ·obtain rfl:j=LL:=by omega
     have htk:(lets r).take j=lets r:=List.take_of_length_le (by rw [HLn.out];exact Nat.le_refl _);rw [htk] at hstj;have hnx:=hNX.out;rw [hstj] at hnx;have HNX:=Lib.hid hnx;have hin1:i+1≤n1:=by have h1:=(List.getElem?_eq_some_iff.1 hpj).1;have h2:=HN.out;omega
     clear hnx hstj hpj;go_wp2_with fail;go_roundw
     case rel=>exact ⟨i+1,n1,A1,c1,vals,bs,hin1,by go_num,rfl,by rw [HNX.out];exact HN,by rw [HNX.out];exact HQ,HW,HS,by rw [HNX.out];exact HM,by rw [HNX.out];exact HT,HL4,HD,bx,hm⟩
     case measure=>simp [intOf];omega
  ·obtain rfl:i=n1:=by omega
   have hbf:=bfs_eq (L:=lets r) HG.out.all hv0 hv3 (by omega) HN.out;have HBF:=Lib.hid hbf;clear hbf;go_wp2_with fail;go_ret2;exact ⟨gs,gw,bs,vals,_,rfl,hm,owns_base HS.out (by omega),by rw [HBF.out];exact HM.out,owns_base HW.out (by omega),by rw [HBF.out];exact HT.out⟩
end
section
open Go.RowKit
theorem spec_PathWord (r n v:Nat) (A:Option Addr) (es:List Ed) (c:Nat) (w:World) (lo hi:Nat) (hr:RG w lo hi A es) (hco:IsCor r n es) (hv:v < n) :
  Calls Tryz.prog 190 #[graV r n A es.length c,.int .i64 0,.int .i64 v] w fun e w'=>∃ A1 c1,e=.returned (.tuple #[.slice A1 (wordV r es v).length c1,.bool true])∧w'.ownsRow w.heap.size 3 1 (.slice A1 (wordV r es v).length c1) (wordV r es v).length (ints (wordV r es v))∧Mid 0 0 w w':=by
 have hn1:0 < n:=by omega
 have hn40:n≤40:=by have:=hco.gr.size;omega
 have hl:=hco.gr.len;have HCO:=Lib.hid hco;have hmem:=wordV_mem hco hv;obtain ⟨hwl, -⟩:=wordV_ok hco hv;generalize hW:wordV r es (v:Int)=wd at hmem hwl ⊢;have HME:=Lib.hid hmem;clear hco hmem hW;have hm0:Mid 0 0 w (w.alloc (.cells #[.int .i64 r,.int .i64 n,.slice A es.length c] 26)):=Mid.alloc _ _;have B0:=Box.new w #[.int .i64 r,.int .i64 n,.slice A es.length c] 26;have hib0:inB 0 0 ((n:Int) - 1)=true:=by unfold inB;simp;omega
 have hibv:inB (v:Int) 0 ((n:Int) - 1)=true:=by unfold inB;simp;omega
 have p0:=B0.cell 0 rfl;have p1:=B0.cell 1 rfl;have p2:=B0.cell 2 rfl;go_enter Tryz.func190,Tryz.ntmps190
 go_wp2_with fail;generalize w.alloc (.cells #[.int .i64 r,.int .i64 n,.slice A es.length c] 26)=w1 at hm0 B0 p0 p1 p2 ⊢;have hs1:w.heap.size < w1.heap.size:=B0.1;with_reducible refine (spec_IsFolded r n A es c w1 lo hi (hr.mid hm0 oZl) (by omega) true (iff_of_true rfl HCO.out.fol)).mono ?_
 rintro en w2 ⟨rfl,hm2⟩;clear p0 p1 p2;replace B0:=B0.mid hm2 oZr;replace hm0:=hm0.trans hm2;have p0:=B0.cell 0 rfl;have p1:=B0.cell 1 rfl;have p2:=B0.cell 2 rfl;go_wp2_with fail;with_reducible refine (l1In_at hib0 _).mono ?_
 rintro en w3 ⟨rfl,rfl⟩;go_wp2_with fail;with_reducible refine (l1In_at hibv _).mono ?_
 rintro en w3 ⟨rfl,rfl⟩;go_wp2_with fail;with_reducible refine (spec_l5Search r n A es c w2 lo hi (hr.mid hm0 oZl) HCO.out.gr hn1).mono ?_
 rintro en w3 ⟨gs,gw,bs,vals,oB,rfl,hm3,hse,hmk,hwo,hts⟩;have hs3:=hm3.size;have hs2:=hm2.size;have hcs:w3.cell? ⟨gs,v,none⟩=some (.bool true):=by
  have h:=(hse.cellAt v (by omega)).trans (hmk.2 v hv);rw [decide_eq_true (List.mem_map_of_mem (f:=Prod.fst) HME.out)] at h;exact h
 obtain ⟨bw,cw,hvw,hrv⟩:=hts.word HME.out;simp only [Int.toNat_natCast] at hvw hrv;have hcw:w3.cell? ⟨gw,v,none⟩=some (.slice (some ⟨bw,0,none⟩) wd.length cw):=(hwo.cellAt v (by omega)).trans hvw;have hgs:=(hse.lt gs rfl).2;have hgw:=(hwo.lt gw rfl).2;have hv0:(0:Int)≤(v:Int):=by omega
 have hvn:(v:Int) < (n:Int):=by omega
 have hoe:=owns_empty w3 3 1;have hal:=Mid.alloc w3 (.cells #[] 3);have hra:=(hrv.mid hal oZl).rs;have hla:(ints wd).length=wd.length * 1:=by rw [ints_len];omega
 have hm4:=hm0.trans hm3;clear p0 p1 p2 hse hmk hwo hts hvw hm3 hm2 hm0 B0 hrv;go_wp2_with (at_builtin;refine MarkerX.to ?_)
 unfold MarkerX;refine wpList_cat rfl _ _ 34 rfl w3.heap.size 3 (.int .i64 0) 1 8 undSI infoI rfl (by decide) _ 0 _ rfl hoe (some ⟨bw,0,none⟩) wd.length cw _ (ints wd) rfl hra hla (one_of_ints _) (by unfold maxLen;omega) (by omega) (by simp) ?_;intro v7 w7 ho7 hgr7 hat7;obtain ⟨A7,c7,rfl, -, -⟩:=owns_shape ho7;rw [Nat.zero_add,List.nil_append] at ho7;try rw [Nat.zero_add]
 have hm7:Mid 0 0 w3 w7:=hal.transNew (Mid.of_grownRow hoe hgr7) (Or.inl (Nat.le_refl _));have hm8:=hm4.trans hm7;clear hgr7 hat7 hoe hal hra hcs hcw;go_wp2_with fail;go_ret2;exact ⟨A7,c7,rfl,owns_base ho7 (by omega),hm8⟩
theorem spec_TreeWord (r n v:Nat) (A:Option Addr) (es:List Ed) (c:Nat) (w:World) (lo hi:Nat) (hr:RG w lo hi A es) (hco:IsCor r n es) (hv:v < n) :
  Calls Tryz.prog 126 #[graV r n A es.length c,.int .i64 v] w fun e w'=>∃ A1 c1,e=.returned (.slice A1 (wordV r es v).length c1)∧w'.ownsRow w.heap.size 3 1 (.slice A1 (wordV r es v).length c1) (wordV r es v).length (ints (wordV r es v))∧Mid 0 0 w w':=by
 have hm0:Mid 0 0 w (w.alloc (.cells #[.int .i64 r,.int .i64 n,.slice A es.length c] 26)):=Mid.alloc _ _;have B0:=Box.new w #[.int .i64 r,.int .i64 n,.slice A es.length c] 26;have hP:=spec_PathWord r n v A es c (w.alloc (.cells #[.int .i64 r,.int .i64 n,.slice A es.length c] 26)) lo hi (hr.mid hm0 oZl) hco hv;generalize wordV r es (v:Int)=wd at hP ⊢;have p0:=B0.cell 0 rfl;have p1:=B0.cell 1 rfl;have p2:=B0.cell 2 rfl;go_enter Tryz.func126,Tryz.ntmps126
 go_wp2_with fail;with_reducible refine hP.mono ?_
 rintro en w2 ⟨A1,c1,rfl,ho,hm⟩;have hb:=owns_base ho (show w.heap.size≤_ by simp);go_wp2_with fail;go_ret;exact ⟨A1,c1,rfl,hb,hm0.trans hm⟩
end
section
open Go.RowKit
theorem spec_LoopOf (r n:Nat) (A:Option Addr) (es:List Ed) (c:Nat) (pa pb:Nat) (el:Int) (w:World) (lo hi:Nat) (hr:RG w lo hi A es) (hco:IsCor r n es) (he:(⟨(pa:Int),el,(pb:Int)⟩:Ed)∈es) :
  Calls Tryz.prog 118 #[graV r n A es.length c,.agg #[.int .i64 (pa:Int),.int .i64 el,.int .i64 (pb:Int)]] w fun e w'=>∃ A1 c1,e=.returned (.slice A1 (basisW r es ⟨(pa:Int),el,(pb:Int)⟩).length c1)∧w'.ownsRow w.heap.size 3 1 (.slice A1 (basisW r es ⟨(pa:Int),el,(pb:Int)⟩).length c1) (basisW r es ⟨(pa:Int),el,(pb:Int)⟩).length (ints (basisW r es ⟨(pa:Int),el,(pb:Int)⟩))∧Mid 0 0 w w':=by
 have hn40:n≤40:=by have:=hco.gr.size;omega
 have hl:=hco.gr.len;have hin:=hco.gr.all _ he;unfold InG at hin;simp only at hin;have hr3:r≤3:=by have:=hco.gr.rank;omega
 have hpa:pa < n:=by omega
 have hpb:pb < n:=by omega
 have hel:-3≤el∧el≤3:=by omega
 obtain ⟨hla,hlla⟩:=wordV_ok hco hpa;obtain ⟨hlb,hllb⟩:=wordV_ok hco hpb;have hA1:=fun W h=>spec_TreeWord r n pa A es c W lo hi h hco hpa;have hA2:=fun W h=>spec_TreeWord r n pb A es c W lo hi h hco hpb;have hbas:basisW r es ⟨(pa:Int),el,(pb:Int)⟩=red [] (wordV r es (pa:Int)++[el]++invW (wordV r es (pb:Int))):=rfl;generalize wordV r es (pa:Int)=wa at hla hlla hA1 hbas;generalize wordV r es (pb:Int)=wb at hlb hllb hA2 hbas;generalize basisW r es ⟨(pa:Int),el,(pb:Int)⟩=bw at hbas ⊢;have hoka:OkI wa:=fun x hx=>by have:=mem_lets.1 (hlla x hx);omega
 have hokb:OkI wb:=fun x hx=>by have:=mem_lets.1 (hllb x hx);omega
 have hokl:OkI (wa++[el]):=by
  intro y hy;rcases List.mem_append.1 hy with h | h
  ·exact hoka y h
  ·simp at h
   subst h;omega
 have HOKB:=Lib.hid hokb;have HOKL:=Lib.hid hokl;have HA1:=Lib.hid hA1;have HA2:=Lib.hid hA2;have HBAS:=Lib.hid hbas;have HCO:=Lib.hid hco;have HEM:=Lib.hid he;clear hco hA1 hA2 hbas hlla hllb hoka hokb hokl hin he;have hm0:Mid 0 0 w ((w.alloc (.cells #[.int .i64 r,.int .i64 n,.slice A es.length c] 26)).alloc (.cells #[.int .i64 (pa:Int),.int .i64 el,.int .i64 (pb:Int)] 68)):=(Mid.alloc _ _).trans (Mid.alloc _ _);have B0:=(Box.new w #[.int .i64 r,.int .i64 n,.slice A es.length c] 26).mid (Mid.alloc _ (.cells #[.int .i64 (pa:Int),.int .i64 el,.int .i64 (pb:Int)] 68)) oZr;have B1:=Box.new (w.alloc (.cells #[.int .i64 r,.int .i64 n,.slice A es.length c] 26)) #[.int .i64 (pa:Int),.int .i64 el,.int .i64 (pb:Int)] 68;simp only [World.size_alloc] at B1;go_enter Tryz.func118,Tryz.ntmps118
 go_wp2_with fail;generalize (w.alloc (.cells #[.int .i64 r,.int .i64 n,.slice A es.length c] 26)).alloc (.cells #[.int .i64 (pa:Int),.int .i64 el,.int .i64 (pb:Int)] 68)=w1 at hm0 B0 B1 ⊢;have hs1:w.heap.size+1 < w1.heap.size:=B1.1;go_loopw [5,6] (fun v j wq=>∃ m:Nat,∃ vb:Bool,m≤es.length∧j=.int .i64 m∧v=.bool vb∧Hid (vb=true↔(⟨(pa:Int),el,(pb:Int)⟩:Ed)∈es.take m)∧Mid 0 0 w1 wq) (fun _ j _=>es.length - (intOf j).toNat)
 case atStart=>exact ⟨0,false,Nat.zero_le _,rfl,rfl,Lib.hid (by simp),Mid.refl _ _ _⟩
 case round =>
  obtain ⟨m,vb,hmle,rfl,rfl,HV,hmq⟩:=hrel;have ba:=B0.mid hmq oZr;have bb:=B1.mid hmq oZr;have P2:=ba.cell 2 rfl;have Q0:=bb.cell 0 rfl;have Q1:=bb.cell 1 rfl;have Q2:=bb.cell 2 rfl;by_cases hlm:m < es.length
  ·obtain ⟨B',off',f,hA', -,hbh',hff,f0,f1,f2⟩:=(hr.mid (hm0.trans hmq) oZl).ed hlm
   subst hA';have zb':B' < wr.heap.size:=Nat.lt_of_lt_of_le hbh' (Nat.le_trans hr.1 (hm0.trans hmq).size);have p2:=wg_cell ba.1 P2;have q0:=wg_cell bb.1 Q0;have q1:=wg_cell bb.1 Q1;have q2:=wg_cell bb.1 Q2;have z0:=wg_cell (by show B' < wr.heap.size;omega) f0;have z1:=wg_cell (by show B' < wr.heap.size;omega) f1;have z2:=wg_cell (by show B' < wr.heap.size;omega) f2;have hm0':(0:Int)≤(m:Int):=by omega
   have hmn:(m:Int) < (es.length:Int):=by omega
   obtain ⟨d,hd⟩:∃ d,decide (f=⟨(pa:Int),el,(pb:Int)⟩)=d:=⟨_,rfl⟩
   have hq:=eqlEd_run f ⟨(pa:Int),el,(pb:Int)⟩ hd;have hg:=guardEd f ⟨(pa:Int),el,(pb:Int)⟩;have HD:=Lib.hid hd;have HFF:=Lib.hid hff;clear hff hd;cases vb with
   | false =>
    go_wp2_with fail;refine wp_region_quiet_wg (by kernel_rfl) (by kernel_rfl) ?_;repeat
     (with_reducible refine wpQuiet_step (fun K hK=>?_))
     go_simp
     first
      | ((with_reducible refine hK _ ?_);clear hK K)
      | (rw [if_neg (by decide)];(with_reducible refine hK _ ?_);clear hK K)
      | (apply Exists.intro;refine ⟨fun _=>?_,hK _ ?_⟩;(fail);clear hK K)
    with_reducible refine wpQuiet_nil ?_
    intro _ hw';obtain ⟨⟨nq,osq⟩,hw''⟩:=hw';subst hw'';go_wp2_with fail;go_roundw
    case rel =>
     refine ⟨m+1,d,by omega,by go_num,rfl,Lib.hid ?_,hmq.trans (Mid.ofWg _ _ _)⟩;rw [mem_take_snoc HFF.out,← HD.out,decide_eq_true_iff];have hn:¬ (⟨(pa:Int),el,(pb:Int)⟩:Ed)∈es.take m:=fun h=>by have:=HV.out.2 h;cases this
     exact ⟨fun h=>.inr h.symm,fun h=>(h.resolve_left hn).symm⟩
    case measure=>simp [intOf];omega
   | true =>
    have HM:=Lib.hid (HV.out.1 rfl);clear HV;go_wp2_with fail;refine wp_region_quiet_wg (by kernel_rfl) (by kernel_rfl) ?_;repeat
     (with_reducible refine wpQuiet_step (fun K hK=>?_))
     go_simp
     first
      | ((with_reducible refine hK _ ?_);clear hK K)
      | (rw [if_neg (by decide)];(with_reducible refine hK _ ?_);clear hK K)
      | (apply Exists.intro;refine ⟨fun _=>?_,hK _ ?_⟩;(fail);clear hK K)
    with_reducible refine wpQuiet_nil ?_
    intro _ hw';obtain ⟨⟨nq,osq⟩,hw''⟩:=hw';subst hw'';go_wp2_with fail;go_roundw
    case rel=>exact ⟨m+1,true,by omega,by go_num,rfl,Lib.hid (iff_of_true rfl ((mem_take_snoc HFF.out).2 (.inl HM.out))),hmq.trans (Mid.ofWg _ _ _)⟩
    case measure=>simp [intOf];omega
  ·obtain rfl:m=es.length:=by omega
   obtain rfl:vb=true:=HV.out.2 (by rw [List.take_length];exact HEM.out);have hm1:=hm0.trans hmq;have hsq:=hmq.size;have P0:=ba.cell 0 rfl;have P1:=ba.cell 1 rfl;clear B0 B1 hmq hm0 HV;go_wp2_with fail;with_reducible refine (spec_IsFolded r n A es c wr lo hi (hr.mid hm1 oZl) (by omega) true (iff_of_true rfl HCO.out.fol)).mono ?_
   rintro en w2 ⟨rfl,hm2⟩;have hmz:=hm2.trans (Mid.drew1 w2);have ba2:=ba.mid hmz oZr;have bb2:=bb.mid hmz oZr;have hm3:=hm1.trans hmz;have hsz:=hmz.size;clear P0 P1 P2 Q0 Q1 Q2 ba bb hm1 hm2;go_wp2_with fail;have p0:=ba2.cell 0 rfl;have p1:=ba2.cell 1 rfl;have p2:=ba2.cell 2 rfl;have q0:=bb2.cell 0 rfl;have q1:=bb2.cell 1 rfl;have q2:=bb2.cell 2 rfl;have hbA:=ba2.1;have hbB:=bb2.1;refine wp_region_Z (S:=(fun w'=>w'.cell? ⟨w.heap.size,0,none⟩=some (.int .i64 r)∧w'.cell? ⟨w.heap.size,1,none⟩=some (.int .i64 n)∧w'.cell? ⟨w.heap.size,2,none⟩=some (.slice A es.length c)∧w'.cell? ⟨w.heap.size+1,0,none⟩=some (.int .i64 (pa:Int))∧w'.cell? ⟨w.heap.size+1,1,none⟩=some (.int .i64 el)∧w'.cell? ⟨w.heap.size+1,2,none⟩=some (.int .i64 (pb:Int)))) [14] (by kernel_rfl) ⟨p0,p1,p2,q0,q1,q2⟩ ?_;generalize World.drew w2=wz at p0 p1 p2 q0 q1 q2 hm3 hbA hbB hmz hsz ba2 bb2 ⊢;have hK:∀ W,Mid 0 0 wz W→(W.cell? ⟨w.heap.size,0,none⟩=some (.int .i64 r)∧W.cell? ⟨w.heap.size,1,none⟩=some (.int .i64 n)∧W.cell? ⟨w.heap.size,2,none⟩=some (.slice A es.length c)∧W.cell? ⟨w.heap.size+1,0,none⟩=some (.int .i64 (pa:Int))∧W.cell? ⟨w.heap.size+1,1,none⟩=some (.int .i64 el)∧W.cell? ⟨w.heap.size+1,2,none⟩=some (.int .i64 (pb:Int))):=fun W m=>⟨cell_keep m hbA oZr p0,cell_keep m hbA oZr p1,cell_keep m hbA oZr p2,cell_keep m hbB oZr q0,cell_keep m hbB oZr q1,cell_keep m hbB oZr q2⟩
   have hSz:=hK wz (Mid.refl 0 0 wz);have hRZ:RG wz lo hi A es:=hr.mid hm3 oZl;have hwz:w.heap.size≤wz.heap.size:=hm3.size;have hone1:∀ u∈[Value.int .i64 el],u.oneCell'=true:=by
    intro u hu;simp at hu;subst hu
    rfl
   have hmx1:wa.length+1≤maxLen:=by unfold maxLen;omega
   have hby1:(wa.length+1) * 8≤140737488355328:=by omega
   clear ba2 bb2 hmz hsz;refine tkZ [3,7,13,14] 0 rfl hSz ?_;try simp only [Act.put,zs1,zs2,zs3,zs4,zs5,zs6]
   refine tkZ [2,3,7,13,14] 1 rfl hSz ?_;try simp only [Act.put,zs1,zs2,zs3,zs4,zs5,zs6]
   refine tkZ [3,7,13,14] 2 rfl hSz ?_;try simp only [Act.put,zs1,zs2,zs3,zs4,zs5,zs6]
   refine tkZ [5,6,7,13,14] 4 rfl hSz ?_;try simp only [Act.put,zs1,zs2,zs3,zs4,zs5,zs6]
   refine tkZ [6,7,13,14] 5 rfl hSz ?_;try simp only [Act.put,zs1,zs2,zs3,zs4,zs5,zs6]
   refine tkZ [11,12,13,14] 8 rfl hSz ?_;try simp only [Act.put,zs1,zs2,zs3,zs4,zs5,zs6]
   refine tkZ [10,11,12,13,14] 9 rfl hSz ?_;try simp only [Act.put,zs1,zs2,zs3,zs4,zs5,zs6]
   refine tkZ [11,12,13,14] 10 rfl hSz ?_;try simp only [Act.put,zs1,zs2,zs3,zs4,zs5,zs6]
   have hmW:=Mid.refl 0 0 wz;have HK:=Lib.hid hK;have HRZ:=Lib.hid hRZ;clear hK hRZ hSz p0 p1 p2 q0 q1 q2;refine wpAnyZ_ready (rs:=[3,6]) (by kernel_rfl) (by simp) (AllReadyZ.cons rfl (fun K hK=>?_) (AllReadyZ.cons rfl (fun K hK=>?_) AllReadyZ.nil))
   ·(go_simp;(with_reducible refine (HA1.out _ (HRZ.out.mid hmW oZl)).mono ?_);rintro en x1 ⟨A1,c1,rfl,ho,hmn⟩;go_wp2_with fail)
    refine hK.out _ _ (Or.inr (HK.out _ (hmW.trans hmn))) (fun _=>?_);clear hK K;try simp only [Act.put,zs1,zs2,zs3,zs4,zs5,zs6]
    have hmx1:=hmW.trans hmn;have hszx1:=hmn.size;have HO3:=Lib.hid (owns_base ho hmW.size);obtain ⟨s3,hs3⟩:∃ s,s=x1.heap.size:=⟨_,rfl⟩
    have hL3:∀ g,Value.ownBlock (.slice A1 wa.length c1)=some g→g < s3:=fun g hg=>by have:=(ho.lt g hg).2;omega
    have hs3le:s3≤x1.heap.size:=by omega
    clear hs3;clear ho hmn;refine rdZ 6 rfl (fun K hK=>?_);go_simp;refine hK.out _ _ (Or.inr (HK.out _ (hmx1.trans (Mid.alloc x1 (.cells #[.int .i64 el] 3))))) (fun _=>?_);clear hK K;try simp only [Act.put,zs1,zs2,zs3,zs4,zs5,zs6]
    have hal:=Mid.alloc x1 (.cells #[.int .i64 el] 3);have hmx2:=hmx1.trans hal;replace HO3:=Lib.hid (owns_mid HO3.out hal oZl);have hc6:(x1.alloc (.cells #[.int .i64 el] 3)).cell? ⟨x1.heap.size,0,none⟩=some (.int .i64 el):=World.cell?_alloc_at _ _ _ _ rfl;have hp6:x1.heap.size < (x1.alloc (.cells #[.int .i64 el] 3)).heap.size:=by simp
    have hszx2:=hal.size;generalize x1.alloc (.cells #[.int .i64 el] 3)=x2 at hal hmx2 hc6 hp6 hszx2 HO3 ⊢;generalize hp6e:x1.heap.size=p6 at hc6 hp6 ⊢;replace hs3le:s3≤x2.heap.size:=by omega
    clear hp6e hal hmx1;refine rdZ 7 rfl (fun K hK=>?_)
    (refine step_cat (by rfl) (.tmp 35) (.tmp 38) 34 (by rfl) wz.heap.size 3 (.int .i64 0) 1 8 undSI infoI rfl (by decide) (.slice A1 wa.length c1) wa.length _ (by rfl) HO3.out (some ⟨p6,0,none⟩) 1 1 _ [.int .i64 el] (by rfl) (rs_one hc6) rfl hone1 hmx1 hby1 hmx2.size ?_;intro v7 x3 ho7 hgr hat;obtain ⟨A7,c7,rfl, -, -⟩:=owns_shape ho7)
    refine hK.out _ _ (Or.inr (HK.out _ (hmx2.transNew (Mid.of_grownRow HO3.out hgr) (Or.inl (Nat.le_refl _))))) (fun _=>?_);clear hK K;try simp only [Act.put,zs1,zs2,zs3,zs4,zs5,zs6]
    have hmx3:=hmx2.transNew (Mid.of_grownRow HO3.out hgr) (Or.inl (Nat.le_refl _));have HO7:Hid (x3.ownsRow wz.heap.size 3 1 (.slice A7 (wa.length+1) c7) (wa.length+1) (ints (wa++[el]))):=Lib.hid (by rw [ints_append];exact ho7);replace hs3le:s3≤x3.heap.size:=Nat.le_trans hs3le hgr.size;clear ho7 hgr hat HO3 hc6 hp6 hmx2;refine rdZ 11 rfl (fun K hK=>?_)
    (go_simp;(with_reducible refine (HA2.out _ (HRZ.out.mid hmx3 oZl)).mono ?_);rintro en x4 ⟨A2,c2,rfl,ho,hmn⟩;go_wp2_with fail)
    refine hK.out _ _ (Or.inr (HK.out _ (hmx3.trans hmn))) (fun _=>?_);clear hK K;try simp only [Act.put,zs1,zs2,zs3,zs4,zs5,zs6]
    have hmx4:=hmx3.trans hmn;replace HO7:=Lib.hid (owns_mid HO7.out hmn oZl);have hszx4:=hmn.size;have HR2:=Lib.hid ((owns_rv ho).wide (lo':=s3) (hi':=x4.heap.size) (by omega) (Nat.le_refl _) (Nat.le_refl _));replace hs3le:s3≤x4.heap.size:=by omega
    clear ho hmn hmx3;refine rdZ 12 rfl (fun K hK=>?_)
    (go_simp;(with_reducible refine (spec_InvertWord A2 wb c2 _ x4 HR2.out.rsS (Nat.le_refl _) HOKB.out (by omega)).mono ?_);intro en x5 hq;obtain ⟨A3,c3,rfl,ho,hmn⟩:=RetI.get hq;go_wp2_with fail)
    refine hK.out _ _ (Or.inr (HK.out _ (hmx4.trans hmn))) (fun _=>?_);clear hK K;try simp only [Act.put,zs1,zs2,zs3,zs4,zs5,zs6]
    have hmx5:=hmx4.trans hmn;replace HO7:=Lib.hid (owns_mid HO7.out hmn oZl);replace HR2:=Lib.hid (HR2.out.mid hmn oZl);have hszx5:=hmn.size;have HR3:=Lib.hid ((owns_rv ho).wide (lo':=s3) (hi':=x5.heap.size) (by omega) (Nat.le_refl _) (Nat.le_refl _));replace hs3le:s3≤x5.heap.size:=by omega
    clear ho hmn hq HR2 hmx4;have hMW:=spec_MultiplyWords A7 A3 (wa++[el]) (invW wb) c7 c3 x5 (owns_rv HO7.out).rsS HR3.out.rsS HOKL.out (okI_invW HOKB.out) (by rw [List.length_append,invW_len];simp;omega);rw [show (wa++[el]).length=wa.length+1 by simp,← HBAS.out] at hMW;refine rdZ 13 rfl (fun K hK=>?_)
    (go_simp;(with_reducible refine hMW.mono ?_);intro en x6 hq;obtain ⟨A13,c13,rfl,ho13,hmn⟩:=RetI.get hq;go_wp2_with fail)
    refine hK.out _ _ (Or.inr (HK.out _ (hmx5.trans hmn))) (fun _=>?_);clear hK K;try simp only [Act.put,zs1,zs2,zs3,zs4,zs5,zs6]
    have hmF:=hm3.trans (hmx5.trans hmn);have hm14:=hmx5.size;have HO13:=Lib.hid (owns_base ho13 (show w.heap.size≤x5.heap.size by omega));clear HO7 HR3 hMW ho13 hmn hq;refine rdZ 14 rfl (fun K hK=>?_);go_simp;refine hK.out _ _ (Or.inl (by simp)) (fun _=>?_);clear hK K;try simp only [Act.put,zs1,zs2,zs3,zs4,zs5,zs6]
    refine wpAnyZ_done (by kernel_rfl) ?_ _;go_wp2_with fail;go_ret;exact ⟨A13,c13,rfl,HO13.out,hmF⟩
   ·go_simp
    refine hK.out _ _ (Or.inr (HK.out _ (hmW.trans (Mid.alloc wz (.cells #[.int .i64 el] 3))))) (fun _=>?_);clear hK K;try simp only [Act.put,zs1,zs2,zs3,zs4,zs5,zs6]
    have hal:=Mid.alloc wz (.cells #[.int .i64 el] 3);have hmx8:=hmW.trans hal;have hc6:(wz.alloc (.cells #[.int .i64 el] 3)).cell? ⟨wz.heap.size,0,none⟩=some (.int .i64 el):=World.cell?_alloc_at _ _ _ _ rfl;have hp6:wz.heap.size < (wz.alloc (.cells #[.int .i64 el] 3)).heap.size:=by simp
    have hszx8:=hal.size;generalize wz.alloc (.cells #[.int .i64 el] 3)=x8 at hal hmx8 hc6 hp6 hszx8 ⊢;generalize hp6e:wz.heap.size=p6 at hc6 hp6 ⊢;clear hp6e hal;refine rdZ 3 rfl (fun K hK=>?_)
    (go_simp;(with_reducible refine (HA1.out _ (HRZ.out.mid hmx8 oZl)).mono ?_);rintro en x9 ⟨A1,c1,rfl,ho,hmn⟩;go_wp2_with fail)
    refine hK.out _ _ (Or.inr (HK.out _ (hmx8.trans hmn))) (fun _=>?_);clear hK K;try simp only [Act.put,zs1,zs2,zs3,zs4,zs5,zs6]
    have hmx9:=hmx8.trans hmn;replace hc6:=cell_keep hmn hp6 oZr hc6;replace hp6:=Nat.lt_of_lt_of_le hp6 hmn.size;have hszx9:=hmn.size;have HO3:=Lib.hid (owns_base ho hmx8.size);obtain ⟨s3,hs3⟩:∃ s,s=x9.heap.size:=⟨_,rfl⟩
    have hL3:∀ g,Value.ownBlock (.slice A1 wa.length c1)=some g→g < s3:=fun g hg=>by have:=(ho.lt g hg).2;omega
    have hs3le:s3≤x9.heap.size:=by omega
    clear hs3;clear ho hmn hmx8;refine rdZ 7 rfl (fun K hK=>?_)
    (refine step_cat (by rfl) (.tmp 35) (.tmp 38) 34 (by rfl) wz.heap.size 3 (.int .i64 0) 1 8 undSI infoI rfl (by decide) (.slice A1 wa.length c1) wa.length _ (by rfl) HO3.out (some ⟨p6,0,none⟩) 1 1 _ [.int .i64 el] (by rfl) (rs_one hc6) rfl hone1 hmx1 hby1 hmx9.size ?_;intro v7 x10 ho7 hgr hat;obtain ⟨A7,c7,rfl, -, -⟩:=owns_shape ho7)
    refine hK.out _ _ (Or.inr (HK.out _ (hmx9.transNew (Mid.of_grownRow HO3.out hgr) (Or.inl (Nat.le_refl _))))) (fun _=>?_);clear hK K;try simp only [Act.put,zs1,zs2,zs3,zs4,zs5,zs6]
    have hmx10:=hmx9.transNew (Mid.of_grownRow HO3.out hgr) (Or.inl (Nat.le_refl _));have HO7:Hid (x10.ownsRow wz.heap.size 3 1 (.slice A7 (wa.length+1) c7) (wa.length+1) (ints (wa++[el]))):=Lib.hid (by rw [ints_append];exact ho7);replace hs3le:s3≤x10.heap.size:=Nat.le_trans hs3le hgr.size;clear ho7 hgr hat HO3 hc6 hp6 hmx9;refine rdZ 11 rfl (fun K hK=>?_)
    (go_simp;(with_reducible refine (HA2.out _ (HRZ.out.mid hmx10 oZl)).mono ?_);rintro en x11 ⟨A2,c2,rfl,ho,hmn⟩;go_wp2_with fail)
    refine hK.out _ _ (Or.inr (HK.out _ (hmx10.trans hmn))) (fun _=>?_);clear hK K;try simp only [Act.put,zs1,zs2,zs3,zs4,zs5,zs6]
    have hmx11:=hmx10.trans hmn;replace HO7:=Lib.hid (owns_mid HO7.out hmn oZl);have hszx11:=hmn.size;have HR2:=Lib.hid ((owns_rv ho).wide (lo':=s3) (hi':=x11.heap.size) (by omega) (Nat.le_refl _) (Nat.le_refl _));replace hs3le:s3≤x11.heap.size:=by omega
    clear ho hmn hmx10;refine rdZ 12 rfl (fun K hK=>?_)
    (go_simp;(with_reducible refine (spec_InvertWord A2 wb c2 _ x11 HR2.out.rsS (Nat.le_refl _) HOKB.out (by omega)).mono ?_);intro en x12 hq;obtain ⟨A3,c3,rfl,ho,hmn⟩:=RetI.get hq;go_wp2_with fail)
    refine hK.out _ _ (Or.inr (HK.out _ (hmx11.trans hmn))) (fun _=>?_);clear hK K;try simp only [Act.put,zs1,zs2,zs3,zs4,zs5,zs6]
    have hmx12:=hmx11.trans hmn;replace HO7:=Lib.hid (owns_mid HO7.out hmn oZl);replace HR2:=Lib.hid (HR2.out.mid hmn oZl);have hszx12:=hmn.size;have HR3:=Lib.hid ((owns_rv ho).wide (lo':=s3) (hi':=x12.heap.size) (by omega) (Nat.le_refl _) (Nat.le_refl _));replace hs3le:s3≤x12.heap.size:=by omega
    clear ho hmn hq HR2 hmx11;have hMW:=spec_MultiplyWords A7 A3 (wa++[el]) (invW wb) c7 c3 x12 (owns_rv HO7.out).rsS HR3.out.rsS HOKL.out (okI_invW HOKB.out) (by rw [List.length_append,invW_len];simp;omega);rw [show (wa++[el]).length=wa.length+1 by simp,← HBAS.out] at hMW;refine rdZ 13 rfl (fun K hK=>?_)
    (go_simp;(with_reducible refine hMW.mono ?_);intro en x13 hq;obtain ⟨A13,c13,rfl,ho13,hmn⟩:=RetI.get hq;go_wp2_with fail)
    refine hK.out _ _ (Or.inr (HK.out _ (hmx12.trans hmn))) (fun _=>?_);clear hK K;try simp only [Act.put,zs1,zs2,zs3,zs4,zs5,zs6]
    have hmF:=hm3.trans (hmx12.trans hmn);have hm14:=hmx12.size;have HO13:=Lib.hid (owns_base ho13 (show w.heap.size≤x12.heap.size by omega));clear HO7 HR3 hMW ho13 hmn hq;refine rdZ 14 rfl (fun K hK=>?_);go_simp;refine hK.out _ _ (Or.inl (by simp)) (fun _=>?_);clear hK K;try simp only [Act.put,zs1,zs2,zs3,zs4,zs5,zs6]
    refine wpAnyZ_done (by kernel_rfl) ?_ _;go_wp2_with fail;go_ret;exact ⟨A13,c13,rfl,HO13.out,hmF⟩
end
section
open Go.RowKit
structure TreeL (es:List Ed) (st:BS) (T:List Ed):Prop where
 mem:∀ e,e∈T↔e∈treeE es st
 len:T.length≤st.length
theorem TreeL.start (es:List Ed) (v:Int):TreeL es [(v,[])] []:=⟨fun e=>by simp [treeE],by simp⟩
theorem TreeL.put {r s:Int} {es:List Ed} (hf:IsFol r s es) {st:BS} {T:List Ed} (h:TreeL es st T) (hne:st≠[]) {u x:Int} {w:List Int} (hv:0≤nextV es u x):TreeL es (st++[(nextV es u x,w++[x])]) (putE (stepE u x (nextV es u x)) T):=by
 refine ⟨fun e=>?_,?_⟩
 ·rw [mem_putE,treeE_snoc es _ hne,edgeOf_new hf hv,List.mem_append,List.mem_singleton,h.mem e]
  constructor
  ·rintro (h | h)
   ·exact .inr h
   ·exact .inl h
  ·rintro (h | h)
   ·exact .inr h
   ·exact .inl h
 ·have:=putE_len (stepE u x (nextV es u x)) T
  rw [List.length_append];have:=h.len;simp;omega
theorem spec_l10Tree (r n:Nat) (A:Option Addr) (es:List Ed) (c:Nat) (w:World) (lo hi:Nat) (hr:RG w lo hi A es) (hf:IsFol r n es) :
  Calls Tryz.prog 187 #[graV r n A es.length c] w fun e w'=>∃ T A1 c1,e=.returned (.slice A1 (List.length T) c1)∧TreeL es (bfs es (lets r) 0) T∧RG w' w.heap.size w'.heap.size A1 T∧Mid 0 0 w w':=by
 have hg:=hf.gr;have hn40:n≤40:=by have:=hg.size;omega
 have hn1':1≤n:=by have:=hg.size;omega
 have hr3:r≤3:=by have:=hg.rank;omega
 have hl:=hg.len;have hgl:∀ e∈es,1≤e.l∧e.l≤3:=fun e he=>by have:=hg.all e he;unfold InG at this;omega
 have hm0:Mid 0 0 w ((w.alloc (.cells #[.int .i64 r,.int .i64 n,.slice A es.length c] 26)).alloc (.cells #[] 68)):=(Mid.alloc _ _).trans (Mid.alloc _ _);have B0:=(Box.new w #[.int .i64 r,.int .i64 n,.slice A es.length c] 26).mid (Mid.alloc _ (.cells #[] 68)) oZr;have OE:=owns_empty (w.alloc (.cells #[.int .i64 r,.int .i64 n,.slice A es.length c] 26)) 68 3;simp only [World.size_alloc] at OE;have HG:=Lib.hid hg;have HF:=Lib.hid hf;have HGL:=Lib.hid hgl;have hv0:(0:Int)≤0:=Int.le_refl _;have hv3:(0:Int) < (n:Int):=by omega
 clear hg hgl hf;go_enter Tryz.func187,Tryz.ntmps187
 go_wp2_with fail;generalize (w.alloc (.cells #[.int .i64 r,.int .i64 n,.slice A es.length c] 26)).alloc (.cells #[] 68)=w0 at hm0 B0 OE ⊢;have hs0:w.heap.size+1 < w0.heap.size:=(OE.lt _ rfl).2;with_reducible refine (spec_IsFolded r n A es c w0 lo hi (hr.mid hm0 oZl) (by omega) true (iff_of_true rfl HF.out)).mono ?_
 rintro en w1 ⟨rfl,hm1⟩;have hs01:=hm1.size;replace B0:=B0.mid hm1 oZr;replace OE:=owns_mid OE hm1 oZl;replace hm0:=hm0.trans hm1;have p0:=B0.cell 0 rfl;have p1:=B0.cell 1 rfl;have p2:=B0.cell 2 rfl;have hal:=Mid.alloc w1 (.cells #[.int .i64 0] 3);have O0:(w1.alloc (.cells #[.int .i64 0] 3)).ownsRow w1.heap.size 3 1 (.slice (some ⟨w1.heap.size,0,none⟩) 1 1) 1 (ints [(0:Int)]):=World.ownsRow_lit (size:=1) w1 #[.int .i64 0] 1 (Nat.le_refl _) (by simp [maxLen]) (by simp);have hsz1:w.heap.size < w1.heap.size:=by omega
 replace B0:=B0.mid hal oZr;replace OE:=owns_mid OE hal oZl;replace hm0:=hm0.trans hal;go_wp2_with fail;with_reducible refine (spec_l5Letters r _ (by omega)).mono ?_
 rintro en w4 ⟨A4,c4,rfl,hL4,hm4⟩;have hs14:w1.heap.size+1≤w4.heap.size:=by have:=hm4.size;simpa using this
 rw [World.size_alloc] at hL4;replace B0:=B0.mid hm4 oZr;replace O0:=owns_mid O0 hm4 oZl;replace OE:=owns_mid OE hm4 oZl;replace hm0:=hm0.trans hm4;clear p0 p1 p2 hal hm4 hm1;have HE0:Hid (RG w4 (w.heap.size+1) (w.heap.size+2) (some ⟨w.heap.size+1,0,none⟩) []):=Lib.hid ⟨by omega,fun hn=>absurd rfl hn⟩;have HTL0:=Lib.hid (TreeL.start es 0);have HS0:Hid (∀ g,Value.ownBlock (.slice (some (⟨w1.heap.size,0,none⟩:Addr)) 1 1)=some g→g < w.heap.size+1 ∨ w.heap.size+2≤g):=Lib.hid (fun g hg=>by have h:=Option.some.inj (show some w1.heap.size=some g from hg);omega);clear OE;generalize (some (⟨w.heap.size+1,0,none⟩:Addr))=AE0 at HE0 ⊢;have HLL:=Lib.hid (lets_len r);obtain ⟨LL,hLL⟩:∃ LL,(lets r).length=LL:=⟨_,rfl⟩
 have hLL6:LL≤6:=by have:=HLL.out;omega
 rw [hLL];have HLn:=Lib.hid hLL;clear hLL;go_wp2_with fail;go_loopw [3,4,6] (fun ev ord iv wr=>∃ (i n1:Nat) (A1:Option Addr) (c1:Nat) (T:List Ed) (AT:Option Addr) (cT L2 H2:Nat),i≤n1∧iv=.int .i64 i∧ord=.slice A1 n1 c1∧ev=.slice AT T.length cT∧Hid (TreeL es (bfsSt es (lets r) 0 i) T)∧Hid (RG wr L2 H2 AT T)∧w.heap.size≤L2∧Hid (∀ g,Value.ownBlock (.slice A1 n1 c1)=some g→g < L2 ∨ H2≤g)∧Hid ((bfsSt es (lets r) 0 i).length=n1) ∧
   wr.ownsRow w1.heap.size 3 1 (.slice A1 n1 c1) n1 (ints ((bfsSt es (lets r) 0 i).map Prod.fst))∧Hid (RV wr (w1.heap.size+1) w4.heap.size A4 (ints (lets r)))∧Hid (∀ g,Value.ownBlock (.slice A1 n1 c1)=some g→g < w1.heap.size+1 ∨ w4.heap.size≤g) ∧
   Box wr w.heap.size [.int .i64 r,.int .i64 n,.slice A es.length c]∧Mid 0 0 w wr) (fun _ _ i _=>(41 - intOf i).toNat)
 case atStart=>exact ⟨0,1,_,1,[],AE0,0,_,_,Nat.zero_le _,rfl,rfl,rfl,HTL0,HE0,Nat.le_succ _,HS0,Lib.hid rfl,O0,Lib.hid hL4,Lib.hid (fun g hg=>by have h:=Option.some.inj (show some w1.heap.size=some g from hg);omega),B0,hm0⟩
 case round =>
  clear O0 hL4 B0 hm0 HE0 HTL0 HS0;obtain ⟨wo,hwo⟩:∃ wo,wo=wr:=⟨_,rfl⟩
  subst hwo;obtain ⟨i,n1,A1,c1,T,AT,cT,L2,H2,hin,rfl,rfl,rfl,HTL,HRE,hwL,HDE,HN,hord,HL4,HD,bx,hm⟩:=hrel;have hok:=bfsSt_ok (L:=lets r) HG.out.all hv0 hv3 i;have hn1:n1≤40:=by have h1:=hok.len (by omega);have h2:=HN.out;omega
  have HOK:=Lib.hid hok;clear hok;by_cases hlt:i < n1
  ·obtain ⟨p,hp⟩:=get_of_lt (bfsSt es (lets r) 0 i) (show i < (bfsSt es (lets r) 0 i).length by rw [HN.out];exact hlt)
   obtain ⟨u,wd⟩:=p;have HP:=Lib.hid hp;have hNX:=Lib.hid (bfsSt_next hp);have hi0:(0:Int)≤(i:Int):=by omega
   clear hp;go_wp2_with fail;go_loopw [3,4,7] (fun ev ord jv wr=>∃ (j n1:Nat) (A1:Option Addr) (c1:Nat) (T:List Ed) (AT:Option Addr) (cT L2 H2:Nat),j≤LL∧jv=.int .i64 j∧ord=.slice A1 n1 c1∧ev=.slice AT T.length cT∧Hid (TreeL es (bfsRow es ((lets r).take j) (u,wd) (bfsSt es (lets r) 0 i)) T)∧Hid (RG wr L2 H2 AT T)∧w.heap.size≤L2∧Hid (∀ g,Value.ownBlock (.slice A1 n1 c1)=some g→g < L2 ∨ H2≤g)∧Hid ((bfsRow es ((lets r).take j) (u,wd) (bfsSt es (lets r) 0 i)).length=n1) ∧
     wr.ownsRow w1.heap.size 3 1 (.slice A1 n1 c1) n1 (ints ((bfsRow es ((lets r).take j) (u,wd) (bfsSt es (lets r) 0 i)).map Prod.fst)) ∧
     Hid (RV wr (w1.heap.size+1) w4.heap.size A4 (ints (lets r)))∧Hid (∀ g,Value.ownBlock (.slice A1 n1 c1)=some g→g < w1.heap.size+1 ∨ w4.heap.size≤g)∧Box wr w.heap.size [.int .i64 r,.int .i64 n,.slice A es.length c]∧Mid 0 0 w wr) (fun _ _ j _=>LL - (intOf j).toNat)
   case atStart=>exact ⟨0,n1,_,c1,T,AT,cT,L2,H2,Nat.zero_le _,rfl,rfl,rfl,by rw [List.take_zero];exact HTL,HRE,hwL,HDE,by rw [List.take_zero];exact HN,hord,HL4,HD,bx,hm⟩
   case round =>
    clear hord HL4 HD bx hm HTL HRE hwL HDE;obtain ⟨j,n1,A1,c1,T,AT,cT,L2,H2,hj,rfl,rfl,rfl,HTL,HRE,hwL,HDE,HN,hord,HL4,HD,bx,hm⟩:=hrel;obtain ⟨stj,hstj⟩:∃ st,bfsRow es ((lets r).take j) (u,wd) (bfsSt es (lets r) 0 i)=st:=⟨_,rfl⟩
    have hokj:BfsOk n (lets r) stj:=by rw [← hstj];exact BfsOk.row HG.out.all _ (fun x hx=>List.mem_of_mem_take hx) HOK.out HP.out
    have hpj:stj[i]?=some (u,wd):=by rw [← hstj];exact prefix_get (bfsRow_pre _ _ _ _) HP.out
    rw [hstj] at HN hord HTL;have hn1b:n1≤40:=by have h1:=hokj.len (by omega);have h2:=HN.out;omega
    by_cases hlt2:j < LL
    ·obtain ⟨B4,o4,x,rfl,hB4,hx,hcx⟩:=HL4.out.at (k:=j) (by rw [HLn.out];exact hlt2)
     have hxm:=lets_le (List.mem_of_getElem? hx);have hnx:=bfsRow_take (es:=es) (p:=(u,wd)) (st:=bfsSt es (lets r) 0 i) hx;rw [hstj] at hnx;simp only at hnx;have hj0:(0:Int)≤(j:Int):=by omega
     have hj1:(j:Int) < (LL:Int):=by omega
     have hil:i < n1:=by have h1:=(List.getElem?_eq_some_iff.1 hpj).1;have h2:=HN.out;omega
     have hi1:(i:Int) < (n1:Int):=by omega
     obtain ⟨g1,rfl,hg1,hg1s⟩:=owns_addr hord (show 0 < n1 by omega);have hcu:wr.cell? ⟨g1,i,none⟩=some (.int .i64 u):=(hord.cellAt i (by omega)).trans (by rw [ints_get,List.getElem?_map,hpj];rfl);have hB4s:B4 < wr.heap.size:=Nat.lt_of_lt_of_le hB4 HL4.out.1;have hcs:=nextV_cases HG.out.all u x;have HOJ:=Lib.hid hokj;have k0:=wg_cell bx.1 (bx.cell 0 rfl);have k1:=wg_cell bx.1 (bx.cell 1 rfl);have k2:=wg_cell bx.1 (bx.cell 2 rfl);have k3:=wg_cell hg1s hcu;have k4:=wg_cell hB4s hcx;have hA:=fun m os=>spec_NextVertex r n A es c u x (wg wr m os) lo hi (hr.mid (hm.trans (Mid.ofWg wr m os)) oZl) (by omega) HGL.out (by omega) (by omega);have HXJ:=Lib.hid hx;have HPJ:=Lib.hid hpj;clear hx hokj hpj hstj hcu hcx;go_wp2_with fail;refine wp_region_quiet_wg (by kernel_rfl) (by kernel_rfl) ?_;repeat
      (with_reducible refine wpQuiet_step (fun K hK=>?_))
      go_simp
      first
       | ((with_reducible refine hK _ ?_);clear hK K)
       | (rw [if_neg (by decide)];(with_reducible refine hK _ ?_);clear hK K)
       | (apply Exists.intro;refine ⟨fun _=>?_,hK _ ?_⟩;((go_at_call 138;exact Calls.wg_of (hA _ _)));clear hK K)
     with_reducible refine wpQuiet_nil ?_
     intro _ hw';obtain ⟨⟨nq,osq⟩,hw''⟩:=hw';subst hw'';have hwg:=Mid.ofWg wr nq osq;generalize wg wr nq osq=w6 at hwg ⊢;have hswg:=hwg.size;replace bx:=bx.mid hwg oZr;replace hord:=owns_mid hord hwg oZl;replace hm:=hm.trans hwg;replace HL4:=Lib.hid (HL4.out.mid hwg oZl);replace HRE:=Lib.hid (HRE.out.mid hwg oZl);generalize htx:nextV es u x=t at hnx hcs ⊢;have HTX:=Lib.hid htx;clear k0 k1 k2 k3 k4 hA;by_cases ht0:t < 0
     ·have b1:decide (t < 0)=true:=by simp;omega
      have HNX:=Lib.hid (hnx.trans (by rw [bfsStep,htx,if_pos (.inl ht0)]:bfsStep es u wd stj x=stj));clear hnx hcs ht0 htx;go_wp2_with fail;go_roundw
      case rel=>exact ⟨j+1,n1,_,c1,T,AT,cT,L2,H2,by omega,by go_num,rfl,rfl,by rw [HNX.out];exact HTL,HRE,hwL,HDE,by rw [HNX.out];exact HN,by rw [HNX.out];exact hord,HL4,HD,bx,hm⟩
      case measure=>simp [intOf];omega
     ·have b1:decide (t < 0)=false:=by simp;omega
      obtain ⟨b2,hb2⟩:=bool_of (t∈stj.map Prod.fst);have HB2:=Lib.hid hb2;have hlm:(stj.map Prod.fst).length=n1:=by rw [List.length_map];exact HN.out
      have hP:=spec_l4Has (some ⟨g1,0,none⟩) (stj.map Prod.fst) c1 t w6 _ _ (owns_rv hord) (by omega) b2 HB2.out;rw [hlm] at hP;have HLM:=Lib.hid hlm;clear hb2 hcs hlm;go_wp2_with fail;with_reducible refine hP.mono ?_
      rintro en w7 ⟨rfl,rfl⟩;cases b2 with
      | true =>
       have HNX:=Lib.hid (hnx.trans (by rw [bfsStep,htx,if_pos (.inr (HB2.out.1 (by trivial)))]:bfsStep es u wd stj x=stj));clear hnx htx ht0 hP;go_wp2_with fail;go_roundw
       case rel=>exact ⟨j+1,n1,_,c1,T,AT,cT,L2,H2,by omega,by go_num,rfl,rfl,by rw [HNX.out];exact HTL,HRE,hwL,HDE,by rw [HNX.out];exact HN,by rw [HNX.out];exact hord,HL4,HD,bx,hm⟩
       case measure=>simp [intOf];omega
      | false =>
       have hnm:t ∉ stj.map Prod.fst:=fun h=>by have:=HB2.out.2 h;cases this
       have HNX:=Lib.hid (hnx.trans (by rw [bfsStep,htx,if_neg (fun h=>h.elim (fun h=>by omega) hnm)]:bfsStep es u wd stj x=stj++[(t,wd++[x])]));have HO9:=Lib.hid hord;have hsz9:w1.heap.size≤w6.heap.size:=by have:=HL4.out.1;omega
       have hLTt:0≤t:=by omega
       clear hnx htx ht0 hP hnm;go_wp2_with (at_builtin;refine MarkerX.to ?_)
       unfold MarkerX;refine wpList_pushI2 rfl _ _ rfl w1.heap.size _ n1 c1 (stj.map Prod.fst) rfl HO9.out t rfl (by omega) hsz9 ?_;intro A10 c10 w10 hord10 hgr10 hat10;have hm10:=Mid.of_grownRow HO9.out hgr10;have bx10:=bx.mid hm10 (Or.inl (by omega));have hL10:=HL4.out.grown hgr10 HD.out;have hmm10:=hm.transNew hm10 (Or.inl (by omega));have hmap:(stj++[(t,wd++[x])]).map Prod.fst=stj.map Prod.fst++[t]:=by simp
       have HMAP:=Lib.hid hmap;have hw46:w4.heap.size≤w6.heap.size:=HL4.out.1;have HD10:Hid (∀ g,Value.ownBlock (.slice A10 (n1+1) c10)=some g→g < w1.heap.size+1 ∨ w4.heap.size≤g):=Lib.hid (by
        intro g hg;rcases hat10 with h | h
        ·exact HD.out g (h.symm.trans hg)
        ·rw [h] at hg
         injection hg with hg
         omega)
       have HL10:=Lib.hid hL10;have HRE10:=Lib.hid (RV.grown HRE.out hgr10 HDE.out);have hs10:=hgr10.size;have HTT:Hid (TreeL es (stj++[(t,wd++[x])]) (putE (stepE u x t) T)):=Lib.hid (by
        have h:=HTL.out.put HF.out (by intro h0;have h1:=HN.out;rw [h0] at h1;simp at h1;omega) (u:=u) (x:=x) (w:=wd) (by rw [HTX.out];exact hLTt);rw [HTX.out] at h;exact h)
       have hTl:T.length≤1000000:=by have h1:=HTL.out.len;have h2:=HN.out;omega
       have hmd:=Mid.drew1 w10;have hordz:=owns_mid hord10 hmd oZl;have HLz:=Lib.hid (hL10.mid hmd oZl);have HREz:=Lib.hid (HRE10.out.mid hmd oZl);have bxz:=bx10.mid hmd oZr;have hmz:=hmm10.trans hmd;have hszz:=hmd.size;obtain ⟨g10,hA10,hg10,hg10s⟩:=owns_addr hord10 (Nat.succ_pos n1);subst hA10;have hcu10:w10.cell? ⟨g10,i,none⟩=some (.int .i64 u):=(hord10.cellAt i (by omega)).trans (by rw [ints_append,List.getElem?_append_left (by rw [ints_len,List.length_map,HN.out];exact hil),ints_get,List.getElem?_map,HPJ.out];rfl);have hcx10:w10.cell? ⟨B4,o4+j,none⟩=some (.int .i64 x):=by
        obtain ⟨B',o',x',hA', -,hx',hc'⟩:=hL10.at (k:=j) (by rw [HLn.out];exact hlt2);injection hA' with hA'
        injection hA' with e1 e2
        subst e1 e2;rw [HXJ.out] at hx';injection hx' with hx'
        subst hx';exact hc'
       have hcuz:=cell_keep hmd hg10s oZr hcu10;have hcxz:=cell_keep hmd (Nat.lt_of_lt_of_le hB4s (by omega)) oZr hcx10;have hseq:∀ g,Value.ownBlock (.slice (some (⟨g10,0,none⟩:Addr)) (n1+1) c10)=some g→g < (World.drew w10).heap.size:=fun g hg=>by have h:=Option.some.inj (show some g10=some g from hg);omega
       have HSEQ:=Lib.hid hseq;have hi1':(i:Int) < (n1:Int)+1:=by omega
       have hwn:IntKind.i64.wrap (-x) = -x:=IntWalk.i64_in _ (by omega);have HORDz:=Lib.hid hordz;clear hL10 hmap hat10 hgr10 HRE10 hmm10 bx10 hord10 hm10 HRE HTL HDE HL4 hord HO9 hm bx hseq hordz;have hxne:=(mem_lets.1 (List.mem_of_getElem? HXJ.out)).1;by_cases hx0:0 < x
       ·have d0:decide (0 < x)=true:=by simpa using hx0
        have hse:stepE u x t=⟨u,x,t⟩:=by rw [stepE,if_neg (by omega)]
        rw [hse] at HTT;have HP4:=Lib.hid (fun W h=>spec_l4Put AT T cT ⟨u,x,t⟩ W L2 H2 h hTl);clear hse;go_wp2_with fail;refine wp_region_still_tail 11 (by kernel_rfl) (by kernel_rfl) ?_;simp only [List.take_succ_cons,List.take_zero,List.drop_succ_cons,List.drop_zero];change wpStill _ _ (World.drew w10) (fun a'=>wpList _ _ _ _ a' (World.drew w10)) _ _;generalize World.drew w10=wz at HLz HREz bxz hmz hszz hcuz hcxz HSEQ HORDz ⊢;repeat
         (with_reducible refine wpStill_step (fun K hK=>?_))
         go_simp
         first
          | ((with_reducible refine hK _ ?_);clear hK K)
        with_reducible refine wpStill_nil ?_
        go_wp2_with fail;with_reducible refine (HP4.out wz (RV.rg HREz.out)).mono ?_
        rintro en w12 ⟨A12,c12,rfl,hO12,hm12⟩;have hordY:=owns_mid HORDz.out hm12 oZl;have HLY:=Lib.hid (HLz.out.mid hm12 oZl);have bxY:=bxz.mid hm12 oZr;have hmY:=hmz.trans hm12;have HREY:=Lib.hid hO12.rg;have HDEY:Hid (∀ g,Value.ownBlock (.slice (some (⟨g10,0,none⟩:Addr)) (n1+1) c10)=some g→g < wz.heap.size ∨ w12.heap.size≤g):=Lib.hid (fun g hg=>.inl (HSEQ.out g hg));have hwLY:w.heap.size≤wz.heap.size:=hmz.size;have HN12:Hid ((bfsRow es ((lets r).take (j+1)) (u,wd) (bfsSt es (lets r) 0 i)).length=n1+1):=Lib.hid (by rw [HNX.out,List.length_append,HN.out];rfl);rw [← HMAP.out,← HNX.out] at hordY;have HTTY:=HTT.out;rw [← HNX.out] at HTTY;have HTTY2:=Lib.hid HTTY;clear HORDz HLz HREz bxz hmz hO12 hm12 HP4 HTT HTTY hcuz hcxz;go_wp2_with fail;go_roundw
        case rel=>exact ⟨j+1,n1+1,_,c10,_,A12,c12,_,_,by omega,by go_num,rfl,rfl,HTTY2,HREY,hwLY,HDEY,HN12,hordY,HLY,HD10,bxY,hmY⟩
        case measure=>simp [intOf];omega
       ·have d0:decide (0 < x)=false:=by simpa using hx0
        have hse:stepE u x t=⟨t, -x,u⟩:=by rw [stepE,if_pos (by omega)]
        rw [hse] at HTT;have HP4:=Lib.hid (fun W h=>spec_l4Put AT T cT ⟨t, -x,u⟩ W L2 H2 h hTl);clear hse;go_wp2_with fail;refine wp_region_still_tail 12 (by kernel_rfl) (by kernel_rfl) ?_;simp only [List.take_succ_cons,List.take_zero,List.drop_succ_cons,List.drop_zero];change wpStill _ _ (World.drew w10) (fun a'=>wpList _ _ _ _ a' (World.drew w10)) _ _;generalize World.drew w10=wz at HLz HREz bxz hmz hszz hcuz hcxz HSEQ HORDz ⊢;repeat
         (with_reducible refine wpStill_step (fun K hK=>?_))
         go_simp
         first
          | ((with_reducible refine hK _ ?_);clear hK K)
        with_reducible refine wpStill_nil ?_
        go_wp2_with fail;with_reducible refine (HP4.out wz (RV.rg HREz.out)).mono ?_
        rintro en w12 ⟨A12,c12,rfl,hO12,hm12⟩;have hordY:=owns_mid HORDz.out hm12 oZl;have HLY:=Lib.hid (HLz.out.mid hm12 oZl);have bxY:=bxz.mid hm12 oZr;have hmY:=hmz.trans hm12;have HREY:=Lib.hid hO12.rg;have HDEY:Hid (∀ g,Value.ownBlock (.slice (some (⟨g10,0,none⟩:Addr)) (n1+1) c10)=some g→g < wz.heap.size ∨ w12.heap.size≤g):=Lib.hid (fun g hg=>.inl (HSEQ.out g hg));have hwLY:w.heap.size≤wz.heap.size:=hmz.size;have HN12:Hid ((bfsRow es ((lets r).take (j+1)) (u,wd) (bfsSt es (lets r) 0 i)).length=n1+1):=Lib.hid (by rw [HNX.out,List.length_append,HN.out];rfl);rw [← HMAP.out,← HNX.out] at hordY;have HTTY:=HTT.out;rw [← HNX.out] at HTTY;have HTTY2:=Lib.hid HTTY;clear HORDz HLz HREz bxz hmz hO12 hm12 HP4 HTT HTTY hcuz hcxz;go_wp2_with fail;go_roundw
        case rel=>exact ⟨j+1,n1+1,_,c10,_,A12,c12,_,_,by omega,by go_num,rfl,rfl,HTTY2,HREY,hwLY,HDEY,HN12,hordY,HLY,HD10,bxY,hmY⟩
        case measure=>simp [intOf];omega
    ·obtain rfl:j=LL:=by omega
     have htk:(lets r).take j=lets r:=List.take_of_length_le (by rw [HLn.out];exact Nat.le_refl _);rw [htk] at hstj;have hnx:=hNX.out;rw [hstj] at hnx;have HNX:=Lib.hid hnx;have hin1:i+1≤n1:=by have h1:=(List.getElem?_eq_some_iff.1 hpj).1;have h2:=HN.out;omega
     clear hnx hstj hpj;go_wp2_with fail;go_roundw
     case rel=>exact ⟨i+1,n1,A1,c1,T,AT,cT,L2,H2,hin1,by go_num,rfl,rfl,by rw [HNX.out];exact HTL,HRE,hwL,HDE,by rw [HNX.out];exact HN,by rw [HNX.out];exact hord,HL4,HD,bx,hm⟩
     case measure=>simp [intOf];omega
  ·obtain rfl:i=n1:=by omega
   have hbf:=bfs_eq (L:=lets r) HG.out.all hv0 hv3 (by omega) HN.out;rw [← hbf] at HTL;clear hbf;go_wp2_with fail;go_ret;exact ⟨T,AT,cT,rfl,HTL.out,⟨Nat.le_refl _,fun hn=>by obtain ⟨b,off,h1,h2,h3,h4⟩:=HRE.out.2 hn;exact ⟨b,off,h1,by omega,by have:=HRE.out.1;omega,h4⟩⟩,hm⟩
end
section
open Go.RowKit
theorem notIn_congr {T U es:List Ed} (h:∀ e,e∈T↔e∈U):notIn T es=notIn U es:=by
 unfold notIn
 congr 1
 funext e
 rw [decide_eq_decide,h e]
theorem spec_ExtraEdges (r n:Nat) (A:Option Addr) (es:List Ed) (c:Nat) (w:World) (lo hi:Nat) (hr:RG w lo hi A es) (hf:IsFol r n es) :
  Calls Tryz.prog 117 #[graV r n A es.length c] w fun e w'=>∃ A1 c1,e=.returned (.slice A1 (notIn (treeE es (bfs es (lets r) 0)) es).length c1)∧OG w' w.heap.size w'.heap.size A1 c1 (notIn (treeE es (bfs es (lets r) 0)) es)∧Mid 0 0 w w':=by
 have hl:=hf.gr.len;have HF:=Lib.hid hf;clear hf;have hbl:(bfs es (lets r) 0).length≤40:=by
  have hs:=HF.out.gr.size;have:=(bfs_ok (L:=lets r) (v:=0) HF.out.gr.all (Int.le_refl _) (by omega)).len (by omega);omega
 have hm0:Mid 0 0 w (w.alloc (.cells #[.int .i64 r,.int .i64 n,.slice A es.length c] 26)):=Mid.alloc _ _;have B0:=Box.new w #[.int .i64 r,.int .i64 n,.slice A es.length c] 26;have p0:=B0.cell 0 rfl;have p1:=B0.cell 1 rfl;have p2:=B0.cell 2 rfl;go_enter Tryz.func117,Tryz.ntmps117
 go_wp2_with fail;generalize w.alloc (.cells #[.int .i64 r,.int .i64 n,.slice A es.length c] 26)=w1 at hm0 B0 p0 p1 p2 ⊢;have hs1:w.heap.size < w1.heap.size:=B0.1;with_reducible refine (spec_l10Tree r n A es c w1 lo hi (hr.mid hm0 oZl) HF.out).mono ?_
 rintro en w2 ⟨T,AT,cT,rfl,hTL,hRT,hm2⟩;have hs2:=hm2.size;clear p0 p1 p2;replace B0:=B0.mid hm2 oZr;replace hm0:=hm0.trans hm2;have hTl:T.length≤40:=by have:=hTL.len;omega
 have HX:=Lib.hid (notIn_congr (es:=es) hTL.mem);have O0:=owns_empty w2 68 3;have hal:=Mid.alloc w2 (.cells #[] 68);replace B0:=B0.mid hal oZr;replace hRT:=hRT.mid hal oZl;replace hm0:=hm0.trans hal;have HRT:=Lib.hid hRT;have hs3:(w2.alloc (.cells #[] 68)).heap.size=w2.heap.size+1:=by simp
 clear hTL hRT hm2;have p0:=B0.cell 0 rfl;have p1:=B0.cell 1 rfl;have p2:=B0.cell 2 rfl;go_wp2_with fail;generalize w2.alloc (.cells #[] 68)=w3 at B0 HRT hm0 O0 hs3 hal p0 p1 p2 ⊢;have HO0:Hid (w3.ownsRow w2.heap.size 68 3 (.slice (some ⟨w2.heap.size,0,none⟩) 0 0) 0 (ints (edI (notIn T (es.take 0))))):=Lib.hid O0;have HN0:Hid ((notIn T (es.take 0)).length=0):=Lib.hid rfl;have hsz3:w2.heap.size≤w3.heap.size:=by omega
 clear O0 hal p0 p1 p2 hs3;generalize (some (⟨w2.heap.size,0,none⟩:Addr))=A0 at HO0 ⊢;generalize w2.heap.size=H2 at HO0 HRT hsz3 hs2;go_loopw [4,5] (fun ov kv wr=>∃ (k n2:Nat) (A2:Option Addr) (c2:Nat),kv=.int .i64 k∧ov=.slice A2 n2 c2∧k≤es.length∧Hid ((notIn T (es.take k)).length=n2)∧Hid (wr.ownsRow H2 68 3 (.slice A2 n2 c2) n2 (ints (edI (notIn T (es.take k)))))∧Hid (RG wr w1.heap.size H2 AT T)∧Box wr w.heap.size [.int .i64 r,.int .i64 n,.slice A es.length c]∧H2≤wr.heap.size∧Mid 0 0 w wr) (fun _ kv _=>es.length - (intOf kv).toNat)
 case atStart=>exact ⟨0,0,A0,0,rfl,rfl,Nat.zero_le _,HN0,HO0,HRT,B0,hsz3,hm0⟩
 case round =>
  clear HN0 HO0 HRT B0 hsz3 hm0;obtain ⟨wo,hwo⟩:∃ wo,wo=wr:=⟨_,rfl⟩
  subst hwo;obtain ⟨k,n2,A2,c2,rfl,rfl,hk,HN,HO,HRT,B0,hsz,hm0⟩:=hrel;have hn2:n2≤120:=by have h1:=notIn_len T (es.take k);have h2:=HN.out;rw [List.length_take] at h1;omega
  have p0:=B0.cell 0 rfl;have p1:=B0.cell 1 rfl;have p2:=B0.cell 2 rfl;by_cases hlt:k < es.length
  ·have hk0:(0:Int)≤(k:Int):=by omega
   have hkm:(k:Int) < (es.length:Int):=by omega
   go_wp2_with fail;with_reducible refine (spec_IsFolded r n A es c wo lo hi (hr.mid hm0 oZl) (by omega) true (iff_of_true rfl HF.out)).mono ?_
   rintro en w4 ⟨rfl,hm4⟩;have HO4:=Lib.hid (owns_mid HO.out hm4 oZl);have HRT4:=Lib.hid (HRT.out.mid hm4 oZl);have hs4:=hm4.size;clear p0 p1 p2;replace B0:=B0.mid hm4 oZr;replace hm0:=hm0.trans hm4;have p0:=B0.cell 0 rfl;have p1:=B0.cell 1 rfl;have p2:=B0.cell 2 rfl;clear HO HRT hm4;obtain ⟨b,off,e,hA, -,hbh,he,x0,x1,x2⟩:=(hr.mid hm0 oZl).ed hlt;subst hA;have hbs:b < w4.heap.size:=Nat.lt_of_lt_of_le hbh (Nat.le_trans hr.1 hm0.size);have HE:=Lib.hid he;clear he;go_wp2_with fail;go_loopw [6,7] (fun v j wq=>∃ m:Nat,∃ vb:Bool,m≤T.length∧j=.int .i64 m∧v=.bool vb∧Hid (vb=true↔e∈T.take m)∧Mid 0 0 w4 wq) (fun _ j _=>T.length - (intOf j).toNat)
   case atStart=>exact ⟨0,false,Nat.zero_le _,rfl,rfl,Lib.hid (by simp),Mid.refl _ _ _⟩
   case round =>
    obtain ⟨m,vb,hmle,rfl,rfl,HV,hmq⟩:=hrel;have ba:=B0.mid hmq oZr;have P2:=ba.cell 2 rfl;clear p0 p1 p2;by_cases hlm:m < T.length
    ·obtain ⟨B',off',f,rfl, -,hbh',hff,f0,f1,f2⟩:=(HRT4.out.mid hmq oZl).ed hlm
     have zb':B' < wr.heap.size:=by have:=hmq.size;omega
     have zq:=hmq.size;have p2:=wg_cell ba.1 P2;have y0:=wg_cell (by show b < wr.heap.size;omega) (cell_keep hmq hbs oZr x0);have y1:=wg_cell (by show b < wr.heap.size;omega) (cell_keep hmq hbs oZr x1);have y2:=wg_cell (by show b < wr.heap.size;omega) (cell_keep hmq hbs oZr x2);have z0:=wg_cell (by show B' < wr.heap.size;omega) f0;have z1:=wg_cell (by show B' < wr.heap.size;omega) f1;have z2:=wg_cell (by show B' < wr.heap.size;omega) f2;have hm0':(0:Int)≤(m:Int):=by omega
     have hmn:(m:Int) < (T.length:Int):=by omega
     obtain ⟨d,hd⟩:∃ d,decide (f=e)=d:=⟨_,rfl⟩
     have hq:=eqlEd_run f e hd;have hg:=guardEd f e;have HD:=Lib.hid hd;have HFF:=Lib.hid hff;clear hff hd zq;cases vb with
     | false =>
      go_wp2_with fail;refine wp_region_quiet_wg (by kernel_rfl) (by kernel_rfl) ?_;repeat
       (with_reducible refine wpQuiet_step (fun K hK=>?_))
       go_simp
       first
        | ((with_reducible refine hK _ ?_);clear hK K)
        | (rw [if_neg (by decide)];(with_reducible refine hK _ ?_);clear hK K)
        | (apply Exists.intro;refine ⟨fun _=>?_,hK _ ?_⟩;(fail);clear hK K)
      with_reducible refine wpQuiet_nil ?_
      intro _ hw';obtain ⟨⟨nq,osq⟩,hw''⟩:=hw';subst hw'';go_wp2_with fail;go_roundw
      case rel =>
       refine ⟨m+1,d,by omega,by go_num,rfl,Lib.hid ?_,hmq.trans (Mid.ofWg _ _ _)⟩;rw [mem_take_snoc HFF.out,← HD.out,decide_eq_true_iff];have hn:¬ e∈T.take m:=fun h=>by have:=HV.out.2 h;cases this
       exact ⟨fun h=>.inr h.symm,fun h=>(h.resolve_left hn).symm⟩
      case measure=>simp [intOf];omega
     | true =>
      have HM:=Lib.hid (HV.out.1 rfl);clear HV;go_wp2_with fail;refine wp_region_quiet_wg (by kernel_rfl) (by kernel_rfl) ?_;repeat
       (with_reducible refine wpQuiet_step (fun K hK=>?_))
       go_simp
       first
        | ((with_reducible refine hK _ ?_);clear hK K)
        | (rw [if_neg (by decide)];(with_reducible refine hK _ ?_);clear hK K)
        | (apply Exists.intro;refine ⟨fun _=>?_,hK _ ?_⟩;(fail);clear hK K)
      with_reducible refine wpQuiet_nil ?_
      intro _ hw';obtain ⟨⟨nq,osq⟩,hw''⟩:=hw';subst hw'';go_wp2_with fail;go_roundw
      case rel=>exact ⟨m+1,true,by omega,by go_num,rfl,Lib.hid (iff_of_true rfl ((mem_take_snoc HFF.out).2 (.inl HM.out))),hmq.trans (Mid.ofWg _ _ _)⟩
      case measure=>simp [intOf];omega
    ·obtain rfl:m=T.length:=by omega
     have HO5:=Lib.hid (owns_mid HO4.out hmq oZl);have HRT5:=Lib.hid (HRT4.out.mid hmq oZl);have hs5:=hmq.size;have hm5:=hm0.trans hmq;have X0:=cell_keep hmq hbs oZr x0;have X1:=cell_keep hmq hbs oZr x1;have X2:=cell_keep hmq hbs oZr x2;have hbs5:b < wr.heap.size:=by omega
     cases vb with
     | true =>
      have hin:e∈T:=by have:=HV.out.1 rfl;rwa [List.take_length] at this
      have HN2:Hid ((notIn T (es.take (k+1))).length=n2):=Lib.hid (by rw [notIn_take HE.out,if_neg (by simpa using hin),List.append_nil];exact HN.out);have HO6:Hid (wr.ownsRow H2 68 3 (.slice A2 n2 c2) n2 (ints (edI (notIn T (es.take (k+1)))))):=Lib.hid (by rw [notIn_take HE.out,if_neg (by simpa using hin),List.append_nil];exact HO5.out);clear HV HN HO4 HO5 HRT4 hin;go_wp2_with fail;go_roundw
      case rel=>exact ⟨k+1,n2,A2,c2,by go_num,rfl,by omega,HN2,HO6,HRT5,ba,by omega,hm5⟩
      case measure=>simp [intOf];omega
     | false =>
      have hin:e ∉ T:=fun h=>by have:=HV.out.2 (by rw [List.take_length];exact h);cases this
      have HIN:=Lib.hid hin;clear HV HO4 HRT4 hin;go_wp2_with (at_builtin;refine MarkerX.to ?_)
      unfold MarkerX;refine wpList_pushE2 rfl _ _ rfl H2 A2 n2 c2 _ rfl HO5.out e rfl (by omega) (by omega) ?_;intro A6 c6 w6 ho6 hgr6 hat6;have HN2:Hid ((notIn T (es.take (k+1))).length=n2+1):=Lib.hid (by rw [notIn_take HE.out,if_pos HIN.out,List.length_append,HN.out];rfl);have HO6:Hid (w6.ownsRow H2 68 3 (.slice A6 (n2+1) c6) (n2+1) (ints (edI (notIn T (es.take (k+1)))))):=Lib.hid (by rw [notIn_take HE.out,if_pos HIN.out];exact ho6);have HRT6:Hid (RG w6 w1.heap.size H2 AT T):=Lib.hid (RV.rg (RV.grown HRT5.out hgr6 (fun g hg=>.inr (HO5.out.lt g hg).1)));have hm6:=hm5.grownNew hgr6 (fun g hg=>by have:=(HO5.out.lt g hg).1;omega);have B6:=ba.grown hgr6 (by intro h0;have:=(HO5.out.lt _ h0).1;omega);have hs6:=hgr6.size;clear ho6 hgr6 hat6 HN HO5 HRT5 hm5 HIN;go_wp2_with fail;go_roundw
      case rel=>exact ⟨k+1,n2+1,A6,c6,by go_num,rfl,by omega,HN2,HO6,HRT6,B6,by omega,hm6⟩
      case measure=>simp [intOf];omega
  ·obtain rfl:k=es.length:=by omega
   have hN:=HN.out;have hO:=HO.out;rw [List.take_length] at hN hO;subst hN;have hOG:OG wo w.heap.size wo.heap.size A2 c2 (notIn T es):=⟨Nat.le_refl _,owns_base hO (by omega),fun g hg=>(hO.lt g hg).2⟩
   have HOG:=Lib.hid hOG;clear hO HO hOG HRT HN;go_wp2_with fail;go_ret;rw [← HX.out];exact ⟨A2,c2,rfl,HOG.out,hm0⟩
end
section
open Go.RowKit
theorem spec_BasisOf (r n:Nat) (A:Option Addr) (es:List Ed) (c:Nat) (w:World) (lo hi:Nat) (hr:RG w lo hi A es) (hco:IsCor r n es) (X:List Ed) (hXe:X=notIn (treeE es (bfs es (lets r) 0)) es) :
  Calls Tryz.prog 30 #[graV r n A es.length c] w fun e w'=>∃ A1 c1,e=.returned (.slice A1 (X.map (basisW r es)).length c1)∧OSS w' w.heap.size w'.heap.size 34 3 A1 c1 (X.map (basisW r es))∧Mid 0 0 w w':=by
 have hl:=hco.gr.len;have hXl:X.length≤120:=by rw [hXe];have:=notIn_len (treeE es (bfs es (lets r) 0)) es;omega
 have hX:∀ e∈X,e∈es:=fun e he=>by rw [hXe] at he;exact (List.mem_filter.1 he).1
 have hEE:=fun W h=>spec_ExtraEdges r n A es c W lo hi h hco.fol;rw [← hXe] at hEE;have HEE:=Lib.hid hEE;have HX:=Lib.hid hX;have HCO:=Lib.hid hco;clear hEE hX hXe hco;have hm0:Mid 0 0 w ((w.alloc (.cells #[.int .i64 r,.int .i64 n,.slice A es.length c] 26)).alloc (.cells #[] 34)):=(Mid.alloc _ _).trans (Mid.alloc _ _);have B0:=(Box.new w #[.int .i64 r,.int .i64 n,.slice A es.length c] 26).mid (Mid.alloc _ (.cells #[] 34)) oZr;have O0:=Own1.empty (w.alloc (.cells #[.int .i64 r,.int .i64 n,.slice A es.length c] 26));simp only [World.size_alloc] at O0;have p0:=B0.cell 0 rfl;have p1:=B0.cell 1 rfl;have p2:=B0.cell 2 rfl;go_enter Tryz.func30,Tryz.ntmps30
 go_wp2_with fail;generalize (w.alloc (.cells #[.int .i64 r,.int .i64 n,.slice A es.length c] 26)).alloc (.cells #[] 34)=w1 at hm0 B0 O0 p0 p1 p2 ⊢;have hs1:w.heap.size+1 < w1.heap.size:=(O0.lt rfl).2;with_reducible refine (spec_IsSubgroup r n A es c w1 lo hi (hr.mid hm0 oZl) (by omega) true (iff_of_true rfl HCO.out)).mono ?_
 rintro en w2 ⟨rfl,hm2⟩;have hs2:=hm2.size;clear p0 p1 p2;replace O0:=O0.mid hm2;replace B0:=B0.mid hm2 oZr;replace hm0:=hm0.trans hm2;have p0:=B0.cell 0 rfl;have p1:=B0.cell 1 rfl;have p2:=B0.cell 2 rfl;clear hm2;go_wp2_with fail;with_reducible refine (HEE.out w2 (hr.mid hm0 oZl)).mono ?_
 rintro en w3 ⟨AX,cX,rfl,hOX,hm3⟩;have hs3:=hm3.size;have HRX:=Lib.hid hOX.rg;clear p0 p1 p2 hOX;replace O0:=O0.mid hm3;replace B0:=B0.mid hm3 oZr;replace hm0:=hm0.trans hm3;clear hm3;have HO0:=Lib.hid O0;have HD0:Hid (∀ g,obS (some (⟨w.heap.size+1,0,none⟩:Addr)) 0 0=some g→g=w.heap.size+1 ∨ w3.heap.size≤g):=Lib.hid (fun g hg=>.inl (ob_oneB hg));have HN0:Hid (rowsD ([]:List Row)=(X.take 0).map (basisW r es)):=Lib.hid rfl;have hw2:w.heap.size+2≤w2.heap.size:=by omega
 clear O0;generalize (some (⟨w.heap.size+1,0,none⟩:Addr))=A0 at HO0 HD0 ⊢;generalize w2.heap.size=L2 at HRX hw2 hs3;generalize hH:w3.heap.size=H3 at HRX HD0 hs3;have hsz3:H3≤w3.heap.size:=Nat.le_of_eq hH.symm;clear hH hs2;go_wp2_with fail;go_loopw [3,5] (fun ov kv wr=>∃ (k:Nat) (rows:List Row) (A2:Option Addr) (c2:Nat),kv=.int .i64 k∧ov=.slice A2 k c2∧k≤X.length∧Hid (rowsD rows=(X.take k).map (basisW r es))∧Hid (Own1 wr (w.heap.size+1) A2 k c2 rows)∧Hid (∀ g,obS A2 k c2=some g→g=w.heap.size+1 ∨ H3≤g)∧Hid (RG wr L2 H3 AX X)∧Box wr w.heap.size [.int .i64 r,.int .i64 n,.slice A es.length c]∧H3≤wr.heap.size∧Mid 0 0 w wr) (fun _ kv _=>X.length - (intOf kv).toNat)
 case atStart=>exact ⟨0,[],A0,0,rfl,rfl,Nat.zero_le _,HN0,HO0,HD0,HRX,B0,hsz3,hm0⟩
 case round =>
  clear HN0 HO0 HD0 HRX B0 hsz3 hm0;obtain ⟨wo,hwo⟩:∃ wo,wo=wr:=⟨_,rfl⟩
  subst hwo;obtain ⟨k,rows,A2,c2,rfl,rfl,hk,HN,HO,HD,HRX,B0,hsz,hm0⟩:=hrel;by_cases hlt:k < X.length
  ·have hmd:=Mid.drew1 wo
   have HOd:=Lib.hid (HO.out.mid hmd);have HRd:=Lib.hid (HRX.out.mid hmd oZl);have Bd:=B0.mid hmd oZr;have hm1:=hm0.trans hmd;have hszd:=hmd.size;obtain ⟨b,off,⟨ea,el,ebb⟩,hA, -,hbh,he,x0,x1,x2⟩:=(HRd.out).ed hlt;simp only at x0 x1 x2;subst hA;have hbs:b < (World.drew wo).heap.size:=by omega
   have hk0:(0:Int)≤(k:Int):=by omega
   have hkm:(k:Int) < (X.length:Int):=by omega
   have hem:=HX.out _ (List.mem_of_getElem? he);have hin:=HCO.out.gr.all _ hem;unfold InG at hin;simp only at hin;obtain ⟨pa,rfl⟩:∃ m:Nat,ea=m:=⟨ea.toNat,by omega⟩
   obtain ⟨pb,rfl⟩:∃ m:Nat,ebb=m:=⟨ebb.toNat,by omega⟩
   have HEK:=Lib.hid he;have HLO:=Lib.hid (fun W h=>spec_LoopOf r n A es c pa pb el W lo hi h HCO.out hem);have p0:=Bd.cell 0 rfl;have p1:=Bd.cell 1 rfl;have p2:=Bd.cell 2 rfl;clear he hem hin HO HRX B0 hm0;go_wp2_with fail;refine wp_region_still_tail 5 (by kernel_rfl) (by kernel_rfl) ?_;simp only [List.take_succ_cons,List.take_zero,List.drop_succ_cons,List.drop_zero];change wpStill _ _ (World.drew wo) (fun a'=>wpList _ _ _ _ a' (World.drew wo)) _ _;generalize World.drew wo=wz at HOd HRd Bd hm1 hszd hbs x0 x1 x2 p0 p1 p2 hmd ⊢;repeat
    (with_reducible refine wpStill_step (fun K hK=>?_))
    go_simp
    first
     | ((with_reducible refine hK _ ?_);clear hK K)
   with_reducible refine wpStill_nil ?_
   go_wp2_with fail;with_reducible refine (HLO.out wz (hr.mid hm1 oZl)).mono ?_
   rintro en w5 ⟨A5,c5,rfl,ho5,hm5⟩;have hrow:w5.ownsRow wz.heap.size 3 1 (Row.v ⟨A5,c5,basisW r es ⟨(pa:Int),el,(pb:Int)⟩⟩) (basisW r es ⟨(pa:Int),el,(pb:Int)⟩).length (ints (basisW r es ⟨(pa:Int),el,(pb:Int)⟩)):=ho5;have HROW:=Lib.hid hrow;have HRX5:=Lib.hid (HRd.out.mid hm5 oZl);have B5:=Bd.mid hm5 oZr;have hm6:=hm1.trans hm5;have hs5:=hm5.size;have HOz:=HOd;have HM5:=Lib.hid hm5;have hbb:=Bd.1;clear ho5 hrow HRd Bd hm1 p0 p1 p2 x0 x1 x2 hmd HLO hm5 HOd;generalize hBW:basisW r es ⟨(pa:Int),el,(pb:Int)⟩=bw at HROW ⊢;have HBW:=Lib.hid hBW;clear hBW;go_wp2_with (at_builtin;refine MarkerX.to ?_)
   unfold MarkerX;refine wpList_push1 rfl _ _ rfl rfl HOz.out HM5.out ⟨A5,c5,bw⟩ (.slice A5 bw.length c5) rfl HROW.out rfl (by omega) (by omega) ?_;intro A8 c8 w8 hO8 hgr8 hat8;have HO8:=Lib.hid hO8;have HN8:Hid (rowsD (rows++[(⟨A5,c5,bw⟩:Row)])=(X.take (k+1)).map (basisW r es)):=Lib.hid (by
    obtain ⟨h1,h2⟩:=List.getElem?_eq_some_iff.1 HEK.out;rw [rowsD_append,HN.out,List.take_succ_eq_append_getElem h1,h2,List.map_append,List.map_cons,HBW.out]
    rfl)
   have HRX8:Hid (RG w8 L2 H3 _ X):=Lib.hid (RV.rg (RV.grown HRX5.out hgr8 (fun g hg=>by rcases HD.out g hg with h | h <;> omega)));have B8:=B5.grown hgr8 (by intro h0;have:=(HOz.out.lt h0).1;omega);have hm8:=hm6.grownNew hgr8 (fun g hg=>by have:=(HOz.out.lt hg).1;omega);have hs8:=hgr8.size;have HD8:Hid (∀ g,obS A8 (k+1) c8=some g→g=w.heap.size+1 ∨ H3≤g):=Lib.hid (by
    intro g hg;rcases hat8 with h | h
    ·exact HD.out g (h ▸ hg)
    ·rw [h] at hg
     have hg':=Option.some.inj hg;omega)
   clear hO8 hgr8 hat8 HOz HM5 HRX5 B5 hm6 HROW HN HD;go_wp2_with fail;go_roundw
   case rel=>exact ⟨k+1,_,A8,c8,by go_num,rfl,by omega,HN8,HO8,HD8,HRX8,B8,by omega,hm8⟩
   case measure=>simp [intOf];omega
  ·obtain rfl:k=X.length:=by omega
   have hN:=HN.out;rw [List.take_length] at hN;have hlen:(X.map (basisW r es)).length=X.length:=List.length_map ..;have HQ:Hid (OSS wo w.heap.size wo.heap.size 34 3 A2 c2 (X.map (basisW r es))):=Lib.hid ((HO.out.base (Nat.le_succ _)).oss hN);have HLN:=Lib.hid hlen;clear hN hlen HN HO HD HRX;go_wp2_with fail;go_ret;exact ⟨A2,c2,by rw [HLN.out];rfl,HQ.out,hm0⟩
end
end Go.Proofs.YthampgpcajmopaaGreat
