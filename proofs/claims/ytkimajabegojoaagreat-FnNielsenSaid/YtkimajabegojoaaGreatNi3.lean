/- Contracts and lemmas of this seat, many texts in one: see the words ahead of each. No condition beyond those typed in each lemma. -/
import Derived.Test.YtkimajabegojoaaGreatNi2
import Derived.Test.YtkimajabegojoaaGreatNi1
import Derived.Lib.SliceRun

namespace Go.Proofs.YtkimajabegojoaaGreat
set_option linter.unusedVariables false
set_option linter.unusedSimpArgs false
set_option maxHeartbeats 40000000
set_option maxRecDepth 100000
section
open Go.RowKit
structure TreeSt (w:World) (g:Nat) (oB:Option Nat) (n:Nat) (vals:List Value) (st:BS):Prop where
 len:vals.length=n
 on:∀ p∈st,∃ b c,vals[p.1.toNat]?=some (.slice (some ⟨b,0,none⟩) p.2.length c)∧(∀ j u,(ints p.2)[j]?=some u→w.cell? ⟨b,j,none⟩=some u)∧b≠g∧oB≠some b∧b < w.heap.size
 off:∀ u:Nat,u < n→(u:Int) ∉ st.map Prod.fst→vals[u]?=some (.slice none 0 0)
section
variable {w w':World} {g n:Nat} {oB oB':Option Nat} {vals:List Value} {st:BS}
theorem TreeSt.mid {a b:Nat} (h:TreeSt w g oB n vals st) (m:Mid 0 0 w w'):TreeSt w' g oB n vals st :=
 ⟨h.len,fun p hp=>by
  obtain ⟨b,c,h1,h2,h3,h4,h5⟩:=h.on p hp;exact ⟨b,c,h1,fun j u hu=>(World.cell?_of_block (m.block b h5 (by omega))).trans (h2 j u hu),h3,h4,Nat.lt_of_lt_of_le h5 m.size⟩,h.off⟩
theorem TreeSt.grow (h:TreeSt w g oB n vals st) (hg:w.grownBy w' oB) (hb:oB'=oB ∨ ∃ k,oB'=some k∧w.heap.size≤k):TreeSt w' g oB' n vals st :=
 ⟨h.len,fun p hp=>by
  obtain ⟨b,c,h1,h2,h3,h4,h5⟩:=h.on p hp;refine ⟨b,c,h1,fun j u hu=>(World.cell?_of_block (hg.block b h5 (fun e=>h4 e.symm))).trans (h2 j u hu),h3,?_,Nat.lt_of_lt_of_le h5 hg.size⟩;rcases hb with rfl | ⟨k,rfl,hk⟩
  ·exact h4
  ·intro e
   injection e with e
   omega,h.off⟩
theorem TreeSt.set {t b c:Nat} {wd:List Int} (h:TreeSt w g oB n vals st) (ht:t < n) (hn:(t:Int) ∉ st.map Prod.fst) (hst:∀ p∈st,0≤p.1)
  (hc:∀ j u,(ints wd)[j]?=some u→w.cell? ⟨b,j,none⟩=some u) (hb:b≠g) (ho:oB≠some b) (hs:b < w.heap.size) :
  TreeSt (w.setCell ⟨g,t,none⟩ (.slice (some ⟨b,0,none⟩) wd.length c)) g oB n (vals.set t (.slice (some ⟨b,0,none⟩) wd.length c)) (st++[((t:Int),wd)]):=by
 have key:∀ (b' j:Nat) (u v:Value),b'≠g→w.cell? ⟨b',j,none⟩=some u→(w.setCell ⟨g,t,none⟩ v).cell? ⟨b',j,none⟩=some u:=fun b' j u v hbg hc =>
  (World.cell?_setCell_other w _ _ v (by intro e;injection e with e;exact hbg e.symm)).trans hc
 refine ⟨by rw [List.length_set];exact h.len,fun p hp=>?_,fun u hu hnu=>?_⟩
 ·rcases List.mem_append.1 hp with hp | hp
  ·obtain ⟨b',c',h1,h2,h3,h4,h5⟩:=h.on p hp
   have hne:t≠p.1.toNat:=by
    intro e;apply hn;have:=hst p hp;rw [show (t:Int)=p.1 by omega];exact List.mem_map_of_mem hp
   refine ⟨b',c',by rw [List.getElem?_set_ne hne];exact h1,fun j u hu=>key b' j u _ h3 (h2 j u hu),h3,h4,by simpa using h5⟩
  ·simp at hp
   subst hp;refine ⟨b,c,?_,fun j u hu=>key b j u _ hb (hc j u hu),hb,ho,by simpa using hs⟩;simp only [Int.toNat_natCast];rw [List.getElem?_set_self (by rw [h.len];exact ht)]
 ·rw [List.map_append,List.mem_append] at hnu
  have hne:t≠u:=by
   intro e;subst e;exact hnu (.inr (by simp))
  rw [List.getElem?_set_ne hne];exact h.off u hu fun hm=>hnu (.inl hm)
theorem TreeSt.word {p:Int × List Int} (h:TreeSt w g oB n vals st) (hp:p∈st):∃ b c,vals[p.1.toNat]?=some (.slice (some ⟨b,0,none⟩) p.2.length c)∧RV w 0 w.heap.size (some ⟨b,0,none⟩) (ints p.2):=by
 obtain ⟨b,c,h1,h2,h3,h4,h5⟩:=h.on p hp;exact ⟨b,c,h1,Nat.le_refl _,fun _=>⟨b,0,rfl,Nat.zero_le _,h5,fun j u hu=>by rw [Nat.zero_add];exact h2 j u hu⟩⟩
end
section
variable {W:World} {ops:Array Oper} {rest:List Oper} {o:Oper} {a:Act} {Q:Exit→Act→World→Prop}
theorem wpList_pushI2 (hgd:o.guard=none) (s x:Operand)
  (ho:o.op=.call { callee:=.builtin .append,args:=#[s,x],argTypes:=#[44,44] }) (lo:Nat) (A:Option Addr) (n c:Nat) (xs:List Int) (hs:a.eval s=.slice A n c)
  (hown:W.ownsRow lo 3 1 (.slice A n c) n (ints xs)) (y:Int) (hx:a.eval x=.slice (some ⟨W.heap.size,0,none⟩) 1 1) (hn:n≤1048576) (hb:lo≤W.heap.size)
  (h:∀ A' c' w',w'.ownsRow lo 3 1 (.slice A' (n+1) c') (n+1) (ints (xs++[y]))→W.grownBy w' (Value.ownBlock (.slice A n c))→(Value.ownBlock (.slice A' (n+1) c')=Value.ownBlock (.slice A n c) ∨ Value.ownBlock (.slice A' (n+1) c')=some (W.heap.size+1))→wpList Tryz.prog ops Q rest (a.put o.dst (.slice A' (n+1) c')) w') :
  wpList Tryz.prog ops Q (o :: rest) a (W.alloc (.cells #[.int .i64 y] 3)):=by
 refine wpList_push (news:=[.int .i64 y]) hgd s x 44 ho lo 3 (.int .i64 0) 1 8 undSI infoI rfl (by decide) (.slice A n c) n (ints xs) hs hown 1 hx rfl ?_ (by unfold maxLen;omega) (by omega) hb ?_
 ·intro u hu
  simp at hu;subst hu
  rfl
 ·intro v' w' h1 h2 h3
  obtain ⟨A',c',rfl, -, -⟩:=owns_shape h1;refine h A' c' w' ?_ h2 h3;rw [ints_append];exact h1
end
theorem RV.grown {w w':World} {lo hi:Nat} {A:Option Addr} {cs:List Value} {row:Option Nat} (h:RV w lo hi A cs) (hg:w.grownBy w' row) (hd:∀ g,row=some g→g < lo ∨ hi≤g):RV w' lo hi A cs :=
 ⟨Nat.le_trans h.1 hg.size,fun hn=>by
  obtain ⟨g,off,e,h1,h2,hc⟩:=h.2 hn;have hs:=h.1;exact ⟨g,off,e,h1,h2,fun j u hu=>(World.cell?_of_block (hg.block g (by omega) (fun e=>by have:=hd g e.symm;omega))).trans (hc j u hu)⟩⟩
theorem nilS_some (a:Addr) (n c:Nat) (W:World):(binOp .eql 44 (.slice (some a) n c) (.slice none 0 0)).run Tryz.prog W=.ok (.bool false) W:=Lib.run_eql_slice_nil W 44 3 (some a) n c 0 0 undSI
theorem nilS_none (W:World):(binOp .eql 44 (.slice none 0 0) (.slice none 0 0)).run Tryz.prog W=.ok (.bool true) W:=Lib.run_eql_slice_nil W 44 3 none 0 0 0 0 undSI
theorem bfsRow_take {es:List Ed} {L:List Int} {p:Int × List Int} {st:BS} {j:Nat} {x:Int} (h:L[j]?=some x):bfsRow es (L.take (j+1)) p st=bfsStep es p.1 p.2 (bfsRow es (L.take j) p st) x:=by
 unfold bfsRow;rw [take_snocI h,List.foldl_append]
 rfl
theorem bfsSt_next {es:List Ed} {L:List Int} {v:Int} {i:Nat} {p:Int × List Int} (h:(bfsSt es L v i)[i]?=some p):bfsSt es L v (i+1)=bfsRow es L p (bfsSt es L v i):=by
 show (match (bfsSt es L v i)[i]? with | none=>bfsSt es L v i | some p=>bfsRow es L p (bfsSt es L v i))=_
 rw [h]
theorem impl_tree (r n v:Nat) (A:Option Addr) (es:List Ed) (c:Nat) (w:World) (lo hi:Nat) (hr:RG w lo hi A es) (hg:IsGr r n es) (hv:v < n) :
  Calls Tryz.prog 197 #[graV r n A es.length c,.int .i64 v] w fun e w'=>∃ A1 c1,e=.returned (.tuple #[.slice A1 (ordE r es v).length c1,.slice (some ⟨w.heap.size+1,0,none⟩) n n])∧Mid 0 0 w w' ∧
   w'.ownsRow (w.heap.size+2) 3 1 (.slice A1 (ordE r es v).length c1) (ordE r es v).length (ints (ordE r es v)) ∧
   ∃ vals,w'.ownsRow (w.heap.size+1) 44 1 (.slice (some ⟨w.heap.size+1,0,none⟩) n n) n vals∧TreeSt w' (w.heap.size+1) (Value.ownBlock (.slice A1 (ordE r es v).length c1)) n vals (bfs es (lets r) v):=by
 have hn40:n≤40:=by have:=hg.size;omega
 have hr3:r≤3:=by have:=hg.rank;omega
 have hl:=hg.len;have hmx:n≤maxLen:=by unfold maxLen;omega
 have hgl:∀ e∈es,1≤e.l∧e.l≤3:=fun e he=>by have:=hg.all e he;unfold InG at this;omega
 have hm0:Mid 0 0 w (w.alloc (.cells #[.int .i64 r,.int .i64 n,.slice A es.length c] 35)):=Mid.alloc _ _;have B0:=Box.new w #[.int .i64 r,.int .i64 n,.slice A es.length c] 35;have HG:=Lib.hid hg;have HGL:=Lib.hid hgl;have hv3:(v:Int) < (n:Int):=by omega
 have hv0:(0:Int)≤(v:Int):=by omega
 clear hg hgl;go_enter Tryz.func197,Tryz.ntmps197
 go_wp2_with (at_make;refine wpList_mk rfl _ _ 24 rfl 44 (.slice none 0 0) 24 undSSI infoSI rfl .i64 .i64 _ _ n rfl rfl rfl rfl (by omega) hmx ?_;intro w2 hown2 hgr2 hsz2;rw [World.size_alloc] at hown2 hsz2;have hfz:=hown2.frozenAt v;obtain ⟨u0, -,hcs⟩:=owns_cell hown2 hv)
 have hm2:=hm0.trans (Mid.of_grown hgr2 (by intro g h;cases h));have B2:=B0.mid (Mid.of_grown (lo:=0) (hi:=0) hgr2 (by intro g h;cases h)) oZr;have hal:=Mid.alloc w2 (.cells #[] 3);replace B2:=B2.mid hal oZr;replace hm2:=hm2.trans hal;have hown3:=hown2.alloc (.cells #[] 3);have T0:TreeSt (w2.alloc (.cells #[] 3)) (w.heap.size+1) (some (w2.heap.size+1)) n (List.replicate n (.slice none 0 0)) []:=⟨by simp,by simp,fun u hu _=>by simp [hu]⟩
 have T1:=T0.set (t:=v) (b:=w2.heap.size) (c:=0) (wd:=[]) hv (by simp) (by simp) (by simp [ints]) (by omega) (by intro e;injection e with e;omega) (by simp);have O1:=owns_set hown3 v (.slice (some ⟨w2.heap.size,0,none⟩) 0 0) rfl;have hst:=Mid.setAt (w2.alloc (.cells #[] 3)) (w.heap.size+1) v (.slice (some ⟨w2.heap.size,0,none⟩) 0 0);have B3:=B2.mid hst (Or.inl (Nat.lt_succ_self _));have hm3:=hm2.storeNew (p:=⟨w.heap.size+1,v,none⟩) (Nat.le_succ _) (.slice (some ⟨w2.heap.size,0,none⟩) 0 0);have heq:(w2.alloc (.cells #[] 3)).setCell ⟨w.heap.size+1,v,none⟩ (.slice (some ⟨w2.heap.size,0,none⟩) 0 0)=(w2.setCell ⟨w.heap.size+1,v,none⟩ (.slice (some ⟨w2.heap.size,0,none⟩) 0 0)).alloc (.cells #[] 3):=by go_simp
 rw [heq] at O1 B3 hm3;simp only [List.length_nil] at T1;rw [heq] at T1;generalize hw3:(w2.setCell ⟨w.heap.size+1,v,none⟩ (.slice (some ⟨w2.heap.size,0,none⟩) 0 0)).alloc (.cells #[] 3)=w3 at T1 O1 B3 hm3 ⊢;have hs3:w3.heap.size=w2.heap.size+1:=by rw [← hw3];simp
 have hal3:=Mid.alloc w3 (.cells #[.int .i64 v] 3);have O2:(w3.alloc (.cells #[.int .i64 v] 3)).ownsRow (w.heap.size+2) 3 1 (.slice (some ⟨w2.heap.size+1,0,none⟩) 1 1) 1 (ints [(v:Int)]):=by rw [← hs3];exact owns_base (World.ownsRow_lit (size:=1) w3 #[.int .i64 v] 1 (Nat.le_refl _) (by simp [maxLen]) (by simp)) (by omega)
 have T2:=T1.mid (a:=0) (b:=0) hal3;have O3:=O1.alloc (.cells #[.int .i64 v] 3);replace B3:=B3.mid hal3 oZr;replace hm3:=hm3.trans hal3;have HT:=Lib.hid T2;clear hw3 T0 T1 T2 O1 hst hown2 hown3 hm2 B2 B0 hm0 hal hal3 hgr2 hcs hfz;go_loopw [7,8] (fun ord iv wr=>∃ (i n1:Nat) (A1:Option Addr) (c1:Nat) (vals:List Value),i≤n1∧iv=.int .i64 i∧ord=.slice A1 n1 c1∧Hid ((bfsSt es (lets r) v i).length=n1) ∧
   wr.ownsRow (w.heap.size+2) 3 1 (.slice A1 n1 c1) n1 (ints ((bfsSt es (lets r) v i).map Prod.fst))∧wr.ownsRow (w.heap.size+1) 44 1 (.slice (some ⟨w.heap.size+1,0,none⟩) n n) n vals ∧
   Hid (TreeSt wr (w.heap.size+1) (Value.ownBlock (.slice A1 n1 c1)) n vals (bfsSt es (lets r) v i))∧Box wr w.heap.size [.int .i64 r,.int .i64 n,.slice A es.length c]∧Mid 0 0 w wr) (fun _ i _=>(41 - intOf i).toNat)
 case atStart=>exact ⟨0,1,_,1,_,Nat.zero_le _,rfl,rfl,Lib.hid rfl,O2,O3,HT,B3,hm3⟩
 case round =>
  clear O2 O3 HT B3 hm3 hs3;obtain ⟨wo,hwo⟩:∃ wo,wo=wr:=⟨_,rfl⟩
  subst hwo;obtain ⟨i,n1,A1,c1,vals,hin,rfl,rfl,HN,hord,hwor,HT,bx,hm⟩:=hrel;have hok:=bfsSt_ok (L:=lets r) HG.out.all hv0 hv3 i;have hn1:n1≤40:=by have h1:=hok.len (by omega);have h2:=HN.out;omega
  have HOK:=Lib.hid hok;clear hok;by_cases hlt:i < n1
  ·obtain ⟨p,hp⟩:=get_of_lt (bfsSt es (lets r) v i) (show i < (bfsSt es (lets r) v i).length by rw [HN.out];exact hlt)
   have hrng:=HOK.out.rng p (List.mem_of_getElem? hp);obtain ⟨pu,wd⟩:=p;simp only at hrng;obtain ⟨u,rfl⟩:∃ u:Nat,pu=u:=⟨pu.toNat,by omega⟩
   have hun:u < n:=by omega
   have hwl:=HOK.out.wl i _ hp;simp only at hwl;have HP:=Lib.hid hp;have hNX:=Lib.hid (bfsSt_next hp);obtain ⟨g1,rfl,hg1,hg1s⟩:=owns_addr hord (show 0 < n1 by omega);have hcu:wo.cell? ⟨g1,i,none⟩=some (.int .i64 u):=(hord.cellAt i (by omega)).trans (by rw [ints_get,List.getElem?_map,hp];rfl);have hi0:(0:Int)≤(i:Int):=by omega
   have hi1:(i:Int) < (n1:Int):=by omega
   have p0:=bx.cell 0 rfl;have p1:=bx.cell 1 rfl;have p2:=bx.cell 2 rfl;clear hp;go_wp2_with fail;with_reducible refine (impl_letters r _ (by omega)).mono ?_
   rintro en w4 ⟨A4,c4,rfl,hL4,hm4⟩;have hdo:=fun g hg=>(hord.lt g hg).2;have hwo2:w.heap.size+1 < wo.heap.size:=(hwor.lt _ rfl).2;replace bx:=bx.mid hm4 oZr;replace hord:=owns_mid hord hm4 oZl;replace hwor:=owns_mid hwor hm4 oZl;replace hm:=hm.trans hm4;replace HT:=Lib.hid (HT.out.mid (a:=0) (b:=0) hm4);clear p0 p1 p2 hcu;have HLL:=Lib.hid (lets_len r);obtain ⟨LL,hLL⟩:∃ LL,(lets r).length=LL:=⟨_,rfl⟩
   have hLL6:LL≤6:=by have:=HLL.out;omega
   rw [hLL];have HLn:=Lib.hid hLL;clear hLL;go_wp2_with fail;go_loopw [7,36] (fun ord jv wr=>∃ (j n1:Nat) (A1:Option Addr) (c1:Nat) (vals:List Value),j≤LL∧jv=.int .i64 j∧ord=.slice A1 n1 c1∧Hid ((bfsRow es ((lets r).take j) ((u:Int),wd) (bfsSt es (lets r) v i)).length=n1) ∧
     wr.ownsRow (w.heap.size+2) 3 1 (.slice A1 n1 c1) n1 (ints ((bfsRow es ((lets r).take j) ((u:Int),wd) (bfsSt es (lets r) v i)).map Prod.fst))∧wr.ownsRow (w.heap.size+1) 44 1 (.slice (some ⟨w.heap.size+1,0,none⟩) n n) n vals ∧
     Hid (TreeSt wr (w.heap.size+1) (Value.ownBlock (.slice A1 n1 c1)) n vals (bfsRow es ((lets r).take j) ((u:Int),wd) (bfsSt es (lets r) v i)))∧Hid (RV wr wo.heap.size w4.heap.size A4 (ints (lets r)))∧Hid (∀ g,Value.ownBlock (.slice A1 n1 c1)=some g→g < wo.heap.size ∨ w4.heap.size≤g)∧Box wr w.heap.size [.int .i64 r,.int .i64 n,.slice A es.length c]∧Mid 0 0 w wr) (fun _ j _=>LL - (intOf j).toNat)
   case atStart=>exact ⟨0,n1,_,c1,vals,Nat.zero_le _,rfl,rfl,by rw [List.take_zero];exact HN,hord,hwor,by rw [List.take_zero];exact HT,Lib.hid hL4,Lib.hid (fun g hg=>.inl (hdo g hg)),bx,hm⟩
   case round =>
    clear hord hwor HT hL4 bx hm hdo hm4;obtain ⟨j,n1,A1,c1,vals,hj,rfl,rfl,HN,hord,hwor,HT,HL4,HD,bx,hm⟩:=hrel;obtain ⟨stj,hstj⟩:∃ st,bfsRow es ((lets r).take j) ((u:Int),wd) (bfsSt es (lets r) v i)=st:=⟨_,rfl⟩
    have hokj:BfsOk n (lets r) stj:=by rw [← hstj];exact BfsOk.row HG.out.all _ (fun x hx=>List.mem_of_mem_take hx) HOK.out HP.out
    have hpj:stj[i]?=some ((u:Int),wd):=by rw [← hstj];exact prefix_get (bfsRow_pre _ _ _ _) HP.out
    rw [hstj] at HN hord HT;have hn1b:n1≤40:=by have h1:=hokj.len (by omega);have h2:=HN.out;omega
    have HOJ:=Lib.hid hokj;have p0:=bx.cell 0 rfl;have p1:=bx.cell 1 rfl;have p2:=bx.cell 2 rfl;by_cases hlt2:j < LL
    ·obtain ⟨B4,o4,x,rfl,hB4,hx,hcx⟩:=HL4.out.at (k:=j) (by rw [HLn.out];exact hlt2)
     have hxm:=lets_le (List.mem_of_getElem? hx);have hnx:=bfsRow_take (es:=es) (p:=((u:Int),wd)) (st:=bfsSt es (lets r) v i) hx;rw [hstj] at hnx;simp only at hnx;have hj0:(0:Int)≤(j:Int):=by omega
     have hj1:(j:Int) < (LL:Int):=by omega
     obtain ⟨bw,cw,hvw,hrvw⟩:=HT.out.word (List.mem_of_getElem? hpj);have hcs:=nextV_cases HG.out.all (u:Int) x;have HVW:=Lib.hid hvw;have HPJ:=Lib.hid hpj;have HSJ:=Lib.hid hstj;have hu0:(0:Int)≤(u:Int):=by omega
     have hu1:(u:Int) < (n:Int):=by omega
     clear hvw hx hokj hpj hstj;go_wp2_with fail;with_reducible refine (impl_NextVertex r n A es c u x _ lo hi (hr.mid hm oZl) (by omega) HGL.out (by omega) (by omega)).mono ?_
     rintro en w6 ⟨rfl,hm6⟩;replace bx:=bx.mid hm6 oZr;replace hord:=owns_mid hord hm6 oZl;replace hwor:=owns_mid hwor hm6 oZl;replace hm:=hm.trans hm6;replace HT:=Lib.hid (HT.out.mid (a:=0) (b:=0) hm6);replace HL4:=Lib.hid (HL4.out.mid hm6 oZl);replace hrvw:=(hrvw.mid hm6 oZl).wide (Nat.le_refl _) hm6.size (Nat.le_refl _);generalize htx:nextV es (u:Int) x=t at hnx hcs ⊢;clear p0 p1 p2 hcx;by_cases ht0:t < 0
     ·have b1:decide (0≤t)=false:=by simp;omega
      have HNX:=Lib.hid (hnx.trans (by rw [bfsStep,htx,if_pos (.inl ht0)]:bfsStep es (u:Int) wd stj x=stj));clear hnx hcs ht0 htx;go_wp2_with fail;go_roundw
      case rel=>exact ⟨j+1,n1,A1,c1,vals,by omega,by go_num,rfl,by rw [HNX.out];exact HN,by rw [HNX.out];exact hord,hwor,by rw [HNX.out];exact HT,HL4,HD,bx,hm⟩
      case measure=>simp [intOf];omega
     ·obtain ⟨tn,rfl⟩:∃ tn:Nat,t=tn:=⟨t.toNat,by omega⟩
      have htn:tn < n:=by omega
      have ht1:(tn:Int) < (n:Int):=by omega
      have ht2:(0:Int)≤(tn:Int):=by omega
      clear hcs ht0;by_cases hmem:(tn:Int)∈stj.map Prod.fst
      ·obtain ⟨p',hp',hpt⟩:=List.mem_map.1 hmem
       obtain ⟨b',c',hval, -⟩:=HT.out.word hp';have hct:w6.cell? ⟨w.heap.size+1,tn,none⟩=some (.slice (some ⟨b',0,none⟩) p'.2.length c'):=(hwor.cellAt tn (by omega)).trans (by rw [← hval,hpt];rfl);have HNX:=Lib.hid (hnx.trans (by rw [bfsStep,htx,if_pos (.inr hmem)]:bfsStep es (u:Int) wd stj x=stj));have hq:=fun W=>nilS_some ⟨b',0,none⟩ p'.2.length c' W;clear hnx htx hmem hval hp' hpt;go_wp2_with fail;go_roundw
       case rel=>exact ⟨j+1,n1,A1,c1,vals,by omega,by go_num,rfl,by rw [HNX.out];exact HN,by rw [HNX.out];exact hord,hwor,by rw [HNX.out];exact HT,HL4,HD,bx,hm⟩
       case measure=>simp [intOf];omega
      ·have hval:=HT.out.off tn htn hmem
       have hct:w6.cell? ⟨w.heap.size+1,tn,none⟩=some (.slice none 0 0):=(hwor.cellAt tn (by omega)).trans hval;have hcw:w6.cell? ⟨w.heap.size+1,u,none⟩=some (.slice (some ⟨bw,0,none⟩) wd.length cw):=(hwor.cellAt u (by omega)).trans HVW.out;have HNX:=Lib.hid (hnx.trans (by rw [bfsStep,htx,if_neg (fun h=>h.elim (fun h=>by omega) hmem)]:bfsStep es (u:Int) wd stj x=stj++[((tn:Int),wd++[x])]));have HMEM:=Lib.hid hmem;have HVAL:=Lib.hid hval;have hlt6:=fun g hg=>(hord.lt g hg).2;have hws6:w.heap.size+1 < w6.heap.size:=(hwor.lt _ rfl).2;have hq:=fun W=>nilS_none W;clear hnx htx hmem hval;go_wp2_with fail;with_reducible refine (copyIntsN (some ⟨bw,0,none⟩) wd cw _ _ _ hrvw (by omega)).mono ?_
       rintro en w7 ⟨g7,c7,rfl,hown7,hm7⟩;have HW7:=Lib.hid hown7;have HLT6:=Lib.hid hlt6;clear hown7 hct hcw hlt6;go_wp2_with (first | (at_builtin;refine wpList_pushI rfl _ _ rfl w6.heap.size (some ⟨g7,0,none⟩) wd.length c7 wd rfl HW7.out x rfl (by omega) hm7.size ?_;intro A8 c8 w8 hown8 hm8;obtain ⟨g8,rfl,hg8a,hg8b⟩:=owns_addr hown8 (Nat.succ_pos _);have hm78:=hm7.transNew hm8 (Or.inl (Nat.le_refl _));have hwor8:=owns_mid hwor hm78 oZl;have hord8:=owns_mid hord hm78 oZl;have hct8:=(hwor8.cellAt tn (by omega)).trans HVAL.out;have hfz8:=hwor8.frozenAt tn;have hord9:=hord8.kept (grown_of_setCell w8 (w.heap.size+1) tn (.slice (some ⟨g8,0,none⟩) (wd.length+1) c8)) (owns_ne hord8 hwor8 (by decide));have HO9:=Lib.hid hord9;have hsz9:w.heap.size+2≤w8.heap.size:=Nat.le_trans hws6 hm78.size;clear hord9 hwor hord) | (at_builtin;refine wpList_pushI2 rfl _ _ rfl (w.heap.size+2) A1 n1 c1 (stj.map Prod.fst) rfl HO9.out tn (by rw [World.size_setCell];rfl) (by omega) (by simp;omega) ?_;intro A10 c10 w10 hord10 hgr10 hat10))
       have T8:=HT.out.mid (a:=0) (b:=0) hm78;have T9:=T8.set (t:=tn) (b:=g8) (c:=c8) (wd:=wd++[x]) htn HMEM.out (fun p hp=>(HOJ.out.rng p hp).1) (fun j u hu=>(hown8.cellAt j (by have:=(List.getElem?_eq_some_iff.1 hu).1;simp [ints] at this;omega)).trans hu) (by omega) (fun e=>by have:=HLT6.out g8 e;omega) hg8b;rw [show (wd++[x]).length=wd.length+1 by simp] at T9;have T10:=T9.grow hgr10 (hat10.imp id fun h=>⟨_,h,by simp⟩);have hwor9:=owns_set hwor8 tn (.slice (some ⟨g8,0,none⟩) (wd.length+1) c8) rfl;have hwor10:=hwor9.kept hgr10 (owns_ne hwor9 HO9.out (by decide));have hst:=Mid.setAt w8 (w.heap.size+1) tn (.slice (some ⟨g8,0,none⟩) (wd.length+1) c8);have hm10:=Mid.of_grownRow HO9.out hgr10;have bx10:=((bx.mid hm78 oZr).mid hst (Or.inl (Nat.lt_succ_self _))).mid hm10 (Or.inl (by omega));have hL10:=((HL4.out.mid hm78 oZl).mid hst (Or.inl (by omega))).grown hgr10 HD.out;have hmm10:=((hm.trans hm78).storeNew (p:=⟨w.heap.size+1,tn,none⟩) (Nat.le_succ _) (.slice (some ⟨g8,0,none⟩) (wd.length+1) c8)).transNew hm10 (Or.inl (by omega));have hmap:(stj++[((tn:Int),wd++[x])]).map Prod.fst=stj.map Prod.fst++[(tn:Int)]:=by simp
       have HMAP:=Lib.hid hmap;have hw46:w4.heap.size≤w8.heap.size:=Nat.le_trans HL4.out.1 hm78.size;have HD10:Hid (∀ g,Value.ownBlock (.slice A10 (n1+1) c10)=some g→g < wo.heap.size ∨ w4.heap.size≤g):=Lib.hid (by
        intro g hg;rcases hat10 with h | h
        ·exact HD.out g (h.symm.trans hg)
        ·rw [h] at hg
         injection hg with hg
         simp at hg;omega)
       have HT10:=Lib.hid T10;have HL10:=Lib.hid hL10;clear T8 T9 T10 hL10 hmap hat10 hgr10;go_wp2_with fail;go_roundw
       case rel=>exact ⟨j+1,n1+1,A10,c10,_,by omega,by go_num,rfl,Lib.hid (by rw [HNX.out,List.length_append,HN.out];rfl),by rw [HNX.out,HMAP.out];exact hord10,hwor10,by rw [HNX.out];exact HT10,HL10,HD10,bx10,hmm10⟩
       case measure=>simp [intOf];omega
    ·obtain rfl:j=LL:=by omega
     have htk:(lets r).take j=lets r:=List.take_of_length_le (by rw [HLn.out];exact Nat.le_refl _);rw [htk] at hstj;have hnx:=hNX.out;rw [hstj] at hnx;have HNX:=Lib.hid hnx;clear hnx hstj;have hin1:i+1≤n1:=by have h1:=(List.getElem?_eq_some_iff.1 hpj).1;have h2:=HN.out;omega
     go_wp2_with fail;go_roundw
     case rel=>exact ⟨i+1,n1,A1,c1,vals,hin1,by go_num,rfl,by rw [HNX.out];exact HN,by rw [HNX.out];exact hord,hwor,by rw [HNX.out];exact HT,bx,hm⟩
     case measure=>simp [intOf];omega
  ·obtain rfl:i=n1:=by omega
   have hbf:=bfs_eq (L:=lets r) HG.out.all hv0 hv3 (by omega) HN.out;have hord':ordE r es v=(bfsSt es (lets r) v i).map Prod.fst:=by rw [ordE,Int.toNat_natCast,hbf]
   have hlen:(ordE r es v).length=i:=by rw [hord',List.length_map];exact HN.out
   have HORD:=Lib.hid hord';have HLEN:=Lib.hid hlen;have HBF:=Lib.hid hbf;clear hbf hord' hlen;go_wp2_with fail;go_ret2;exact ⟨A1,c1,by rw [HLEN.out];rfl,hm,by rw [HLEN.out,HORD.out];exact hord,vals,hwor,by rw [HLEN.out,HBF.out];exact HT.out⟩
end
section
open Go.RowKit
theorem fill_neg {n k:Nat} (h:k < n):(ints (List.replicate k (-1))++(List.replicate n (Value.int .i64 0)).drop k).set k (.int .i64 (-1))=ints (List.replicate (k+1) (-1))++(List.replicate n (Value.int .i64 0)).drop (k+1):=by
 rw [set_over _ _ _ (by rw [ints_len,List.length_replicate]) (by simpa using h),List.replicate_succ',ints_append]
 rfl
theorem impl_part (r:Int) (n:Nat) (A:Option Addr) (es:List Ed) (c:Nat) (Ao:Option Addr) (ord:List Int) (co:Nat) (w:World) (lo hi lo' hi':Nat) (hr:RG w lo hi A es) (hro:RV w lo' hi' Ao (ints ord)) (hg:IsGr r n es)
  (hnd:ord.Nodup) (hin:∀ x∈ord,0≤x∧x < (n:Int)) :
  Calls Tryz.prog 235 #[graV r n A es.length c,.slice Ao ord.length co] w fun e w'=>∃ A1 c1,e=.returned (graV r ord.length A1 (partE ord es).length c1)∧OG w' w.heap.size w'.heap.size A1 c1 (partE ord es)∧Mid 0 0 w w':=by
 have hn40:n≤40:=by have:=hg.size;omega
 have hl:=hg.len;have hol:ord.length≤n:=nodup_le n ord hnd hin;have hmx:n≤maxLen:=by unfold maxLen;omega
 have HG:=Lib.hid hg;have HND:=Lib.hid hnd;have HIN:=Lib.hid hin;have hm0:Mid 0 0 w ((w.alloc (.cells #[.int .i64 r,.int .i64 n,.slice A es.length c] 35)).alloc (.cells #[.int .i64 0,.int .i64 0,.slice none 0 0] 35)):=(Mid.alloc _ _).trans (Mid.alloc _ _);have B0:=(Box.new w #[.int .i64 r,.int .i64 n,.slice A es.length c] 35).mid (Mid.alloc _ (.cells #[.int .i64 0,.int .i64 0,.slice none 0 0] 35)) oZr;have B2:=Box.new (w.alloc (.cells #[.int .i64 r,.int .i64 n,.slice A es.length c] 35)) #[.int .i64 0,.int .i64 0,.slice none 0 0] 35;simp only [World.size_alloc] at B2;clear hg hnd hin;go_enter Tryz.func235,Tryz.ntmps235
 go_wp2_with (at_make;refine wpList_mk rfl _ _ 44 rfl 3 (.int .i64 0) 8 undSI infoI rfl .i64 .i64 _ _ n rfl rfl rfl rfl (by omega) hmx ?_;intro w2 hown2 hgr2 hsz2)
 simp only [World.size_alloc,Nat.add_assoc,Nat.reduceAdd] at hown2 hsz2;have hm2:=Mid.of_grown (lo:=0) (hi:=0) hgr2 (by intro g h;cases h);replace B0:=B0.mid hm2 oZr;replace B2:=B2.mid hm2 oZr;replace hm0:=hm0.trans hm2;clear hgr2 hm2;go_loopw [17] (fun i wr=>∃ k:Nat,k≤n∧i=.int .i64 k∧wr.ownsRow (w.heap.size+2) 3 1 (.slice (some ⟨w.heap.size+2,0,none⟩) n n) n (ints (List.replicate k (-1))++(List.replicate n (Value.int .i64 0)).drop k) ∧
   Box wr w.heap.size [.int .i64 r,.int .i64 n,.slice A es.length c]∧Box wr (w.heap.size+1) [.int .i64 0,.int .i64 0,.slice none 0 0]∧Mid 0 0 w wr) (fun i _=>n - (intOf i).toNat)
 case atStart=>exact ⟨0,Nat.zero_le _,rfl,by simpa [ints] using hown2,B0,B2,hm0⟩
 case round =>
  clear hown2 B0 B2 hm0 hsz2;obtain ⟨wo,hwo⟩:∃ wo,wo=wr:=⟨_,rfl⟩
  subst hwo;obtain ⟨k,hk,rfl,hown,b0,b2,hm⟩:=hrel;by_cases hlt:k < n
  ·obtain ⟨u, -,hcs⟩:=owns_cell hown hlt
   have hfz:=hown.frozenAt k;have hset:=owns_set hown k (.int .i64 (-1)) (fill_neg hlt);have hst:=Mid.setAt wo (w.heap.size+2) k (.int .i64 (-1));have hms:=hm.storeNew (p:=⟨w.heap.size+2,k,none⟩) (by show w.heap.size≤w.heap.size+2;omega) (.int .i64 (-1));have c0:=b0.mid hst (Or.inl (by omega));have c2:=b2.mid hst (Or.inl (by omega));have hk1:(k:Int) < (n:Int):=by omega
   have hk0:(0:Int)≤(k:Int):=by omega
   clear hown b0 b2 hm hst;go_wp2_with fail;go_roundw
   case rel=>exact ⟨k+1,by omega,by go_num,hset,c0,c2,hms⟩
   case measure=>simp [intOf];omega
  ·obtain rfl:k=n:=by omega
   rw [List.drop_of_length_le (by simp),List.append_nil,← placeL_nil] at hown;go_wp2_with fail;go_loopw [26] (fun i wr=>∃ j:Nat,j≤ord.length∧i=.int .i64 j∧wr.ownsRow (w.heap.size+2) 3 1 (.slice (some ⟨w.heap.size+2,0,none⟩) k k) k (ints (placeL k (ord.take j))) ∧
     Box wr w.heap.size [.int .i64 r,.int .i64 k,.slice A es.length c]∧Box wr (w.heap.size+1) [.int .i64 0,.int .i64 0,.slice none 0 0]∧Mid 0 0 w wr) (fun i _=>ord.length - (intOf i).toNat)
   case atStart=>exact ⟨0,Nat.zero_le _,rfl,by rw [List.take_zero];exact hown,b0,b2,hm⟩
   case round =>
    clear hown b0 b2 hm;obtain ⟨wi,hwi⟩:∃ wi,wi=wr:=⟨_,rfl⟩
    subst hwi;obtain ⟨j,hj,rfl,hown,b0,b2,hm⟩:=hrel;by_cases hlt2:j < ord.length
    ·obtain ⟨B,off,x,rfl,hbh,hx,hcx⟩:=(hro.mid hm oZl).at hlt2
     have hxr:=HIN.out x (List.mem_of_getElem? hx);obtain ⟨m,rfl⟩:∃ m:Nat,x=m:=⟨x.toNat,by omega⟩
     have hmk:m < k:=by omega
     obtain ⟨u, -,hcs⟩:=owns_cell hown hmk;have hfz:=hown.frozenAt m;have hset:=owns_set (ys:=ints (placeL k (ord.take (j+1)))) hown m (.int .i64 j) (by rw [← placeL_set HND.out hx hmk];simp [ints]);have hst:=Mid.setAt wi (w.heap.size+2) m (.int .i64 j);have hms:=hm.storeNew (p:=⟨w.heap.size+2,m,none⟩) (by show w.heap.size≤w.heap.size+2;omega) (.int .i64 j);have c0:=b0.mid hst (Or.inl (by omega));have c2:=b2.mid hst (Or.inl (by omega));have hm1:(m:Int) < (k:Int):=by omega
     have hm0:(0:Int)≤(m:Int):=by omega
     have hj1:(j:Int) < (ord.length:Int):=by omega
     have hj0:(0:Int)≤(j:Int):=by omega
     clear hown b0 b2 hm hst hx;go_wp2_with fail;go_roundw
     case rel=>exact ⟨j+1,by omega,by go_num,hset,c0,c2,hms⟩
     case measure=>simp [intOf];omega
    ·obtain rfl:j=ord.length:=by omega
     rw [List.take_length] at hown;have p0:=b0.cell 0 rfl;have p1:=b0.cell 1 rfl;have p2:=b0.cell 2 rfl;have hws:=b2.1;have hws0:=b0.1;have hal:=Mid.alloc wi (.cells #[.int .i64 r,.int .i64 ord.length,.slice none 0 0] 35);have Y3:=Box.new wi #[.int .i64 r,.int .i64 ord.length,.slice none 0 0] 35;go_wp2_with fail;have hpl:w.heap.size+2 < wi.heap.size:=(hown.lt _ rfl).2;obtain ⟨G,hG⟩:∃ G,wi.heap.size=G:=⟨_,rfl⟩
     have O0:(wi.alloc (.cells #[.int .i64 r,.int .i64 ord.length,.slice none 0 0] 35)).ownsRow (G+1) 110 3 (.slice none 0 0) 0 []:=⟨rfl,.inl ⟨rfl,rfl⟩⟩
     have hownP:=hown.alloc (.cells #[.int .i64 r,.int .i64 ord.length,.slice none 0 0] 35);replace b0:=b0.mid hal oZr;replace b2:=b2.mid hal oZr;replace hm:=hm.trans hal;have hw5s:(wi.alloc (.cells #[.int .i64 r,.int .i64 ord.length,.slice none 0 0] 35)).heap.size=G+1:=by rw [World.size_alloc,hG]
     generalize wi.alloc (.cells #[.int .i64 r,.int .i64 ord.length,.slice none 0 0] 35)=w5 at O0 hownP Y3 b0 b2 hm hw5s ⊢;rw [hG] at Y3 hpl hws hws0 ⊢;clear hown hG hal p0 p1 p2;go_loopw [44] (fun i wr=>∃ (q:Nat) (A2:Option Addr) (n2 c2:Nat),q≤es.length∧i=.int .i64 q∧Hid (((es.take q).filterMap (partOf ord)).length=n2) ∧
       wr.ownsRow (G+1) 110 3 (.slice A2 n2 c2) n2 (ints (edI ((es.take q).filterMap (partOf ord))))∧wr.ownsRow (w.heap.size+2) 3 1 (.slice (some ⟨w.heap.size+2,0,none⟩) k k) k (ints (placeL k ord)) ∧
       Box wr w.heap.size [.int .i64 r,.int .i64 k,.slice A es.length c]∧Box wr (w.heap.size+1) [.int .i64 0,.int .i64 0,.slice none 0 0]∧Box wr G [.int .i64 r,.int .i64 ord.length,.slice A2 n2 c2]∧Mid 0 0 w wr) (fun i _=>es.length - (intOf i).toNat)
     case atStart=>exact ⟨0,none,0,0,Nat.zero_le _,rfl,Lib.hid rfl,by simpa [edI,ints] using O0,hownP,b0,b2,Y3,hm⟩
     case round =>
      clear O0 hownP b0 b2 Y3 hm hw5s;obtain ⟨q,A2,n2,c2,hq,rfl,HN,hown,hownP,b0,b2,Y3,hm⟩:=hrel;have hn2:n2≤120:=by have h1:=List.length_filterMap_le (partOf ord) (es.take q);have h2:=HN.out;simp at h1;omega
      by_cases hlt3:q < es.length
      ·obtain ⟨B,off,e,rfl, -,hbh,he,e0,e1,e2⟩:=(hr.mid hm oZl).ed hlt3
       have hin:=HG.out.all e (List.mem_of_getElem? he);have htk:(es.take (q+1)).filterMap (partOf ord)=(es.take q).filterMap (partOf ord)++(partOf ord e).toList:=by
        rw [take_snoc he,List.filterMap_append];cases hd:partOf ord e <;> simp [hd]
       obtain ⟨i1,i2,i3,i4,i5,i6⟩:=hin;obtain ⟨x,l,y⟩:=e;simp only at i1 i2 i3 i4 i5 i6 e0 e1 e2 htk;obtain ⟨ia,rfl⟩:∃ ia:Nat,x=ia:=⟨x.toNat,by omega⟩
       obtain ⟨ib,rfl⟩:∃ ib:Nat,y=ib:=⟨y.toNat,by omega⟩
       have hia:ia < k:=by omega
       have hib:ib < k:=by omega
       have hq0:(0:Int)≤(q:Int):=by omega
       have hq1:(q:Int) < (es.length:Int):=by omega
       have hal:=Mid.alloc wr (.cells #[.int .i64 ia,.int .i64 l,.int .i64 ib] 110);have ZE:=Box.new wr #[.int .i64 ia,.int .i64 l,.int .i64 ib] 110;have hgs:w.heap.size+2 < wr.heap.size:=(hownP.lt _ rfl).2;have hGr:G < wr.heap.size:=Y3.1;have hbE:Value.ownBlock (.slice A2 n2 c2)≠some wr.heap.size:=fun h=>by have:=(hown.lt _ h).2;omega
       have hbk:Value.ownBlock (.slice A2 n2 c2)≠some G:=fun h=>by have:=(hown.lt _ h).1;omega
       have hownV:=hown.alloc (.cells #[.int .i64 ia,.int .i64 l,.int .i64 ib] 110);replace b0:=b0.mid hal oZr;replace b2:=b2.mid hal oZr;replace Y3:=Y3.mid hal oZr;replace hownP:=owns_mid hownP hal oZl;replace hm:=hm.trans hal;obtain ⟨pa,hpa⟩:∃ pa,idxI ord ia=pa:=⟨_,rfl⟩
       obtain ⟨pb,hpb⟩:∃ pb,idxI ord ib=pb:=⟨_,rfl⟩
       have hga:(ints (placeL k ord))[ia]?=some (.int .i64 pa):=by rw [ints_get,placeL_get ord hia,hpa];rfl
       have hgb:(ints (placeL k ord))[ib]?=some (.int .i64 pb):=by rw [ints_get,placeL_get ord hib,hpb];rfl
       have hca:=(hownP.cellAt ia (by omega)).trans hga;have hcb:=(hownP.cellAt ib (by omega)).trans hgb;have HTK:=Lib.hid htk;have HPA:=Lib.hid hpa;have HPB:=Lib.hid hpb;have HGA:=Lib.hid hga;have HGB:=Lib.hid hgb;clear he htk hpa hpb hown hga hgb;by_cases hok:0≤pa∧0≤pb
       ·have hpo:partOf ord ⟨(ia:Int),l,(ib:Int)⟩=some ⟨pa,l,pb⟩:=by
         unfold partOf;simp only [HPA.out,HPB.out];rw [if_pos hok]
        have HT:Hid ((es.take (q+1)).filterMap (partOf ord)=(es.take q).filterMap (partOf ord)++[⟨pa,l,pb⟩]):=Lib.hid (by rw [HTK.out,hpo];rfl);have d1:decide (0≤pa)=true:=by simpa using hok.1
        have d2:decide (0≤pb)=true:=by simpa using hok.2
        clear hpo hok;go_wp2_with fail;clear e0 e1 e2 hca hcb d1 d2;generalize hwx:wr.alloc (.cells #[.int .i64 ia,.int .i64 l,.int .i64 ib] 110)=wx at ZE b0 b2 Y3 hownV hownP hm ⊢;generalize hgE:wr.heap.size=E at ZE hgs hGr hbE ⊢;clear hgE hwx hal;have hmd:=Mid.drew1 wx;replace b0:=b0.mid hmd oZr;replace b2:=b2.mid hmd oZr;replace Y3:=Y3.mid hmd oZr;replace ZE:=ZE.mid hmd oZr;replace hownV:=owns_mid hownV hmd oZl;replace hownP:=owns_mid hownP hmd oZl;replace hm:=hm.trans hmd;have hca:=(hownP.cellAt ia (by omega)).trans HGA.out;have hcb:=(hownP.cellAt ib (by omega)).trans HGB.out;have f0:=ZE.cell 0 rfl;have f1:=ZE.cell 1 rfl;have f2:=ZE.cell 2 rfl;have g2:=Y3.cell 2 rfl;clear hmd;refine wp_region_T (S:=(fun w'=>w'.cell? ⟨E,0,none⟩=some (.int .i64 ia)∧w'.cell? ⟨E,1,none⟩=some (.int .i64 l)∧w'.cell? ⟨E,2,none⟩=some (.int .i64 ib)∧w'.cell? ⟨G,2,none⟩=some (.slice A2 n2 c2)∧w'.cell? ⟨w.heap.size+2,ia,none⟩=some (.int .i64 pa)∧w'.cell? ⟨w.heap.size+2,ib,none⟩=some (.int .i64 pb))) 18 (by kernel_rfl) ⟨f0,f1,f2,g2,hca,hcb⟩ ?_;generalize World.drew wx=wz at b0 b2 Y3 ZE hownV hownP hm f0 f1 f2 g2 hca hcb ⊢;have hS:wz.cell? ⟨E,0,none⟩=some (.int .i64 ia)∧wz.cell? ⟨E,1,none⟩=some (.int .i64 l)∧wz.cell? ⟨E,2,none⟩=some (.int .i64 ib)∧wz.cell? ⟨G,2,none⟩=some (.slice A2 n2 c2)∧wz.cell? ⟨w.heap.size+2,ia,none⟩=some (.int .i64 pa)∧wz.cell? ⟨w.heap.size+2,ib,none⟩=some (.int .i64 pb):=⟨f0,f1,f2,g2,hca,hcb⟩
        refine tkT 0 rfl hS ?_;try simp only [Act.put,zs1,zs2,zs3,zs4,zs5,zs6]
        refine tkT 1 rfl hS ?_;try simp only [Act.put,zs1,zs2,zs3,zs4,zs5,zs6]
        refine tkT 2 rfl hS ?_;try simp only [Act.put,zs1,zs2,zs3,zs4,zs5,zs6]
        refine tkT 3 rfl hS ?_;try simp only [Act.put,zs1,zs2,zs3,zs4,zs5,zs6]
        refine tkT 4 rfl hS ?_;try simp only [Act.put,zs1,zs2,zs3,zs4,zs5,zs6]
        refine tkT 5 rfl hS ?_;try simp only [Act.put,zs1,zs2,zs3,zs4,zs5,zs6]
        refine tkT 6 rfl hS ?_;try simp only [Act.put,zs1,zs2,zs3,zs4,zs5,zs6]
        refine tkT 7 rfl hS ?_;try simp only [Act.put,zs1,zs2,zs3,zs4,zs5,zs6]
        refine tkT 8 rfl hS ?_;try simp only [Act.put,zs1,zs2,zs3,zs4,zs5,zs6]
        refine tkT 9 rfl hS ?_;try simp only [Act.put,zs1,zs2,zs3,zs4,zs5,zs6]
        refine tkT 10 rfl hS ?_;try simp only [Act.put,zs1,zs2,zs3,zs4,zs5,zs6]
        refine tkT 11 rfl hS ?_;try simp only [Act.put,zs1,zs2,zs3,zs4,zs5,zs6]
        refine tkT 12 rfl hS ?_;try simp only [Act.put,zs1,zs2,zs3,zs4,zs5,zs6]
        refine tkT 13 rfl hS ?_;try simp only [Act.put,zs1,zs2,zs3,zs4,zs5,zs6]
        refine tkT 14 rfl hS ?_;try simp only [Act.put,zs1,zs2,zs3,zs4,zs5,zs6]
        have haz:=Mid.alloc wz (.cells #[.int .i64 pa,.int .i64 l,.int .i64 pb] 110);have hGz:G < wz.heap.size:=Y3.1;have hownT:=hownV.alloc (.cells #[.int .i64 pa,.int .i64 l,.int .i64 pb] 110);replace b0:=b0.mid haz oZr;replace b2:=b2.mid haz oZr;replace Y3:=Y3.mid haz oZr;replace ZE:=ZE.mid haz oZr;replace hownP:=owns_mid hownP haz oZl;replace hm:=hm.trans haz;have hS2:=And.intro (ZE.cell 0 rfl) (And.intro (ZE.cell 1 rfl) (And.intro (ZE.cell 2 rfl) (And.intro (Y3.cell 2 rfl) (And.intro ((hownP.cellAt ia (by omega)).trans HGA.out) ((hownP.cellAt ib (by omega)).trans HGB.out)))));have hrs:Rs (wz.alloc (.cells #[.int .i64 pa,.int .i64 l,.int .i64 pb] 110)) (wz.heap.size+1) (some ⟨wz.heap.size,0,none⟩) [.int .i64 pa,.int .i64 l,.int .i64 pb]:=fun _=>⟨wz.heap.size,0,rfl,Nat.lt_succ_self _,fun j u hu=>(World.cell?_alloc_at _ _ _ _ rfl).trans (by simpa using hu)⟩
        have hone:∀ u∈[Value.int .i64 pa,.int .i64 l,.int .i64 pb],u.oneCell'=true:=by
         intro u hu;simp at hu;rcases hu with rfl | rfl | rfl <;> rfl
        have hmxl:n2+1≤maxLen:=by unfold maxLen;omega
        have hbyt:(n2+1) * 24≤140737488355328:=by omega
        have hbas:G+1≤(wz.alloc (.cells #[.int .i64 pa,.int .i64 l,.int .i64 pb] 110)).heap.size:=by have h1:=Y3.1;omega
        have HO:=Lib.hid hone;have HB0:=Lib.hid (fun (g:Nat) (h:Value.ownBlock (.slice A2 n2 c2)=some g)=>(hownT.lt g h).1);have HBk:=Lib.hid hbk;have HBe:=Lib.hid hbE;clear hone hbk hbE hownV f0 f1 f2 g2 hca hcb hS haz;refine rdT 15 rfl (fun K hK=>?_);go_simp;refine hK.out _ _ (Or.inr hS2) (fun _=>?_);clear hK K;try simp only [Act.put,zs1,zs2,zs3,zs4,zs5,zs6]
        generalize hwt:wz.alloc (.cells #[.int .i64 pa,.int .i64 l,.int .i64 pb] 110)=wt at b0 b2 Y3 ZE hownT hownP hm hS2 hrs hbas ⊢;have hszt:wt.heap.size=wz.heap.size+1:=by rw [← hwt];simp
        have HZT:=Lib.hid hszt;have HP:=Lib.hid hownP;clear hwt hszt hownP;refine rdT 16 rfl (fun K hK=>?_)
        (refine step_cat (by rfl) (.tmp 63) (.tmp 77) 33 (by rfl) (G+1) 110 (.agg #[.int .i64 0,.int .i64 0,.int .i64 0]) 3 24 undSE infoE rfl (by decide) (.slice A2 n2 c2) n2 _ (by rfl) hownT (some ⟨wz.heap.size,0,none⟩) 1 1 _ [.int .i64 pa,.int .i64 l,.int .i64 pb] (by rfl) hrs rfl HO.out hmxl hbyt hbas ?_;intro v9 w9 ho9 hgr9 hat9;obtain ⟨A9,c9,rfl, -, -⟩:=owns_shape ho9;have hP9:=HP.out.kept hgr9 (owns_ne HP.out hownT (by decide)))
        refine hK.out _ _ (Or.inr ⟨(ZE.grown hgr9 HBe.out).cell 0 rfl,(ZE.grown hgr9 HBe.out).cell 1 rfl,(ZE.grown hgr9 HBe.out).cell 2 rfl,(Y3.grown hgr9 HBk.out).cell 2 rfl,(hP9.cellAt ia (by omega)).trans HGA.out,(hP9.cellAt ib (by omega)).trans HGB.out⟩) (fun _=>?_);clear hK K;try simp only [Act.put,zs1,zs2,zs3,zs4,zs5,zs6]
        replace Y3:=Y3.grown hgr9 HBk.out;replace ZE:=ZE.grown hgr9 HBe.out;replace b0:=b0.grown hgr9 (fun h=>by have:=HB0.out _ h;omega);replace b2:=b2.grown hgr9 (fun h=>by have:=HB0.out _ h;omega);replace hm:Mid 0 0 w w9:=hm.transNew (Mid.of_grownRow hownT hgr9) (Or.inl (by omega));have hS3:=And.intro (ZE.cell 0 rfl) (And.intro (ZE.cell 1 rfl) (And.intro (ZE.cell 2 rfl) (And.intro (Y3.cell 2 rfl) (And.intro ((hP9.cellAt ia (by omega)).trans HGA.out) ((hP9.cellAt ib (by omega)).trans HGB.out)))));have hne:Value.ownBlock (.slice A9 (n2+1) c9)≠some G:=by
         rcases hat9 with h | h
         ·rw [h];exact HBk.out
         ·rw [h]
          intro he;injection he with he
          have:=HZT.out;omega
        have HNE:=Lib.hid hne;have hr2:=Y3.cell 2 rfl;have hrf:=Y3.2.2;clear hne hat9 hS2 hrs hownT;refine tkT 17 rfl hS3 ?_;try simp only [Act.put,zs1,zs2,zs3,zs4,zs5,zs6]
        refine rdT 18 rfl (fun K hK=>?_)
        (go_simp)
        refine hK.out _ _ (Or.inl rfl) (fun _=>?_);clear hK K;try simp only [Act.put,zs1,zs2,zs3,zs4,zs5,zs6]
        refine wpAnyT_done (by kernel_rfl) ?_ _;go_wp2_with fail;go_roundw
        case rel =>
         have hst:=Mid.setAt w9 G 2 (.slice A9 (n2+1) c9);refine ⟨q+1,A9,n2+1,c9,by omega,by go_num,Lib.hid (by rw [HT.out,List.length_append,HN.out];rfl),?_,hP9.kept (grown_of_setCell w9 G 2 (.slice A9 (n2+1) c9)) (.inr ?_),b0.mid hst (Or.inl (by omega)),b2.mid hst (Or.inl (by omega)),Y3.set 2 _ (by simp) rfl,hm.storeNew (by show w.heap.size≤G;omega) _⟩
         ·have h1:=owns_other ho9 (k:=G) (grown_setCell (World.grownBy.refl _ (some G)) 2 (.slice A9 (n2+1) c9)) HNE.out
          rw [HT.out,edI_append,ints_append,edI_one];exact h1
         ·intro h
          injection h with h
          simp at h;omega
        case measure=>simp [intOf];omega
       ·have hpo:partOf ord ⟨(ia:Int),l,(ib:Int)⟩=none:=by
         unfold partOf;simp only [HPA.out,HPB.out];rw [if_neg hok]
        have HT:Hid ((es.take (q+1)).filterMap (partOf ord)=(es.take q).filterMap (partOf ord)):=Lib.hid (by rw [HTK.out,hpo];simp);by_cases h1:0≤pa
        ·have d1:decide (0≤pa)=true:=by simpa using h1
         have d2:decide (0≤pb)=false:=by simp;omega
         clear hpo hok h1;go_wp2_with fail;go_roundw
         case rel=>exact ⟨q+1,A2,n2,c2,by omega,by go_num,by rw [HT.out];exact HN,by rw [HT.out];exact hownV,hownP,b0,b2,Y3,hm⟩
         case measure=>simp [intOf];omega
        ·have d1:decide (0≤pa)=false:=by simp;omega
         clear hpo hok h1;go_wp2_with fail;go_roundw
         case rel=>exact ⟨q+1,A2,n2,c2,by omega,by go_num,by rw [HT.out];exact HN,by rw [HT.out];exact hownV,hownP,b0,b2,Y3,hm⟩
         case measure=>simp [intOf];omega
      ·obtain rfl:q=es.length:=by omega
       rw [List.take_length] at hown HN;have hGr:G < wr.heap.size:=Y3.1;have hrg:RG wr (G+1) wr.heap.size A2 (es.filterMap (partOf ord)):=OV.rv (e:=110) (size:=3) (c:=c2) (n:=n2) ⟨Nat.le_refl _,hown,fun g hg=>(hown.lt g hg).2⟩;have z2:=Y3.cell 2 rfl;go_wp2_with fail;with_reducible refine (impl_sortedN A2 (es.filterMap (partOf ord)) n2 c2 _ _ _ HN.out hrg (by omega)).mono ?_
       rintro en w6 ⟨A4,c4,rfl,ho6,hm6⟩;replace b2:=b2.mid hm6 oZr;replace Y3:=Y3.mid hm6 oZr;replace hm:=hm.trans hm6;have hsz6:=hm6.size;clear z2;have a0:=b2.cell 0 rfl;have a1:=b2.cell 1 rfl;have a2:=b2.cell 2 rfl;have x0:=Y3.cell 0 rfl;have x1:=Y3.cell 1 rfl;have x2:=Y3.cell 2 rfl;have af:=b2.2.2;have bf:=Y3.2.2;go_wp2_with fail;have hcl:(w.heap.size+1 == G)=false:=by simp;omega
       refine bodyPost_ret (v:=.agg #[.int .i64 r,.int .i64 ord.length,.slice A4 (canon (es.filterMap (partOf ord))).length c4]) (by simp [results,Tryz.results235,go_sem,a0,a1,a2,x0,x1,x2,af,bf]) rfl ⟨A4,c4,rfl,?_,?_⟩
       ·refine OG.wide (OG.mid ho6 (a:=w.heap.size) (b:=G+1) ?_ (Or.inl hGr)) (by omega) (by simp) (Nat.le_refl _)
        repeat (first | exact Mid.refl _ _ _ | refine Mid.stored ?_ _ (by simp;try omega) (by simp;try omega))
       ·repeat (first | exact hm | refine Mid.storeNew ?_ (by simp;try omega) _)
end
theorem srt_ext {xs ys:List Int} (hx:xs.Pairwise (· < ·)) (hy:ys.Pairwise (· < ·)) (h:∀ u,u∈xs↔u∈ys):xs=ys:=by
 have n1:xs.Nodup:=hx.imp fun h=>by omega
 have n2:ys.Nodup:=hy.imp fun h=>by omega
 exact List.Perm.eq_of_pairwise (le:=fun x y:Int=>x < y) (fun a b _ _ h1 h2=>by omega) hx hy ((List.perm_ext_iff_of_nodup n1 n2).2 h)
theorem putI_mem {x:Int} {l:List Int} (h:l.Pairwise (· < ·)) (hx:x∈l):putI x l=l :=
 srt_ext (putI_sorted h) h fun u=>by
  rw [mem_putI];constructor
  ·rintro (rfl | h)
   ·exact hx
   ·exact h
  ·exact .inr
theorem putI_new {x:Int} {l:List Int} (h:l.Pairwise (· < ·)) (hx:x ∉ l):(putI x l).length=l.length+1:=by
 have n1:(putI x l).Nodup:=(putI_sorted h).imp fun h=>by omega
 have n2:(x :: l).Nodup:=List.nodup_cons.2 ⟨hx,h.imp fun h=>by omega⟩;have:=((List.perm_ext_iff_of_nodup n1 n2).2 fun u=>by rw [mem_putI,List.mem_cons]).length_eq
 simpa using this
structure RAt (s:Int) (es:List Ed) (v:Int) (zs:List Int):Prop where
 here:v∈zs
 rng:∀ u∈zs,0≤u∧u < s
 srt:zs.Pairwise (· < ·)
 conn:∀ u∈zs,Conn es v u
 cnt:zs.length≤1+(es.filter fun e=>decide (e.a∈zs∧e.b∈zs)).length
theorem RAt.start {s:Int} (es:List Ed) {v:Int} (h0:0≤v) (h1:v < s):RAt s es v [v]:=by
 refine ⟨by simp,?_,by simp,?_,by simp⟩
 ·intro u hu;simp at hu;subst hu;exact ⟨h0,h1⟩
 ·intro u hu;simp at hu;subst hu;exact .here
theorem filter_len_mono {p q:Ed→Bool} (h:∀ e,p e=true→q e=true):∀ l:List Ed,(l.filter p).length≤(l.filter q).length
 | []=>Nat.le_refl _
 | e :: t=>by
  have:=filter_len_mono h t;cases hp:p e with
  | true=>rw [List.filter_cons_of_pos hp,List.filter_cons_of_pos (h e hp)];simpa using this
  | false =>
   rw [List.filter_cons_of_neg (by simp [hp])];cases hq:q e with
   | true=>rw [List.filter_cons_of_pos hq];simp;omega
   | false=>rw [List.filter_cons_of_neg (by simp [hq])];exact this
theorem filter_len_lt {p q:Ed→Bool} (h:∀ e,p e=true→q e=true) {f:Ed} (hp:p f=false) (hq:q f=true):∀ {l:List Ed},f∈l→(l.filter p).length < (l.filter q).length
 | e :: t,hm=>by
  rcases List.mem_cons.1 hm with rfl | hm
  ·rw [List.filter_cons_of_neg (by simp [hp]),List.filter_cons_of_pos hq]
   have:=filter_len_mono h t;simp;omega
  ·have:=filter_len_lt h hp hq hm
   cases hp':p e with
   | true=>rw [List.filter_cons_of_pos hp',List.filter_cons_of_pos (h e hp')];simpa using this
   | false =>
    rw [List.filter_cons_of_neg (by simp [hp'])];cases hq':q e with
    | true=>rw [List.filter_cons_of_pos hq'];simp;omega
    | false=>rw [List.filter_cons_of_neg (by simp [hq'])];exact this
theorem RAt.push {s:Int} {es:List Ed} {v u:Int} {zs:List Int} (h:RAt s es v zs) {e:Ed} (he:e∈es) (hr:0≤u∧u < s) (hc:Conn es v u) (hu:u ∉ zs) (hue:u=e.a ∨ u=e.b) (h2:e.a=u ∨ e.a∈zs) (h3:e.b=u ∨ e.b∈zs):RAt s es v (putI u zs):=by
 refine ⟨mem_putI.2 (.inr h.here),?_,putI_sorted h.srt,?_,?_⟩
 ·intro x hx
  rcases mem_putI.1 hx with rfl | hx
  ·exact hr
  ·exact h.rng x hx
 ·intro x hx
  rcases mem_putI.1 hx with rfl | hx
  ·exact hc
  ·exact h.conn x hx
 ·have h4:=h.cnt
  have h5:=putI_new h.srt hu;have h6:=filter_len_lt (p:=fun e=>decide (e.a∈zs∧e.b∈zs)) (q:=fun e=>decide (e.a∈putI u zs∧e.b∈putI u zs)) (f:=e) (l:=es) (by
   intro f hf;simp only [decide_eq_true_eq,mem_putI] at hf ⊢;exact ⟨.inr hf.1,.inr hf.2⟩) (by
   simp only [decide_eq_false_iff_not];rintro ⟨h6,h7⟩;rcases hue with rfl | rfl
   ·exact hu h6
   ·exact hu h7) (by
   simp only [decide_eq_true_eq,mem_putI];exact ⟨h2,h3⟩) he
  omega
def reachE (e:Ed) (zs:List Int):List Int:=if e.b∈(if e.a∈zs then putI e.b zs else zs) then putI e.a (if e.a∈zs then putI e.b zs else zs) else (if e.a∈zs then putI e.b zs else zs)
theorem RAt.edge {r s:Int} {es:List Ed} {v:Int} {zs:List Int} (h:RAt s es v zs) {e:Ed} (he:e∈es) (hi:InG r s e) :
  RAt s es v (reachE e zs)∧((reachE e zs=zs∧(e.a∈zs↔e.b∈zs)) ∨ (zs.length < (reachE e zs).length∧¬ (e.a∈zs↔e.b∈zs))):=by
 unfold InG at hi;unfold reachE;by_cases ha:e.a∈zs
 ·rw [if_pos ha,if_pos (mem_putI.2 (.inl rfl))]
  rw [putI_mem (putI_sorted h.srt) (mem_putI.2 (.inr ha))];by_cases hb:e.b∈zs
  ·rw [putI_mem h.srt hb]
   exact ⟨h,.inl ⟨rfl,⟨fun _=>hb,fun _=>ha⟩⟩⟩
  ·refine ⟨h.push he (by omega) (.out he (h.conn _ ha)) hb (.inr rfl) (.inr ha) (.inl rfl),.inr ⟨?_,fun hh=>hb (hh.1 ha)⟩⟩
   rw [putI_new h.srt hb];omega
 ·rw [if_neg ha]
  by_cases hb:e.b∈zs
  ·rw [if_pos hb]
   refine ⟨h.push he (by omega) (.inn he (h.conn _ hb)) ha (.inl rfl) (.inl rfl) (.inr hb),.inr ⟨?_,fun hh=>ha (hh.2 hb)⟩⟩;rw [putI_new h.srt ha];omega
  ·rw [if_neg hb]
   exact ⟨h,.inl ⟨rfl,⟨fun h=>absurd h ha,fun h=>absurd h hb⟩⟩⟩
structure RIn (s:Int) (es:List Ed) (v:Int) (k i:Nat) (zs:List Int):Prop where
 at':RAt s es v zs
 or':Shut' es es.length zs ∨ (k+1 < zs.length) ∨ (k+1≤zs.length∧Shut' es i zs)
structure ROut (s:Int) (es:List Ed) (v:Int) (k:Nat) (zs:List Int):Prop where
 at':RAt s es v zs
 or':Shut' es es.length zs ∨ k+1≤zs.length
theorem ROut.start {s:Int} (es:List Ed) {v:Int} (h0:0≤v) (h1:v < s):ROut s es v 0 [v]:=⟨RAt.start es h0 h1,.inr (by simp)⟩
theorem ROut.into {s:Int} {es:List Ed} {v:Int} {k:Nat} {zs:List Int} (h:ROut s es v k zs):RIn s es v k 0 zs:=⟨h.at',h.or'.imp id fun h=>.inr ⟨h,Shut'.zero es zs⟩⟩
theorem RIn.out {s:Int} {es:List Ed} {v:Int} {k:Nat} {zs:List Int} (h:RIn s es v k es.length zs):ROut s es v (k+1) zs:=⟨h.at',by
 rcases h.or' with h1 | h1 | ⟨h1,h2⟩
 ·exact .inl h1
 ·exact .inr (by omega)
 ·exact .inl h2⟩
theorem RIn.step {r s:Int} {es:List Ed} {v:Int} {k i:Nat} {zs:List Int} (h:RIn s es v k i zs) {e:Ed} (he:es[i]?=some e) (hi:InG r s e):RIn s es v k (i+1) (reachE e zs):=by
 obtain ⟨h1,h2⟩:=h.at'.edge (List.mem_of_getElem? he) hi;have hil:=(List.getElem?_eq_some_iff.1 he).1;refine ⟨h1,?_⟩;rcases h2 with ⟨h2,h3⟩ | ⟨h2,h3⟩
 ·rw [h2]
  rcases h.or' with h4 | h4 | ⟨h4,h5⟩
  ·exact .inl h4
  ·exact .inr (.inl h4)
  ·exact .inr (.inr ⟨h4,h5.succ he h3⟩)
 ·right
  left
  rcases h.or' with h4 | h4 | ⟨h4,h5⟩
  ·exact absurd (h4 i e hil he) h3
  ·omega
  ·omega
theorem ROut.done {s:Int} {es:List Ed} {v:Int} {zs:List Int} (h:ROut s es v (es.length+1) zs) (u:Int):u∈zs↔Conn es v u:=by
 have hc:Shut' es es.length zs:=by
  rcases h.or' with h1 | h1
  ·exact h1
  ·have h2:=h.at'.cnt
   have h3:=List.length_filter_le (fun e=>decide (e.a∈zs∧e.b∈zs)) es;omega
 refine conn_iff (P:=fun u=>u∈zs) h.at'.here (fun e he=>?_) h.at'.conn u;obtain ⟨j,hj,rfl⟩:=List.mem_iff_getElem.1 he;exact hc j _ hj (List.getElem?_eq_getElem hj)
theorem RAt.le {s:Int} {es:List Ed} {v:Int} {zs:List Int} (h:RAt s es v zs):zs.length≤s.toNat:=by
 refine nodup_le s.toNat zs (h.srt.imp fun h=>by omega) fun u hu=>?_;have:=h.rng u hu;omega
section
open Go.RowKit
theorem spec_l4Has (A:Option Addr) (l:List Int) (c:Nat) (x:Int) (w:World) (lo hi:Nat) (hr:RV w lo hi A (ints l)) (hl:l.length≤1000000) (b:Bool) (hb:b=true↔x∈l) :
  Calls Tryz.prog 243 #[.slice A l.length c,.int .i64 x] w fun en w'=>en=.returned (.bool b)∧w=w':=by
 have HB:=Lib.hid hb;clear hb;go_enter Tryz.func243,Tryz.ntmps243
 go_wp2_with fail;go_loop [5] (fun i=>∃ k:Nat,k≤l.length∧i=.int .i64 k∧x ∉ l.take k) (fun i=>l.length - (intOf i).toNat)
 case atStart=>exact ⟨0,Nat.zero_le _,rfl,by simp⟩
 case round =>
  obtain ⟨k,hk,rfl,hn⟩:=hrel;have HN:=Lib.hid hn;clear hn;by_cases hlt:k < l.length
  ·obtain ⟨B,off,f,rfl,hbh,he,c0⟩:=hr.at hlt
   have hkn:(k:Int) < (l.length:Int):=by omega
   have HE:=Lib.hid he;clear he;by_cases hx:f=x
   ·have b1:(f == x)=true:=by simpa using hx
    have hbt:b=true:=HB.out.2 (by rw [← hx];exact List.mem_of_getElem? HE.out);subst hbt;clear hx;go_wp2_with fail;go_ret;exact ⟨rfl,rfl⟩
   ·have b1:(f == x)=false:=by simpa only [beq_eq_false_iff_ne] using hx
    have HX:=Lib.hid hx;clear hx;go_wp2_with fail;go_round
    case rel =>
     refine ⟨k+1,by omega,by go_num,?_⟩;rw [take_snocI HE.out,List.mem_append,List.mem_singleton];rintro (h | h)
     ·exact HN.out h
     ·exact HX.out h.symm
    case measure=>simp [intOf];omega
  ·obtain rfl:k=l.length:=by omega
   have hbt:b=false:=bool_no HB.out (by have:=HN.out;rwa [List.take_length] at this);subst hbt;go_wp2_with fail;go_ret;exact ⟨rfl,rfl⟩
noncomputable def leafI (s:Int) (es:List Ed):Int:=match leaf s es with | some v=>(v:Int) | none=>-1
theorem leafI_some {s:Int} {es:List Ed} {v:Nat} (h:leaf s es=some v):leafI s es=v:=by rw [leafI,h]
theorem leafI_none {s:Int} {es:List Ed} (h:leaf s es=none):leafI s es = -1:=by rw [leafI,h]
theorem reachE_t {e:Ed} {zs:List Int} (h:e.a∈zs):reachE e zs=putI e.a (putI e.b zs):=by
 unfold reachE;rw [if_pos h,if_pos (mem_putI.2 (.inl rfl))]
theorem reachE_ft {e:Ed} {zs:List Int} (h:e.a ∉ zs) (h2:e.b∈zs):reachE e zs=putI e.a zs:=by
 unfold reachE;rw [if_neg h,if_pos h2]
theorem reachE_ff {e:Ed} {zs:List Int} (h:e.a ∉ zs) (h2:e.b ∉ zs):reachE e zs=zs:=by
 unfold reachE;rw [if_neg h,if_neg h2]
theorem spec_ReachedFrom (r:Int) (n m:Nat) (A:Option Addr) (es:List Ed) (c:Nat) (w:World) (lo hi:Nat) (hr:RG w lo hi A es) (hg:IsGr r n es) (hv:m < n) :
  Calls Tryz.prog 241 #[graV r n A es.length c,.int .i64 m] w fun e w'=>∃ A1 c1 zs,e=.returned (.slice A1 zs.length c1)∧RV w' 0 w'.heap.size A1 (ints zs)∧zs.length≤40∧(∀ u,u∈zs↔Conn es m u)∧Mid 0 0 w w':=by
 have hn40:n≤40:=by have:=hg.size;omega
 have hl:=hg.len;have hm0:Mid 0 0 w (w.alloc (.cells #[.int .i64 r,.int .i64 n,.slice A es.length c] 35)):=Mid.alloc _ _;have B0:=Box.new w #[.int .i64 r,.int .i64 n,.slice A es.length c] 35;have HG:=Lib.hid hg;have hv3:(m:Int) < (n:Int):=by omega
 have hv0:(0:Int)≤(m:Int):=by omega
 have HJ0:=Lib.hid (ROut.start (s:=n) es hv0 hv3);clear hg;go_enter Tryz.func241,Tryz.ntmps241
 go_wp2_with fail;with_reducible refine (spec_IsGraph r n A es c _ _ _ (hr.mid hm0 oZl).rv (by omega) true (iff_of_true rfl HG.out)).mono ?_
 rintro en w1 ⟨rfl,hm1⟩;replace B0:=B0.mid hm1 oZr;replace hm0:=hm0.trans hm1;have p0:=B0.cell 0 rfl;have p1:=B0.cell 1 rfl;have p2:=B0.cell 2 rfl;have hib:inB (m:Int) 0 ((n:Int) - 1)=true:=by unfold inB;simp;omega
 go_wp2_with fail;with_reducible refine (l1In_at hib _).mono ?_
 rintro en w2 ⟨rfl,rfl⟩;go_wp2_with fail;have hal:=Mid.alloc w1 (.cells #[.int .i64 m] 3);have hrv0:RV (w1.alloc (.cells #[.int .i64 m] 3)) 0 (w1.alloc (.cells #[.int .i64 m] 3)).heap.size (some ⟨w1.heap.size,0,none⟩) (ints [(m:Int)]):=⟨Nat.le_refl _,fun _=>⟨_,0,rfl,Nat.zero_le _,by simp,fun j u hu=>(World.cell?_alloc_at _ _ _ _ rfl).trans (by simpa [ints] using hu)⟩⟩
 replace B0:=B0.mid hal oZr;replace hm0:=hm0.trans hal;clear p0 p1 p2;go_loopw [5,6] (fun out i wr=>∃ (k:Nat) (A1:Option Addr) (c1:Nat) (zs:List Int),k≤es.length+1∧i=.int .i64 k∧out=.slice A1 zs.length c1∧ROut n es m k zs∧RV wr 0 wr.heap.size A1 (ints zs) ∧
   Box wr w.heap.size [.int .i64 r,.int .i64 n,.slice A es.length c]∧Mid 0 0 w wr) (fun _ i _=>es.length+1 - (intOf i).toNat)
 case atStart=>exact ⟨0,_,1,[(m:Int)],Nat.zero_le _,rfl,rfl,HJ0.out,hrv0,B0,hm0⟩
 case round =>
  clear hrv0 B0 hm0 hal hm1;obtain ⟨wo,hwo⟩:∃ wo,wo=wr:=⟨_,rfl⟩
  subst hwo;obtain ⟨k,A0,c0,zs0,hk,rfl,rfl,hj,hrv,bx,hm⟩:=hrel;have p0:=bx.cell 0 rfl;have p1:=bx.cell 1 rfl;have p2:=bx.cell 2 rfl;have hzl:=hj.at'.le;have HJ:=Lib.hid hj;clear hj;by_cases hlt:k < es.length+1
  ·have hkn:(k:Int) < (es.length:Int)+1:=by omega
   go_wp2_with fail;go_loopw [5,7] (fun out i wr=>∃ (j:Nat) (A1:Option Addr) (c1:Nat) (zs:List Int),j≤es.length∧i=.int .i64 j∧out=.slice A1 zs.length c1∧RIn n es m k j zs∧RV wr 0 wr.heap.size A1 (ints zs) ∧
    Box wr w.heap.size [.int .i64 r,.int .i64 n,.slice A es.length c]∧Mid 0 0 w wr) (fun _ i _=>es.length - (intOf i).toNat)
   case atStart=>exact ⟨0,_,_,zs0,Nat.zero_le _,rfl,rfl,HJ.out.into,hrv,bx,hm⟩
   case round =>
    clear hrv bx hm p0 p1 p2;obtain ⟨j,A1,c1,zs,hj,rfl,rfl,hin,hrv,bx,hm⟩:=hrel;have p0:=bx.cell 0 rfl;have p1:=bx.cell 1 rfl;have p2:=bx.cell 2 rfl;have hzl:=hin.at'.le;have HI:=Lib.hid hin;clear hin;by_cases hlt2:j < es.length
    ·obtain ⟨B,off,e,rfl, -,hbh,he,e0,e1,e2⟩:=(hr.mid hm oZl).ed hlt2
     have HE:=Lib.hid he;have HS:=Lib.hid (HI.out.step he (HG.out.all e (List.mem_of_getElem? he)));have hkn2:(j:Int) < (es.length:Int):=by omega
     have hal:=Mid.alloc wr (.cells #[.int .i64 e.a,.int .i64 e.l,.int .i64 e.b] 110);have E1:=Box.new wr #[.int .i64 e.a,.int .i64 e.l,.int .i64 e.b] 110;replace bx:=bx.mid hal oZr;replace hrv:=hrv.mid hal oZl;replace hm:=hm.trans hal;replace hrv:=hrv.wide (Nat.le_refl _) hal.size (Nat.le_refl _);have g0:=E1.cell 0 rfl;have g1:=E1.cell 1 rfl;have g2:=E1.cell 2 rfl;obtain ⟨b1,hb1⟩:=bool_of (e.a∈zs);have HB1:=Lib.hid hb1;clear hb1 he;have q0:=bx.cell 0 rfl;have q1:=bx.cell 1 rfl;have q2:=bx.cell 2 rfl;go_wp2_with fail;with_reducible refine (spec_l4Has A1 zs c1 e.a _ _ _ hrv (by omega) b1 HB1.out).mono ?_
     rintro en w2 ⟨rfl,rfl⟩;cases b1 with
     | true =>
      go_wp2_with fail;with_reducible refine (spec_l4Add A1 zs c1 e.b _ _ _ hrv (by omega)).mono ?_
      rintro en w3 ⟨A3,c3,rfl,hrv3,hm3⟩;replace bx:=bx.mid hm3 oZr;replace E1:=E1.mid hm3 oZr;replace hm:=hm.trans hm3;clear p0 p1 p2 q0 q1 q2 g0 g1 g2;have p0:=bx.cell 0 rfl;have p1:=bx.cell 1 rfl;have p2:=bx.cell 2 rfl;have g0:=E1.cell 0 rfl;have g1:=E1.cell 1 rfl;have g2:=E1.cell 2 rfl;have hz3:(putI e.b zs).length≤41:=by have:=putI_len e.b zs;omega
      go_wp2_with fail;with_reducible refine (spec_l4Has A3 (putI e.b zs) c3 e.b _ _ _ hrv3 (by omega) true (iff_of_true rfl (mem_putI.2 (.inl rfl)))).mono ?_
      rintro en w2 ⟨rfl,rfl⟩;go_wp2_with fail;with_reducible refine (spec_l4Add A3 (putI e.b zs) c3 e.a _ _ _ hrv3 (by omega)).mono ?_
      rintro en w4 ⟨A4,c4,rfl,hrv4,hm4⟩;replace bx:=bx.mid hm4 oZr;replace hm:=hm.trans hm4;go_wp2_with fail;go_roundw
      case rel=>exact ⟨j+1,A4,c4,_,by omega,by go_num,rfl,by rw [← reachE_t (HB1.out.1 (by trivial))];exact HS.out,hrv4,bx,hm⟩
      case measure=>simp [intOf];omega
     | false =>
      have hna:e.a ∉ zs:=fun h=>by have:=HB1.out.2 h;cases this
      have HNA:=Lib.hid hna;obtain ⟨b2,hb2⟩:=bool_of (e.b∈zs);have HB2:=Lib.hid hb2;clear hb2 hna;go_wp2_with fail;with_reducible refine (spec_l4Has A1 zs c1 e.b _ _ _ hrv (by omega) b2 HB2.out).mono ?_
      rintro en w2 ⟨rfl,rfl⟩;cases b2 with
      | true =>
       go_wp2_with fail;with_reducible refine (spec_l4Add A1 zs c1 e.a _ _ _ hrv (by omega)).mono ?_
       rintro en w4 ⟨A4,c4,rfl,hrv4,hm4⟩;replace bx:=bx.mid hm4 oZr;replace hm:=hm.trans hm4;go_wp2_with fail;go_roundw
       case rel=>exact ⟨j+1,A4,c4,_,by omega,by go_num,rfl,by rw [← reachE_ft HNA.out (HB2.out.1 (by trivial))];exact HS.out,hrv4,bx,hm⟩
       case measure=>simp [intOf];omega
      | false =>
       have hnb:e.b ∉ zs:=fun h=>by have:=HB2.out.2 h;cases this
       have HNB:=Lib.hid hnb;clear hnb;go_wp2_with fail;go_roundw
       case rel=>exact ⟨j+1,A1,c1,zs,by omega,by go_num,rfl,by have h:=HS.out;rw [reachE_ff HNA.out HNB.out] at h;exact h,hrv,bx,hm⟩
       case measure=>simp [intOf];omega
    ·obtain rfl:j=es.length:=by omega
     go_wp2_with fail;go_roundw
     case rel=>exact ⟨k+1,A1,c1,zs,by omega,by go_num,rfl,HI.out.out,hrv,bx,hm⟩
     case measure=>simp [intOf];omega
  ·obtain rfl:k=es.length+1:=by omega
   go_wp2_with fail;go_ret;exact ⟨_,_,zs0,rfl,hrv,by omega,fun u=>HJ.out.done u,hm⟩
theorem spec_ReachedFrom0 (r:Int) (n:Nat) (A:Option Addr) (es:List Ed) (c:Nat) (w:World) (lo hi:Nat) (hr:RG w lo hi A es) (hg:IsGr r n es) (hv:0 < n) :
  Calls Tryz.prog 241 #[graV r n A es.length c,.int .i64 0] w fun e w'=>∃ A1 c1 zs,e=.returned (.slice A1 zs.length c1)∧RV w' 0 w'.heap.size A1 (ints zs)∧zs.length≤40∧(∀ u,u∈zs↔Conn es 0 u)∧Mid 0 0 w w' :=
 spec_ReachedFrom r n 0 A es c w lo hi hr hg hv
theorem spec_l8Leaf (r:Int) (n:Nat) (A:Option Addr) (es:List Ed) (c:Nat) (w:World) (lo hi:Nat) (hr:RG w lo hi A es) (hg:IsGr r n es) :
  Calls Tryz.prog 196 #[graV r n A es.length c] w fun e w'=>e=.returned (.int .i64 (leafI n es))∧Mid 0 0 w w':=by
 have hn40:n≤40:=by have:=hg.size;omega
 have hn1:1≤n:=by have:=hg.size;omega
 have hl:=hg.len;have hm0:Mid 0 0 w (w.alloc (.cells #[.int .i64 r,.int .i64 n,.slice A es.length c] 35)):=Mid.alloc _ _;have B0:=Box.new w #[.int .i64 r,.int .i64 n,.slice A es.length c] 35;have HG:=Lib.hid hg;clear hg;go_enter Tryz.func196,Tryz.ntmps196
 go_wp2_with fail;with_reducible refine (spec_ReachedFrom0 r n A es c _ _ _ (hr.mid hm0 oZl) HG.out (by omega)).mono ?_
 rintro en w1 ⟨A1,c1,zs,rfl,hrv,hz,hmem,hm1⟩;have HM:=Lib.hid hmem;replace B0:=B0.mid hm1 oZr;replace hm0:=hm0.trans hm1;clear hmem;have p0:=B0.cell 0 rfl;have p1:=B0.cell 1 rfl;have p2:=B0.cell 2 rfl;go_wp2_with fail;clear p0 p1 p2;go_loopw [4] (fun i wr=>∃ (k:Nat),1≤k∧k≤n∧i=.int .i64 k∧Hid (∀ u:Nat,1≤u→u < k→¬ Bad es u)∧RV wr 0 wr.heap.size A1 (ints zs) ∧
   Box wr w.heap.size [.int .i64 r,.int .i64 n,.slice A es.length c]∧Mid 0 0 w wr) (fun i _=>n - (intOf i).toNat)
 case atStart=>exact ⟨1,Nat.le_refl _,hn1,rfl,Lib.hid (fun u h1 h2=>absurd h2 (by omega)),hrv,B0,hm0⟩
 case round =>
  clear hrv B0 hm0 hm1;obtain ⟨k,hk1,hk,rfl,HU,hrv,bx,hm⟩:=hrel;have p0:=bx.cell 0 rfl;have p1:=bx.cell 1 rfl;have p2:=bx.cell 2 rfl;by_cases hlt:k < n
  ·have hkn:(k:Int) < (n:Int):=by omega
   go_wp2_with fail;with_reducible refine (spec_DegreeOf r n A es c k _ _ _ (hr.mid hm oZl) (by omega)).mono ?_
   rintro en w2 ⟨rfl,hm2⟩;replace bx:=bx.mid hm2 oZr;replace hrv:=hrv.mid hm2 oZl;replace hm:=hm.trans hm2;replace hrv:=hrv.wide (Nat.le_refl _) hm2.size (Nat.le_refl _);have hdl:=deg_le es k;by_cases hd:deg es k < 2
   ·have b1:decide ((deg es k:Int) < 2)=true:=by simp;omega
    have hlf:=leaf_some (s:=n) hk1 hkn (.inl hd) HU.out;have HL:=Lib.hid hlf;clear hlf hd;go_wp2_with fail;go_ret;exact ⟨by rw [leafI_some HL.out];rfl,hm⟩
   ·have b1:decide ((deg es k:Int) < 2)=false:=by simp;omega
    obtain ⟨b2,hb2⟩:=bool_of ((k:Int)∈zs);have HB2:=Lib.hid hb2;have HD:=Lib.hid hd;clear hb2 hd;go_wp2_with fail;with_reducible refine (spec_l4Has A1 zs c1 k _ _ _ hrv (by omega) b2 HB2.out).mono ?_
    rintro en w3 ⟨rfl,rfl⟩;cases b2 with
    | true =>
     have hnb:¬ Bad es k:=by
      rintro (h | h)
      ·exact HD.out h
      ·exact h ((HM.out _).1 (HB2.out.1 (by trivial)))
     have HNB:=Lib.hid hnb;clear hnb p0 p1 p2;have p0:=bx.cell 0 rfl;have p1:=bx.cell 1 rfl;have p2:=bx.cell 2 rfl;go_wp2_with fail;go_roundw
     case rel =>
      refine ⟨k+1,by omega,by omega,by go_num,Lib.hid fun u h1 h2=>?_,hrv,bx,hm⟩;by_cases h:u=k
      ·subst h;exact HNB.out
      ·exact HU.out u h1 (by omega)
     case measure=>simp [intOf];omega
    | false =>
     have hb:Bad es k:=.inr fun h=>by have:=HB2.out.2 ((HM.out _).2 h);cases this
     have HL:=Lib.hid (leaf_some (s:=n) hk1 hkn hb HU.out);clear hb;go_wp2_with fail;go_ret;exact ⟨by rw [leafI_some HL.out];rfl,hm⟩
  ·obtain rfl:k=n:=by omega
   have HL:=Lib.hid (leaf_none (s:=(k:Int)) (es:=es) fun u h1 h2=>HU.out u h1 (by omega));go_wp2_with fail;go_ret;exact ⟨by rw [leafI_none HL.out];rfl,hm⟩
end
section
open Go.RowKit
theorem spec_CanonicalOrder_no (r s:Int) (A:Option Addr) (es:List Ed) (c:Nat) (w:World) (lo hi:Nat) (hr:RG w lo hi A es) (hl:es.length≤1048576) (hf:¬ IsFol r s es) :
  Calls Tryz.prog 232 #[graV r s A es.length c] w fun e w'=>∃ A1 c1,e=.returned (.slice A1 0 c1)∧Mid 0 0 w w':=by
 have hm0:Mid 0 0 w (w.alloc (.cells #[.int .i64 r,.int .i64 s,.slice A es.length c] 35)):=Mid.alloc _ _;have HF:=Lib.hid hf;clear hf;go_enter Tryz.func232,Tryz.ntmps232
 go_wp2_with fail;with_reducible refine (spec_IsFolded r s A es c _ _ _ (hr.mid hm0 oZl) hl false (iff_of_false Bool.false_ne_true HF.out)).mono ?_
 rintro en w1 ⟨rfl,hm1⟩;have hal:=Mid.alloc w1 (.cells #[] 3);replace hm0:=hm0.trans hm1;go_wp2_with fail;go_ret;exact ⟨_,_,rfl,hm0.trans hal⟩
theorem spec_CanonicalOrder (r n:Nat) (A:Option Addr) (es:List Ed) (c:Nat) (w:World) (lo hi:Nat) (hr:RG w lo hi A es) (hf:IsFol r n es) :
  Calls Tryz.prog 232 #[graV r n A es.length c] w fun e w'=>∃ A1 c1,e=.returned (.slice A1 (ordE r es 0).length c1)∧RV w' 0 w'.heap.size A1 (ints (ordE r es 0))∧Mid 0 0 w w':=by
 have hg:=hf.gr;have hn40:n≤40:=by have:=hg.size;omega
 have hn1':1≤n:=by have:=hg.size;omega
 have hr3:r≤3:=by have:=hg.rank;omega
 have hl:=hg.len;have hgl:∀ e∈es,1≤e.l∧e.l≤3:=fun e he=>by have:=hg.all e he;unfold InG at this;omega
 have hm0:Mid 0 0 w (w.alloc (.cells #[.int .i64 r,.int .i64 n,.slice A es.length c] 35)):=Mid.alloc _ _;have B0:=Box.new w #[.int .i64 r,.int .i64 n,.slice A es.length c] 35;have HG:=Lib.hid hg;have HF:=Lib.hid hf;have HGL:=Lib.hid hgl;have hv0:(0:Int)≤0:=Int.le_refl _;have hv3:(0:Int) < (n:Int):=by omega
 clear hg hgl hf;go_enter Tryz.func232,Tryz.ntmps232
 go_wp2_with fail;with_reducible refine (spec_IsFolded r n A es c _ _ _ (hr.mid hm0 oZl) (by omega) true (iff_of_true rfl HF.out)).mono ?_
 rintro en w1 ⟨rfl,hm1⟩;replace B0:=B0.mid hm1 oZr;replace hm0:=hm0.trans hm1;have p0:=B0.cell 0 rfl;have p1:=B0.cell 1 rfl;have p2:=B0.cell 2 rfl;have hal:=Mid.alloc w1 (.cells #[.int .i64 0] 3);have O0:(w1.alloc (.cells #[.int .i64 0] 3)).ownsRow w1.heap.size 3 1 (.slice (some ⟨w1.heap.size,0,none⟩) 1 1) 1 (ints [(0:Int)]):=World.ownsRow_lit (size:=1) w1 #[.int .i64 0] 1 (Nat.le_refl _) (by simp [maxLen]) (by simp);have hsz1:w.heap.size < w1.heap.size:=by have:=hm1.size;simp at this;omega
 replace B0:=B0.mid hal oZr;replace hm0:=hm0.trans hal;go_wp2_with fail;with_reducible refine (spec_l5Letters r _ (by omega)).mono ?_
 rintro en w4 ⟨A4,c4,rfl,hL4,hm4⟩;have hs14:w1.heap.size+1≤w4.heap.size:=by have:=hm4.size;simpa using this
 rw [World.size_alloc] at hL4;replace B0:=B0.mid hm4 oZr;replace O0:=owns_mid O0 hm4 oZl;replace hm0:=hm0.trans hm4;clear p0 p1 p2 hal hm4 hm1;have HLL:=Lib.hid (lets_len r);obtain ⟨LL,hLL⟩:∃ LL,(lets r).length=LL:=⟨_,rfl⟩
 have hLL6:LL≤6:=by have:=HLL.out;omega
 rw [hLL];have HLn:=Lib.hid hLL;clear hLL;go_wp2_with fail;go_loopw [3,5] (fun ord iv wr=>∃ (i n1:Nat) (A1:Option Addr) (c1:Nat),i≤n1∧iv=.int .i64 i∧ord=.slice A1 n1 c1∧Hid ((bfsSt es (lets r) 0 i).length=n1) ∧
   wr.ownsRow w1.heap.size 3 1 (.slice A1 n1 c1) n1 (ints ((bfsSt es (lets r) 0 i).map Prod.fst))∧Hid (RV wr (w1.heap.size+1) w4.heap.size A4 (ints (lets r)))∧Hid (∀ g,Value.ownBlock (.slice A1 n1 c1)=some g→g < w1.heap.size+1 ∨ w4.heap.size≤g) ∧
   Box wr w.heap.size [.int .i64 r,.int .i64 n,.slice A es.length c]∧Mid 0 0 w wr) (fun _ i _=>(41 - intOf i).toNat)
 case atStart=>exact ⟨0,1,_,1,Nat.zero_le _,rfl,rfl,Lib.hid rfl,O0,Lib.hid hL4,Lib.hid (fun g hg=>by injection hg with hg;simp at hg;omega),B0,hm0⟩
 case round =>
  clear O0 hL4 B0 hm0;obtain ⟨wo,hwo⟩:∃ wo,wo=wr:=⟨_,rfl⟩
  subst hwo;obtain ⟨i,n1,A1,c1,hin,rfl,rfl,HN,hord,HL4,HD,bx,hm⟩:=hrel;have hok:=bfsSt_ok (L:=lets r) HG.out.all hv0 hv3 i;have hn1:n1≤40:=by have h1:=hok.len (by omega);have h2:=HN.out;omega
  have HOK:=Lib.hid hok;clear hok;by_cases hlt:i < n1
  ·obtain ⟨p,hp⟩:=get_of_lt (bfsSt es (lets r) 0 i) (show i < (bfsSt es (lets r) 0 i).length by rw [HN.out];exact hlt)
   obtain ⟨u,wd⟩:=p;have HP:=Lib.hid hp;have hNX:=Lib.hid (bfsSt_next hp);have hi0:(0:Int)≤(i:Int):=by omega
   clear hp;go_wp2_with fail;go_loopw [3,6] (fun ord jv wr=>∃ (j n1:Nat) (A1:Option Addr) (c1:Nat),j≤LL∧jv=.int .i64 j∧ord=.slice A1 n1 c1∧Hid ((bfsRow es ((lets r).take j) (u,wd) (bfsSt es (lets r) 0 i)).length=n1) ∧
     wr.ownsRow w1.heap.size 3 1 (.slice A1 n1 c1) n1 (ints ((bfsRow es ((lets r).take j) (u,wd) (bfsSt es (lets r) 0 i)).map Prod.fst)) ∧
     Hid (RV wr (w1.heap.size+1) w4.heap.size A4 (ints (lets r)))∧Hid (∀ g,Value.ownBlock (.slice A1 n1 c1)=some g→g < w1.heap.size+1 ∨ w4.heap.size≤g)∧Box wr w.heap.size [.int .i64 r,.int .i64 n,.slice A es.length c]∧Mid 0 0 w wr) (fun _ j _=>LL - (intOf j).toNat)
   case atStart=>exact ⟨0,n1,_,c1,Nat.zero_le _,rfl,rfl,by rw [List.take_zero];exact HN,hord,HL4,HD,bx,hm⟩
   case round =>
    clear hord HL4 HD bx hm;obtain ⟨j,n1,A1,c1,hj,rfl,rfl,HN,hord,HL4,HD,bx,hm⟩:=hrel;obtain ⟨stj,hstj⟩:∃ st,bfsRow es ((lets r).take j) (u,wd) (bfsSt es (lets r) 0 i)=st:=⟨_,rfl⟩
    have hokj:BfsOk n (lets r) stj:=by rw [← hstj];exact BfsOk.row HG.out.all _ (fun x hx=>List.mem_of_mem_take hx) HOK.out HP.out
    have hpj:stj[i]?=some (u,wd):=by rw [← hstj];exact prefix_get (bfsRow_pre _ _ _ _) HP.out
    rw [hstj] at HN hord;have hn1b:n1≤40:=by have h1:=hokj.len (by omega);have h2:=HN.out;omega
    by_cases hlt2:j < LL
    ·obtain ⟨B4,o4,x,rfl,hB4,hx,hcx⟩:=HL4.out.at (k:=j) (by rw [HLn.out];exact hlt2)
     have hxm:=lets_le (List.mem_of_getElem? hx);have hnx:=bfsRow_take (es:=es) (p:=(u,wd)) (st:=bfsSt es (lets r) 0 i) hx;rw [hstj] at hnx;simp only at hnx;have hj0:(0:Int)≤(j:Int):=by omega
     have hj1:(j:Int) < (LL:Int):=by omega
     have hil:i < n1:=by have h1:=(List.getElem?_eq_some_iff.1 hpj).1;have h2:=HN.out;omega
     have hi1:(i:Int) < (n1:Int):=by omega
     obtain ⟨g1,rfl,hg1,hg1s⟩:=owns_addr hord (show 0 < n1 by omega);have hcu:wr.cell? ⟨g1,i,none⟩=some (.int .i64 u):=(hord.cellAt i (by omega)).trans (by rw [ints_get,List.getElem?_map,hpj];rfl);have hB4s:B4 < wr.heap.size:=Nat.lt_of_lt_of_le hB4 HL4.out.1;have hcs:=nextV_cases HG.out.all u x;have HOJ:=Lib.hid hokj;have k0:=wg_cell bx.1 (bx.cell 0 rfl);have k1:=wg_cell bx.1 (bx.cell 1 rfl);have k2:=wg_cell bx.1 (bx.cell 2 rfl);have k3:=wg_cell hg1s hcu;have k4:=wg_cell hB4s hcx;have hA:=fun m os=>spec_NextVertex r n A es c u x (wg wr m os) lo hi (hr.mid (hm.trans (Mid.ofWg wr m os)) oZl) (by omega) HGL.out (by omega) (by omega);clear hx hokj hpj hstj hcu hcx;go_wp2_with fail;refine wp_region_quiet_wg (by kernel_rfl) (by kernel_rfl) ?_;repeat
      (with_reducible refine wpQuiet_step (fun K hK=>?_))
      go_simp
      first
       | ((with_reducible refine hK _ ?_);clear hK K)
       | (rw [if_neg (by decide)];(with_reducible refine hK _ ?_);clear hK K)
       | (apply Exists.intro;refine ⟨fun _=>?_,hK _ ?_⟩;((go_at_call 129;exact Calls.wg_of (hA _ _)));clear hK K)
     with_reducible refine wpQuiet_nil ?_
     intro _ hw';obtain ⟨⟨nq,osq⟩,hw''⟩:=hw';subst hw'';have hwg:=Mid.ofWg wr nq osq;generalize wg wr nq osq=w6 at hwg ⊢;replace bx:=bx.mid hwg oZr;replace hord:=owns_mid hord hwg oZl;replace hm:=hm.trans hwg;replace HL4:=Lib.hid (HL4.out.mid hwg oZl);generalize htx:nextV es u x=t at hnx hcs ⊢;clear k0 k1 k2 k3 k4 hA;by_cases ht0:t < 0
     ·have b1:decide (0≤t)=false:=by simp;omega
      have HNX:=Lib.hid (hnx.trans (by rw [bfsStep,htx,if_pos (.inl ht0)]:bfsStep es u wd stj x=stj));clear hnx hcs ht0 htx;go_wp2_with fail;go_roundw
      case rel=>exact ⟨j+1,n1,_,c1,by omega,by go_num,rfl,by rw [HNX.out];exact HN,by rw [HNX.out];exact hord,HL4,HD,bx,hm⟩
      case measure=>simp [intOf];omega
     ·have b1:decide (0≤t)=true:=by simp;omega
      obtain ⟨b2,hb2⟩:=bool_of (t∈stj.map Prod.fst);have HB2:=Lib.hid hb2;have hlm:(stj.map Prod.fst).length=n1:=by rw [List.length_map];exact HN.out
      have hP:=spec_l4Has (some ⟨g1,0,none⟩) (stj.map Prod.fst) c1 t w6 _ _ (owns_rv hord) (by omega) b2 HB2.out;rw [hlm] at hP;have HLM:=Lib.hid hlm;clear hb2 hcs hlm;go_wp2_with fail;with_reducible refine hP.mono ?_
      rintro en w7 ⟨rfl,rfl⟩;cases b2 with
      | true =>
       have HNX:=Lib.hid (hnx.trans (by rw [bfsStep,htx,if_pos (.inr (HB2.out.1 (by trivial)))]:bfsStep es u wd stj x=stj));clear hnx htx ht0 hP;go_wp2_with fail;go_roundw
       case rel=>exact ⟨j+1,n1,_,c1,by omega,by go_num,rfl,by rw [HNX.out];exact HN,by rw [HNX.out];exact hord,HL4,HD,bx,hm⟩
       case measure=>simp [intOf];omega
      | false =>
       have hnm:t ∉ stj.map Prod.fst:=fun h=>by have:=HB2.out.2 h;cases this
       have HNX:=Lib.hid (hnx.trans (by rw [bfsStep,htx,if_neg (fun h=>h.elim (fun h=>by omega) hnm)]:bfsStep es u wd stj x=stj++[(t,wd++[x])]));have HO9:=Lib.hid hord;have hsz9:w1.heap.size≤w6.heap.size:=by have:=HL4.out.1;omega
       clear hnx htx ht0 hP hnm;go_wp2_with (at_builtin;refine wpList_pushI2 rfl _ _ rfl w1.heap.size _ n1 c1 (stj.map Prod.fst) rfl HO9.out t rfl (by omega) hsz9 ?_;intro A10 c10 w10 hord10 hgr10 hat10)
       have hm10:=Mid.of_grownRow HO9.out hgr10;have bx10:=bx.mid hm10 (Or.inl (by omega));have hL10:=HL4.out.grown hgr10 HD.out;have hmm10:=hm.transNew hm10 (Or.inl (by omega));have hmap:(stj++[(t,wd++[x])]).map Prod.fst=stj.map Prod.fst++[t]:=by simp
       have HMAP:=Lib.hid hmap;have hw46:w4.heap.size≤w6.heap.size:=HL4.out.1;have HD10:Hid (∀ g,Value.ownBlock (.slice A10 (n1+1) c10)=some g→g < w1.heap.size+1 ∨ w4.heap.size≤g):=Lib.hid (by
        intro g hg;rcases hat10 with h | h
        ·exact HD.out g (h.symm.trans hg)
        ·rw [h] at hg
         injection hg with hg
         omega)
       have HL10:=Lib.hid hL10;clear hL10 hmap hat10 hgr10;go_roundw
       case rel=>exact ⟨j+1,n1+1,A10,c10,by omega,by go_num,rfl,Lib.hid (by rw [HNX.out,List.length_append,HN.out];rfl),by rw [HNX.out,HMAP.out];exact hord10,HL10,HD10,bx10,hmm10⟩
       case measure=>simp [intOf];omega
    ·obtain rfl:j=LL:=by omega
     have htk:(lets r).take j=lets r:=List.take_of_length_le (by rw [HLn.out];exact Nat.le_refl _);rw [htk] at hstj;have hnx:=hNX.out;rw [hstj] at hnx;have HNX:=Lib.hid hnx;have hin1:i+1≤n1:=by have h1:=(List.getElem?_eq_some_iff.1 hpj).1;have h2:=HN.out;omega
     clear hnx hstj hpj;go_wp2_with fail;go_roundw
     case rel=>exact ⟨i+1,n1,A1,c1,hin1,by go_num,rfl,by rw [HNX.out];exact HN,by rw [HNX.out];exact hord,HL4,HD,bx,hm⟩
     case measure=>simp [intOf];omega
  ·obtain rfl:i=n1:=by omega
   have hbf:=bfs_eq (L:=lets r) HG.out.all hv0 hv3 (by omega) HN.out;have hord':ordE r es 0=(bfsSt es (lets r) 0 i).map Prod.fst:=by rw [ordE,Int.toNat_natCast,hbf]
   have hlen:(ordE r es 0).length=i:=by rw [hord',List.length_map];exact HN.out
   have HORD:=Lib.hid hord';have HLEN:=Lib.hid hlen;clear hbf hord' hlen;go_wp2_with fail;go_ret;exact ⟨A1,c1,by rw [HLEN.out];rfl,by rw [HORD.out];exact (owns_rv hord).wide (Nat.zero_le _) (Nat.le_refl _) (Nat.le_refl _),hm⟩
end
section
open Go.RowKit
theorem spec_RenumberGraph (r:Int) (n:Nat) (A:Option Addr) (es:List Ed) (c:Nat) (Ao:Option Addr) (ord:List Int) (co:Nat) (w:World) (lo hi lo' hi':Nat) (hr:RG w lo hi A es) (hro:RV w lo' hi' Ao (ints ord)) (hg:IsGr r n es)
  (hnd:ord.Nodup) (hin:∀ x∈ord,0≤x∧x < (n:Int)) (hne:0 < ord.length) :
  Calls Tryz.prog 231 #[graV r n A es.length c,.slice Ao ord.length co] w fun e w'=>∃ A1 c1,e=.returned (.tuple #[graV r ord.length A1 (partE ord es).length c1,.bool true])∧OG w' w.heap.size w'.heap.size A1 c1 (partE ord es)∧Mid 0 0 w w':=by
 have hn40:n≤40:=by have:=hg.size;omega
 have hl:=hg.len;have hol:ord.length≤n:=nodup_le n ord hnd hin;have hmx:n≤maxLen:=by unfold maxLen;omega
 have HG:=Lib.hid hg;have HND:=Lib.hid hnd;have HIN:=Lib.hid hin;have hm0:Mid 0 0 w (((w.alloc (.cells #[.int .i64 r,.int .i64 n,.slice A es.length c] 35)).alloc (.cells #[.int .i64 0,.int .i64 0,.slice none 0 0] 35)).alloc (.cells #[.int .i64 r,.int .i64 ord.length,.slice none 0 0] 35)):=((Mid.alloc _ _).trans (Mid.alloc _ _)).trans (Mid.alloc _ _);have b0:=((Box.new w #[.int .i64 r,.int .i64 n,.slice A es.length c] 35).mid (Mid.alloc _ (.cells #[.int .i64 0,.int .i64 0,.slice none 0 0] 35)) oZr).mid (Mid.alloc _ (.cells #[.int .i64 r,.int .i64 ord.length,.slice none 0 0] 35)) oZr;have b2:=(Box.new (w.alloc (.cells #[.int .i64 r,.int .i64 n,.slice A es.length c] 35)) #[.int .i64 0,.int .i64 0,.slice none 0 0] 35).mid (Mid.alloc _ (.cells #[.int .i64 r,.int .i64 ord.length,.slice none 0 0] 35)) oZr;have Y3:=Box.new ((w.alloc (.cells #[.int .i64 r,.int .i64 n,.slice A es.length c] 35)).alloc (.cells #[.int .i64 0,.int .i64 0,.slice none 0 0] 35)) #[.int .i64 r,.int .i64 ord.length,.slice none 0 0] 35;simp only [World.size_alloc,Nat.add_assoc,Nat.reduceAdd] at b2 Y3;have e1:((ord.length:Int) == 0)=false:=by simp only [beq_eq_false_iff_ne];omega
 have e2:decide ((n:Int) < (ord.length:Int))=false:=by simp;omega
 clear hg hnd hin;go_enter Tryz.func231,Tryz.ntmps231
 go_wp2_with fail;generalize hw1:(((w.alloc (.cells #[.int .i64 r,.int .i64 n,.slice A es.length c] 35)).alloc (.cells #[.int .i64 0,.int .i64 0,.slice none 0 0] 35)).alloc (.cells #[.int .i64 r,.int .i64 ord.length,.slice none 0 0] 35))=w1 at hm0 b0 b2 Y3 ⊢;clear hw1;with_reducible refine (spec_IsGraph r n A es c _ _ _ (hr.mid hm0 oZl).rv (by omega) true (iff_of_true rfl HG.out)).mono ?_
 rintro en w2 ⟨rfl,hm2⟩;replace b0:=b0.mid hm2 oZr;replace b2:=b2.mid hm2 oZr;replace Y3:=Y3.mid hm2 oZr;replace hm0:=hm0.trans hm2;have p0:=b0.cell 0 rfl;have p1:=b0.cell 1 rfl;have p2:=b0.cell 2 rfl;clear hm2;go_wp2_with (at_make;refine wpList_mk rfl _ _ 44 rfl 3 (.int .i64 0) 8 undSI infoI rfl .i64 .i64 _ _ n rfl rfl rfl rfl (by omega) hmx ?_;intro w3 hown3 hgr3 hsz3)
 have hm3:=Mid.of_grown (lo:=0) (hi:=0) hgr3 (by intro g h;cases h);have hP3:w.heap.size+3≤w2.heap.size:=Y3.1;replace b0:=b0.mid hm3 oZr;replace b2:=b2.mid hm3 oZr;replace Y3:=Y3.mid hm3 oZr;replace hm0:=hm0.trans hm3;obtain ⟨P,hP⟩:∃ P,w2.heap.size=P:=⟨_,rfl⟩
 rw [hP] at hown3 hsz3 hP3 ⊢;clear hgr3 hm3 p0 p1 p2 hP;go_loopw [8] (fun i wr=>∃ j:Nat,j≤ord.length∧i=.int .i64 j∧wr.ownsRow P 3 1 (.slice (some ⟨P,0,none⟩) n n) n (ints (placeM n (ord.take j))) ∧
   Box wr w.heap.size [.int .i64 r,.int .i64 n,.slice A es.length c]∧Box wr (w.heap.size+1) [.int .i64 0,.int .i64 0,.slice none 0 0]∧Box wr (w.heap.size+2) [.int .i64 r,.int .i64 ord.length,.slice none 0 0]∧Mid 0 0 w wr) (fun i _=>ord.length - (intOf i).toNat)
 case atStart=>exact ⟨0,Nat.zero_le _,rfl,by rw [List.take_zero,placeM_nil];simpa [ints] using hown3,b0,b2,Y3,hm0⟩
 case round =>
  clear hown3 b0 b2 Y3 hm0 hsz3;obtain ⟨wi,hwi⟩:∃ wi,wi=wr:=⟨_,rfl⟩
  subst hwi;obtain ⟨j,hj,rfl,hown,b0,b2,Y3,hm⟩:=hrel;by_cases hlt2:j < ord.length
  ·obtain ⟨B,off,x,rfl,hbh,hx,hcx⟩:=(hro.mid hm oZl).at hlt2
   have hxr:=HIN.out x (List.mem_of_getElem? hx);obtain ⟨m,rfl⟩:∃ m:Nat,x=m:=⟨x.toNat,by omega⟩
   have hmk:m < n:=by omega
   have hxn:=not_in_take HND.out hx;have hcs:wi.cell? ⟨P,m,none⟩=some (.int .i64 0):=(hown.cellAt m (by omega)).trans (by rw [ints_get,placeM_get _ hmk,idxI_neg hxn];rfl);have hfz:=hown.frozenAt m;have HX:=Lib.hid hx;have hPs:P < wi.heap.size:=(hown.lt _ rfl).2;have hBs:B < wi.heap.size:=by have:=hro.1;have:=hm.size;omega
   have hib:inB (m:Int) 0 ((n:Int) - 1)=true:=by unfold inB;simp;omega
   have hwr:IntKind.i64.wrap ((n:Int) - 1)=(n:Int) - 1:=IntWalk.i64_in _ (by omega);have u0:=wg_cell b0.1 (b0.cell 0 rfl);have u1:=wg_cell b0.1 (b0.cell 1 rfl);have u2:=wg_cell b0.1 (b0.cell 2 rfl);have u3:=wg_cell hBs hcx;have u4:=wg_cell hPs hcs;have hm1:(m:Int) < (n:Int):=by omega
   have hm0:(0:Int)≤(m:Int):=by omega
   have hj1:(j:Int) < (ord.length:Int):=by omega
   have hj0:(0:Int)≤(j:Int):=by omega
   clear hx hxn;go_wp2_with fail;refine wp_region_quiet_wg (by kernel_rfl) (by kernel_rfl) ?_;repeat
    (with_reducible refine wpQuiet_step (fun K hK=>?_))
    go_simp
    first
     | ((with_reducible refine hK _ ?_);clear hK K)
     | (rw [if_neg (by decide)];(with_reducible refine hK _ ?_);clear hK K)
     | (apply Exists.intro;refine ⟨fun _=>?_,hK _ ?_⟩;((go_at_call 102;exact Calls.wg_same (l1In_at hib _)));clear hK K)
   with_reducible refine wpQuiet_nil ?_
   intro _ hw';obtain ⟨⟨nq,osq⟩,hw''⟩:=hw';subst hw'';have hwg:=Mid.ofWg wi nq osq;have hown2:=owns_mid hown hwg oZl;have v4:=u4 nq osq;have v3:=u3 nq osq;have hfz2:=hown2.frozenAt m;have hsv:(ints (placeM n (ord.take j))).set m (.int .i64 ((j:Int)+1))=ints (placeM n (ord.take (j+1))):=by rw [← placeM_set HND.out HX.out hmk];simp [ints]
   have hset2:=owns_set hown2 m (.int .i64 ((j:Int)+1)) hsv;have hst:=Mid.setAt (wg wi nq osq) P m (.int .i64 ((j:Int)+1));have hms:=(hm.trans hwg).storeNew (p:=⟨P,m,none⟩) (by show w.heap.size≤P;omega) (.int .i64 ((j:Int)+1));replace b0:=b0.mid hwg oZr;replace b2:=b2.mid hwg oZr;replace Y3:=Y3.mid hwg oZr;replace b0:=b0.mid hst (Or.inl (by omega));replace b2:=b2.mid hst (Or.inl (by omega));replace Y3:=Y3.mid hst (Or.inl (by omega));clear hown hown2 hm u0 u1 u2 u3 u4 hwg hst hsv;go_wp2_with fail;go_roundw
   case rel=>exact ⟨j+1,by omega,by go_num,hset2,b0,b2,Y3,hms⟩
   case measure=>simp [intOf];omega
  ·obtain rfl:j=ord.length:=by omega
   rw [List.take_length] at hown;have p0:=b0.cell 0 rfl;have p1:=b0.cell 1 rfl;have p2:=b0.cell 2 rfl;go_wp2_with fail;clear p0 p1 p2;go_loopw [9] (fun i wr=>∃ (q:Nat) (A2:Option Addr) (c2 lo2 hi2:Nat) (xs:List Ed),q≤es.length∧i=.int .i64 q∧Hid (xs=putAll [] ((es.take q).filterMap (partOf ord))) ∧
     OG wr lo2 hi2 A2 c2 xs∧P≤lo2∧wr.ownsRow P 3 1 (.slice (some ⟨P,0,none⟩) n n) n (ints (placeM n ord)) ∧
     Box wr w.heap.size [.int .i64 r,.int .i64 n,.slice A es.length c]∧Box wr (w.heap.size+1) [.int .i64 0,.int .i64 0,.slice none 0 0]∧Box wr (w.heap.size+2) [.int .i64 r,.int .i64 ord.length,.slice A2 xs.length c2]∧Mid 0 0 w wr) (fun i _=>es.length - (intOf i).toNat)
   case atStart=>exact ⟨0,none,0,P,_,[],Nat.zero_le _,rfl,Lib.hid rfl,⟨Nat.le_of_lt (show P < wi.heap.size from (hown.lt _ rfl).2),⟨rfl,.inl ⟨rfl,rfl⟩⟩,fun g hg=>by simp [Value.ownBlock] at hg⟩,Nat.le_refl _,hown,b0,b2,Y3,hm⟩
   case round =>
    clear hown b0 b2 Y3 hm;obtain ⟨q,A2,c2,lo2,hi2,xs,hq,rfl,HX,hown,hlo2,hownP,b0,b2,Y3,hm⟩:=hrel;have hxl:xs.length≤120:=by
     have h1:=putAll_len [] ((es.take q).filterMap (partOf ord));have h2:=List.length_filterMap_le (partOf ord) (es.take q);rw [← HX.out] at h1;simp at h1 h2;omega
    by_cases hlt3:q < es.length
    ·obtain ⟨B,off,e,rfl, -,hbh,he,e0,e1,e2⟩:=(hr.mid hm oZl).ed hlt3
     have hin:=HG.out.all e (List.mem_of_getElem? he);have htk:(es.take (q+1)).filterMap (partOf ord)=(es.take q).filterMap (partOf ord)++(partOf ord e).toList:=by
      rw [take_snoc he,List.filterMap_append];cases hd:partOf ord e <;> simp [hd]
     obtain ⟨i1,i2,i3,i4,i5,i6⟩:=hin;obtain ⟨x,l,y⟩:=e;simp only at i1 i2 i3 i4 i5 i6 e0 e1 e2 htk;obtain ⟨ia,rfl⟩:∃ ia:Nat,x=ia:=⟨x.toNat,by omega⟩
     obtain ⟨ib,rfl⟩:∃ ib:Nat,y=ib:=⟨y.toNat,by omega⟩
     have hia:ia < n:=by omega
     have hib:ib < n:=by omega
     have hq0:(0:Int)≤(q:Int):=by omega
     have hq1:(q:Int) < (es.length:Int):=by omega
     have hal:=Mid.alloc wr (.cells #[.int .i64 ia,.int .i64 l,.int .i64 ib] 110);have ZE:=Box.new wr #[.int .i64 ia,.int .i64 l,.int .i64 ib] 110;have hgs:P < wr.heap.size:=(hownP.lt _ rfl).2;have p0:=b0.cell 0 rfl;have p1:=b0.cell 1 rfl;have p2:=b0.cell 2 rfl;replace b0:=b0.mid hal oZr;replace b2:=b2.mid hal oZr;replace Y3:=Y3.mid hal oZr;replace hownP:=owns_mid hownP hal oZl;replace hown:=hown.mid hal oZl;replace hm:=hm.trans hal;obtain ⟨pa,hpa⟩:∃ pa,idxI ord ia+1=pa:=⟨_,rfl⟩
     obtain ⟨pb,hpb⟩:∃ pb,idxI ord ib+1=pb:=⟨_,rfl⟩
     have hpa0:pa≤41:=by
      by_cases h:0≤idxI ord ia
      ·have:=idxI_lt h;omega
      ·omega
     have hpb0:pb≤41:=by
      by_cases h:0≤idxI ord ib
      ·have:=idxI_lt h;omega
      ·omega
     have hga:(ints (placeM n ord))[ia]?=some (.int .i64 pa):=by rw [ints_get,placeM_get ord hia,hpa];rfl
     have hgb:(ints (placeM n ord))[ib]?=some (.int .i64 pb):=by rw [ints_get,placeM_get ord hib,hpb];rfl
     have hca:=(hownP.cellAt ia (by omega)).trans hga;have hcb:=(hownP.cellAt ib (by omega)).trans hgb;have HTK:=Lib.hid htk;have HPA:=Lib.hid hpa;have HPB:=Lib.hid hpb;have HGA:=Lib.hid hga;have HGB:=Lib.hid hgb;clear he htk hpa hpb hga hgb;by_cases hok:0 < pa∧0 < pb
     ·have hpo:partOf ord ⟨(ia:Int),l,(ib:Int)⟩=some ⟨pa - 1,l,pb - 1⟩:=by
       have h1:=HPA.out;have h2:=HPB.out;unfold partOf;simp only;rw [if_pos ⟨by omega,by omega⟩,← h1,← h2,Int.add_sub_cancel,Int.add_sub_cancel]
      have HT:Hid ((es.take (q+1)).filterMap (partOf ord)=(es.take q).filterMap (partOf ord)++[⟨pa - 1,l,pb - 1⟩]):=Lib.hid (by rw [HTK.out,hpo];rfl);have d1:decide (0 < pa)=true:=by simpa using hok.1
      have d2:decide (0 < pb)=true:=by simpa using hok.2
      have hpa1:=hok.1;have hpb1:=hok.2;clear hpo hok;go_wp2_with fail;clear e0 e1 e2 hca hcb d1 d2 p0 p1 p2;generalize hwx:wr.alloc (.cells #[.int .i64 ia,.int .i64 l,.int .i64 ib] 110)=wx at ZE b0 b2 Y3 hown hownP hm ⊢;generalize hgE:wr.heap.size=E at ZE hgs ⊢;clear hgE hwx hal;have hmd:=Mid.drew1 wx;replace b0:=b0.mid hmd oZr;replace b2:=b2.mid hmd oZr;replace Y3:=Y3.mid hmd oZr;replace ZE:=ZE.mid hmd oZr;replace hownP:=owns_mid hownP hmd oZl;replace hown:=hown.mid hmd oZl;replace hm:=hm.trans hmd;have hca:=(hownP.cellAt ia (by omega)).trans HGA.out;have hcb:=(hownP.cellAt ib (by omega)).trans HGB.out;have f0:=ZE.cell 0 rfl;have f1:=ZE.cell 1 rfl;have f2:=ZE.cell 2 rfl;have g2:=Y3.cell 2 rfl;have hw1:IntKind.i64.wrap (pa - 1)=pa - 1:=IntWalk.i64_in _ (by omega);have hw2:IntKind.i64.wrap (pb - 1)=pb - 1:=IntWalk.i64_in _ (by omega);clear hmd;refine wp_region_T (S:=(fun w'=>w'.cell? ⟨E,0,none⟩=some (.int .i64 ia)∧w'.cell? ⟨E,1,none⟩=some (.int .i64 l)∧w'.cell? ⟨E,2,none⟩=some (.int .i64 ib)∧w'.cell? ⟨w.heap.size+2,2,none⟩=some (.slice A2 xs.length c2)∧w'.cell? ⟨P,ia,none⟩=some (.int .i64 pa)∧w'.cell? ⟨P,ib,none⟩=some (.int .i64 pb))) 19 (by kernel_rfl) ⟨f0,f1,f2,g2,hca,hcb⟩ ?_;generalize World.drew wx=wz at b0 b2 Y3 ZE hown hownP hm f0 f1 f2 g2 hca hcb ⊢;have hS:wz.cell? ⟨E,0,none⟩=some (.int .i64 ia)∧wz.cell? ⟨E,1,none⟩=some (.int .i64 l)∧wz.cell? ⟨E,2,none⟩=some (.int .i64 ib)∧wz.cell? ⟨w.heap.size+2,2,none⟩=some (.slice A2 xs.length c2)∧wz.cell? ⟨P,ia,none⟩=some (.int .i64 pa)∧wz.cell? ⟨P,ib,none⟩=some (.int .i64 pb):=⟨f0,f1,f2,g2,hca,hcb⟩
      refine tkT 0 rfl hS ?_;try simp only [Act.put,zs1,zs2,zs3,zs4,zs5,zs6]
      refine tkT 1 rfl hS ?_;try simp only [Act.put,zs1,zs2,zs3,zs4,zs5,zs6]
      refine tkT 2 rfl hS ?_;try simp only [Act.put,zs1,zs2,zs3,zs4,zs5,zs6]
      refine tkT 3 rfl hS ?_;try simp only [Act.put,zs1,zs2,zs3,zs4,zs5,zs6]
      refine tkT 4 rfl hS ?_;try simp only [Act.put,zs1,zs2,zs3,zs4,zs5,zs6]
      refine tkT 5 rfl hS ?_;try simp only [Act.put,zs1,zs2,zs3,zs4,zs5,zs6]
      refine tkT 6 rfl hS ?_;try simp only [Act.put,zs1,zs2,zs3,zs4,zs5,zs6]
      refine tkT 7 rfl hS ?_;try simp only [Act.put,zs1,zs2,zs3,zs4,zs5,zs6]
      refine tkT 8 rfl hS ?_;try simp only [Act.put,zs1,zs2,zs3,zs4,zs5,zs6]
      refine tkT 9 rfl hS ?_;try simp only [Act.put,zs1,zs2,zs3,zs4,zs5,zs6]
      refine tkT 10 rfl hS ?_;try simp only [Act.put,zs1,zs2,zs3,zs4,zs5,zs6]
      refine tkT 11 rfl hS ?_;try simp only [Act.put,zs1,zs2,zs3,zs4,zs5,zs6]
      refine tkT 12 rfl hS ?_;try simp only [Act.put,zs1,zs2,zs3,zs4,zs5,zs6]
      refine tkT 13 rfl hS ?_;try simp only [Act.put,zs1,zs2,zs3,zs4,zs5,zs6]
      refine tkT 14 rfl hS ?_;try simp only [Act.put,zs1,zs2,zs3,zs4,zs5,zs6]
      refine tkT 15 rfl hS ?_;try simp only [Act.put,zs1,zs2,zs3,zs4,zs5,zs6]
      refine tkT 16 rfl hS ?_;try simp only [Act.put,zs1,zs2,zs3,zs4,zs5,zs6]
      have hQ:=spec_l4Put A2 xs c2 ⟨pa - 1,l,pb - 1⟩ wz _ _ hown.rg (by omega);refine rdT 17 rfl (fun K hK=>?_)
      (go_simp;refine hQ.mono ?_;rintro en w9 ⟨A9,c9,rfl,ho9,hm9⟩;have b0':=b0.mid hm9 oZr;have b2':=b2.mid hm9 oZr;have Y3':=Y3.mid hm9 oZr;have ZE':=ZE.mid hm9 oZr;have hP9:=owns_mid hownP hm9 oZl;go_wp2_with fail)
      refine hK.out _ _ (Or.inr ⟨ZE'.cell 0 rfl,ZE'.cell 1 rfl,ZE'.cell 2 rfl,Y3'.cell 2 rfl,(hP9.cellAt ia (by omega)).trans HGA.out,(hP9.cellAt ib (by omega)).trans HGB.out⟩) (fun _=>?_);clear hK K;try simp only [Act.put,zs1,zs2,zs3,zs4,zs5,zs6]
      have hmr9:=hm.trans hm9;have hPz:P≤wz.heap.size:=Nat.le_of_lt (show P < wz.heap.size from (hownP.lt _ rfl).2);have hS3:=And.intro (ZE'.cell 0 rfl) (And.intro (ZE'.cell 1 rfl) (And.intro (ZE'.cell 2 rfl) (And.intro (Y3'.cell 2 rfl) (And.intro ((hP9.cellAt ia (by omega)).trans HGA.out) ((hP9.cellAt ib (by omega)).trans HGB.out)))));have hr2:=Y3'.cell 2 rfl;have hrf:=Y3'.2.2;clear hS b0 b2 Y3 ZE hm hown hownP f0 f1 f2 g2 hca hcb hQ;refine tkT 18 rfl hS3 ?_;try simp only [Act.put,zs1,zs2,zs3,zs4,zs5,zs6]
      refine rdT 19 rfl (fun K hK=>?_)
      (go_simp)
      refine hK.out _ _ (Or.inl rfl) (fun _=>?_);clear hK K;try simp only [Act.put,zs1,zs2,zs3,zs4,zs5,zs6]
      refine wpAnyT_done (by kernel_rfl) ?_ _;go_wp2_with fail;go_roundw
      case rel =>
       have hst:=Mid.setAt w9 (w.heap.size+2) 2 (.slice A9 (putE ⟨pa - 1,l,pb - 1⟩ xs).length c9);refine ⟨q+1,A9,c9,_,_,_,by omega,by go_num,Lib.hid ?_,ho9.mid hst (Or.inl (by omega)),hPz,owns_mid hP9 hst (Or.inl (by omega)),b0'.mid hst (Or.inl (by omega)),b2'.mid hst (Or.inl (by omega)),Y3'.set 2 _ (by simp) rfl,hmr9.storeNew (by show w.heap.size≤w.heap.size+2;omega) _⟩;rw [HT.out,putAll_snoc,← HX.out]
      case measure=>simp [intOf];omega
     ·have hpo:partOf ord ⟨(ia:Int),l,(ib:Int)⟩=none:=by
       have h1:=HPA.out;have h2:=HPB.out;unfold partOf;simp only;rw [if_neg (fun h=>hok ⟨by omega,by omega⟩)]
      have HT:Hid ((es.take (q+1)).filterMap (partOf ord)=(es.take q).filterMap (partOf ord)):=Lib.hid (by rw [HTK.out,hpo];simp);by_cases h1:0 < pa
      ·have d1:decide (0 < pa)=true:=by simpa using h1
       have d2:decide (0 < pb)=false:=by simp;omega
       clear hpo hok h1;go_wp2_with fail;go_roundw
       case rel=>exact ⟨q+1,A2,c2,lo2,hi2,xs,by omega,by go_num,by rw [HT.out];exact HX,hown,hlo2,hownP,b0,b2,Y3,hm⟩
       case measure=>simp [intOf];omega
      ·have d1:decide (0 < pa)=false:=by simp;omega
       clear hpo hok h1;go_wp2_with fail;go_roundw
       case rel=>exact ⟨q+1,A2,c2,lo2,hi2,xs,by omega,by go_num,by rw [HT.out];exact HX,hown,hlo2,hownP,b0,b2,Y3,hm⟩
       case measure=>simp [intOf];omega
    ·obtain rfl:q=es.length:=by omega
     have hxx:=HX.out;rw [List.take_length] at hxx;have HXX:=Lib.hid (show xs=partE ord es from hxx);clear hxx;have p0:=b0.cell 0 rfl;have p1:=b0.cell 1 rfl;have p2:=b0.cell 2 rfl;have a0:=b2.cell 0 rfl;have a1:=b2.cell 1 rfl;have a2:=b2.cell 2 rfl;have x0:=Y3.cell 0 rfl;have x1:=Y3.cell 1 rfl;have x2:=Y3.cell 2 rfl;have af:=b2.2.2;have bf:=Y3.2.2;go_wp2_with fail;refine bodyPost_ret (v:=.tuple #[.agg #[.int .i64 r,.int .i64 ord.length,.slice A2 xs.length c2],.bool true]) (by simp [results,Tryz.results231,go_sem,a0,a1,a2,x0,x1,x2,af,bf]) rfl ⟨A2,c2,by rw [HXX.out],?_,?_⟩
     ·rw [← HXX.out]
      refine OG.wide (OG.mid hown (a:=w.heap.size) (b:=w.heap.size+3) ?_ (Or.inl (by omega))) (by omega) (by have:=hown.size;simpa using this) (Nat.le_refl _);repeat (first | exact Mid.refl _ _ _ | refine Mid.stored ?_ _ (by simp;try omega) (by simp;try omega))
     ·repeat (first | exact hm | refine Mid.storeNew ?_ (by simp;try omega) _)
end
section
open Go.RowKit
theorem impl_EqualGraphs (r s:Int) (A:Option Addr) (es:List Ed) (c:Nat) (r' s':Int) (A':Option Addr) (es':List Ed) (c':Nat) (w:World) (lo hi lo' hi':Nat) (hr:RG w lo hi A es) (hr':RG w lo' hi' A' es') (hl:es.length≤1048576) (hl':es'.length≤1048576) (b:Bool) (hb:b=true↔r=r'∧s=s'∧es=es') :
  Calls Tryz.prog 186 #[graV r s A es.length c,graV r' s' A' es'.length c'] w fun e w'=>e=.returned (.bool b)∧Mid 0 0 w w':=by
 have HB:=Lib.hid hb;clear hb;have hm0:Mid 0 0 w ((w.alloc (.cells #[.int .i64 r,.int .i64 s,.slice A es.length c] 35)).alloc (.cells #[.int .i64 r',.int .i64 s',.slice A' es'.length c'] 35)):=(Mid.alloc _ _).trans (Mid.alloc _ _);by_cases h1:r=r'
 ·by_cases h2:s=s'
  ·subst h1 h2
   have hbd:decide (es=es')=b:=by rw [Bool.eq_iff_iff,HB.out];simp
   have HBD:=Lib.hid hbd;clear hbd;clear HB;go_enter Tryz.func186,Tryz.ntmps186
   go_wp2_with fail;with_reducible refine (equalE A A' es es' c c' _ _ _ _ _ (hr.mid hm0 oZl) (hr'.mid hm0 oZl) hl hl').mono ?_
   rintro en w1 ⟨rfl,hm1⟩;have hmm:=hm0.trans hm1;rw [HBD.out];clear HBD;cases b with
   | false =>
    go_wp2_with fail;go_ret;exact ⟨rfl,hmm⟩
   | true =>
    go_wp2_with fail;go_ret;exact ⟨rfl,hmm⟩
  ·have b2:(s == s')=false:=by simpa only [beq_eq_false_iff_ne] using h2
   obtain rfl:b=false:=bool_no HB.out fun h=>h2 h.2.1;subst h1;clear HB h2;go_enter Tryz.func186,Tryz.ntmps186
   go_wp2_with fail;go_ret;exact ⟨rfl,hm0⟩
 ·have b2:(r == r')=false:=by simpa only [beq_eq_false_iff_ne] using h1
  obtain rfl:b=false:=bool_no HB.out fun h=>h1 h.1;clear HB h1;go_enter Tryz.func186,Tryz.ntmps186
  go_wp2_with fail;go_ret;exact ⟨rfl,hm0⟩
theorem spec_EqualGraphs (r s:Int) (A:Option Addr) (es:List Ed) (c:Nat) (r' s':Int) (A':Option Addr) (es':List Ed) (c':Nat) (w:World) (lo hi lo' hi':Nat) (hr:RG w lo hi A es) (hr':RG w lo' hi' A' es') (hl:es.length≤1048576) (hl':es'.length≤1048576) (b:Bool) (hb:b=true↔r=r'∧s=s'∧es=es') :
  Calls Tryz.prog 18 #[graV r s A es.length c,graV r' s' A' es'.length c'] w fun e w'=>e=.returned (.bool b)∧Mid 0 0 w w':=by
 have HB:=Lib.hid hb;clear hb;have hm0:Mid 0 0 w ((w.alloc (.cells #[.int .i64 r,.int .i64 s,.slice A es.length c] 35)).alloc (.cells #[.int .i64 r',.int .i64 s',.slice A' es'.length c'] 35)):=(Mid.alloc _ _).trans (Mid.alloc _ _);by_cases h1:r=r'
 ·by_cases h2:s=s'
  ·by_cases h3:es.length=es'.length
   ·subst h1 h2
    have HL:=Lib.hid h3;have b0:(r != r)=false:=by simp
    have b1:(s != s)=false:=by simp
    have b2:((es.length:Int) != (es'.length:Int))=false:=by simp;omega
    have B0:=(Box.new w #[.int .i64 r,.int .i64 s,.slice A es.length c] 35).mid (Mid.alloc _ (.cells #[.int .i64 r,.int .i64 s,.slice A' es'.length c'] 35)) oZr;have B1:=Box.new (w.alloc (.cells #[.int .i64 r,.int .i64 s,.slice A es.length c] 35)) #[.int .i64 r,.int .i64 s,.slice A' es'.length c'] 35;rw [World.size_alloc] at B1;have hle1:es.length≤es'.length:=by omega
    have hle2:es'.length≤es.length:=by omega
    clear h3;go_enter Tryz.func18,Tryz.ntmps18
    go_wp2_with fail;go_loopw [5] (fun i wr=>∃ (k:Nat),k≤es.length∧i=.int .i64 k∧Hid (∀ j,j < k→es[j]?=es'[j]?)∧Box wr w.heap.size [.int .i64 r,.int .i64 s,.slice A es.length c]∧Box wr (w.heap.size+1) [.int .i64 r,.int .i64 s,.slice A' es'.length c']∧Mid 0 0 w wr) (fun i _=>es.length - (intOf i).toNat)
    case atStart=>exact ⟨0,Nat.zero_le _,rfl,Lib.hid (fun j h=>absurd h (Nat.not_lt_zero _)),B0,B1,hm0⟩
    case round =>
     clear B0 B1 hm0;obtain ⟨k,hk,rfl,HE,bx,by1,hm⟩:=hrel;have p0:=bx.cell 0 rfl;have p1:=bx.cell 1 rfl;have p2:=bx.cell 2 rfl;have q0:=by1.cell 0 rfl;have q1:=by1.cell 1 rfl;have q2:=by1.cell 2 rfl;by_cases hlt:k < es.length
     ·obtain ⟨B,off,e,rfl, -,hbh,he,e0,e1,e2⟩:=(hr.mid hm oZl).ed hlt
      obtain ⟨B',off',f,rfl, -,hbh',hf,f0,f1,f2⟩:=(hr'.mid hm oZl).ed (k:=k) (by omega);have hs1:B < wr.heap.size:=Nat.lt_of_lt_of_le hbh (Nat.le_trans hr.1 hm.size);have hs2:B' < wr.heap.size:=Nat.lt_of_lt_of_le hbh' (Nat.le_trans hr'.1 hm.size);have x0:=wg_cell hs1 e0;have x1:=wg_cell hs1 e1;have x2:=wg_cell hs1 e2;have y0:=wg_cell hs2 f0;have y1:=wg_cell hs2 f1;have y2:=wg_cell hs2 f2;have u2:=wg_cell bx.1 p2;have v2:=wg_cell by1.1 q2;have hk0:(0:Int)≤(k:Int):=by omega
      have hkn:(k:Int) < (es.length:Int):=by omega
      have hkm:(k:Int) < (es'.length:Int):=by omega
      have hgd:=guardEd e f;have HE1:=Lib.hid he;have HF1:=Lib.hid hf;clear he hf;by_cases hef:e=f
      ·have hq:=neqEd_run e f (show decide (e≠f)=false by simp [hef])
       have HEF:=Lib.hid hef;clear hef;go_wp2_with fail;refine wp_region_quiet_wg (by kernel_rfl) (by kernel_rfl) ?_;repeat
        (with_reducible refine wpQuiet_step (fun K hK=>?_))
        go_simp
        first
         | ((with_reducible refine hK _ ?_);clear hK K)
         | (rw [if_neg (by decide)];(with_reducible refine hK _ ?_);clear hK K)
         | (apply Exists.intro;refine ⟨fun _=>?_,hK _ ?_⟩;(fail);clear hK K)
       with_reducible refine wpQuiet_nil ?_
       intro _ hw';obtain ⟨⟨nq,osq⟩,hw''⟩:=hw';subst hw'';go_wp2_with fail;go_roundw
       case rel =>
        have hwg:=Mid.ofWg wr nq osq;refine ⟨k+1,by omega,by go_num,Lib.hid fun j hj=>?_,bx.mid hwg oZr,by1.mid hwg oZr,hm.trans hwg⟩;by_cases h:j < k
        ·exact HE.out j h
        ·obtain rfl:j=k:=by omega
         rw [HE1.out,HF1.out,HEF.out]
       case measure=>simp [intOf];omega
      ·have hq:=neqEd_run e f (show decide (e≠f)=true by simp [hef])
       obtain rfl:b=false:=bool_no HB.out fun h=>hef (by
        have h1:=HE1.out;rw [h.2.2,HF1.out] at h1;injection h1 with h1
        exact h1.symm)
       clear hef;go_wp2_with fail;refine wp_region_quiet_wg (by kernel_rfl) (by kernel_rfl) ?_;repeat
        (with_reducible refine wpQuiet_step (fun K hK=>?_))
        go_simp
        first
         | ((with_reducible refine hK _ ?_);clear hK K)
         | (rw [if_neg (by decide)];(with_reducible refine hK _ ?_);clear hK K)
         | (apply Exists.intro;refine ⟨fun _=>?_,hK _ ?_⟩;(fail);clear hK K)
       with_reducible refine wpQuiet_nil ?_
       intro _ hw';obtain ⟨⟨nq,osq⟩,hw''⟩:=hw';subst hw'';go_wp2_with fail;go_ret;exact ⟨rfl,hm.trans (Mid.ofWg wr nq osq)⟩
     ·obtain rfl:k=es.length:=by omega
      obtain rfl:b=true:=HB.out.2 ⟨by trivial,by trivial,List.ext_getElem? fun j=>by
       by_cases h:j < es.length
       ·exact HE.out j h
       ·rw [List.getElem?_eq_none (by omega),List.getElem?_eq_none (by omega)]⟩
      go_wp2_with fail;go_ret;exact ⟨rfl,hm⟩
   ·subst h1 h2
    have b0:(r != r)=false:=by simp
    have b1:(s != s)=false:=by simp
    have b2:((es.length:Int) != (es'.length:Int))=true:=by simp;omega
    obtain rfl:b=false:=bool_no HB.out fun h=>h3 (by rw [h.2.2]);clear HB h3;go_enter Tryz.func18,Tryz.ntmps18
    go_wp2_with fail;go_ret;exact ⟨rfl,hm0⟩
  ·have b2:(s != s')=true:=by simpa using h2
   have b0:(r != r')=false:=by simpa using h1
   obtain rfl:b=false:=bool_no HB.out fun h=>h2 h.2.1;clear HB h2 h1;go_enter Tryz.func18,Tryz.ntmps18
   go_wp2_with fail;go_ret;exact ⟨rfl,hm0⟩
 ·have b2:(r != r')=true:=by simpa using h1
  obtain rfl:b=false:=bool_no HB.out fun h=>h1 h.1;clear HB h1;go_enter Tryz.func18,Tryz.ntmps18
  go_wp2_with fail;go_ret;exact ⟨rfl,hm0⟩
end
section
open Go.RowKit
theorem impl_CanonicalOrder (r n:Nat) (A:Option Addr) (es:List Ed) (c:Nat) (w:World) (lo hi:Nat) (hr:RG w lo hi A es) (hcl:es.length≤c) (hf:IsFol r n es) :
  Calls Tryz.prog 237 #[graV r n A es.length c] w fun e w'=>∃ A1 c1,e=.returned (.slice A1 (ordE r es 0).length c1)∧RV w' 0 w'.heap.size A1 (ints (ordE r es 0))∧Mid 0 0 w w':=by
 have hl:=hf.gr.len;have hn1:0 < n:=by have:=hf.gr.size;omega
 have hm0:Mid 0 0 w (w.alloc (.cells #[.int .i64 r,.int .i64 n,.slice A es.length c] 35)):=Mid.alloc _ _;have B0:=Box.new w #[.int .i64 r,.int .i64 n,.slice A es.length c] 35;have HF:=Lib.hid hf;clear hf;go_enter Tryz.func237,Tryz.ntmps237
 go_wp2_with fail;with_reducible refine (impl_IsFolded r n A es c _ _ _ (hr.mid hm0 oZl) (by omega) hcl true (iff_of_true rfl HF.out)).mono ?_
 rintro en w1 ⟨rfl,hm1⟩;replace B0:=B0.mid hm1 oZr;replace hm0:=hm0.trans hm1;have p0:=B0.cell 0 rfl;have p1:=B0.cell 1 rfl;have p2:=B0.cell 2 rfl;have hT:=impl_tree r n 0 A es c w1 lo hi (hr.mid hm0 oZl) HF.out.gr hn1;have h00:((0:Nat):Int)=0:=rfl;rw [h00] at hT;go_wp2_with fail;with_reducible refine (hT).mono ?_
 rintro en w2 ⟨A1,c1,rfl,hm2,hord, -⟩;have hx:=(owns_rv hord).wide (Nat.zero_le _) (Nat.le_refl _) (Nat.le_refl _);go_wp2_with fail;go_ret;exact ⟨A1,c1,rfl,hx,hm0.trans hm2⟩
theorem canonG_fol {r n:Nat} {es:List Ed} (h:IsFol r n es):canonG r ((n:Int),es)=(((ordE r es 0).length:Int),partE (ordE r es 0) es):=if_pos h
theorem canonG_no {r s:Int} {es:List Ed} (h:¬ IsFol r s es):canonG r (s,es)=(s,es):=if_neg h
theorem ordE_ok {r n:Nat} {es:List Ed} (h:IsFol r n es):0 < (ordE r es 0).length∧(ordE r es 0).Nodup∧∀ x∈ordE r es 0,0≤x∧x < (n:Int):=by
 have hs:=h.gr.size;obtain ⟨h1, -,h2,h3⟩:=ordE_len h.gr (v:=0) (Int.le_refl _) (by omega);exact ⟨h1,h2,h3⟩
theorem impl_CanonicalGraph (r n:Nat) (A:Option Addr) (es:List Ed) (c:Nat) (w:World) (lo hi:Nat) (hr:RG w lo hi A es) (hcl:es.length≤c) (hg:IsGr r n es) :
  Calls Tryz.prog 187 #[graV r n A es.length c] w fun e w'=>∃ A1 c1,e=.returned (graV r (canonG r ((n:Int),es)).1 A1 (canonG r ((n:Int),es)).2.length c1)∧OG w' w.heap.size w'.heap.size A1 c1 (canonG r ((n:Int),es)).2∧Mid 0 0 w w':=by
 have hl:=hg.len;have hm0:Mid 0 0 w ((w.alloc (.cells #[.int .i64 r,.int .i64 n,.slice A es.length c] 35)).alloc (.cells #[.int .i64 0,.int .i64 0,.slice none 0 0] 35)):=(Mid.alloc _ _).trans (Mid.alloc _ _);have b0:=(Box.new w #[.int .i64 r,.int .i64 n,.slice A es.length c] 35).mid (Mid.alloc _ (.cells #[.int .i64 0,.int .i64 0,.slice none 0 0] 35)) oZr;have b2:=Box.new (w.alloc (.cells #[.int .i64 r,.int .i64 n,.slice A es.length c] 35)) #[.int .i64 0,.int .i64 0,.slice none 0 0] 35;simp only [World.size_alloc] at b2;have HG:=Lib.hid hg;clear hg;by_cases hf:IsFol r n es
 ·rw [canonG_fol hf]
  have HF:=Lib.hid hf;clear hf;go_enter Tryz.func187,Tryz.ntmps187
  go_wp2_with fail;with_reducible refine (impl_IsFolded r n A es c _ _ _ (hr.mid hm0 oZl) (by omega) hcl true (iff_of_true rfl HF.out)).mono ?_
  rintro en w1 ⟨rfl,hm1⟩;replace b0:=b0.mid hm1 oZr;replace b2:=b2.mid hm1 oZr;replace hm0:=hm0.trans hm1;go_wp2_with fail;have hmd:=Mid.drew1 w1;replace b0:=b0.mid hmd oZr;replace b2:=b2.mid hmd oZr;replace hm0:=hm0.trans hmd;have p0:=b0.cell 0 rfl;have p1:=b0.cell 1 rfl;have p2:=b0.cell 2 rfl;refine wp_region_T (S:=(fun w'=>w'.cell? ⟨w.heap.size,0,none⟩=some (.int .i64 r)∧w'.cell? ⟨w.heap.size,1,none⟩=some (.int .i64 n)∧w'.cell? ⟨w.heap.size,2,none⟩=some (.slice A es.length c))) 4 (by kernel_rfl) ⟨p0,p1,p2⟩ ?_;generalize World.drew w1=wz at b0 b2 hm0 p0 p1 p2 ⊢;have hS:wz.cell? ⟨w.heap.size,0,none⟩=some (.int .i64 r)∧wz.cell? ⟨w.heap.size,1,none⟩=some (.int .i64 n)∧wz.cell? ⟨w.heap.size,2,none⟩=some (.slice A es.length c):=⟨p0,p1,p2⟩
  refine tkT 0 rfl hS ?_;try simp only [Act.put,zs1,zs2,zs3,zs4,zs5,zs6]
  refine tkT 1 rfl hS ?_;try simp only [Act.put,zs1,zs2,zs3,zs4,zs5,zs6]
  have hQ:=impl_CanonicalOrder r n A es c wz lo hi (hr.mid hm0 oZl) hcl HF.out;refine rdT 2 rfl (fun K hK=>?_)
  (go_simp;refine hQ.mono ?_;rintro en w2 ⟨A2,c2,rfl,hord,hm2⟩;have b0':=b0.mid hm2 oZr;have b2':=b2.mid hm2 oZr;go_wp2_with fail)
  refine hK.out _ _ (Or.inr ⟨b0'.cell 0 rfl,b0'.cell 1 rfl,b0'.cell 2 rfl⟩) (fun _=>?_);clear hK K;try simp only [Act.put,zs1,zs2,zs3,zs4,zs5,zs6]
  replace hm0:=hm0.trans hm2;obtain ⟨ho1,ho2,ho3⟩:=ordE_ok HF.out;have hR:=impl_part r n A es c A2 (ordE r es 0) c2 w2 lo hi _ _ (hr.mid hm0 oZl) hord HG.out ho2 ho3;have HR:=Lib.hid hR;clear hS hQ b0 b2 hm2 p0 p1 p2 hR ho1 ho2 ho3;refine rdT 3 rfl (fun K hK=>?_)
  (go_simp;refine HR.out.mono ?_;rintro en w3 ⟨A3,c3,rfl,hog,hm3⟩;have b0:=b0'.mid hm3 oZr;have b2:=b2'.mid hm3 oZr;go_wp2_with fail)
  refine hK.out _ _ (Or.inr ⟨b0.cell 0 rfl,b0.cell 1 rfl,b0.cell 2 rfl⟩) (fun _=>?_);clear hK K;try simp only [Act.put,zs1,zs2,zs3,zs4,zs5,zs6]
  have hsz2:=hm0.size;have hb2s:=b2'.1;replace hm0:=hm0.trans hm3;have z0:=b2.cell 0 rfl;have z1:=b2.cell 1 rfl;have z2:=b2.cell 2 rfl;have zf:=b2.2.2;clear b0' b2' hm3 HR hord;refine rdT 4 rfl (fun K hK=>?_)
  (go_simp)
  refine hK.out _ _ (Or.inl rfl) (fun _=>?_);clear hK K;try simp only [Act.put,zs1,zs2,zs3,zs4,zs5,zs6]
  refine wpAnyT_done (by kernel_rfl) ?_ _;go_wp2_with fail;refine bodyPost_ret (v:=.agg #[.int .i64 r,.int .i64 (ordE r es 0).length,.slice A3 (partE (ordE r es 0) es).length c3]) (by simp [results,Tryz.results187,go_sem,z0,z1,z2,zf]) rfl ⟨A3,c3,rfl,?_,?_⟩
  ·refine OG.wide (OG.mid hog (a:=w.heap.size+1) (b:=w.heap.size+2) ?_ (Or.inl (by omega))) (by omega) (by simp) (Nat.le_refl _)
   repeat (first | exact Mid.refl _ _ _ | refine Mid.stored ?_ _ (by simp;try omega) (by simp;try omega))
  ·repeat (first | exact hm0 | refine Mid.storeNew ?_ (by simp;try omega) _)
 ·rw [canonG_no hf]
  have HF:=Lib.hid hf;clear hf;go_enter Tryz.func187,Tryz.ntmps187
  go_wp2_with fail;with_reducible refine (impl_IsFolded r n A es c _ _ _ (hr.mid hm0 oZl) (by omega) hcl false (iff_of_false Bool.false_ne_true HF.out)).mono ?_
  rintro en w1 ⟨rfl,hm1⟩;have hsz1:w.heap.size+2≤w1.heap.size:=by have:=hm1.size;simpa using this
  replace b0:=b0.mid hm1 oZr;replace b2:=b2.mid hm1 oZr;replace hm0:=hm0.trans hm1;have p0:=b0.cell 0 rfl;have p1:=b0.cell 1 rfl;have p2:=b0.cell 2 rfl;go_wp2_with fail;with_reducible refine (impl_copyGraph r n A es c _ _ _ (hr.mid hm0 oZl) (by omega)).mono ?_
  rintro en w2 ⟨A2,c2,rfl,hog,hm2⟩;have hsz2:=hm0.size;replace b2:=b2.mid hm2 oZr;replace hm0:=hm0.trans hm2;have z0:=b2.cell 0 rfl;have z1:=b2.cell 1 rfl;have z2:=b2.cell 2 rfl;have zf:=b2.2.2;clear p0 p1 p2;go_wp2_with fail;refine bodyPost_ret (v:=.agg #[.int .i64 r,.int .i64 n,.slice A2 es.length c2]) (by simp [results,Tryz.results187,go_sem,z0,z1,z2,zf]) rfl ⟨A2,c2,rfl,?_,?_⟩
  ·refine OG.wide (OG.mid hog (a:=w.heap.size+1) (b:=w.heap.size+2) ?_ (Or.inl (by omega))) (by omega) (by simp) (Nat.le_refl _)
   repeat (first | exact Mid.refl _ _ _ | refine Mid.stored ?_ _ (by simp;try omega) (by simp;try omega))
  ·repeat (first | exact hm0 | refine Mid.storeNew ?_ (by simp;try omega) _)
theorem spec_CanonicalGraph (r n:Nat) (A:Option Addr) (es:List Ed) (c:Nat) (w:World) (lo hi:Nat) (hr:RG w lo hi A es) (hg:IsGr r n es) :
  Calls Tryz.prog 184 #[graV r n A es.length c] w fun e w'=>∃ A1 c1,e=.returned (graV r (canonG r ((n:Int),es)).1 A1 (canonG r ((n:Int),es)).2.length c1)∧OG w' w.heap.size w'.heap.size A1 c1 (canonG r ((n:Int),es)).2∧Mid 0 0 w w':=by
 have hl:=hg.len;have hm0:Mid 0 0 w ((w.alloc (.cells #[.int .i64 r,.int .i64 n,.slice A es.length c] 35)).alloc (.cells #[.int .i64 0,.int .i64 0,.slice none 0 0] 35)):=(Mid.alloc _ _).trans (Mid.alloc _ _);have b0:=(Box.new w #[.int .i64 r,.int .i64 n,.slice A es.length c] 35).mid (Mid.alloc _ (.cells #[.int .i64 0,.int .i64 0,.slice none 0 0] 35)) oZr;have b2:=Box.new (w.alloc (.cells #[.int .i64 r,.int .i64 n,.slice A es.length c] 35)) #[.int .i64 0,.int .i64 0,.slice none 0 0] 35;simp only [World.size_alloc] at b2;have HG:=Lib.hid hg;clear hg;by_cases hf:IsFol r n es
 ·rw [canonG_fol hf]
  have HF:=Lib.hid hf;clear hf;go_enter Tryz.func184,Tryz.ntmps184
  go_wp2_with fail;with_reducible refine (spec_CanonicalOrder r n A es c _ _ _ (hr.mid hm0 oZl) HF.out).mono ?_
  rintro en w1 ⟨A1,c1,rfl,hord,hm1⟩;replace b0:=b0.mid hm1 oZr;replace b2:=b2.mid hm1 oZr;replace hm0:=hm0.trans hm1;have p0:=b0.cell 0 rfl;have p1:=b0.cell 1 rfl;have p2:=b0.cell 2 rfl;obtain ⟨ho1,ho2,ho3⟩:=ordE_ok HF.out;have e1:(((ordE r es 0).length:Int) == 0)=false:=by simp only [beq_eq_false_iff_ne];omega
  have HR0:=Lib.hid (spec_RenumberGraph r n A es c A1 (ordE r es 0) c1 w1 lo hi _ _ (hr.mid hm0 oZl) hord HG.out ho2 ho3 ho1);have hsz1:w.heap.size+2≤w1.heap.size:=by have:=hm1.size;simpa using this
  obtain ⟨os,hos⟩:∃ os,ordE r es 0=os:=⟨_,rfl⟩
  obtain ⟨ps,hps⟩:∃ ps,partE os es=ps:=⟨_,rfl⟩
  rw [hos] at HR0 e1 ⊢;rw [hps] at HR0;have HOS:=Lib.hid hos;have HPS:=Lib.hid hps;have HR:=HR0;clear ho1 ho2 ho3 hord hm1 hos hps HR0;go_wp2_with fail;with_reducible refine (HR.out).mono ?_
  rintro en w2 ⟨A2,c2,rfl,hog,hm2⟩;clear HR;have hsz2:=hm2.size;have hal:=Mid.alloc w2 (.cells #[.int .i64 r,.int .i64 os.length,.slice A2 ps.length c2] 35);have Y3:=Box.new w2 #[.int .i64 r,.int .i64 os.length,.slice A2 ps.length c2] 35;replace b2:=b2.mid hm2 oZr;replace hm0:=hm0.trans hm2;clear p0 p1 p2;have z0:=b2.cell 0 rfl;have z1:=b2.cell 1 rfl;have z2:=b2.cell 2 rfl;have zf:=b2.2.2;have hb22:w.heap.size+1 < w2.heap.size:=b2.1;go_wp2_with fail;refine bodyPost_ret (v:=.agg #[.int .i64 r,.int .i64 os.length,.slice A2 ps.length c2]) (by simp [results,Tryz.results184,go_sem,z0,z1,z2,zf,hb22,World.cell?_alloc_lt]) rfl ⟨A2,c2,by rw [HOS.out,HPS.out],?_,?_⟩
  ·rw [HOS.out,HPS.out]
   refine OG.wide (OG.mid (OG.mid hog (a:=w.heap.size+1) (b:=w.heap.size+2) ?_ (Or.inl (by omega))) (Mid.alloc _ _) oZl) (by omega) (by simp) (Nat.le_refl _);repeat (first | exact Mid.refl _ _ _ | refine Mid.stored ?_ _ (by simp;try omega) (by simp;try omega))
  ·refine Mid.trans ?_ (Mid.alloc _ _)
   repeat (first | exact hm0 | refine Mid.storeNew ?_ (by simp;try omega) _)
 ·rw [canonG_no hf]
  have HF:=Lib.hid hf;clear hf;go_enter Tryz.func184,Tryz.ntmps184
  go_wp2_with fail;with_reducible refine (spec_CanonicalOrder_no r n A es c _ _ _ (hr.mid hm0 oZl) (by omega) HF.out).mono ?_
  rintro en w1 ⟨A1,c1,rfl,hm1⟩;have hsz1:w.heap.size+2≤w1.heap.size:=by have:=hm1.size;simpa using this
  replace b0:=b0.mid hm1 oZr;replace b2:=b2.mid hm1 oZr;replace hm0:=hm0.trans hm1;have p0:=b0.cell 0 rfl;have p1:=b0.cell 1 rfl;have p2:=b0.cell 2 rfl;go_wp2_with fail;with_reducible refine (spec_l4Copy r n A es c _ _ _ (hr.mid hm0 oZl) (by omega)).mono ?_
  rintro en w2 ⟨A2,c2,rfl,hog,hm2⟩;have hsz2:=hm0.size;replace b2:=b2.mid hm2 oZr;replace hm0:=hm0.trans hm2;have z0:=b2.cell 0 rfl;have z1:=b2.cell 1 rfl;have z2:=b2.cell 2 rfl;have zf:=b2.2.2;clear p0 p1 p2;go_wp2_with fail;refine bodyPost_ret (v:=.agg #[.int .i64 r,.int .i64 n,.slice A2 es.length c2]) (by simp [results,Tryz.results184,go_sem,z0,z1,z2,zf]) rfl ⟨A2,c2,rfl,?_,?_⟩
  ·refine OG.wide (OG.mid hog (a:=w.heap.size+1) (b:=w.heap.size+2) ?_ (Or.inl (by omega))) (by omega) (by simp) (Nat.le_refl _)
   repeat (first | exact Mid.refl _ _ _ | refine Mid.stored ?_ _ (by simp;try omega) (by simp;try omega))
  ·repeat (first | exact hm0 | refine Mid.storeNew ?_ (by simp;try omega) _)
end
section
open Go.RowKit
def sizeAt (w:World) (G:Nat):Nat:=match w.cell? ⟨G,1,none⟩ with | some (.int _ s)=>s.toNat | _=>0
theorem sizeAt_box {w:World} {G:Nat} {r:Value} {n:Nat} {v:Value} (h:Box w G [r,.int .i64 n,v]):sizeAt w G=n:=by
 unfold sizeAt;rw [h.cell 1 rfl];simp
theorem impl_TrimGraph (r:Int) (n:Nat) (A:Option Addr) (es:List Ed) (c:Nat) (w:World) (lo hi:Nat) (hr:RG w lo hi A es) (hg:IsGr r n es) :
  Calls Tryz.prog 185 #[graV r n A es.length c] w fun e w'=>∃ A1 c1 Al nl cl,e=.returned (.tuple #[graV r (trimA 40 ((n:Int),es)).1 A1 (trimA 40 ((n:Int),es)).2.length c1,.slice Al nl cl])∧OG w' w.heap.size w'.heap.size A1 c1 (trimA 40 ((n:Int),es)).2∧Mid 0 0 w w':=by
 have hn40:n≤40:=by have:=hg.size;omega
 have hl:=hg.len;have hm0:Mid 0 0 w ((w.alloc (.cells #[.int .i64 r,.int .i64 n,.slice A es.length c] 35)).alloc (.cells #[.int .i64 0,.int .i64 0,.slice none 0 0] 35)):=(Mid.alloc _ _).trans (Mid.alloc _ _);have b0:=(Box.new w #[.int .i64 r,.int .i64 n,.slice A es.length c] 35).mid (Mid.alloc _ (.cells #[.int .i64 0,.int .i64 0,.slice none 0 0] 35)) oZr;have b2:=Box.new (w.alloc (.cells #[.int .i64 r,.int .i64 n,.slice A es.length c] 35)) #[.int .i64 0,.int .i64 0,.slice none 0 0] 35;simp only [World.size_alloc] at b2;have HG:=Lib.hid hg;obtain ⟨T,hT⟩:∃ T,trimA 40 ((n:Int),es)=T:=⟨_,rfl⟩
 rw [hT];have HT:=Lib.hid hT;clear hg hT;go_enter Tryz.func185,Tryz.ntmps185
 go_wp2_with fail;generalize hw1:((w.alloc (.cells #[.int .i64 r,.int .i64 n,.slice A es.length c] 35)).alloc (.cells #[.int .i64 0,.int .i64 0,.slice none 0 0] 35))=w1 at hm0 b0 b2 ⊢;clear hw1;with_reducible refine (impl_copyGraph r n A es c _ _ _ (hr.mid hm0 oZl) (by omega)).mono ?_
 rintro en w2 ⟨A1,c1,rfl,ho,hm2⟩;have hsz12:=hm0.size;have hs2:w.heap.size+1 < w1.heap.size:=b2.1;replace b0:=b0.mid hm2 oZr;replace b2:=b2.mid hm2 oZr;replace hm0:=hm0.trans hm2;have hsz2:=hm2.size;have hown0:=owns_base (base':=w.heap.size+2) ho.ov.2.1 hs2;have hbk0:Value.ownBlock (.slice A1 es.length c1)≠some w2.heap.size:=fun h=>by have:=ho.ov.2.2 _ h;omega
 have hal:=(Mid.alloc w2 (.cells #[.int .i64 r,.int .i64 n,.slice A1 es.length c1] 35)).trans (Mid.alloc (w2.alloc (.cells #[.int .i64 r,.int .i64 n,.slice A1 es.length c1] 35)) (.cells #[] 3));have Y3:=(Box.new w2 #[.int .i64 r,.int .i64 n,.slice A1 es.length c1] 35).mid (Mid.alloc (w2.alloc (.cells #[.int .i64 r,.int .i64 n,.slice A1 es.length c1] 35)) (.cells #[] 3)) oZr;have O0:=owns_empty (w2.alloc (.cells #[.int .i64 r,.int .i64 n,.slice A1 es.length c1] 35)) 3 1;rw [World.size_alloc] at O0;have hbs0:=b0.1;have p0:=b0.cell 0 rfl;have p1:=b0.cell 1 rfl;have p2:=b0.cell 2 rfl;replace b0:=b0.mid hal oZr;replace b2:=b2.mid hal oZr;replace hown0:=owns_mid hown0 hal oZl;replace hm0:=hm0.trans hal;go_wp2_with fail;clear p0 p1 p2;have hsA:((w2.alloc (.cells #[.int .i64 r,.int .i64 n,.slice A1 es.length c1] 35)).alloc (.cells #[] 3)).heap.size=w2.heap.size+2:=by simp
 generalize hw3:(w2.alloc (.cells #[.int .i64 r,.int .i64 n,.slice A1 es.length c1] 35)).alloc (.cells #[] 3)=w3 at Y3 O0 b0 b2 hown0 hm0 hsA ⊢;obtain ⟨G,hG⟩:∃ G,w2.heap.size=G:=⟨_,rfl⟩
 rw [hG] at Y3 O0 hbk0 hsA hsz2 hbs0 ⊢;clear hw3 hal hm2 ho hG;with_reducible refine (impl_IsGraph r n A es c _ _ _ (hr.mid hm0 oZl).rv (by omega) true (iff_of_true rfl HG.out)).mono ?_
 rintro en w4 ⟨rfl,hm4⟩;have hs4:=hm4.size;replace b0:=b0.mid hm4 oZr;replace b2:=b2.mid hm4 oZr;replace Y3:=Y3.mid hm4 oZr;replace hown0:=owns_mid hown0 hm4 oZl;replace O0:=owns_mid O0 hm4 oZl;replace hm0:=hm0.trans hm4;have hGw:w.heap.size+2≤G:=by omega
 have hG4:G+1≤w4.heap.size:=by omega
 clear hm4 hs4 hsA hsz2 hs2 hsz12 hbs0;go_wp2_with fail;go_loopw [5,6] (fun l i wr=>∃ (k:Nat) (Al:Option Addr) (nl cl:Nat),k≤n∧i=.int .i64 k∧l=.slice Al nl cl∧Hid ((upto k).length=nl)∧wr.ownsRow (G+1) 3 1 (.slice Al nl cl) nl (ints (upto k)) ∧
   Hid (wr.ownsRow (w.heap.size+2) 110 3 (.slice A1 es.length c1) es.length (ints (edI es)))∧Box wr w.heap.size [.int .i64 r,.int .i64 n,.slice A es.length c]∧Box wr (w.heap.size+1) [.int .i64 0,.int .i64 0,.slice none 0 0]∧Box wr G [.int .i64 r,.int .i64 n,.slice A1 es.length c1]∧Mid 0 0 w wr) (fun _ i _=>n - (intOf i).toNat)
 case atStart=>exact ⟨0,_,0,0,Nat.zero_le _,rfl,rfl,Lib.hid rfl,O0,Lib.hid hown0,b0,b2,Y3,hm0⟩
 case round =>
  clear O0 hown0 b0 b2 Y3 hm0;obtain ⟨wo,hwo⟩:∃ wo,wo=wr:=⟨_,rfl⟩
  subst hwo;obtain ⟨k,Al,nl,cl,hk,rfl,rfl,HN,hleft,HE,b0,b2,Y3,hm⟩:=hrel;obtain rfl:k=nl:=by rw [← HN.out,upto_len]
  have p0:=b0.cell 0 rfl;have p1:=b0.cell 1 rfl;have p2:=b0.cell 2 rfl;by_cases hlt:k < n
  ·have hk1:(k:Int) < (n:Int):=by omega
   have hGo:G+1≤wo.heap.size:=Y3.1;have HL:=Lib.hid hleft;clear hleft;go_wp2_with (at_builtin;refine wpList_pushI2 rfl _ _ rfl (G+1) Al k cl (upto k) rfl HL.out k rfl (by omega) hGo ?_;intro A9 c9 w9 hl9 hgr9 hat9)
   clear hat9;have hm9:=Mid.of_grownRow HL.out hgr9;have hE9:=HE.out.kept hgr9 (owns_ne HE.out HL.out (by decide));go_roundw
   case rel=>exact ⟨k+1,A9,k+1,c9,by omega,by go_num,rfl,Lib.hid (by rw [upto_len]),by rw [upto_succ];exact hl9,Lib.hid hE9,b0.mid hm9 (Or.inl (by omega)),b2.mid hm9 (Or.inl (by omega)),Y3.mid hm9 (Or.inl (by omega)),hm.transNew hm9 (Or.inl (by omega))⟩
   case measure=>simp [intOf];omega
  ·obtain rfl:k=n:=by omega
   go_wp2_with fail;clear p0 p1 p2;have hGo:=Y3.1;go_loopw [5] (fun l wr=>∃ (m s:Nat) (es1:List Ed) (A2:Option Addr) (c2:Nat) (Al:Option Addr) (cl:Nat) (xs:List Int),l=.slice Al s cl∧Hid (trimA m ((s:Int),es1)=T)∧s≤m∧Hid (IsGr r s es1)∧wr.ownsRow (G+1) 3 1 (.slice Al s cl) s (ints xs) ∧
     Hid (wr.ownsRow (w.heap.size+2) 110 3 (.slice A2 es1.length c2) es1.length (ints (edI es1)))∧Hid (Value.ownBlock (.slice A2 es1.length c2)≠some G)∧Box wr (w.heap.size+1) [.int .i64 0,.int .i64 0,.slice none 0 0]∧Box wr G [.int .i64 r,.int .i64 s,.slice A2 es1.length c2]∧Mid 0 0 w wr) (fun _ wr=>sizeAt wr G)
   case atStart=>exact ⟨40,k,es,A1,c1,Al,cl,upto k,rfl,HT,hn40,HG,hleft,HE,Lib.hid hbk0,b2,Y3,hm⟩
   case round =>
    clear hleft HE b0 b2 Y3 hm HN hGo;obtain ⟨wj,hwj⟩:∃ wj,wj=wr:=⟨_,rfl⟩
    subst hwj;obtain ⟨m,s,es1,A2,c2,Al,cl,xs,rfl,HTm,hsm,HGs,hleft,HE,HBK,b2,Y3,hm⟩:=hrel;have hs1:1≤s:=by have:=HGs.out.size;omega
    have hs40:s≤40:=by have:=HGs.out.size;omega
    have hl1:=HGs.out.len;have hlsz:=Lib.hid (sizeAt_box Y3);have y0:=Y3.cell 0 rfl;have y1:=Y3.cell 1 rfl;have y2:=Y3.cell 2 rfl;have hJ:=impl_joined r s 0 A2 es1 c2 wj _ _ (owns_rv HE.out) HGs.out hs1;rw [show ((0:Nat):Int)=0 from rfl] at hJ;have HJ:=Lib.hid hJ;clear hJ;go_wp2_with fail;with_reducible refine (HJ.out).mono ?_
    rintro en w5 ⟨rfl,vis,hvis,hmem,hm5⟩;clear HJ;have hGj:G < wj.heap.size:=Y3.1;have HM:=Lib.hid hmem;obtain ⟨jb,hjb⟩:∃ jb,wj.heap.size+1=jb:=⟨_,rfl⟩
    rw [hjb] at hvis ⊢;have hE5:=owns_mid HE.out hm5 oZl;replace HE:=Lib.hid hE5;replace b2:=b2.mid hm5 oZr;replace Y3:=Y3.mid hm5 oZr;replace hleft:=owns_mid hleft hm5 oZl;replace hm:=hm.trans hm5;clear y0 y1 y2 hmem hjb hm5 hE5;have y0:=Y3.cell 0 rfl;have y1:=Y3.cell 1 rfl;have y2:=Y3.cell 2 rfl;go_wp2_with fail;clear y0 y1 y2;go_loopw [8,9] (fun gv kv wr=>∃ (q g:Nat),1≤q∧q≤s∧kv=.int .i64 q∧gv=.int .i64 g∧Hid ((g=0∧∀ u:Nat,1≤u→u < q→¬ Bad es1 u) ∨ (leaf s es1=some g∧0 < g∧g < s))∧Mid 0 0 w5 wr) (fun _ q _=>s - (intOf q).toNat)
    case atStart=>exact ⟨1,0,Nat.le_refl _,hs1,rfl,rfl,Lib.hid (.inl ⟨rfl,fun u h1 h2=>absurd h2 (by omega)⟩),Mid.refl _ _ _⟩
    case round =>
     obtain ⟨q,g,hq1,hq,rfl,rfl,HQ,hmx⟩:=hrel;replace b2:=b2.mid hmx oZr;replace Y3:=Y3.mid hmx oZr;replace hleft:=owns_mid hleft hmx oZl;replace hvis:=owns_mid hvis hmx oZl;replace hm:=hm.trans hmx;have hE5:=owns_mid HE.out hmx oZl;replace HE:=Lib.hid hE5;clear hE5;have y0:=Y3.cell 0 rfl;have y1:=Y3.cell 1 rfl;have y2:=Y3.cell 2 rfl;by_cases hgo:q < s∧g=0
     ·obtain ⟨hqs,rfl⟩:=hgo
      have hq3:(q:Int) < (s:Int):=by omega
      have hq0:(0:Int)≤(q:Int):=by omega
      have hno:∀ u:Nat,1≤u→u < q→¬ Bad es1 u:=by
       rcases HQ.out with h | h
       ·exact h.2
       ·omega
      have HNO:=Lib.hid hno;have hdl:=deg_le es1 q;clear hno;go_wp2_with fail;with_reducible refine (impl_DegreeOf r s A2 es1 c2 q _ _ _ (owns_rv HE.out).rg (by omega)).mono ?_
      rintro en w7 ⟨rfl,hm7⟩;have hv7:=owns_mid hvis hm7 oZl;have hcv:=(hv7.cellAt q (by omega)).trans (seenOf_get hqs);by_cases hd:deg es1 q < 2
      ·have d1:decide ((deg es1 q:Int) < 2)=true:=by simp;omega
       have HLF:=Lib.hid (leaf_some (s:=(s:Int)) hq1 hq3 (.inl hd) HNO.out);clear hd hcv;go_wp2_with fail;go_roundw
       case rel=>exact ⟨q+1,q,by omega,by omega,by go_num,rfl,Lib.hid (.inr ⟨HLF.out,by omega,hqs⟩),hmx.trans hm7⟩
       case measure=>simp [intOf];omega
      ·have d1:decide ((deg es1 q:Int) < 2)=false:=by simp;omega
       by_cases hv:(q:Int)∈vis
       ·rw [decide_eq_true hv] at hcv
        have HNB:Hid (¬ Bad es1 q):=Lib.hid (by
         rintro (h | h)
         ·exact hd h
         ·exact h ((HM.out _).1 hv))
        clear hd hv;go_wp2_with fail;go_roundw
        case rel =>
         refine ⟨q+1,0,by omega,by omega,by go_num,rfl,Lib.hid (.inl ⟨rfl,fun u h1 h2=>?_⟩),hmx.trans hm7⟩;by_cases h:u=q
         ·subst h;exact HNB.out
         ·exact HNO.out u h1 (by omega)
        case measure=>simp [intOf];omega
       ·rw [decide_eq_false hv] at hcv
        have HLF:=Lib.hid (leaf_some (s:=(s:Int)) hq1 hq3 (.inr fun h=>hv ((HM.out _).2 h)) HNO.out);clear hd hv;go_wp2_with fail;go_roundw
        case rel=>exact ⟨q+1,q,by omega,by omega,by go_num,rfl,Lib.hid (.inr ⟨HLF.out,by omega,hqs⟩),hmx.trans hm7⟩
        case measure=>simp [intOf];omega
     ·clear hvis
      obtain ⟨wk,hwk⟩:∃ wk,wk=wr:=⟨_,rfl⟩
      subst hwk;have hqg:decide ((q:Int) < (s:Int))=true∧((g:Int) == 0)=false ∨ decide ((q:Int) < (s:Int))=false:=by
       by_cases h:q < s
       ·left
        refine ⟨by simp;omega,?_⟩;simp only [beq_eq_false_iff_ne];intro h2;exact hgo ⟨h,by omega⟩
       ·right
        simp;omega
      by_cases hg0:g=0
      ·subst hg0
       have hqs:q=s:=by
        refine Classical.byContradiction fun h=>hgo ⟨by omega,rfl⟩
       subst hqs;have hln:leaf q es1=none:=leaf_none fun u h1 h2=>by
        rcases HQ.out with h | h
        ·exact h.2 u h1 (by omega)
        ·omega
       have hTT:=HTm.out;rw [trimA_none hln] at hTT;have HTT:=Lib.hid hTT;have d0:decide ((q:Int) < (q:Int))=false:=by simp
       have z0:=b2.cell 0 rfl;have z1:=b2.cell 1 rfl;have z2:=b2.cell 2 rfl;have zf:=b2.2.2;have hbs:=b2.1;clear hqg hln hTT hgo;go_wp2_with fail;have hcl:(w.heap.size+1 == G)=false:=by simp;omega
       refine bodyPost_ret (v:=.tuple #[.agg #[.int .i64 r,.int .i64 q,.slice A2 es1.length c2],.slice Al q cl]) (by simp [results,Tryz.results185,go_sem,z0,z1,z2,zf,y0,y1,y2]) rfl ⟨A2,c2,⟨Al,q,cl,by rw [← HTT.out]⟩,?_,?_⟩
       ·rw [← HTT.out]
        have h0:OG wk (w.heap.size+2) wk.heap.size A2 c2 es1:=⟨Nat.le_refl _,HE.out,fun g hg=>(HE.out.lt g hg).2⟩
        refine OG.wide (OG.mid h0 (a:=w.heap.size+1) (b:=w.heap.size+2) ?_ (Or.inl (Nat.le_refl _))) (by omega) (by simp) (Nat.le_refl _);repeat (first | exact Mid.refl _ _ _ | refine Mid.stored ?_ _ (by simp;try omega) (by simp;try omega))
       ·repeat (first | exact hm | refine Mid.storeNew ?_ (by simp;try omega) _)
      ·obtain ⟨hlf,hg1,hgs⟩:leaf s es1=some g∧0 < g∧g < s:=by
        rcases HQ.out with h | h
        ·exact absurd h.1 hg0
        ·exact h
       obtain ⟨m',rfl⟩:∃ m',m=m'+1:=⟨m - 1,by omega⟩
       have hTT:=HTm.out;rw [trimA_some hlf] at hTT;have HTT:=Lib.hid hTT;have HCG:=Lib.hid (cutV_gr (g:=((s:Int),es1)) HGs.out hg1 (by simpa using hgs));have dg:((g:Int) == 0)=false:=by simp only [beq_eq_false_iff_ne];omega
       have HGO:=Lib.hid hgo;clear hTT hlf hgo hqg;rcases Nat.lt_or_ge q s with hqn | hqn
       ·go_wp2_with fail
        have O10:=owns_empty wk 3 1;have hal:=Mid.alloc wk (.cells #[] 3);clear y0 y1 y2;go_loopw [10,11] (fun o kv wr=>∃ (kk:Nat) (Ao:Option Addr) (no co:Nat),kk≤s∧kv=.int .i64 kk∧o=.slice Ao no co∧Hid ((but g kk).length=no)∧wr.ownsRow wk.heap.size 3 1 (.slice Ao no co) no (ints (but g kk))∧Mid 0 0 wk wr) (fun _ kv _=>s - (intOf kv).toNat)
        case atStart=>exact ⟨0,_,0,0,Nat.zero_le _,rfl,rfl,Lib.hid rfl,O10,hal⟩
        case round =>
         clear O10 hal;obtain ⟨kk,Ao,no,co,hkk,rfl,rfl,HNo,hord,hmy⟩:=hrel;have hno:no≤40:=by
          have h1:(but g kk).length≤kk:=by unfold but;rw [List.length_map];exact Nat.le_trans (List.length_filter_le _ _) (by simp)
          have h2:=HNo.out;omega
         have Y4:=Y3.mid hmy oZr;have y0:=Y4.cell 0 rfl;have y1:=Y4.cell 1 rfl;have y2:=Y4.cell 2 rfl;by_cases hlt:kk < s
         ·have hbs:=but_succ g kk
          have hk3:(kk:Int) < (s:Int):=by omega
          by_cases hkg:kk=g
          ·have d3:((kk:Int) != (g:Int))=false:=by simp;omega
           rw [if_pos hkg] at hbs;have HBS:=Lib.hid hbs;clear hbs hkg;go_wp2_with fail;go_roundw
           case rel=>exact ⟨kk+1,Ao,no,co,by omega,by go_num,rfl,by rw [HBS.out];exact HNo,by rw [HBS.out];exact hord,hmy⟩
           case measure=>simp [intOf];omega
          ·have d3:((kk:Int) != (g:Int))=true:=by simp;omega
           rw [if_neg hkg] at hbs;have HBS:=Lib.hid hbs;have HO:=Lib.hid hord;have hsz:=hmy.size;clear hbs hkg hord;go_wp2_with (at_builtin;refine wpList_pushI rfl _ _ rfl wk.heap.size Ao no co (but g kk) rfl HO.out kk rfl (by omega) hsz ?_;intro A9 c9 w9 ho9 hm9)
           go_roundw
           case rel=>exact ⟨kk+1,A9,no+1,c9,by omega,by go_num,rfl,Lib.hid (by rw [HBS.out,List.length_append,HNo.out];rfl),by rw [HBS.out];exact ho9,hmy.transNew hm9 (Or.inl (Nat.le_refl _))⟩
           case measure=>simp [intOf];omega
         ·obtain rfl:kk=s:=by omega
          have hln:(but g kk).length=no:=HNo.out;have HL0:Hid (no=kk - 1):=Lib.hid (by rw [← hln,but_len g hgs]);obtain ⟨es2,hes2⟩:∃ es2,partE (but g kk) es1=es2:=⟨_,rfl⟩
          have hcv:cutV ((kk:Int),es1) g=((no:Int),es2):=by unfold cutV;simp only [Int.toNat_natCast];rw [hln,hes2]
          have hE6:=owns_mid HE.out hmy oZl;have hP:=impl_part r kk A2 es1 c2 Ao (but g kk) co wr _ _ _ _ (owns_rv hE6).rg (owns_rv hord) HGs.out (but_nodup g kk) (fun x hx=>but_range hx);rw [hln,hes2] at hP;have HP:=Lib.hid hP;have hTT2:=HTT.out;rw [hcv] at hTT2;have hgr2:=HCG.out;rw [hcv] at hgr2;have HTT2:=Lib.hid hTT2;have HG2:=Lib.hid hgr2;have hwks:G+1≤wk.heap.size:=Y3.1;clear hP hTT2 hgr2 hcv hes2 hln hord HTT HCG HE hE6;go_wp2_with fail;with_reducible refine HP.out.mono ?_
          rintro en w8 ⟨A3,c3,rfl,hog,hm8⟩;clear HP;replace hog:=hog.wide (lo':=wk.heap.size) hmy.size (Nat.le_refl _) (Nat.le_refl _);have hm28:=hmy.trans hm8;clear Y4 y0 y1 y2;replace b2:=b2.mid hm28 oZr;replace Y3:=Y3.mid hm28 oZr;replace hleft:=owns_mid hleft hm28 oZl;replace hm:=hm.trans hm28;clear hmy hm8 hm28;have y0:=Y3.cell 0 rfl;have y1:=Y3.cell 1 rfl;have y2:=Y3.cell 2 rfl;have yf:=Y3.2.2;go_wp2_with fail;have hst:=(Mid.setAt w8 G 0 (.int .i64 r)).trans ((Mid.setAt (w8.setCell ⟨G,0,none⟩ (.int .i64 r)) G 1 (.int .i64 no)).trans (Mid.setAt ((w8.setCell ⟨G,0,none⟩ (.int .i64 r)).setCell ⟨G,1,none⟩ (.int .i64 no)) G 2 (.slice A3 es2.length c3)));have Y5:=((Y3.set 0 (.int .i64 r) (by simp) rfl).set 1 (.int .i64 no) (by simp) rfl).set 2 (.slice A3 es2.length c3) (by simp) rfl;have hm5:=((hm.storeNew (p:=⟨G,0,none⟩) (by show w.heap.size≤G;omega) (.int .i64 r)).storeNew (p:=⟨G,1,none⟩) (by show w.heap.size≤G;omega) (.int .i64 no)).storeNew (p:=⟨G,2,none⟩) (by show w.heap.size≤G;omega) (.slice A3 es2.length c3);replace b2:=b2.mid hst (Or.inl (by omega));replace hleft:=owns_mid hleft hst (Or.inl (Nat.le_refl _));replace hog:=hog.mid hst (Or.inl hwks);clear Y3 hm y0 y1 y2 yf hst;generalize ((w8.setCell ⟨G,0,none⟩ (.int .i64 r)).setCell ⟨G,1,none⟩ (.int .i64 no)).setCell ⟨G,2,none⟩ (.slice A3 es2.length c3)=ws at Y5 hm5 b2 hleft hog ⊢;have hmd:=Mid.drew1 ws;replace b2:=b2.mid hmd oZr;replace Y5:=Y5.mid hmd oZr;replace hleft:=owns_mid hleft hmd oZl;replace hog:=hog.mid hmd oZl;replace hm5:=hm5.trans hmd;clear hmd;obtain ⟨gl,rfl,hgl1,hgl2⟩:=owns_addr hleft (show 0 < kk by omega);have hsc:kk≤cl:=by
           obtain ⟨A',c',hv0,hsc,hcm⟩:=owns_shape hleft;injection hv0 with _ _ hv0
           omega
          have hcut2:=owns_cut hleft (m:=g) (by omega);have hxl:(ints xs).length=kk * 1:=hleft.1;have hsrc:=(Rs.of_own hleft).drop (k:=g+1) (n:=kk) (cap:=cl) 1 hxl hsc;have hdl:((ints xs).drop ((g+1) * 1)).length=(kk - (g+1)) * 1:=by rw [List.length_drop,hxl];omega
          have hone:∀ u∈(ints xs).drop ((g+1) * 1),u.oneCell'=true:=fun u hu=>one_of_ints xs u (List.mem_of_mem_drop hu);have hml:g+(kk - (g+1))≤maxLen:=by unfold maxLen;omega
          have hby:(g+(kk - (g+1))) * 8≤140737488355328:=by omega
          have hGs:G+1≤ws.drew.heap.size:=Y5.1;have HCU:=Lib.hid hcut2;have HSR:=Lib.hid hsrc;have HDL:=Lib.hid hdl;have HON:=Lib.hid hone;have HXL:=Lib.hid hxl;have hgi:(0:Int)≤(g:Int):=by omega
          have hgi1:(0:Int)≤(g:Int)+1:=by omega
          have hgk:(g:Int) < (kk:Int):=by omega
          have hgk2:(g:Int)+1≤(kk:Int):=by omega
          have hgn:g≤cl:=by omega
          have hgn1:g+1≤kk:=by omega
          have hgn2:g+1≤cl:=by omega
          have hgc:(g:Int)≤(cl:Int):=by omega
          have hgc2:(g:Int)+1≤(cl:Int):=by omega
          have hwrp:IntKind.i64.wrap ((g:Int)+1)=(g:Int)+1:=IntWalk.i64_in _ (by omega);clear hcut2 hsrc hdl hone hxl;by_cases hcg:cl=g+1
          ·rw [if_pos hcg] at HSR
           have hcgF:(cl=g+1)=True:=eq_true hcg;clear hcg;refine wp_region_T (S:=(fun _=>True)) 8 (by kernel_rfl) trivial ?_;generalize World.drew ws=wz at b2 Y5 hleft hog hm5 HCU HSR hGs ⊢;refine tkT 0 rfl trivial ?_;try simp only [Act.put,zs1,zs2,zs3,zs4,zs5,zs6]
           refine tkT 1 rfl trivial ?_;try simp only [Act.put,zs1,zs2,zs3,zs4,zs5,zs6]
           refine tkT 2 rfl trivial ?_;try simp only [Act.put,zs1,zs2,zs3,zs4,zs5,zs6]
           refine tkT 3 rfl trivial ?_;try simp only [Act.put,zs1,zs2,zs3,zs4,zs5,zs6]
           refine tkT 4 rfl trivial ?_;try simp only [Act.put,zs1,zs2,zs3,zs4,zs5,zs6]
           refine tkT 5 rfl trivial ?_;try simp only [Act.put,zs1,zs2,zs3,zs4,zs5,zs6]
           refine tkT 6 rfl trivial ?_;try simp only [Act.put,zs1,zs2,zs3,zs4,zs5,zs6]
           refine rdT 7 rfl (fun K hK=>?_)
           (refine step_cat (by rfl) (.tmp 77) (.tmp 81) 44 (by rfl) (G+1) 3 (.int .i64 0) 1 8 undSI infoI rfl (by decide) (.slice (some ⟨gl,0,none⟩) g cl) g _ (by rfl) HCU.out _ (kk - (g+1)) _ _ ((ints xs).drop ((g+1) * 1)) (by rfl) HSR.out HDL.out HON.out hml hby hGs ?_;intro v9 w9 ho9 hgr9 hat9;obtain ⟨A9,c9,rfl, -, -⟩:=owns_shape ho9)
           refine hK.out _ _ (Or.inr trivial) (fun _=>?_);clear hK K;try simp only [Act.put,zs1,zs2,zs3,zs4,zs5,zs6]
           refine rdT 8 rfl (fun K hK=>?_)
           (go_simp)
           refine hK.out _ _ (Or.inl rfl) (fun _=>?_);clear hK K;try simp only [Act.put,zs1,zs2,zs3,zs4,zs5,zs6]
           refine wpAnyT_done (by kernel_rfl) ?_ _;go_wp2_with fail;go_roundw
           case rel =>
            have hm9:=Mid.of_grownRow HCU.out hgr9;have h0:=hog.ov.2.1.kept hgr9 (owns_ne hog.ov.2.1 HCU.out (by decide));have hnl2:g+(kk - (g+1))=no:=by have:=HL0.out;omega
            have hb9:Value.ownBlock (.slice A3 es2.length c3)≠some G:=fun h=>by have:=(hog.ov.2.1.lt _ h).1;omega
            have hxe:(ints xs).take (g * 1)++(ints xs).drop ((g+1) * 1)=ints (xs.take g++xs.drop (g+1)):=by simp [ints]
            rw [hxe,hnl2] at ho9;exact ⟨m',no,es2,A3,c3,A9,c9,xs.take g++xs.drop (g+1),by rw [hnl2],HTT2,by have:=HL0.out;omega,HG2,ho9,Lib.hid (owns_base h0 (by omega)),Lib.hid hb9,b2.mid hm9 (Or.inl (by omega)),Y5.mid hm9 (Or.inl (by omega)),hm5.transNew hm9 (Or.inl (by omega))⟩
           case measure =>
            have h1:=sizeAt_box (Y5.mid (Mid.of_grownRow HCU.out hgr9) (Or.inl (by omega)));have h2:=hlsz.out;have h3:=HL0.out;simp only [h1,h2];omega
          ·rw [if_neg hcg] at HSR
           have hcgF:(cl=g+1)=False:=eq_false hcg;clear hcg;replace HSR:Hid (Rs ws.drew ws.drew.heap.size (some ⟨gl,g+1,none⟩) ((ints xs).drop ((g+1) * 1))):=Lib.hid (by
            have h:=HSR.out;rw [show Option.map (fun x=>x.add ((g+1) * 1)) (some (⟨gl,0,none⟩:Addr))=some ⟨gl,g+1,none⟩ by simp [Addr.add]] at h;exact h)
           refine wp_region_T (S:=(fun _=>True)) 8 (by kernel_rfl) trivial ?_;generalize World.drew ws=wz at b2 Y5 hleft hog hm5 HCU HSR hGs ⊢;refine tkT 0 rfl trivial ?_;try simp only [Act.put,zs1,zs2,zs3,zs4,zs5,zs6]
           refine tkT 1 rfl trivial ?_;try simp only [Act.put,zs1,zs2,zs3,zs4,zs5,zs6]
           refine tkT 2 rfl trivial ?_;try simp only [Act.put,zs1,zs2,zs3,zs4,zs5,zs6]
           refine tkT 3 rfl trivial ?_;try simp only [Act.put,zs1,zs2,zs3,zs4,zs5,zs6]
           refine tkT 4 rfl trivial ?_;try simp only [Act.put,zs1,zs2,zs3,zs4,zs5,zs6]
           refine tkT 5 rfl trivial ?_;try simp only [Act.put,zs1,zs2,zs3,zs4,zs5,zs6]
           refine tkT 6 rfl trivial ?_;try simp only [Act.put,zs1,zs2,zs3,zs4,zs5,zs6]
           refine rdT 7 rfl (fun K hK=>?_)
           (refine step_cat (by rfl) (.tmp 77) (.tmp 81) 44 (by rfl) (G+1) 3 (.int .i64 0) 1 8 undSI infoI rfl (by decide) (.slice (some ⟨gl,0,none⟩) g cl) g _ (by rfl) HCU.out _ (kk - (g+1)) _ _ ((ints xs).drop ((g+1) * 1)) (by rfl) HSR.out HDL.out HON.out hml hby hGs ?_;intro v9 w9 ho9 hgr9 hat9;obtain ⟨A9,c9,rfl, -, -⟩:=owns_shape ho9)
           refine hK.out _ _ (Or.inr trivial) (fun _=>?_);clear hK K;try simp only [Act.put,zs1,zs2,zs3,zs4,zs5,zs6]
           refine rdT 8 rfl (fun K hK=>?_)
           (go_simp)
           refine hK.out _ _ (Or.inl rfl) (fun _=>?_);clear hK K;try simp only [Act.put,zs1,zs2,zs3,zs4,zs5,zs6]
           refine wpAnyT_done (by kernel_rfl) ?_ _;go_wp2_with fail;go_roundw
           case rel =>
            have hm9:=Mid.of_grownRow HCU.out hgr9;have h0:=hog.ov.2.1.kept hgr9 (owns_ne hog.ov.2.1 HCU.out (by decide));have hnl2:g+(kk - (g+1))=no:=by have:=HL0.out;omega
            have hb9:Value.ownBlock (.slice A3 es2.length c3)≠some G:=fun h=>by have:=(hog.ov.2.1.lt _ h).1;omega
            have hxe:(ints xs).take (g * 1)++(ints xs).drop ((g+1) * 1)=ints (xs.take g++xs.drop (g+1)):=by simp [ints]
            rw [hxe,hnl2] at ho9;exact ⟨m',no,es2,A3,c3,A9,c9,xs.take g++xs.drop (g+1),by rw [hnl2],HTT2,by have:=HL0.out;omega,HG2,ho9,Lib.hid (owns_base h0 (by omega)),Lib.hid hb9,b2.mid hm9 (Or.inl (by omega)),Y5.mid hm9 (Or.inl (by omega)),hm5.transNew hm9 (Or.inl (by omega))⟩
           case measure =>
            have h1:=sizeAt_box (Y5.mid (Mid.of_grownRow HCU.out hgr9) (Or.inl (by omega)));have h2:=hlsz.out;have h3:=HL0.out;simp only [h1,h2];omega
       ·obtain rfl:q=s:=by omega
        go_wp2_with fail;have O10:=owns_empty wk 3 1;have hal:=Mid.alloc wk (.cells #[] 3);clear y0 y1 y2;go_loopw [10,11] (fun o kv wr=>∃ (kk:Nat) (Ao:Option Addr) (no co:Nat),kk≤q∧kv=.int .i64 kk∧o=.slice Ao no co∧Hid ((but g kk).length=no)∧wr.ownsRow wk.heap.size 3 1 (.slice Ao no co) no (ints (but g kk))∧Mid 0 0 wk wr) (fun _ kv _=>q - (intOf kv).toNat)
        case atStart=>exact ⟨0,_,0,0,Nat.zero_le _,rfl,rfl,Lib.hid rfl,O10,hal⟩
        case round =>
         clear O10 hal;obtain ⟨kk,Ao,no,co,hkk,rfl,rfl,HNo,hord,hmy⟩:=hrel;have hno:no≤40:=by
          have h1:(but g kk).length≤kk:=by unfold but;rw [List.length_map];exact Nat.le_trans (List.length_filter_le _ _) (by simp)
          have h2:=HNo.out;omega
         have Y4:=Y3.mid hmy oZr;have y0:=Y4.cell 0 rfl;have y1:=Y4.cell 1 rfl;have y2:=Y4.cell 2 rfl;by_cases hlt:kk < q
         ·have hbs:=but_succ g kk
          have hk3:(kk:Int) < (q:Int):=by omega
          by_cases hkg:kk=g
          ·have d3:((kk:Int) != (g:Int))=false:=by simp;omega
           rw [if_pos hkg] at hbs;have HBS:=Lib.hid hbs;clear hbs hkg;go_wp2_with fail;go_roundw
           case rel=>exact ⟨kk+1,Ao,no,co,by omega,by go_num,rfl,by rw [HBS.out];exact HNo,by rw [HBS.out];exact hord,hmy⟩
           case measure=>simp [intOf];omega
          ·have d3:((kk:Int) != (g:Int))=true:=by simp;omega
           rw [if_neg hkg] at hbs;have HBS:=Lib.hid hbs;have HO:=Lib.hid hord;have hsz:=hmy.size;clear hbs hkg hord;go_wp2_with (at_builtin;refine wpList_pushI rfl _ _ rfl wk.heap.size Ao no co (but g kk) rfl HO.out kk rfl (by omega) hsz ?_;intro A9 c9 w9 ho9 hm9)
           go_roundw
           case rel=>exact ⟨kk+1,A9,no+1,c9,by omega,by go_num,rfl,Lib.hid (by rw [HBS.out,List.length_append,HNo.out];rfl),by rw [HBS.out];exact ho9,hmy.transNew hm9 (Or.inl (Nat.le_refl _))⟩
           case measure=>simp [intOf];omega
         ·obtain rfl:kk=q:=by omega
          have hln:(but g kk).length=no:=HNo.out;have HL0:Hid (no=kk - 1):=Lib.hid (by rw [← hln,but_len g hgs]);obtain ⟨es2,hes2⟩:∃ es2,partE (but g kk) es1=es2:=⟨_,rfl⟩
          have hcv:cutV ((kk:Int),es1) g=((no:Int),es2):=by unfold cutV;simp only [Int.toNat_natCast];rw [hln,hes2]
          have hE6:=owns_mid HE.out hmy oZl;have hP:=impl_part r kk A2 es1 c2 Ao (but g kk) co wr _ _ _ _ (owns_rv hE6).rg (owns_rv hord) HGs.out (but_nodup g kk) (fun x hx=>but_range hx);rw [hln,hes2] at hP;have HP:=Lib.hid hP;have hTT2:=HTT.out;rw [hcv] at hTT2;have hgr2:=HCG.out;rw [hcv] at hgr2;have HTT2:=Lib.hid hTT2;have HG2:=Lib.hid hgr2;have hwks:G+1≤wk.heap.size:=Y3.1;clear hP hTT2 hgr2 hcv hes2 hln hord HTT HCG HE hE6;go_wp2_with fail;with_reducible refine HP.out.mono ?_
          rintro en w8 ⟨A3,c3,rfl,hog,hm8⟩;clear HP;replace hog:=hog.wide (lo':=wk.heap.size) hmy.size (Nat.le_refl _) (Nat.le_refl _);have hm28:=hmy.trans hm8;clear Y4 y0 y1 y2;replace b2:=b2.mid hm28 oZr;replace Y3:=Y3.mid hm28 oZr;replace hleft:=owns_mid hleft hm28 oZl;replace hm:=hm.trans hm28;clear hmy hm8 hm28;have y0:=Y3.cell 0 rfl;have y1:=Y3.cell 1 rfl;have y2:=Y3.cell 2 rfl;have yf:=Y3.2.2;go_wp2_with fail;have hst:=(Mid.setAt w8 G 0 (.int .i64 r)).trans ((Mid.setAt (w8.setCell ⟨G,0,none⟩ (.int .i64 r)) G 1 (.int .i64 no)).trans (Mid.setAt ((w8.setCell ⟨G,0,none⟩ (.int .i64 r)).setCell ⟨G,1,none⟩ (.int .i64 no)) G 2 (.slice A3 es2.length c3)));have Y5:=((Y3.set 0 (.int .i64 r) (by simp) rfl).set 1 (.int .i64 no) (by simp) rfl).set 2 (.slice A3 es2.length c3) (by simp) rfl;have hm5:=((hm.storeNew (p:=⟨G,0,none⟩) (by show w.heap.size≤G;omega) (.int .i64 r)).storeNew (p:=⟨G,1,none⟩) (by show w.heap.size≤G;omega) (.int .i64 no)).storeNew (p:=⟨G,2,none⟩) (by show w.heap.size≤G;omega) (.slice A3 es2.length c3);replace b2:=b2.mid hst (Or.inl (by omega));replace hleft:=owns_mid hleft hst (Or.inl (Nat.le_refl _));replace hog:=hog.mid hst (Or.inl hwks);clear Y3 hm y0 y1 y2 yf hst;generalize ((w8.setCell ⟨G,0,none⟩ (.int .i64 r)).setCell ⟨G,1,none⟩ (.int .i64 no)).setCell ⟨G,2,none⟩ (.slice A3 es2.length c3)=ws at Y5 hm5 b2 hleft hog ⊢;have hmd:=Mid.drew1 ws;replace b2:=b2.mid hmd oZr;replace Y5:=Y5.mid hmd oZr;replace hleft:=owns_mid hleft hmd oZl;replace hog:=hog.mid hmd oZl;replace hm5:=hm5.trans hmd;clear hmd;obtain ⟨gl,rfl,hgl1,hgl2⟩:=owns_addr hleft (show 0 < kk by omega);have hsc:kk≤cl:=by
           obtain ⟨A',c',hv0,hsc,hcm⟩:=owns_shape hleft;injection hv0 with _ _ hv0
           omega
          have hcut2:=owns_cut hleft (m:=g) (by omega);have hxl:(ints xs).length=kk * 1:=hleft.1;have hsrc:=(Rs.of_own hleft).drop (k:=g+1) (n:=kk) (cap:=cl) 1 hxl hsc;have hdl:((ints xs).drop ((g+1) * 1)).length=(kk - (g+1)) * 1:=by rw [List.length_drop,hxl];omega
          have hone:∀ u∈(ints xs).drop ((g+1) * 1),u.oneCell'=true:=fun u hu=>one_of_ints xs u (List.mem_of_mem_drop hu);have hml:g+(kk - (g+1))≤maxLen:=by unfold maxLen;omega
          have hby:(g+(kk - (g+1))) * 8≤140737488355328:=by omega
          have hGs:G+1≤ws.drew.heap.size:=Y5.1;have HCU:=Lib.hid hcut2;have HSR:=Lib.hid hsrc;have HDL:=Lib.hid hdl;have HON:=Lib.hid hone;have HXL:=Lib.hid hxl;have hgi:(0:Int)≤(g:Int):=by omega
          have hgi1:(0:Int)≤(g:Int)+1:=by omega
          have hgk:(g:Int) < (kk:Int):=by omega
          have hgk2:(g:Int)+1≤(kk:Int):=by omega
          have hgn:g≤cl:=by omega
          have hgn1:g+1≤kk:=by omega
          have hgn2:g+1≤cl:=by omega
          have hgc:(g:Int)≤(cl:Int):=by omega
          have hgc2:(g:Int)+1≤(cl:Int):=by omega
          have hwrp:IntKind.i64.wrap ((g:Int)+1)=(g:Int)+1:=IntWalk.i64_in _ (by omega);clear hcut2 hsrc hdl hone hxl;by_cases hcg:cl=g+1
          ·rw [if_pos hcg] at HSR
           have hcgF:(cl=g+1)=True:=eq_true hcg;clear hcg;refine wp_region_T (S:=(fun _=>True)) 8 (by kernel_rfl) trivial ?_;generalize World.drew ws=wz at b2 Y5 hleft hog hm5 HCU HSR hGs ⊢;refine tkT 0 rfl trivial ?_;try simp only [Act.put,zs1,zs2,zs3,zs4,zs5,zs6]
           refine tkT 1 rfl trivial ?_;try simp only [Act.put,zs1,zs2,zs3,zs4,zs5,zs6]
           refine tkT 2 rfl trivial ?_;try simp only [Act.put,zs1,zs2,zs3,zs4,zs5,zs6]
           refine tkT 3 rfl trivial ?_;try simp only [Act.put,zs1,zs2,zs3,zs4,zs5,zs6]
           refine tkT 4 rfl trivial ?_;try simp only [Act.put,zs1,zs2,zs3,zs4,zs5,zs6]
           refine tkT 5 rfl trivial ?_;try simp only [Act.put,zs1,zs2,zs3,zs4,zs5,zs6]
           refine tkT 6 rfl trivial ?_;try simp only [Act.put,zs1,zs2,zs3,zs4,zs5,zs6]
           refine rdT 7 rfl (fun K hK=>?_)
           (refine step_cat (by rfl) (.tmp 77) (.tmp 81) 44 (by rfl) (G+1) 3 (.int .i64 0) 1 8 undSI infoI rfl (by decide) (.slice (some ⟨gl,0,none⟩) g cl) g _ (by rfl) HCU.out _ (kk - (g+1)) _ _ ((ints xs).drop ((g+1) * 1)) (by rfl) HSR.out HDL.out HON.out hml hby hGs ?_;intro v9 w9 ho9 hgr9 hat9;obtain ⟨A9,c9,rfl, -, -⟩:=owns_shape ho9)
           refine hK.out _ _ (Or.inr trivial) (fun _=>?_);clear hK K;try simp only [Act.put,zs1,zs2,zs3,zs4,zs5,zs6]
           refine rdT 8 rfl (fun K hK=>?_)
           (go_simp)
           refine hK.out _ _ (Or.inl rfl) (fun _=>?_);clear hK K;try simp only [Act.put,zs1,zs2,zs3,zs4,zs5,zs6]
           refine wpAnyT_done (by kernel_rfl) ?_ _;go_wp2_with fail;go_roundw
           case rel =>
            have hm9:=Mid.of_grownRow HCU.out hgr9;have h0:=hog.ov.2.1.kept hgr9 (owns_ne hog.ov.2.1 HCU.out (by decide));have hnl2:g+(kk - (g+1))=no:=by have:=HL0.out;omega
            have hb9:Value.ownBlock (.slice A3 es2.length c3)≠some G:=fun h=>by have:=(hog.ov.2.1.lt _ h).1;omega
            have hxe:(ints xs).take (g * 1)++(ints xs).drop ((g+1) * 1)=ints (xs.take g++xs.drop (g+1)):=by simp [ints]
            rw [hxe,hnl2] at ho9;exact ⟨m',no,es2,A3,c3,A9,c9,xs.take g++xs.drop (g+1),by rw [hnl2],HTT2,by have:=HL0.out;omega,HG2,ho9,Lib.hid (owns_base h0 (by omega)),Lib.hid hb9,b2.mid hm9 (Or.inl (by omega)),Y5.mid hm9 (Or.inl (by omega)),hm5.transNew hm9 (Or.inl (by omega))⟩
           case measure =>
            have h1:=sizeAt_box (Y5.mid (Mid.of_grownRow HCU.out hgr9) (Or.inl (by omega)));have h2:=hlsz.out;have h3:=HL0.out;simp only [h1,h2];omega
          ·rw [if_neg hcg] at HSR
           have hcgF:(cl=g+1)=False:=eq_false hcg;clear hcg;replace HSR:Hid (Rs ws.drew ws.drew.heap.size (some ⟨gl,g+1,none⟩) ((ints xs).drop ((g+1) * 1))):=Lib.hid (by
            have h:=HSR.out;rw [show Option.map (fun x=>x.add ((g+1) * 1)) (some (⟨gl,0,none⟩:Addr))=some ⟨gl,g+1,none⟩ by simp [Addr.add]] at h;exact h)
           refine wp_region_T (S:=(fun _=>True)) 8 (by kernel_rfl) trivial ?_;generalize World.drew ws=wz at b2 Y5 hleft hog hm5 HCU HSR hGs ⊢;refine tkT 0 rfl trivial ?_;try simp only [Act.put,zs1,zs2,zs3,zs4,zs5,zs6]
           refine tkT 1 rfl trivial ?_;try simp only [Act.put,zs1,zs2,zs3,zs4,zs5,zs6]
           refine tkT 2 rfl trivial ?_;try simp only [Act.put,zs1,zs2,zs3,zs4,zs5,zs6]
           refine tkT 3 rfl trivial ?_;try simp only [Act.put,zs1,zs2,zs3,zs4,zs5,zs6]
           refine tkT 4 rfl trivial ?_;try simp only [Act.put,zs1,zs2,zs3,zs4,zs5,zs6]
           refine tkT 5 rfl trivial ?_;try simp only [Act.put,zs1,zs2,zs3,zs4,zs5,zs6]
           refine tkT 6 rfl trivial ?_;try simp only [Act.put,zs1,zs2,zs3,zs4,zs5,zs6]
           refine rdT 7 rfl (fun K hK=>?_)
           (refine step_cat (by rfl) (.tmp 77) (.tmp 81) 44 (by rfl) (G+1) 3 (.int .i64 0) 1 8 undSI infoI rfl (by decide) (.slice (some ⟨gl,0,none⟩) g cl) g _ (by rfl) HCU.out _ (kk - (g+1)) _ _ ((ints xs).drop ((g+1) * 1)) (by rfl) HSR.out HDL.out HON.out hml hby hGs ?_;intro v9 w9 ho9 hgr9 hat9;obtain ⟨A9,c9,rfl, -, -⟩:=owns_shape ho9)
           refine hK.out _ _ (Or.inr trivial) (fun _=>?_);clear hK K;try simp only [Act.put,zs1,zs2,zs3,zs4,zs5,zs6]
           refine rdT 8 rfl (fun K hK=>?_)
           (go_simp)
           refine hK.out _ _ (Or.inl rfl) (fun _=>?_);clear hK K;try simp only [Act.put,zs1,zs2,zs3,zs4,zs5,zs6]
           refine wpAnyT_done (by kernel_rfl) ?_ _;go_wp2_with fail;go_roundw
           case rel =>
            have hm9:=Mid.of_grownRow HCU.out hgr9;have h0:=hog.ov.2.1.kept hgr9 (owns_ne hog.ov.2.1 HCU.out (by decide));have hnl2:g+(kk - (g+1))=no:=by have:=HL0.out;omega
            have hb9:Value.ownBlock (.slice A3 es2.length c3)≠some G:=fun h=>by have:=(hog.ov.2.1.lt _ h).1;omega
            have hxe:(ints xs).take (g * 1)++(ints xs).drop ((g+1) * 1)=ints (xs.take g++xs.drop (g+1)):=by simp [ints]
            rw [hxe,hnl2] at ho9;exact ⟨m',no,es2,A3,c3,A9,c9,xs.take g++xs.drop (g+1),by rw [hnl2],HTT2,by have:=HL0.out;omega,HG2,ho9,Lib.hid (owns_base h0 (by omega)),Lib.hid hb9,b2.mid hm9 (Or.inl (by omega)),Y5.mid hm9 (Or.inl (by omega)),hm5.transNew hm9 (Or.inl (by omega))⟩
           case measure =>
            have h1:=sizeAt_box (Y5.mid (Mid.of_grownRow HCU.out hgr9) (Or.inl (by omega)));have h2:=hlsz.out;have h3:=HL0.out;simp only [h1,h2];omega
end
end Go.Proofs.YtkimajabegojoaaGreat
