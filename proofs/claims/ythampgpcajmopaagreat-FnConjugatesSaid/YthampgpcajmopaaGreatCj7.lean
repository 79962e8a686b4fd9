/- Contracts and lemmas of this seat, many texts in one: see the words ahead of each. No condition beyond those typed in each lemma. -/
import Derived.Test.YthampgpcajmopaaGreatCj6
import Derived.Test.YthampgpcajmopaaGreatCj2
import Derived.Test.YthampgpcajmopaaGreatCj1
import Derived.Test.YthampgpcajmopaaGreatCj4

namespace Go.Proofs.YthampgpcajmopaaGreat
set_option linter.unusedVariables false
set_option linter.unusedSimpArgs false
set_option maxHeartbeats 40000000
set_option maxRecDepth 100000
section
open Go.RowKit
theorem rdA_is {es:List Ed}:∀ {w:List Int} {v u:Int} {k:Nat},goV es v (w.take k)=some u→k≤w.length→(k=w.length ∨ ∃ x,w[k]?=some x∧nextV es u x < 0)→rdA es v w=(u,k)
 | [],v,u,k,h,hk,h2=>by
  obtain rfl:k=0:=by simpa using hk
  rw [List.take_nil,goV] at h;injection h with h
  subst h
  rfl
 | x :: t,v,u,0,h,hk,h2=>by
  rw [List.take_zero,goV] at h;injection h with h
  subst h;rcases h2 with h2 | ⟨y,hy,hn⟩
  ·simp at h2
  ·simp at hy
   subst hy;rw [rdA,if_pos hn]
 | x :: t,v,u,k+1,h,hk,h2=>by
  rw [List.take_succ_cons,goV] at h;split at h
  ·cases h
  ·rename_i hn
   have ih:=rdA_is (w:=t) h (by simpa using hk) (by
    rcases h2 with h2 | ⟨y,hy,hy2⟩
    ·exact .inl (by simpa using h2)
    ·exact .inr ⟨y,by simpa using hy,hy2⟩)
   rw [rdA,if_neg hn,ih]
theorem goV_rdA {es:List Ed}:∀ (w:List Int) (v:Int),goV es v (w.take (rdA es v w).2)=some (rdA es v w).1
 | [],v=>rfl
 | x :: t,v=>by
  by_cases hn:nextV es v x < 0
  ·rw [rdA,if_pos hn]
   rfl
  ·rw [rdA,if_neg hn]
   simp only [List.take_succ_cons,goV,if_neg hn];exact goV_rdA t _
theorem RV.dropI {w:World} {lo hi b off:Nat} {xs:List Int} (h:RV w lo hi (some ⟨b,off,none⟩) (ints xs)) (k:Nat):RV w lo hi (some ⟨b,off+k,none⟩) (ints (xs.drop k)):=by
 refine ⟨h.1,fun hn=>?_⟩;obtain ⟨b',off',hA,h1,h2,h3⟩:=h.2 (by intro h0;apply hn;simp [ints] at h0 ⊢;rw [h0];simp);injection hA with hA
 injection hA with e1 e2
 subst e1 e2;refine ⟨b,off+k,rfl,h1,h2,fun j u hu=>?_⟩;have:=h3 (k+j) u (by
  simp only [ints,List.getElem?_map,List.getElem?_drop] at hu ⊢;exact hu)
 rw [Nat.add_assoc];exact this
theorem spec_ReadLength (r n v:Nat) (A:Option Addr) (es:List Ed) (c:Nat) (Aw:Option Addr) (wd:List Int) (cw:Nat) (w:World) (lo hi lo' hi':Nat) (hr:RG w lo hi A es) (hw:RV w lo' hi' Aw (ints wd)) (hf:IsFol r n es) (hv:v < n) (hwl:wd.length≤1048576) (hok:OkI wd) :
  Calls Tryz.prog 114 #[graV r n A es.length c,.int .i64 v,.slice Aw wd.length cw] w fun e w'=>e=.returned (.int .i64 ((rdA es v wd).2:Nat))∧Mid 0 0 w w':=by
 have hg:=hf.gr;have hl:=hg.len;have hn40:n≤40:=by have:=hg.size;omega
 have HGL:=Lib.hid (show ∀ e∈es,1≤e.l∧e.l≤3 from fun e he=>by have:=hg.all e he;have:=hg.rank;unfold InG at *;omega);have HF:=Lib.hid hf;have HOK:=Lib.hid hok;have hm0:Mid 0 0 w (w.alloc (.cells #[.int .i64 r,.int .i64 n,.slice A es.length c] 26)):=Mid.alloc _ _;have b0:=Box.new w #[.int .i64 r,.int .i64 n,.slice A es.length c] 26;have hib:inB (v:Int) 0 ((n:Int) - 1)=true:=by unfold inB;simp;omega
 have hw1:IntKind.i64.wrap ((n:Int) - 1)=(n:Int) - 1:=IntWalk.i64_in _ (by omega);obtain ⟨kk,hkk⟩:∃ kk,(rdA es (v:Int) wd).2=kk:=⟨_,rfl⟩
 have HKK:=Lib.hid hkk;rw [hkk];clear hg hok hf hkk;go_enter Tryz.func114,Tryz.ntmps114
 go_wp2_with fail;with_reducible refine (spec_IsFolded r n A es c _ _ _ (hr.mid hm0 oZl) (by omega) true (iff_of_true rfl HF.out)).mono ?_
 rintro en w1 ⟨rfl,hm1⟩;replace b0:=b0.mid hm1 oZr;replace hm0:=hm0.trans hm1;have p0:=b0.cell 0 rfl;have p1:=b0.cell 1 rfl;have p2:=b0.cell 2 rfl;go_wp2_with fail;with_reducible refine (l1In_at hib _).mono ?_
 rintro en w2 ⟨rfl,rfl⟩;go_wp2_with fail;clear p0 p1 p2 hm1;go_loopw [1,7] (fun vv iv wr=>∃ (k:Nat) (u:Int),k≤wd.length∧iv=.int .i64 k∧vv=.int .i64 u∧Hid (goV es v (wd.take k)=some u)∧Box wr w.heap.size [.int .i64 r,.int .i64 n,.slice A es.length c]∧Mid 0 0 w wr) (fun _ i _=>wd.length - (intOf i).toNat)
 case atStart=>exact ⟨0,v,Nat.zero_le _,rfl,rfl,Lib.hid rfl,b0,hm0⟩
 case round =>
  clear b0 hm0;obtain ⟨k,u,hk,rfl,rfl,HV,b0,hm⟩:=hrel;by_cases hlt:k < wd.length
  ·obtain ⟨B,off,x,rfl,hbh,hx,hcx⟩:=(hw.mid hm oZl).at hlt
   have hxr:=HOK.out x (List.mem_of_getElem? hx);have hk1:(k:Int) < (wd.length:Int):=by omega
   have hk0:(0:Int)≤(k:Int):=by omega
   have HX:=Lib.hid hx;have hBs:B < wr.heap.size:=by have:=hw.1;have:=hm.size;omega
   have k0:=wg_cell b0.1 (b0.cell 0 rfl);have k1:=wg_cell b0.1 (b0.cell 1 rfl);have k2:=wg_cell b0.1 (b0.cell 2 rfl);have k4:=wg_cell hBs hcx;have hA:=fun m os=>spec_NextVertex r n A es c u x (wg wr m os) lo hi (hr.mid (hm.trans (Mid.ofWg wr m os)) oZl) (by omega) HGL.out (by omega) (by omega);clear hx hcx;go_wp2_with fail;refine wp_region_quiet_wg (by kernel_rfl) (by kernel_rfl) ?_;repeat
    (with_reducible refine wpQuiet_step (fun K hK=>?_))
    go_simp
    first
     | ((with_reducible refine hK _ ?_);clear hK K)
     | (rw [if_neg (by decide)];(with_reducible refine hK _ ?_);clear hK K)
     | (apply Exists.intro;refine ⟨fun _=>?_,hK _ ?_⟩;((go_at_call 138;exact Calls.wg_of (hA _ _)));clear hK K)
   with_reducible refine wpQuiet_nil ?_
   intro _ hw';obtain ⟨⟨nq,osq⟩,hw''⟩:=hw';subst hw'';have hwg:=Mid.ofWg wr nq osq;generalize wg wr nq osq=w6 at hwg ⊢;replace b0:=b0.mid hwg oZr;replace hm:=hm.trans hwg;generalize htx:nextV es u x=t;clear k0 k1 k2 k4 hA;by_cases ht:t < 0
   ·have d1:decide (t < 0)=true:=by simpa using ht
    have hfin:=rdA_is HV.out hk (.inr ⟨x,HX.out,by rw [htx];exact ht⟩);have HK:Hid (kk=k):=Lib.hid (by rw [← HKK.out,hfin]);clear ht htx hfin;go_wp2_with fail;go_ret;exact ⟨by rw [HK.out];rfl,hm⟩
   ·have d1:decide (t < 0)=false:=by simpa using ht
    have HN:=Lib.hid (goV_next HV.out HX.out (by rw [htx];exact ht));rw [htx] at HN;clear ht htx;go_wp2_with fail;go_roundw
    case rel=>exact ⟨k+1,t,by omega,by go_num,rfl,HN,b0,hm⟩
    case measure=>simp [intOf];omega
  ·obtain rfl:k=wd.length:=by omega
   have hfin:=rdA_is HV.out hk (.inl rfl);have HK:Hid (kk=wd.length):=Lib.hid (by rw [← HKK.out,hfin]);clear hfin;go_wp2_with fail;go_ret;exact ⟨by rw [HK.out];rfl,hm⟩
end
section
open Go.RowKit
theorem RG_nil {w:World}:RG w 0 w.heap.size none []:=⟨Nat.le_refl _,fun h=>absurd rfl h⟩
theorem ExtIs.full {r s:Int} {es:List Ed} {w:List Int} {b:Bool} {s2:Int} {es2:List Ed} {x:Int} (h:ExtIs r s es w b s2 es2 x) (hk:(rdA es 0 w).2=w.length):b=true∧s2=s∧es2=es∧x=(rdA es 0 w).1:=by
 rcases h with ⟨h1, -,h2⟩ | ⟨-,h1, -⟩ | ⟨-,h1, -⟩
 ·exact ⟨h1,h2⟩
 ·omega
 ·omega
theorem ExtIs.more {r s:Int} {es:List Ed} {w:List Int} {b:Bool} {s2:Int} {es2:List Ed} {x:Int} (h:ExtIs r s es w b s2 es2 x) (hk:(rdA es 0 w).2 < w.length) (hp:s < 40∧PathOk r (s+1) es (rdA es 0 w).1 (w.drop (rdA es 0 w).2) s) :
  b=true∧s2=s+1+((w.drop (rdA es 0 w).2).length:Int) - 1∧es2=canon (es++pathE (rdA es 0 w).1 (s+1) (w.drop (rdA es 0 w).2) s (w.drop (rdA es 0 w).2).length)∧x=s:=by
 rcases h with ⟨-,h1, -⟩ | ⟨h1, -, -, -,h2⟩ | ⟨-, -,h1, -⟩
 ·omega
 ·exact ⟨h1,h2⟩
 ·exact absurd hp h1
theorem ExtIs.not {r s:Int} {es:List Ed} {w:List Int} {b:Bool} {s2:Int} {es2:List Ed} {x:Int} (h:ExtIs r s es w b s2 es2 x) (hk:(rdA es 0 w).2 < w.length) (hp:¬ (s < 40∧PathOk r (s+1) es (rdA es 0 w).1 (w.drop (rdA es 0 w).2) s)) :
  b=false∧s2=0∧es2=[]∧x=0:=by
 rcases h with ⟨-,h1, -⟩ | ⟨-, -,h1,h2, -⟩ | ⟨h1, -, -,h2⟩
 ·omega
 ·exact absurd ⟨h1,h2⟩ hp
 ·exact ⟨h1,h2⟩
theorem impl_extend (r n:Nat) (A:Option Addr) (es:List Ed) (c:Nat) (Aw:Option Addr) (wd:List Int) (cw:Nat) (w:World) (lo hi lo' hi':Nat) (hr:RG w lo hi A es) (hw:RV w lo' hi' Aw (ints wd)) (hcl:es.length≤c) (hcw:wd.length≤cw) (hg:IsGr r n es) (hwl:wd.length≤1048576) (hok:OkI wd)
  (b:Bool) (s2:Int) (es2:List Ed) (x:Int) (hres:ExtIs r n es wd b s2 es2 x) :
  Calls Tryz.prog 113 #[graV r n A es.length c,.slice Aw wd.length cw] w fun e w'=>∃ (A1:Option Addr) (c1:Nat) (rr:Int),e=.returned (.tuple #[graV rr s2 A1 es2.length c1,.int .i64 x,.bool b])∧rr=(if b=true then (r:Int) else 0)∧RG w' 0 w'.heap.size A1 es2∧es2.length≤c1∧Mid 0 0 w w':=by
 have hm0:Mid 0 0 w ((w.alloc (.cells #[.int .i64 r,.int .i64 n,.slice A es.length c] 26)).alloc (.cells #[.int .i64 0,.int .i64 0,.slice none 0 0] 26)):=(Mid.alloc _ _).trans (Mid.alloc _ _);have b0:=(Box.new w #[.int .i64 r,.int .i64 n,.slice A es.length c] 26).mid (Mid.alloc _ (.cells #[.int .i64 0,.int .i64 0,.slice none 0 0] 26)) oZr;have b2:=Box.new (w.alloc (.cells #[.int .i64 r,.int .i64 n,.slice A es.length c] 26)) #[.int .i64 0,.int .i64 0,.slice none 0 0] 26;simp only [World.size_alloc] at b2;have hl:=hg.len;have hn40:1≤n∧n≤40:=by have:=hg.size;omega
 have HG:=Lib.hid hg;have HOK:=Lib.hid hok;have HR:=Lib.hid hres;clear hg hok hres;go_enter Tryz.func113,Tryz.ntmps113
 go_wp2_with fail;generalize ((w.alloc (.cells #[.int .i64 r,.int .i64 n,.slice A es.length c] 26)).alloc (.cells #[.int .i64 0,.int .i64 0,.slice none 0 0] 26))=w1 at hm0 b0 b2 ⊢;have hs1:w.heap.size+1 < w1.heap.size:=b2.1;with_reducible refine (impl_read r n A es c 0 Aw wd cw w1 _ _ _ _ (hr.mid hm0 oZl) (hw.mid hm0 oZl) HG.out hwl HOK.out).mono ?_
 rintro en w2 ⟨u,k,rfl,hk,hgo,hend,hm2⟩;have hrd:rdA es 0 wd=(u,k):=rdA_is hgo hk hend;have hk2:(rdA es 0 wd).2=k:=by rw [hrd]
 have hk1:(rdA es 0 wd).1=u:=by rw [hrd]
 have hu:=rdA_in HG.out.all wd (v:=0) (by omega);rw [hk1] at hu;have HK1:=Lib.hid hk1;have HK2:=Lib.hid hk2;clear hgo hend hrd hk1 hk2;replace b0:=b0.mid hm2 oZr;replace b2:=b2.mid hm2 oZr;replace hm0:=hm0.trans hm2;have hs2:=hm2.size;clear hm2;rcases Nat.lt_or_ge k wd.length with hlt | hge
 ·have dk:((k:Int) == (wd.length:Int))=false:=by simp only [beq_eq_false_iff_ne];omega
  have hdl:(wd.drop k).length=wd.length - k:=List.length_drop;have hcase:Hid ((n < 40∧PathOk r ((n:Int)+1) es u (wd.drop k) n) ∨ ¬ (n < 40∧PathOk r ((n:Int)+1) es u (wd.drop k) n)):=Lib.hid (Classical.em _);have p0:=b0.cell 0 rfl;have p1:=b0.cell 1 rfl;have p2:=b0.cell 2 rfl;go_wp2_with fail;by_cases h40:n < 40
  ·have hav:AvIs r n es ((n:Int)+1) true:=.inl ⟨rfl,⟨HG.out,by omega⟩,rfl⟩
   with_reducible refine (impl_AddVertex r n A es c w2 _ _ (hr.mid hm0 oZl) (by omega) ((n:Int)+1) true hav).mono ?_
   rintro en w4 ⟨A4,c4,rfl,ho4,hm4⟩;have hs4:=hm4.size;have ha4:=Mid.alloc w4 (.cells #[.int .i64 r,.int .i64 ((n:Int)+1),.slice A4 es.length c4] 26);have Y4:=Box.new w4 #[.int .i64 r,.int .i64 ((n:Int)+1),.slice A4 es.length c4] 26;replace b0:=b0.mid hm4 oZr;replace b2:=b2.mid hm4 oZr;replace hm0:=hm0.trans hm4;have hb4:w.heap.size+1 < w4.heap.size:=b2.1;replace b0:=b0.mid ha4 oZr;replace b2:=b2.mid ha4 oZr;replace ho4:=ho4.mid ha4 oZl;replace hm0:=hm0.trans ha4;have hsa:=ha4.size;clear p0 p1 p2 ha4 hav;have p0:=b0.cell 0 rfl;have p1:=b0.cell 1 rfl;have p2:=b0.cell 2 rfl;go_wp2_with fail;generalize w4.alloc (.cells #[.int .i64 r,.int .i64 ((n:Int)+1),.slice A4 es.length c4] 26)=w5 at b0 b2 Y4 ho4 hm0 hsa p0 p1 p2 ⊢;have hG5:w4.heap.size < w5.heap.size:=Y4.1;obtain ⟨rs2,res2,bb,hPI⟩:=PathIs_ex (r:Int) ((n:Int)+1) es u (wd.drop k) n;have HPI:=Lib.hid hPI;clear hPI;obtain ⟨Bw,ow,rfl⟩:∃ Bw ow,Aw=some ⟨Bw,ow,none⟩:=by
    obtain ⟨B,off,y,h1, -⟩:=hw.at hlt;exact ⟨B,off,h1⟩
   have hmd:=Mid.drew1 w5;have hsd:=hmd.size;replace b0:=b0.mid hmd oZr;replace b2:=b2.mid hmd oZr;replace Y4:=Y4.mid hmd oZr;replace ho4:=ho4.mid hmd oZl;replace hm0:=hm0.trans hmd;clear p0 p1 p2;have y0:=Y4.cell 0 rfl;have y1:=Y4.cell 1 rfl;have y2:=Y4.cell 2 rfl;have hdo:OkI (wd.drop k):=fun q hq=>HOK.out q (List.mem_of_mem_drop hq);have hkc:k≤cw:=by omega
   have hck:¬ cw=k:=by omega
   have hP:=fun W (h1:RG W w2.heap.size w4.heap.size A4 es) (h2:RV W lo' hi' (some ⟨Bw,ow+k,none⟩) (ints (wd.drop k)))=>impl_AddPath r ((n:Int)+1) A4 es c4 u (some ⟨Bw,ow+k,none⟩) (wd.drop k) (cw - k) n W _ _ _ _ h1 h2 (by omega) (by omega) hdo rs2 res2 bb HPI.out;rw [hdl] at hP;have HP:=Lib.hid hP;have HDO:=Lib.hid hdo;have HDL:=Lib.hid hdl;clear hP hdo hdl;refine wp_region_Z (S:=(fun w'=>w'.cell? ⟨w4.heap.size,0,none⟩=some (.int .i64 r)∧w'.cell? ⟨w4.heap.size,1,none⟩=some (.int .i64 ((n:Int)+1))∧w'.cell? ⟨w4.heap.size,2,none⟩=some (.slice A4 es.length c4))) [9,10,11] (by kernel_rfl) ⟨y0,y1,y2⟩ ?_;generalize World.drew w5=wz at b0 b2 Y4 ho4 hm0 y0 y1 y2 hsd ⊢;have hS:wz.cell? ⟨w4.heap.size,0,none⟩=some (.int .i64 r)∧wz.cell? ⟨w4.heap.size,1,none⟩=some (.int .i64 ((n:Int)+1))∧wz.cell? ⟨w4.heap.size,2,none⟩=some (.slice A4 es.length c4):=⟨y0,y1,y2⟩
   refine tkZ [6,7,8,9,10,11] 0 rfl hS ?_;try simp only [Act.put,zs1,zs2,zs3,zs4,zs5,zs6]
   refine tkZ [6,7,8,9,10,11] 1 rfl hS ?_;try simp only [Act.put,zs1,zs2,zs3,zs4,zs5,zs6]
   refine tkZ [4,6,7,8,9,10,11] 2 rfl hS ?_;try simp only [Act.put,zs1,zs2,zs3,zs4,zs5,zs6]
   refine tkZ [4,6,7,8,9,10,11] 3 rfl hS ?_;try simp only [Act.put,zs1,zs2,zs3,zs4,zs5,zs6]
   refine tkZ [6,7,8,9,10,11] 4 rfl hS ?_;try simp only [Act.put,zs1,zs2,zs3,zs4,zs5,zs6]
   refine tkZ [6,7,8,9,10,11] 5 rfl hS ?_;try simp only [Act.put,zs1,zs2,zs3,zs4,zs5,zs6]
   refine rdZ 6 rfl (fun K hK=>?_)
   (go_simp;(with_reducible refine (HP.out _ ho4.rg ((hw.mid hm0 oZl).dropI k)).mono ?_);rintro en w6 ⟨A6,c6,rfl,ho6,hm6⟩;have Y6:=Y4.mid hm6 oZr;go_wp2_with fail)
   refine hK.out _ _ (Or.inr ⟨Y6.cell 0 rfl,Y6.cell 1 rfl,Y6.cell 2 rfl⟩) (fun _=>?_);clear hK K;try simp only [Act.put,zs1,zs2,zs3,zs4,zs5,zs6]
   replace b0:=b0.mid hm6 oZr;replace b2:=b2.mid hm6 oZr;replace hm0:=hm0.trans hm6;have hs6:=hm6.size;have hS6:=And.intro (Y6.cell 0 rfl) (And.intro (Y6.cell 1 rfl) (Y6.cell 2 rfl));clear Y4 hS y0 y1 y2 ho4 hm6 HP;have yf:=Y6.2.2;have y0:=Y6.cell 0 rfl;have y1:=Y6.cell 1 rfl;have y2:=Y6.cell 2 rfl;refine tkZ [8,9,10,11] 7 rfl hS6 ?_;try simp only [Act.put,zs1,zs2,zs3,zs4,zs5,zs6]
   refine wpAnyZ_ready (rs:=[8,9]) (by kernel_rfl) (by simp) (AllReadyZ.cons rfl (fun K hK=>?_) (AllReadyZ.cons rfl (fun K hK=>?_) AllReadyZ.nil))
   ·go_simp
    refine hK.out _ _ (Or.inr hS6) (fun _=>?_);clear hK K;try simp only [Act.put,zs1,zs2,zs3,zs4,zs5,zs6]
    refine wpAnyZ_ready (rs:=[9,10]) (by kernel_rfl) (by simp) (AllReadyZ.cons rfl (fun K hK=>?_) (AllReadyZ.cons rfl (fun K hK=>?_) AllReadyZ.nil))
    ·go_simp
     refine hK.out _ _ (Or.inl (by simp)) (fun _=>?_);clear hK K;try simp only [Act.put,zs1,zs2,zs3,zs4,zs5,zs6]
     refine rdZ 10 rfl (fun K hK=>?_);go_simp;refine hK.out _ _ (Or.inl (by simp)) (fun _=>?_);clear hK K;try simp only [Act.put,zs1,zs2,zs3,zs4,zs5,zs6]
     refine rdZ 11 rfl (fun K hK=>?_);go_simp;refine hK.out _ _ (Or.inl (by simp)) (fun _=>?_);clear hK K;try simp only [Act.put,zs1,zs2,zs3,zs4,zs5,zs6]
     refine wpAnyZ_done (by kernel_rfl) ?_ _;have hst:=((Mid.setCell w6 (lo:=w4.heap.size) (hi:=w4.heap.size+1) (p:=⟨w4.heap.size,0,none⟩) (.int .i64 r) (Nat.le_refl _) (Nat.lt_succ_self _)).trans (Mid.setCell _ (lo:=w4.heap.size) (hi:=w4.heap.size+1) (p:=⟨w4.heap.size,1,none⟩) (.int .i64 rs2) (Nat.le_refl _) (Nat.lt_succ_self _))).trans (Mid.setCell _ (lo:=w4.heap.size) (hi:=w4.heap.size+1) (p:=⟨w4.heap.size,2,none⟩) (.slice A6 res2.length c6) (Nat.le_refl _) (Nat.lt_succ_self _));have V2:=b2.mid hst (Or.inl (by omega));have Y7:=((Y6.set 0 (.int .i64 r) (by simp) rfl).set 1 (.int .i64 rs2) (by simp) rfl).set 2 (.slice A6 res2.length c6) (by simp) rfl;simp only [List.set_cons_succ,List.set_cons_zero] at Y7;have ho7:=ho6.mid hst (Or.inl (by omega));have hm7:=((hm0.storeNew (p:=⟨w4.heap.size,0,none⟩) (by show w.heap.size≤w4.heap.size;omega) (.int .i64 r)).storeNew (p:=⟨w4.heap.size,1,none⟩) (by show w.heap.size≤w4.heap.size;omega) (.int .i64 rs2)).storeNew (p:=⟨w4.heap.size,2,none⟩) (by show w.heap.size≤w4.heap.size;omega) (.slice A6 res2.length c6);have hc6:=ho6.cnt.1;clear Y6 yf y0 y1 y2 hS6 b0 b2 hm0 ho6 hst;generalize ((w6.setCell ⟨w4.heap.size,0,none⟩ (.int .i64 r)).setCell ⟨w4.heap.size,1,none⟩ (.int .i64 rs2)).setCell ⟨w4.heap.size,2,none⟩ (.slice A6 res2.length c6)=w7 at V2 Y7 ho7 hm7 ⊢;have z0:=V2.cell 0 rfl;have z1:=V2.cell 1 rfl;have z2:=V2.cell 2 rfl;have zf:=V2.2.2;have hpi:=HPI.out;cases bb with
     | true =>
      rcases hpi with ⟨-,hok,hrs,hre⟩ | ⟨h, -⟩
      ·obtain ⟨rfl,h2,h3,rfl⟩:=HR.out.more (by rw [HK2.out];exact hlt) (by rw [HK1.out,HK2.out];exact ⟨by omega,hok⟩)
       rw [HK2.out] at h2;rw [HK1.out,HK2.out] at h3;have hse:s2=rs2:=h2.trans hrs.symm;have hee:es2=res2:=h3.trans hre.symm;clear h2 h3 hrs hre hok HR HPI;subst hse;subst res2;have y0:=Y7.cell 0 rfl;have y1:=Y7.cell 1 rfl;have y2:=Y7.cell 2 rfl;go_wp2_with fail;have hcl:(w.heap.size+1 == w4.heap.size)=false:=by simp;omega
       refine bodyPost_ret (v:=.tuple #[.agg #[.int .i64 r,.int .i64 s2,.slice A6 es2.length c6],.int .i64 n,.bool true]) (by simp [results,Tryz.results113,go_sem,z0,z1,z2,zf,y0,y1,y2]) rfl ⟨A6,c6,r,rfl,rfl,?_,hc6,?_⟩
       ·refine RG.wide (RG.mid ho7.rg (a:=w.heap.size) (b:=w.heap.size+2) ?_ (Or.inl (by omega))) (Nat.zero_le _) (by have:=ho7.size;simp at this ⊢;omega) (Nat.le_refl _)
        repeat (first | exact Mid.refl _ _ _ | refine Mid.stored ?_ _ (by simp;try omega) (by simp;try omega))
       ·repeat (first | exact hm7 | refine Mid.storeNew ?_ (by simp;try omega) _)
      ·cases h
     | false =>
      rcases hpi with ⟨h, -⟩ | ⟨-,hno, -, -⟩
      ·cases h
      ·obtain ⟨rfl,rfl,rfl,rfl⟩:=HR.out.not (by rw [HK2.out];exact hlt) (by rw [HK1.out,HK2.out];exact fun h=>hno h.2)
       clear hno HR HPI;go_wp2_with fail;refine bodyPost_ret (v:=.tuple #[.agg #[.int .i64 0,.int .i64 0,.slice none 0 0],.int .i64 0,.bool false]) (by simp [results,Tryz.results113,go_sem,z0,z1,z2,zf]) rfl ⟨none,0,0,rfl,rfl,RG_nil,?_⟩;repeat (first | exact hm7 | refine Mid.trans ?_ (Mid.alloc _ _) | refine Mid.storeNew ?_ (by simp;try omega) _)
    ·go_simp
     refine hK.out _ _ (Or.inl (by simp)) (fun _=>?_);clear hK K;try simp only [Act.put,zs1,zs2,zs3,zs4,zs5,zs6]
     refine rdZ 9 rfl (fun K hK=>?_);go_simp;refine hK.out _ _ (Or.inl (by simp)) (fun _=>?_);clear hK K;try simp only [Act.put,zs1,zs2,zs3,zs4,zs5,zs6]
     refine rdZ 11 rfl (fun K hK=>?_);go_simp;refine hK.out _ _ (Or.inl (by simp)) (fun _=>?_);clear hK K;try simp only [Act.put,zs1,zs2,zs3,zs4,zs5,zs6]
     refine wpAnyZ_done (by kernel_rfl) ?_ _;have hst:=((Mid.setCell w6 (lo:=w4.heap.size) (hi:=w4.heap.size+1) (p:=⟨w4.heap.size,0,none⟩) (.int .i64 r) (Nat.le_refl _) (Nat.lt_succ_self _)).trans (Mid.setCell _ (lo:=w4.heap.size) (hi:=w4.heap.size+1) (p:=⟨w4.heap.size,1,none⟩) (.int .i64 rs2) (Nat.le_refl _) (Nat.lt_succ_self _))).trans (Mid.setCell _ (lo:=w4.heap.size) (hi:=w4.heap.size+1) (p:=⟨w4.heap.size,2,none⟩) (.slice A6 res2.length c6) (Nat.le_refl _) (Nat.lt_succ_self _));have V2:=b2.mid hst (Or.inl (by omega));have Y7:=((Y6.set 0 (.int .i64 r) (by simp) rfl).set 1 (.int .i64 rs2) (by simp) rfl).set 2 (.slice A6 res2.length c6) (by simp) rfl;simp only [List.set_cons_succ,List.set_cons_zero] at Y7;have ho7:=ho6.mid hst (Or.inl (by omega));have hm7:=((hm0.storeNew (p:=⟨w4.heap.size,0,none⟩) (by show w.heap.size≤w4.heap.size;omega) (.int .i64 r)).storeNew (p:=⟨w4.heap.size,1,none⟩) (by show w.heap.size≤w4.heap.size;omega) (.int .i64 rs2)).storeNew (p:=⟨w4.heap.size,2,none⟩) (by show w.heap.size≤w4.heap.size;omega) (.slice A6 res2.length c6);have hc6:=ho6.cnt.1;clear Y6 yf y0 y1 y2 hS6 b0 b2 hm0 ho6 hst;generalize ((w6.setCell ⟨w4.heap.size,0,none⟩ (.int .i64 r)).setCell ⟨w4.heap.size,1,none⟩ (.int .i64 rs2)).setCell ⟨w4.heap.size,2,none⟩ (.slice A6 res2.length c6)=w7 at V2 Y7 ho7 hm7 ⊢;have z0:=V2.cell 0 rfl;have z1:=V2.cell 1 rfl;have z2:=V2.cell 2 rfl;have zf:=V2.2.2;have hpi:=HPI.out;cases bb with
     | true =>
      rcases hpi with ⟨-,hok,hrs,hre⟩ | ⟨h, -⟩
      ·obtain ⟨rfl,h2,h3,rfl⟩:=HR.out.more (by rw [HK2.out];exact hlt) (by rw [HK1.out,HK2.out];exact ⟨by omega,hok⟩)
       rw [HK2.out] at h2;rw [HK1.out,HK2.out] at h3;have hse:s2=rs2:=h2.trans hrs.symm;have hee:es2=res2:=h3.trans hre.symm;clear h2 h3 hrs hre hok HR HPI;subst hse;subst res2;have y0:=Y7.cell 0 rfl;have y1:=Y7.cell 1 rfl;have y2:=Y7.cell 2 rfl;go_wp2_with fail;have hcl:(w.heap.size+1 == w4.heap.size)=false:=by simp;omega
       refine bodyPost_ret (v:=.tuple #[.agg #[.int .i64 r,.int .i64 s2,.slice A6 es2.length c6],.int .i64 n,.bool true]) (by simp [results,Tryz.results113,go_sem,z0,z1,z2,zf,y0,y1,y2]) rfl ⟨A6,c6,r,rfl,rfl,?_,hc6,?_⟩
       ·refine RG.wide (RG.mid ho7.rg (a:=w.heap.size) (b:=w.heap.size+2) ?_ (Or.inl (by omega))) (Nat.zero_le _) (by have:=ho7.size;simp at this ⊢;omega) (Nat.le_refl _)
        repeat (first | exact Mid.refl _ _ _ | refine Mid.stored ?_ _ (by simp;try omega) (by simp;try omega))
       ·repeat (first | exact hm7 | refine Mid.storeNew ?_ (by simp;try omega) _)
      ·cases h
     | false =>
      rcases hpi with ⟨h, -⟩ | ⟨-,hno, -, -⟩
      ·cases h
      ·obtain ⟨rfl,rfl,rfl,rfl⟩:=HR.out.not (by rw [HK2.out];exact hlt) (by rw [HK1.out,HK2.out];exact fun h=>hno h.2)
       clear hno HR HPI;go_wp2_with fail;refine bodyPost_ret (v:=.tuple #[.agg #[.int .i64 0,.int .i64 0,.slice none 0 0],.int .i64 0,.bool false]) (by simp [results,Tryz.results113,go_sem,z0,z1,z2,zf]) rfl ⟨none,0,0,rfl,rfl,RG_nil,?_⟩;repeat (first | exact hm7 | refine Mid.trans ?_ (Mid.alloc _ _) | refine Mid.storeNew ?_ (by simp;try omega) _)
   ·go_simp
    refine hK.out _ _ (Or.inl (by simp)) (fun _=>?_);clear hK K;try simp only [Act.put,zs1,zs2,zs3,zs4,zs5,zs6]
    refine rdZ 8 rfl (fun K hK=>?_);go_simp;refine hK.out _ _ (Or.inr hS6) (fun _=>?_);clear hK K;try simp only [Act.put,zs1,zs2,zs3,zs4,zs5,zs6]
    refine rdZ 10 rfl (fun K hK=>?_);go_simp;refine hK.out _ _ (Or.inl (by simp)) (fun _=>?_);clear hK K;try simp only [Act.put,zs1,zs2,zs3,zs4,zs5,zs6]
    refine rdZ 11 rfl (fun K hK=>?_);go_simp;refine hK.out _ _ (Or.inl (by simp)) (fun _=>?_);clear hK K;try simp only [Act.put,zs1,zs2,zs3,zs4,zs5,zs6]
    refine wpAnyZ_done (by kernel_rfl) ?_ _;have hst:=((Mid.setCell w6 (lo:=w4.heap.size) (hi:=w4.heap.size+1) (p:=⟨w4.heap.size,0,none⟩) (.int .i64 r) (Nat.le_refl _) (Nat.lt_succ_self _)).trans (Mid.setCell _ (lo:=w4.heap.size) (hi:=w4.heap.size+1) (p:=⟨w4.heap.size,1,none⟩) (.int .i64 rs2) (Nat.le_refl _) (Nat.lt_succ_self _))).trans (Mid.setCell _ (lo:=w4.heap.size) (hi:=w4.heap.size+1) (p:=⟨w4.heap.size,2,none⟩) (.slice A6 res2.length c6) (Nat.le_refl _) (Nat.lt_succ_self _));have V2:=b2.mid hst (Or.inl (by omega));have Y7:=((Y6.set 0 (.int .i64 r) (by simp) rfl).set 1 (.int .i64 rs2) (by simp) rfl).set 2 (.slice A6 res2.length c6) (by simp) rfl;simp only [List.set_cons_succ,List.set_cons_zero] at Y7;have ho7:=ho6.mid hst (Or.inl (by omega));have hm7:=((hm0.storeNew (p:=⟨w4.heap.size,0,none⟩) (by show w.heap.size≤w4.heap.size;omega) (.int .i64 r)).storeNew (p:=⟨w4.heap.size,1,none⟩) (by show w.heap.size≤w4.heap.size;omega) (.int .i64 rs2)).storeNew (p:=⟨w4.heap.size,2,none⟩) (by show w.heap.size≤w4.heap.size;omega) (.slice A6 res2.length c6);have hc6:=ho6.cnt.1;clear Y6 yf y0 y1 y2 hS6 b0 b2 hm0 ho6 hst;generalize ((w6.setCell ⟨w4.heap.size,0,none⟩ (.int .i64 r)).setCell ⟨w4.heap.size,1,none⟩ (.int .i64 rs2)).setCell ⟨w4.heap.size,2,none⟩ (.slice A6 res2.length c6)=w7 at V2 Y7 ho7 hm7 ⊢;have z0:=V2.cell 0 rfl;have z1:=V2.cell 1 rfl;have z2:=V2.cell 2 rfl;have zf:=V2.2.2;have hpi:=HPI.out;cases bb with
    | true =>
     rcases hpi with ⟨-,hok,hrs,hre⟩ | ⟨h, -⟩
     ·obtain ⟨rfl,h2,h3,rfl⟩:=HR.out.more (by rw [HK2.out];exact hlt) (by rw [HK1.out,HK2.out];exact ⟨by omega,hok⟩)
      rw [HK2.out] at h2;rw [HK1.out,HK2.out] at h3;have hse:s2=rs2:=h2.trans hrs.symm;have hee:es2=res2:=h3.trans hre.symm;clear h2 h3 hrs hre hok HR HPI;subst hse;subst res2;have y0:=Y7.cell 0 rfl;have y1:=Y7.cell 1 rfl;have y2:=Y7.cell 2 rfl;go_wp2_with fail;have hcl:(w.heap.size+1 == w4.heap.size)=false:=by simp;omega
      refine bodyPost_ret (v:=.tuple #[.agg #[.int .i64 r,.int .i64 s2,.slice A6 es2.length c6],.int .i64 n,.bool true]) (by simp [results,Tryz.results113,go_sem,z0,z1,z2,zf,y0,y1,y2]) rfl ⟨A6,c6,r,rfl,rfl,?_,hc6,?_⟩
      ·refine RG.wide (RG.mid ho7.rg (a:=w.heap.size) (b:=w.heap.size+2) ?_ (Or.inl (by omega))) (Nat.zero_le _) (by have:=ho7.size;simp at this ⊢;omega) (Nat.le_refl _)
       repeat (first | exact Mid.refl _ _ _ | refine Mid.stored ?_ _ (by simp;try omega) (by simp;try omega))
      ·repeat (first | exact hm7 | refine Mid.storeNew ?_ (by simp;try omega) _)
     ·cases h
    | false =>
     rcases hpi with ⟨h, -⟩ | ⟨-,hno, -, -⟩
     ·cases h
     ·obtain ⟨rfl,rfl,rfl,rfl⟩:=HR.out.not (by rw [HK2.out];exact hlt) (by rw [HK1.out,HK2.out];exact fun h=>hno h.2)
      clear hno HR HPI;go_wp2_with fail;refine bodyPost_ret (v:=.tuple #[.agg #[.int .i64 0,.int .i64 0,.slice none 0 0],.int .i64 0,.bool false]) (by simp [results,Tryz.results113,go_sem,z0,z1,z2,zf]) rfl ⟨none,0,0,rfl,rfl,RG_nil,?_⟩;repeat (first | exact hm7 | refine Mid.trans ?_ (Mid.alloc _ _) | refine Mid.storeNew ?_ (by simp;try omega) _)
  ·obtain rfl:n=40:=by omega
   have hav:AvIs r ((40:Nat):Int) es ((40:Nat):Int) false:=.inr ⟨rfl,fun h=>by have:=h.2;omega,rfl⟩;obtain ⟨rfl,rfl,rfl,rfl⟩:=HR.out.not (by rw [HK2.out];exact hlt) (fun h=>by have:=h.1;omega);with_reducible refine (impl_AddVertex r ((40:Nat):Int) A es c w2 _ _ (hr.mid hm0 oZl) (by omega) ((40:Nat):Int) false hav).mono ?_
   rintro en w4 ⟨A4,c4,rfl,ho4,hm4⟩;replace b2:=b2.mid hm4 oZr;replace hm0:=hm0.trans hm4;have hb23:w.heap.size+1 < w4.heap.size:=b2.1;have hb22:w.heap.size < w4.heap.size:=by omega
   have z0:=b2.cell 0 rfl;have z1:=b2.cell 1 rfl;have z2:=b2.cell 2 rfl;have zf:=b2.2.2;clear p0 p1 p2 hav HR;go_wp2_with fail;refine bodyPost_ret (v:=.tuple #[.agg #[.int .i64 0,.int .i64 0,.slice none 0 0],.int .i64 0,.bool false]) (by simp [results,Tryz.results113,go_sem,z0,z1,z2,zf,hb22,hb23,World.cell?_alloc_lt]) rfl ⟨none,0,0,rfl,rfl,RG_nil,?_⟩;repeat (first | exact hm0 | refine Mid.trans ?_ (Mid.alloc _ _) | refine Mid.storeNew ?_ (by simp;try omega) _)
 ·obtain rfl:k=wd.length:=by omega
  obtain ⟨rfl,rfl,rfl,hxu⟩:=HR.out.full HK2.out;rw [HK1.out] at hxu;subst hxu;have hr2:=hr.mid hm0 oZl;have p0:=b0.cell 0 rfl;have p1:=b0.cell 1 rfl;have p2:=b0.cell 2 rfl;have z0:=b2.cell 0 rfl;have z1:=b2.cell 1 rfl;have z2:=b2.cell 2 rfl;have zf:=b2.2.2;clear HR;go_wp2_with fail;refine bodyPost_ret (v:=.tuple #[.agg #[.int .i64 r,.int .i64 n,.slice A es2.length c],.int .i64 x,.bool true]) (by simp [results,Tryz.results113,go_sem,z0,z1,z2,zf,p0,p1,p2]) rfl ⟨A,c,r,rfl,rfl,?_,hcl,?_⟩
  ·refine RG.wide (RG.mid hr2 (a:=w.heap.size+1) (b:=w.heap.size+2) ?_ (Or.inr (by have:=hr.size;omega))) (Nat.zero_le _) (by have:=hr2.size;simp at this ⊢;omega) (Nat.le_refl _)
   repeat (first | exact Mid.refl _ _ _ | refine Mid.stored ?_ _ (by simp;try omega) (by simp;try omega))
  ·repeat (first | exact hm0 | refine Mid.storeNew ?_ (by simp;try omega) _)
end
section
open Go.RowKit
def CjIs (r s:Int) (es:List Ed) (wd:List Int) (rr rs:Int) (res:List Ed) (b:Bool):Prop :=
 (¬ (IsCor r s es∧IsW r wd)∧b=false∧rr=0∧rs=0∧res=[]) ∨
 ((IsCor r s es∧IsW r wd)∧∃ b1 s2 es2 x,ExtIs r s es wd b1 s2 es2 x∧((b1=false∧b=false∧rr=0∧rs=0∧res=[]) ∨ (b1=true∧rr=r∧MoveIs r s2 es2 x rs res b)))
theorem CjIs_ex (r s:Int) (es:List Ed) (wd:List Int):∃ rr rs res b,CjIs r s es wd rr rs res b:=by
 by_cases h:IsCor r s es∧IsW r wd
 ·obtain ⟨b1,s2,es2,x,he⟩:=ext_ex r s es wd
  cases b1 with
  | false=>exact ⟨_,_,_,_,.inr ⟨h,_,_,_,_,he,.inl ⟨rfl,rfl,rfl,rfl,rfl⟩⟩⟩
  | true =>
   obtain ⟨rs,res,b,hm⟩:=MoveIs_ex r s2 es2 x;exact ⟨_,_,_,_,.inr ⟨h,_,_,_,_,he,.inr ⟨rfl,rfl,hm⟩⟩⟩
 ·exact ⟨_,_,_,_,.inl ⟨h,rfl,rfl,rfl,rfl⟩⟩
theorem CjIs.lens {r s:Int} {es:List Ed} {wd:List Int} {rr rs:Int} {res:List Ed} {b:Bool} (h:CjIs r s es wd rr rs res b):res.length≤120:=by
 rcases h with ⟨-, -, -, -,rfl⟩ | ⟨hc,b1,s2,es2,x,he,⟨-, -, -, -,rfl⟩ | ⟨rfl, -,hm⟩⟩
 ·simp
 ·simp
 ·have hg:=he.gr hc.1.gr
  rcases hm with ⟨-,hf, -,rfl⟩ | ⟨-, -, -,rfl⟩
  ·exact (moveA_gr hg.1 hg.2).len
  ·exact hg.1.len
theorem CjIs.no {r s:Int} {es:List Ed} {wd:List Int} {rr rs:Int} {res:List Ed} {b:Bool} (h:CjIs r s es wd rr rs res b) (hn:¬ (IsCor r s es∧IsW r wd)):b=false∧rr=0∧rs=0∧res=[]:=by
 rcases h with ⟨-,h⟩ | ⟨h, -⟩
 ·exact h
 ·exact absurd h hn
theorem CjIs.yes {r s:Int} {es:List Ed} {wd:List Int} {rr rs:Int} {res:List Ed} {b:Bool} (h:CjIs r s es wd rr rs res b) (hn:IsCor r s es∧IsW r wd) :
  ∃ b1 s2 es2 x,ExtIs r s es wd b1 s2 es2 x∧((b1=false∧b=false∧rr=0∧rs=0∧res=[]) ∨ (b1=true∧rr=r∧MoveIs r s2 es2 x rs res b)):=by
 rcases h with ⟨h, -⟩ | ⟨-,h⟩
 ·exact absurd hn h
 ·exact h
theorem impl_ConjugateSubgroup (r s:Int) (A:Option Addr) (es:List Ed) (c:Nat) (Aw:Option Addr) (wd:List Int) (cw:Nat) (w:World) (lo hi lo' hi':Nat) (hr:RG w lo hi A es) (hw:RV w lo' hi' Aw (ints wd)) (hl:es.length≤1048576) (hcl:es.length≤c) (hcw:wd.length≤cw) (hwl:wd.length≤1048576) (hok:OkI wd) (rr rs:Int) (res:List Ed) (b:Bool) (hres:CjIs r s es wd rr rs res b) :
  Calls Tryz.prog 28 #[graV r s A es.length c,.slice Aw wd.length cw] w fun e w'=>∃ A1 c1,e=.returned (.tuple #[graV rr rs A1 res.length c1,.bool b])∧OG w' w.heap.size w'.heap.size A1 c1 res∧Mid 0 0 w w':=by
 have hm0:Mid 0 0 w ((w.alloc (.cells #[.int .i64 r,.int .i64 s,.slice A es.length c] 26)).alloc (.cells #[.int .i64 0,.int .i64 0,.slice none 0 0] 26)):=(Mid.alloc _ _).trans (Mid.alloc _ _);have b0:=(Box.new w #[.int .i64 r,.int .i64 s,.slice A es.length c] 26).mid (Mid.alloc _ (.cells #[.int .i64 0,.int .i64 0,.slice none 0 0] 26)) oZr;have b2:=Box.new (w.alloc (.cells #[.int .i64 r,.int .i64 s,.slice A es.length c] 26)) #[.int .i64 0,.int .i64 0,.slice none 0 0] 26;simp only [World.size_alloc] at b2;have HR:=Lib.hid hres;have HOK:=Lib.hid hok;clear hres hok;by_cases hc:IsCor r s es∧IsW r wd
 ·obtain ⟨r,n,rfl,rfl⟩:=hc.1.gr.nat
  obtain ⟨b1,s2,es2,x,he,hcase⟩:=HR.out.yes hc;have HC:=Lib.hid hc.1;have HW:=Lib.hid hc.2;have HE:=Lib.hid he;have HCASE:=Lib.hid hcase;have hsz:=hc.1.gr.size;clear hc he hcase HR;go_enter Tryz.func28,Tryz.ntmps28
  go_wp2_with fail;generalize ((w.alloc (.cells #[.int .i64 r,.int .i64 n,.slice A es.length c] 26)).alloc (.cells #[.int .i64 0,.int .i64 0,.slice none 0 0] 26))=w1 at hm0 b0 b2 ⊢;have hs1:w.heap.size+1 < w1.heap.size:=b2.1;with_reducible refine (impl_IsCore r n A es c _ _ _ (hr.mid hm0 oZl) hl hcl true (iff_of_true rfl HC.out)).mono ?_
  rintro en w2 ⟨rfl,hm2⟩;replace b0:=b0.mid hm2 oZr;replace b2:=b2.mid hm2 oZr;replace hm0:=hm0.trans hm2;have hs2:=hm2.size;have p0:=b0.cell 0 rfl;have p1:=b0.cell 1 rfl;have p2:=b0.cell 2 rfl;go_wp2_with fail;with_reducible refine (impl_IsWord r Aw wd cw _ _ ((hw.mid hm0 oZl).rs) HOK.out (by omega) true (iff_of_true rfl HW.out)).mono ?_
  rintro en w3 ⟨rfl,rfl⟩;go_wp2_with fail;with_reducible refine (impl_extend r n A es c Aw wd cw _ _ _ _ _ (hr.mid hm0 oZl) (hw.mid hm0 oZl) hcl hcw HC.out.gr hwl HOK.out b1 s2 es2 x HE.out).mono ?_
  rintro en w4 ⟨A4,c4,r4,rfl,hr4,hrg4,hc4,hm4⟩;have hs4:=hm4.size;replace b2:=b2.mid hm4 oZr;replace hm0:=hm0.trans hm4;have hb23:w.heap.size+1 < w4.heap.size:=b2.1;have hb22:w.heap.size < w4.heap.size:=by omega
  clear p0 p1 p2;cases b1 with
  | false =>
   rcases HCASE.out with ⟨-,rfl,rfl,rfl,rfl⟩ | ⟨h, -⟩
   ·have z0:=b2.cell 0 rfl
    have z1:=b2.cell 1 rfl;have z2:=b2.cell 2 rfl;have zf:=b2.2.2;clear HCASE;go_wp2_with fail;refine bodyPost_ret (v:=.tuple #[.agg #[.int .i64 0,.int .i64 0,.slice none 0 0],.bool false]) (by simp [results,Tryz.results28,go_sem,z0,z1,z2,zf,hb22,hb23,World.cell?_alloc_lt]) rfl ⟨none,0,rfl,?_,?_⟩
    ·exact ⟨Nat.le_refl _,⟨rfl,.inl ⟨rfl,rfl⟩⟩,fun g hg=>by simp [Value.ownBlock] at hg⟩
    ·repeat (first | exact hm0 | refine Mid.trans ?_ (Mid.alloc _ _) | refine Mid.storeNew ?_ (by simp;try omega) _)
   ·cases h
  | true =>
   rcases HCASE.out with ⟨h, -⟩ | ⟨-,rfl,hmv⟩
   ·cases h
   ·obtain rfl:r4=(r:Int):=hr4
    have hgx:=HE.out.gr HC.out.gr;have HMV:=Lib.hid hmv;have HGX:=Lib.hid hgx;have hlen2:=hgx.1.len;have hxx:=hgx.1.size;have hx2:=hgx.2;have ha4:=Mid.alloc w4 (.cells #[.int .i64 r,.int .i64 s2,.slice A4 es2.length c4] 26);have Y4:=Box.new w4 #[.int .i64 r,.int .i64 s2,.slice A4 es2.length c4] 26;have hrg5:=hrg4.mid ha4 oZl;replace b2:=b2.mid ha4 oZr;replace hm0:=hm0.trans ha4;have y0:=Y4.cell 0 rfl;have y1:=Y4.cell 1 rfl;have y2:=Y4.cell 2 rfl;clear HCASE hmv hgx;go_wp2_with fail;with_reducible refine (impl_MoveBase r s2 A4 es2 c4 x _ _ _ hrg5 (by omega) hc4 (by omega) rs res b HMV.out).mono ?_
    rintro en w6 ⟨A6,c6,rfl,ho6,hm6⟩;replace b2:=b2.mid hm6 oZr;replace hm0:=hm0.trans hm6;have hb6:=b2.1;have z0:=b2.cell 0 rfl;have z1:=b2.cell 1 rfl;have z2:=b2.cell 2 rfl;have zf:=b2.2.2;clear y0 y1 y2;go_wp2_with fail;refine bodyPost_ret (v:=.tuple #[.agg #[.int .i64 r,.int .i64 rs,.slice A6 res.length c6],.bool b]) (by simp [results,Tryz.results28,go_sem,z0,z1,z2,zf]) rfl ⟨A6,c6,rfl,?_,?_⟩
    ·refine OG.wide (OG.mid ho6 (a:=w.heap.size+1) (b:=w.heap.size+2) ?_ (Or.inl (by simp;omega))) (by simp;omega) (by simp) (Nat.le_refl _)
     repeat (first | exact Mid.refl _ _ _ | refine Mid.stored ?_ _ (by simp;try omega) (by simp;try omega))
    ·repeat (first | exact hm0 | refine Mid.storeNew ?_ (by simp;try omega) _)
 ·obtain ⟨rfl,rfl,rfl,rfl⟩:=HR.out.no hc
  have hcase:¬ IsCor r s es ∨ (IsCor r s es∧¬ IsW r wd):=by
   by_cases h:IsCor r s es
   ·exact .inr ⟨h,fun h2=>hc ⟨h,h2⟩⟩
   ·exact .inl h
  have HCASE:=Lib.hid hcase;clear hc hcase HR;go_enter Tryz.func28,Tryz.ntmps28
  go_wp2_with fail;generalize ((w.alloc (.cells #[.int .i64 r,.int .i64 s,.slice A es.length c] 26)).alloc (.cells #[.int .i64 0,.int .i64 0,.slice none 0 0] 26))=w1 at hm0 b0 b2 ⊢;rcases HCASE.out with hc | ⟨hc,hwd⟩
  ·have HC:=Lib.hid hc
   clear hc HCASE;with_reducible refine (impl_IsCore r s A es c _ _ _ (hr.mid hm0 oZl) hl hcl false (iff_of_false Bool.false_ne_true HC.out)).mono ?_
   rintro en w2 ⟨rfl,hm2⟩;replace b2:=b2.mid hm2 oZr;replace hm0:=hm0.trans hm2;have z0:=b2.cell 0 rfl;have z1:=b2.cell 1 rfl;have z2:=b2.cell 2 rfl;have zf:=b2.2.2;go_wp2_with fail;refine bodyPost_ret (v:=.tuple #[.agg #[.int .i64 0,.int .i64 0,.slice none 0 0],.bool false]) (by simp [results,Tryz.results28,go_sem,z0,z1,z2,zf]) rfl ⟨none,0,rfl,?_,?_⟩
   ·exact ⟨Nat.le_refl _,⟨rfl,.inl ⟨rfl,rfl⟩⟩,fun g hg=>by simp [Value.ownBlock] at hg⟩
   ·repeat (first | exact hm0 | refine Mid.trans ?_ (Mid.alloc _ _) | refine Mid.storeNew ?_ (by simp;try omega) _)
  ·have HC:=Lib.hid hc
   have HW:=Lib.hid hwd;clear hc hwd HCASE;with_reducible refine (impl_IsCore r s A es c _ _ _ (hr.mid hm0 oZl) hl hcl true (iff_of_true rfl HC.out)).mono ?_
   rintro en w2 ⟨rfl,hm2⟩;replace b0:=b0.mid hm2 oZr;replace b2:=b2.mid hm2 oZr;replace hm0:=hm0.trans hm2;have p0:=b0.cell 0 rfl;have p1:=b0.cell 1 rfl;have p2:=b0.cell 2 rfl;go_wp2_with fail;with_reducible refine (impl_IsWord r Aw wd cw _ _ ((hw.mid hm0 oZl).rs) HOK.out (by omega) false (iff_of_false Bool.false_ne_true HW.out)).mono ?_
   rintro en w3 ⟨rfl,rfl⟩;have z0:=b2.cell 0 rfl;have z1:=b2.cell 1 rfl;have z2:=b2.cell 2 rfl;have zf:=b2.2.2;clear p0 p1 p2;go_wp2_with fail;refine bodyPost_ret (v:=.tuple #[.agg #[.int .i64 0,.int .i64 0,.slice none 0 0],.bool false]) (by simp [results,Tryz.results28,go_sem,z0,z1,z2,zf]) rfl ⟨none,0,rfl,?_,?_⟩
   ·exact ⟨Nat.le_refl _,⟨rfl,.inl ⟨rfl,rfl⟩⟩,fun g hg=>by simp [Value.ownBlock] at hg⟩
   ·repeat (first | exact hm0 | refine Mid.trans ?_ (Mid.alloc _ _) | refine Mid.storeNew ?_ (by simp;try omega) _)
end
section
open Go.RowKit
theorem RV.takeI {w:World} {lo hi:Nat} {A:Option Addr} {xs:List Int} (h:RV w lo hi A (ints xs)) (k:Nat):RV w lo hi A (ints (xs.take k)):=by
 refine ⟨h.1,fun hn=>?_⟩;obtain ⟨b,off,hA,h1,h2,h3⟩:=h.2 (by intro h0;apply hn;simp [ints] at h0 ⊢;right;exact h0);refine ⟨b,off,hA,h1,h2,fun j u hu=>h3 j u ?_⟩;simp only [ints,List.getElem?_map,List.getElem?_take] at hu ⊢;split at hu
 ·exact hu
 ·cases hu
theorem spec_ConjugateSubgroup (r s:Int) (A:Option Addr) (es:List Ed) (c:Nat) (Aw:Option Addr) (wd:List Int) (cw:Nat) (w:World) (lo hi lo' hi':Nat) (hr:RG w lo hi A es) (hw:RV w lo' hi' Aw (ints wd)) (hl:es.length≤1048576) (hcl:es.length≤c) (hcw:wd.length≤cw) (hwl:wd.length≤1048576) (hok:OkI wd) (rr rs:Int) (res:List Ed) (b:Bool) (hres:CjIs r s es wd rr rs res b) :
  Calls Tryz.prog 29 #[graV r s A es.length c,.slice Aw wd.length cw] w fun e w'=>∃ A1 c1,e=.returned (.tuple #[graV rr rs A1 res.length c1,.bool b])∧OG w' w.heap.size w'.heap.size A1 c1 res∧Mid 0 0 w w':=by
 have hm0:Mid 0 0 w ((w.alloc (.cells #[.int .i64 r,.int .i64 s,.slice A es.length c] 26)).alloc (.cells #[.int .i64 0,.int .i64 0,.slice none 0 0] 26)):=(Mid.alloc _ _).trans (Mid.alloc _ _);have b0:=(Box.new w #[.int .i64 r,.int .i64 s,.slice A es.length c] 26).mid (Mid.alloc _ (.cells #[.int .i64 0,.int .i64 0,.slice none 0 0] 26)) oZr;have b2:=Box.new (w.alloc (.cells #[.int .i64 r,.int .i64 s,.slice A es.length c] 26)) #[.int .i64 0,.int .i64 0,.slice none 0 0] 26;simp only [World.size_alloc] at b2;have HR:=Lib.hid hres;have HOK:=Lib.hid hok;clear hres hok;by_cases hc:IsCor r s es∧IsW r wd
 ·obtain ⟨r,n,rfl,rfl⟩:=hc.1.gr.nat
  obtain ⟨b1,s2,es2,x,he,hcase⟩:=HR.out.yes hc;have HC:=Lib.hid hc.1;have HW:=Lib.hid hc.2;have HE:=Lib.hid he;have HCASE:=Lib.hid hcase;have hsz:=hc.1.gr.size;clear hc he hcase HR;go_enter Tryz.func29,Tryz.ntmps29
  go_wp2_with fail;generalize ((w.alloc (.cells #[.int .i64 r,.int .i64 n,.slice A es.length c] 26)).alloc (.cells #[.int .i64 0,.int .i64 0,.slice none 0 0] 26))=w1 at hm0 b0 b2 ⊢;have hs1:w.heap.size+1 < w1.heap.size:=b2.1;with_reducible refine (spec_IsSubgroup r n A es c _ _ _ (hr.mid hm0 oZl) hl true (iff_of_true rfl HC.out)).mono ?_
  rintro en w2 ⟨rfl,hm2⟩;replace b0:=b0.mid hm2 oZr;replace b2:=b2.mid hm2 oZr;replace hm0:=hm0.trans hm2;have hs2:=hm2.size;have p0:=b0.cell 0 rfl;have p1:=b0.cell 1 rfl;have p2:=b0.cell 2 rfl;go_wp2_with fail;with_reducible refine (spec_IsWord r Aw wd cw _ _ ((hw.mid hm0 oZl).rs) HOK.out (by omega) true (iff_of_true rfl HW.out)).mono ?_
  rintro en w3 ⟨rfl,nd,hw3⟩;have hm3:Mid 0 0 w2 w3:=by rw [hw3];exact (Mid.refl 0 0 w2).drewN nd
  replace b0:=b0.mid hm3 oZr;replace b2:=b2.mid hm3 oZr;replace hm0:=hm0.trans hm3;have hs3:=hm3.size;clear p0 p1 p2 hw3 hm3;have p0:=b0.cell 0 rfl;have p1:=b0.cell 1 rfl;have p2:=b0.cell 2 rfl;go_wp2_with fail;have hn1:1≤n∧n≤40:=by omega
  have hz0:((0:Nat):Int)=0:=rfl;have hRL:=fun W h1 h2=>spec_ReadLength r n 0 A es c Aw wd cw W lo hi lo' hi' h1 h2 HC.out.fol (by omega) hwl HOK.out;simp only [hz0] at hRL;obtain ⟨u,k,hrd⟩:∃ u k,rdA es 0 wd=(u,k):=⟨_,_,rfl⟩
  have hk2:(rdA es 0 wd).2=k:=by rw [hrd]
  have hk1:(rdA es 0 wd).1=u:=by rw [hrd]
  have hgo:=goV_rdA (es:=es) wd 0;have hkl:=rdA_le es wd 0;have hu:=rdA_in HC.out.gr.all wd (v:=0) (by omega);rw [hk2,hk1] at hgo;rw [hk2] at hkl;rw [hk1] at hu;simp only [hk2] at hRL;have HK1:=Lib.hid hk1;have HK2:=Lib.hid hk2;have HRL:=Lib.hid hRL;have htl:(wd.take k).length=k:=by rw [List.length_take];omega
  have hWW:∀ W,RG W lo hi A es→RV W lo' hi' Aw (ints wd)→Calls Tryz.prog 108 #[graV r n A es.length c,.int .i64 0,.slice Aw k cw] W fun e w'=>e=.returned (.tuple #[.int .i64 u,.bool true])∧Mid 0 0 W w':=by
   intro W h1 h2;have h3:=spec_WalkWord r n 0 A es c Aw (wd.take k) cw W lo hi lo' hi' h1 (h2.takeI k) HC.out.fol (by omega) (by omega) (fun q hq=>HOK.out q (List.mem_of_mem_take hq));rw [htl] at h3;refine h3.mono ?_;rintro e w' ⟨u',b',rfl,h4,h5,h6⟩;have hz:goV es ((0:Nat):Int) (wd.take k)=some u:=hgo;cases b' with
   | true =>
    have:=h4 rfl;rw [hz] at this;injection this with this
    subst this;exact ⟨rfl,h6⟩
   | false =>
    have:=h5 rfl;rw [hz] at this;cases this
  have HWW:=Lib.hid hWW;clear hrd hk2 hk1 hgo hz0 hRL htl hWW;with_reducible refine (HRL.out _ (hr.mid hm0 oZl) (hw.mid hm0 oZl)).mono ?_
  rintro en w4 ⟨rfl,hm4⟩;replace b0:=b0.mid hm4 oZr;replace b2:=b2.mid hm4 oZr;replace hm0:=hm0.trans hm4;have hs4:=hm4.size;clear hm4 HRL p0 p1 p2;have hkc:k≤cw:=by omega
  have hkw:(k:Int)≤(wd.length:Int):=by omega
  have v0:=wg_cell b0.1 (b0.cell 0 rfl);have v1:=wg_cell b0.1 (b0.cell 1 rfl);have v2:=wg_cell b0.1 (b0.cell 2 rfl);have hA:∀ (m:Nat) (os:Array Obj),Calls Tryz.prog 108 #[graV r n A es.length c,.int .i64 0,.slice Aw k cw] (wg w4 m os) fun e w''=>e=.returned (.tuple #[.int .i64 u,.bool true])∧∃ q:GB,w''=wg w4 q.n q.os:=fun m os =>
   Calls.wg_of (HWW.out (wg w4 m os) (hr.mid (hm0.trans (Mid.ofWg w4 m os)) oZl) (hw.mid (hm0.trans (Mid.ofWg w4 m os)) oZl))
  go_wp2_with fail;refine wp_region_quiet_wg (by kernel_rfl) (by kernel_rfl) ?_;repeat
   (with_reducible refine wpQuiet_step (fun K hK=>?_))
   go_simp
   first
    | ((with_reducible refine hK _ ?_);clear hK K)
    | (rw [if_neg (by decide)];(with_reducible refine hK _ ?_);clear hK K)
    | (apply Exists.intro;refine ⟨fun _=>?_,hK _ ?_⟩;((go_at_call 108;with_reducible exact hA _ _));clear hK K)
  with_reducible refine wpQuiet_nil ?_
  intro _ hw';obtain ⟨⟨nq,osq⟩,hw''⟩:=hw';subst hw'';have hwg:=Mid.ofWg w4 nq osq;have hs5:=hwg.size;generalize wg w4 nq osq=w5 at hwg hs5 ⊢;replace b0:=b0.mid hwg oZr;replace b2:=b2.mid hwg oZr;replace hm0:=hm0.trans hwg;clear v0 v1 v2 hA HWW hwg;have p0:=b0.cell 0 rfl;have p1:=b0.cell 1 rfl;have p2:=b0.cell 2 rfl;go_wp2_with fail;with_reducible refine (spec_l4Copy r n A es c _ _ _ (hr.mid hm0 oZl) (by omega)).mono ?_
  rintro en w6 ⟨A6,c6,rfl,ho6,hm6⟩;have hs6:=hm6.size;have ha6:=Mid.alloc w6 (.cells #[.int .i64 r,.int .i64 n,.slice A6 es.length c6] 26);have Y6:=Box.new w6 #[.int .i64 r,.int .i64 n,.slice A6 es.length c6] 26;replace b0:=b0.mid hm6 oZr;replace b2:=b2.mid hm6 oZr;replace hm0:=hm0.trans hm6;replace b0:=b0.mid ha6 oZr;replace b2:=b2.mid ha6 oZr;replace ho6:=ho6.mid ha6 oZl;replace hm0:=hm0.trans ha6;have hsa:=ha6.size;clear p0 p1 p2 ha6 hm6;have p0:=b0.cell 0 rfl;have p1:=b0.cell 1 rfl;have p2:=b0.cell 2 rfl;rcases Nat.lt_or_ge k wd.length with hlt | hge
  ·have dk:decide ((k:Int) < (wd.length:Int))=true:=by simp;omega
   have hdl:(wd.drop k).length=wd.length - k:=List.length_drop;go_wp2_with fail;generalize w6.alloc (.cells #[.int .i64 r,.int .i64 n,.slice A6 es.length c6] 26)=w7 at b0 b2 Y6 ho6 hm0 hsa p0 p1 p2 ⊢;have hb6:w6.heap.size < w7.heap.size:=Y6.1;by_cases h40:n < 40
   ·have hav:AvIs r n es ((n:Int)+1) true:=.inl ⟨rfl,⟨HC.out.gr,by omega⟩,rfl⟩
    with_reducible refine (spec_AddVertex r n A es c w7 _ _ (hr.mid hm0 oZl) (by omega) ((n:Int)+1) true hav).mono ?_
    rintro en w8 ⟨A8,c8,rfl,ho8,hm8⟩;have hs8:=hm8.size;have ha8:=Mid.alloc w8 (.cells #[.int .i64 r,.int .i64 ((n:Int)+1),.slice A8 es.length c8] 26);have Y8:=Box.new w8 #[.int .i64 r,.int .i64 ((n:Int)+1),.slice A8 es.length c8] 26;replace b0:=b0.mid hm8 oZr;replace b2:=b2.mid hm8 oZr;replace Y6:=Y6.mid hm8 oZr;replace hm0:=hm0.trans hm8;replace b0:=b0.mid ha8 oZr;replace b2:=b2.mid ha8 oZr;replace Y6:=Y6.mid ha8 oZr;replace ho8:=ho8.mid ha8 oZl;replace hm0:=hm0.trans ha8;have hsb:=ha8.size;clear p0 p1 p2 ha8 hm8 hav ho6;have p0:=b0.cell 0 rfl;have p1:=b0.cell 1 rfl;have p2:=b0.cell 2 rfl;go_wp2_with fail;generalize w8.alloc (.cells #[.int .i64 r,.int .i64 ((n:Int)+1),.slice A8 es.length c8] 26)=w9 at b0 b2 Y6 Y8 ho8 hm0 hsb p0 p1 p2 ⊢;have hb8:w8.heap.size < w9.heap.size:=Y8.1;obtain ⟨rs2,res2,bb,hPI⟩:=PathIs_ex (r:Int) ((n:Int)+1) es u (wd.drop k) n;have HPI:=Lib.hid hPI;clear hPI;obtain ⟨Bw,ow,rfl⟩:∃ Bw ow,Aw=some ⟨Bw,ow,none⟩:=by
     obtain ⟨B,off,y,h1, -⟩:=hw.at hlt;exact ⟨B,off,h1⟩
    have hmd:=Mid.drew1 w9;have hsd:=hmd.size;replace b0:=b0.mid hmd oZr;replace b2:=b2.mid hmd oZr;replace Y6:=Y6.mid hmd oZr;replace Y8:=Y8.mid hmd oZr;replace ho8:=ho8.mid hmd oZl;replace hm0:=hm0.trans hmd;clear p0 p1 p2;have p0:=b0.cell 0 rfl;have p1:=b0.cell 1 rfl;have p2:=b0.cell 2 rfl;have y0:=Y8.cell 0 rfl;have y1:=Y8.cell 1 rfl;have y2:=Y8.cell 2 rfl;have hdo:OkI (wd.drop k):=fun q hq=>HOK.out q (List.mem_of_mem_drop hq);have hck:¬ cw=k:=by omega
    have hP:=fun W (h1:RG W w7.heap.size w8.heap.size A8 es) (h2:RV W lo' hi' (some ⟨Bw,ow+k,none⟩) (ints (wd.drop k)))=>spec_AddPath r ((n:Int)+1) A8 es c8 u (some ⟨Bw,ow+k,none⟩) (wd.drop k) (cw - k) n W _ _ _ _ h1 h2 (by omega) (by omega) hdo rs2 res2 bb HPI.out;rw [hdl] at hP;have HP:=Lib.hid hP;clear hP hdo hdl;refine wp_region_Z (S:=(fun w'=>(w'.cell? ⟨w8.heap.size,0,none⟩=some (.int .i64 r)∧w'.cell? ⟨w8.heap.size,1,none⟩=some (.int .i64 ((n:Int)+1))∧w'.cell? ⟨w8.heap.size,2,none⟩=some (.slice A8 es.length c8))∧w'.cell? ⟨w.heap.size,1,none⟩=some (.int .i64 n))) [] (by kernel_rfl) ⟨⟨y0,y1,y2⟩,p1⟩ ?_;generalize World.drew w9=wz at b0 b2 Y6 Y8 ho8 hm0 p0 p1 p2 y0 y1 y2 hsd ⊢;have hS:(wz.cell? ⟨w8.heap.size,0,none⟩=some (.int .i64 r)∧wz.cell? ⟨w8.heap.size,1,none⟩=some (.int .i64 ((n:Int)+1))∧wz.cell? ⟨w8.heap.size,2,none⟩=some (.slice A8 es.length c8))∧wz.cell? ⟨w.heap.size,1,none⟩=some (.int .i64 n):=⟨⟨y0,y1,y2⟩,p1⟩
    refine tkZ [] 0 rfl hS ?_;try simp only [Act.put,zs1,zs2,zs3,zs4,zs5,zs6]
    refine tkZ [] 1 rfl hS ?_;try simp only [Act.put,zs1,zs2,zs3,zs4,zs5,zs6]
    refine tkZ [] 2 rfl hS ?_;try simp only [Act.put,zs1,zs2,zs3,zs4,zs5,zs6]
    refine tkZ [] 3 rfl hS ?_;try simp only [Act.put,zs1,zs2,zs3,zs4,zs5,zs6]
    refine tkZ [] 4 rfl hS ?_;try simp only [Act.put,zs1,zs2,zs3,zs4,zs5,zs6]
    refine tkZ [] 5 rfl hS ?_;try simp only [Act.put,zs1,zs2,zs3,zs4,zs5,zs6]
    refine tkZ [] 6 rfl hS ?_;try simp only [Act.put,zs1,zs2,zs3,zs4,zs5,zs6]
    refine wpAnyZ_ready (rs:=[7,11]) (by kernel_rfl) (by simp) (AllReadyZ.cons rfl (fun K hK=>?_) (AllReadyZ.cons rfl (fun K hK=>?_) AllReadyZ.nil))
    ·(go_simp;(with_reducible refine (HP.out _ ho8.rg ((hw.mid hm0 oZl).dropI k)).mono ?_);rintro en w10 ⟨A10,c10,rfl,ho10,hm10⟩;have Y80:=Y8.mid hm10 oZr;have b00:=b0.mid hm10 oZr;go_wp2_with fail)
     refine hK.out _ _ (Or.inr ⟨⟨Y80.cell 0 rfl,Y80.cell 1 rfl,Y80.cell 2 rfl⟩,b00.cell 1 rfl⟩) (fun _=>?_);clear hK K;try simp only [Act.put,zs1,zs2,zs3,zs4,zs5,zs6]
     replace b2:=b2.mid hm10 oZr;replace Y6:=Y6.mid hm10 oZr;replace hm0:=hm0.trans hm10;have hs10:=hm10.size;have hS10:=And.intro (And.intro (Y80.cell 0 rfl) (And.intro (Y80.cell 1 rfl) (Y80.cell 2 rfl))) (b00.cell 1 rfl);clear Y8 hS y0 y1 y2 p0 p1 p2 ho8 b0 HP;refine tkZ [] 8 rfl hS10 ?_;try simp only [Act.put,zs1,zs2,zs3,zs4,zs5,zs6]
     refine tkZ [] 9 rfl hS10 ?_;try simp only [Act.put,zs1,zs2,zs3,zs4,zs5,zs6]
     refine tkZ [] 10 rfl hS10 ?_;try simp only [Act.put,zs1,zs2,zs3,zs4,zs5,zs6]
     have hal:=Mid.alloc w10 (.cells #[.int .i64 0,.int .i64 0,.slice none 0 0] 26);have Y81:=Y80.mid hal oZr;have b01:=b00.mid hal oZr;refine rdZ 11 rfl (fun K hK=>?_);go_simp;refine hK.out _ _ (Or.inr ⟨⟨Y81.cell 0 rfl,Y81.cell 1 rfl,Y81.cell 2 rfl⟩,b01.cell 1 rfl⟩) (fun _=>?_);clear hK K;try simp only [Act.put,zs1,zs2,zs3,zs4,zs5,zs6]
     clear hal Y81 b01;have hal:=Mid.alloc w10 (.cells #[.int .i64 r,.int .i64 rs2,.slice A10 res2.length c10] 26);have Y81:=Y80.mid hal oZr;have b01:=b00.mid hal oZr;refine rdZ 12 rfl (fun K hK=>?_);go_simp;refine hK.out _ _ (Or.inr ⟨⟨Y81.cell 0 rfl,Y81.cell 1 rfl,Y81.cell 2 rfl⟩,b01.cell 1 rfl⟩) (fun _=>?_);clear hK K;try simp only [Act.put,zs1,zs2,zs3,zs4,zs5,zs6]
     refine rdZ 13 rfl (fun K hK=>?_);go_simp;refine hK.out _ _ (Or.inr ⟨⟨Y81.cell 0 rfl,Y81.cell 1 rfl,Y81.cell 2 rfl⟩,b01.cell 1 rfl⟩) (fun _=>?_);clear hK K;try simp only [Act.put,zs1,zs2,zs3,zs4,zs5,zs6]
     refine wpAnyZ_done (by kernel_rfl) ?_ _;have Zb:=Box.new w10 #[.int .i64 r,.int .i64 rs2,.slice A10 res2.length c10] 26;have ho11:=ho10.mid hal oZl;replace b2:=b2.mid hal oZr;replace Y6:=Y6.mid hal oZr;replace hm0:=hm0.trans hal;have hlo11:w6.heap.size+1≤wz.heap.size:=by omega
     have hgz:w6.heap.size+1≤w10.heap.size:=by omega
     have hc10:=ho10.cnt.1;clear Y80 Y81 b00 hS10 hal ho10 hm10;generalize w10.alloc (.cells #[.int .i64 r,.int .i64 rs2,.slice A10 res2.length c10] 26)=w11 at b2 Y6 Zb ho11 hm0 b01 ⊢;generalize w10.heap.size=Gz at Zb hgz ho11 ⊢;have hpi:=HPI.out;cases bb with
     | false =>
      rcases hpi with ⟨h, -⟩ | ⟨-,hno, -, -⟩
      ·cases h
      ·obtain ⟨rfl, -, -, -⟩:=HE.out.not (by rw [HK2.out];exact hlt) (by rw [HK1.out,HK2.out];exact fun h=>hno h.2)
       rcases HCASE.out with ⟨-,rfl,rfl,rfl,rfl⟩ | ⟨h, -⟩
       ·have hb11:=b2.1
        have z0:=b2.cell 0 rfl;have z1:=b2.cell 1 rfl;have z2:=b2.cell 2 rfl;have zf:=b2.2.2;clear hno HPI HCASE HE;go_wp2_with fail;refine bodyPost_ret (v:=.tuple #[.agg #[.int .i64 0,.int .i64 0,.slice none 0 0],.bool false]) (by simp [results,Tryz.results29,go_sem,z0,z1,z2,zf]) rfl ⟨none,0,rfl,?_,?_⟩
        ·exact ⟨Nat.le_refl _,⟨rfl,.inl ⟨rfl,rfl⟩⟩,fun g hg=>by simp [Value.ownBlock] at hg⟩
        ·repeat (first | exact hm0 | refine Mid.trans ?_ (Mid.alloc _ _) | refine Mid.storeNew ?_ (by simp;try omega) _)
       ·cases h
     | true =>
      rcases hpi with ⟨-,hok,hrs,hre⟩ | ⟨h, -⟩
      ·obtain ⟨rfl,h2,h3,hxn⟩:=HE.out.more (by rw [HK2.out];exact hlt) (by rw [HK1.out,HK2.out];exact ⟨by omega,hok⟩)
       rw [HK2.out] at h2;rw [HK1.out,HK2.out] at h3;have hse:s2=rs2:=h2.trans hrs.symm;have hee:es2=res2:=h3.trans hre.symm;rcases HCASE.out with ⟨h, -⟩ | ⟨-,rfl,hmv⟩
       ·cases h
       ·rw [hse,hee,hxn] at hmv
        have HMV:=Lib.hid hmv;have hgx:=HE.out.gr HC.out.gr;rw [hse,hee] at hgx;have hlen2:=hgx.1.len;have hb11:=b2.1;have hy6:=Y6.1;clear h2 h3 hrs hre hok HPI HCASE HE hmv hse hee hxn;have q0:=Zb.cell 0 rfl;have q1:=Zb.cell 1 rfl;have q2:=Zb.cell 2 rfl;have yf:=Y6.2.2;have y0:=Y6.cell 0 rfl;have y1:=Y6.cell 1 rfl;have y2:=Y6.cell 2 rfl;have p1:=b01.cell 1 rfl;have hst:=((Mid.setCell w11 (lo:=w6.heap.size) (hi:=w6.heap.size+1) (p:=⟨w6.heap.size,0,none⟩) (.int .i64 r) (Nat.le_refl _) (Nat.lt_succ_self _)).trans (Mid.setCell _ (lo:=w6.heap.size) (hi:=w6.heap.size+1) (p:=⟨w6.heap.size,1,none⟩) (.int .i64 rs2) (Nat.le_refl _) (Nat.lt_succ_self _))).trans (Mid.setCell _ (lo:=w6.heap.size) (hi:=w6.heap.size+1) (p:=⟨w6.heap.size,2,none⟩) (.slice A10 res2.length c10) (Nat.le_refl _) (Nat.lt_succ_self _));have ho12:=ho11.mid hst (Or.inl (by omega));have b22:=b2.mid hst (Or.inl (by omega));have hm12:=((hm0.storeNew (p:=⟨w6.heap.size,0,none⟩) (by show w.heap.size≤w6.heap.size;omega) (.int .i64 r)).storeNew (p:=⟨w6.heap.size,1,none⟩) (by show w.heap.size≤w6.heap.size;omega) (.int .i64 rs2)).storeNew (p:=⟨w6.heap.size,2,none⟩) (by show w.heap.size≤w6.heap.size;omega) (.slice A10 res2.length c10);have hne6:(w.heap.size == w6.heap.size)=false:=by simp;omega
        go_wp2_with fail;generalize ((w11.setCell ⟨w6.heap.size,0,none⟩ (.int .i64 r)).setCell ⟨w6.heap.size,1,none⟩ (.int .i64 rs2)).setCell ⟨w6.heap.size,2,none⟩ (.slice A10 res2.length c10)=w12 at ho12 b22 hm12 ⊢;with_reducible refine (spec_MoveBase r rs2 A10 res2 c10 n w12 _ _ ho12.rg (by omega) (by omega) rs res b HMV.out).mono ?_
        rintro en w20 ⟨A20,c20,rfl,ho20,hm20⟩;have hs20:=hm20.size;have hb12:=b22.1;replace b22:=b22.mid hm20 oZr;replace hm12:=hm12.trans hm20;have hb20:w.heap.size+1 < w20.heap.size:=b22.1;have hb21:w.heap.size < w20.heap.size:=by omega
        have Y20:=Box.new w20 #[.int .i64 r,.int .i64 rs,.slice A20 res.length c20] 26;clear y0 y1 y2 q0 q1 q2 p1 yf;have z0:=b22.cell 0 rfl;have z1:=b22.cell 1 rfl;have z2:=b22.cell 2 rfl;have q0:=Y20.cell 0 rfl;have q1:=Y20.cell 1 rfl;have q2:=Y20.cell 2 rfl;have zf:=b22.2.2;go_wp2_with fail;refine bodyPost_ret (v:=.tuple #[.agg #[.int .i64 r,.int .i64 rs,.slice A20 res.length c20],.bool b]) (by simp [results,Tryz.results29,go_sem,z0,z1,z2,zf,q0,q1,q2,hb20,hb21,World.cell?_alloc_lt]) rfl ⟨A20,c20,rfl,?_,?_⟩
        ·refine OG.wide (OG.mid ho20 (a:=w.heap.size+1) (b:=w.heap.size+2) ?_ (Or.inl (by omega))) (by omega) (by simp;try omega) (Nat.le_refl _)
         repeat (first | exact Mid.refl _ _ _ | refine Mid.trans ?_ (Mid.zero (Mid.alloc _ _)) | refine Mid.stored ?_ _ (by simp;try omega) (by simp;try omega))
        ·repeat (first | exact hm12 | refine Mid.trans ?_ (Mid.alloc _ _) | refine Mid.storeNew ?_ (by simp;try omega) _)
      ·cases h
    ·have hal:=Mid.alloc wz (.cells #[.int .i64 0,.int .i64 0,.slice none 0 0] 26)
     have Y81:=Y8.mid hal oZr;have b01:=b0.mid hal oZr;have Zb:=Box.new wz #[.int .i64 0,.int .i64 0,.slice none 0 0] 26;have ho81:=ho8.mid hal oZl;have hsl:=hal.size;go_simp;refine hK.out _ _ (Or.inr ⟨⟨Y81.cell 0 rfl,Y81.cell 1 rfl,Y81.cell 2 rfl⟩,b01.cell 1 rfl⟩) (fun _=>?_);clear hK K;try simp only [Act.put,zs1,zs2,zs3,zs4,zs5,zs6]
     replace b2:=b2.mid hal oZr;replace Y6:=Y6.mid hal oZr;replace hm0:=hm0.trans hal;clear Y8 hS y0 y1 y2 p0 p1 p2 ho8 b0 hal;have hzb:wz.heap.size < (wz.alloc (.cells #[.int .i64 0,.int .i64 0,.slice none 0 0] 26)).heap.size:=Zb.1;generalize wz.alloc (.cells #[.int .i64 0,.int .i64 0,.slice none 0 0] 26)=wy at Y81 b01 Zb ho81 b2 Y6 hm0 hsl hzb ⊢;refine rdZ 7 rfl (fun K hK=>?_)
     (go_simp;(with_reducible refine (HP.out _ ho81.rg ((hw.mid hm0 oZl).dropI k)).mono ?_);rintro en w10 ⟨A10,c10,rfl,ho10,hm10⟩;have Y80:=Y81.mid hm10 oZr;have b00:=b01.mid hm10 oZr;go_wp2_with fail)
     refine hK.out _ _ (Or.inr ⟨⟨Y80.cell 0 rfl,Y80.cell 1 rfl,Y80.cell 2 rfl⟩,b00.cell 1 rfl⟩) (fun _=>?_);clear hK K;try simp only [Act.put,zs1,zs2,zs3,zs4,zs5,zs6]
     replace b2:=b2.mid hm10 oZr;replace Y6:=Y6.mid hm10 oZr;replace Zb:=Zb.mid hm10 oZr;replace hm0:=hm0.trans hm10;have hs10:=hm10.size;have hS10:=And.intro (And.intro (Y80.cell 0 rfl) (And.intro (Y80.cell 1 rfl) (Y80.cell 2 rfl))) (b00.cell 1 rfl);clear Y81 b01 ho81 HP;refine tkZ [] 8 rfl hS10 ?_;try simp only [Act.put,zs1,zs2,zs3,zs4,zs5,zs6]
     refine tkZ [] 9 rfl hS10 ?_;try simp only [Act.put,zs1,zs2,zs3,zs4,zs5,zs6]
     refine tkZ [] 10 rfl hS10 ?_;try simp only [Act.put,zs1,zs2,zs3,zs4,zs5,zs6]
     have zzf:=Zb.2.2;have zz0:=Zb.cell 0 rfl;have zz1:=Zb.cell 1 rfl;have zz2:=Zb.cell 2 rfl;have hst:=((Mid.setCell w10 (lo:=wz.heap.size) (hi:=wz.heap.size+1) (p:=⟨wz.heap.size,0,none⟩) (.int .i64 r) (Nat.le_refl _) (Nat.lt_succ_self _)).trans (Mid.setCell _ (lo:=wz.heap.size) (hi:=wz.heap.size+1) (p:=⟨wz.heap.size,1,none⟩) (.int .i64 rs2) (Nat.le_refl _) (Nat.lt_succ_self _))).trans (Mid.setCell _ (lo:=wz.heap.size) (hi:=wz.heap.size+1) (p:=⟨wz.heap.size,2,none⟩) (.slice A10 res2.length c10) (Nat.le_refl _) (Nat.lt_succ_self _));have Y82:=Y80.mid hst (Or.inl (by omega));have b02:=b00.mid hst (Or.inl (by omega));refine rdZ 12 rfl (fun K hK=>?_);go_simp;refine hK.out _ _ (Or.inr ⟨⟨Y82.cell 0 rfl,Y82.cell 1 rfl,Y82.cell 2 rfl⟩,b02.cell 1 rfl⟩) (fun _=>?_);clear hK K;try simp only [Act.put,zs1,zs2,zs3,zs4,zs5,zs6]
     refine rdZ 13 rfl (fun K hK=>?_);go_simp;refine hK.out _ _ (Or.inr ⟨⟨Y82.cell 0 rfl,Y82.cell 1 rfl,Y82.cell 2 rfl⟩,b02.cell 1 rfl⟩) (fun _=>?_);clear hK K;try simp only [Act.put,zs1,zs2,zs3,zs4,zs5,zs6]
     refine wpAnyZ_done (by kernel_rfl) ?_ _;have ho11:=ho10.mid hst (Or.inl (by omega));replace b2:=b2.mid hst (Or.inl (by omega));replace Y6:=Y6.mid hst (Or.inl (by omega));replace Zb:=((Zb.set 0 (.int .i64 r) (by simp) rfl).set 1 (.int .i64 rs2) (by simp) rfl).set 2 (.slice A10 res2.length c10) (by simp) rfl;simp only [List.set_cons_succ,List.set_cons_zero] at Zb;replace hm0:=((hm0.storeNew (p:=⟨wz.heap.size,0,none⟩) (by show w.heap.size≤wz.heap.size;omega) (.int .i64 r)).storeNew (p:=⟨wz.heap.size,1,none⟩) (by show w.heap.size≤wz.heap.size;omega) (.int .i64 rs2)).storeNew (p:=⟨wz.heap.size,2,none⟩) (by show w.heap.size≤wz.heap.size;omega) (.slice A10 res2.length c10);have hlo11:w6.heap.size+1≤wy.heap.size:=by omega
     have hgz:w6.heap.size+1≤wz.heap.size:=by omega
     have hc10:=ho10.cnt.1;have b01:=b02;clear Y80 Y82 b00 b02 hS10 hst ho10 hm10 zz0 zz1 zz2 zzf;generalize ((w10.setCell ⟨wz.heap.size,0,none⟩ (.int .i64 r)).setCell ⟨wz.heap.size,1,none⟩ (.int .i64 rs2)).setCell ⟨wz.heap.size,2,none⟩ (.slice A10 res2.length c10)=w11 at b2 Y6 Zb ho11 hm0 b01 ⊢;generalize wz.heap.size=Gz at Zb hgz ⊢;have hpi:=HPI.out;cases bb with
     | false =>
      rcases hpi with ⟨h, -⟩ | ⟨-,hno, -, -⟩
      ·cases h
      ·obtain ⟨rfl, -, -, -⟩:=HE.out.not (by rw [HK2.out];exact hlt) (by rw [HK1.out,HK2.out];exact fun h=>hno h.2)
       rcases HCASE.out with ⟨-,rfl,rfl,rfl,rfl⟩ | ⟨h, -⟩
       ·have hb11:=b2.1
        have z0:=b2.cell 0 rfl;have z1:=b2.cell 1 rfl;have z2:=b2.cell 2 rfl;have zf:=b2.2.2;clear hno HPI HCASE HE;go_wp2_with fail;refine bodyPost_ret (v:=.tuple #[.agg #[.int .i64 0,.int .i64 0,.slice none 0 0],.bool false]) (by simp [results,Tryz.results29,go_sem,z0,z1,z2,zf]) rfl ⟨none,0,rfl,?_,?_⟩
        ·exact ⟨Nat.le_refl _,⟨rfl,.inl ⟨rfl,rfl⟩⟩,fun g hg=>by simp [Value.ownBlock] at hg⟩
        ·repeat (first | exact hm0 | refine Mid.trans ?_ (Mid.alloc _ _) | refine Mid.storeNew ?_ (by simp;try omega) _)
       ·cases h
     | true =>
      rcases hpi with ⟨-,hok,hrs,hre⟩ | ⟨h, -⟩
      ·obtain ⟨rfl,h2,h3,hxn⟩:=HE.out.more (by rw [HK2.out];exact hlt) (by rw [HK1.out,HK2.out];exact ⟨by omega,hok⟩)
       rw [HK2.out] at h2;rw [HK1.out,HK2.out] at h3;have hse:s2=rs2:=h2.trans hrs.symm;have hee:es2=res2:=h3.trans hre.symm;rcases HCASE.out with ⟨h, -⟩ | ⟨-,rfl,hmv⟩
       ·cases h
       ·rw [hse,hee,hxn] at hmv
        have HMV:=Lib.hid hmv;have hgx:=HE.out.gr HC.out.gr;rw [hse,hee] at hgx;have hlen2:=hgx.1.len;have hb11:=b2.1;have hy6:=Y6.1;clear h2 h3 hrs hre hok HPI HCASE HE hmv hse hee hxn;have q0:=Zb.cell 0 rfl;have q1:=Zb.cell 1 rfl;have q2:=Zb.cell 2 rfl;have yf:=Y6.2.2;have y0:=Y6.cell 0 rfl;have y1:=Y6.cell 1 rfl;have y2:=Y6.cell 2 rfl;have p1:=b01.cell 1 rfl;have hst:=((Mid.setCell w11 (lo:=w6.heap.size) (hi:=w6.heap.size+1) (p:=⟨w6.heap.size,0,none⟩) (.int .i64 r) (Nat.le_refl _) (Nat.lt_succ_self _)).trans (Mid.setCell _ (lo:=w6.heap.size) (hi:=w6.heap.size+1) (p:=⟨w6.heap.size,1,none⟩) (.int .i64 rs2) (Nat.le_refl _) (Nat.lt_succ_self _))).trans (Mid.setCell _ (lo:=w6.heap.size) (hi:=w6.heap.size+1) (p:=⟨w6.heap.size,2,none⟩) (.slice A10 res2.length c10) (Nat.le_refl _) (Nat.lt_succ_self _));have ho12:=ho11.mid hst (Or.inl (by omega));have b22:=b2.mid hst (Or.inl (by omega));have hm12:=((hm0.storeNew (p:=⟨w6.heap.size,0,none⟩) (by show w.heap.size≤w6.heap.size;omega) (.int .i64 r)).storeNew (p:=⟨w6.heap.size,1,none⟩) (by show w.heap.size≤w6.heap.size;omega) (.int .i64 rs2)).storeNew (p:=⟨w6.heap.size,2,none⟩) (by show w.heap.size≤w6.heap.size;omega) (.slice A10 res2.length c10);have hne6:(w.heap.size == w6.heap.size)=false:=by simp;omega
        go_wp2_with fail;generalize ((w11.setCell ⟨w6.heap.size,0,none⟩ (.int .i64 r)).setCell ⟨w6.heap.size,1,none⟩ (.int .i64 rs2)).setCell ⟨w6.heap.size,2,none⟩ (.slice A10 res2.length c10)=w12 at ho12 b22 hm12 ⊢;with_reducible refine (spec_MoveBase r rs2 A10 res2 c10 n w12 _ _ ho12.rg (by omega) (by omega) rs res b HMV.out).mono ?_
        rintro en w20 ⟨A20,c20,rfl,ho20,hm20⟩;have hs20:=hm20.size;have hb12:=b22.1;replace b22:=b22.mid hm20 oZr;replace hm12:=hm12.trans hm20;have hb20:w.heap.size+1 < w20.heap.size:=b22.1;have hb21:w.heap.size < w20.heap.size:=by omega
        have Y20:=Box.new w20 #[.int .i64 r,.int .i64 rs,.slice A20 res.length c20] 26;clear y0 y1 y2 q0 q1 q2 p1 yf;have z0:=b22.cell 0 rfl;have z1:=b22.cell 1 rfl;have z2:=b22.cell 2 rfl;have q0:=Y20.cell 0 rfl;have q1:=Y20.cell 1 rfl;have q2:=Y20.cell 2 rfl;have zf:=b22.2.2;go_wp2_with fail;refine bodyPost_ret (v:=.tuple #[.agg #[.int .i64 r,.int .i64 rs,.slice A20 res.length c20],.bool b]) (by simp [results,Tryz.results29,go_sem,z0,z1,z2,zf,q0,q1,q2,hb20,hb21,World.cell?_alloc_lt]) rfl ⟨A20,c20,rfl,?_,?_⟩
        ·refine OG.wide (OG.mid ho20 (a:=w.heap.size+1) (b:=w.heap.size+2) ?_ (Or.inl (by omega))) (by omega) (by simp;try omega) (Nat.le_refl _)
         repeat (first | exact Mid.refl _ _ _ | refine Mid.trans ?_ (Mid.zero (Mid.alloc _ _)) | refine Mid.stored ?_ _ (by simp;try omega) (by simp;try omega))
        ·repeat (first | exact hm12 | refine Mid.trans ?_ (Mid.alloc _ _) | refine Mid.storeNew ?_ (by simp;try omega) _)
      ·cases h
   ·obtain rfl:n=40:=by omega
    have hav:AvIs r ((40:Nat):Int) es ((40:Nat):Int) false:=.inr ⟨rfl,fun h=>by have:=h.2;omega,rfl⟩;obtain ⟨rfl, -, -, -⟩:=HE.out.not (by rw [HK2.out];exact hlt) (fun h=>by have:=h.1;omega);rcases HCASE.out with ⟨-,rfl,rfl,rfl,rfl⟩ | ⟨h, -⟩
    ·with_reducible refine (spec_AddVertex r ((40:Nat):Int) A es c w7 _ _ (hr.mid hm0 oZl) (by omega) ((40:Nat):Int) false hav).mono ?_
     rintro en w8 ⟨A8,c8,rfl,ho8,hm8⟩;replace b2:=b2.mid hm8 oZr;replace hm0:=hm0.trans hm8;have hb23:w.heap.size+1 < w8.heap.size:=b2.1;have hb22:w.heap.size < w8.heap.size:=by omega
     have z0:=b2.cell 0 rfl;have z1:=b2.cell 1 rfl;have z2:=b2.cell 2 rfl;have zf:=b2.2.2;clear p0 p1 p2 hav HCASE HE;go_wp2_with fail;refine bodyPost_ret (v:=.tuple #[.agg #[.int .i64 0,.int .i64 0,.slice none 0 0],.bool false]) (by simp [results,Tryz.results29,go_sem,z0,z1,z2,zf,hb22,hb23,World.cell?_alloc_lt]) rfl ⟨none,0,rfl,?_,?_⟩
     ·exact ⟨Nat.le_refl _,⟨rfl,.inl ⟨rfl,rfl⟩⟩,fun g hg=>by simp [Value.ownBlock] at hg⟩
     ·repeat (first | exact hm0 | refine Mid.trans ?_ (Mid.alloc _ _) | refine Mid.storeNew ?_ (by simp;try omega) _)
    ·cases h
  ·obtain rfl:k=wd.length:=by omega
   obtain ⟨rfl,rfl,rfl,hxu⟩:=HE.out.full HK2.out;rw [HK1.out] at hxu;subst hxu;rcases HCASE.out with ⟨h, -⟩ | ⟨-,rfl,hmv⟩
   ·cases h
   ·have HMV:=Lib.hid hmv
    have hrg6:=ho6.rg;obtain ⟨A9,hA9⟩:∃ A9,A6=A9:=⟨_,rfl⟩
    subst hA9;obtain ⟨c9,hc9⟩:∃ c9,c6=c9:=⟨_,rfl⟩
    subst hc9;have y0:=Y6.cell 0 rfl;have y1:=Y6.cell 1 rfl;have y2:=Y6.cell 2 rfl;clear hmv HCASE HE;go_wp2_with fail;with_reducible refine (spec_MoveBase r n A6 es2 c6 x _ _ _ hrg6 (by omega) (by omega) rs res b HMV.out).mono ?_
    rintro en w20 ⟨A20,c20,rfl,ho20,hm20⟩;have hs20:=hm20.size;replace b2:=b2.mid hm20 oZr;replace hm0:=hm0.trans hm20;have hb20:w.heap.size+1 < w20.heap.size:=b2.1;have hb21:w.heap.size < w20.heap.size:=by omega
    have Y20:=Box.new w20 #[.int .i64 r,.int .i64 rs,.slice A20 res.length c20] 26;clear y0 y1 y2;have z0:=b2.cell 0 rfl;have z1:=b2.cell 1 rfl;have z2:=b2.cell 2 rfl;have q0:=Y20.cell 0 rfl;have q1:=Y20.cell 1 rfl;have q2:=Y20.cell 2 rfl;have zf:=b2.2.2;clear p0 p1 p2;go_wp2_with fail;refine bodyPost_ret (v:=.tuple #[.agg #[.int .i64 r,.int .i64 rs,.slice A20 res.length c20],.bool b]) (by simp [results,Tryz.results29,go_sem,z0,z1,z2,zf,q0,q1,q2,hb20,hb21,World.cell?_alloc_lt]) rfl ⟨A20,c20,rfl,?_,?_⟩
    ·refine OG.wide (OG.mid ho20 (a:=w.heap.size+1) (b:=w.heap.size+2) ?_ (Or.inl (by simp;omega))) (by simp;omega) (by simp;try omega) (Nat.le_refl _)
     repeat (first | exact Mid.refl _ _ _ | refine Mid.trans ?_ (Mid.zero (Mid.alloc _ _)) | refine Mid.stored ?_ _ (by simp;try omega) (by simp;try omega))
    ·repeat (first | exact hm0 | refine Mid.trans ?_ (Mid.alloc _ _) | refine Mid.storeNew ?_ (by simp;try omega) _)
 ·obtain ⟨rfl,rfl,rfl,rfl⟩:=HR.out.no hc
  have hcase:¬ IsCor r s es ∨ (IsCor r s es∧¬ IsW r wd):=by
   by_cases h:IsCor r s es
   ·exact .inr ⟨h,fun h2=>hc ⟨h,h2⟩⟩
   ·exact .inl h
  have HCASE:=Lib.hid hcase;clear hc hcase HR;go_enter Tryz.func29,Tryz.ntmps29
  go_wp2_with fail;generalize ((w.alloc (.cells #[.int .i64 r,.int .i64 s,.slice A es.length c] 26)).alloc (.cells #[.int .i64 0,.int .i64 0,.slice none 0 0] 26))=w1 at hm0 b0 b2 ⊢;rcases HCASE.out with hc | ⟨hc,hwd⟩
  ·have HC:=Lib.hid hc
   clear hc HCASE;with_reducible refine (spec_IsSubgroup r s A es c _ _ _ (hr.mid hm0 oZl) hl false (iff_of_false Bool.false_ne_true HC.out)).mono ?_
   rintro en w2 ⟨rfl,hm2⟩;replace b2:=b2.mid hm2 oZr;replace hm0:=hm0.trans hm2;have z0:=b2.cell 0 rfl;have z1:=b2.cell 1 rfl;have z2:=b2.cell 2 rfl;have zf:=b2.2.2;go_wp2_with fail;refine bodyPost_ret (v:=.tuple #[.agg #[.int .i64 0,.int .i64 0,.slice none 0 0],.bool false]) (by simp [results,Tryz.results29,go_sem,z0,z1,z2,zf]) rfl ⟨none,0,rfl,?_,?_⟩
   ·exact ⟨Nat.le_refl _,⟨rfl,.inl ⟨rfl,rfl⟩⟩,fun g hg=>by simp [Value.ownBlock] at hg⟩
   ·repeat (first | exact hm0 | refine Mid.trans ?_ (Mid.alloc _ _) | refine Mid.storeNew ?_ (by simp;try omega) _)
  ·have HC:=Lib.hid hc
   have HW:=Lib.hid hwd;clear hc hwd HCASE;with_reducible refine (spec_IsSubgroup r s A es c _ _ _ (hr.mid hm0 oZl) hl true (iff_of_true rfl HC.out)).mono ?_
   rintro en w2 ⟨rfl,hm2⟩;replace b0:=b0.mid hm2 oZr;replace b2:=b2.mid hm2 oZr;replace hm0:=hm0.trans hm2;have p0:=b0.cell 0 rfl;have p1:=b0.cell 1 rfl;have p2:=b0.cell 2 rfl;go_wp2_with fail;with_reducible refine (spec_IsWord r Aw wd cw _ _ ((hw.mid hm0 oZl).rs) HOK.out (by omega) false (iff_of_false Bool.false_ne_true HW.out)).mono ?_
   rintro en w3 ⟨rfl,nd,hw3⟩;have hm3:Mid 0 0 w2 w3:=by rw [hw3];exact (Mid.refl 0 0 w2).drewN nd
   replace b0:=b0.mid hm3 oZr;replace b2:=b2.mid hm3 oZr;replace hm0:=hm0.trans hm3;have hs3:=hm3.size;clear p0 p1 p2 hw3 hm3;have p0:=b0.cell 0 rfl;have p1:=b0.cell 1 rfl;have p2:=b0.cell 2 rfl;have z0:=b2.cell 0 rfl;have z1:=b2.cell 1 rfl;have z2:=b2.cell 2 rfl;have zf:=b2.2.2;clear p0 p1 p2;go_wp2_with fail;refine bodyPost_ret (v:=.tuple #[.agg #[.int .i64 0,.int .i64 0,.slice none 0 0],.bool false]) (by simp [results,Tryz.results29,go_sem,z0,z1,z2,zf]) rfl ⟨none,0,rfl,?_,?_⟩
   ·exact ⟨Nat.le_refl _,⟨rfl,.inl ⟨rfl,rfl⟩⟩,fun g hg=>by simp [Value.ownBlock] at hg⟩
   ·repeat (first | exact hm0 | refine Mid.trans ?_ (Mid.alloc _ _) | refine Mid.storeNew ?_ (by simp;try omega) _)
end
section
open Go.RowKit
theorem impl_loops (r n:Nat) (A:Option Addr) (es:List Ed) (c:Nat) (Aw:Option Addr) (wd:List Int) (cw:Nat) (w:World) (lo hi lo' hi':Nat) (hr:RG w lo hi A es) (hw:RV w lo' hi' Aw (ints wd)) (hg:IsGr r n es) (hwl:wd.length≤1048576) (hok:OkI wd) (b:Bool) (hb:b=true↔LoopP es wd) :
  Calls Tryz.prog 106 #[graV r n A es.length c,.slice Aw wd.length cw] w fun e w'=>e=.returned (.bool b)∧Mid 0 0 w w':=by
 have hm0:Mid 0 0 w (w.alloc (.cells #[.int .i64 r,.int .i64 n,.slice A es.length c] 26)):=Mid.alloc _ _;have b0:=Box.new w #[.int .i64 r,.int .i64 n,.slice A es.length c] 26;have HB:=Lib.hid hb;clear hb;go_enter Tryz.func106,Tryz.ntmps106
 go_wp2_with fail;with_reducible refine (impl_read r n A es c 0 Aw wd cw _ _ _ _ _ (hr.mid hm0 oZl) (hw.mid hm0 oZl) hg hwl hok).mono ?_
 rintro en w2 ⟨u,k,rfl,hk,hgo,hend,hm2⟩;have hrd:rdA es 0 wd=(u,k):=rdA_is hgo hk hend;have hL:LoopP es wd↔k=wd.length∧u=0:=by unfold LoopP;rw [hrd]
 have HL:=Lib.hid hL;clear hgo hend hrd hL;rcases (Decidable.em (k=wd.length)).symm with h1 | h1
 ·have dk:((k:Int) == (wd.length:Int))=false:=by simp only [beq_eq_false_iff_ne];omega
  obtain rfl:b=false:=bool_no HB.out fun h=>h1 (HL.out.1 h).1;clear h1;go_wp2_with fail;go_ret;exact ⟨rfl,hm0.trans hm2⟩
 ·subst h1
  rcases (Decidable.em (u=0)).symm with h2 | h2
  ·have dk:(u == 0)=false:=by simpa using h2
   obtain rfl:b=false:=bool_no HB.out fun h=>h2 (HL.out.1 h).2;clear h2;go_wp2_with fail;go_ret;exact ⟨rfl,hm0.trans hm2⟩
  ·subst h2
   obtain rfl:b=true:=HB.out.2 (HL.out.2 ⟨rfl,rfl⟩);go_wp2_with fail;go_ret;exact ⟨rfl,hm0.trans hm2⟩
end
section
open Go.RowKit
end
section
open Go.RowKit
end
section
open Go.RowKit
end
section
open Go.RowKit
end
section
open Go.RowKit
section
variable {w w':World} {lo hi a b:Nat} {A:Option Addr} {xss:List (List Int)}
end
end
end Go.Proofs.YthampgpcajmopaaGreat
