/- Contracts and lemmas of this seat, many texts in one: see the words ahead of each. No condition beyond those typed in each lemma. -/
import Derived.Test.YthampgpcajmopaaGreatCv8
import Derived.Test.YthampgpcajmopaaGreatCv1
import Derived.Test.YthampgpcajmopaaGreatCv6
import Derived.Test.YthampgpcajmopaaGreatCv5

namespace Go.Proofs.YthampgpcajmopaaGreat
set_option linter.unusedVariables false
set_option linter.unusedSimpArgs false
set_option maxHeartbeats 40000000
set_option maxRecDepth 100000
section
open Go.RowKit
theorem impl_loops (r n:Nat) (A:Option Addr) (es:List Ed) (c:Nat) (Aw:Option Addr) (wd:List Int) (cw:Nat) (w:World) (lo hi lo' hi':Nat) (hr:RG w lo hi A es) (hw:RV w lo' hi' Aw (ints wd)) (hg:IsGr r n es) (hwl:wd.length≤1048576) (hok:OkI wd) (b:Bool) (hb:b=true↔LoopP es wd) :
  Calls Tryz.prog 106 #[graV r n A es.length c,.slice Aw wd.length cw] w fun e w'=>e=.returned (.bool b)∧Mid 0 0 w w':=by
 have hm0:Mid 0 0 w (w.alloc (.cells #[.int .i64 r,.int .i64 n,.slice A es.length c] 26)):=Mid.alloc _ _;have b0:=Box.new w #[.int .i64 r,.int .i64 n,.slice A es.length c] 26;have HB:=Lib.hid hb;clear hb;go_enter Tryz.func106,Tryz.ntmps106
 go_wp2_with fail;with_reducible refine (impl_read r n A es c 0 Aw wd cw _ _ _ _ _ (hr.mid hm0 oZl) (hw.mid hm0 oZl) hg hwl hok).mono ?_
 rintro en w2 ⟨u,k,rfl,hk,hgo,hend,hm2⟩;have hrd:rdA es 0 wd=(u,k):=rdA_is hgo hk hend;have hL:LoopP es wd↔k=wd.length∧u=0:=by unfold LoopP;rw [hrd]
 have HL:=Lib.hid hL;clear hgo hend hrd hL;rcases (Decidable.em (k=wd.length)).symm with h1 | h1
 ·have dk:((k:Int) == (wd.length:Int))=false:=by simp only [beq_eq_false_iff_ne];omega
  obtain rfl:b=false:=bool_no HB.out fun h=>h1 (HL.out.1 h).1;clear h1;go_wp2_with fail;go_ret;exact ⟨rfl,hm0.trans hm2⟩
 ·subst h1
  rcases (Decidable.em (u=0)).symm with h2 | h2
  ·have dk:(u == 0)=false:=by simpa using h2
   obtain rfl:b=false:=bool_no HB.out fun h=>h2 (HL.out.1 h).2;clear h2;go_wp2_with fail;go_ret;exact ⟨rfl,hm0.trans hm2⟩
  ·subst h2
   obtain rfl:b=true:=HB.out.2 (HL.out.2 ⟨rfl,rfl⟩);go_wp2_with fail;go_ret;exact ⟨rfl,hm0.trans hm2⟩
theorem rdA_go (es:List Ed):∀ (w:List Int) (v u:Int),goV es v w=some u↔rdA es v w=(u,w.length)
 | [],v,u=>by simp [goV,rdA]
 | x :: t,v,u=>by
  rw [goV,rdA];split
  ·constructor
   ·intro h;cases h
   ·intro h
    have:=congrArg Prod.snd h;simp at this
  ·rw [rdA_go es t _ u]
   constructor
   ·intro h;rw [h];rfl
   ·intro h
    have h1:=congrArg Prod.fst h;have h2:=congrArg Prod.snd h;simp at h1 h2;exact Prod.ext h1 h2
theorem loop_go {es:List Ed} {w:List Int}:LoopP es w↔goV es 0 w=some 0:=by
 rw [rdA_go];constructor
 ·intro h;exact Prod.ext h.2 h.1
 ·intro h;exact ⟨congrArg Prod.snd h,congrArg Prod.fst h⟩
theorem spec_Contains (r n:Nat) (A:Option Addr) (es:List Ed) (c:Nat) (Aw:Option Addr) (wd:List Int) (cw:Nat) (w:World) (lo hi lo' hi':Nat) (hr:RG w lo hi A es) (hw:RV w lo' hi' Aw (ints wd)) (hc:IsCor r n es) (hword:IsW r wd) (hwl:wd.length≤1048576) (hok:OkI wd) (b:Bool) (hb:b=true↔LoopP es wd) :
  Calls Tryz.prog 24 #[graV r n A es.length c,.slice Aw wd.length cw] w fun e w'=>e=.returned (.bool b)∧Mid 0 0 w w':=by
 have hm0:Mid 0 0 w (w.alloc (.cells #[.int .i64 r,.int .i64 n,.slice A es.length c] 26)):=Mid.alloc _ _;have b0:=Box.new w #[.int .i64 r,.int .i64 n,.slice A es.length c] 26;have HB:Hid (b=true↔goV es 0 wd=some 0):=Lib.hid (hb.trans loop_go);have HOK:=Lib.hid hok;have HC:=Lib.hid hc;have hsz:=hc.gr.size;have hl:=hc.gr.len;have hRL:=fun W (h:RV W lo' hi' Aw (ints wd))=>spec_ReduceLetters Aw wd cw W hi' h.rs h.1 hok (by omega);rw [red_word hword.2.2.2] at hRL;have HRL:=Lib.hid hRL;have hWW:∀ (W:World) (A4:Option Addr) (c4 a4 b4:Nat),RG W lo hi A es→RV W a4 b4 A4 (ints wd)→Calls Tryz.prog 108 #[graV r n A es.length c,.int .i64 0,.slice A4 wd.length c4] W fun e w'=>∃ (u:Int) (b:Bool),e=.returned (.tuple #[.int .i64 u,.bool b])∧(b=true→goV es 0 wd=some u)∧(b=false→goV es 0 wd=none)∧Mid 0 0 W w' :=
  fun W A4 c4 a4 b4 h1 h2=>spec_WalkWord r n 0 A es c A4 wd c4 W lo hi a4 b4 h1 h2 hc.fol (by omega) hwl hok
 have HWW:=Lib.hid hWW;clear hb hok hc hRL hword hWW;go_enter Tryz.func24,Tryz.ntmps24
 go_wp2_with fail;generalize (w.alloc (.cells #[.int .i64 r,.int .i64 n,.slice A es.length c] 26))=w1 at hm0 b0 ⊢;have hmd:=Mid.drew1 w1;replace b0:=b0.mid hmd oZr;replace hm0:=hm0.trans hmd;have p0:=b0.cell 0 rfl;have p1:=b0.cell 1 rfl;have p2:=b0.cell 2 rfl;clear hmd;refine wp_region_Z (S:=(fun w'=>w'.cell? ⟨w.heap.size,0,none⟩=some (.int .i64 r)∧w'.cell? ⟨w.heap.size,1,none⟩=some (.int .i64 n)∧w'.cell? ⟨w.heap.size,2,none⟩=some (.slice A es.length c))) [] (by kernel_rfl) ⟨p0,p1,p2⟩ ?_;generalize World.drew w1=wz at b0 hm0 p0 p1 p2 ⊢;have hS:wz.cell? ⟨w.heap.size,0,none⟩=some (.int .i64 r)∧wz.cell? ⟨w.heap.size,1,none⟩=some (.int .i64 n)∧wz.cell? ⟨w.heap.size,2,none⟩=some (.slice A es.length c):=⟨p0,p1,p2⟩
 refine tkZ [] 0 rfl hS ?_;try simp only [Act.put,zs1,zs2,zs3,zs4,zs5,zs6]
 refine tkZ [] 1 rfl hS ?_;try simp only [Act.put,zs1,zs2,zs3,zs4,zs5,zs6]
 refine rdZ 2 rfl (fun K hK=>?_)
 (go_simp;(with_reducible refine (HRL.out _ (hw.mid hm0 oZl)).mono ?_);rintro en w4 ⟨A4,c4,rfl,ho4,hbe4⟩;have hm4:Mid 0 0 wz w4:=Mid.of_below hbe4;have b04:=b0.mid hm4 oZr;go_wp2_with fail)
 refine hK.out _ _ (Or.inr ⟨b04.cell 0 rfl,b04.cell 1 rfl,b04.cell 2 rfl⟩) (fun _=>?_);clear hK K;try simp only [Act.put,zs1,zs2,zs3,zs4,zs5,zs6]
 replace hm0:=hm0.trans hm4;clear hS p0 p1 p2 b0;refine rdZ 3 rfl (fun K hK=>?_)
 (go_simp;(with_reducible refine (HWW.out w4 A4 c4 _ _ (hr.mid hm0 oZl) (owns_rv ho4)).mono ?_);rintro en w5 ⟨u,bb,rfl,h1,h2,hm5⟩;have b05:=b04.mid hm5 oZr;go_wp2_with fail)
 refine hK.out _ _ (Or.inr ⟨b05.cell 0 rfl,b05.cell 1 rfl,b05.cell 2 rfl⟩) (fun _=>?_);clear hK K;try simp only [Act.put,zs1,zs2,zs3,zs4,zs5,zs6]
 replace hm0:=hm0.trans hm5;have hS5:=And.intro (b05.cell 0 rfl) (And.intro (b05.cell 1 rfl) (b05.cell 2 rfl));clear b04 hm4 hm5 ho4 hbe4;have HH1:=Lib.hid h1;have HH2:=Lib.hid h2;clear h1 h2;refine tkZ [] 4 rfl hS5 ?_;try simp only [Act.put,zs1,zs2,zs3,zs4,zs5,zs6]
 refine tkZ [] 5 rfl hS5 ?_;try simp only [Act.put,zs1,zs2,zs3,zs4,zs5,zs6]
 refine tkZ [] 6 rfl hS5 ?_;try simp only [Act.put,zs1,zs2,zs3,zs4,zs5,zs6]
 refine rdZ 7 rfl (fun K hK=>?_);go_simp;refine hK.out _ _ (Or.inr hS5) (fun _=>?_);clear hK K;try simp only [Act.put,zs1,zs2,zs3,zs4,zs5,zs6]
 refine rdZ 8 rfl (fun K hK=>?_);go_simp;refine hK.out _ _ (Or.inr hS5) (fun _=>?_);clear hK K;try simp only [Act.put,zs1,zs2,zs3,zs4,zs5,zs6]
 refine wpAnyZ_done (by kernel_rfl) ?_ _;clear hS5;have p0:=b05.cell 0 rfl;have p1:=b05.cell 1 rfl;have p2:=b05.cell 2 rfl;go_wp2_with fail;with_reducible refine (spec_IsSubgroup r n A es c _ _ _ (hr.mid hm0 oZl) (by omega) true (iff_of_true rfl HC.out)).mono ?_
 rintro en w6 ⟨rfl,hm6⟩;replace hm0:=hm0.trans hm6;cases bb with
 | false =>
  obtain rfl:b=false:=bool_no HB.out fun h=>by have:=HH2.out rfl;rw [h] at this;cases this
  go_wp2_with fail;go_ret;exact ⟨rfl,hm0⟩
 | true =>
  rcases (Decidable.em (u=0)).symm with hu | hu
  ·have du:(u == 0)=false:=by simpa using hu
   obtain rfl:b=false:=bool_no HB.out fun h=>by have:=HH1.out rfl;rw [h] at this;injection this with this;exact hu this.symm
   clear hu;go_wp2_with fail;go_ret;exact ⟨rfl,hm0⟩
  ·subst hu
   obtain rfl:b=true:=HB.out.2 (HH1.out rfl);go_wp2_with fail;go_ret;exact ⟨rfl,hm0⟩
theorem spec_l16Hair (r n:Nat) (A:Option Addr) (es:List Ed) (c:Nat) (Aw:Option Addr) (wd:List Int) (cw:Nat) (w:World) (lo hi lo' hi':Nat) (hr:RG w lo hi A es) (hw:RV w lo' hi' Aw (ints wd)) (hcw:wd.length≤cw) (hf:IsFol r n es) (hwl:wd.length≤1048576) (hok:OkI wd)
  (b:Bool) (s2:Int) (es2:List Ed) (x:Int) (he:ExtIs r n es wd b s2 es2 x) :
  Calls Tryz.prog 143 #[graV r n A es.length c,.slice Aw wd.length cw] w fun e w'=>∃ (A1:Option Addr) (c1:Nat) (rr rs1:Int) (es1:List Ed),e=.returned (.tuple #[graV rr rs1 A1 es1.length c1,.bool b])∧(b=true→rr=r∧rs1=s2∧es1=es2)∧OG w' w.heap.size w'.heap.size A1 c1 es1∧Mid 0 0 w w':=by
 have hm0:Mid 0 0 w ((w.alloc (.cells #[.int .i64 r,.int .i64 n,.slice A es.length c] 26)).alloc (.cells #[.int .i64 0,.int .i64 0,.slice none 0 0] 26)):=(Mid.alloc _ _).trans (Mid.alloc _ _);have b0:=(Box.new w #[.int .i64 r,.int .i64 n,.slice A es.length c] 26).mid (Mid.alloc _ (.cells #[.int .i64 0,.int .i64 0,.slice none 0 0] 26)) oZr;have b2:=Box.new (w.alloc (.cells #[.int .i64 r,.int .i64 n,.slice A es.length c] 26)) #[.int .i64 0,.int .i64 0,.slice none 0 0] 26;simp only [World.size_alloc] at b2;have HOK:=Lib.hid hok;have HC0:=Lib.hid hf;have HE:=Lib.hid he;have hsz:=hf.gr.size;have hl:=hf.gr.len;clear hok hf he;go_enter Tryz.func143,Tryz.ntmps143
 go_wp2_with fail;generalize ((w.alloc (.cells #[.int .i64 r,.int .i64 n,.slice A es.length c] 26)).alloc (.cells #[.int .i64 0,.int .i64 0,.slice none 0 0] 26))=w3 at hm0 b0 b2 ⊢;have hs1:w.heap.size+1 < w3.heap.size:=b2.1;have p0:=b0.cell 0 rfl;have p1:=b0.cell 1 rfl;have p2:=b0.cell 2 rfl;have hn1:1≤n∧n≤40:=by omega
 have hz0:((0:Nat):Int)=0:=rfl;have hRL:=fun W h1 h2=>spec_ReadLength r n 0 A es c Aw wd cw W lo hi lo' hi' h1 h2 HC0.out (by omega) hwl HOK.out;simp only [hz0] at hRL;obtain ⟨u,k,hrd⟩:∃ u k,rdA es 0 wd=(u,k):=⟨_,_,rfl⟩
 have hk2:(rdA es 0 wd).2=k:=by rw [hrd]
 have hk1:(rdA es 0 wd).1=u:=by rw [hrd]
 have hgo:=goV_rdA (es:=es) wd 0;have hkl:=rdA_le es wd 0;have hu:=rdA_in HC0.out.gr.all wd (v:=0) (by omega);rw [hk2,hk1] at hgo;rw [hk2] at hkl;rw [hk1] at hu;simp only [hk2] at hRL;have HK1:=Lib.hid hk1;have HK2:=Lib.hid hk2;have HRL:=Lib.hid hRL;have htl:(wd.take k).length=k:=by rw [List.length_take];omega
 have hWW:∀ W,RG W lo hi A es→RV W lo' hi' Aw (ints wd)→Calls Tryz.prog 108 #[graV r n A es.length c,.int .i64 0,.slice Aw k cw] W fun e w'=>e=.returned (.tuple #[.int .i64 u,.bool true])∧Mid 0 0 W w':=by
  intro W h1 h2;have h3:=spec_WalkWord r n 0 A es c Aw (wd.take k) cw W lo hi lo' hi' h1 (h2.takeI k) HC0.out (by omega) (by omega) (fun q hq=>HOK.out q (List.mem_of_mem_take hq));rw [htl] at h3;refine h3.mono ?_;rintro e w' ⟨u',b',rfl,h4,h5,h6⟩;have hz:goV es ((0:Nat):Int) (wd.take k)=some u:=hgo;cases b' with
  | true =>
   have:=h4 rfl;rw [hz] at this;injection this with this
   subst this;exact ⟨rfl,h6⟩
  | false =>
   have:=h5 rfl;rw [hz] at this;cases this
 have HWW:=Lib.hid hWW;clear hrd hk2 hk1 hgo hz0 hRL htl hWW;with_reducible refine (HRL.out _ (hr.mid hm0 oZl) (hw.mid hm0 oZl)).mono ?_
 rintro en w4 ⟨rfl,hm4⟩;replace b0:=b0.mid hm4 oZr;replace b2:=b2.mid hm4 oZr;replace hm0:=hm0.trans hm4;have hs4:=hm4.size;clear hm4 HRL p0 p1 p2;rcases Nat.lt_or_ge k wd.length with hlt | hge
 ·have dk:((k:Int) == (wd.length:Int))=false:=by simp only [beq_eq_false_iff_ne];omega
  have hdl:(wd.drop k).length=wd.length - k:=List.length_drop;have hkc:k≤cw:=by omega
  have hkw:(k:Int)≤(wd.length:Int):=by omega
  have v0:=wg_cell b0.1 (b0.cell 0 rfl);have v1:=wg_cell b0.1 (b0.cell 1 rfl);have v2:=wg_cell b0.1 (b0.cell 2 rfl);have hA:∀ (m:Nat) (os:Array Obj),Calls Tryz.prog 108 #[graV r n A es.length c,.int .i64 0,.slice Aw k cw] (wg w4 m os) fun e w''=>e=.returned (.tuple #[.int .i64 u,.bool true])∧∃ q:GB,w''=wg w4 q.n q.os:=fun m os =>
   Calls.wg_of (HWW.out (wg w4 m os) (hr.mid (hm0.trans (Mid.ofWg w4 m os)) oZl) (hw.mid (hm0.trans (Mid.ofWg w4 m os)) oZl))
  go_wp2_with fail;refine wp_region_quiet_wg (by kernel_rfl) (by kernel_rfl) ?_;repeat
   (with_reducible refine wpQuiet_step (fun K hK=>?_))
   go_simp
   first
    | ((with_reducible refine hK _ ?_);clear hK K)
    | (rw [if_neg (by decide)];(with_reducible refine hK _ ?_);clear hK K)
    | (apply Exists.intro;refine ⟨fun _=>?_,hK _ ?_⟩;((go_at_call 108;with_reducible exact hA _ _));clear hK K)
  with_reducible refine wpQuiet_nil ?_
  intro _ hw';obtain ⟨⟨nq,osq⟩,hw''⟩:=hw';subst hw'';have hwg:=Mid.ofWg w4 nq osq;have hs5:=hwg.size;generalize wg w4 nq osq=w5 at hwg hs5 ⊢;replace b0:=b0.mid hwg oZr;replace b2:=b2.mid hwg oZr;replace hm0:=hm0.trans hwg;clear v0 v1 v2 hA HWW hwg;have p0:=b0.cell 0 rfl;have p1:=b0.cell 1 rfl;have p2:=b0.cell 2 rfl;go_wp2_with fail;generalize w5=w7 at b0 b2 hm0 hs5 p0 p1 p2 ⊢;by_cases h40:n < 40
  ·have hav:AvIs r n es ((n:Int)+1) true:=.inl ⟨rfl,⟨HC0.out.gr,by omega⟩,rfl⟩
   with_reducible refine (spec_AddVertex r n A es c w7 _ _ (hr.mid hm0 oZl) (by omega) ((n:Int)+1) true hav).mono ?_
   rintro en w8 ⟨A8,c8,rfl,ho8,hm8⟩;have hs8:=hm8.size;have ha8:=Mid.alloc w8 (.cells #[.int .i64 r,.int .i64 ((n:Int)+1),.slice A8 es.length c8] 26);have Y8:=Box.new w8 #[.int .i64 r,.int .i64 ((n:Int)+1),.slice A8 es.length c8] 26;replace b0:=b0.mid hm8 oZr;replace b2:=b2.mid hm8 oZr;replace hm0:=hm0.trans hm8;replace b0:=b0.mid ha8 oZr;replace b2:=b2.mid ha8 oZr;replace ho8:=ho8.mid ha8 oZl;replace hm0:=hm0.trans ha8;have hsb:=ha8.size;clear p0 p1 p2 ha8 hm8 hav;have p0:=b0.cell 0 rfl;have p1:=b0.cell 1 rfl;have p2:=b0.cell 2 rfl;go_wp2_with fail;generalize w8.alloc (.cells #[.int .i64 r,.int .i64 ((n:Int)+1),.slice A8 es.length c8] 26)=w9 at b0 b2 Y8 ho8 hm0 hsb p0 p1 p2 ⊢;have hb8:w8.heap.size < w9.heap.size:=Y8.1;obtain ⟨rs2,res2,bb,hPI⟩:=PathIs_ex (r:Int) ((n:Int)+1) es u (wd.drop k) n;have HPI:=Lib.hid hPI;clear hPI;obtain ⟨Bw,ow,rfl⟩:∃ Bw ow,Aw=some ⟨Bw,ow,none⟩:=by
    obtain ⟨B,off,y,h1, -⟩:=hw.at hlt;exact ⟨B,off,h1⟩
   have hmd:=Mid.drew1 w9;have hsd:=hmd.size;replace b0:=b0.mid hmd oZr;replace b2:=b2.mid hmd oZr;replace Y8:=Y8.mid hmd oZr;replace ho8:=ho8.mid hmd oZl;replace hm0:=hm0.trans hmd;clear p0 p1 p2;have p0:=b0.cell 0 rfl;have p1:=b0.cell 1 rfl;have p2:=b0.cell 2 rfl;have y0:=Y8.cell 0 rfl;have y1:=Y8.cell 1 rfl;have y2:=Y8.cell 2 rfl;have hdo:OkI (wd.drop k):=fun q hq=>HOK.out q (List.mem_of_mem_drop hq);have hck:¬ cw=k:=by omega
   have hP:=fun W (h1:RG W w7.heap.size w8.heap.size A8 es) (h2:RV W lo' hi' (some ⟨Bw,ow+k,none⟩) (ints (wd.drop k)))=>spec_AddPath r ((n:Int)+1) A8 es c8 u (some ⟨Bw,ow+k,none⟩) (wd.drop k) (cw - k) n W _ _ _ _ h1 h2 (by omega) (by omega) hdo rs2 res2 bb HPI.out;rw [hdl] at hP;have HP:=Lib.hid hP;clear hP hdo hdl;refine wp_region_Z (S:=(fun w'=>(w'.cell? ⟨w8.heap.size,0,none⟩=some (.int .i64 r)∧w'.cell? ⟨w8.heap.size,1,none⟩=some (.int .i64 ((n:Int)+1))∧w'.cell? ⟨w8.heap.size,2,none⟩=some (.slice A8 es.length c8))∧w'.cell? ⟨w.heap.size,1,none⟩=some (.int .i64 n))) [] (by kernel_rfl) ⟨⟨y0,y1,y2⟩,p1⟩ ?_;generalize World.drew w9=wz at b0 b2 Y8 ho8 hm0 p0 p1 p2 y0 y1 y2 hsd ⊢;have hS:(wz.cell? ⟨w8.heap.size,0,none⟩=some (.int .i64 r)∧wz.cell? ⟨w8.heap.size,1,none⟩=some (.int .i64 ((n:Int)+1))∧wz.cell? ⟨w8.heap.size,2,none⟩=some (.slice A8 es.length c8))∧wz.cell? ⟨w.heap.size,1,none⟩=some (.int .i64 n):=⟨⟨y0,y1,y2⟩,p1⟩
   have b2z:w.heap.size+1 < wz.heap.size:=b2.1;refine tkZ [] 0 rfl hS ?_;try simp only [Act.put,zs1,zs2,zs3,zs4,zs5,zs6]
   refine tkZ [] 1 rfl hS ?_;try simp only [Act.put,zs1,zs2,zs3,zs4,zs5,zs6]
   refine tkZ [] 2 rfl hS ?_;try simp only [Act.put,zs1,zs2,zs3,zs4,zs5,zs6]
   refine tkZ [] 3 rfl hS ?_;try simp only [Act.put,zs1,zs2,zs3,zs4,zs5,zs6]
   refine tkZ [] 4 rfl hS ?_;try simp only [Act.put,zs1,zs2,zs3,zs4,zs5,zs6]
   refine tkZ [] 5 rfl hS ?_;try simp only [Act.put,zs1,zs2,zs3,zs4,zs5,zs6]
   refine tkZ [] 6 rfl hS ?_;try simp only [Act.put,zs1,zs2,zs3,zs4,zs5,zs6]
   refine wpAnyZ_ready (rs:=[7,11]) (by kernel_rfl) (by simp) (AllReadyZ.cons rfl (fun K hK=>?_) (AllReadyZ.cons rfl (fun K hK=>?_) AllReadyZ.nil))
   ·(go_simp;(with_reducible refine (HP.out _ ho8.rg ((hw.mid hm0 oZl).dropI k)).mono ?_);rintro en w10 ⟨A10,c10,rfl,ho10,hm10⟩;have Y80:=Y8.mid hm10 oZr;have b00:=b0.mid hm10 oZr;go_wp2_with fail)
    refine hK.out _ _ (Or.inr ⟨⟨Y80.cell 0 rfl,Y80.cell 1 rfl,Y80.cell 2 rfl⟩,b00.cell 1 rfl⟩) (fun _=>?_);clear hK K;try simp only [Act.put,zs1,zs2,zs3,zs4,zs5,zs6]
    replace b2:=b2.mid hm10 oZr;replace hm0:=hm0.trans hm10;have hs10:=hm10.size;have hS10:=And.intro (And.intro (Y80.cell 0 rfl) (And.intro (Y80.cell 1 rfl) (Y80.cell 2 rfl))) (b00.cell 1 rfl);clear Y8 hS y0 y1 y2 p0 p1 p2 ho8 b0 HP;refine tkZ [] 8 rfl hS10 ?_;try simp only [Act.put,zs1,zs2,zs3,zs4,zs5,zs6]
    refine tkZ [] 9 rfl hS10 ?_;try simp only [Act.put,zs1,zs2,zs3,zs4,zs5,zs6]
    refine tkZ [] 10 rfl hS10 ?_;try simp only [Act.put,zs1,zs2,zs3,zs4,zs5,zs6]
    have hal:=Mid.alloc w10 (.cells #[.int .i64 0,.int .i64 0,.slice none 0 0] 26);have Y81:=Y80.mid hal oZr;have b01:=b00.mid hal oZr;refine rdZ 11 rfl (fun K hK=>?_);go_simp;refine hK.out _ _ (Or.inr ⟨⟨Y81.cell 0 rfl,Y81.cell 1 rfl,Y81.cell 2 rfl⟩,b01.cell 1 rfl⟩) (fun _=>?_);clear hK K;try simp only [Act.put,zs1,zs2,zs3,zs4,zs5,zs6]
    clear hal Y81 b01;have hal:=Mid.alloc w10 (.cells #[.int .i64 r,.int .i64 rs2,.slice A10 res2.length c10] 26);have Y81:=Y80.mid hal oZr;have b01:=b00.mid hal oZr;refine rdZ 12 rfl (fun K hK=>?_);go_simp;refine hK.out _ _ (Or.inr ⟨⟨Y81.cell 0 rfl,Y81.cell 1 rfl,Y81.cell 2 rfl⟩,b01.cell 1 rfl⟩) (fun _=>?_);clear hK K;try simp only [Act.put,zs1,zs2,zs3,zs4,zs5,zs6]
    refine rdZ 13 rfl (fun K hK=>?_);go_simp;refine hK.out _ _ (Or.inr ⟨⟨Y81.cell 0 rfl,Y81.cell 1 rfl,Y81.cell 2 rfl⟩,b01.cell 1 rfl⟩) (fun _=>?_);clear hK K;try simp only [Act.put,zs1,zs2,zs3,zs4,zs5,zs6]
    refine wpAnyZ_done (by kernel_rfl) ?_ _;have Zb:=Box.new w10 #[.int .i64 r,.int .i64 rs2,.slice A10 res2.length c10] 26;have ho11:=ho10.mid hal oZl;replace b2:=b2.mid hal oZr;replace hm0:=hm0.trans hal;clear Y80 Y81 b00 hS10 hal ho10 hm10;generalize w10.alloc (.cells #[.int .i64 r,.int .i64 rs2,.slice A10 res2.length c10] 26)=w11 at b2 Zb ho11 hm0 ⊢;have hgz:w.heap.size+1 < w10.heap.size:=Nat.lt_of_lt_of_le b2z hs10;generalize w10.heap.size=Gz at Zb hgz ho11 ⊢;have hpi:=HPI.out;have hb11:=b2.1;have z0:=b2.cell 0 rfl;have z1:=b2.cell 1 rfl;have z2:=b2.cell 2 rfl;have q0:=Zb.cell 0 rfl;have q1:=Zb.cell 1 rfl;have q2:=Zb.cell 2 rfl;have zf:=b2.2.2;have hne6:(w.heap.size+1 == Gz)=false:=by simp;omega
    have hbb:b=bb∧(bb=true→s2=rs2∧es2=res2):=by
     cases bb with
     | false =>
      rcases hpi with ⟨h, -⟩ | ⟨-,hno, -, -⟩
      ·cases h
      ·obtain ⟨rfl, -, -, -⟩:=HE.out.not (by rw [HK2.out];exact hlt) (by rw [HK1.out,HK2.out];exact fun h=>hno h.2)
       exact ⟨rfl,fun h=>by cases h⟩
     | true =>
      rcases hpi with ⟨-,hok,hrs,hre⟩ | ⟨h, -⟩
      ·obtain ⟨rfl,h2,h3,hxn⟩:=HE.out.more (by rw [HK2.out];exact hlt) (by rw [HK1.out,HK2.out];exact ⟨by omega,hok⟩)
       rw [HK2.out] at h2;rw [HK1.out,HK2.out] at h3;exact ⟨rfl,fun _=>⟨h2.trans hrs.symm,h3.trans hre.symm⟩⟩
      ·cases h
    have HBB:=Lib.hid hbb;obtain rfl:b=bb:=hbb.1;clear hpi hbb HE HPI;go_wp2_with fail;refine bodyPost_ret (v:=.tuple #[.agg #[.int .i64 r,.int .i64 rs2,.slice A10 res2.length c10],.bool b]) (by simp [results,Tryz.results143,go_sem,z0,z1,z2,zf,q0,q1,q2]) rfl ⟨A10,c10,r,rs2,res2,rfl,fun h=>⟨rfl,(HBB.out.2 h).1.symm,(HBB.out.2 h).2.symm⟩,?_,?_⟩
    ·refine OG.wide (OG.mid ho11 (a:=w.heap.size+1) (b:=w.heap.size+2) ?_ (Or.inl (by omega))) (by omega) (by have:=ho11.size;simp;omega) (Nat.le_refl _)
     repeat (first | exact Mid.refl _ _ _ | refine Mid.trans ?_ (Mid.zero (Mid.alloc _ _)) | refine Mid.stored ?_ _ (by simp;try omega) (by simp;try omega))
    ·repeat (first | exact hm0 | refine Mid.trans ?_ (Mid.alloc _ _) | refine Mid.storeNew ?_ (by simp;try omega) _)
   ·have hal:=Mid.alloc wz (.cells #[.int .i64 0,.int .i64 0,.slice none 0 0] 26)
    have Y81:=Y8.mid hal oZr;have b01:=b0.mid hal oZr;have Zb:=Box.new wz #[.int .i64 0,.int .i64 0,.slice none 0 0] 26;have ho81:=ho8.mid hal oZl;have hsl:=hal.size;go_simp;refine hK.out _ _ (Or.inr ⟨⟨Y81.cell 0 rfl,Y81.cell 1 rfl,Y81.cell 2 rfl⟩,b01.cell 1 rfl⟩) (fun _=>?_);clear hK K;try simp only [Act.put,zs1,zs2,zs3,zs4,zs5,zs6]
    replace b2:=b2.mid hal oZr;replace hm0:=hm0.trans hal;clear Y8 hS y0 y1 y2 p0 p1 p2 ho8 b0 hal;have hzb:wz.heap.size < (wz.alloc (.cells #[.int .i64 0,.int .i64 0,.slice none 0 0] 26)).heap.size:=Zb.1;generalize wz.alloc (.cells #[.int .i64 0,.int .i64 0,.slice none 0 0] 26)=wy at Y81 b01 Zb ho81 b2 hm0 hsl hzb ⊢;refine rdZ 7 rfl (fun K hK=>?_)
    (go_simp;(with_reducible refine (HP.out _ ho81.rg ((hw.mid hm0 oZl).dropI k)).mono ?_);rintro en w10 ⟨A10,c10,rfl,ho10,hm10⟩;have Y80:=Y81.mid hm10 oZr;have b00:=b01.mid hm10 oZr;go_wp2_with fail)
    refine hK.out _ _ (Or.inr ⟨⟨Y80.cell 0 rfl,Y80.cell 1 rfl,Y80.cell 2 rfl⟩,b00.cell 1 rfl⟩) (fun _=>?_);clear hK K;try simp only [Act.put,zs1,zs2,zs3,zs4,zs5,zs6]
    replace b2:=b2.mid hm10 oZr;replace Zb:=Zb.mid hm10 oZr;replace hm0:=hm0.trans hm10;have hs10:=hm10.size;have hS10:=And.intro (And.intro (Y80.cell 0 rfl) (And.intro (Y80.cell 1 rfl) (Y80.cell 2 rfl))) (b00.cell 1 rfl);clear Y81 b01 ho81 HP;refine tkZ [] 8 rfl hS10 ?_;try simp only [Act.put,zs1,zs2,zs3,zs4,zs5,zs6]
    refine tkZ [] 9 rfl hS10 ?_;try simp only [Act.put,zs1,zs2,zs3,zs4,zs5,zs6]
    refine tkZ [] 10 rfl hS10 ?_;try simp only [Act.put,zs1,zs2,zs3,zs4,zs5,zs6]
    have zzf:=Zb.2.2;have zz0:=Zb.cell 0 rfl;have zz1:=Zb.cell 1 rfl;have zz2:=Zb.cell 2 rfl;have hst:=((Mid.setCell w10 (lo:=wz.heap.size) (hi:=wz.heap.size+1) (p:=⟨wz.heap.size,0,none⟩) (.int .i64 r) (Nat.le_refl _) (Nat.lt_succ_self _)).trans (Mid.setCell _ (lo:=wz.heap.size) (hi:=wz.heap.size+1) (p:=⟨wz.heap.size,1,none⟩) (.int .i64 rs2) (Nat.le_refl _) (Nat.lt_succ_self _))).trans (Mid.setCell _ (lo:=wz.heap.size) (hi:=wz.heap.size+1) (p:=⟨wz.heap.size,2,none⟩) (.slice A10 res2.length c10) (Nat.le_refl _) (Nat.lt_succ_self _));have Y82:=Y80.mid hst (Or.inl (by omega));have b02:=b00.mid hst (Or.inl (by omega));refine rdZ 12 rfl (fun K hK=>?_);go_simp;refine hK.out _ _ (Or.inr ⟨⟨Y82.cell 0 rfl,Y82.cell 1 rfl,Y82.cell 2 rfl⟩,b02.cell 1 rfl⟩) (fun _=>?_);clear hK K;try simp only [Act.put,zs1,zs2,zs3,zs4,zs5,zs6]
    refine rdZ 13 rfl (fun K hK=>?_);go_simp;refine hK.out _ _ (Or.inr ⟨⟨Y82.cell 0 rfl,Y82.cell 1 rfl,Y82.cell 2 rfl⟩,b02.cell 1 rfl⟩) (fun _=>?_);clear hK K;try simp only [Act.put,zs1,zs2,zs3,zs4,zs5,zs6]
    refine wpAnyZ_done (by kernel_rfl) ?_ _;have ho11:=ho10.mid hst (Or.inl (by omega));replace b2:=b2.mid hst (Or.inl (by omega));replace Zb:=((Zb.set 0 (.int .i64 r) (by simp) rfl).set 1 (.int .i64 rs2) (by simp) rfl).set 2 (.slice A10 res2.length c10) (by simp) rfl;simp only [List.set_cons_succ,List.set_cons_zero] at Zb;replace hm0:=((hm0.storeNew (p:=⟨wz.heap.size,0,none⟩) (by show w.heap.size≤wz.heap.size;omega) (.int .i64 r)).storeNew (p:=⟨wz.heap.size,1,none⟩) (by show w.heap.size≤wz.heap.size;omega) (.int .i64 rs2)).storeNew (p:=⟨wz.heap.size,2,none⟩) (by show w.heap.size≤wz.heap.size;omega) (.slice A10 res2.length c10);clear Y80 Y82 b00 b02 hS10 hst ho10 hm10 zz0 zz1 zz2 zzf;generalize ((w10.setCell ⟨wz.heap.size,0,none⟩ (.int .i64 r)).setCell ⟨wz.heap.size,1,none⟩ (.int .i64 rs2)).setCell ⟨wz.heap.size,2,none⟩ (.slice A10 res2.length c10)=w11 at b2 Zb ho11 hm0 ⊢;have hgz:w.heap.size+1 < wz.heap.size:=b2z;generalize wz.heap.size=Gz at Zb hgz ⊢;have hpi:=HPI.out;have hb11:=b2.1;have z0:=b2.cell 0 rfl;have z1:=b2.cell 1 rfl;have z2:=b2.cell 2 rfl;have q0:=Zb.cell 0 rfl;have q1:=Zb.cell 1 rfl;have q2:=Zb.cell 2 rfl;have zf:=b2.2.2;have hne6:(w.heap.size+1 == Gz)=false:=by simp;omega
    have hbb:b=bb∧(bb=true→s2=rs2∧es2=res2):=by
     cases bb with
     | false =>
      rcases hpi with ⟨h, -⟩ | ⟨-,hno, -, -⟩
      ·cases h
      ·obtain ⟨rfl, -, -, -⟩:=HE.out.not (by rw [HK2.out];exact hlt) (by rw [HK1.out,HK2.out];exact fun h=>hno h.2)
       exact ⟨rfl,fun h=>by cases h⟩
     | true =>
      rcases hpi with ⟨-,hok,hrs,hre⟩ | ⟨h, -⟩
      ·obtain ⟨rfl,h2,h3,hxn⟩:=HE.out.more (by rw [HK2.out];exact hlt) (by rw [HK1.out,HK2.out];exact ⟨by omega,hok⟩)
       rw [HK2.out] at h2;rw [HK1.out,HK2.out] at h3;exact ⟨rfl,fun _=>⟨h2.trans hrs.symm,h3.trans hre.symm⟩⟩
      ·cases h
    have HBB:=Lib.hid hbb;obtain rfl:b=bb:=hbb.1;clear hpi hbb HE HPI;go_wp2_with fail;refine bodyPost_ret (v:=.tuple #[.agg #[.int .i64 r,.int .i64 rs2,.slice A10 res2.length c10],.bool b]) (by simp [results,Tryz.results143,go_sem,z0,z1,z2,zf,q0,q1,q2]) rfl ⟨A10,c10,r,rs2,res2,rfl,fun h=>⟨rfl,(HBB.out.2 h).1.symm,(HBB.out.2 h).2.symm⟩,?_,?_⟩
    ·refine OG.wide (OG.mid ho11 (a:=w.heap.size+1) (b:=w.heap.size+2) ?_ (Or.inl (by omega))) (by omega) (by have:=ho11.size;simp;omega) (Nat.le_refl _)
     repeat (first | exact Mid.refl _ _ _ | refine Mid.trans ?_ (Mid.zero (Mid.alloc _ _)) | refine Mid.stored ?_ _ (by simp;try omega) (by simp;try omega))
    ·repeat (first | exact hm0 | refine Mid.trans ?_ (Mid.alloc _ _) | refine Mid.storeNew ?_ (by simp;try omega) _)
  ·obtain rfl:n=40:=by omega
   have hav:AvIs r ((40:Nat):Int) es ((40:Nat):Int) false:=.inr ⟨rfl,fun h=>by have:=h.2;omega,rfl⟩;obtain ⟨rfl, -, -, -⟩:=HE.out.not (by rw [HK2.out];exact hlt) (fun h=>by have:=h.1;omega);with_reducible refine (spec_AddVertex r ((40:Nat):Int) A es c w7 _ _ (hr.mid hm0 oZl) (by omega) ((40:Nat):Int) false hav).mono ?_
   rintro en w8 ⟨A8,c8,rfl,ho8,hm8⟩;replace b2:=b2.mid hm8 oZr;replace hm0:=hm0.trans hm8;have hb23:w.heap.size+1 < w8.heap.size:=b2.1;have hb22:w.heap.size < w8.heap.size:=by omega
   have z0:=b2.cell 0 rfl;have z1:=b2.cell 1 rfl;have z2:=b2.cell 2 rfl;have zf:=b2.2.2;clear p0 p1 p2 hav HE;go_wp2_with fail;refine bodyPost_ret (v:=.tuple #[.agg #[.int .i64 0,.int .i64 0,.slice none 0 0],.bool false]) (by simp [results,Tryz.results143,go_sem,z0,z1,z2,zf,hb22,hb23,World.cell?_alloc_lt]) rfl ⟨none,0,0,0,[],rfl,fun h=>(by cases h),OG.nil,?_⟩;repeat (first | exact hm0 | refine Mid.trans ?_ (Mid.alloc _ _) | refine Mid.storeNew ?_ (by simp;try omega) _)
 ·obtain rfl:k=wd.length:=by omega
  obtain ⟨rfl,rfl,rfl,hxu⟩:=HE.out.full HK2.out;have p0:=b0.cell 0 rfl;have p1:=b0.cell 1 rfl;have p2:=b0.cell 2 rfl;clear HE hxu HWW;go_wp2_with fail;with_reducible refine (spec_l4Copy r n A es2 c _ _ _ (hr.mid hm0 oZl) (by omega)).mono ?_
  rintro en w6 ⟨A6,c6,rfl,ho6,hm6⟩;have hs6:=hm6.size;replace b2:=b2.mid hm6 oZr;replace hm0:=hm0.trans hm6;have hb11:=b2.1;have z0:=b2.cell 0 rfl;have z1:=b2.cell 1 rfl;have z2:=b2.cell 2 rfl;have zf:=b2.2.2;clear p0 p1 p2;go_wp2_with fail;refine bodyPost_ret (v:=.tuple #[.agg #[.int .i64 r,.int .i64 n,.slice A6 es2.length c6],.bool true]) (by simp [results,Tryz.results143,go_sem,z0,z1,z2,zf]) rfl ⟨A6,c6,r,n,es2,rfl,⟨rfl,rfl,rfl⟩,?_,?_⟩
  ·refine OG.wide (OG.mid ho6 (a:=w.heap.size+1) (b:=w.heap.size+2) ?_ (Or.inl (by omega))) (by omega) (by simp;try omega) (Nat.le_refl _)
   repeat (first | exact Mid.refl _ _ _ | refine Mid.trans ?_ (Mid.zero (Mid.alloc _ _)) | refine Mid.stored ?_ _ (by simp;try omega) (by simp;try omega))
  ·repeat (first | exact hm0 | refine Mid.trans ?_ (Mid.alloc _ _) | refine Mid.storeNew ?_ (by simp;try omega) _)
end
def Sp (es:List Ed) (u x v:Int):Prop:=(0 < x∧(⟨u,x,v⟩:Ed)∈es) ∨ (x < 0∧(⟨v, -x,u⟩:Ed)∈es)
def Pa (es:List Ed):Int→List Int→Int→Prop
 | u,[],v=>u=v
 | u,x :: w,v=>∃ t,Sp es u x t∧Pa es t w v
theorem Sp.neg {es:List Ed} {u x v:Int} (h:Sp es u x v):Sp es v (-x) u:=by
 rcases h with ⟨h1,h2⟩ | ⟨h1,h2⟩
 ·exact .inr ⟨by omega,by rw [Int.neg_neg];exact h2⟩
 ·exact .inl ⟨by omega,h2⟩
theorem sp_edge {es:List Ed} {e:Ed} (h:e∈es) (hl:0 < e.l):Sp es e.a e.l e.b:=.inl ⟨hl,h⟩
theorem sp_endOf {es:List Ed} {u x v:Int}:Sp es u x v↔∃ e∈es,endOf u x e=some v:=by
 constructor
 ·rintro (⟨h1,h2⟩ | ⟨h1,h2⟩)
  ·exact ⟨_,h2,endOf_some.2 (.inl ⟨h1,rfl,rfl,rfl⟩)⟩
  ·exact ⟨_,h2,endOf_some.2 (.inr ⟨h1,rfl,rfl,rfl⟩)⟩
 ·rintro ⟨e,he,h⟩
  rcases endOf_some.1 h with ⟨h1,rfl,rfl,rfl⟩ | ⟨h1,h2,rfl,rfl⟩
  ·exact .inl ⟨h1,he⟩
  ·refine .inr ⟨h1,?_⟩
   rw [← h2];exact he
theorem sp_ends {es:List Ed} {u x v:Int}:Sp es u x v↔v∈ends es u x:=sp_endOf.trans mem_ends.symm
theorem Sp.rng {r s:Int} {es:List Ed} (hg:∀ e∈es,InG r s e) {u x v:Int} (h:Sp es u x v):(0≤u∧u < s)∧(0≤v∧v < s)∧x≠0∧-r≤x∧x≤r:=by
 rcases h with ⟨h1,h2⟩ | ⟨h1,h2⟩
 ·have:=hg _ h2
  simp only [InG] at this;omega
 ·have:=hg _ h2
  simp only [InG] at this;omega
theorem Sp.lt3 {r s:Int} {es:List Ed} (hg:IsGr r s es) {u x v:Int} (h:Sp es u x v):Lt3 x:=by
 have h1:=h.rng hg.all;have h2:=hg.rank;unfold Lt3;omega
theorem Sp.mono {es fs:List Ed} (hs:∀ e∈es,e∈fs) {u x v:Int} (h:Sp es u x v):Sp fs u x v:=h.imp (fun h=>⟨h.1,hs _ h.2⟩) (fun h=>⟨h.1,hs _ h.2⟩)
theorem Pa.mono {es fs:List Ed} (hs:∀ e∈es,e∈fs):∀ {w:List Int} {u v:Int},Pa es u w v→Pa fs u w v
 | [],_,_,h=>h
 | _ :: _,_,_,⟨t,h1,h2⟩=>⟨t,h1.mono hs,h2.mono hs⟩
theorem Pa.nil (es:List Ed) (u:Int):Pa es u [] u:=rfl
theorem pa_one {es:List Ed} {u x v:Int}:Pa es u [x] v↔Sp es u x v:=by
 constructor
 ·rintro ⟨t,h,rfl⟩
  exact h
 ·exact fun h=>⟨v,h,rfl⟩
theorem pa_app {es:List Ed} {b:List Int} {v:Int}:∀ {a:List Int} {u:Int},Pa es u (a++b) v↔∃ t,Pa es u a t∧Pa es t b v
 | [],u=>⟨fun h=>⟨u,rfl,h⟩,fun ⟨t,h1,h2⟩=>by cases h1;exact h2⟩
 | x :: a,u=>by
  constructor
  ·rintro ⟨t,h1,h2⟩
   obtain ⟨s,h3,h4⟩:=pa_app.1 h2;exact ⟨s,⟨t,h1,h3⟩,h4⟩
  ·rintro ⟨s,⟨t,h1,h3⟩,h4⟩
   exact ⟨t,h1,pa_app.2 ⟨s,h3,h4⟩⟩
theorem Pa.app {es:List Ed} {a b:List Int} {u t v:Int} (h:Pa es u a t) (k:Pa es t b v):Pa es u (a++b) v:=pa_app.2 ⟨t,h,k⟩
theorem Pa.snoc {es:List Ed} {a:List Int} {u t x v:Int} (h:Pa es u a t) (k:Sp es t x v):Pa es u (a++[x]) v:=h.app (pa_one.2 k)
theorem Pa.lt {r s:Int} {es:List Ed} (hg:IsGr r s es):∀ {w:List Int} {u v:Int},Pa es u w v→LtW w
 | [],_,_,_=>LtW.nil
 | _ :: _,_,_,⟨t,h1,h2⟩=>LtW.cons (h1.lt3 hg) (h2.lt hg)
theorem Pa.rng {r s:Int} {es:List Ed} (hg:∀ e∈es,InG r s e):∀ {w:List Int} {u v:Int},Pa es u w v→0≤u∧u < s→0≤v∧v < s
 | [],_,_,h,hu=>by cases h;exact hu
 | _ :: _,_,_,⟨t,h1,h2⟩,_=>h2.rng hg (h1.rng hg).2.1
theorem Pa.inv {r s:Int} {es:List Ed} (hg:IsGr r s es):∀ {w:List Int} {u v:Int},Pa es u w v→Pa es v (invW w) u
 | [],_,_,h=>by cases h;rfl
 | x :: w,u,v,⟨t,h1,h2⟩=>by
  have e:invW (x :: w)=invW w++[-x]:=by
   rw [show x :: w=[x]++w from rfl,invW_app];simp [invW,(h1.lt3 hg).negI]
  rw [e];exact (h2.inv hg).snoc h1.neg
theorem IsFol.det {r s:Int} {es:List Ed} (h:IsFol r s es) {u x v v':Int} (h1:Sp es u x v) (h2:Sp es u x v'):v=v':=by
 have key:∀ e∈es,∀ f∈es,Clash e f→e=f:=by
  intro e he f hf hc;obtain ⟨i,hi,rfl⟩:=List.getElem_of_mem he;obtain ⟨j,hj,rfl⟩:=List.getElem_of_mem hf;have hp:=List.pairwise_iff_getElem.1 h.fol;rcases Nat.lt_trichotomy i j with hl | rfl | hl
  ·exact absurd hc (hp i j hi hj hl)
  ·rfl
  ·exact absurd hc.symm (hp j i hj hi hl)
 rcases h1 with ⟨a1,b1⟩ | ⟨a1,b1⟩
 ·rcases h2 with ⟨a2,b2⟩ | ⟨a2,b2⟩
  ·have:=key _ b1 _ b2 ⟨rfl,.inl rfl⟩
   injection this
  ·omega
 ·rcases h2 with ⟨a2,b2⟩ | ⟨a2,b2⟩
  ·omega
  ·have:=key _ b1 _ b2 ⟨rfl,.inr rfl⟩
   injection this
theorem Pa.det {r s:Int} {es:List Ed} (h:IsFol r s es):∀ {w:List Int} {u v v':Int},Pa es u w v→Pa es u w v'→v=v'
 | [],_,_,_,h1,h2=>h1.symm.trans h2
 | _ :: _,_,_,_,⟨t,a1,b1⟩,⟨t',a2,b2⟩=>by
  cases h.det a1 a2
  exact b1.det h b2
theorem Pa.det' {r s:Int} {es:List Ed} (h:IsFol r s es) {w:List Int} {u u' v:Int} (h1:Pa es u w v) (h2:Pa es u' w v):u=u':=(h1.inv h.gr).det h (h2.inv h.gr)
theorem nextV_sp {r s:Int} {es:List Ed} (h:IsFol r s es) {u x v:Int} (hs:Sp es u x v):nextV es u x=v:=by
 have hm:=sp_ends.1 hs;exact leastI_eq hm fun y hy=>by
  have:=h.det hs (sp_ends.2 hy);omega
theorem sp_nextV {es:List Ed} {u x:Int} (h:0≤nextV es u x):Sp es u x (nextV es u x):=by
 obtain ⟨e,he,h2⟩:=nextV_edge h;exact sp_endOf.2 ⟨e,he,h2⟩
theorem nextV_no {es:List Ed} {u x:Int} (h:nextV es u x < 0) (hg:∀ e∈es,0≤e.a∧0≤e.b) (v:Int):¬ Sp es u x v:=by
 intro hs;have hm:=sp_ends.1 hs;have hne:ends es u x≠[]:=fun e=>by rw [e] at hm;cases hm
 obtain ⟨h1,h2⟩:=leastI_mem hne;have h3:=sp_ends.2 h1;have:0≤leastI (ends es u x):=by
  rcases h3 with ⟨_,h3⟩ | ⟨_,h3⟩
  ·exact (hg _ h3).2
  ·exact (hg _ h3).1
 unfold nextV at h;omega
theorem IsGr.nn {r s:Int} {es:List Ed} (h:IsGr r s es):∀ e∈es,0≤e.a∧0≤e.b:=fun e he=>⟨(h.all e he).1,(h.all e he).2.2.1⟩
theorem rdA_full {r s:Int} {es:List Ed} (h:IsFol r s es):∀ {w:List Int} {u v:Int},Pa es u w v→rdA es u w=(v,w.length)
 | [],_,_,hp=>by cases hp;rfl
 | x :: w,u,v,⟨t,h1,h2⟩=>by
  have e:=nextV_sp h h1;have ht:=(h1.rng h.gr.all).2.1;rw [rdA,e,if_neg (by omega),rdA_full h h2]
  rfl
theorem rdA_pa {es:List Ed}:∀ {w:List Int} {u:Int},(rdA es u w).2=w.length→Pa es u w (rdA es u w).1
 | [],_,_=>rfl
 | x :: w,u,h=>by
  rw [rdA] at h ⊢;by_cases hn:nextV es u x < 0
  ·rw [if_pos hn] at h
   simp at h
  ·rw [if_neg hn] at h ⊢
   exact ⟨_,sp_nextV (by omega),rdA_pa (by simpa using h)⟩
theorem rdA_iff {r s:Int} {es:List Ed} (h:IsFol r s es) {w:List Int} {u v:Int}:Pa es u w v↔rdA es u w=(v,w.length):=by
 refine ⟨rdA_full h,fun e=>?_⟩;have h2:(rdA es u w).2=w.length:=by rw [e]
 have:=rdA_pa h2
 rwa [e] at this
theorem pa_red {r s:Int} {es:List Ed} (h:IsFol r s es):∀ {w:List Int} {out:List Int} {u t v:Int},Pa es u out t→Pa es t w v→Pa es u (red out w) v
 | [],out,u,t,v,h1,h2=>by cases h2;exact h1
 | x :: w,out,u,t,v,h1,⟨t2,h2,h3⟩=>by
  rw [red_cons];refine pa_red h ?_ h3;rcases snoc_cases out with rfl | ⟨o,a,rfl⟩
  ·cases h1
   rw [redStep_empty];exact pa_one.2 h2
  ·obtain ⟨p,h4,h5⟩:=pa_app.1 h1
   have h5:=pa_one.1 h5;cases hb:invB a x with
   | false=>rw [redStep_push hb];exact h1.snoc h2
   | true =>
    rw [redStep_pop hb];have e:=(invB_lt (h5.lt3 h.gr) (h2.lt3 h.gr)).1 hb;have e2:x = -a:=by omega
    rw [e2] at h2;rw [h.det h2 h5.neg];exact h4
theorem Pa.red {r s:Int} {es:List Ed} (h:IsFol r s es) {w:List Int} {u v:Int} (hp:Pa es u w v):Pa es u (red [] w) v:=pa_red h (Pa.nil es u) hp
def InS (es:List Ed) (w:List Int):Prop:=Pa es 0 (red [] w) 0
theorem InS.mk {r s:Int} {es:List Ed} (h:IsFol r s es) {w:List Int} (hp:Pa es 0 w 0):InS es w:=hp.red h
theorem InS.eqv {es:List Ed} {a b:List Int} (h:Eqv a b):InS es a↔InS es b:=by unfold InS;rw [h]
theorem inS_rdA {r s:Int} {es:List Ed} (h:IsFol r s es) (w:List Int):InS es w↔rdA es 0 (red [] w)=(0,(red [] w).length):=rdA_iff h
theorem clash_eq:∀ {es:List Ed},(es.Pairwise fun e f=>¬ Clash e f)→∀ {e f:Ed},e∈es→f∈es→Clash e f→e=f
 | [],_,e,f,he,_,_=>by cases he
 | g :: t,h,e,f,he,hf,hc=>by
  obtain ⟨h1,h2⟩:=List.pairwise_cons.1 h;rcases List.mem_cons.1 he with ha | ha
  ·rcases List.mem_cons.1 hf with hb | hb
   ·rw [ha,hb]
   ·rw [ha] at hc
    exact absurd hc (h1 f hb)
  ·rcases List.mem_cons.1 hf with hb | hb
   ·rw [hb] at hc
    exact absurd hc.symm (h1 e ha)
   ·exact clash_eq h2 ha hb hc
theorem nextV_inv {r s:Int} {es:List Ed} (h:IsFol r s es) {v x:Int} (hx:0≤nextV es v x):nextV es (nextV es v x) (-x)=v:=by
 obtain ⟨e,he,hv⟩:=nextV_edge hx;generalize nextV es v x=u at hv;have hu:endOf u (-x) e=some v:=by
  rw [endOf_some] at hv ⊢;rcases hv with ⟨h1,h2,h3,h4⟩ | ⟨h1,h2,h3,h4⟩
  ·exact .inr ⟨by omega,by omega,h4,h3⟩
  ·exact .inl ⟨by omega,by omega,h4,h3⟩
 have hm:v∈ends es u (-x):=mem_ends.2 ⟨e,he,hu⟩;refine leastI_eq hm fun y hy=>?_;obtain ⟨f,hf,hy⟩:=mem_ends.1 hy;rw [endOf_some] at hu hy;have hc:Clash e f:=by unfold Clash;omega
 have:=clash_eq h.fol he hf hc;subst this;omega
section
def lastL (w:List Int):Int:=w.getLast?.getD 0
theorem lastL_snoc (w:List Int) (x:Int):lastL (w++[x])=x:=by simp [lastL]
def edgeOf (es:List Ed) (q:Int × List Int):Ed:=stepE (nextV es q.1 (-(lastL q.2))) (lastL q.2) q.1
def treeE (es:List Ed) (st:BS):List Ed:=st.tail.map (edgeOf es)
theorem edgeOf_new {r s:Int} {es:List Ed} (hf:IsFol r s es) {u x:Int} {w:List Int} (h:0≤nextV es u x):edgeOf es (nextV es u x,w++[x])=stepE u x (nextV es u x):=by
 unfold edgeOf;simp only [lastL_snoc];rw [nextV_inv hf h]
structure Par (es:List Ed) (L:List Int) (st:BS):Prop where
 ne:st≠[]
 par:∀ q∈st.tail,∃ p∈st,∃ x∈L,q=(nextV es p.1 x,p.2++[x])∧0≤nextV es p.1 x
theorem Par.step {es:List Ed} {L:List Int} {st:BS} (h:Par es L st) {p:Int × List Int} (hp:p∈st) {x:Int} (hx:x∈L):Par es L (bfsStep es p.1 p.2 st x):=by
 unfold bfsStep;split
 ·exact h
 ·rename_i hc
  refine ⟨by simp,fun q hq=>?_⟩;have ht:(st++[(nextV es p.1 x,p.2++[x])]).tail=st.tail++[(nextV es p.1 x,p.2++[x])]:=by
   cases hst:st with
   | nil=>exact absurd hst h.ne
   | cons a t=>rfl
  rw [ht] at hq;rcases List.mem_append.1 hq with hq | hq
  ·obtain ⟨p',hp',x',hx',h1,h2⟩:=h.par q hq
   exact ⟨p',by simp [hp'],x',hx',h1,h2⟩
  ·simp at hq
   subst hq;exact ⟨p,by simp [hp],x,hx,rfl,by omega⟩
theorem Par.row {es:List Ed} {L:List Int} {p:Int × List Int}:∀ (K:List Int),(∀ x∈K,x∈L)→∀ {st:BS},Par es L st→p∈st→Par es L (bfsRow es K p st)
 | [],_,st,h,_=>h
 | x :: K,hK,st,h,hp=>Par.row K (fun y hy=>hK y (by simp [hy])) (h.step hp (hK x (by simp))) ((bfsStep_pre es p.1 p.2 st x).subset hp)
theorem bfsSt_par (es:List Ed) (L:List Int) (v:Int) (i:Nat):Par es L (bfsSt es L v i):=by
 induction i with
 | zero=>exact ⟨by simp [bfsSt],fun q hq=>by simp [bfsSt] at hq⟩
 | succ i ih =>
  show Par es L (match (bfsSt es L v i)[i]? with | none=>bfsSt es L v i | some p=>bfsRow es L p (bfsSt es L v i))
  split
  ·exact ih
  ·rename_i p hp
   exact Par.row L (fun x hx=>hx) ih (List.mem_of_getElem? hp)
theorem bfs_par (es:List Ed) (L:List Int) (v:Int):Par es L (bfs es L v):=bfsSt_par es L v 41
theorem IsCor.found {r n:Nat} {es:List Ed} (h:IsCor r n es):(bfs es (lets r) 0).length=n:=by
 have h1:=h.canon;unfold canonG at h1;rw [if_pos h.fol] at h1;have h2:=congrArg Prod.fst h1;simp only [ordE,List.length_map,Int.toNat_natCast] at h2;omega
theorem IsCor.has {r n:Nat} {es:List Ed} (h:IsCor r n es) {v:Nat} (hv:v < n):∃ w,((v:Int),w)∈bfs es (lets r) 0:=by
 have hn:0 < n:=by omega
 have hb:=bfs_ok (L:=lets r) (v:=0) h.gr.all (Int.le_refl _) (show (0:Int) < (n:Int) by omega);rcases Classical.em ((v:Int)∈(bfs es (lets r) 0).map Prod.fst) with hm | hm
 ·obtain ⟨p,hp,hpv⟩:=List.mem_map.1 hm
  refine ⟨p.2,?_⟩;rw [← hpv];exact hp
 ·exfalso
  have hk:BfsOk n (lets r) (bfs es (lets r) 0++[((v:Int),[])]):=by
   refine ⟨?_,?_,?_,?_⟩
   ·rw [List.map_append,List.nodup_append]
    refine ⟨hb.nd,by simp,?_⟩;intro a ha b hb' e;simp at hb';subst hb' e;exact hm ha
   ·intro q hq
    rcases List.mem_append.1 hq with hq | hq
    ·exact hb.rng q hq
    ·simp at hq;subst hq;simp only [];omega
   ·intro j q hq
    rcases Nat.lt_or_ge j (bfs es (lets r) 0).length with hj | hj
    ·rw [List.getElem?_append_left hj] at hq;exact hb.wl j q hq
    ·rw [List.getElem?_append_right hj] at hq
     have:=List.mem_of_getElem? hq;simp at this;subst this;simp
   ·intro q hq y hy
    rcases List.mem_append.1 hq with hq | hq
    ·exact hb.wm q hq y hy
    ·simp at hq;subst hq;simp at hy
  have h1:=hk.len (by omega);rw [List.length_append,h.found] at h1;simp at h1;omega
open Classical in
noncomputable def wordV (r:Nat) (es:List Ed) (v:Int):List Int:=if h:∃ w,(v,w)∈bfs es (lets r) 0 then h.choose else []
theorem wordV_eq {r n:Nat} {es:List Ed} (hg:IsGr r n es) {v:Int} {w:List Int} (h:(v,w)∈bfs es (lets r) 0):wordV r es v=w:=by
 have hn:(0:Int) < (n:Int):=by have:=hg.size;omega
 have hb:=bfs_ok (L:=lets r) (v:=0) hg.all (Int.le_refl _) hn;have hex:∃ w,(v,w)∈bfs es (lets r) 0:=⟨w,h⟩
 unfold wordV;rw [dif_pos hex];have h2:=hex.choose_spec;generalize hex.choose=w' at h2;have key:∀ (l:BS),(l.map Prod.fst).Nodup→(v,w)∈l→(v,w')∈l→w'=w:=by
  intro l
  induction l with
  | nil=>intro _ h;cases h
  | cons p t ih =>
   intro hnd ha hb;rw [List.map_cons,List.nodup_cons] at hnd;rcases List.mem_cons.1 ha with ha | ha
   ·rcases List.mem_cons.1 hb with hb | hb
    ·rw [← ha] at hb
     injection hb
    ·rw [← ha] at hnd
     exact absurd (List.mem_map_of_mem (f:=Prod.fst) hb) hnd.1
   ·rcases List.mem_cons.1 hb with hb | hb
    ·rw [← hb] at hnd
     exact absurd (List.mem_map_of_mem (f:=Prod.fst) ha) hnd.1
    ·exact ih hnd.2 ha hb
 exact key _ hb.nd h h2
theorem wordV_mem {r n:Nat} {es:List Ed} (h:IsCor r n es) {v:Nat} (hv:v < n):((v:Int),wordV r es v)∈bfs es (lets r) 0:=by
 obtain ⟨w,hw⟩:=h.has hv;rw [wordV_eq h.gr hw];exact hw
theorem wordV_ok {r n:Nat} {es:List Ed} (h:IsCor r n es) {v:Nat} (hv:v < n):(wordV r es v).length≤40∧∀ x∈wordV r es v,x∈lets r:=by
 have hm:=wordV_mem h hv;have hn:(0:Int) < (n:Int):=by omega
 have hn40:n≤40:=by have:=h.gr.size;omega
 have hb:=bfs_ok (L:=lets r) (v:=0) h.gr.all (Int.le_refl _) hn;refine ⟨?_,hb.wm _ hm⟩;obtain ⟨j,hj,hj2⟩:=List.getElem_of_mem hm;have h1:=hb.wl j _ (by rw [List.getElem?_eq_getElem hj,hj2]);have h2:=h.found;simp only at h1;omega
open Classical in
noncomputable def extraE (r:Nat) (es:List Ed):List Ed:=es.filter fun e=>decide (e ∉ treeE es (bfs es (lets r) 0))
theorem extraE_mem {r:Nat} {es:List Ed} {e:Ed} (h:e∈extraE r es):e∈es:=(List.mem_filter.1 h).1
noncomputable def basisW (r:Nat) (es:List Ed) (e:Ed):List Int:=red [] (wordV r es e.a++[e.l]++invW (wordV r es e.b))
noncomputable def basisG (r:Nat) (es:List Ed):List (List Int):=(extraE r es).map (basisW r es)
end
theorem IsFol.key {r s:Int} {es:List Ed} (h:IsFol r s es):∀ e∈es,∀ f∈es,Clash e f→e=f:=by
 intro e he f hf hc;obtain ⟨i,hi,rfl⟩:=List.getElem_of_mem he;obtain ⟨j,hj,rfl⟩:=List.getElem_of_mem hf;have hp:=List.pairwise_iff_getElem.1 h.fol;rcases Nat.lt_trichotomy i j with hl | rfl | hl
 ·exact absurd hc (hp i j hi hj hl)
 ·rfl
 ·exact absurd hc.symm (hp j i hj hi hl)
theorem IsFol.mk' {r s:Int} {es:List Ed} (h:IsGr r s es) (hk:∀ e∈es,∀ f∈es,Clash e f→e=f):IsFol r s es:=by
 refine ⟨h,List.pairwise_iff_getElem.2 fun i j hi hj hij hc=>?_⟩;have e:=hk _ (List.getElem_mem hi) _ (List.getElem_mem hj) hc;have:=List.pairwise_iff_getElem.1 h.asc i j hi hj hij;exact this.ne e
theorem idxI_mem {ord:List Int} {v:Int}:0≤idxI ord v↔v∈ord:=by
 unfold idxI;split
 ·rename_i h
  exact ⟨fun _=>h,fun _=>Int.natCast_nonneg _⟩
 ·rename_i h
  exact ⟨fun h=>by omega,fun h2=>absurd h2 h⟩
theorem idxI_get {ord:List Int} {v:Int} (h:v∈ord):ord[(idxI ord v).toNat]?=some v:=by
 unfold idxI;rw [if_pos h,Int.toNat_natCast];have hl:=List.idxOf_lt_length_iff.2 h;rw [List.getElem?_eq_getElem hl,List.getElem_idxOf hl]
theorem idxI_inj {ord:List Int} {u v:Int} (hu:u∈ord) (hv:v∈ord) (h:idxI ord u=idxI ord v):u=v:=by
 have h1:=idxI_get hu;rw [h,idxI_get hv] at h1;exact (Option.some.inj h1).symm
theorem mem_partE {ord:List Int} {es:List Ed} {f:Ed}:f∈partE ord es↔∃ e∈es,e.a∈ord∧e.b∈ord∧f=⟨idxI ord e.a,e.l,idxI ord e.b⟩:=by
 unfold partE;rw [mem_canon,List.mem_filterMap];constructor
 ·rintro ⟨e,he,h⟩
  unfold partOf at h;split at h
  ·rename_i hc
   exact ⟨e,he,idxI_mem.1 hc.1,idxI_mem.1 hc.2,(Option.some.inj h).symm⟩
  ·cases h
 ·rintro ⟨e,he,h1,h2,rfl⟩
  refine ⟨e,he,?_⟩;unfold partOf;rw [if_pos ⟨idxI_mem.2 h1,idxI_mem.2 h2⟩]
theorem part_sp {ord:List Int} {es:List Ed} {i x j:Int}:Sp (partE ord es) i x j↔∃ u v,u∈ord∧v∈ord∧idxI ord u=i∧idxI ord v=j∧Sp es u x v:=by
 constructor
 ·rintro (⟨h1,h2⟩ | ⟨h1,h2⟩)
  ·obtain ⟨e,he,ha,hb,h3⟩:=mem_partE.1 h2
   injection h3 with h3 h4 h5
   exact ⟨e.a,e.b,ha,hb,h3.symm,h5.symm,.inl ⟨h1,by rw [h4];exact he⟩⟩
  ·obtain ⟨e,he,ha,hb,h3⟩:=mem_partE.1 h2
   injection h3 with h3 h4 h5
   exact ⟨e.b,e.a,hb,ha,h5.symm,h3.symm,.inr ⟨h1,by rw [h4];exact he⟩⟩
 ·rintro ⟨u,v,hu,hv,rfl,rfl,(⟨h1,h2⟩ | ⟨h1,h2⟩)⟩
  ·exact .inl ⟨h1,mem_partE.2 ⟨_,h2,hu,hv,rfl⟩⟩
  ·exact .inr ⟨h1,mem_partE.2 ⟨_,h2,hv,hu,rfl⟩⟩
theorem part_pa_to {ord:List Int} {es:List Ed}:∀ {w:List Int} {i j:Int},Pa (partE ord es) i w j→∀ u∈ord,idxI ord u=i→∃ v∈ord,idxI ord v=j∧Pa es u w v
 | [],_,_,h,u,hu,hi=>⟨u,hu,hi.trans h,rfl⟩
 | x :: w,i,j,⟨t,h1,h2⟩,u,hu,hi=>by
  obtain ⟨u',t',hu',ht',hi',htt,hs⟩:=part_sp.1 h1;have e:=idxI_inj hu' hu (hi'.trans hi.symm);subst e;obtain ⟨v,hv,hj,hp⟩:=part_pa_to h2 t' ht' htt;exact ⟨v,hv,hj,⟨t',hs,hp⟩⟩
theorem part_pa_of {ord:List Int} {es:List Ed}:∀ {w:List Int} {u v:Int},Pa es u w v→(∀ a b t,w=a++b→Pa es u a t→t∈ord)→Pa (partE ord es) (idxI ord u) w (idxI ord v)
 | [],_,_,h,_=>by cases h;rfl
 | x :: w,u,v,⟨t,h1,h2⟩,hr=>by
  have hu:=hr [] (x :: w) u rfl rfl;have ht:=hr [x] w t rfl (pa_one.2 h1);exact ⟨idxI ord t,part_sp.2 ⟨u,t,hu,ht,rfl,rfl,h1⟩,part_pa_of h2 fun a b t' e hp=>hr (x :: a) b t' (by rw [e];rfl) ⟨t,h1,hp⟩⟩
theorem part_fol {r s:Int} {es:List Ed} {ord:List Int} (h:IsFol r s es) (h0:ord≠[]) (h40:ord.length≤40):IsFol r ord.length (partE ord es):=by
 refine IsFol.mk' (partE_gr h.gr h0 h40) fun e he f hf hc=>?_;obtain ⟨e',he',a1,b1,rfl⟩:=mem_partE.1 he;obtain ⟨f',hf',a2,b2,rfl⟩:=mem_partE.1 hf;have:e'=f':=h.key e' he' f' hf' ⟨hc.1,hc.2.imp (idxI_inj a1 a2) (idxI_inj b1 b2)⟩;rw [this]
theorem bfsRow_closed {es:List Ed} {p:Int × List Int}:∀ (K:List Int) {st:BS},∀ x∈K,0≤nextV es p.1 x→nextV es p.1 x∈(bfsRow es K p st).map Prod.fst
 | [],_,x,hx,_=>by cases hx
 | y :: K,st,x,hx,hn=>by
  rcases List.mem_cons.1 hx with rfl | hx
  ·have h1:nextV es p.1 x∈(bfsStep es p.1 p.2 st x).map Prod.fst:=by
    unfold bfsStep;by_cases hc:nextV es p.1 x < 0 ∨ nextV es p.1 x∈st.map Prod.fst
    ·rw [if_pos hc]
     rcases hc with hc | hc
     ·omega
     ·exact hc
    ·rw [if_neg hc,List.map_append]
     exact List.mem_append_right _ (by simp)
   obtain ⟨q,hq,e⟩:=List.mem_map.1 h1;rw [← e];exact List.mem_map.2 ⟨q,(bfsRow_pre es K p (bfsStep es p.1 p.2 st x)).subset hq,rfl⟩
  ·exact bfsRow_closed K x hx hn
theorem bfsSt_closed {es:List Ed} {L:List Int} {v:Int}:∀ (i j:Nat) {p:Int × List Int},j < i→(bfsSt es L v i)[j]?=some p→∀ x∈L,0≤nextV es p.1 x→nextV es p.1 x∈(bfsSt es L v i).map Prod.fst
 | 0,j,p,h,_=>by omega
 | i+1,j,p,h,hp=>by
  intro x hx hn;cases hq:(bfsSt es L v i)[i]? with
  | none =>
   have hs:bfsSt es L v (i+1)=bfsSt es L v i:=by simp [bfsSt,hq]
   rw [hs] at hp ⊢;have hji:j < i:=by
    have h1:=(List.getElem?_eq_some_iff.1 hp).1;have h2:=List.getElem?_eq_none_iff.1 hq;omega
   exact bfsSt_closed i j hji hp x hx hn
  | some q =>
   have hs:bfsSt es L v (i+1)=bfsRow es L q (bfsSt es L v i):=by simp [bfsSt,hq]
   rw [hs] at hp ⊢;rcases Nat.lt_or_ge j i with hji | hji
   ·have hl:j < (bfsSt es L v i).length:=by
     have:=(List.getElem?_eq_some_iff.1 hq).1;omega
    have hp2:(bfsSt es L v i)[j]?=some p:=by
     have h1:=prefix_get (bfsRow_pre es L q (bfsSt es L v i)) (List.getElem?_eq_getElem hl);rw [hp] at h1;rw [List.getElem?_eq_getElem hl,← h1]
    have h2:=bfsSt_closed i j hji hp2 x hx hn;obtain ⟨z,hz,e⟩:=List.mem_map.1 h2;rw [← e];exact List.mem_map.2 ⟨z,(bfsRow_pre es L q _).subset hz,rfl⟩
   ·have e:j=i:=by omega
    subst e;have h1:=prefix_get (bfsRow_pre es L q (bfsSt es L v j)) hq;rw [hp] at h1;obtain rfl:=Option.some.inj h1;exact bfsRow_closed L x hx hn
theorem bfs_closed {r s v:Int} {es:List Ed} {L:List Int} (hg:∀ e∈es,InG r s e) (h0:0≤v) (h1:v < s) (hs:s≤40) {p:Int × List Int} (hp:p∈bfs es L v) {x:Int} (hx:x∈L) (hn:0≤nextV es p.1 x):nextV es p.1 x∈(bfs es L v).map Prod.fst:=by
 obtain ⟨j,hj⟩:=List.mem_iff_getElem?.1 hp;have hl:=(bfs_ok (L:=L) hg h0 h1).len (by omega);have hjl:=(List.getElem?_eq_some_iff.1 hj).1;exact bfsSt_closed 41 j (by omega) hj x hx hn
theorem bfs_pa (es:List Ed) (L:List Int) (v:Int):∀ p∈bfs es L v,Pa es v p.2 p.1:=by
 have hrow:∀ (K:List Int) (p:Int × List Int) (st:BS),Pa es v p.2 p.1→(∀ q∈st,Pa es v q.2 q.1)→∀ q∈bfsRow es K p st,Pa es v q.2 q.1:=by
  intro K
  induction K with
  | nil=>exact fun p st _ h=>h
  | cons x K ih =>
   intro p st hp h;refine ih p (bfsStep es p.1 p.2 st x) hp fun q hq=>?_;unfold bfsStep at hq;split at hq
   ·exact h q hq
   ·rename_i hc
    rcases List.mem_append.1 hq with hq | hq
    ·exact h q hq
    ·rw [List.mem_singleton] at hq
     subst hq;exact hp.snoc (sp_nextV (by omega))
 have hst:∀ i,∀ q∈bfsSt es L v i,Pa es v q.2 q.1:=by
  intro i
  induction i with
  | zero =>
   intro q hq;simp [bfsSt] at hq;subst hq
   rfl
  | succ i ih =>
   cases hq:(bfsSt es L v i)[i]? with
   | none=>rw [show bfsSt es L v (i+1)=bfsSt es L v i by simp [bfsSt,hq]];exact ih
   | some p =>
    rw [show bfsSt es L v (i+1)=bfsRow es L p (bfsSt es L v i) by simp [bfsSt,hq]];exact hrow L p _ (ih p (List.mem_of_getElem? hq)) ih
 exact hst 41
theorem bfs_reach {r s v:Int} {es:List Ed} (hf:IsFol r s es) (h0:0≤v) (h1:v < s):∀ {w:List Int} {u t:Int},u∈ordE r es v→Pa es u w t→t∈ordE r es v
 | [],u,t,hu,h=>by cases h;exact hu
 | x :: w,u,t,hu,⟨q,h2,h3⟩=>by
  refine bfs_reach hf h0 h1 ?_ h3;obtain ⟨p,hp,rfl⟩:=List.mem_map.1 hu;have hr:=(h2.rng hf.gr.all)
  have hx:x∈lets r.toNat:=mem_lets.2 (by have:=hf.gr.rank;omega);have hn:=nextV_sp hf h2;have:=bfs_closed (L:=lets r.toNat) hf.gr.all h0 h1 hf.gr.size.2 hp hx (by omega)
  rwa [hn] at this
theorem ordE_self (r:Int) (es:List Ed) (v:Int):v∈ordE r es v:=by
 have h:(v,[])∈bfs es (lets r.toNat) v:=by
  have h1:=bfsSt_pre' es (lets r.toNat) v 0 41;rw [Nat.zero_add] at h1;exact h1.subset (by simp [bfsSt])
 exact List.mem_map.2 ⟨_,h,rfl⟩
theorem ordE_head (r:Int) (es:List Ed) (v:Int):(ordE r es v)[0]?=some v:=by
 have h1:=bfsSt_pre' es (lets r.toNat) v 0 41;rw [Nat.zero_add] at h1;have h2:(bfsSt es (lets r.toNat) v 0)[0]?=some (v,[]):=by simp [bfsSt]
 have h3:=prefix_get h1 h2;unfold ordE bfs;rw [List.getElem?_map,h3]
 rfl
theorem bfs_iso {es es':List Ed} {L:List Int} {v:Int} {f:Int→Int} {R:Int→Prop} (hv:R v) (hcl:∀ u,R u→∀ x∈L,0≤nextV es u x→R (nextV es u x))
  (hn:∀ u,R u→∀ x∈L,nextV es u x < 0→nextV es' (f u) x < 0) (hp:∀ u,R u→∀ x∈L,0≤nextV es u x→nextV es' (f u) x=f (nextV es u x)∧0≤f (nextV es u x))
  (hi:∀ u t,R u→R t→f u=f t→u=t):bfs es' L (f v)=(bfs es L v).map fun p=>(f p.1,p.2):=by
 have hstep:∀ (x:Int) (p:Int × List Int) (st:BS),x∈L→R p.1→(∀ q∈st,R q.1)→bfsStep es' (f p.1) p.2 (st.map fun p=>(f p.1,p.2)) x=(bfsStep es p.1 p.2 st x).map (fun p=>(f p.1,p.2))∧∀ q∈bfsStep es p.1 p.2 st x,R q.1:=by
  intro x p st hx hpR hst;unfold bfsStep;by_cases hneg:nextV es p.1 x < 0
  ·rw [if_pos (.inl (hn p.1 hpR x hx hneg)),if_pos (.inl hneg)]
   exact ⟨rfl,hst⟩
  ·have h1:=hp p.1 hpR x hx (by omega)
   have hR:=hcl p.1 hpR x hx (by omega);have hmem:nextV es' (f p.1) x∈(st.map fun p=>(f p.1,p.2)).map Prod.fst↔nextV es p.1 x∈st.map Prod.fst:=by
    rw [h1.1,List.map_map];constructor
    ·intro h
     obtain ⟨q,hq,e⟩:=List.mem_map.1 h;exact List.mem_map.2 ⟨q,hq,hi _ _ (hst q hq) hR e⟩
    ·intro h
     obtain ⟨q,hq,e⟩:=List.mem_map.1 h;exact List.mem_map.2 ⟨q,hq,by rw [Function.comp_apply,e]⟩
   by_cases hin:nextV es p.1 x∈st.map Prod.fst
   ·rw [if_pos (.inr (hmem.2 hin)),if_pos (.inr hin)]
    exact ⟨rfl,hst⟩
   ·rw [if_neg (fun h=>h.elim (fun h=>by omega) (fun h=>hin (hmem.1 h))),if_neg (fun h=>h.elim (fun h=>by omega) hin),List.map_append,h1.1]
    refine ⟨rfl,fun q hq=>?_⟩;rcases List.mem_append.1 hq with hq | hq
    ·exact hst q hq
    ·rw [List.mem_singleton] at hq
     subst hq;exact hR
 have hrow:∀ (K:List Int) (p:Int × List Int) (st:BS),(∀ x∈K,x∈L)→R p.1→(∀ q∈st,R q.1)→bfsRow es' K (f p.1,p.2) (st.map fun p=>(f p.1,p.2))=(bfsRow es K p st).map (fun p=>(f p.1,p.2))∧∀ q∈bfsRow es K p st,R q.1:=by
  intro K
  induction K with
  | nil=>exact fun p st _ _ h=>⟨rfl,h⟩
  | cons x K ih =>
   intro p st hK hpR hst;obtain ⟨h1,h2⟩:=hstep x p st (hK x List.mem_cons_self) hpR hst;have h3:=ih p (bfsStep es p.1 p.2 st x) (fun y hy=>hK y (List.mem_cons_of_mem _ hy)) hpR h2;refine ⟨?_,h3.2⟩
   show bfsRow es' K (f p.1,p.2) (bfsStep es' (f p.1) p.2 (st.map fun p=>(f p.1,p.2)) x)=_
   rw [h1];exact h3.1
 have hst:∀ i,bfsSt es' L (f v) i=(bfsSt es L v i).map (fun p=>(f p.1,p.2))∧∀ q∈bfsSt es L v i,R q.1:=by
  intro i
  induction i with
  | zero =>
   refine ⟨rfl,fun q hq=>?_⟩;simp [bfsSt] at hq;subst hq;exact hv
  | succ i ih =>
   cases hq:(bfsSt es L v i)[i]? with
   | none =>
    have e1:bfsSt es L v (i+1)=bfsSt es L v i:=by simp [bfsSt,hq]
    have e2:bfsSt es' L (f v) (i+1)=bfsSt es' L (f v) i:=by
     have:(bfsSt es' L (f v) i)[i]?=none:=by rw [ih.1,List.getElem?_map,hq];rfl
     simp [bfsSt,this]
    rw [e1,e2];exact ih
   | some p =>
    have e1:bfsSt es L v (i+1)=bfsRow es L p (bfsSt es L v i):=by simp [bfsSt,hq]
    have e2:bfsSt es' L (f v) (i+1)=bfsRow es' L (f p.1,p.2) (bfsSt es' L (f v) i):=by
     have:(bfsSt es' L (f v) i)[i]?=some (f p.1,p.2):=by rw [ih.1,List.getElem?_map,hq];rfl
     simp [bfsSt,this]
    rw [e1,e2,ih.1];exact hrow L p _ (fun x hx=>hx) (ih.2 p (List.mem_of_getElem? hq)) ih.2
 exact (hst 41).1
def GenL (es:List Ed) (w:List Int):Prop:=∃ w2,LtW w2∧Eqv w w2∧Pa es 0 w2 0
theorem genL_inS {r s:Int} {es:List Ed} (h:IsFol r s es) {w:List Int} (hw:LtW w):GenL es w↔InS es w:=by
 constructor
 ·rintro ⟨w2,l2,e,p⟩
  exact (InS.eqv e).2 (InS.mk h p)
 ·exact fun h2=>⟨Go.Proofs.YthampgpcajmopaaGreat.red [] w,lt_red hw,(Eqv.toRed hw).symm,h2⟩
theorem mem_mergeE {p:Int × Int} {es:List Ed} {f:Ed}:f∈mergeE p es↔∃ e∈es,foldE p e=f:=by
 unfold mergeE;rw [mem_canon,List.mem_map]
theorem merge_sp {p:Int × Int} {es:List Ed} {i x j:Int}:Sp (mergeE p es) i x j↔∃ u v,foldV p u=i∧foldV p v=j∧Sp es u x v:=by
 constructor
 ·rintro (⟨h1,h2⟩ | ⟨h1,h2⟩)
  ·obtain ⟨e,he,h3⟩:=mem_mergeE.1 h2
   injection h3 with h3 h4 h5
   exact ⟨e.a,e.b,h3,h5,.inl ⟨h1,by rw [← h4];exact he⟩⟩
  ·obtain ⟨e,he,h3⟩:=mem_mergeE.1 h2
   injection h3 with h3 h4 h5
   exact ⟨e.b,e.a,h5,h3,.inr ⟨h1,by rw [← h4];exact he⟩⟩
 ·rintro ⟨u,v,rfl,rfl,(⟨h1,h2⟩ | ⟨h1,h2⟩)⟩
  ·exact .inl ⟨h1,mem_mergeE.2 ⟨_,h2,rfl⟩⟩
  ·exact .inr ⟨h1,mem_mergeE.2 ⟨_,h2,rfl⟩⟩
theorem merge_pa {p:Int × Int} {es:List Ed}:∀ {w:List Int} {u v:Int},Pa es u w v→Pa (mergeE p es) (foldV p u) w (foldV p v)
 | [],_,_,h=>by cases h;rfl
 | _ :: _,_,_,⟨t,h1,h2⟩=>⟨foldV p t,merge_sp.2 ⟨_,_,rfl,rfl,h1⟩,merge_pa h2⟩
def Apex (es:List Ed) (p:Int × Int):Prop:=∃ c x,Sp es c x p.1∧Sp es c x p.2
theorem apex_AB {r s:Int} {es:List Ed} (hg:∀ e∈es,InG r s e) {e f:Ed} (he:e∈es) (hf:f∈es) {p:Int × Int} (h:p∈foldsAB e f):Apex es p:=by
 have h1:=hg e he;have h2:=hg f hf;simp only [InG] at h1 h2;have se:=sp_edge he (by omega);have sf:=sp_edge hf (by omega);unfold foldsAB at h;split at h
 ·rename_i hl
  rcases List.mem_append.1 h with h | h
  ·split at h
   ·rename_i ha
    rw [List.mem_singleton] at h;subst h;rw [← hl,← ha] at sf;rcases Int.le_total e.b f.b with hm | hm
    ·refine ⟨e.a,e.l,?_,?_⟩
     ·rw [Int.min_eq_left hm];exact se
     ·rw [Int.max_eq_right hm];exact sf
    ·refine ⟨e.a,e.l,?_,?_⟩
     ·rw [Int.min_eq_right hm];exact sf
     ·rw [Int.max_eq_left hm];exact se
   ·cases h
  ·split at h
   ·rename_i hb
    rw [List.mem_singleton] at h;subst h;rw [← hl,← hb] at sf;rcases Int.le_total e.a f.a with hm | hm
    ·refine ⟨e.b, -e.l,?_,?_⟩
     ·rw [Int.min_eq_left hm];exact se.neg
     ·rw [Int.max_eq_right hm];exact sf.neg
    ·refine ⟨e.b, -e.l,?_,?_⟩
     ·rw [Int.min_eq_right hm];exact sf.neg
     ·rw [Int.max_eq_left hm];exact se.neg
   ·cases h
 ·cases h
theorem apex_mem {r s:Int} {es:List Ed} (hg:∀ e∈es,InG r s e) {p:Int × Int}:∀ {fs:List Ed},(∀ e∈fs,e∈es)→p∈folds fs→Apex es p
 | [],_,h=>by cases h
 | e :: t,hs,h=>by
  rcases List.mem_append.1 h with h | h
  ·obtain ⟨f,hf,h⟩:=List.mem_flatMap.1 h
   exact apex_AB hg (hs e List.mem_cons_self) (hs f (List.mem_cons_of_mem _ hf)) h
  ·exact apex_mem hg (fun x hx=>hs x (List.mem_cons_of_mem _ hx)) h
theorem foldV_inj {p:Int × Int} (hp:p.1 < p.2) {u v:Int} (h:foldV p u=foldV p v):u=v ∨ (u=p.1∧v=p.2) ∨ (u=p.2∧v=p.1):=by
 unfold foldV at h;split at h <;> split at h <;> (try split at h) <;> (try split at h) <;> omega
theorem foldV_zero {p:Int × Int} (h0:0≤p.1) (hp:p.1 < p.2):foldV p 0=0:=by
 unfold foldV;rw [if_neg (by omega),if_neg (by omega)]
theorem Apex.jump {r s:Int} {es:List Ed} (hg:IsGr r s es) {p:Int × Int} (ha:Apex es p) (hp:p.1 < p.2) {u v:Int} (h:foldV p u=foldV p v) :
  ∃ j,Pa es u j v∧∀ (out b:List Int),Rd out→LtW out→red out (j++b)=red out b:=by
 obtain ⟨c,x,h1,h2⟩:=ha;have hx:=(h1.lt3 hg).neg;have hr:∀ (out b:List Int),Rd out→LtW out→red out ([-x,x]++b)=red out b:=fun out b ho hl=>by
  have:=red_pair b ho hl hx
  rwa [Int.neg_neg] at this
 rcases foldV_inj hp h with rfl | ⟨rfl,rfl⟩ | ⟨rfl,rfl⟩
 ·exact ⟨[],rfl,fun _ _ _ _=>rfl⟩
 ·exact ⟨[-x,x],⟨c,h1.neg,_,h2,rfl⟩,hr⟩
 ·exact ⟨[-x,x],⟨c,h2.neg,_,h1,rfl⟩,hr⟩
theorem fold_lift {r s:Int} {es:List Ed} (hg:IsGr r s es) {p:Int × Int} (ha:Apex es p) (hp:p.1 < p.2):∀ {w:List Int} {u t:Int},Pa (mergeE p es) (foldV p u) w t →
  ∃ w2 v,foldV p v=t∧Pa es u w2 v∧∀ out,Rd out→LtW out→red out w2=red out w
 | [],u,t,h=>⟨[],u,h,rfl,fun _ _ _=>rfl⟩
 | x :: w,u,t,⟨q,h1,h2⟩=>by
  obtain ⟨u',q',hu',rfl,hs⟩:=merge_sp.1 h1;obtain ⟨j,hj,hjr⟩:=ha.jump hg hp hu'.symm;obtain ⟨w2,v,hv,hw2,hr⟩:=fold_lift hg ha hp h2;refine ⟨j++x :: w2,v,hv,hj.app ⟨q',hs,hw2⟩,fun out ho hl=>?_⟩;have hx:=hs.lt3 hg;rw [hjr out _ ho hl,red_cons,red_cons,hr _ (ho.step hl hx) (LtW.red (w:=[x]) hl (LtW.one hx))]
theorem merge_lang {r s:Int} {es:List Ed} (hg:IsGr r s es) {p:Int × Int} (ha:Apex es p) (h0:0≤p.1) (hp:p.1 < p.2) (w:List Int):GenL (mergeE p es) w↔GenL es w:=by
 have hz:=foldV_zero h0 hp;constructor
 ·rintro ⟨w2,l2,e,h⟩
  rw [← hz] at h;obtain ⟨w3,v,hv,h3,hr⟩:=fold_lift hg ha hp h;obtain ⟨j,hj,hjr⟩:=ha.jump hg hp (u:=v) (v:=0) (by rw [hv]);have h4:=h3.app hj;refine ⟨w3++j,h4.lt hg,e.trans ?_,h4⟩;unfold Eqv;have h5:=hjr (red [] w3) [] (rd_red (h3.lt hg)) (lt_red (h3.lt hg));rw [List.append_nil] at h5;rw [red_append,h5,red_nil,hr [] Rd.nil LtW.nil]
 ·rintro ⟨w2,l2,e,h⟩
  have:=merge_pa (p:=p) h;rw [hz] at this;exact ⟨w2,l2,e,this⟩
theorem foldA_lang {r:Int} (w:List Int):∀ (n:Nat) {g:Int × List Ed},IsGr r g.1 g.2→(GenL (foldA n g).2 w↔GenL g.2 w)
 | 0,g,_=>Iff.rfl
 | n+1,g,h=>by
  cases hf:folds g.2 with
  | nil=>rw [foldA_nil hf]
  | cons p t =>
   rw [foldA_cons hf];have hm:p∈folds g.2:=by rw [hf];exact List.mem_cons_self
   obtain ⟨h1,h2,h3⟩:=mem_folds h.all h.asc hm;exact (foldA_lang w n (mergeE_gr h h1 h2 h3)).trans (merge_lang h (apex_mem h.all (fun e he=>he) hm) h1 h2 w)
theorem deg_one {es:List Ed} {e:Ed} (he:e∈es) (v:Int):degE v e≤deg es v:=by
 induction es with
 | nil=>cases he
 | cons a t ih =>
  have h:deg (a :: t) v=degE v a+deg t v:=by simp [deg]
  rcases List.mem_cons.1 he with rfl | he
  ·omega
  ·have:=ih he
   omega
theorem deg_two {es:List Ed} {e f:Ed} (he:e∈es) (hf:f∈es) (hne:e≠f) (v:Int):degE v e+degE v f≤deg es v:=by
 induction es with
 | nil=>cases he
 | cons a t ih =>
  have h:deg (a :: t) v=degE v a+deg t v:=by simp [deg]
  rcases List.mem_cons.1 he with h1 | h1 <;> rcases List.mem_cons.1 hf with h2 | h2
  ·exact absurd (h1.trans h2.symm) hne
  ·have:=deg_one h2 v
   rw [h1];omega
  ·have:=deg_one h1 v
   rw [h2];omega
  ·have:=ih h1 h2
   omega
theorem Sp.degE {es:List Ed} {v y t:Int} (h:Sp es v y t):∃ e∈es,1≤degE v e∧((0 < y∧e.a=v∧e.l=y∧e.b=t) ∨ (y < 0∧e.b=v∧e.l = -y∧e.a=t)):=by
 rcases h with ⟨h1,h2⟩ | ⟨h1,h2⟩
 ·exact ⟨_,h2,by simp [Go.Proofs.YthampgpcajmopaaGreat.degE],.inl ⟨h1,rfl,rfl,rfl⟩⟩
 ·exact ⟨_,h2,by simp [Go.Proofs.YthampgpcajmopaaGreat.degE],.inr ⟨h1,rfl,rfl,rfl⟩⟩
def Two (es:List Ed) (v:Int):Prop:=∃ y z t t',y≠z∧Sp es v y t∧Sp es v z t'
theorem Two.deg {es:List Ed} {v:Int} (h:Two es v):2≤deg es v:=by
 obtain ⟨y,z,t,t',hne,h1,h2⟩:=h;obtain ⟨e,he,d1,c1⟩:=h1.degE;obtain ⟨f,hf,d2,c2⟩:=h2.degE;by_cases hef:e=f
 ·subst hef
  have:degE v e=2:=by
   unfold Go.Proofs.YthampgpcajmopaaGreat.degE;rcases c1 with ⟨a1,a2,a3,a4⟩ | ⟨a1,a2,a3,a4⟩ <;> rcases c2 with ⟨b1,b2,b3,b4⟩ | ⟨b1,b2,b3,b4⟩
   ·omega
   ·rw [if_pos a2,if_pos b2]
   ·rw [if_pos b2,if_pos a2]
   ·omega
  have:=deg_one he v;omega
 ·have:=deg_two he hf hef v
  omega
theorem two_of_deg {r s:Int} {es:List Ed} (h:IsFol r s es) {v:Int} (hd:2≤deg es v):Two es v:=by
 have key:∀ fs:List Ed,(∀ e∈fs,e∈es)→Asc fs→1≤deg fs v→∃ e∈fs,1≤degE v e:=by
  intro fs
  induction fs with
  | nil=>intro _ _ h;simp [Go.Proofs.YthampgpcajmopaaGreat.deg] at h
  | cons a t ih =>
   intro hs ha hd;have h1:deg (a :: t) v=degE v a+deg t v:=by simp [Go.Proofs.YthampgpcajmopaaGreat.deg]
   by_cases h2:1≤degE v a
   ·exact ⟨a,List.mem_cons_self,h2⟩
   ·obtain ⟨e,he,h3⟩:=ih (fun e he=>hs e (List.mem_cons_of_mem _ he)) (List.pairwise_cons.1 ha).2 (by omega)
    exact ⟨e,List.mem_cons_of_mem _ he,h3⟩
 have key2:∀ fs:List Ed,(∀ e∈fs,e∈es)→Asc fs→2≤deg fs v→(∃ e∈fs,degE v e=2) ∨ ∃ e∈fs,∃ f∈fs,e≠f∧1≤degE v e∧1≤degE v f:=by
  intro fs
  induction fs with
  | nil=>intro _ _ h;simp [Go.Proofs.YthampgpcajmopaaGreat.deg] at h
  | cons a t ih =>
   intro hs ha hd;have h1:deg (a :: t) v=degE v a+deg t v:=by simp [Go.Proofs.YthampgpcajmopaaGreat.deg]
   have hle:degE v a≤2:=by unfold Go.Proofs.YthampgpcajmopaaGreat.degE;split <;> split <;> omega
   obtain ⟨hlt,hasc⟩:=List.pairwise_cons.1 ha;by_cases h2:degE v a=2
   ·exact .inl ⟨a,List.mem_cons_self,h2⟩
   ·by_cases h3:1≤degE v a
    ·obtain ⟨e,he,h4⟩:=key t (fun e he=>hs e (List.mem_cons_of_mem _ he)) hasc (by omega)
     exact .inr ⟨a,List.mem_cons_self,e,List.mem_cons_of_mem _ he,(hlt e he).ne,h3,h4⟩
    ·rcases ih (fun e he=>hs e (List.mem_cons_of_mem _ he)) hasc (by omega) with ⟨e,he,h4⟩ | ⟨e,he,f,hf,h4⟩
     ·exact .inl ⟨e,List.mem_cons_of_mem _ he,h4⟩
     ·exact .inr ⟨e,List.mem_cons_of_mem _ he,f,List.mem_cons_of_mem _ hf,h4⟩
 have way:∀ e∈es,1≤degE v e→(e.a=v∧Sp es v e.l e.b) ∨ (e.b=v∧Sp es v (-e.l) e.a):=by
  intro e he h1;have hl:=h.gr.all e he;simp only [InG] at hl;have hs:=sp_edge he (by omega);unfold Go.Proofs.YthampgpcajmopaaGreat.degE at h1;by_cases ha:e.a=v
  ·exact .inl ⟨ha,by rw [← ha];exact hs⟩
  ·by_cases hb:e.b=v
   ·exact .inr ⟨hb,by rw [← hb];exact hs.neg⟩
   ·rw [if_neg ha,if_neg hb] at h1
    omega
 rcases key2 es (fun e he=>he) h.gr.asc hd with ⟨e,he,h2⟩ | ⟨e,he,f,hf,hne,h1,h2⟩
 ·have hl:=h.gr.all e he
  simp only [InG] at hl;have hs:=sp_edge he (by omega);unfold Go.Proofs.YthampgpcajmopaaGreat.degE at h2;have ha:e.a=v:=by
   apply Classical.byContradiction;intro hc;rw [if_neg hc] at h2;split at h2 <;> omega
  have hb:e.b=v:=by
   apply Classical.byContradiction;intro hc;rw [if_neg hc] at h2;split at h2 <;> omega
  refine ⟨e.l, -e.l,e.b,e.a,by omega,by rw [← ha];exact hs,?_⟩;rw [← hb];exact hs.neg
 ·have le:=h.gr.all e he
  have lf:=h.gr.all f hf;simp only [InG] at le lf;rcases way e he h1 with ⟨a1,s1⟩ | ⟨a1,s1⟩ <;> rcases way f hf h2 with ⟨a2,s2⟩ | ⟨a2,s2⟩
  ·exact ⟨_,_,_,_,fun e1=>hne (h.key e he f hf ⟨e1,.inl (a1.trans a2.symm)⟩),s1,s2⟩
  ·exact ⟨_,_,_,_,by omega,s1,s2⟩
  ·exact ⟨_,_,_,_,by omega,s1,s2⟩
  ·exact ⟨_,_,_,_,fun e1=>hne (h.key e he f hf ⟨by omega,.inr (a1.trans a2.symm)⟩),s1,s2⟩
theorem conn_pa {r s:Int} {es:List Ed} (hg:∀ e∈es,InG r s e) {v u:Int}:Conn es v u↔∃ w,Pa es v w u:=by
 constructor
 ·intro h
  induction h with
  | here=>exact ⟨[],rfl⟩
  | @out e he _ ih =>
   obtain ⟨w,hw⟩:=ih;have hl:=hg e he;simp only [InG] at hl;exact ⟨_,hw.snoc (sp_edge he (by omega))⟩
  | @inn e he _ ih =>
   obtain ⟨w,hw⟩:=ih;have hl:=hg e he;simp only [InG] at hl;exact ⟨_,hw.snoc (sp_edge he (by omega)).neg⟩
 ·rintro ⟨w,hw⟩
  have key:∀ (w:List Int) (t:Int),Conn es v t→Pa es t w u→Conn es v u:=by
   intro w
   induction w with
   | nil=>intro t ht h;cases h;exact ht
   | cons x w ih =>
    rintro t ht ⟨q,h1,h2⟩;refine ih q ?_ h2;rcases h1 with ⟨_,h1⟩ | ⟨_,h1⟩
    ·exact Conn.out h1 ht
    ·exact Conn.inn h1 ht
  exact key w v Conn.here hw
theorem leaf_none_iff {r s:Int} {es:List Ed} (h:IsFol r s es):leaf s es=none↔∀ v,1≤v→v < s→Two es v∧∃ w,Pa es 0 w v:=by
 constructor
 ·intro hl v h1 h2
  rcases leaf_cases s es with ⟨_,hall⟩ | ⟨u,hu,_⟩
  ·have:=hall v.toNat (by omega) (by omega)
   rw [Int.toNat_of_nonneg (by omega)] at this;unfold Bad at this;refine ⟨two_of_deg h (by omega),(conn_pa h.gr.all).1 (Classical.byContradiction fun hc=>this (.inr hc))⟩
  ·rw [hl] at hu
   cases hu
 ·intro hall
  refine leaf_none fun u h1 h2 hb=>?_;obtain ⟨h3,h4⟩:=hall u (by omega) h2;rcases hb with hb | hb
  ·have:=h3.deg
   omega
  ·exact hb ((conn_pa h.gr.all).2 h4)
theorem leaf_avoid {r s:Int} {es:List Ed} (h:IsFol r s es) {v:Int} (hv:v≠0) (hb:Bad es v) {w a b:List Int} (hr:Rd w) (e:w=a++b) (h1:Pa es 0 a v) (h2:Pa es v b 0):False:=by
 rcases hb with hb | hb
 ·rcases snoc_cases a with rfl | ⟨a',x,rfl⟩
  ·cases h1
   exact hv rfl
  ·cases b with
   | nil=>cases h2;exact hv rfl
   | cons y b' =>
    obtain ⟨t,h3,h4⟩:=pa_app.1 h1;have h4:=(pa_one.1 h4).neg;obtain ⟨t',h5,h6⟩:=h2;by_cases hxy:y = -x
    ·subst hxy
     exact hr a' b' x (by rw [e];simp)
    ·have:=Two.deg (es:=es) (v:=v) ⟨y, -x,t',t,hxy,h5,h4⟩
     omega
 ·exact hb ((conn_pa h.gr.all).2 ⟨a,h1⟩)
theorem mem_butV {v:Nat} {n:Nat} {x:Int}:x∈but v n↔0≤x∧x < n∧x≠v:=by
 rw [mem_but];constructor
 ·rintro ⟨u,h1,h2,rfl⟩
  omega
 ·rintro ⟨h1,h2,h3⟩
  exact ⟨x.toNat,by omega,by omega,by omega⟩
theorem but_zero {v n:Nat} (hv:1≤v) (hn:v < n):idxI (but v n) 0=0:=by
 refine idxI_at (but_nodup v n) (k:=0) ?_;obtain ⟨m,rfl⟩:∃ m,n=m+1:=⟨n - 1,by omega⟩
 unfold but;have:List.range (m+1)=0 :: (List.range m).map Nat.succ:=List.range_succ_eq_map;rw [this,List.filter_cons,if_pos (by simp;omega)]
 rfl
theorem cut_fol {r:Int} {g:Int × List Ed} {v:Nat} (h:IsFol r g.1 g.2) (h1:1≤v) (h2:(v:Int) < g.1):IsFol r (cutV g v).1 (cutV g v).2:=by
 have hs:=h.gr.size;have hl:=but_len v (show v < g.1.toNat by omega);refine part_fol h (fun e=>?_) (by omega);rw [e] at hl;simp at hl;omega
theorem cut_lang {r:Int} {g:Int × List Ed} {v:Nat} (h:IsFol r g.1 g.2) (h1:1≤v) (h2:(v:Int) < g.1) (hb:Bad g.2 v) {w:List Int} (hw:LtW w):InS (cutV g v).2 w↔InS g.2 w:=by
 have hz:=but_zero h1 (show v < g.1.toNat by omega);have hs:=h.gr.size;unfold InS;constructor
 ·intro hp
  obtain ⟨u,hu,hi,hp2⟩:=part_pa_to (ord:=but v g.1.toNat) (es:=g.2) hp 0 (mem_butV.2 (by omega)) hz;have:=idxI_inj (mem_butV.2 (by omega)) hu (hz.trans hi.symm);subst this;exact hp2
 ·intro hp
  have:=part_pa_of (ord:=but v g.1.toNat) hp fun a b t e h3=>by
   have ht:=h3.rng h.gr.all (by omega);refine mem_butV.2 ⟨ht.1,by omega,fun e2=>?_⟩;have h4:Pa g.2 t b 0:=by
    rw [e] at hp;obtain ⟨t',h5,h6⟩:=pa_app.1 hp
    rwa [h3.det h h5]
   rw [e2] at h3 h4;exact leaf_avoid h (by omega) hb (rd_red hw) e h3 h4
  rwa [hz] at this
theorem trimA_lang {r:Int} {w:List Int} (hw:LtW w):∀ (n:Nat) {g:Int × List Ed},IsFol r g.1 g.2→IsFol r (trimA n g).1 (trimA n g).2∧(InS (trimA n g).2 w↔InS g.2 w)
 | 0,g,h=>⟨h,Iff.rfl⟩
 | n+1,g,h=>by
  cases hf:leaf g.1 g.2 with
  | none=>rw [trimA_none hf];exact ⟨h,Iff.rfl⟩
  | some v =>
   rw [trimA_some hf];obtain ⟨h1,h2,h3⟩:=leaf_spec hf;have h4:=trimA_lang hw n (cut_fol h h1 h2);exact ⟨h4.1,h4.2.trans (cut_lang h h1 h2 h3 hw)⟩
theorem trimA_fol {r:Int} (n:Nat) {g:Int × List Ed} (h:IsFol r g.1 g.2):IsFol r (trimA n g).1 (trimA n g).2:=(trimA_lang LtW.nil n h).1
theorem trimA_leaf:∀ (n:Nat) {g:Int × List Ed},g.1≤n→leaf (trimA n g).1 (trimA n g).2=none
 | 0,g,h=>by
  cases hf:leaf g.1 g.2 with
  | none=>rw [trimA_none hf];exact hf
  | some v =>
   obtain ⟨h1,h2,h3⟩:=leaf_spec hf;omega
 | n+1,g,h=>by
  cases hf:leaf g.1 g.2 with
  | none=>rw [trimA_none hf];exact hf
  | some v =>
   rw [trimA_some hf];obtain ⟨h1,h2,h3⟩:=leaf_spec hf;exact trimA_leaf n (by rw [cutV_size h2];omega)
theorem ordE_zero {r s:Int} {es:List Ed} (h:IsFol r s es):idxI (ordE r es 0) 0=0:=idxI_at (ordE_len h.gr (Int.le_refl _) (by have:=h.gr.size;omega)).2.2.1 (k:=0) (ordE_head r es 0)
theorem canonG_val {r:Int} {g:Int × List Ed} (h:IsFol r g.1 g.2):canonG r g=(((ordE r g.2 0).length:Int),partE (ordE r g.2 0) g.2):=by
 unfold canonG;rw [if_pos h]
theorem canonG_isfol {r:Int} {g:Int × List Ed} (h:IsFol r g.1 g.2):IsFol r (canonG r g).1 (canonG r g).2:=by
 rw [canonG_val h];have hs:=h.gr.size;have hl:=ordE_len h.gr (v:=0) (Int.le_refl _) (by omega);exact part_fol h (fun e=>by rw [e] at hl;simp at hl) (by omega)
theorem canonG_lang {r:Int} {g:Int × List Ed} (h:IsFol r g.1 g.2) {w:List Int}:InS (canonG r g).2 w↔InS g.2 w:=by
 have hz:=ordE_zero h;have hs:=h.gr.size;rw [canonG_val h];unfold InS;constructor
 ·intro hp
  obtain ⟨u,hu,hi,hp2⟩:=part_pa_to (ord:=ordE r g.2 0) (es:=g.2) hp 0 (ordE_self r g.2 0) hz;have:=idxI_inj (ordE_self r g.2 0) hu (hz.trans hi.symm);subst this;exact hp2
 ·intro hp
  have:=part_pa_of (ord:=ordE r g.2 0) hp fun a b t e h3=>bfs_reach h (Int.le_refl _) (by omega) (ordE_self r g.2 0) h3
  rwa [hz] at this
theorem canonG_two {r:Int} {g:Int × List Ed} (h:IsFol r g.1 g.2) (hl:leaf g.1 g.2=none):leaf (canonG r g).1 (canonG r g).2=none:=by
 have hf:=canonG_isfol h;refine (leaf_none_iff hf).2 fun i h1 h2=>?_;rw [canonG_val h] at h2 ⊢;have hs:=h.gr.size;have hnd:=(ordE_len h.gr (v:=0) (Int.le_refl _) (by omega)).2.2;obtain ⟨k,rfl⟩:=Int.eq_ofNat_of_zero_le (by omega:0≤i);have hk:k < (ordE r g.2 0).length:=by simp only at h2;omega
 have hm:(ordE r g.2 0)[k]∈ordE r g.2 0:=List.getElem_mem hk;have hi:idxI (ordE r g.2 0) ((ordE r g.2 0)[k])=k:=idxI_at hnd.1 (List.getElem?_eq_getElem hk);generalize (ordE r g.2 0)[k]=u at hm hi;have hur:=hnd.2 u hm;have hu0:u≠0:=fun e=>by
  rw [e,ordE_zero h] at hi;omega
 obtain ⟨⟨y,z,t,t',hyz,s1,s2⟩,w,hw⟩:=(leaf_none_iff h).1 hl u (by omega) hur.2;have ht:=bfs_reach h (Int.le_refl _) (by omega) hm (pa_one.2 s1);have ht':=bfs_reach h (Int.le_refl _) (by omega) hm (pa_one.2 s2);refine ⟨⟨y,z,_,_,hyz,part_sp.2 ⟨u,t,hm,ht,hi,rfl,s1⟩,part_sp.2 ⟨u,t',hm,ht',hi,rfl,s2⟩⟩,w,?_⟩;have:=part_pa_of (ord:=ordE r g.2 0) hw fun a b q e h3=>bfs_reach h (Int.le_refl _) (by omega) (ordE_self r g.2 0) h3;rw [ordE_zero h,hi] at this;exact this
theorem map_idx {ord:List Int} (hn:ord.Nodup):ord.map (idxI ord)=(List.range ord.length).map fun (k:Nat)=>(k:Int):=by
 refine List.ext_getElem (by simp) fun k h1 h2=>?_;simp only [List.getElem_map,List.getElem_range];exact idxI_at hn (List.getElem?_eq_getElem (by simpa using h1))
theorem part_upto {r:Int} {n:Nat} {es:List Ed} (hg:∀ e∈es,InG r n e) (ha:Asc es):partE ((List.range n).map fun (k:Nat)=>(k:Int)) es=es:=by
 have hm:∀ v:Int,0≤v→v < n→v∈((List.range n).map fun (k:Nat)=>(k:Int))∧idxI ((List.range n).map fun (k:Nat)=>(k:Int)) v=v:=fun v h1 h2=>by
  have hnd:((List.range n).map fun (k:Nat)=>(k:Int)).Nodup:=by
   unfold List.Nodup;rw [List.pairwise_map];exact (List.pairwise_lt_range (n:=n)).imp fun h=>by omega
  obtain ⟨k,rfl⟩:=Int.eq_ofNat_of_zero_le h1;have hk:((List.range n).map fun (k:Nat)=>(k:Int))[k]?=some (k:Int):=by
   rw [List.getElem?_map,List.getElem?_range (by omega)]
   rfl
  exact ⟨List.mem_of_getElem? hk,idxI_at hnd hk⟩
 refine asc_ext (asc_canon _) ha fun f=>?_;rw [mem_partE];constructor
 ·rintro ⟨e,he,h1,h2,rfl⟩
  have hi:=hg e he;simp only [InG] at hi;rw [(hm e.a (by omega) (by omega)).2,(hm e.b (by omega) (by omega)).2];exact he
 ·intro he
  have hi:=hg f he;simp only [InG] at hi;refine ⟨f,he,(hm f.a (by omega) (by omega)).1,(hm f.b (by omega) (by omega)).1,?_⟩;rw [(hm f.a (by omega) (by omega)).2,(hm f.b (by omega) (by omega)).2]
theorem ordE_def (r:Int) (es:List Ed) (v:Int):ordE r es v=(bfs es (lets r.toNat) v).map Prod.fst:=rfl
theorem bfs_part {r s:Int} {es:List Ed} (h:IsFol r s es):bfs (partE (ordE r es 0) es) (lets r.toNat) 0=(bfs es (lets r.toNat) 0).map fun p=>(idxI (ordE r es 0) p.1,p.2):=by
 have hs:=h.gr.size;have hz:=ordE_zero h;have hord:=ordE_len h.gr (v:=0) (Int.le_refl _) (by omega);have hf2:IsFol r (ordE r es 0).length (partE (ordE r es 0) es):=part_fol h (fun e=>by rw [e] at hord;simp at hord) (by omega);have hre:∀ {u t x:Int},u∈ordE r es 0→Sp es u x t→t∈ordE r es 0:=fun hu hs2=>bfs_reach h (Int.le_refl _) (by omega) hu (pa_one.2 hs2);have h0:=ordE_self r es 0;generalize ordE r es 0=ord at hz hf2 hre h0 ⊢;have:=bfs_iso (es:=es) (es':=partE ord es) (L:=lets r.toNat) (v:=0) (f:=idxI ord) (R:=fun u=>u∈ord) h0
  (fun u hu x hx hn=>hre hu (sp_nextV hn))
  (fun u hu x hx hn=>by
   apply Classical.byContradiction;intro hc;obtain ⟨u',t',hu',ht',e1,e2,hsp⟩:=part_sp.1 (sp_nextV (by omega:0≤nextV (partE ord es) (idxI ord u) x));have:=idxI_inj hu' hu e1;subst this;exact nextV_no hn h.gr.nn _ hsp)
  (fun u hu x hx hn=>by
   have ht:=hre hu (sp_nextV hn);exact ⟨nextV_sp hf2 (part_sp.2 ⟨u,_,hu,ht,rfl,rfl,sp_nextV hn⟩),idxI_mem.2 ht⟩)
  (fun u t hu ht e=>idxI_inj hu ht e)
 rwa [hz] at this
theorem map_fst_idx (st:BS) (ord:List Int):(st.map fun p=>(idxI ord p.1,p.2)).map Prod.fst=(st.map Prod.fst).map (idxI ord):=by
 rw [List.map_map,List.map_map];exact List.map_congr_left fun p _=>rfl
theorem ordE_part {r s:Int} {es:List Ed} (h:IsFol r s es):ordE r (partE (ordE r es 0) es) 0=(List.range (ordE r es 0).length).map fun (k:Nat)=>(k:Int):=by
 have hs:=h.gr.size;have hord:=ordE_len h.gr (v:=0) (Int.le_refl _) (by omega);have hb:=bfs_part h;rw [ordE_def r (partE (ordE r es 0) es) 0,hb,map_fst_idx,← ordE_def r es 0,map_idx hord.2.2.1]
theorem canonG_idem {r:Int} {g:Int × List Ed} (h:IsFol r g.1 g.2):canonG r (canonG r g)=canonG r g:=by
 have hf:=canonG_isfol h;rw [canonG_val hf];rw [canonG_val h] at hf ⊢;simp only at hf ⊢;rw [ordE_part h,part_upto hf.gr.all hf.gr.asc];simp
theorem foldA_isFol {r s:Int} {es:List Ed} (h:IsGr r s es):IsFol r (foldA 40 (s,es)).1 (foldA 40 (s,es)).2:=⟨foldA_gr 40 (g:=(s,es)) h,folds_nil.1 (foldA_fol 40 (g:=(s,es)) h h.size.2)⟩
theorem core_cor {r s:Int} {es:List Ed} (h:IsGr r s es):IsCor r (coreA r (s,es)).1 (coreA r (s,es)).2:=by
 have hf:=foldA_isFol h;have ht:=trimA_fol 40 hf;have hs:=hf.gr.size;have hl:=trimA_leaf 40 (g:=foldA 40 (s,es)) (by omega);unfold coreA;generalize trimA 40 (foldA 40 (s,es))=g at ht hl ⊢;exact ⟨canonG_isfol ht,canonG_two ht hl,canonG_idem ht⟩
theorem core_lang {r s:Int} {es:List Ed} (h:IsGr r s es) {w:List Int} (hw:LtW w):InS (coreA r (s,es)).2 w↔GenL es w:=by
 have hf:=foldA_isFol h;have ht:=trimA_lang hw 40 hf;have h3:=(genL_inS hf hw).symm.trans (foldA_lang w 40 (g:=(s,es)) h);unfold coreA;generalize foldA 40 (s,es)=g2 at hf ht h3 ⊢;generalize trimA 40 g2=g at ht ⊢;exact (canonG_lang ht.1).trans (ht.2.trans h3)
theorem Rd.cons {y:Int} {t:List Int} (h:Rd t) (hh:∀ z s,t=z :: s→z≠-y):Rd (y :: t):=by
 intro c d z e;cases c with
 | nil =>
  injection e with e1 e2
  subst e1;exact hh _ _ e2 rfl
 | cons q c =>
  injection e with e1 e2
  exact h c d z e2
theorem Rd.join:∀ {a:List Int} {x:Int} {b:List Int},Rd (a++[x])→Rd (x :: b)→Rd (a++x :: b)
 | [],_,_,_,h=>h
 | y :: a,x,b,h1,h2=>by
  refine Rd.cons (Rd.join (a:=a) (Rd.right (a:=[y]) h1) h2) fun z s e=>?_;cases a with
  | nil =>
   injection e with e1 e2
   subst e1;intro e3;exact h1 [] [] y (by rw [e3];rfl)
  | cons q a =>
   injection e with e1 e2
   subst e1;intro e3;exact h1 [] (a++[x]) y (by rw [e3];rfl)
theorem stepE_inj {u x v u' x' v':Int} (hx:x≠0) (hx':x'≠0) (h:stepE u x v=stepE u' x' v'):(u=u'∧x=x'∧v=v') ∨ (u=v'∧x = -x'∧v=u'):=by
 unfold stepE at h;split at h <;> split at h <;> (injection h with h1 h2 h3;omega)
theorem sp_stepE {es:List Ed} {u x v:Int}:Sp es u x v↔x≠0∧stepE u x v∈es:=by
 unfold Sp stepE;constructor
 ·rintro (⟨h1,h2⟩ | ⟨h1,h2⟩)
  ·exact ⟨by omega,by rw [if_neg (by omega)];exact h2⟩
  ·exact ⟨by omega,by rw [if_pos h1];exact h2⟩
 ·rintro ⟨h1,h2⟩
  by_cases h:x < 0
  ·rw [if_pos h] at h2
   exact .inr ⟨h,h2⟩
  ·rw [if_neg h] at h2
   exact .inl ⟨by omega,h2⟩
theorem nd_uniq {st:BS} (hn:(st.map Prod.fst).Nodup) {p q:Int × List Int} (hp:p∈st) (hq:q∈st) (h:p.1=q.1):p=q:=by
 obtain ⟨i,hi,rfl⟩:=List.getElem_of_mem hp;obtain ⟨j,hj,rfl⟩:=List.getElem_of_mem hq;have hpw:=List.pairwise_iff_getElem.1 hn;rcases Nat.lt_trichotomy i j with hl | rfl | hl
 ·exact absurd (by rw [List.getElem_map,List.getElem_map];exact h) (hpw i j (by simpa using hi) (by simpa using hj) hl)
 ·rfl
 ·exact absurd (by rw [List.getElem_map,List.getElem_map];exact h.symm) (hpw j i (by simpa using hj) (by simpa using hi) hl)
theorem bfs_uniq {r s v:Int} {es:List Ed} {L:List Int} (hg:∀ e∈es,InG r s e) (h0:0≤v) (h1:v < s) {p q:Int × List Int} (hp:p∈bfs es L v) (hq:q∈bfs es L v) (h:p.1=q.1):p=q :=
 nd_uniq (bfs_ok (L:=L) hg h0 h1).nd hp hq h
theorem bfs_cases {es:List Ed} {L:List Int} {v:Int} {q:Int × List Int} (h:q∈bfs es L v):q=(v,[]) ∨ ∃ p∈bfs es L v,∃ x∈L,q=(nextV es p.1 x,p.2++[x])∧0≤nextV es p.1 x∧q∈(bfs es L v).tail:=by
 have hp:=bfs_par es L v;have h1:=bfsSt_pre' es L v 0 41;rw [Nat.zero_add] at h1;have h2:(bfs es L v)[0]?=some (v,[]):=prefix_get h1 (by simp [bfsSt]);generalize bfs es L v=st at h hp h2;cases st with
 | nil=>cases h
 | cons a t =>
  simp at h2;rcases List.mem_cons.1 h with rfl | h
  ·exact .inl h2
  ·obtain ⟨p,hp1,x,hx,e,hn⟩:=hp.par q h
   exact .inr ⟨p,hp1,x,hx,e,hn,h⟩
theorem bfs_rd {r s v:Int} {es:List Ed} {L:List Int} (hf:IsFol r s es) (h0:0≤v) (h1:v < s):∀ (n:Nat) (q:Int × List Int),q∈bfs es L v→q.2.length≤n→Rd q.2:=by
 intro n
 induction n with
 | zero =>
  intro q _ hl;have e:q.2=[]:=List.eq_nil_of_length_eq_zero (by omega);rw [e];exact Rd.nil
 | succ n ih =>
  intro q hq hl;rcases bfs_cases hq with rfl | ⟨p,hp,x,hx,e,hn, -⟩
  ·exact Rd.nil
  ·have hp2:=ih p hp (by rw [e] at hl;simp at hl;omega)
   have e2:q.2=p.2++[x]:=by rw [e]
   rw [e2];refine hp2.snoc fun t a ha hax=>?_;rcases bfs_cases hp with rfl | ⟨p',hp',y,hy,e',hn', -⟩
   ·simp at ha
   ·have e3:p.2=p'.2++[y]:=by rw [e']
    obtain ⟨rfl,rfl⟩:=snoc_inj (ha.symm.trans e3);have s1:=sp_nextV hn';have s2:=sp_nextV hn;have e4:p.1=nextV es p'.1 a:=by rw [e']
    rw [← e4] at s1;have s3:=s1.neg;rw [hax,Int.neg_neg] at s3;have e5:q.1=p'.1:=by
     have:q.1=nextV es p.1 x:=by rw [e]
     rw [this];exact hf.det s2 s3
    have e6:=bfs_uniq hf.gr.all h0 h1 hq hp' e5;have:q.2=p'.2:=by rw [e6]
    rw [e2,e3] at this;have:=congrArg List.length this;simp at this
theorem wordV_pa {r n:Nat} {es:List Ed} (h:IsCor r n es) {v:Nat} (hv:v < n):Pa es 0 (wordV r es v) v:=bfs_pa es (lets r) 0 _ (wordV_mem h hv)
theorem wordV_rd {r n:Nat} {es:List Ed} (h:IsCor r n es) {v:Nat} (hv:v < n):Rd (wordV r es v):=bfs_rd h.fol (Int.le_refl _) (by omega) _ _ (wordV_mem h hv) (Nat.le_refl _)
theorem wordV_zero {r n:Nat} {es:List Ed} (h:IsCor r n es):wordV r es 0=[]:=by
 have h1:=bfsSt_pre' es (lets r) 0 0 41;rw [Nat.zero_add] at h1;exact wordV_eq h.gr (h1.subset (by simp [bfsSt]))
theorem wordV_last {r n:Nat} {es:List Ed} (h:IsCor r n es) {v:Nat} (hv:v < n) (h0:v≠0):∃ (p:Nat) (x:Int),p < n∧wordV r es v=wordV r es p++[x]∧Sp es p x v∧stepE p x v∈treeE es (bfs es (lets r) 0):=by
 have hm:=wordV_mem h hv;rcases bfs_cases hm with e | ⟨p,hp,x,hx,e,hn,ht⟩
 ·injection e with e1 e2
  omega
 ·have hr:=(bfs_ok (L:=lets r) h.gr.all (Int.le_refl 0) (by omega:(0:Int) < n)).rng p hp
  obtain ⟨k,hk⟩:=Int.eq_ofNat_of_zero_le hr.1;injection e with e1 e2
  have hsp:=sp_nextV hn;rw [← e1,hk] at hsp;have e3:wordV r es (k:Int)=p.2:=wordV_eq h.gr (by rw [← hk];exact hp);refine ⟨k,x,by omega,by rw [e2,e3],hsp,?_⟩;unfold treeE;refine List.mem_map.2 ⟨_,ht,?_⟩;rw [e2];have:(v:Int)=nextV es p.1 x:=e1;rw [this,edgeOf_new h.fol hn,hk]
theorem mem_extraE {r:Nat} {es:List Ed} {e:Ed}:e∈extraE r es↔e∈es∧e ∉ treeE es (bfs es (lets r) 0):=by
 unfold extraE;rw [List.mem_filter];simp
theorem loop_rd {r n:Nat} {es:List Ed} (h:IsCor r n es) {a b:Nat} {l:Int} (he:(⟨a,l,b⟩:Ed)∈extraE r es):Rd (wordV r es a++l :: invW (wordV r es b)):=by
 obtain ⟨hm,hx⟩:=mem_extraE.1 he;have hi:=h.gr.all _ hm;simp only [InG] at hi;have hs:Sp es a l b:=sp_edge hm (by simp only;omega);have hn:a < n∧b < n:=by omega
 have hlb:=(wordV_pa h hn.2).lt h.gr;refine Rd.join ?_ ?_
 ·refine (wordV_rd h hn.1).snoc fun t y e hy=>hx ?_
  by_cases ha:a=0
  ·subst ha
   rw [show ((0:Nat):Int)=0 from rfl,wordV_zero h] at e;simp at e
  ·obtain ⟨p,x,hp,ew,hsp,ht⟩:=wordV_last h hn.1 ha
   obtain ⟨-,rfl⟩:=snoc_inj (ew.symm.trans e);have h3:=hsp.neg;rw [hy,Int.neg_neg] at h3;have h4:=h.fol.det hs h3;rw [hy,← h4] at ht;unfold stepE at ht;rw [if_pos (by omega),Int.neg_neg] at ht;exact ht
 ·refine Rd.cons ((wordV_rd h hn.2).inv hlb) fun z s e hz=>hx ?_
  by_cases hb:b=0
  ·subst hb
   rw [show ((0:Nat):Int)=0 from rfl,wordV_zero h,invW_nil] at e;cases e
  ·obtain ⟨p,x,hp,ew,hsp,ht⟩:=wordV_last h hn.2 hb
   rw [ew] at e hlb;rw [invW_app] at e;have e2:invW [x]=[-x]:=by simp [invW,(hsp.lt3 h.gr).negI]
   rw [e2,List.singleton_append] at e;have e3:-x=z:=(List.cons.inj e).1;have e5:x=l:=by omega
   subst e5;have h4:=Pa.det' h.fol (pa_one.2 hs) (pa_one.2 hsp);rw [← h4] at ht;unfold stepE at ht;rw [if_neg (by omega)] at ht;exact ht
theorem basis_pa {r n:Nat} {es:List Ed} (h:IsCor r n es) {a b:Nat} {l:Int} (he:(⟨a,l,b⟩:Ed)∈es):Pa es 0 (wordV r es a++l :: invW (wordV r es b)) 0:=by
 have hi:=h.gr.all _ he;simp only [InG] at hi;exact (wordV_pa h (by omega)).app ⟨_,sp_edge he (by simp only;omega),(wordV_pa h (by omega)).inv h.gr⟩
theorem edge_nat {r n:Nat} {es:List Ed} (h:IsGr r n es) {e:Ed} (he:e∈es):∃ (a b:Nat),e=⟨(a:Int),e.l,(b:Int)⟩∧a < n∧b < n∧1≤e.l∧e.l≤r:=by
 have hi:=h.all e he;simp only [InG] at hi;exact ⟨e.a.toNat,e.b.toNat,Ed.ext' (by simp only;omega) rfl (by simp only;omega),by omega,by omega,by omega,by omega⟩
theorem basisW_eq {r n:Nat} {es:List Ed} (h:IsCor r n es) {a b:Nat} {l:Int} (he:(⟨a,l,b⟩:Ed)∈extraE r es):basisW r es ⟨a,l,b⟩=wordV r es a++l :: invW (wordV r es b):=by
 unfold basisW;have:=red_self (loop_rd h he) ((basis_pa h (extraE_mem he)).lt h.gr)
 simpa using this
theorem basisG_inS {r n:Nat} {es:List Ed} (h:IsCor r n es) {w:List Int} (hw:w∈basisG r es):LtW w∧InS es w:=by
 unfold basisG at hw;obtain ⟨e,he,rfl⟩:=List.mem_map.1 hw;obtain ⟨a,b,e2, -⟩:=edge_nat h.gr (extraE_mem he);rw [e2] at he ⊢;rw [basisW_eq h he];exact ⟨(basis_pa h (extraE_mem he)).lt h.gr,InS.mk h.fol (basis_pa h (extraE_mem he))⟩
end Go.Proofs.YthampgpcajmopaaGreat
