/- Lemmas. -/
import Derived.Test.YtkimajabegojoaaGreatMo1
import Derived.Test.YtkimajabegojoaaGreatMo3
import Derived.Test.YtkimajabegojoaaGreatMo5
namespace Go.Proofs.YtkimajabegojoaaGreat
set_option linter.unusedVariables false
set_option linter.unusedSimpArgs false
set_option maxHeartbeats 40000000
set_option maxRecDepth 100000
open Go.RowKit
theorem aCi(rank:Int)(A:OA)(xs:LI)(c:Nat)(w:World)(B:Nat)(hr:Rs w B A (aAe xs))(aB:OkI xs)(hl:xs.length<=4194304)(r:Bool)(a2:r=true↔IsW rank xs) :
  Calls Tryz.prog 101 #[.int .i64 rank,.slice A xs.length c] w fun e w'=>e=.returned (.bool r)/\∃ n,w'=w.drewN n:=by
 have aH:=oH aB;have a8:r=true↔(RawTo rank xs xs.length/\inB rank 1 3=true/\xs.length<=24):=a2.trans ⟨fun h=>⟨(aNG h.1 h.2.1).2 h.2.2.2,by simp[inB];exact⟨h.1,h.2.1⟩,h.2.2.1⟩,fun h=>by
  have a4:1<=rank/\rank<=3:=by simpa [inB] using h.2.1
  exact⟨a4.1,a4.2,h.2.2,(aNG a4.1 a4.2).1 h.1⟩⟩
 have HR:=oH a8;clear aB a2 a8;obtain⟨nr,a6⟩:∃ nr,wrap64 (-rank)=nr:=⟨_,rfl⟩
 go_enter Tryz.func101,Tryz.ntmps101
 go_wp2_with fail;go_loopw [5] (fun i wr=>∃ k:Nat,k<=xs.length/\i=.int .i64 k/\(∃ n,wr=w.drewN n)/\RawTo rank xs k) (fun i _=>xs.length - (intOf i).toNat)
 case atStart=>exact⟨0,oZ,rfl,⟨0,rfl⟩,RawTo.zero _ _⟩
 obtain⟨k,hk,rfl,⟨nd,rfl⟩,aC⟩:=hrel;have HT:=oH aC;clear aC;by_cases hlt:k<xs.length
 .obtain⟨b,aF,x,rfl, -,hx,hc⟩:=hr.int hlt
  have HX:=oH hx;clear hx;have aE:(k:Int)<(xs.length:Int):=by omega
  have a9:∀(P:Prop),(aSL rank xs k x->P)->r=true->P:=fun P h hr1=>h ((HR.out.1 hr1).1 k x hlt HX.out);have a5:=oH a9;clear a9;by_cases hx0:(x == 0)=true
  .have hf:r=false:=by
    cases r
    .rfl
    refine(a5.out False (fun h=>?_) rfl).elim;rw[h.1] at hx0;cases hx0
   subst hf;go_wp2_with fail;go_quiet (fail)
   go_wp2_with fail;go_ret;exact⟨rfl,_,by first|rfl|exact dn _ _ _⟩
  have a3:(x == 0)=false:=by simpa using hx0
  clear hx0;have hC:=fun n:Nat=>pq (aBw x nr rank (w.drewN n));by_cases hi:inB x nr rank=false
  .have hf:r=false:=by
    cases r
    .rfl
    refine(a5.out False (fun h=>?_) rfl).elim;have h2:=h.2.1;rw[a6,hi] at h2;cases h2
   subst hf;rw[hi] at hC;have HC:=oH hC;clear hC hi;go_wp2_with fail;go_quiet ((go_at_call 102;first|exact qz0 (HC.out _)|exact qz1 (HC.out _)))
   go_wp2_with fail;go_ret;exact⟨rfl,_,by first|rfl|exact dn _ _ _⟩
  have hi':inB x nr rank=true:=by simpa using hi
  rw[hi'] at hC;have HC:=oH hC;have HI:=oH hi';clear hC hi hi';cases k with
 |zero=>
   have aI:w.cell? ⟨b,aF,none⟩=some (.int .i64 x):=hc;go_wp2_with fail;go_quiet ((go_at_call 102;first|exact qz0 (HC.out _)|exact qz1 (HC.out _)))
   go_wp2_with fail;go_roundw
   case rel=>exact⟨1,oO,by go_num,⟨_,by first|rfl|exact dn _ _ _⟩,HT.out.succ HX.out ⟨a3,by rw[a6];exact HI.out,fun y h=>absurd h (Nat.lt_irrefl 0)⟩⟩
   simp[intOf];omega
 |succ m=>
   obtain⟨b',aG,y,he, -,hy,aJ⟩:=hr.int (show m<xs.length by omega);injection he with he
   injection he with he1 he2 _
   subst he1 he2;have HY:=oH hy;clear hy;have aD:(m:Int)<(xs.length:Int):=by omega
   have aK:(0:Int)<(m:Int)+1:=by omega
   have aL:(m:Int)+1 - 1=(m:Int):=by omega
   obtain⟨ny,aA⟩:∃ ny,wrap64 (-y)=ny:=⟨_,rfl⟩
   by_cases hxy:(x == ny)=true
   .have hf:r=false:=by
     cases r
     .rfl
     refine(a5.out False (fun h=>?_) rfl).elim;have h2:=h.2.2 y (Nat.succ_pos m) HY.out;rw[aA,hxy] at h2;cases h2
    subst hf;go_wp2_with fail;go_quiet ((go_at_call 102;first|exact qz0 (HC.out _)|exact qz1 (HC.out _)))
    go_wp2_with fail;go_ret;exact⟨rfl,_,by first|rfl|exact dn _ _ _⟩
   have a7:(x == ny)=false:=by simpa using hxy
   clear hxy;go_wp2_with fail;go_quiet ((go_at_call 102;first|exact qz0 (HC.out _)|exact qz1 (HC.out _)))
   go_wp2_with fail;go_roundw
   case rel=>
    refine⟨m+1+1,oO,by go_num,⟨_,by first|rfl|exact dn _ _ _⟩,HT.out.succ HX.out ⟨a3,by rw[a6];exact HI.out,fun z _ hz=>?_⟩⟩;rw[Nat.add_sub_cancel,HY.out] at hz;obtain rfl:=Option.some.inj hz;rw[aA];exact a7
   simp[intOf];omega
 obtain rfl:k=xs.length:=by omega
 have a1:r=(inB rank 1 3 && decide ((xs.length:Int)<=24)):=by
  rw[Bool.eq_iff_iff,HR.out];simp only[Bool.and_eq_true,decide_eq_true_eq];exact⟨fun h=>⟨h.2.1,oO⟩,fun h=>⟨HT.out,h.1,oO⟩⟩
 by_cases hib:inB rank 1 3=false
 .rw[hib] at a1
  have HI:=oH hib;clear hib;simp only[Bool.false_and] at a1;subst a1;go_wp2_with fail;refine(aBw _ _ _ _).mono ?_;rintro e w' ⟨rfl,rfl⟩;rw[HI.out];go_wp2_with fail;go_ret;exact⟨rfl,_,rfl⟩
 have a0:inB rank 1 3=true:=by simpa using hib
 rw[a0] at a1;have HI:=oH a0;simp only[Bool.true_and] at a1;clear hib a0;subst a1;go_wp2_with fail;refine(aBw _ _ _ _).mono ?_;rintro e w' ⟨rfl,rfl⟩;rw[HI.out];go_wp2_with fail;go_ret;exact⟨rfl,_,rfl⟩
theorem aNN(r s:Int)(A:OA)(es:List Ed)(c:Nat)(u:Int)(Aw:OA)(wd:LI)(cw:Nat)(v:Int)(w:World)(lo hi lo' hi':Nat)(hr:RG w lo hi A es)(hw:RV w lo' hi' Aw (aAe wd))(hl:es.length<=1048576)(bn:wd.length<=1048576)(bJ:OkI wd)(rs:Int)(aQ:List Ed)(b:Bool)(aj:PathIs r s es u wd v rs aQ b) :
  Calls Tryz.prog 212 #[aAJ r s A es.length c,.int .i64 u,.slice Aw wd.length cw,.int .i64 v] w fun e w'=>∃ A1 c1,e=.returned (.tuple #[aAJ r rs A1 aQ.length c1,.bool b])/\OG w' w.heap.size w'.heap.size A1 c1 aQ/\Mid 0 0 w w':=by
 have HR:=oH aj;have bR:=oH bJ;clear aj bJ;obtain⟨b1,bF⟩:=aAF (IsGr r s es);obtain⟨b2,bG⟩:=aAF (0<=u/\u<s);obtain⟨b3,bH⟩:=aAF (0<=v/\v<s);obtain⟨b4,bI⟩:=aAF (IsW r wd);have H1:=oH bF;have H2:=oH bG;have H3:=oH bH;have H4:=oH bI;clear bF bG bH bI;have aC:Mid 0 0 w ((w.alloc (.cells #[r,s,.slice A es.length c] 35)).alloc (.cells #[(0:Int),(0:Int),.slice none 0 0] 35)):=(oE _ _).trans (oE _ _);have B0:=(oJ w #[r,s,.slice A es.length c] 35).mid (oE _ (.cells #[(0:Int),(0:Int),.slice none 0 0] 35)) oZr;have B2:=oJ (w.alloc (.cells #[r,s,.slice A es.length c] 35)) #[(0:Int),(0:Int),.slice none 0 0] 35;simp only[World.size_alloc] at B2;go_enter Tryz.func212,Tryz.ntmps212
 go_wp2_with fail;generalize hw1:((w.alloc (.cells #[r,s,.slice A es.length c] 35)).alloc (.cells #[(0:Int),(0:Int),.slice none 0 0] 35))=w1 at aC B0 B2 |-;have bN:w1.heap.size=w.heap.size+1+1:=by rw[<- hw1];simp
 have HS:=oH bN;clear hw1 bN;with_reducible refine(aCk r s A es c _ _ _ (hr.mid aC oZl) hl).mono ?_
 rintro en w2 ⟨A1,c1,rfl,ay,aZ⟩;have ad:=oE w2 (.cells #[r,s,.slice A1 es.length c1] 35);have Y3:=oJ w2 #[r,s,.slice A1 es.length c1] 35;replace B0:=B0.mid aZ oZr;replace B2:=B2.mid aZ oZr;replace aC:=aC.trans aZ;replace B0:=B0.mid ad oZr;replace B2:=B2.mid ad oZr;replace aC:=aC.trans ad;have bU:w.heap.size+1<w2.heap.size:=by have:=HS.out;have:=aZ.size;omega
 have a7:=(ay.mid ad oZl)
 have ai:=ay.ov.2.2;have ae:Value.ownBlock (.slice A1 es.length c1)≠some w2.heap.size:=fun h=>by have:=ai _ h;omega
 obtain⟨p0,p1,p2⟩:=B0.c3 rfl;go_wp2_with fail;generalize w2.alloc (.cells #[r,s,.slice A1 es.length c1] 35)=w3 at aC B0 B2 Y3 a7 p0 p1 p2 |-;have ar:w2.heap.size<w3.heap.size:=Y3.1;have ab:=oH a7.ov.2.1;have b9:=oH ae;have bZ:=a7.wide oN oN (Nat.le_of_lt ar);generalize hG:w2.heap.size=G at Y3 bU ar a7 b9 |-;have aa:=oH (show w1.heap.size<=G by rw[<- hG];exact aZ.size);clear hG ad aZ ai ae ay bZ;with_reducible refine(aBa r s A es c _ _ _ (hr.mid aC oZl).rv hl b1 H1.out).mono ?_
 rintro en w4 ⟨rfl,aW⟩;replace B0:=B0.mid aW oZr;replace B2:=B2.mid aW oZr;replace Y3:=Y3.mid aW oZr;replace a7:=a7.mid aW oZl;replace aC:=aC.trans aW;replace ab:=oH (aAb ab.out aW oZl);clear aW;cases b1 with
|false=>
  have aL:¬ PathOk r s es u wd v:=fun h=>by have:=H1.out.2 h.gr;cases this
  clear p0 p1 p2;obtain⟨rfl,rfl,rfl⟩:=HR.out.no aL;obtain⟨a0,a1,a2⟩:=B2.c3 rfl;obtain⟨q0,q1,q2⟩:=Y3.c3 rfl;have af:=B2.2.2;go_wp2_with fail;refine oW (v:=.tuple #[.agg #[r,rs,.slice A1 aQ.length c1],.bool false]) (by simp[results,Tryz.results212,go_sem,a0,a1,a2,af,q0,q1,q2]) rfl ⟨A1,c1,rfl,?_,?_⟩
  .refine OG.wide (OG.mid a7 (a:=w.heap.size) (b:=w.heap.size+2) ?_ (Or.inl (by have:=HS.out;omega))) (by have:=HS.out;omega) (by have:=a7.size;simp;omega) oN
   repeat (first|exact Mid.refl _ _ _|refine Mid.stored ?_ _ (by simp;try omega) (by simp;try omega))
  repeat (first|exact aC|refine oQ ?_ (by simp;try omega) _)
|true=>
 have ag:=H1.out.1 rfl;have ap:=ag.size;have bl:=ag.len;have bm:=ag.rank;have GR:=oH ag;clear ag H1;have bP:IntKind.i64.wrap (s - 1)=s - 1:=oI _;clear p0 p1 p2;obtain⟨p0,p1,p2⟩:=B0.c3 rfl;go_wp2_with fail;with_reducible refine(aBQ (aJl ap.1 ap.2 H2.out).2 _).mono ?_
 rintro en w5 ⟨rfl,rfl⟩;cases b2 with
|false=>
  have aL:¬ PathOk r s es u wd v:=fun h=>by have:=H2.out.2 h.u0;cases this
  clear p0 p1 p2;obtain⟨rfl,rfl,rfl⟩:=HR.out.no aL;obtain⟨a0,a1,a2⟩:=B2.c3 rfl;obtain⟨q0,q1,q2⟩:=Y3.c3 rfl;have af:=B2.2.2;go_wp2_with fail;refine oW (v:=.tuple #[.agg #[r,rs,.slice A1 aQ.length c1],.bool false]) (by simp[results,Tryz.results212,go_sem,a0,a1,a2,af,q0,q1,q2]) rfl ⟨A1,c1,rfl,?_,?_⟩
  .refine OG.wide (OG.mid a7 (a:=w.heap.size) (b:=w.heap.size+2) ?_ (Or.inl (by have:=HS.out;omega))) (by have:=HS.out;omega) (by have:=a7.size;simp;omega) oN
   repeat (first|exact Mid.refl _ _ _|refine Mid.stored ?_ _ (by simp;try omega) (by simp;try omega))
  repeat (first|exact aC|refine oQ ?_ (by simp;try omega) _)
|true=>
 have bd:=H2.out.1 rfl;clear H2;clear p0 p1 p2;obtain⟨p0,p1,p2⟩:=B0.c3 rfl;go_wp2_with fail;with_reducible refine(aBQ (aJl ap.1 ap.2 H3.out).2 _).mono ?_
 rintro en w6 ⟨rfl,rfl⟩;cases b3 with
|false=>
  have aL:¬ PathOk r s es u wd v:=fun h=>by have:=H3.out.2 h.v0;cases this
  clear p0 p1 p2;obtain⟨rfl,rfl,rfl⟩:=HR.out.no aL;obtain⟨a0,a1,a2⟩:=B2.c3 rfl;obtain⟨q0,q1,q2⟩:=Y3.c3 rfl;have af:=B2.2.2;go_wp2_with fail;refine oW (v:=.tuple #[.agg #[r,rs,.slice A1 aQ.length c1],.bool false]) (by simp[results,Tryz.results212,go_sem,a0,a1,a2,af,q0,q1,q2]) rfl ⟨A1,c1,rfl,?_,?_⟩
  .refine OG.wide (OG.mid a7 (a:=w.heap.size) (b:=w.heap.size+2) ?_ (Or.inl (by have:=HS.out;omega))) (by have:=HS.out;omega) (by have:=a7.size;simp;omega) oN
   repeat (first|exact Mid.refl _ _ _|refine Mid.stored ?_ _ (by simp;try omega) (by simp;try omega))
  repeat (first|exact aC|refine oQ ?_ (by simp;try omega) _)
|true=>
 have be:=H3.out.1 rfl;clear H3;clear p0 p1 p2;obtain⟨p0,p1,p2⟩:=B0.c3 rfl;go_wp2_with fail;with_reducible refine(aCi r Aw wd cw _ _ ((hw.mid aC oZl).rs) bR.out oO b4 H4.out).mono ?_
 rintro en w7 ⟨rfl,nd,al⟩;have aX:Mid 0 0 w4 w7:=by rw[al];exact(Mid.refl 0 0 w4).drewN nd
 clear al;replace B0:=B0.mid aX oZr;replace B2:=B2.mid aX oZr;replace Y3:=Y3.mid aX oZr;replace a7:=a7.mid aX oZl;replace aC:=aC.trans aX;replace ab:=oH (aAb ab.out aX oZl);clear aX;cases b4 with
|false=>
  have aL:¬ PathOk r s es u wd v:=fun h=>by have:=H4.out.2 h.word;cases this
  clear p0 p1 p2;obtain⟨rfl,rfl,rfl⟩:=HR.out.no aL;obtain⟨a0,a1,a2⟩:=B2.c3 rfl;obtain⟨q0,q1,q2⟩:=Y3.c3 rfl;have af:=B2.2.2;go_wp2_with fail;refine oW (v:=.tuple #[.agg #[r,rs,.slice A1 aQ.length c1],.bool false]) (by simp[results,Tryz.results212,go_sem,a0,a1,a2,af,q0,q1,q2]) rfl ⟨A1,c1,rfl,?_,?_⟩
  .refine OG.wide (OG.mid a7 (a:=w.heap.size) (b:=w.heap.size+2) ?_ (Or.inl (by have:=HS.out;omega))) (by have:=HS.out;omega) (by have:=a7.size;simp;omega) oN
   repeat (first|exact Mid.refl _ _ _|refine Mid.stored ?_ _ (by simp;try omega) (by simp;try omega))
  repeat (first|exact aC|refine oQ ?_ (by simp;try omega) _)
|true=>
 have b7:=H4.out.1 rfl;have bO:=b7.2.2.1;have bB:=oH b7;clear b7 H4;clear p0 p1 p2;obtain⟨p0,p1,p2⟩:=B0.c3 rfl;by_cases hne:wd=[]
 .subst hne
  have aL:¬ PathOk r s es u [] v:=fun h=>h.ne rfl;clear p0 p1 p2;obtain⟨rfl,rfl,rfl⟩:=HR.out.no aL;obtain⟨a0,a1,a2⟩:=B2.c3 rfl;obtain⟨q0,q1,q2⟩:=Y3.c3 rfl;have af:=B2.2.2;go_wp2_with fail;refine oW (v:=.tuple #[.agg #[r,rs,.slice A1 aQ.length c1],.bool false]) (by simp[results,Tryz.results212,go_sem,a0,a1,a2,af,q0,q1,q2]) rfl ⟨A1,c1,rfl,?_,?_⟩
  .refine OG.wide (OG.mid a7 (a:=w.heap.size) (b:=w.heap.size+2) ?_ (Or.inl (by have:=HS.out;omega))) (by have:=HS.out;omega) (by have:=a7.size;simp;omega) oN
   repeat (first|exact Mid.refl _ _ _|refine Mid.stored ?_ _ (by simp;try omega) (by simp;try omega))
  repeat (first|exact aC|refine oQ ?_ (by simp;try omega) _)
 have ba:0<wd.length:=List.length_pos_iff.2 hne;have d4:((wd.length:Int) == 0)=false:=by simp only[beq_eq_false_iff_ne];omega
 have bQ:=oH hne;clear hne;clear p0 p1 p2;obtain⟨p0,p1,p2⟩:=B0.c3 rfl;have bg:IntKind.i64.wrap (s+(wd.length:Int))=s+(wd.length:Int):=oI _;have bT:IntKind.i64.wrap (s+(wd.length:Int) - 1)=s+(wd.length:Int) - 1:=oI _;by_cases hsl:40<s+(wd.length:Int) - 1
 .have aL:¬ PathOk r s es u wd v:=fun h=>by have:=h.sz;omega
  have d5:decide (40<s+(wd.length:Int) - 1)=true:=by simpa using hsl
  clear p1;clear p0 p2;obtain⟨p0,p1,p2⟩:=B0.c3 rfl;obtain⟨rfl,rfl,rfl⟩:=HR.out.no aL;obtain⟨a0,a1,a2⟩:=B2.c3 rfl;obtain⟨q0,q1,q2⟩:=Y3.c3 rfl;have af:=B2.2.2;go_wp2_with fail;refine oW (v:=.tuple #[.agg #[r,rs,.slice A1 aQ.length c1],.bool false]) (by simp[results,Tryz.results212,go_sem,a0,a1,a2,af,q0,q1,q2]) rfl ⟨A1,c1,rfl,?_,?_⟩
  .refine OG.wide (OG.mid a7 (a:=w.heap.size) (b:=w.heap.size+2) ?_ (Or.inl (by have:=HS.out;omega))) (by have:=HS.out;omega) (by have:=a7.size;simp;omega) oN
   repeat (first|exact Mid.refl _ _ _|refine Mid.stored ?_ _ (by simp;try omega) (by simp;try omega))
  repeat (first|exact aC|refine oQ ?_ (by simp;try omega) _)
 have d5:decide (40<s+(wd.length:Int) - 1)=false:=by simpa using hsl
 by_cases hll:120<es.length+wd.length
 .have aL:¬ PathOk r s es u wd v:=fun h=>by have:=h.ln;omega
  have d6:decide (120<(es.length:Int)+(wd.length:Int))=true:=by simp;omega
  obtain⟨rfl,rfl,rfl⟩:=HR.out.no aL;obtain⟨a0,a1,a2⟩:=B2.c3 rfl;obtain⟨q0,q1,q2⟩:=Y3.c3 rfl;have af:=B2.2.2;go_wp2_with fail;refine oW (v:=.tuple #[.agg #[r,rs,.slice A1 aQ.length c1],.bool false]) (by simp[results,Tryz.results212,go_sem,a0,a1,a2,af,q0,q1,q2]) rfl ⟨A1,c1,rfl,?_,?_⟩
  .refine OG.wide (OG.mid a7 (a:=w.heap.size) (b:=w.heap.size+2) ?_ (Or.inl (by have:=HS.out;omega))) (by have:=HS.out;omega) (by have:=a7.size;simp;omega) oN
   repeat (first|exact Mid.refl _ _ _|refine Mid.stored ?_ _ (by simp;try omega) (by simp;try omega))
  repeat (first|exact aC|refine oQ ?_ (by simp;try omega) _)
 have d6:decide (120<(es.length:Int)+(wd.length:Int))=false:=by simp;omega
 obtain⟨rfl,bM,bL⟩:=HR.out.yes ⟨GR.out,bd,be,bB.out,bQ.out,oO,oO⟩;have bS:=oH bM;have bA:=oH bL;have aw:=oH GR.out.asc;clear bM bL HR;have bo:IntKind.i64.wrap ((wd.length:Int) - 1)=(wd.length:Int) - 1:=oI _;have ah:=oH bB.out.2.2.2.1;obtain⟨q0,q1,q2⟩:=Y3.c3 rfl;go_wp2_with fail;clear p0 p1 p2 q0 q1 q2;go_loopw [11,12] (fun at_ i wr=>∃(k:Nat) (A2:OA) (c2 aq ax:Nat) (xs:List Ed) (sz:Int),k<=wd.length/\i=.int .i64 k/\at_=.int .i64 (aCd u s wd.length v k)/\Hid (sz=s+((min k (wd.length - 1):Nat):Int))/\Hid (xs=aCU es (aCq u s wd v k)) /\
  OG wr aq ax A2 c2 xs/\(ax<=G \/ G+1<=aq)/\w1.heap.size<=aq /\
  Box wr w [r,s,.slice A es.length c]/\Box wr (w.heap.size+1) [(0:Int),(0:Int),.slice none 0 0] /\
  Box wr G [r,sz,.slice A2 xs.length c2]/\Mid 0 0 w wr) (fun _ i _=>wd.length - (intOf i).toNat)
 case atStart=>exact⟨0,A1,c1,_,_,es,s,oZ,rfl,rfl,oH oM,oH (by simp[aCq,aCU]),a7,.inl oN,oN,B0,B2,Y3,aC⟩
 clear B0 B2 Y3 aC a7 ab b9 ar;obtain⟨k,A2,c2,aq,ax,xs,sz,hk,rfl,rfl,HSZ,HX,aD,bW,bY,Z0,Z2,Z3,aO⟩:=hrel;have aE:=HSZ.out;have bq:xs.length<=1000:=by
  have h1:=aEF es (aCq u s wd v k);rw[<- HX.out,aHN] at h1;omega
 by_cases hlt:k<wd.length
 .obtain⟨B,aS,x,rfl,bh,hx,aR⟩:=(hw.mid aO oZl).at hlt
  have bp:=ah.out x (oG hx);have bk:(k:Int)<(wd.length:Int):=by omega
  have bj:(0:Int)<=(k:Int):=by omega
  have bK:=aLl (u:=u) (s:=s) (v:=v) hx;have aK:=oH bK;have bV:G<wr.heap.size:=Z3.1;have bE:B<wr.heap.size:=by have:=hw.1;have:=aO.size;omega
  have bD:B<G:=by have:=hw.1;omega
  have bb:w1.heap.size<=wr.heap.size:=by have:=aa.out;omega
  clear hx bK;generalize hat:aCd u s wd.length v k=at0 at aK |-;clear hat;rcases(by omega:0<x \/ x<0) with hx0|hx0
  .have dx:decide (0<x)=true:=by simpa using hx0
   have aP:∀ t,aBc at0 x t=⟨at0,x,t⟩:=fun t=>by rw[aBc,if_neg oO]
   rw[aP] at aK;clear aP;by_cases hlast:k+1<wd.length
   .have aA:((min k (wd.length - 1):Nat):Int)=(k:Int):=by rw[Nat.min_eq_left oO]
    have aF:((min (k+1) (wd.length - 1):Nat):Int)=(k:Int)+1:=by rw[Nat.min_eq_left oO];rfl
    rw[aA] at aE;subst aE;have aM:aCd u s wd.length v (k+1)=s+(k:Int):=by
     rw[aCd,if_neg oO,if_pos hlast];omega
    rw[aM] at aK;have dk:decide ((k:Int)+1<(wd.length:Int))=true:=by simp;omega
    have bc:IntKind.i64.wrap (s+(k:Int)+1)=s+(k:Int)+1:=oI _;have q1:=Z3.cell 1 rfl;have qf:=Z3.2.2;have a6:=Mid.setCell wr (lo:=G) (hi:=G+1) (p:=⟨G,1,none⟩) (.int .i64 (s+(k:Int)+1)) oN oS;have V0:=Z0.mid a6;have V2:=Z2.mid a6;have V3:=Z3.set 1 (.int .i64 (s+(k:Int)+1)) oM rfl;have a3:=aD.mid a6 oO;have aG:=aAa a6 bE (Or.inl bD) aR;have aJ:=aO.storeNew (p:=⟨G,1,none⟩) (by show w.heap.size<=G;omega) (.int .i64 (s+(k:Int)+1));have ak:(wr.setCell ⟨G,1,none⟩ (.int .i64 (s+(k:Int)+1))).heap.size=wr.heap.size:=by simp
    go_wp2_with fail;clear dk dx;generalize wr.setCell ⟨G,1,none⟩ (.int .i64 (s+(k:Int)+1))=wx at V0 V2 V3 a3 aJ ak aG |-;have aB:Hid (s+(k:Int)+1=s+((min (k+1) (wd.length - 1):Nat):Int)):=oH (by rw[aF];omega);clear Z0 Z2 Z3 aD aO q1 qf a6 aR aA aF HSZ;simp only[List.set_cons_succ,List.set_cons_zero] at V3;generalize s+(k:Int)+1=sz' at V3 aB;generalize s+(k:Int)=tz at aK aM |-;have au:G<wx.heap.size:=V3.1;have a5:=Mid.drew1 wx;have U0:=V0.mid a5 oZr;have U2:=V2.mid a5 oZr;have U3:=V3.mid a5 oZr;have a4:=a3.mid a5 oZl;have aI:=aJ.trans a5;have g2:=U3.cell 2 rfl;have f0:=aAa a5 oO oZr aG;clear V0 V2 V3 a3 aJ a5 aG;refine aAM (S:=(fun w'=>w'.cell? ⟨G,2,none⟩=some (.slice A2 xs.length c2)/\w'.cell? ⟨B,aS+k,none⟩=some (.int .i64 x))) 11 oK ⟨g2,f0⟩ ?_;generalize World.drew wx=wz at U0 U2 U3 a4 aI f0 g2 |-;have hS:wz.cell? ⟨G,2,none⟩=some (.slice A2 xs.length c2)/\wz.cell? ⟨B,aS+k,none⟩=some (.int .i64 x):=⟨g2,f0⟩
    refine tkT 0 rfl hS ?_;try simp only[oP]
    refine tkT 1 rfl hS ?_;try simp only[oP]
    refine tkT 2 rfl hS ?_;try simp only[oP]
    refine tkT 3 rfl hS ?_;try simp only[oP]
    refine tkT 4 rfl hS ?_;try simp only[oP]
    refine tkT 5 rfl hS ?_;try simp only[oP]
    refine tkT 6 rfl hS ?_;try simp only[oP]
    refine tkT 7 rfl hS ?_;try simp only[oP]
    refine tkT 8 rfl hS ?_;try simp only[oP]
    have hP:=aBz A2 xs c2 ⟨at0,x,tz⟩ wz _ _ a4.rg oO;refine rdT 9 rfl (fun K hK=>?_)
    (go_simp;(with_reducible refine hP.mono ?_);rintro en w9 ⟨A9,c9,rfl,aY,a9⟩;have aT:=U0.mid a9 oZr;have aU:=U2.mid a9 oZr;have a8:=U3.mid a9 oZr;have aN:=aAa a9 (by have:=U3.1;omega) oZr f0;go_wp2_with fail)
    refine hK.out _ _ (Or.inr ⟨a8.cell 2 rfl,aN⟩) (fun _=>?_);clear hK K;try simp only[oP]
    have aH:=aI.trans a9;have av:G<wz.heap.size:=U3.1;have aV:=And.intro (a8.cell 2 rfl) aN;have az:=a8.cell 2 rfl;have b5:=a8.2.2;clear hS U0 U2 U3 aI hP;refine tkT 10 rfl aV ?_;try simp only[oP]
    refine rdT 11 rfl (fun K hK=>?_)
    (go_simp)
    refine hK.out _ _ (Or.inl rfl) (fun _=>?_);clear hK K;try simp only[oP]
    refine aAR oK ?_ _;go_wp2_with fail;go_roundw
    case rel=>
     have a6:=Mid.setCell w9 (lo:=G) (hi:=G+1) (p:=⟨G,2,none⟩) (.slice A9 (aCw ⟨at0,x,tz⟩ xs).length c9) oN oS;refine⟨k+1,A9,c9,_,_,aCw ⟨at0,x,tz⟩ xs,sz',oO,by go_num,by rw[aM],aB,oH ?_,aY.mid a6,.inr oO,by have:=aa.out;omega,aT.mid a6,aU.mid a6,a8.set 2 _ oM rfl,aH.storeNew (by show w.heap.size<=G;omega) _⟩;rw[aK.out,aCC,<- HX.out]
    simp[intOf];omega
   have bX:k+1=wd.length:=by omega
   have aA:min k (wd.length - 1)=min (k+1) (wd.length - 1):=by omega
   have aB:Hid (sz=s+((min (k+1) (wd.length - 1):Nat):Int)):=oH (by rw[aE,aA]);have aM:aCd u s wd.length v (k+1)=v:=by
    rw[aCd,if_neg oO,if_neg oO]
   rw[aM] at aK;have dk:decide ((k:Int)+1<(wd.length:Int))=false:=by simp;omega
   clear aE aA HSZ;generalize sz=sz' at Z3 aB;go_wp2_with fail;clear dk dx;have V0:=Z0;have V2:=Z2;have V3:=Z3;have a3:=aD;have aJ:=aO;have aG:=aR;obtain⟨wx,am⟩:∃ wx,wr=wx:=⟨_,rfl⟩
   have ak:wx.heap.size=wr.heap.size:=by rw[am]
   rw[am] at V0 V2 V3 a3 aJ aG |-;clear Z0 Z2 Z3 aD aO aR;have au:G<wx.heap.size:=V3.1;have a5:=Mid.drew1 wx;have U0:=V0.mid a5 oZr;have U2:=V2.mid a5 oZr;have U3:=V3.mid a5 oZr;have a4:=a3.mid a5 oZl;have aI:=aJ.trans a5;have g2:=U3.cell 2 rfl;have f0:=aAa a5 oO oZr aG;clear V0 V2 V3 a3 aJ a5 aG;refine aAM (S:=(fun w'=>w'.cell? ⟨G,2,none⟩=some (.slice A2 xs.length c2)/\w'.cell? ⟨B,aS+k,none⟩=some (.int .i64 x))) 11 oK ⟨g2,f0⟩ ?_;generalize World.drew wx=wz at U0 U2 U3 a4 aI f0 g2 |-;have hS:wz.cell? ⟨G,2,none⟩=some (.slice A2 xs.length c2)/\wz.cell? ⟨B,aS+k,none⟩=some (.int .i64 x):=⟨g2,f0⟩
   refine tkT 0 rfl hS ?_;try simp only[oP]
   refine tkT 1 rfl hS ?_;try simp only[oP]
   refine tkT 2 rfl hS ?_;try simp only[oP]
   refine tkT 3 rfl hS ?_;try simp only[oP]
   refine tkT 4 rfl hS ?_;try simp only[oP]
   refine tkT 5 rfl hS ?_;try simp only[oP]
   refine tkT 6 rfl hS ?_;try simp only[oP]
   refine tkT 7 rfl hS ?_;try simp only[oP]
   refine tkT 8 rfl hS ?_;try simp only[oP]
   have hP:=aBz A2 xs c2 ⟨at0,x,v⟩ wz _ _ a4.rg oO;refine rdT 9 rfl (fun K hK=>?_)
   (go_simp;(with_reducible refine hP.mono ?_);rintro en w9 ⟨A9,c9,rfl,aY,a9⟩;have aT:=U0.mid a9 oZr;have aU:=U2.mid a9 oZr;have a8:=U3.mid a9 oZr;have aN:=aAa a9 (by have:=U3.1;omega) oZr f0;go_wp2_with fail)
   refine hK.out _ _ (Or.inr ⟨a8.cell 2 rfl,aN⟩) (fun _=>?_);clear hK K;try simp only[oP]
   have aH:=aI.trans a9;have av:G<wz.heap.size:=U3.1;have aV:=And.intro (a8.cell 2 rfl) aN;have az:=a8.cell 2 rfl;have b5:=a8.2.2;clear hS U0 U2 U3 aI hP;refine tkT 10 rfl aV ?_;try simp only[oP]
   refine rdT 11 rfl (fun K hK=>?_)
   (go_simp)
   refine hK.out _ _ (Or.inl rfl) (fun _=>?_);clear hK K;try simp only[oP]
   refine aAR oK ?_ _;go_wp2_with fail;go_roundw
   case rel=>
    have a6:=Mid.setCell w9 (lo:=G) (hi:=G+1) (p:=⟨G,2,none⟩) (.slice A9 (aCw ⟨at0,x,v⟩ xs).length c9) oN oS;refine⟨k+1,A9,c9,_,_,aCw ⟨at0,x,v⟩ xs,sz',oO,by go_num,by rw[aM],aB,oH ?_,aY.mid a6,.inr oO,by have:=aa.out;omega,aT.mid a6,aU.mid a6,a8.set 2 _ oM rfl,aH.storeNew (by show w.heap.size<=G;omega) _⟩;rw[aK.out,aCC,<- HX.out]
   simp[intOf];omega
  have dx:decide (0<x)=false:=by simp;omega
  have aP:∀ t,aBc at0 x t=⟨t, -x,at0⟩:=fun t=>by rw[aBc,if_pos hx0]
  have an:IntKind.i64.wrap (-x) = -x:=oI _;have ao:wrap64 (-x) = -x:=by unfold wrap64;omega
  rw[aP] at aK;clear aP;by_cases hlast:k+1<wd.length
  .have aA:((min k (wd.length - 1):Nat):Int)=(k:Int):=by rw[Nat.min_eq_left oO]
   have aF:((min (k+1) (wd.length - 1):Nat):Int)=(k:Int)+1:=by rw[Nat.min_eq_left oO];rfl
   rw[aA] at aE;subst aE;have aM:aCd u s wd.length v (k+1)=s+(k:Int):=by
    rw[aCd,if_neg oO,if_pos hlast];omega
   rw[aM] at aK;have dk:decide ((k:Int)+1<(wd.length:Int))=true:=by simp;omega
   have bc:IntKind.i64.wrap (s+(k:Int)+1)=s+(k:Int)+1:=oI _;have q1:=Z3.cell 1 rfl;have qf:=Z3.2.2;have a6:=Mid.setCell wr (lo:=G) (hi:=G+1) (p:=⟨G,1,none⟩) (.int .i64 (s+(k:Int)+1)) oN oS;have V0:=Z0.mid a6;have V2:=Z2.mid a6;have V3:=Z3.set 1 (.int .i64 (s+(k:Int)+1)) oM rfl;have a3:=aD.mid a6 oO;have aG:=aAa a6 bE (Or.inl bD) aR;have aJ:=aO.storeNew (p:=⟨G,1,none⟩) (by show w.heap.size<=G;omega) (.int .i64 (s+(k:Int)+1));have ak:(wr.setCell ⟨G,1,none⟩ (.int .i64 (s+(k:Int)+1))).heap.size=wr.heap.size:=by simp
   go_wp2_with fail;clear dk dx;generalize wr.setCell ⟨G,1,none⟩ (.int .i64 (s+(k:Int)+1))=wx at V0 V2 V3 a3 aJ ak aG |-;have aB:Hid (s+(k:Int)+1=s+((min (k+1) (wd.length - 1):Nat):Int)):=oH (by rw[aF];omega);clear Z0 Z2 Z3 aD aO q1 qf a6 aR aA aF HSZ;simp only[List.set_cons_succ,List.set_cons_zero] at V3;generalize s+(k:Int)+1=sz' at V3 aB;generalize s+(k:Int)=tz at aK aM |-;have au:G<wx.heap.size:=V3.1;have a5:=Mid.drew1 wx;have U0:=V0.mid a5 oZr;have U2:=V2.mid a5 oZr;have U3:=V3.mid a5 oZr;have a4:=a3.mid a5 oZl;have aI:=aJ.trans a5;have g2:=U3.cell 2 rfl;have f0:=aAa a5 oO oZr aG;clear V0 V2 V3 a3 aJ a5 aG;refine aAM (S:=(fun w'=>w'.cell? ⟨G,2,none⟩=some (.slice A2 xs.length c2)/\w'.cell? ⟨B,aS+k,none⟩=some (.int .i64 x))) 12 oK ⟨g2,f0⟩ ?_;generalize World.drew wx=wz at U0 U2 U3 a4 aI f0 g2 |-;have hS:wz.cell? ⟨G,2,none⟩=some (.slice A2 xs.length c2)/\wz.cell? ⟨B,aS+k,none⟩=some (.int .i64 x):=⟨g2,f0⟩
   refine tkT 0 rfl hS ?_;try simp only[oP]
   refine tkT 1 rfl hS ?_;try simp only[oP]
   refine tkT 2 rfl hS ?_;try simp only[oP]
   refine tkT 3 rfl hS ?_;try simp only[oP]
   refine tkT 4 rfl hS ?_;try simp only[oP]
   refine tkT 5 rfl hS ?_;try simp only[oP]
   refine tkT 6 rfl hS ?_;try simp only[oP]
   refine tkT 7 rfl hS ?_;try simp only[oP]
   refine tkT 8 rfl hS ?_;try simp only[oP]
   refine tkT 9 rfl hS ?_;try simp only[oP]
   have hP:=aBz A2 xs c2 ⟨tz, -x,at0⟩ wz _ _ a4.rg oO;refine rdT 10 rfl (fun K hK=>?_)
   (go_simp;(try simp only[an,ao]);(with_reducible refine hP.mono ?_);rintro en w9 ⟨A9,c9,rfl,aY,a9⟩;have aT:=U0.mid a9 oZr;have aU:=U2.mid a9 oZr;have a8:=U3.mid a9 oZr;have aN:=aAa a9 (by have:=U3.1;omega) oZr f0;go_wp2_with fail)
   refine hK.out _ _ (Or.inr ⟨a8.cell 2 rfl,aN⟩) (fun _=>?_);clear hK K;try simp only[oP]
   have aH:=aI.trans a9;have av:G<wz.heap.size:=U3.1;have aV:=And.intro (a8.cell 2 rfl) aN;have az:=a8.cell 2 rfl;have b5:=a8.2.2;clear hS U0 U2 U3 aI hP;refine tkT 11 rfl aV ?_;try simp only[oP]
   refine rdT 12 rfl (fun K hK=>?_)
   (go_simp)
   refine hK.out _ _ (Or.inl rfl) (fun _=>?_);clear hK K;try simp only[oP]
   refine aAR oK ?_ _;go_wp2_with fail;go_roundw
   case rel=>
    have a6:=Mid.setCell w9 (lo:=G) (hi:=G+1) (p:=⟨G,2,none⟩) (.slice A9 (aCw ⟨tz, -x,at0⟩ xs).length c9) oN oS;refine⟨k+1,A9,c9,_,_,aCw ⟨tz, -x,at0⟩ xs,sz',oO,by go_num,by rw[aM],aB,oH ?_,aY.mid a6,.inr oO,by have:=aa.out;omega,aT.mid a6,aU.mid a6,a8.set 2 _ oM rfl,aH.storeNew (by show w.heap.size<=G;omega) _⟩;rw[aK.out,aCC,<- HX.out]
   simp[intOf];omega
  have bX:k+1=wd.length:=by omega
  have aA:min k (wd.length - 1)=min (k+1) (wd.length - 1):=by omega
  have aB:Hid (sz=s+((min (k+1) (wd.length - 1):Nat):Int)):=oH (by rw[aE,aA]);have aM:aCd u s wd.length v (k+1)=v:=by
   rw[aCd,if_neg oO,if_neg oO]
  rw[aM] at aK;have dk:decide ((k:Int)+1<(wd.length:Int))=false:=by simp;omega
  clear aE aA HSZ;generalize sz=sz' at Z3 aB;go_wp2_with fail;clear dk dx;have V0:=Z0;have V2:=Z2;have V3:=Z3;have a3:=aD;have aJ:=aO;have aG:=aR;obtain⟨wx,am⟩:∃ wx,wr=wx:=⟨_,rfl⟩
  have ak:wx.heap.size=wr.heap.size:=by rw[am]
  rw[am] at V0 V2 V3 a3 aJ aG |-;clear Z0 Z2 Z3 aD aO aR;have au:G<wx.heap.size:=V3.1;have a5:=Mid.drew1 wx;have U0:=V0.mid a5 oZr;have U2:=V2.mid a5 oZr;have U3:=V3.mid a5 oZr;have a4:=a3.mid a5 oZl;have aI:=aJ.trans a5;have g2:=U3.cell 2 rfl;have f0:=aAa a5 oO oZr aG;clear V0 V2 V3 a3 aJ a5 aG;refine aAM (S:=(fun w'=>w'.cell? ⟨G,2,none⟩=some (.slice A2 xs.length c2)/\w'.cell? ⟨B,aS+k,none⟩=some (.int .i64 x))) 12 oK ⟨g2,f0⟩ ?_;generalize World.drew wx=wz at U0 U2 U3 a4 aI f0 g2 |-;have hS:wz.cell? ⟨G,2,none⟩=some (.slice A2 xs.length c2)/\wz.cell? ⟨B,aS+k,none⟩=some (.int .i64 x):=⟨g2,f0⟩
  refine tkT 0 rfl hS ?_;try simp only[oP]
  refine tkT 1 rfl hS ?_;try simp only[oP]
  refine tkT 2 rfl hS ?_;try simp only[oP]
  refine tkT 3 rfl hS ?_;try simp only[oP]
  refine tkT 4 rfl hS ?_;try simp only[oP]
  refine tkT 5 rfl hS ?_;try simp only[oP]
  refine tkT 6 rfl hS ?_;try simp only[oP]
  refine tkT 7 rfl hS ?_;try simp only[oP]
  refine tkT 8 rfl hS ?_;try simp only[oP]
  refine tkT 9 rfl hS ?_;try simp only[oP]
  have hP:=aBz A2 xs c2 ⟨v, -x,at0⟩ wz _ _ a4.rg oO;refine rdT 10 rfl (fun K hK=>?_)
  (go_simp;(try simp only[an,ao]);(with_reducible refine hP.mono ?_);rintro en w9 ⟨A9,c9,rfl,aY,a9⟩;have aT:=U0.mid a9 oZr;have aU:=U2.mid a9 oZr;have a8:=U3.mid a9 oZr;have aN:=aAa a9 (by have:=U3.1;omega) oZr f0;go_wp2_with fail)
  refine hK.out _ _ (Or.inr ⟨a8.cell 2 rfl,aN⟩) (fun _=>?_);clear hK K;try simp only[oP]
  have aH:=aI.trans a9;have av:G<wz.heap.size:=U3.1;have aV:=And.intro (a8.cell 2 rfl) aN;have az:=a8.cell 2 rfl;have b5:=a8.2.2;clear hS U0 U2 U3 aI hP;refine tkT 11 rfl aV ?_;try simp only[oP]
  refine rdT 12 rfl (fun K hK=>?_)
  (go_simp)
  refine hK.out _ _ (Or.inl rfl) (fun _=>?_);clear hK K;try simp only[oP]
  refine aAR oK ?_ _;go_wp2_with fail;go_roundw
  case rel=>
   have a6:=Mid.setCell w9 (lo:=G) (hi:=G+1) (p:=⟨G,2,none⟩) (.slice A9 (aCw ⟨v, -x,at0⟩ xs).length c9) oN oS;refine⟨k+1,A9,c9,_,_,aCw ⟨v, -x,at0⟩ xs,sz',oO,by go_num,by rw[aM],aB,oH ?_,aY.mid a6,.inr oO,by have:=aa.out;omega,aT.mid a6,aU.mid a6,a8.set 2 _ oM rfl,aH.storeNew (by show w.heap.size<=G;omega) _⟩;rw[aK.out,aCC,<- HX.out]
  simp[intOf];omega
 obtain rfl:k=wd.length:=by omega
 have b6:sz=s+(wd.length:Int) - 1:=by rw[aE,Nat.min_eq_right oO];omega
 subst b6;have b8:=HX.out;rw[aNE aw.out] at b8;have bV:G<wr.heap.size:=Z3.1;have bC:=oH b8;clear aE b8;obtain⟨a0,a1,a2⟩:=Z2.c3 rfl;obtain⟨b0,b1,b2⟩:=Z3.c3 rfl;have af:=Z2.2.2;have bf:=Z3.2.2;go_wp2_with fail;have bi:(w.heap.size+1 == G)=false:=by simp;omega
 refine oW (v:=.tuple #[.agg #[r,.int .i64 (s+(wd.length:Int) - 1),.slice A2 xs.length c2],.bool true]) (by simp[results,Tryz.results212,go_sem,a0,a1,a2,b0,b1,b2,af,bf]) rfl ⟨A2,c2,?_,?_,?_⟩
 .rw[bS.out,bA.out,bC.out]
 .rw[bA.out,<- bC.out]
  refine OG.wide (OG.mid aD (a:=w.heap.size) (b:=w.heap.size+2) ?_ (Or.inl (by have:=HS.out;omega))) (by have:=HS.out;omega) (by have:=aD.size;simp;omega) oN;repeat (first|exact Mid.refl _ _ _|refine Mid.stored ?_ _ (by simp;try omega) (by simp;try omega))
 repeat (first|exact aO|refine oQ ?_ (by simp;try omega) _)
def aVA(r n:Nat)(es:List Ed):Prop:=∀ v:Nat,v<n->∀ x∈aAg r,0<=aAr es v x
def FullTo(r:Nat)(es:List Ed)(v j:Nat):Prop:=(∀ u:Nat,u<v->∀ x∈aAg r,0<=aAr es u x)/\∀ x∈(aAg r).take j,0<=aAr es v x
theorem FullTo.zero(r:Nat)(es:List Ed):FullTo r es 0 0:=⟨fun u h=>absurd h (Nat.not_lt_zero _),by simp⟩
theorem FullTo.step{r:Nat}{es:List Ed}{v j:Nat}{x:Int}(hx:(aAg r)[j]?=some x):FullTo r es v (j+1)↔FullTo r es v j/\0<=aAr es v x:=by
 unfold FullTo;rw[aBA hx];constructor
 .rintro⟨h1,h2⟩
  exact⟨⟨h1,fun y hy=>h2 y (List.mem_append.2 (.inl hy))⟩,h2 x oM⟩
 rintro⟨⟨h1,h2⟩,h3⟩;refine⟨h1,fun y hy=>?_⟩;rcases List.mem_append.1 hy with hy|hy
 .exact h2 y hy
 simp at hy;subst hy;exact h3
theorem FullTo.row{r:Nat}{es:List Ed}{v:Nat}:FullTo r es v (aAg r).length↔FullTo r es (v+1) 0:=by
 unfold FullTo;rw[List.take_length];constructor
 .rintro⟨h1,h2⟩
  refine⟨fun u hu x hx=>?_,by simp⟩;by_cases h:u<v
  .exact h1 u h x hx
  obtain rfl:u=v:=by omega
  exact h2 x hx
 rintro⟨h1, -⟩;exact⟨fun u hu x hx=>h1 u oO x hx,fun x hx=>h1 v oO x hx⟩
theorem FullTo.all{r n:Nat}{es:List Ed}:FullTo r es n 0↔aVA r n es:=⟨fun h=>h.1,fun h=>⟨h,by simp⟩⟩
theorem aHA(n:Nat)(w:World)(hn:n<=1000) :
  Calls Tryz.prog 134 #[.int .i64 n] w fun e w'=>∃ A c,e=.returned (.slice A (aAg n).length c)/\w'.ownsRow w.heap.size 3 1 (.slice A (aAg n).length c) (aAg n).length (aAe (aAg n))/\Mid 0 0 w w':=by
 have a2:Mid 0 0 w (w.alloc (.cells #[] 3)):=oE _ _;have O0:=aAd w 3 1;go_enter Tryz.func134,Tryz.ntmps134
 go_wp2_with fail;go_loopw [3,4] (fun out i wr=>∃(k:Nat) (A1:OA) (c1 n1:Nat),k<=n/\i=.int .i64 ((k:Int)+1)/\out=.slice A1 n1 c1/\Hid ((aAg k).length=n1) /\
   wr.ownsRow w 3 1 (.slice A1 n1 c1) n1 (aAe (aAg k))/\Mid 0 0 w wr/\w.heap.size<=wr.heap.size) (fun _ i _=>(n+1 - intOf i).toNat)
 case atStart=>exact⟨0,_,0,0,oZ,rfl,rfl,oH rfl,O0,a2,a2.size⟩
 obtain⟨k,A1,c1,n1,hk,rfl,rfl,HN,a1,hm,a4⟩:=hrel;have a9:n1<=2000:=by have h1:=aBR k;have h2:=HN.out;omega
 by_cases hlt:k<n
 .have a8:(k:Int)+1<=n:=by omega
  have a7:(0:Int)<=(k:Int):=by omega
  have b4:wrap64 (-((k:Int)+1)) = -((k:Int)+1):=by unfold wrap64;omega
  have HW:=oH a1;clear a1;go_wp2_with (at_builtin;refine aAk rfl _ _ 44 rfl w 3 (.int .i64 0) 1 8 aBo aBs rfl oD _ _ _ rfl HW.out 2 [.int .i64 ((k:Int)+1),.int .i64 (-((k:Int)+1))] rfl rfl ?c1 ?c2 ?c3 a4 ?next)
  case c1=>exact aAm [(k:Int)+1, -((k:Int)+1)]
  case c2=>unfold maxLen;omega
  case c3=>omega
  case next=>
   intro v' w3 a0 a5 _;obtain⟨A3,c3,rfl, -, -⟩:=aAc a0;have a3:=oF HW.out a5;go_wp2_with fail;go_roundw
   case rel=>
    refine⟨k+1,A3,c3,n1+2,oO,by go_num,rfl,oH (by have:=HN.out;simp[aAg];omega),?_,hm.transNew a3 (Or.inl oN),oV a4 a3.size⟩;rw[aAg,aAi];exact a0
   simp[intOf];omega
 obtain rfl:k=n:=by omega
 have hx:=HN.out;have a6:=hm.size;go_wp2_with fail;go_ret;exact⟨_,_,(by rw[hx];rfl),(by rw[hx];exact a1),hm⟩
theorem aFS(n:Nat)(w:World)(hn:n<=1000) :
  Calls Tryz.prog 127 #[.int .i64 n] w fun e w'=>∃ A c,e=.returned (.slice A (aAg n).length c)/\w'.ownsRow w.heap.size 3 1 (.slice A (aAg n).length c) (aAg n).length (aAe (aAg n))/\Mid 0 0 w w':=by
 have a4:Mid 0 0 w (w.alloc (.cells #[] 3)):=oE _ _;have O0:=aAd w 3 1;go_enter Tryz.func127,Tryz.ntmps127
 go_wp2_with fail;go_loopw [3,4] (fun out i wr=>∃(k:Nat) (A1:OA) (c1 n1:Nat),k<=n/\i=.int .i64 ((k:Int)+1)/\out=.slice A1 n1 c1/\Hid ((aAg k).length=n1) /\
   wr.ownsRow w 3 1 (.slice A1 n1 c1) n1 (aAe (aAg k))/\Mid 0 0 w wr/\w.heap.size<=wr.heap.size) (fun _ i _=>(n+1 - intOf i).toNat)
 case atStart=>exact⟨0,_,0,0,oZ,rfl,rfl,oH rfl,O0,a4,a4.size⟩
 obtain⟨k,A1,c1,n1,hk,rfl,rfl,HN,a2,hm,a7⟩:=hrel;have aB:n1<=2000:=by have h1:=aBR k;have h2:=HN.out;omega
 by_cases hlt:k<n
 .have aA:(k:Int)+1<=n:=by omega
  have a9:(0:Int)<=(k:Int):=by omega
  have b4:wrap64 (-((k:Int)+1)) = -((k:Int)+1):=by unfold wrap64;omega
  have HW:=oH a2;clear a2;go_wp2_with (first|(at_builtin;refine aAA rfl _ _ rfl w A1 n1 c1 (aAg k) rfl HW.out ((k:Int)+1) rfl oO a7 ?_;intro A2 c2 w2 a0 a5;have a3:=oV a7 a5.size;have a8:=oH a0;clear a0)|(at_builtin;refine aAA rfl _ _ rfl w A2 (n1+1) c2 (aAg k++[(k:Int)+1]) rfl a8.out (-((k:Int)+1)) rfl oO a3 ?_;intro A3 c3 w3 a1 a6))
  go_roundw
  case rel=>
   refine⟨k+1,A3,c3,n1+1+1,oO,by go_num,rfl,oH (by have:=HN.out;simp[aAg];omega),?_,(hm.transNew a5 (Or.inl oN)).transNew a6 (Or.inl oN),oV a3 a6.size⟩;rw[List.append_assoc] at a1;exact a1
  simp[intOf];omega
 obtain rfl:k=n:=by omega
 have hx:=HN.out;have a3:=hm.size;go_wp2_with fail;go_ret;exact⟨_,_,(by rw[hx];rfl),(by rw[hx];exact a2),hm⟩
theorem aIk(r n:Nat)(A:OA)(es:List Ed)(c:Nat)(w:World)(lo hi:Nat)(hr:RG w lo hi A es)(aM:es.length<=c)(hf:IsFol r n es) :
  Calls Tryz.prog 218 #[aAJ r n A es.length c] w fun e w'=>∃ A1 n1 c1,e=.returned (.slice A1 n1 c1)/\(n1=0↔aVA r n es)/\Mid 0 0 w w':=by
 have hg:=hf.gr;have aO:n<=40:=by have:=hg.size;omega
 have aW:r<=3:=by have:=hg.rank;omega
 have hl:=hg.len;have aI:=oH (show ∀ e∈es,1<=e.l/\e.l<=3 from fun e he=>by have:=hg.all e he;unfold InG at this;omega);have HF:=oH hf;have a3:Mid 0 0 w ((w.alloc (.cells #[r,n,.slice A es.length c] 35)).alloc (.cells #[] 110)):=(oE _ _).trans (oE _ _);have b0:=(oJ w #[r,n,.slice A es.length c] 35).mid (oE _ (.cells #[] 110)) oZr;have O0:=aAd (w.alloc (.cells #[r,n,.slice A es.length c] 35)) 110 3;rw[World.size_alloc] at O0;clear hf hg;go_enter Tryz.func218,Tryz.ntmps218
 go_wp2_with fail;with_reducible refine(aBO r n A es c _ _ _ (hr.mid a3 oZl) oO aM true (oX rfl HF.out)).mono ?_
 rintro en w1 ⟨rfl,a7⟩;replace b0:=b0.mid a7 oZr;replace O0:=aAb O0 a7 oZl;replace a3:=a3.trans a7;clear a7;go_wp2_with fail;go_loopw [3,4] (fun out vv wr=>∃(v:Nat) (A1:OA) (n1 c1:Nat) (fs:List Ed),v<=n/\vv=.int .i64 v/\out=.slice A1 n1 c1/\n1<=6 * v/\Hid (n1=0↔FullTo r es v 0)/\wr.ownsRow (w.heap.size+1) 110 3 (.slice A1 n1 c1) n1 (aAe (edI fs)) /\
   Box wr w [r,n,.slice A es.length c]/\Mid 0 0 w wr) (fun _ v _=>n - (intOf v).toNat)
 case atStart=>exact⟨0,_,0,0,[],oZ,rfl,rfl,oN,oH (oX rfl (FullTo.zero r es)),O0,b0,a3⟩
 clear O0 b0 a3;obtain⟨wo,aR⟩:∃ wo,wo=wr:=⟨_,rfl⟩
 subst aR;obtain⟨v,A1,n1,c1,fs,hv,rfl,rfl,aH,HQ,a0,b0,hm⟩:=hrel;obtain⟨p0,p1,p2⟩:=b0.c3 rfl;by_cases hlt:v<n
 .have aY:(v:Int)<(n:Int):=by omega
  have aX:(0:Int)<=(v:Int):=by omega
  go_wp2_with fail;with_reducible refine(aHA r _ oO).mono ?_
  rintro en w4 ⟨A4,c4,rfl,aA,a8⟩;have aS:w.heap.size<wo.heap.size:=b0.1;replace b0:=b0.mid a8 oZr;replace a0:=aAb a0 a8 oZl;replace hm:=hm.trans a8;clear p0 p1 p2 a8;have aJ:=oH (aBR r);obtain⟨LL,aC⟩:∃ LL,(aAg r).length=LL:=⟨_,rfl⟩
  have aL:LL<=6:=by have:=aJ.out;omega
  rw[aC] at aA |-;have aF:=oH aC;clear aC;go_wp2_with fail;go_loopw [3,22] (fun out jv wr=>∃(j:Nat) (A1:OA) (n1 c1:Nat) (fs:List Ed),j<=LL/\jv=.int .i64 j/\out=.slice A1 n1 c1/\n1<=6 * v+j/\Hid (n1=0↔FullTo r es v j)/\wr.ownsRow (w.heap.size+1) 110 3 (.slice A1 n1 c1) n1 (aAe (edI fs)) /\
    Hid (wr.ownsRow wo 3 1 (.slice A4 LL c4) LL (aAe (aAg r)))/\Box wr w [r,n,.slice A es.length c]/\Mid 0 0 w wr) (fun _ j _=>LL - (intOf j).toNat)
  case atStart=>exact⟨0,A1,n1,c1,fs,oZ,rfl,rfl,aH,HQ,a0,oH aA,b0,hm⟩
  clear a0 aA b0 hm HQ;obtain⟨j,A1,n1,c1,fs,hj,rfl,rfl,aH,HQ,a0,HL4,b0,hm⟩:=hrel;by_cases hlt2:j<LL
  .obtain⟨B4,o4,x,rfl,aT,hx,aN⟩:=(aAz HL4.out).at (k:=j) (by rw[aF.out];exact hlt2)
   have aZ:=aIn (oG hx);have a6:=oH (FullTo.step (es:=es) (v:=v) hx);have aV:(j:Int)<(LL:Int):=by omega
   have aU:(0:Int)<=(j:Int):=by omega
   have aE:=aCf HF.out.gr.all (v:Int) x;obtain⟨p0,p1,p2⟩:=b0.c3 rfl;clear hx;go_wp2_with fail;with_reducible refine(aCK r n A es c v x _ lo hi (hr.mid hm oZl) oO aI.out oO oO).mono ?_
   rintro en w6 ⟨rfl,a4⟩;replace b0:=b0.mid a4 oZr;replace a0:=aAb a0 a4 oZl;replace hm:=hm.trans a4;have aB:=oH (aAb HL4.out a4 oZl);generalize htx:aAr es (v:Int) x=t at aE |-;rw[htx] at a6;clear p0 p1 p2 aN htx HL4 a4;by_cases ht:t<0
   .have d1:decide (t<0)=true:=by simpa using ht
    have a1:Hid (n1+1=0↔FullTo r es v (j+1)):=oH (iff_of_false oO fun h=>by have:=(a6.out.1 h).2;omega);have HO:=oH a0;have aQ:w.heap.size+1<=w6.heap.size:=b0.1;clear ht aE a0;go_wp2_with (at_builtin;refine aCS rfl _ _ rfl (w.heap.size+1) A1 n1 c1 fs rfl HO.out ⟨v,x, -1⟩ rfl oO aQ ?_;intro A9 c9 w9 aP a2 aD)
    clear aD;have aG:=oF HO.out a2;have aK:=aB.out.kept a2 (aBd aB.out HO.out oD);go_roundw
    case rel=>exact⟨j+1,A9,n1+1,c9,_,oO,by go_num,rfl,oO,a1,aP,oH aK,b0.mid aG (Or.inl oS),hm.transNew aG (Or.inl (Nat.le_succ _))⟩
    simp[intOf];omega
   have d1:decide (t<0)=false:=by simpa using ht
   have a1:Hid (n1=0↔FullTo r es v (j+1)):=oH (HQ.out.trans ⟨fun h=>a6.out.2 ⟨h,oO⟩,fun h=>(a6.out.1 h).1⟩);clear ht aE;go_wp2_with fail;go_roundw
   case rel=>exact⟨j+1,A1,n1,c1,fs,oO,by go_num,rfl,oO,a1,a0,aB,b0,hm⟩
   simp[intOf];omega
  obtain rfl:j=LL:=by omega
  have a1:Hid (n1=0↔FullTo r es (v+1) 0):=oH (by rw[HQ.out,<- aF.out];exact FullTo.row);go_wp2_with fail;go_roundw
  case rel=>exact⟨v+1,A1,n1,c1,fs,oO,by go_num,rfl,oO,a1,a0,b0,hm⟩
  simp[intOf];omega
 obtain rfl:v=n:=by omega
 have a5:=HQ.out.trans FullTo.all;have a9:=oH a5;clear a5;go_wp2_with fail;go_ret;exact⟨_,n1,_,rfl,a9.out,hm⟩
theorem aIz(r n:Nat)(A:OA)(es:List Ed)(c:Nat)(w:World)(lo hi:Nat)(hr:RG w lo hi A es)(hf:IsFol r n es) :
  Calls Tryz.prog 220 #[aAJ r n A es.length c] w fun e w'=>∃ A1 n1 c1,e=.returned (.slice A1 n1 c1)/\(n1=0↔aVA r n es)/\Mid 0 0 w w':=by
 have hg:=hf.gr;have aR:n<=40:=by have:=hg.size;omega
 have aY:r<=3:=by have:=hg.rank;omega
 have hl:=hg.len;have aM:=oH (show ∀ e∈es,1<=e.l/\e.l<=3 from fun e he=>by have:=hg.all e he;unfold InG at this;omega);have HF:=oH hf;have aJ:Mid 0 0 w ((w.alloc (.cells #[r,n,.slice A es.length c] 35)).alloc (.cells #[] 110)):=(oE _ _).trans (oE _ _);have b0:=(oJ w #[r,n,.slice A es.length c] 35).mid (oE _ (.cells #[] 110)) oZr;have O0:=aAd (w.alloc (.cells #[r,n,.slice A es.length c] 35)) 110 3;rw[World.size_alloc] at O0;clear hf hg;go_enter Tryz.func220,Tryz.ntmps220
 go_wp2_with fail;go_loopw [3,4] (fun out vv wr=>∃(v:Nat) (A1:OA) (n1 c1:Nat) (fs:List Ed),v<=n/\vv=.int .i64 v/\out=.slice A1 n1 c1/\n1<=6 * v/\Hid (n1=0↔FullTo r es v 0)/\wr.ownsRow (w.heap.size+1) 110 3 (.slice A1 n1 c1) n1 (aAe (edI fs)) /\
   Box wr w [r,n,.slice A es.length c]/\Mid 0 0 w wr) (fun _ v _=>n - (intOf v).toNat)
 case atStart=>exact⟨0,_,0,0,[],oZ,rfl,rfl,oN,oH (oX rfl (FullTo.zero r es)),O0,b0,aJ⟩
 clear O0 b0 aJ;obtain⟨wo,aU⟩:∃ wo,wo=wr:=⟨_,rfl⟩
 subst aU;obtain⟨v,A1,n1,c1,fs,hv,rfl,rfl,aL,HQ,a0,b0,hm⟩:=hrel;obtain⟨p0,p1,p2⟩:=b0.c3 rfl;by_cases hlt:v<n
 .have aa:(v:Int)<(n:Int):=by omega
  have aZ:(0:Int)<=(v:Int):=by omega
  go_wp2_with fail;with_reducible refine(aAY r n A es c _ _ _ (hr.mid hm oZl) oO true (oX rfl HF.out)).mono ?_
  rintro en w3 ⟨rfl,a5⟩;have aV:w.heap.size<wo.heap.size:=b0.1;replace b0:=b0.mid a5 oZr;replace a0:=aAb a0 a5 oZl;replace hm:=hm.trans a5;have aF:=a5.size;clear p0 p1 p2 a5;obtain⟨p0,p1,p2⟩:=b0.c3 rfl;go_wp2_with fail;with_reducible refine(aFS r _ oO).mono ?_
  rintro en w4 ⟨A4,c4,rfl,a3,a8⟩;replace a3:=aAh a3 aF;replace b0:=b0.mid a8 oZr;replace a0:=aAb a0 a8 oZl;replace hm:=hm.trans a8;clear p0 p1 p2 a8;have aN:=oH (aBR r);obtain⟨LL,aB⟩:∃ LL,(aAg r).length=LL:=⟨_,rfl⟩
  have aQ:LL<=6:=by have:=aN.out;omega
  rw[aB] at a3 |-;have aG:=oH aB;clear aB;go_wp2_with fail;go_loopw [3,6] (fun out jv wr=>∃(j:Nat) (A1:OA) (n1 c1:Nat) (fs:List Ed),j<=LL/\jv=.int .i64 j/\out=.slice A1 n1 c1/\n1<=6 * v+j/\Hid (n1=0↔FullTo r es v j)/\wr.ownsRow (w.heap.size+1) 110 3 (.slice A1 n1 c1) n1 (aAe (edI fs)) /\
    Hid (wr.ownsRow wo 3 1 (.slice A4 LL c4) LL (aAe (aAg r)))/\Box wr w [r,n,.slice A es.length c]/\Mid 0 0 w wr) (fun _ j _=>LL - (intOf j).toNat)
  case atStart=>exact⟨0,A1,n1,c1,fs,oZ,rfl,rfl,aL,HQ,a0,oH a3,b0,hm⟩
  clear a0 a3 b0 hm HQ;obtain⟨j,A1,n1,c1,fs,hj,rfl,rfl,aL,HQ,a0,HL4,b0,hm⟩:=hrel;by_cases hlt2:j<LL
  .obtain⟨B4,o4,x,rfl,aH,hx,aI⟩:=(aAz HL4.out).at (k:=j) (by rw[aG.out];exact hlt2)
   have ab:=aIn (oG hx);have a7:=oH (FullTo.step (es:=es) (v:=v) hx);have HX:=oH hx;have aX:(j:Int)<(LL:Int):=by omega
   have aW:(0:Int)<=(j:Int):=by omega
   have aD:=aCf HF.out.gr.all (v:Int) x;have k0:=aAf b0.1 (b0.cell 0 rfl);have k1:=aAf b0.1 (b0.cell 1 rfl);have k2:=aAf b0.1 (b0.cell 2 rfl);have k4:=aAf aH aI;have hA:=fun m os=>aBL r n A es c v x (wg wr m os) lo hi (hr.mid (hm.trans (Mid.ofWg wr m os)) oZl) oO aM.out oO oO;clear hx;go_wp2_with fail;refine wqg ?_;repeat
    (with_reducible refine wpQuiet_step (fun K hK=>?_))
    go_simp
    first|(with_reducible refine hK _ ?_)|(rw[if_neg oD];(with_reducible refine hK _ ?_))|(apply Exists.intro;refine⟨fun _=>?_,hK _ ?_⟩;((go_at_call 129;exact Calls.wg_of (hA _ _))))
    clear hK K
   with_reducible refine wpQuiet_nil ?_
   rintro _ ⟨⟨nq,osq⟩,rfl⟩;have a1:=Mid.ofWg wr nq osq;have aE:=k4 nq osq;have aO:=oT aH a1.size;generalize wg wr nq osq=w6 at a1 aE aO |-;replace b0:=b0.mid a1 oZr;replace a0:=aAb a0 a1 oZl;replace hm:=hm.trans a1;have aA:=oH (aAb HL4.out a1 oZl);generalize htx:aAr es (v:Int) x=t at aD |-;rw[htx] at a7;clear k0 k1 k2 k4 aI htx HL4 hA a1;by_cases ht:t<0
   .have d1:decide (t<0)=true:=by simpa using ht
    have a2:Hid (n1+1=0↔FullTo r es v (j+1)):=oH (iff_of_false oO fun h=>by have:=(a7.out.1 h).2;omega);have HO:=oH a0;have aT:w.heap.size+1<=w6.heap.size:=b0.1;try simp only[d1]
    clear aD a0;go_wp2_with (at_builtin;refine aCS rfl _ _ rfl (w.heap.size+1) A1 n1 c1 fs rfl HO.out ⟨v,x, -1⟩ rfl oO aT ?_;intro A9 c9 w9 aS a4 aC)
    clear aC;have aK:=oF HO.out a4;have aP:=aA.out.kept a4 (aBd aA.out HO.out oD);go_roundw
    case rel=>exact⟨j+1,A9,n1+1,c9,_,oO,by go_num,rfl,oO,a2,aS,oH aP,b0.mid aK (Or.inl oS),hm.transNew aK (Or.inl (Nat.le_succ _))⟩
    simp[intOf];omega
   have d1:decide (t<0)=false:=by simpa using ht
   have a2:Hid (n1=0↔FullTo r es v (j+1)):=oH (HQ.out.trans ⟨fun h=>a7.out.2 ⟨h,oO⟩,fun h=>(a7.out.1 h).1⟩);try simp only[d1]
   clear aD;go_wp2_with fail;go_roundw
   case rel=>exact⟨j+1,_,n1,c1,fs,oO,by go_num,rfl,oO,a2,a0,aA,b0,hm⟩
   simp[intOf];omega
  obtain rfl:j=LL:=by omega
  have a2:Hid (n1=0↔FullTo r es (v+1) 0):=oH (by rw[HQ.out,<- aG.out];exact FullTo.row);go_wp2_with fail;go_roundw
  case rel=>exact⟨v+1,A1,n1,c1,fs,oO,by go_num,rfl,oO,a2,a0,b0,hm⟩
  simp[intOf];omega
 obtain rfl:v=n:=by omega
 have a6:=HQ.out.trans FullTo.all;have a9:=oH a6;clear a6;go_wp2_with fail;go_ret;exact⟨_,n1,_,rfl,a9.out,hm⟩
structure IsFin (r s:Int) (es:List Ed):Prop where
 cor:IsCor r s es
 full:aVA r.toNat s.toNat es
theorem aEd(r s:Int)(A:OA)(es:List Ed)(c:Nat)(w:World)(lo hi:Nat)(hr:RG w lo hi A es)(hl:es.length<=1048576)(a3:es.length<=c)(b:Bool)(hb:b=true↔IsFin r s es) :
  Calls Tryz.prog 157 #[aAJ r s A es.length c] w fun e w'=>e=.returned (.bool b)/\Mid 0 0 w w':=by
 have HB:=oH hb;clear hb;have a0:Mid 0 0 w (w.alloc (.cells #[r,s,.slice A es.length c] 35)):=oE _ _;have b0:=oJ w #[r,s,.slice A es.length c] 35;by_cases h:IsCor r s es
 .obtain⟨r,n,rfl,rfl⟩:=h.gr.nat
  have HC:=oH h;clear h;go_enter Tryz.func157,Tryz.ntmps157
  go_wp2_with fail;with_reducible refine(aBl r n A es c _ _ _ (hr.mid a0 oZl) hl a3 true (oX rfl HC.out)).mono ?_
  rintro en w1 ⟨rfl,a1⟩;replace b0:=b0.mid a1 oZr;replace a0:=a0.trans a1;obtain⟨p0,p1,p2⟩:=b0.c3 rfl;go_wp2_with fail;with_reducible refine(aIk r n A es c _ _ _ (hr.mid a0 oZl) a3 HC.out.fol).mono ?_
  rintro en w2 ⟨A2,n2,c2,rfl,a5,a6⟩;have a2:b=true↔n2=0:=by
   rw[HB.out,a5];exact⟨fun h=>h.full,fun h=>⟨HC.out,h⟩⟩
  have a4:=a0.trans a6;clear a5 HB;by_cases h0:n2=0
  .obtain rfl:b=true:=a2.2 h0
   subst h0;go_wp2_with fail;go_ret;exact⟨rfl,a4⟩
  obtain rfl:b=false:=aAG a2 h0;have d1:((n2:Int) == 0)=false:=by simp only[beq_eq_false_iff_ne];omega
  clear a2;go_wp2_with fail;go_ret;exact⟨rfl,a4⟩
 obtain rfl:b=false:=aAG HB.out fun h'=>h h'.cor;have HC:=oH h;clear h HB;go_enter Tryz.func157,Tryz.ntmps157
 go_wp2_with fail;with_reducible refine(aBl r s A es c _ _ _ (hr.mid a0 oZl) hl a3 false (iff_of_false Bool.false_ne_true HC.out)).mono ?_
 rintro en w1 ⟨rfl,a1⟩;go_wp2_with fail;go_ret;exact⟨rfl,a0.trans a1⟩
theorem aEj(r s:Int)(A:OA)(es:List Ed)(c:Nat)(w:World)(lo hi:Nat)(hr:RG w lo hi A es)(hl:es.length<=1048576)(b:Bool)(hb:b=true↔IsFin r s es) :
  Calls Tryz.prog 160 #[aAJ r s A es.length c] w fun e w'=>e=.returned (.bool b)/\Mid 0 0 w w':=by
 have HB:=oH hb;clear hb;have a0:Mid 0 0 w (w.alloc (.cells #[r,s,.slice A es.length c] 35)):=oE _ _;have b0:=oJ w #[r,s,.slice A es.length c] 35;by_cases h:IsCor r s es
 .obtain⟨r,n,rfl,rfl⟩:=h.gr.nat
  have HC:=oH h;clear h;go_enter Tryz.func160,Tryz.ntmps160
  go_wp2_with fail;with_reducible refine(aAH r n A es c _ _ _ (hr.mid a0 oZl) hl true (oX rfl HC.out)).mono ?_
  rintro en w1 ⟨rfl,a1⟩;replace b0:=b0.mid a1 oZr;replace a0:=a0.trans a1;obtain⟨p0,p1,p2⟩:=b0.c3 rfl;go_wp2_with fail;with_reducible refine(aIz r n A es c _ _ _ (hr.mid a0 oZl) HC.out.fol).mono ?_
  rintro en w2 ⟨A2,n2,c2,rfl,a4,a5⟩;have a2:b=true↔n2=0:=by
   rw[HB.out,a4];exact⟨fun h=>h.full,fun h=>⟨HC.out,h⟩⟩
  have a3:=a0.trans a5;clear a4 HB;by_cases h0:n2=0
  .obtain rfl:b=true:=a2.2 h0
   subst h0;go_wp2_with fail;go_ret;exact⟨rfl,a3⟩
  obtain rfl:b=false:=aAG a2 h0;have d1:((n2:Int) == 0)=false:=by simp only[beq_eq_false_iff_ne];omega
  clear a2;go_wp2_with fail;go_ret;exact⟨rfl,a3⟩
 obtain rfl:b=false:=aAG HB.out fun h'=>h h'.cor;have HC:=oH h;clear h HB;go_enter Tryz.func160,Tryz.ntmps160
 go_wp2_with fail;with_reducible refine(aAH r s A es c _ _ _ (hr.mid a0 oZl) hl false (iff_of_false Bool.false_ne_true HC.out)).mono ?_
 rintro en w1 ⟨rfl,a1⟩;go_wp2_with fail;go_ret;exact⟨rfl,a0.trans a1⟩
def goV(es:List Ed):Int->LI->Option Int
|v,[]=>some v
|v,x::t=>if aAr es v x<0 then none else goV es (aAr es v x) t
theorem aOx(es:List Ed):∀(a b:LI) (v:Int),goV es v (a++b)=(goV es v a).bind fun u=>goV es u b
|[],b,v=>rfl
|x::a,b,v=>by
  rw[List.cons_append,goV,goV];split
  .rfl
  .exact aOx es a b _
theorem aUn(es:List Ed)(v x:Int):goV es v [x]=if aAr es v x<0 then none else some (aAr es v x):=by
 rw[goV]
 rfl
theorem aPA{es:List Ed}{v u x:Int}{w:LI}{k:Nat}(h:goV es v (w.take k)=some u)(hx:w[k]?=some x)(hn:aAr es u x<0):goV es v w=none:=by
 have h1:w=w.take k++(x::w.drop (k+1)):=by rw[<- aOr w hx,List.take_append_drop]
 rw[h1,aOx,h,Option.bind_some,goV,if_pos hn]
theorem aPz{es:List Ed}{v u x:Int}{w:LI}{k:Nat}(h:goV es v (w.take k)=some u)(hx:w[k]?=some x)(hn:¬ aAr es u x<0):goV es v (w.take (k+1))=some (aAr es u x):=by
 rw[aBA hx,aOx,h,Option.bind_some,aUn,if_neg hn]
theorem aNp(r n:Nat)(A:OA)(es:List Ed)(c:Nat)(v:Int)(Aw:OA)(wd:LI)(cw:Nat)(w:World)(lo hi lo' hi':Nat)(hr:RG w lo hi A es)(hw:RV w lo' hi' Aw (aAe wd))(hg:IsGr r n es)(a8:wd.length<=1048576)(a3:OkI wd) :
  Calls Tryz.prog 201 #[aAJ r n A es.length c,.int .i64 v,.slice Aw wd.length cw] w fun e w'=>∃(u:Int) (k:Nat),e=.returned (.tuple #[.int .i64 u,.int .i64 k])/\k<=wd.length/\goV es v (wd.take k)=some u/\(k=wd.length \/ ∃ x,wd[k]?=some x/\aAr es u x<0)/\Mid 0 0 w w':=by
 have hl:=hg.len;have a4:=oH (show ∀ e∈es,1<=e.l/\e.l<=3 from fun e he=>by have:=hg.all e he;have:=hg.rank;unfold InG at *;omega);have HG:=oH hg;have a5:=oH a3;have a1:Mid 0 0 w (w.alloc (.cells #[r,n,.slice A es.length c] 35)):=oE _ _;have b0:=oJ w #[r,n,.slice A es.length c] 35;clear hg a3;go_enter Tryz.func201,Tryz.ntmps201
 go_wp2_with fail;go_loopw [1,13] (fun vv iv wr=>∃(k:Nat) (u:Int),k<=wd.length/\iv=.int .i64 k/\vv=.int .i64 u/\Hid (goV es v (wd.take k)=some u)/\Box wr w.heap.size [.int .i64 r,.int .i64 n,.slice A es.length c]/\Mid 0 0 w wr) (fun _ i _=>wd.length - (intOf i).toNat)
 case atStart=>exact⟨0,v,oZ,rfl,rfl,oH rfl,b0,a1⟩
 clear b0 a1;obtain⟨k,u,hk,rfl,rfl,HV,b0,hm⟩:=hrel;obtain⟨p0,p1,p2⟩:=b0.c3 rfl;by_cases hlt:k<wd.length
 .obtain⟨B,aA,x,rfl,a6,hx,a0⟩:=(hw.mid hm oZl).at hlt
  have a9:=a5.out x (oG hx);have a7:(k:Int)<(wd.length:Int):=by omega
  have HX:=oH hx;clear hx;go_wp2_with fail;with_reducible refine(aCK r n A es c u x _ lo hi (hr.mid hm oZl) oO a4.out oO oO).mono ?_
  rintro en w6 ⟨rfl,a2⟩;replace b0:=b0.mid a2 oZr;replace hm:=hm.trans a2;generalize htx:aAr es u x=t;by_cases ht:t<0
  .have d1:decide (t<0)=true:=by simpa using ht
   have HN:Hid (aAr es u x<0):=oH (by rw[htx];exact ht);clear ht htx a0 p0 p1 p2;go_wp2_with fail;go_ret2;exact⟨u,k,rfl,hk,HV.out,.inr ⟨x,HX.out,HN.out⟩,hm⟩
  have d1:decide (t<0)=false:=by simpa using ht
  have HN:=oH (aPz HV.out HX.out (by rw[htx];exact ht));rw[htx] at HN;clear ht htx a0 p0 p1 p2;go_wp2_with fail;go_roundw
  case rel=>exact⟨k+1,t,oO,by go_num,rfl,HN,b0,hm⟩
  simp[intOf];omega
 obtain rfl:k=wd.length:=by omega
 go_wp2_with fail;go_ret2;exact⟨u,wd.length,rfl,oN,HV.out,.inl rfl,hm⟩
theorem aEZ(r n v:Nat)(A:OA)(es:List Ed)(c:Nat)(Aw:OA)(wd:LI)(cw:Nat)(w:World)(lo hi lo' hi':Nat)(hr:RG w lo hi A es)(hw:RV w lo' hi' Aw (aAe wd))(hf:IsFol r n es)(hv:v<n)(aD:wd.length<=1048576)(a4:OkI wd) :
  Calls Tryz.prog 128 #[aAJ r n A es.length c,.int .i64 v,.slice Aw wd.length cw] w fun e w'=>∃(u:Int) (b:Bool),e=.returned (.tuple #[.int .i64 u,.bool b])/\(b=true->goV es v wd=some u)/\(b=false->goV es v wd=none)/\Mid 0 0 w w':=by
 have hg:=hf.gr;have hl:=hg.len;have a9:n<=40:=by have:=hg.size;omega
 have a5:=oH (show ∀ e∈es,1<=e.l/\e.l<=3 from fun e he=>by have:=hg.all e he;have:=hg.rank;unfold InG at *;omega);have HF:=oH hf;have a6:=oH a4;have a0:Mid 0 0 w (w.alloc (.cells #[r,n,.slice A es.length c] 35)):=oE _ _;have b0:=oJ w #[r,n,.slice A es.length c] 35;have a8:inB (v:Int) 0 ((n:Int) - 1)=true:=by unfold inB;simp;omega
 clear hg a4 hf;go_enter Tryz.func128,Tryz.ntmps128
 go_wp2_with fail;with_reducible refine(aAY r n A es c _ _ _ (hr.mid a0 oZl) oO true (oX rfl HF.out)).mono ?_
 rintro en w1 ⟨rfl,a1⟩;replace b0:=b0.mid a1 oZr;replace a0:=a0.trans a1;obtain⟨p0,p1,p2⟩:=b0.c3 rfl;go_wp2_with fail;with_reducible refine(aBQ a8 _).mono ?_
 rintro en w2 ⟨rfl,rfl⟩;go_wp2_with fail;clear p0 p1 p2 a1;go_loopw [1,8] (fun vv iv wr=>∃(k:Nat) (u:Int),k<=wd.length/\iv=.int .i64 k/\vv=.int .i64 u/\Hid (goV es v (wd.take k)=some u)/\Box wr w.heap.size [.int .i64 r,.int .i64 n,.slice A es.length c]/\Mid 0 0 w wr) (fun _ i _=>wd.length - (intOf i).toNat)
 case atStart=>exact⟨0,v,oZ,rfl,rfl,oH rfl,b0,a0⟩
 clear b0 a0;obtain⟨k,u,hk,rfl,rfl,HV,b0,hm⟩:=hrel;by_cases hlt:k<wd.length
 .obtain⟨B,aF,x,rfl,aA,hx,a3⟩:=(hw.mid hm oZl).at hlt
  have aE:=a6.out x (oG hx);have aC:(k:Int)<(wd.length:Int):=by omega
  have aB:(0:Int)<=(k:Int):=by omega
  have HX:=oH hx;have a7:B<wr.heap.size:=by have:=hw.1;have:=hm.size;omega
  have k0:=aAf b0.1 (b0.cell 0 rfl);have k1:=aAf b0.1 (b0.cell 1 rfl);have k2:=aAf b0.1 (b0.cell 2 rfl);have k4:=aAf a7 a3;have hA:=fun m os=>aBL r n A es c u x (wg wr m os) lo hi (hr.mid (hm.trans (Mid.ofWg wr m os)) oZl) oO a5.out oO oO;clear hx a3;go_wp2_with fail;refine wqg ?_;repeat
   (with_reducible refine wpQuiet_step (fun K hK=>?_))
   go_simp
   first|(with_reducible refine hK _ ?_)|(rw[if_neg oD];(with_reducible refine hK _ ?_))|(apply Exists.intro;refine⟨fun _=>?_,hK _ ?_⟩;((go_at_call 129;exact Calls.wg_of (hA _ _))))
   clear hK K
  with_reducible refine wpQuiet_nil ?_
  rintro _ ⟨⟨nq,osq⟩,rfl⟩;have a2:=Mid.ofWg wr nq osq;generalize wg wr nq osq=w6 at a2 |-;replace b0:=b0.mid a2 oZr;replace hm:=hm.trans a2;generalize htx:aAr es u x=t;clear k0 k1 k2 k4 hA;by_cases ht:t<0
  .have d1:decide (t<0)=true:=by simpa using ht
   have HN:=oH (aPA HV.out HX.out (by rw[htx];exact ht));clear ht htx;go_wp2_with fail;go_ret2;exact⟨-1,false,rfl,(fun h=>nomatch h),fun _=>HN.out,hm⟩
  have d1:decide (t<0)=false:=by simpa using ht
  have HN:=oH (aPz HV.out HX.out (by rw[htx];exact ht));rw[htx] at HN;clear ht htx;go_wp2_with fail;go_roundw
  case rel=>exact⟨k+1,t,oO,by go_num,rfl,HN,b0,hm⟩
  simp[intOf];omega
 obtain rfl:k=wd.length:=by omega
 rw[List.take_length] at HV;go_wp2_with fail;go_ret2;exact⟨u,true,rfl,fun _=>HV.out,(fun h=>nomatch h),hm⟩
def aCa(es:List Ed)(wd:LI)(k:Nat):LI:=(List.range k).map fun(v:Nat)=>(goV es v wd).getD 0
theorem aKj{es:List Ed}{wd:LI}{k:Nat}{u:Int}(h:goV es (k:Int) wd=some u):aCa es wd (k+1)=aCa es wd k++[u]:=by simp[aCa,List.range_succ,h]
theorem aCG(es:List Ed)(wd:LI)(k:Nat):(aCa es wd k).length=k:=by simp[aCa]
open Classical in
noncomputable def wordP (r s:Int) (es:List Ed) (wd:LI):LI:=if IsFin r s es/\∀ v:Nat,v<s.toNat->goV es v wd≠none then aCa es wd s.toNat else[]
theorem aKA{r n:Nat}{es:List Ed}{wd:LI}(h:IsFin r n es)(h2:∀ v:Nat,v<n->goV es v wd≠none):wordP r n es wd=aCa es wd n:=if_pos ⟨h,h2⟩
theorem aQe{r n:Nat}{es:List Ed}{wd:LI}{v:Nat}(hv:v<n)(h2:goV es v wd=none):wordP r n es wd=[]:=if_neg fun h=>h.2 v hv h2
theorem aEx(r n:Nat)(A:OA)(es:List Ed)(c:Nat)(Aw:OA)(wd:LI)(cw:Nat)(w:World)(lo hi lo' hi':Nat)(hr:RG w lo hi A es)(hw:RV w lo' hi' Aw (aAe wd))(aD:es.length<=c)(hf:IsFin r n es)(aH:wd.length<=1048576)(a9:OkI wd) :
  Calls Tryz.prog 158 #[aAJ r n A es.length c,.slice Aw wd.length cw] w fun e w'=>∃ A1 c1,e=.returned (.slice A1 (wordP r n es wd).length c1)/\OV w' w.heap.size w'.heap.size 3 1 A1 c1 (wordP r n es wd).length (aAe (wordP r n es wd))/\Mid 0 0 w w':=by
 have hl:=hf.cor.gr.len;have aE:n<=40:=by have:=hf.cor.gr.size;omega
 have HF:=oH hf;have aA:=oH a9;clear hf a9;have O0:=aAd (w.alloc (.cells #[r,n,.slice A es.length c] 35)) 3 1;rw[World.size_alloc] at O0;have a4:Mid 0 0 w ((w.alloc (.cells #[r,n,.slice A es.length c] 35)).alloc (.cells #[] 3)):=(oE _ _).trans (oE _ _);have b0:=(oJ w #[r,n,.slice A es.length c] 35).mid (oE _ (.cells #[] 3)) oZr;go_enter Tryz.func158,Tryz.ntmps158
 go_wp2_with fail;with_reducible refine(aEd r n A es c _ _ _ (hr.mid a4 oZl) oO aD true (oX rfl HF.out)).mono ?_
 rintro en w1 ⟨rfl,a5⟩;replace b0:=b0.mid a5 oZr;replace O0:=aAb O0 a5 oZl;replace a4:=a4.trans a5;clear a5;go_wp2_with fail;go_loopw [5,6] (fun out vv wr=>∃(v:Nat) (A1:OA) (c1:Nat),v<=n/\vv=.int .i64 v/\out=.slice A1 v c1/\Hid (∀ u:Nat,u<v->goV es u wd≠none)/\wr.ownsRow (w.heap.size+1) 3 1 (.slice A1 v c1) v (aAe (aCa es wd v)) /\
   Box wr w [r,n,.slice A es.length c]/\Mid 0 0 w wr) (fun _ v _=>n - (intOf v).toNat)
 case atStart=>exact⟨0,_,0,oZ,rfl,rfl,oH (fun u h=>absurd h (Nat.not_lt_zero _)),O0,b0,a4⟩
 clear O0 b0 a4;obtain⟨v,A1,c1,hv,rfl,rfl,HU,a0,b0,hm⟩:=hrel;obtain⟨p0,p1,p2⟩:=b0.c3 rfl;by_cases hlt:v<n
 .have aJ:(v:Int)<(n:Int):=by omega
  have aI:(0:Int)<=(v:Int):=by omega
  go_wp2_with fail;with_reducible refine(aNp r n A es c v Aw wd cw _ _ _ _ _ (hr.mid hm oZl) (hw.mid hm oZl) HF.out.cor.gr aH aA.out).mono ?_
  rintro en w6 ⟨u,k,rfl,hk,a1,a3,a6⟩;have a2:(k=wd.length/\goV es (v:Int) wd=some u) \/ (k<wd.length/\goV es (v:Int) wd=none):=by
   rcases a3 with rfl|⟨x,hx,hn⟩
   .left
    exact⟨rfl,by rw[List.take_length] at a1;exact a1⟩
   right
   exact⟨(List.getElem?_eq_some_iff.1 hx).1,aPA a1 hx hn⟩
  clear a1 a3;replace b0:=b0.mid a6 oZr;replace a0:=aAb a0 a6 oZl;replace hm:=hm.trans a6;clear p0 p1 p2 a6;rcases a2 with⟨hk1,a1⟩|⟨hk1,a1⟩
  .have HS:=oH (aKj a1)
   have aB:Hid (∀ u:Nat,u<v+1->goV es u wd≠none):=oH (by
    intro q hq;by_cases h:q<v
    .exact HU.out q h
    .obtain rfl:q=v:=by omega
     rw[a1];exact fun h=>by cases h)
   have HO:=oH a0;have a7:w.heap.size+1<=w6.heap.size:=b0.1;clear a1 a0;subst hk1;go_wp2_with (at_builtin;refine aAA rfl _ _ rfl (w.heap.size+1) A1 v c1 _ rfl HO.out u rfl oO a7 ?_;intro A9 c9 w9 aF a8)
   go_roundw
   case rel=>exact⟨v+1,A9,c9,oO,by go_num,rfl,aB,by rw[HS.out];exact aF,b0.mid a8 (Or.inl oS),hm.transNew a8 (Or.inl (Nat.le_succ _))⟩
   simp[intOf];omega
  have HW:=oH (aQe (r:=r) hlt a1);have O1:=aAd w6 3 1;have aC:=oE w6 (.cells #[] 3);have a7:=hm.size;clear a1;go_wp2_with fail;go_ret;refine⟨some ⟨w6,0,none⟩,0,by rw[HW.out];rfl,?_,hm.trans aC⟩;rw[HW.out];exact⟨oN,aAh O1 a7,fun g hg=>(O1.lt g hg).2⟩
 obtain rfl:v=n:=by omega
 have HW:=oH (aKA HF.out HU.out);have HL:=oH (aCG es wd v);have aG:OV wr (w.heap.size+1) wr.heap.size 3 1 A1 c1 v (aAe (aCa es wd v)):=⟨oN,a0,fun g hg=>(a0.lt g hg).2⟩
 go_wp2_with fail;go_ret;exact⟨A1,c1,by rw[HW.out,HL.out];rfl,by rw[HW.out,HL.out];exact aG.wide (Nat.le_succ _) oN oN,hm⟩
theorem aEI(r n:Nat)(A:OA)(es:List Ed)(c:Nat)(Aw:OA)(wd:LI)(cw:Nat)(w:World)(lo hi lo' hi':Nat)(hr:RG w lo hi A es)(hw:RV w lo' hi' Aw (aAe wd))(hf:IsFin r n es)(aG:wd.length<=1048576)(aA:OkI wd) :
  Calls Tryz.prog 161 #[aAJ r n A es.length c,.slice Aw wd.length cw] w fun e w'=>∃ A1 c1,e=.returned (.slice A1 (wordP r n es wd).length c1)/\OV w' w.heap.size w'.heap.size 3 1 A1 c1 (wordP r n es wd).length (aAe (wordP r n es wd))/\Mid 0 0 w w':=by
 have hl:=hf.cor.gr.len;have aD:n<=40:=by have:=hf.cor.gr.size;omega
 have HF:=oH hf;have aB:=oH aA;clear hf aA;have a1:Mid 0 0 w (w.alloc (.cells #[r,n,.slice A es.length c] 35)):=oE _ _;have b0:=oJ w #[r,n,.slice A es.length c] 35;go_enter Tryz.func161,Tryz.ntmps161
 go_wp2_with fail;with_reducible refine(aEj r n A es c _ _ _ (hr.mid a1 oZl) oO true (oX rfl HF.out)).mono ?_
 rintro en w1 ⟨rfl,a5⟩;replace b0:=b0.mid a5 oZr;replace a1:=a1.trans a5;have O0:=aAh (base':=w.heap.size+1) (aAd w1 3 1) b0.1;have a2:=oE w1 (.cells #[] 3);replace b0:=b0.mid a2 oZr;replace a1:=a1.trans a2;clear a5 a2;go_wp2_with fail;go_loopw [5,6] (fun out vv wr=>∃(v:Nat) (A1:OA) (c1:Nat),v<=n/\vv=.int .i64 v/\out=.slice A1 v c1/\Hid (∀ u:Nat,u<v->goV es u wd≠none)/\wr.ownsRow (w.heap.size+1) 3 1 (.slice A1 v c1) v (aAe (aCa es wd v)) /\
   Box wr w [r,n,.slice A es.length c]/\Mid 0 0 w wr) (fun _ v _=>n - (intOf v).toNat)
 case atStart=>exact⟨0,_,0,oZ,rfl,rfl,oH (fun u h=>absurd h (Nat.not_lt_zero _)),O0,b0,a1⟩
 clear O0 b0 a1;obtain⟨v,A1,c1,hv,rfl,rfl,HU,a0,b0,hm⟩:=hrel;obtain⟨p0,p1,p2⟩:=b0.c3 rfl;by_cases hlt:v<n
 .have aI:(v:Int)<(n:Int):=by omega
  have aH:(0:Int)<=(v:Int):=by omega
  go_wp2_with fail;with_reducible refine(aEZ r n v A es c Aw wd cw _ _ _ _ _ (hr.mid hm oZl) (hw.mid hm oZl) HF.out.cor.fol hlt aG aB.out).mono ?_
  rintro en w6 ⟨u,bb,rfl,a7,a8,a4⟩;have a3:(bb=true/\goV es (v:Int) wd=some u) \/ (bb=false/\goV es (v:Int) wd=none):=by
   cases bb
   .exact .inr ⟨rfl,a8 rfl⟩
   exact .inl ⟨rfl,a7 rfl⟩
  clear a7 a8;replace b0:=b0.mid a4 oZr;replace a0:=aAb a0 a4 oZl;replace hm:=hm.trans a4;clear p0 p1 p2 a4;rcases a3 with⟨hk1,hgo⟩|⟨hk1,hgo⟩
  .have HS:=oH (aKj hgo)
   have aC:Hid (∀ u:Nat,u<v+1->goV es u wd≠none):=oH (by
    intro q hq;by_cases h:q<v
    .exact HU.out q h
    .obtain rfl:q=v:=by omega
     rw[hgo];exact fun h=>by cases h)
   have HO:=oH a0;have a6:w.heap.size+1<=w6.heap.size:=b0.1;clear hgo a0;subst hk1;go_wp2_with (at_builtin;refine aAA rfl _ _ rfl (w.heap.size+1) A1 v c1 _ rfl HO.out u rfl oO a6 ?_;intro A9 c9 w9 aE a9)
   go_roundw
   case rel=>exact⟨v+1,A9,c9,oO,by go_num,rfl,aC,by rw[HS.out];exact aE,b0.mid a9 (Or.inl oS),hm.transNew a9 (Or.inl (Nat.le_succ _))⟩
   simp[intOf];omega
  have HW:=oH (aQe (r:=r) hlt hgo);have O1:=aAd w6 3 1;have a2:=oE w6 (.cells #[] 3);have a6:=hm.size;clear hgo;subst hk1;go_wp2_with fail;go_ret;refine⟨some ⟨w6,0,none⟩,0,by rw[HW.out];rfl,?_,hm.trans a2⟩;rw[HW.out];exact⟨oN,aAh O1 a6,fun g hg=>(O1.lt g hg).2⟩
 obtain rfl:v=n:=by omega
 have HW:=oH (aKA HF.out HU.out);have HL:=oH (aCG es wd v);have aF:OV wr (w.heap.size+1) wr.heap.size 3 1 A1 c1 v (aAe (aCa es wd v)):=⟨oN,a0,fun g hg=>(a0.lt g hg).2⟩
 go_wp2_with fail;go_ret;exact⟨A1,c1,by rw[HW.out,HL.out];rfl,by rw[HW.out,HL.out];exact aF.wide (Nat.le_succ _) oN oN,hm⟩
section
open Go.RowKit
section
variable {P:Program} {ops:Array Oper} {Q:Exit->Act->World->Prop} {md:Region.Mode} {S:World->Prop} {Z:List Nat}
def aDY(P:Program)(md:Region.Mode)(ops:Array Oper)(Q:Exit->Act->World->Prop)(S:World->Prop)(Z:List Nat):Nat->Array Bool->Act->World->Prop
|0,listed,a,w=>Region.ready md ops listed=[]/\Q .normal a w
|fuel+1,listed,a,w=>
  (Region.ready md ops listed=[]->Q .normal a w) /\
  ∀ i∈Region.ready md ops listed,wpOp P ops Q i (fun a' w'=>(i∈Z \/ S w')/\aDY P md ops Q S Z fuel (listed.setIfInBounds i true) a' w') a w
theorem aLA:∀(a1:Nat) (a0:Array Bool) (a:Act) (w:World),aDY P md ops Q S Z a1 a0 a w->wpAny P md ops Q a1 a0 a w
|0,_,_,_,h=>h
|a1+1,_,_,_,h=>⟨h.1,fun i hi=>wpOp_mono (fun a' w' h'=>aLA a1 _ a' w' h'.2) (h.2 i hi)⟩
theorem aRY{z i:Nat}{listed:Array Bool}(hz:Region.waitsFor md ops z i=true)(a4:listed.getD i true=false):z ∉ Region.ready md ops listed:=by
 intro hr;obtain⟨-,oz,a3,a0⟩:=mem_ready.1 hr;obtain⟨a5,a1,e,he,hb,a2⟩:=Region.waitsFor_spec hz;obtain rfl:a5=oz:=Option.some.inj (a1.symm.trans a3);have h1:=a0 e he hb;rw[a2,getD_both a4] at h1;cases h1
theorem aRX{i m:Nat}{C:List Nat}{listed:Array Bool}(hC:∀ m∈C,listed.getD m true=false/\∃ p∈i::C,Region.waitsFor md ops m p=true)(hi:listed.getD i true=false)(hm:m∈C):m ∉ Region.ready md ops listed:=by
 obtain⟨-,p,hp,hw⟩:=hC m hm;have a0:listed.getD p true=false:=by
  rcases List.mem_cons.1 hp with rfl|hp
  .exact hi
  exact(hC p hp).1
 exact aRY hw a0
theorem aMJ{i:Nat}{oi:Oper}{v:Value}{C:List Nat}(hi:ops[i]?=some oi)(a5:∀(j:Nat) (o:Oper) cs b,ops[j]?=some o->o.op≠.select cs b)(hQ:∀ c a w,Q (.panic c) (a.put oi.dst v) w->Q (.panic c) a w)(aC:∀ z∈Z,z∈C) :
  ∀(a1:Nat) (a0:Array Bool) (a:Act) (w:World),
   (∀ j oj,ops[j]?=some oj->j≠i->a0.getD j true=false->(∀ e∈oj.after,Region.binds md e=true->e.on≠i)->oi.apart ops oj=true) ->
   (∀ m∈C,a0.getD m true=false/\∃ p∈i::C,Region.waitsFor md ops m p=true) ->
   i∈Region.ready md ops a0->YieldsIf P ops S oi v a->S w ->
   aDY P md ops Q S Z a1 (a0.setIfInBounds i true) (a.put oi.dst v) w->aDY P md ops Q S Z (a1+1) a0 a w:=by
 intro a1
 induction a1 with
|zero=>
  intro a0 a w _ _ hr hy hS H;refine⟨fun h=>(by rw[h] at hr;cases hr),fun j hj=>?_⟩;by_cases hji:j=i
  .subst hji;exact hy.wpOp hi hS ⟨.inr hS,H⟩
  have:=ready_mono hj hji;rw[H.1] at this;cases this
|succ a1 ih=>
  intro a0 a w a2 hC hr hy hS H;refine⟨fun h=>(by rw[h] at hr;cases hr),fun j hj=>?_⟩;by_cases hji:j=i
  .subst hji;exact hy.wpOp hi hS ⟨.inr hS,H⟩
  have aA:j ∉ C:=fun e=>aRX hC (mem_ready.1 hr).1 e hj;have aE:j ∉ Z:=fun e=>aA (aC j e);have h1:=H.2 j (ready_mono hj hji);obtain⟨a4,oj,a8,a6⟩:=mem_ready.1 hj;have a7:∀ e∈oj.after,Region.binds md e=true->e.on≠i:=fun e he hb heq=>by
   have h1:=a6 e he hb;have h0:=(mem_ready.1 hr).1;rw[heq] at h1;rcases Nat.lt_or_ge i a0.size with h'|h'
   .simp[h'] at h0 h1;rw[h0] at h1;cases h1
   .simp[Array.getElem?_eq_none h'] at h1
  have h2:=wpOp_putIf a8 (a2 j oj a8 hji a4 a7) (fun cs b=>a5 i oi cs b hi) (fun cs b=>a5 j oj cs b a8) hQ hy h1;have a3:∀ k ok,ops[k]?=some ok->k≠i->(a0.setIfInBounds j true).getD k true=false ->
    (∀ e∈ok.after,Region.binds md e=true->e.on≠i)->oi.apart ops ok=true:=fun k ok hk hki hun hno=>by
   refine a2 k ok hk hki ?_ hno;by_cases hjk:j=k
   .subst hjk;exact a4
   .rw[getD_set_ne true hjk] at hun;exact hun
  have aB:∀ m∈C,(a0.setIfInBounds j true).getD m true=false/\∃ p∈i::C,Region.waitsFor md ops m p=true:=fun m hm=>by
   refine⟨?_,(hC m hm).2⟩;have aD:j≠m:=fun e=>aA (e ▸ hm);rw[getD_set_ne true aD];exact(hC m hm).1
  refine wpOp_mono (fun a' w' h3=>?_) h2;have a9:S w':=h3.2.1.resolve_left aE;refine⟨.inr a9,ih (a0.setIfInBounds j true) a' w' a3 aB (ready_mono hr (Ne.symm hji)) h3.1 a9 ?_⟩;rw[Array.setIfInBounds_comm _ _ hji];exact h3.2.2
theorem aFU(C:List Nat){i:Nat}{oi:Oper}{v:Value}{fuel:Nat}{listed:Array Bool}{a:Act}{w:World}(hi:ops[i]?=some oi)(hs:Region.noSelect ops=true)(hf:Region.free md ops listed i=true)(hr:(Region.ready md ops listed).contains i=true)(hz:((Z.all fun z=>C.contains z) && C.all fun m=>(listed.getD m true == false) && (i::C).any fun p=>Region.waitsFor md ops m p)=true)(hQ:∀ c a w,Q (.panic c) (a.put oi.dst v) w->Q (.panic c) a w)(hy:YieldsIf P ops S oi v a)(hS:S w)(h:aDY P md ops Q S Z fuel (listed.setIfInBounds i true) (a.put oi.dst v) w):aDY P md ops Q S Z (fuel+1) listed a w:=by
 rw[Bool.and_eq_true] at hz;refine aMJ hi (Region.noSelect_spec hs) hQ (C:=C) (fun z hzm=>by simpa using List.all_eq_true.1 hz.1 z hzm) fuel listed a w (Region.free_spec hi hf) (fun m hm=>?_) (by simpa using hr) hy hS h;have:=List.all_eq_true.1 hz.2 m hm;rw[Bool.and_eq_true] at this;refine⟨by simpa using this.1,?_⟩;obtain⟨p,hp,hw⟩:=List.any_eq_true.1 this.2;exact⟨p,hp,hw⟩
def AllReadyZ(P:Program)(md:Region.Mode)(ops:Array Oper)(Q:Exit->Act->World->Prop)(S:World->Prop)(Z:List Nat)(fuel:Nat)(listed:Array Bool)(a:Act)(w:World)(rs:List Nat):Prop:=
 ∀ i∈rs,wpOp P ops Q i (fun a' w'=>(i∈Z \/ S w')/\aDY P md ops Q S Z fuel (listed.setIfInBounds i true) a' w') a w
theorem AllReadyZ.nil{fuel:Nat}{listed:Array Bool}{a:Act}{w:World}:AllReadyZ P md ops Q S Z fuel listed a w []:=fun _ h=>by cases h
theorem AllReadyZ.cons{fuel:Nat}{listed:Array Bool}{a:Act}{w:World}{i:Nat}{o:Oper}{rs:List Nat}(ho:ops[i]?=some o)(h:∀ K':Act->World->Prop,Shut (∀ a w,(i∈Z \/ S w)->((i∈Z \/ S w)->aDY P md ops Q S Z fuel (listed.setIfInBounds i true) a w)->K' a w)->if Region.wanted o (yielded ops a.tmps)=true then Oper.wp P o a w K' Q else K' (a.put o.dst undef) w)(hs:AllReadyZ P md ops Q S Z fuel listed a w rs):AllReadyZ P md ops Q S Z fuel listed a w (i::rs):=fun j hj=>by
 rcases List.mem_cons.1 hj with rfl|hj
 .exact wpOp_step ho (fun K' hK=>h K' (fun a w hS hW=>hK a w ⟨hS,hW hS⟩))
 .exact hs j hj
theorem aBb{rs:List Nat}{fuel:Nat}{listed:Array Bool}{a:Act}{w:World}(hr:Region.ready md ops listed=rs)(a0:rs≠[])(h:AllReadyZ P md ops Q S Z fuel listed a w rs):aDY P md ops Q S Z (fuel+1) listed a w:=
 ⟨fun h0=>absurd (hr.symm.trans h0) a0,fun i hi=>h i (hr ▸ hi)⟩
theorem aAj{listed:Array Bool}{a:Act}{w:World}(hr:Region.ready md ops listed=[])(h:Q .normal a w):∀ fuel,aDY P md ops Q S Z fuel listed a w
|0=>⟨hr,h⟩
|_+1=>⟨fun _=>h,by rw[hr];simp⟩
theorem aAo{id:Nat}{a:Act}{w:World}(Z:List Nat)(hm:P.follows .mixedOrders=true)(hS:S w.drew)(h:aDY P .any ops Q S Z ops.size (Array.replicate ops.size false) a w.drew):(Code.region id ops true).wp P Q a w:=
 wp_region_any hm (aLA _ _ _ _ h)
end
end
section
variable {P:Program} {ops:Array Oper} {Q:Exit->Act->World->Prop} {md:Region.Mode} {S:World->Prop} {Z:List Nat}
theorem tkZ(C:List Nat)(i:Nat){oi:Oper}{v:Value}{fuel:Nat}{listed:Array Bool}{a:Act}{w:World}(hi:ops[i]?=some oi)(hS:S w)(h:aDY P md ops Q S Z fuel (listed.setIfInBounds i true) (a.put oi.dst v) w)(hs:Region.noSelect ops=true:=by kernel_rfl)(hf:Region.free md ops listed i=true:=by kernel_rfl)(hr:(Region.ready md ops listed).contains i=true:=by kernel_rfl)(hz:((Z.all fun z=>C.contains z) && C.all fun m=>(listed.getD m true == false) && (i::C).any fun p=>Region.waitsFor md ops m p)=true:=by kernel_rfl)(hy:∀ w,S w->(execOp a.eval oi).run P w=.ok (.value v) w:=by intro w a0;(try dsimp only at a0);go_simp;try with_reducible rfl)(hQ:∀ c a w,Q (.panic c) (a.put oi.dst v) w->Q (.panic c) a w:=by exact fun _ _ _ h=>h)(hw:Region.wanted oi (yielded ops a.tmps)=true:=by rfl):aDY P md ops Q S Z (fuel+1) listed a w:=
 aFU C hi hs hf hr hz hQ (Or.inl ⟨hw,hy⟩) hS h
theorem rdZ(i:Nat){fuel:Nat}{listed:Array Bool}{a:Act}{w:World}{o:Oper}(ho:ops[i]?=some o)(h:∀ K':Act->World->Prop,Shut (∀ a w,(i∈Z \/ S w)->((i∈Z \/ S w)->aDY P md ops Q S Z fuel (listed.setIfInBounds i true) a w)->K' a w)->if Region.wanted o (yielded ops a.tmps)=true then Oper.wp P o a w K' Q else K' (a.put o.dst undef) w)(hr:Region.ready md ops listed=[i]:=by kernel_rfl):aDY P md ops Q S Z (fuel+1) listed a w:=aBb hr oM (AllReadyZ.cons ho h AllReadyZ.nil)
end
theorem aTS{es:List Ed}:∀ {w:LI} {v u:Int} {k:Nat},goV es v (w.take k)=some u->k<=w.length->(k=w.length \/ ∃ x,w[k]?=some x/\aAr es u x<0)->rdA es v w=(u,k)
|[],v,u,k,h,hk,h2=>by
  obtain rfl:k=0:=by simpa using hk
  rw[List.take_nil,goV] at h;injection h with h
  subst h
  rfl
|x::t,v,u,0,h,hk,h2=>by
  rw[List.take_zero,goV] at h;injection h with h
  subst h;rcases h2 with h2|⟨y,hy,hn⟩
  .simp at h2
  .simp at hy
   subst hy;rw[rdA,if_pos hn]
|x::t,v,u,k+1,h,hk,h2=>by
  rw[List.take_succ_cons,goV] at h;split at h
  .cases h
  .rename_i hn
   have ih:=aTS (w:=t) h (by simpa using hk) (by
    rcases h2 with h2|⟨y,hy,hy2⟩
    .exact .inl (by simpa using h2)
    .exact .inr ⟨y,by simpa using hy,hy2⟩)
   rw[rdA,if_neg hn,ih]
theorem aRL{a x:Int}(ha:-9223372036854775808<=a/\a<=9223372036854775807)(hx:-9223372036854775808<=x/\x<=9223372036854775807) :
  aFg a x=true↔(x≠0/\a=wrap64 (-x)/\a≠x):=by
 rw[aJn,aHZ hx.1 hx.2];unfold negI aMc;split <;> omega
def aVE(w wr:World)(v:Value)(out:LI):Prop:=wr.ownsRow w.heap.size 3 1 v out.length (aAe out)/\Below w.heap.size w wr
theorem aBk(A:OA)(xs:LI)(c:Nat)(w:World)(B:Nat)(hr:Rs w B A (aAe xs))(hB:B<=w.heap.size)(aK:OkI xs)(hl:xs.length<=268435456) :
  Calls Tryz.prog 106 #[.slice A xs.length c] w fun e w'=>RetI 3 (red [] xs) w e w':=by
 have aF:=oH aK;clear aK;have aO:=(Below.refl w w).alloc oN (.cells #[] 3);have aU:=aAd w 3 1;go_enter Tryz.func106,Tryz.ntmps106
 go_wp2_with fail;go_loopw [3,4,5] (fun v i _ wr=>∃ k:Nat,k<=xs.length/\i=.int .i64 k/\aVE w wr v (red [] (xs.take k))) (fun _ i _ _=>xs.length - (intOf i).toNat)
 case atStart=>exact⟨0,oZ,rfl,aU,aO⟩
 obtain⟨k,hk,rfl,a0,hb⟩:=hrel;have a3:=hb.size;by_cases hlt:k<xs.length
 .obtain⟨b,ae,x,rfl, -,aE,hc⟩:=((hr.more hB).below hb).int hlt
  have aS:(k:Int)<(xs.length:Int):=by omega
  have aD:=aPO xs aE [];have aH:=aF.out x (oG aE);have a2:=aMr [] (xs.take k);rw[List.length_take,List.length_nil,Nat.zero_add] at a2;have a4:OkI (red [] (xs.take k)):=aNH fun y hy=>aF.out y (List.mem_of_mem_take hy);obtain⟨aB,aJ⟩:∃ o,o=red [] (xs.take k):=⟨_,rfl⟩
  rw[<- aJ] at a0 aD a2 a4;have aM:=oH aH;have a8:=oH aD;clear aJ aE aH aD;rcases Nat.eq_zero_or_pos aB.length with he|hp
  .obtain rfl:=List.eq_nil_of_length_eq_zero he
   clear he a4 a2;obtain⟨A1,c1,rfl, -, -⟩:=aAc a0;go_wp2_with fail;go_quiet (fail)
   go_wp2_with (at_builtin;refine aAk rfl _ _ 44 rfl w 3 (.int .i64 0) 1 8 aBo aBs rfl oD _ _ _ rfl (aBJ a0 _) 1 [x] rfl rfl (aAm [x]) (by unfold maxLen;simp) oM a3 ?n1)
   case n1=>
    intro v' w1 a1 a6 _;go_wp2_with fail;go_roundw
    case rel=>
     refine⟨k+1,oO,by go_num,?_,hb.grown (aJt a6) a3 (fun g hg=>(a0.lt g hg).1)⟩;rw[a8.out,aBT];exact a1
    simp[intOf];omega
  .obtain⟨ys,a,rfl⟩:=aMV aB hp
   have aG:=a4 a oM;rw[List.length_append] at a0 a2;simp only[List.length_cons,List.length_nil,Nat.zero_add] at a0 a2;clear hp a4;obtain⟨A1,c1,rfl,aT, -⟩:=aAc a0;obtain⟨g,rfl, -, -⟩:=aAS a0 (Nat.succ_pos _);have aY:wr.cell? ⟨g,ys.length,none⟩=some (.int .i64 a):=by
    rw[a0.cellAt ys.length oO];simp[aAe]
   have a9:=aRL aG aM.out;have HI:=oH a9;clear aG a9;obtain⟨nx,aI⟩:∃ nx,wrap64 (-x)=nx:=⟨_,rfl⟩
   have aZ:(0:Int)<(ys.length:Int)+1:=by omega
   have aa:(ys.length:Int)+1 - 1=(ys.length:Int):=by omega
   have ad:ys.length<=c1:=by omega
   by_cases hpop:aFg a x=true
   .obtain⟨h1,h2,h3⟩:=HI.out.1 hpop
    have ab:(x != 0)=true:=by simpa using h1
    have aN:(a == nx)=true:=by rw[<- aI];simpa using h2
    have aX:(a != x)=true:=by simpa using h3
    have HP:=oH hpop;clear h1 h2 h3 hpop;go_wp2_with fail;go_quiet (fail)
    go_wp2_with fail;go_roundw
    case rel=>
     refine⟨k+1,oO,by go_num,?_,by first|exact aDF hb _|exact hb⟩;rw[a8.out,aBt HP.out];have h1:=aHK a0 (Nat.le_succ ys.length);rw[Nat.mul_one,aAi,List.take_left' (aAB ys)] at h1;exact aBJ h1 _
    simp[intOf];omega
   .have aL:aFg a x=false:=by simpa using hpop
    have HP:=oH aL;have a5:(x != 0)=false \/ ((x != 0)=true/\(a == nx)=false) \/ ((x != 0)=true/\(a == nx)=true/\(a != x)=false):=by
     rw[<- aI];by_cases h1:x=0
     .left;simpa using h1
     by_cases h2:a=wrap64 (-x)
     .right;right
      refine⟨by simpa using h1,by simpa using h2,?_⟩;cases hv:(a != x) with
     |false=>rfl
     |true=>exact absurd (HI.out.2 ⟨h1,h2,by simpa using hv⟩) hpop
     right;left
     exact⟨by simpa using h1,by simpa using h2⟩
    clear hpop aL;rcases a5 with h1|⟨h1,h2⟩|⟨h1,h2,h3⟩
    .go_wp2_with fail
     go_quiet (fail)
     go_wp2_with (at_builtin;refine aAk rfl _ _ 44 rfl w 3 (.int .i64 0) 1 8 aBo aBs rfl oD _ _ _ rfl (aBJ a0 _) 1 [x] rfl rfl (aAm [x]) (by unfold maxLen;omega) oO a3 ?n2)
     case n2=>
      intro v' w1 a1 a6 _;go_wp2_with fail;go_roundw
      case rel=>
       refine⟨k+1,oO,by go_num,?_,hb.grown (aJt a6) a3 (fun g hg=>(a0.lt g hg).1)⟩;rw[a8.out,aAT HP.out,aAi,List.length_append,List.length_append];exact a1
      simp[intOf];omega
    .go_wp2_with fail
     go_quiet (fail)
     go_wp2_with (at_builtin;refine aAk rfl _ _ 44 rfl w 3 (.int .i64 0) 1 8 aBo aBs rfl oD _ _ _ rfl (aBJ a0 _) 1 [x] rfl rfl (aAm [x]) (by unfold maxLen;omega) oO a3 ?n3)
     case n3=>
      intro v' w1 a1 a6 _;go_wp2_with fail;go_roundw
      case rel=>
       refine⟨k+1,oO,by go_num,?_,hb.grown (aJt a6) a3 (fun g hg=>(a0.lt g hg).1)⟩;rw[a8.out,aAT HP.out,aAi,List.length_append,List.length_append];exact a1
      simp[intOf];omega
    .go_wp2_with fail
     go_quiet (fail)
     go_wp2_with (at_builtin;refine aAk rfl _ _ 44 rfl w 3 (.int .i64 0) 1 8 aBo aBs rfl oD _ _ _ rfl (aBJ a0 _) 1 [x] rfl rfl (aAm [x]) (by unfold maxLen;omega) oO a3 ?n4)
     case n4=>
      intro v' w1 a1 a6 _;go_wp2_with fail;go_roundw
      case rel=>
       refine⟨k+1,oO,by go_num,?_,hb.grown (aJt a6) a3 (fun g hg=>(a0.lt g hg).1)⟩;rw[a8.out,aAT HP.out,aAi,List.length_append,List.length_append];exact a1
      simp[intOf];omega
 .obtain rfl:k=xs.length:=by omega
  rw[List.take_length] at a0;have aR:=aBu xs;obtain⟨out,a7⟩:∃ o,o=red [] xs:=⟨_,rfl⟩
  rw[<- a7] at a0 aR;have HO:=oH a7;clear a7;obtain⟨A1,c1,rfl,aT, -⟩:=aAc a0;have aV:=aAd wr 3 1;have aA:(wr.alloc (.cells #[] 3)).ownsRow w 3 1 (.slice (some ⟨wr,0,none⟩) 0 0) 0 []:=aAh aV a3;have aW:Rs (wr.alloc (.cells #[] 3)) wr A1 (aAe out):=(Rs.of_own a0).alloc oN _;have aQ:(aAe out).length=out.length * 1:=by rw[aAB];omega
  go_wp2_with (at_builtin;refine aBY rfl _ _ 44 rfl w 3 (.int .i64 0) 1 8 aBo aBs rfl oD _ _ _ rfl aA A1 out.length c1 wr (aAe out) rfl aW aQ (aAm _) ?c2 ?c3 (by simp;omega) ?next)
  case c2=>unfold maxLen;omega
  case c3=>omega
  case next=>
   intro v1 w1 a1 aC _;have aP:Below w w w1:=(hb.grown (World.grownBy_alloc wr _ none) a3 (by intro g h;cases h)).grown aC (by simp;omega) (fun g hg=>(aA.lt g hg).1);go_wp2_with fail;go_ret;rw[<- HO.out];exact RetI.mk rfl (by simpa using a1) aP
end Go.Proofs.YtkimajabegojoaaGreat
