/- Lemmas. -/
import Derived.Test.YtkimajabegojoaaGreatMt4
import Derived.Test.YtkimajabegojoaaGreatMt1
import Derived.Test.YtkimajabegojoaaGreatMt2
import Derived.Test.YtkimajabegojoaaGreatMt6
import Derived.Test.YtkimajabegojoaaGreatMt5
import Derived.Test.YtkimajabegojoaaGreatMt3
namespace Go.Proofs.YtkimajabegojoaaGreat
set_option linter.unusedVariables false
set_option linter.unusedSimpArgs false
set_option maxHeartbeats 40000000
set_option maxRecDepth 100000
open Go.RowKit
theorem aJl(n:Nat)(w:World)(hn:n<=1000) :
  Calls Tryz.prog 127 #[.int .i64 n] w fun e w'=>∃ A c,e=.returned (.slice A (lets n).length c)/\w'.ownsRow w.heap.size 3 1 (.slice A (lets n).length c) (lets n).length (aAd (lets n))/\Mid 0 0 w w':=by
 have hm0:Mid 0 0 w (w.alloc (.cells #[] 3)):=Mid.alloc _ _;have O0:=aAi w 3 1;go_enter Tryz.func127,Tryz.ntmps127
 go_wp2_with fail;go_loopw [3,4] (fun out i wr=>∃(k:Nat) (A1:Option Addr) (c1 n1:Nat),k<=n/\i=.int .i64 ((k:Int)+1)/\out=.slice A1 n1 c1/\Hid ((lets k).length=n1) /\
   wr.ownsRow w.heap.size 3 1 (.slice A1 n1 c1) n1 (aAd (lets k))/\Mid 0 0 w wr/\w.heap.size<=wr.heap.size) (fun _ i _=>(n+1 - intOf i).toNat)
 case atStart=>exact⟨0,_,0,0,oZ,rfl,rfl,oH rfl,O0,hm0,hm0.size⟩
 obtain⟨k,A1,c1,n1,hk,rfl,rfl,HN,hown,hm,hsz⟩:=hrel;have hn1:n1<=2000:=by have h1:=aBL k;have h2:=HN.out;omega
 by_cases hlt:k<n
 .have hkn:(k:Int)+1<=n:=by omega
  have hk0:(0:Int)<=(k:Int):=by omega
  have b4:wrap64 (-((k:Int)+1)) = -((k:Int)+1):=by unfold wrap64;omega
  have HW:=oH hown;clear hown;go_wp2_with (first|(at_builtin;refine aAv rfl _ _ rfl w.heap.size A1 n1 c1 (lets k) rfl HW.out ((k:Int)+1) rfl (by omega) hsz ?_;intro A2 c2 w2 hown2 hm2;have hsz2:=Nat.le_trans hsz hm2.size;have HW2:=oH hown2;clear hown2)|(at_builtin;refine aAv rfl _ _ rfl w.heap.size A2 (n1+1) c2 (lets k++[(k:Int)+1]) rfl HW2.out (-((k:Int)+1)) rfl (by omega) hsz2 ?_;intro A3 c3 w3 hown3 hm3))
  go_roundw
  case rel=>
   refine⟨k+1,A3,c3,n1+1+1,by omega,by go_num,rfl,oH (by have:=HN.out;simp[lets];omega),?_,(hm.transNew hm2 (Or.inl oN)).transNew hm3 (Or.inl oN),Nat.le_trans hsz2 hm3.size⟩;rw[List.append_assoc] at hown3;exact hown3
  simp[intOf];omega
 obtain rfl:k=n:=by omega
 have hx:=HN.out;have hsz2:=hm.size;go_wp2_with fail;go_ret;exact⟨_,_,(by rw[hx];rfl),(by rw[hx];exact hown),hm⟩
def goV(es:List Ed):Int->List Int->Option Int
|v,[]=>some v
|v,x::t=>if aAe es v x<0 then none else goV es (aAe es v x) t
theorem aMR(es:List Ed):∀(a b:List Int) (v:Int),goV es v (a++b)=(goV es v a).bind fun u=>goV es u b
|[],b,v=>rfl
|x::a,b,v=>by
  rw[List.cons_append,goV,goV];split
  .rfl
  .exact aMR es a b _
theorem aTw(es:List Ed)(v x:Int):goV es v [x]=if aAe es v x<0 then none else some (aAe es v x):=by
 rw[goV]
 rfl
theorem aSh{es:List Ed}{v u x:Int}{w:List Int}{k:Nat}(h:goV es v (w.take k)=some u)(hx:w[k]?=some x)(hn:aAe es u x<0):goV es v w=none:=by
 have h1:w=w.take k++(x::w.drop (k+1)):=by rw[<- aQe w hx,List.take_append_drop]
 rw[h1,aMR,h,Option.bind_some,goV,if_pos hn]
theorem aKA{es:List Ed}{v u x:Int}{w:List Int}{k:Nat}(h:goV es v (w.take k)=some u)(hx:w[k]?=some x)(hn:¬ aAe es u x<0):goV es v (w.take (k+1))=some (aAe es u x):=by
 rw[aBu hx,aMR,h,Option.bind_some,aTw,if_neg hn]
theorem aLO(r n:Nat)(A:Option Addr)(es:List Ed)(c:Nat)(v:Int)(Aw:Option Addr)(wd:List Int)(cw:Nat)(w:World)(lo hi lo' hi':Nat)(hr:RG w lo hi A es)(hw:RV w lo' hi' Aw (aAd wd))(hg:IsGr r n es)(hwl:wd.length<=1048576)(hok:OkI wd) :
  Calls Tryz.prog 201 #[aAw r n A es.length c,.int .i64 v,.slice Aw wd.length cw] w fun e w'=>∃(u:Int) (k:Nat),e=.returned (.tuple #[.int .i64 u,.int .i64 k])/\k<=wd.length/\goV es v (wd.take k)=some u/\(k=wd.length \/ ∃ x,wd[k]?=some x/\aAe es u x<0)/\Mid 0 0 w w':=by
 have hl:=hg.len;have HGL:=oH (show ∀ e∈es,1<=e.l/\e.l<=3 from fun e he=>by have:=hg.all e he;have:=hg.rank;unfold InG at *;omega);have HG:=oH hg;have HOK:=oH hok;have hm0:Mid 0 0 w (w.alloc (.cells #[.int .i64 r,.int .i64 n,.slice A es.length c] 35)):=Mid.alloc _ _;have b0:=Box.new w #[.int .i64 r,.int .i64 n,.slice A es.length c] 35;clear hg hok;go_enter Tryz.func201,Tryz.ntmps201
 go_wp2_with fail;go_loopw [1,13] (fun vv iv wr=>∃(k:Nat) (u:Int),k<=wd.length/\iv=.int .i64 k/\vv=.int .i64 u/\Hid (goV es v (wd.take k)=some u)/\Box wr w.heap.size [.int .i64 r,.int .i64 n,.slice A es.length c]/\Mid 0 0 w wr) (fun _ i _=>wd.length - (intOf i).toNat)
 case atStart=>exact⟨0,v,oZ,rfl,rfl,oH rfl,b0,hm0⟩
 clear b0 hm0;obtain⟨k,u,hk,rfl,rfl,HV,b0,hm⟩:=hrel;obtain⟨p0,p1,p2⟩:=b0.c3 rfl;by_cases hlt:k<wd.length
 .obtain⟨B,off,x,rfl,hbh,hx,hcx⟩:=(hw.mid hm oZl).at hlt
  have hxr:=HOK.out x (List.mem_of_getElem? hx);have hk1:(k:Int)<(wd.length:Int):=by omega
  have HX:=oH hx;clear hx;go_wp2_with fail;with_reducible refine(aBc r n A es c u x _ lo hi (hr.mid hm oZl) (by omega) HGL.out (by omega) (by omega)).mono ?_
  rintro en w6 ⟨rfl,hm6⟩;replace b0:=b0.mid hm6 oZr;replace hm:=hm.trans hm6;generalize htx:aAe es u x=t;by_cases ht:t<0
  .have d1:decide (t<0)=true:=by simpa using ht
   have HN:Hid (aAe es u x<0):=oH (by rw[htx];exact ht);clear ht htx hcx p0 p1 p2;go_wp2_with fail;go_ret2;exact⟨u,k,rfl,hk,HV.out,.inr ⟨x,HX.out,HN.out⟩,hm⟩
  have d1:decide (t<0)=false:=by simpa using ht
  have HN:=oH (aKA HV.out HX.out (by rw[htx];exact ht));rw[htx] at HN;clear ht htx hcx p0 p1 p2;go_wp2_with fail;go_roundw
  case rel=>exact⟨k+1,t,by omega,by go_num,rfl,HN,b0,hm⟩
  simp[intOf];omega
 obtain rfl:k=wd.length:=by omega
 go_wp2_with fail;go_ret2;exact⟨u,wd.length,rfl,oN,HV.out,.inl rfl,hm⟩
theorem aEI(r n v:Nat)(A:Option Addr)(es:List Ed)(c:Nat)(Aw:Option Addr)(wd:List Int)(cw:Nat)(w:World)(lo hi lo' hi':Nat)(hr:RG w lo hi A es)(hw:RV w lo' hi' Aw (aAd wd))(hf:IsFol r n es)(hv:v<n)(hwl:wd.length<=1048576)(hok:OkI wd) :
  Calls Tryz.prog 128 #[aAw r n A es.length c,.int .i64 v,.slice Aw wd.length cw] w fun e w'=>∃(u:Int) (b:Bool),e=.returned (.tuple #[.int .i64 u,.bool b])/\(b=true->goV es v wd=some u)/\(b=false->goV es v wd=none)/\Mid 0 0 w w':=by
 have hg:=hf.gr;have hl:=hg.len;have hn40:n<=40:=by have:=hg.size;omega
 have HGL:=oH (show ∀ e∈es,1<=e.l/\e.l<=3 from fun e he=>by have:=hg.all e he;have:=hg.rank;unfold InG at *;omega);have HF:=oH hf;have HOK:=oH hok;have hm0:Mid 0 0 w (w.alloc (.cells #[.int .i64 r,.int .i64 n,.slice A es.length c] 35)):=Mid.alloc _ _;have b0:=Box.new w #[.int .i64 r,.int .i64 n,.slice A es.length c] 35;have hib:inB (v:Int) 0 ((n:Int) - 1)=true:=by unfold inB;simp;omega
 clear hg hok hf;go_enter Tryz.func128,Tryz.ntmps128
 go_wp2_with fail;with_reducible refine(aAT r n A es c _ _ _ (hr.mid hm0 oZl) (by omega) true (iff_of_true rfl HF.out)).mono ?_
 rintro en w1 ⟨rfl,hm1⟩;replace b0:=b0.mid hm1 oZr;replace hm0:=hm0.trans hm1;obtain⟨p0,p1,p2⟩:=b0.c3 rfl;go_wp2_with fail;with_reducible refine(aBJ hib _).mono ?_
 rintro en w2 ⟨rfl,rfl⟩;go_wp2_with fail;clear p0 p1 p2 hm1;go_loopw [1,8] (fun vv iv wr=>∃(k:Nat) (u:Int),k<=wd.length/\iv=.int .i64 k/\vv=.int .i64 u/\Hid (goV es v (wd.take k)=some u)/\Box wr w.heap.size [.int .i64 r,.int .i64 n,.slice A es.length c]/\Mid 0 0 w wr) (fun _ i _=>wd.length - (intOf i).toNat)
 case atStart=>exact⟨0,v,oZ,rfl,rfl,oH rfl,b0,hm0⟩
 clear b0 hm0;obtain⟨k,u,hk,rfl,rfl,HV,b0,hm⟩:=hrel;by_cases hlt:k<wd.length
 .obtain⟨B,off,x,rfl,hbh,hx,hcx⟩:=(hw.mid hm oZl).at hlt
  have hxr:=HOK.out x (List.mem_of_getElem? hx);have hk1:(k:Int)<(wd.length:Int):=by omega
  have hk0:(0:Int)<=(k:Int):=by omega
  have HX:=oH hx;have hBs:B<wr.heap.size:=by have:=hw.1;have:=hm.size;omega
  have k0:=aAb b0.1 (b0.cell 0 rfl);have k1:=aAb b0.1 (b0.cell 1 rfl);have k2:=aAb b0.1 (b0.cell 2 rfl);have k4:=aAb hBs hcx;have hA:=fun m os=>aAz r n A es c u x (wg wr m os) lo hi (hr.mid (hm.trans (Mid.ofWg wr m os)) oZl) (by omega) HGL.out (by omega) (by omega);clear hx hcx;go_wp2_with fail;refine wqg ?_;repeat
   (with_reducible refine wpQuiet_step (fun K hK=>?_))
   go_simp
   first|(with_reducible refine hK _ ?_)|(rw[if_neg (by decide)];(with_reducible refine hK _ ?_))|(apply Exists.intro;refine⟨fun _=>?_,hK _ ?_⟩;((go_at_call 129;exact Calls.wg_of (hA _ _))))
   clear hK K
  with_reducible refine wpQuiet_nil ?_
  rintro _ ⟨⟨nq,osq⟩,rfl⟩;have hwg:=Mid.ofWg wr nq osq;generalize wg wr nq osq=w6 at hwg |-;replace b0:=b0.mid hwg oZr;replace hm:=hm.trans hwg;generalize htx:aAe es u x=t;clear k0 k1 k2 k4 hA;by_cases ht:t<0
  .have d1:decide (t<0)=true:=by simpa using ht
   have HN:=oH (aSh HV.out HX.out (by rw[htx];exact ht));clear ht htx;go_wp2_with fail;go_ret2;exact⟨-1,false,rfl,(fun h=>nomatch h),fun _=>HN.out,hm⟩
  have d1:decide (t<0)=false:=by simpa using ht
  have HN:=oH (aKA HV.out HX.out (by rw[htx];exact ht));rw[htx] at HN;clear ht htx;go_wp2_with fail;go_roundw
  case rel=>exact⟨k+1,t,by omega,by go_num,rfl,HN,b0,hm⟩
  simp[intOf];omega
 obtain rfl:k=wd.length:=by omega
 rw[List.take_length] at HV;go_wp2_with fail;go_ret2;exact⟨u,true,rfl,fun _=>HV.out,(fun h=>nomatch h),hm⟩
section
open Go.RowKit
section
variable {P:Program} {ops:Array Oper} {Q:Exit->Act->World->Prop} {md:Region.Mode} {S:World->Prop} {Z:List Nat}
def aDH(P:Program)(md:Region.Mode)(ops:Array Oper)(Q:Exit->Act->World->Prop)(S:World->Prop)(Z:List Nat):Nat->Array Bool->Act->World->Prop
|0,listed,a,w=>Region.ready md ops listed=[]/\Q .normal a w
|fuel+1,listed,a,w=>
  (Region.ready md ops listed=[]->Q .normal a w) /\
  ∀ i∈Region.ready md ops listed,wpOp P ops Q i (fun a' w'=>(i∈Z \/ S w')/\aDH P md ops Q S Z fuel (listed.setIfInBounds i true) a' w') a w
theorem aKo:∀(fuel:Nat) (listed:Array Bool) (a:Act) (w:World),aDH P md ops Q S Z fuel listed a w->wpAny P md ops Q fuel listed a w
|0,_,_,_,h=>h
|fuel+1,_,_,_,h=>⟨h.1,fun i hi=>wpOp_mono (fun a' w' h'=>aKo fuel _ a' w' h'.2) (h.2 i hi)⟩
theorem aQQ{z i:Nat}{listed:Array Bool}(hz:Region.waitsFor md ops z i=true)(hun:listed.getD i true=false):z ∉ Region.ready md ops listed:=by
 intro hr;obtain⟨-,oz,hoz,hall⟩:=mem_ready.1 hr;obtain⟨oz',hoz',e,he,hb,hon⟩:=Region.waitsFor_spec hz;obtain rfl:oz'=oz:=Option.some.inj (hoz'.symm.trans hoz);have h1:=hall e he hb;rw[hon,getD_both hun] at h1;cases h1
theorem aQP{i m:Nat}{C:List Nat}{listed:Array Bool}(hC:∀ m∈C,listed.getD m true=false/\∃ p∈i::C,Region.waitsFor md ops m p=true)(hi:listed.getD i true=false)(hm:m∈C):m ∉ Region.ready md ops listed:=by
 obtain⟨-,p,hp,hw⟩:=hC m hm;have hun:listed.getD p true=false:=by
  rcases List.mem_cons.1 hp with rfl|hp
  .exact hi
  exact(hC p hp).1
 exact aQQ hw hun
theorem aLk{i:Nat}{oi:Oper}{v:Value}{C:List Nat}(hi:ops[i]?=some oi)(hsel:∀(j:Nat) (o:Oper) cs b,ops[j]?=some o->o.op≠.select cs b)(hQ:∀ c a w,Q (.panic c) (a.put oi.dst v) w->Q (.panic c) a w)(hZC:∀ z∈Z,z∈C) :
  ∀(fuel:Nat) (listed:Array Bool) (a:Act) (w:World),
   (∀ j oj,ops[j]?=some oj->j≠i->listed.getD j true=false->(∀ e∈oj.after,Region.binds md e=true->e.on≠i)->oi.apart ops oj=true) ->
   (∀ m∈C,listed.getD m true=false/\∃ p∈i::C,Region.waitsFor md ops m p=true) ->
   i∈Region.ready md ops listed->YieldsIf P ops S oi v a->S w ->
   aDH P md ops Q S Z fuel (listed.setIfInBounds i true) (a.put oi.dst v) w->aDH P md ops Q S Z (fuel+1) listed a w:=by
 intro fuel
 induction fuel with
|zero=>
  intro listed a w _ _ hr hy hS H;refine⟨fun h=>(by rw[h] at hr;cases hr),fun j hj=>?_⟩;by_cases hji:j=i
  .subst hji;exact hy.wpOp hi hS ⟨.inr hS,H⟩
  have:=ready_mono hj hji;rw[H.1] at this;cases this
|succ fuel ih=>
  intro listed a w hfree hC hr hy hS H;refine⟨fun h=>(by rw[h] at hr;cases hr),fun j hj=>?_⟩;by_cases hji:j=i
  .subst hji;exact hy.wpOp hi hS ⟨.inr hS,H⟩
  have hjC:j ∉ C:=fun e=>aQP hC (mem_ready.1 hr).1 e hj;have hjz:j ∉ Z:=fun e=>hjC (hZC j e);have h1:=H.2 j (ready_mono hj hji);obtain⟨hjun,oj,hoj,hall⟩:=mem_ready.1 hj;have hnot:∀ e∈oj.after,Region.binds md e=true->e.on≠i:=fun e he hb heq=>by
   have h1:=hall e he hb;have h0:=(mem_ready.1 hr).1;rw[heq] at h1;rcases Nat.lt_or_ge i listed.size with h'|h'
   .simp[h'] at h0 h1;rw[h0] at h1;cases h1
   .simp[Array.getElem?_eq_none h'] at h1
  have h2:=wpOp_putIf hoj (hfree j oj hoj hji hjun hnot) (fun cs b=>hsel i oi cs b hi) (fun cs b=>hsel j oj cs b hoj) hQ hy h1;have hfree':∀ k ok,ops[k]?=some ok->k≠i->(listed.setIfInBounds j true).getD k true=false ->
    (∀ e∈ok.after,Region.binds md e=true->e.on≠i)->oi.apart ops ok=true:=fun k ok hk hki hun hno=>by
   refine hfree k ok hk hki ?_ hno;by_cases hjk:j=k
   .subst hjk;exact hjun
   .rw[getD_set_ne true hjk] at hun;exact hun
  have hC':∀ m∈C,(listed.setIfInBounds j true).getD m true=false/\∃ p∈i::C,Region.waitsFor md ops m p=true:=fun m hm=>by
   refine⟨?_,(hC m hm).2⟩;have hjm:j≠m:=fun e=>hjC (e ▸ hm);rw[getD_set_ne true hjm];exact(hC m hm).1
  refine wpOp_mono (fun a' w' h3=>?_) h2;have hS':S w':=h3.2.1.resolve_left hjz;refine⟨.inr hS',ih (listed.setIfInBounds j true) a' w' hfree' hC' (ready_mono hr (Ne.symm hji)) h3.1 hS' ?_⟩;rw[Array.setIfInBounds_comm _ _ hji];exact h3.2.2
theorem aAq(C:List Nat){i:Nat}{oi:Oper}{v:Value}{fuel:Nat}{listed:Array Bool}{a:Act}{w:World}(hi:ops[i]?=some oi)(hs:Region.noSelect ops=true)(hf:Region.free md ops listed i=true)(hr:(Region.ready md ops listed).contains i=true)(hz:((Z.all fun z=>C.contains z) && C.all fun m=>(listed.getD m true == false) && (i::C).any fun p=>Region.waitsFor md ops m p)=true)(hQ:∀ c a w,Q (.panic c) (a.put oi.dst v) w->Q (.panic c) a w)(hy:YieldsIf P ops S oi v a)(hS:S w)(h:aDH P md ops Q S Z fuel (listed.setIfInBounds i true) (a.put oi.dst v) w):aDH P md ops Q S Z (fuel+1) listed a w:=by
 rw[Bool.and_eq_true] at hz;refine aLk hi (Region.noSelect_spec hs) hQ (C:=C) (fun z hzm=>by simpa using List.all_eq_true.1 hz.1 z hzm) fuel listed a w (Region.free_spec hi hf) (fun m hm=>?_) (by simpa using hr) hy hS h;have:=List.all_eq_true.1 hz.2 m hm;rw[Bool.and_eq_true] at this;refine⟨by simpa using this.1,?_⟩;obtain⟨p,hp,hw⟩:=List.any_eq_true.1 this.2;exact⟨p,hp,hw⟩
def AllReadyZ(P:Program)(md:Region.Mode)(ops:Array Oper)(Q:Exit->Act->World->Prop)(S:World->Prop)(Z:List Nat)(fuel:Nat)(listed:Array Bool)(a:Act)(w:World)(rs:List Nat):Prop:=
 ∀ i∈rs,wpOp P ops Q i (fun a' w'=>(i∈Z \/ S w')/\aDH P md ops Q S Z fuel (listed.setIfInBounds i true) a' w') a w
theorem AllReadyZ.nil{fuel:Nat}{listed:Array Bool}{a:Act}{w:World}:AllReadyZ P md ops Q S Z fuel listed a w []:=fun _ h=>by cases h
theorem AllReadyZ.cons{fuel:Nat}{listed:Array Bool}{a:Act}{w:World}{i:Nat}{o:Oper}{rs:List Nat}(ho:ops[i]?=some o)(h:∀ K':Act->World->Prop,Shut (∀ a w,(i∈Z \/ S w)->((i∈Z \/ S w)->aDH P md ops Q S Z fuel (listed.setIfInBounds i true) a w)->K' a w)->if Region.wanted o (yielded ops a.tmps)=true then Oper.wp P o a w K' Q else K' (a.put o.dst undef) w)(hs:AllReadyZ P md ops Q S Z fuel listed a w rs):AllReadyZ P md ops Q S Z fuel listed a w (i::rs):=fun j hj=>by
 rcases List.mem_cons.1 hj with rfl|hj
 .exact wpOp_step ho (fun K' hK=>h K' (fun a w hS hW=>hK a w ⟨hS,hW hS⟩))
 .exact hs j hj
theorem aAW{rs:List Nat}{fuel:Nat}{listed:Array Bool}{a:Act}{w:World}(hr:Region.ready md ops listed=rs)(hne:rs≠[])(h:AllReadyZ P md ops Q S Z fuel listed a w rs):aDH P md ops Q S Z (fuel+1) listed a w:=
 ⟨fun h0=>absurd (hr.symm.trans h0) hne,fun i hi=>h i (hr ▸ hi)⟩
theorem aAh{listed:Array Bool}{a:Act}{w:World}(hr:Region.ready md ops listed=[])(h:Q .normal a w):∀ fuel,aDH P md ops Q S Z fuel listed a w
|0=>⟨hr,h⟩
|_+1=>⟨fun _=>h,by rw[hr];simp⟩
theorem aAl{id:Nat}{a:Act}{w:World}(Z:List Nat)(hm:P.follows .mixedOrders=true)(hS:S w.drew)(h:aDH P .any ops Q S Z ops.size (Array.replicate ops.size false) a w.drew):(Code.region id ops true).wp P Q a w:=
 wp_region_any hm (aKo _ _ _ _ h)
end
end
section
variable {P:Program} {ops:Array Oper} {Q:Exit->Act->World->Prop} {md:Region.Mode} {S:World->Prop} {Z:List Nat}
theorem tkZ(C:List Nat)(i:Nat){oi:Oper}{v:Value}{fuel:Nat}{listed:Array Bool}{a:Act}{w:World}(hi:ops[i]?=some oi)(hS:S w)(h:aDH P md ops Q S Z fuel (listed.setIfInBounds i true) (a.put oi.dst v) w)(hs:Region.noSelect ops=true:=by kernel_rfl)(hf:Region.free md ops listed i=true:=by kernel_rfl)(hr:(Region.ready md ops listed).contains i=true:=by kernel_rfl)(hz:((Z.all fun z=>C.contains z) && C.all fun m=>(listed.getD m true == false) && (i::C).any fun p=>Region.waitsFor md ops m p)=true:=by kernel_rfl)(hy:∀ w,S w->(execOp a.eval oi).run P w=.ok (.value v) w:=by intro w hSw;(try dsimp only at hSw);go_simp;try with_reducible rfl)(hQ:∀ c a w,Q (.panic c) (a.put oi.dst v) w->Q (.panic c) a w:=by exact fun _ _ _ h=>h)(hw:Region.wanted oi (yielded ops a.tmps)=true:=by rfl):aDH P md ops Q S Z (fuel+1) listed a w:=
 aAq C hi hs hf hr hz hQ (Or.inl ⟨hw,hy⟩) hS h
theorem rdZ(i:Nat){fuel:Nat}{listed:Array Bool}{a:Act}{w:World}{o:Oper}(ho:ops[i]?=some o)(h:∀ K':Act->World->Prop,Shut (∀ a w,(i∈Z \/ S w)->((i∈Z \/ S w)->aDH P md ops Q S Z fuel (listed.setIfInBounds i true) a w)->K' a w)->if Region.wanted o (yielded ops a.tmps)=true then Oper.wp P o a w K' Q else K' (a.put o.dst undef) w)(hr:Region.ready md ops listed=[i]:=by kernel_rfl):aDH P md ops Q S Z (fuel+1) listed a w:=aAW hr (by simp) (AllReadyZ.cons ho h AllReadyZ.nil)
end
theorem aMk{es:List Ed}:∀ {w:List Int} {v u:Int} {k:Nat},goV es v (w.take k)=some u->k<=w.length->(k=w.length \/ ∃ x,w[k]?=some x/\aAe es u x<0)->rdA es v w=(u,k)
|[],v,u,k,h,hk,h2=>by
  obtain rfl:k=0:=by simpa using hk
  rw[List.take_nil,goV] at h;injection h with h
  subst h
  rfl
|x::t,v,u,0,h,hk,h2=>by
  rw[List.take_zero,goV] at h;injection h with h
  subst h;rcases h2 with h2|⟨y,hy,hn⟩
  .simp at h2
  .simp at hy
   subst hy;rw[rdA,if_pos hn]
|x::t,v,u,k+1,h,hk,h2=>by
  rw[List.take_succ_cons,goV] at h;split at h
  .cases h
  .rename_i hn
   have ih:=aMk (w:=t) h (by simpa using hk) (by
    rcases h2 with h2|⟨y,hy,hy2⟩
    .exact .inl (by simpa using h2)
    .exact .inr ⟨y,by simpa using hy,hy2⟩)
   rw[rdA,if_neg hn,ih]
theorem aQo{es:List Ed}:∀(w:List Int) (v:Int),goV es v (w.take (rdA es v w).2)=some (rdA es v w).1
|[],v=>rfl
|x::t,v=>by
  by_cases hn:aAe es v x<0
  .rw[rdA,if_pos hn]
   rfl
  .rw[rdA,if_neg hn]
   simp only[List.take_succ_cons,goV,if_neg hn];exact aQo t _
theorem RV.dropI{w:World}{lo hi b off:Nat}{xs:List Int}(h:RV w lo hi (some ⟨b,off,none⟩) (aAd xs))(k:Nat):RV w lo hi (some ⟨b,off+k,none⟩) (aAd (xs.drop k)):=by
 refine⟨h.1,fun hn=>?_⟩;obtain⟨b',off',hA,h1,h2,h3⟩:=h.2 (by intro h0;apply hn;simp[aAd] at h0 |-;rw[h0];simp);injection hA with hA
 injection hA with e1 e2
 subst e1 e2;refine⟨b,off+k,rfl,h1,h2,fun j u hu=>?_⟩;have:=h3 (k+j) u (by
  simp only[aAd,List.getElem?_map,List.getElem?_drop] at hu |-;exact hu)
 rw[Nat.add_assoc];exact this
theorem aJj(r n v:Nat)(A:Option Addr)(es:List Ed)(c:Nat)(Aw:Option Addr)(wd:List Int)(cw:Nat)(w:World)(lo hi lo' hi':Nat)(hr:RG w lo hi A es)(hw:RV w lo' hi' Aw (aAd wd))(hf:IsFol r n es)(hv:v<n)(hwl:wd.length<=1048576)(hok:OkI wd) :
  Calls Tryz.prog 209 #[aAw r n A es.length c,.int .i64 v,.slice Aw wd.length cw] w fun e w'=>e=.returned (.int .i64 ((rdA es v wd).2:Nat))/\Mid 0 0 w w':=by
 have hg:=hf.gr;have hl:=hg.len;have hn40:n<=40:=by have:=hg.size;omega
 have HGL:=oH (show ∀ e∈es,1<=e.l/\e.l<=3 from fun e he=>by have:=hg.all e he;have:=hg.rank;unfold InG at *;omega);have HF:=oH hf;have HOK:=oH hok;have hm0:Mid 0 0 w (w.alloc (.cells #[.int .i64 r,.int .i64 n,.slice A es.length c] 35)):=Mid.alloc _ _;have b0:=Box.new w #[.int .i64 r,.int .i64 n,.slice A es.length c] 35;have hib:inB (v:Int) 0 ((n:Int) - 1)=true:=by unfold inB;simp;omega
 have hw1:IntKind.i64.wrap ((n:Int) - 1)=(n:Int) - 1:=IntWalk.i64_in _ (by omega);obtain⟨kk,hkk⟩:∃ kk,(rdA es (v:Int) wd).2=kk:=⟨_,rfl⟩
 have HKK:=oH hkk;rw[hkk];clear hg hok hf hkk;go_enter Tryz.func209,Tryz.ntmps209
 go_wp2_with fail;with_reducible refine(aAT r n A es c _ _ _ (hr.mid hm0 oZl) (by omega) true (iff_of_true rfl HF.out)).mono ?_
 rintro en w1 ⟨rfl,hm1⟩;replace b0:=b0.mid hm1 oZr;replace hm0:=hm0.trans hm1;obtain⟨p0,p1,p2⟩:=b0.c3 rfl;go_wp2_with fail;with_reducible refine(aBJ hib _).mono ?_
 rintro en w2 ⟨rfl,rfl⟩;go_wp2_with fail;clear p0 p1 p2 hm1;go_loopw [1,7] (fun vv iv wr=>∃(k:Nat) (u:Int),k<=wd.length/\iv=.int .i64 k/\vv=.int .i64 u/\Hid (goV es v (wd.take k)=some u)/\Box wr w.heap.size [.int .i64 r,.int .i64 n,.slice A es.length c]/\Mid 0 0 w wr) (fun _ i _=>wd.length - (intOf i).toNat)
 case atStart=>exact⟨0,v,oZ,rfl,rfl,oH rfl,b0,hm0⟩
 clear b0 hm0;obtain⟨k,u,hk,rfl,rfl,HV,b0,hm⟩:=hrel;by_cases hlt:k<wd.length
 .obtain⟨B,off,x,rfl,hbh,hx,hcx⟩:=(hw.mid hm oZl).at hlt
  have hxr:=HOK.out x (List.mem_of_getElem? hx);have hk1:(k:Int)<(wd.length:Int):=by omega
  have hk0:(0:Int)<=(k:Int):=by omega
  have HX:=oH hx;have hBs:B<wr.heap.size:=by have:=hw.1;have:=hm.size;omega
  have k0:=aAb b0.1 (b0.cell 0 rfl);have k1:=aAb b0.1 (b0.cell 1 rfl);have k2:=aAb b0.1 (b0.cell 2 rfl);have k4:=aAb hBs hcx;have hA:=fun m os=>aAz r n A es c u x (wg wr m os) lo hi (hr.mid (hm.trans (Mid.ofWg wr m os)) oZl) (by omega) HGL.out (by omega) (by omega);clear hx hcx;go_wp2_with fail;refine wqg ?_;repeat
   (with_reducible refine wpQuiet_step (fun K hK=>?_))
   go_simp
   first|(with_reducible refine hK _ ?_)|(rw[if_neg (by decide)];(with_reducible refine hK _ ?_))|(apply Exists.intro;refine⟨fun _=>?_,hK _ ?_⟩;((go_at_call 129;exact Calls.wg_of (hA _ _))))
   clear hK K
  with_reducible refine wpQuiet_nil ?_
  rintro _ ⟨⟨nq,osq⟩,rfl⟩;have hwg:=Mid.ofWg wr nq osq;generalize wg wr nq osq=w6 at hwg |-;replace b0:=b0.mid hwg oZr;replace hm:=hm.trans hwg;generalize htx:aAe es u x=t;clear k0 k1 k2 k4 hA;by_cases ht:t<0
  .have d1:decide (t<0)=true:=by simpa using ht
   have hfin:=aMk HV.out hk (.inr ⟨x,HX.out,by rw[htx];exact ht⟩);have HK:Hid (kk=k):=oH (by rw[<- HKK.out,hfin]);clear ht htx hfin;go_wp2_with fail;go_ret;exact⟨by rw[HK.out];rfl,hm⟩
  have d1:decide (t<0)=false:=by simpa using ht
  have HN:=oH (aKA HV.out HX.out (by rw[htx];exact ht));rw[htx] at HN;clear ht htx;go_wp2_with fail;go_roundw
  case rel=>exact⟨k+1,t,by omega,by go_num,rfl,HN,b0,hm⟩
  simp[intOf];omega
 obtain rfl:k=wd.length:=by omega
 have hfin:=aMk HV.out hk (.inl rfl);have HK:Hid (kk=wd.length):=oH (by rw[<- HKK.out,hfin]);clear hfin;go_wp2_with fail;go_ret;exact⟨by rw[HK.out];rfl,hm⟩
theorem aPH{w:World}:RG w 0 w.heap.size none []:=⟨oN,fun h=>absurd rfl h⟩
theorem ExtIs.full{r s:Int}{es:List Ed}{w:List Int}{b:Bool}{s2:Int}{es2:List Ed}{x:Int}(h:ExtIs r s es w b s2 es2 x)(hk:(rdA es 0 w).2=w.length):b=true/\s2=s/\es2=es/\x=(rdA es 0 w).1:=by
 rcases h with⟨h1, -,h2⟩|⟨-,h1, -⟩|⟨-,h1, -⟩
 .exact⟨h1,h2⟩
 .omega
 omega
theorem ExtIs.more{r s:Int}{es:List Ed}{w:List Int}{b:Bool}{s2:Int}{es2:List Ed}{x:Int}(h:ExtIs r s es w b s2 es2 x)(hk:(rdA es 0 w).2<w.length)(hp:s<40/\PathOk r (s+1) es (rdA es 0 w).1 (w.drop (rdA es 0 w).2) s) :
  b=true/\s2=s+1+((w.drop (rdA es 0 w).2).length:Int) - 1/\es2=canon (es++aDw (rdA es 0 w).1 (s+1) (w.drop (rdA es 0 w).2) s (w.drop (rdA es 0 w).2).length)/\x=s:=by
 rcases h with⟨-,h1, -⟩|⟨h1, -, -, -,h2⟩|⟨-, -,h1, -⟩
 .omega
 .exact⟨h1,h2⟩
 exact absurd hp h1
theorem ExtIs.not{r s:Int}{es:List Ed}{w:List Int}{b:Bool}{s2:Int}{es2:List Ed}{x:Int}(h:ExtIs r s es w b s2 es2 x)(hk:(rdA es 0 w).2<w.length)(hp:¬ (s<40/\PathOk r (s+1) es (rdA es 0 w).1 (w.drop (rdA es 0 w).2) s)) :
  b=false/\s2=0/\es2=[]/\x=0:=by
 rcases h with⟨-,h1, -⟩|⟨-, -,h1,h2, -⟩|⟨h1, -, -,h2⟩
 .omega
 .exact absurd ⟨h1,h2⟩ hp
 exact⟨h1,h2⟩
theorem aMV(r n:Nat)(A:Option Addr)(es:List Ed)(c:Nat)(Aw:Option Addr)(wd:List Int)(cw:Nat)(w:World)(lo hi lo' hi':Nat)(hr:RG w lo hi A es)(hw:RV w lo' hi' Aw (aAd wd))(hcl:es.length<=c)(hcw:wd.length<=cw)(hg:IsGr r n es)(hwl:wd.length<=1048576)(hok:OkI wd)(b:Bool)(s2:Int)(es2:List Ed)(x:Int)(hres:ExtIs r n es wd b s2 es2 x) :
  Calls Tryz.prog 207 #[aAw r n A es.length c,.slice Aw wd.length cw] w fun e w'=>∃(A1:Option Addr) (c1:Nat) (rr:Int),e=.returned (.tuple #[aAw rr s2 A1 es2.length c1,.int .i64 x,.bool b])/\rr=(if b=true then(r:Int) else 0)/\RG w' 0 w'.heap.size A1 es2/\es2.length<=c1/\Mid 0 0 w w':=by
 have hm0:Mid 0 0 w ((w.alloc (.cells #[.int .i64 r,.int .i64 n,.slice A es.length c] 35)).alloc (.cells #[.int .i64 0,.int .i64 0,.slice none 0 0] 35)):=(Mid.alloc _ _).trans (Mid.alloc _ _);have b0:=(Box.new w #[.int .i64 r,.int .i64 n,.slice A es.length c] 35).mid (Mid.alloc _ (.cells #[.int .i64 0,.int .i64 0,.slice none 0 0] 35)) oZr;have b2:=Box.new (w.alloc (.cells #[.int .i64 r,.int .i64 n,.slice A es.length c] 35)) #[.int .i64 0,.int .i64 0,.slice none 0 0] 35;simp only[World.size_alloc] at b2;have hl:=hg.len;have hn40:1<=n/\n<=40:=by have:=hg.size;omega
 have HG:=oH hg;have HOK:=oH hok;have HR:=oH hres;clear hg hok hres;go_enter Tryz.func207,Tryz.ntmps207
 go_wp2_with fail;generalize ((w.alloc (.cells #[.int .i64 r,.int .i64 n,.slice A es.length c] 35)).alloc (.cells #[.int .i64 0,.int .i64 0,.slice none 0 0] 35))=w1 at hm0 b0 b2 |-;have hs1:w.heap.size+1<w1.heap.size:=b2.1;with_reducible refine(aLO r n A es c 0 Aw wd cw w1 _ _ _ _ (hr.mid hm0 oZl) (hw.mid hm0 oZl) HG.out hwl HOK.out).mono ?_
 rintro en w2 ⟨u,k,rfl,hk,hgo,hend,hm2⟩;have hrd:rdA es 0 wd=(u,k):=aMk hgo hk hend;have hk2:(rdA es 0 wd).2=k:=by rw[hrd]
 have hk1:(rdA es 0 wd).1=u:=by rw[hrd]
 have hu:=aOw HG.out.all wd (v:=0) (by omega);rw[hk1] at hu;have HK1:=oH hk1;have HK2:=oH hk2;clear hgo hend hrd hk1 hk2;replace b0:=b0.mid hm2 oZr;replace b2:=b2.mid hm2 oZr;replace hm0:=hm0.trans hm2;have hs2:=hm2.size;clear hm2;rcases Nat.lt_or_ge k wd.length with hlt|hge
 .have dk:((k:Int) == (wd.length:Int))=false:=by simp only[beq_eq_false_iff_ne];omega
  have hdl:(wd.drop k).length=wd.length - k:=List.length_drop;have hcase:Hid ((n<40/\PathOk r ((n:Int)+1) es u (wd.drop k) n) \/ ¬ (n<40/\PathOk r ((n:Int)+1) es u (wd.drop k) n)):=oH (Classical.em _);obtain⟨p0,p1,p2⟩:=b0.c3 rfl;go_wp2_with fail;by_cases h40:n<40
  .have hav:aUa r n es ((n:Int)+1) true:=.inl ⟨rfl,⟨HG.out,by omega⟩,rfl⟩
   with_reducible refine(aFR r n A es c w2 _ _ (hr.mid hm0 oZl) (by omega) ((n:Int)+1) true hav).mono ?_
   rintro en w4 ⟨A4,c4,rfl,ho4,hm4⟩;have hs4:=hm4.size;have ha4:=Mid.alloc w4 (.cells #[.int .i64 r,.int .i64 ((n:Int)+1),.slice A4 es.length c4] 35);have Y4:=Box.new w4 #[.int .i64 r,.int .i64 ((n:Int)+1),.slice A4 es.length c4] 35;replace b0:=b0.mid hm4 oZr;replace b2:=b2.mid hm4 oZr;replace hm0:=hm0.trans hm4;have hb4:w.heap.size+1<w4.heap.size:=b2.1;replace b0:=b0.mid ha4 oZr;replace b2:=b2.mid ha4 oZr;replace ho4:=ho4.mid ha4 oZl;replace hm0:=hm0.trans ha4;have hsa:=ha4.size;clear p0 p1 p2 ha4 hav;obtain⟨p0,p1,p2⟩:=b0.c3 rfl;go_wp2_with fail;generalize w4.alloc (.cells #[.int .i64 r,.int .i64 ((n:Int)+1),.slice A4 es.length c4] 35)=w5 at b0 b2 Y4 ho4 hm0 hsa p0 p1 p2 |-;have hG5:w4.heap.size<w5.heap.size:=Y4.1;obtain⟨rs2,res2,bb,hPI⟩:=aLo (r:Int) ((n:Int)+1) es u (wd.drop k) n;have HPI:=oH hPI;clear hPI;obtain⟨Bw,ow,rfl⟩:∃ Bw ow,Aw=some ⟨Bw,ow,none⟩:=by
    obtain⟨B,off,y,h1, -⟩:=hw.at hlt;exact⟨B,off,h1⟩
   have hmd:=Mid.drew1 w5;have hsd:=hmd.size;replace b0:=b0.mid hmd oZr;replace b2:=b2.mid hmd oZr;replace Y4:=Y4.mid hmd oZr;replace ho4:=ho4.mid hmd oZl;replace hm0:=hm0.trans hmd;clear p0 p1 p2;obtain⟨y0,y1,y2⟩:=Y4.c3 rfl;have hdo:OkI (wd.drop k):=fun q hq=>HOK.out q (List.mem_of_mem_drop hq);have hkc:k<=cw:=by omega
   have hck:¬ cw=k:=by omega
   have hP:=fun W (h1:RG W w2.heap.size w4.heap.size A4 es) (h2:RV W lo' hi' (some ⟨Bw,ow+k,none⟩) (aAd (wd.drop k)))=>aLL r ((n:Int)+1) A4 es c4 u (some ⟨Bw,ow+k,none⟩) (wd.drop k) (cw - k) n W _ _ _ _ h1 h2 (by omega) (by omega) hdo rs2 res2 bb HPI.out;rw[hdl] at hP;have HP:=oH hP;have HDO:=oH hdo;have HDL:=oH hdl;clear hP hdo hdl;refine aAl (S:=(fun w'=>w'.cell? ⟨w4.heap.size,0,none⟩=some (.int .i64 r)/\w'.cell? ⟨w4.heap.size,1,none⟩=some (.int .i64 ((n:Int)+1))/\w'.cell? ⟨w4.heap.size,2,none⟩=some (.slice A4 es.length c4))) [9,10,11] (by kernel_rfl) ⟨y0,y1,y2⟩ ?_;generalize World.drew w5=wz at b0 b2 Y4 ho4 hm0 y0 y1 y2 hsd |-;have hS:wz.cell? ⟨w4.heap.size,0,none⟩=some (.int .i64 r)/\wz.cell? ⟨w4.heap.size,1,none⟩=some (.int .i64 ((n:Int)+1))/\wz.cell? ⟨w4.heap.size,2,none⟩=some (.slice A4 es.length c4):=⟨y0,y1,y2⟩
   refine tkZ [6,7,8,9,10,11] 0 rfl hS ?_;try simp only[oP]
   refine tkZ [6,7,8,9,10,11] 1 rfl hS ?_;try simp only[oP]
   refine tkZ [4,6,7,8,9,10,11] 2 rfl hS ?_;try simp only[oP]
   refine tkZ [4,6,7,8,9,10,11] 3 rfl hS ?_;try simp only[oP]
   refine tkZ [6,7,8,9,10,11] 4 rfl hS ?_;try simp only[oP]
   refine tkZ [6,7,8,9,10,11] 5 rfl hS ?_;try simp only[oP]
   refine rdZ 6 rfl (fun K hK=>?_)
   (go_simp;(with_reducible refine(HP.out _ ho4.rg ((hw.mid hm0 oZl).dropI k)).mono ?_);rintro en w6 ⟨A6,c6,rfl,ho6,hm6⟩;have Y6:=Y4.mid hm6 oZr;go_wp2_with fail)
   refine hK.out _ _ (Or.inr (Y6.c3 rfl)) (fun _=>?_);clear hK K;try simp only[oP]
   replace b0:=b0.mid hm6 oZr;replace b2:=b2.mid hm6 oZr;replace hm0:=hm0.trans hm6;have hs6:=hm6.size;have hS6:=Y6.c3 rfl;clear Y4 hS y0 y1 y2 ho4 hm6 HP;have yf:=Y6.2.2;obtain⟨y0,y1,y2⟩:=Y6.c3 rfl;refine tkZ [8,9,10,11] 7 rfl hS6 ?_;try simp only[oP]
   refine aAW (rs:=[8,9]) (by kernel_rfl) (by simp) (AllReadyZ.cons rfl (fun K hK=>?_) (AllReadyZ.cons rfl (fun K hK=>?_) AllReadyZ.nil))
   .go_simp
    refine hK.out _ _ (Or.inr hS6) (fun _=>?_);clear hK K;try simp only[oP]
    refine aAW (rs:=[9,10]) (by kernel_rfl) (by simp) (AllReadyZ.cons rfl (fun K hK=>?_) (AllReadyZ.cons rfl (fun K hK=>?_) AllReadyZ.nil));focus
     go_simp;refine hK.out _ _ (Or.inl (by simp)) (fun _=>?_);clear hK K;try simp only[oP]
     refine rdZ 10 rfl (fun K hK=>?_)
    rotate_left
    focus
     go_simp;refine hK.out _ _ (Or.inl (by simp)) (fun _=>?_);clear hK K;try simp only[oP]
     refine rdZ 9 rfl (fun K hK=>?_)
    rotate_left
    all_goals
     go_simp;refine hK.out _ _ (Or.inl (by simp)) (fun _=>?_);clear hK K;try simp only[oP]
     refine rdZ 11 rfl (fun K hK=>?_);go_simp;refine hK.out _ _ (Or.inl (by simp)) (fun _=>?_);clear hK K;try simp only[oP]
     refine aAh (by kernel_rfl) ?_ _;have hst:=Mid.s3 w6 w4.heap.size (.int .i64 r) (.int .i64 rs2) (.slice A6 res2.length c6);have V2:=b2.mid hst (Or.inl (by omega));have Y7:=Y6.s3 (.int .i64 r) (.int .i64 rs2) (.slice A6 res2.length c6);have ho7:=ho6.mid hst (Or.inl (by omega));have hm7:=hm0.n3 w4.heap.size (by omega) (.int .i64 r) (.int .i64 rs2) (.slice A6 res2.length c6);have hc6:=ho6.cnt.1;clear Y6 yf y0 y1 y2 hS6 b0 b2 hm0 ho6 hst;generalize ((w6.setCell ⟨w4.heap.size,0,none⟩ (.int .i64 r)).setCell ⟨w4.heap.size,1,none⟩ (.int .i64 rs2)).setCell ⟨w4.heap.size,2,none⟩ (.slice A6 res2.length c6)=w7 at V2 Y7 ho7 hm7 |-;obtain⟨z0,z1,z2⟩:=V2.c3 rfl;have zf:=V2.2.2;have hpi:=HPI.out;cases bb
     .rcases hpi with⟨h, -⟩|⟨-,hno, -, -⟩
      .cases h
      obtain⟨rfl,rfl,rfl,rfl⟩:=HR.out.not (by rw[HK2.out];exact hlt) (by rw[HK1.out,HK2.out];exact fun h=>hno h.2);clear hno HR HPI;go_wp2_with fail;refine bodyPost_ret (v:=.tuple #[.agg #[.int .i64 0,.int .i64 0,.slice none 0 0],.int .i64 0,.bool false]) (by simp[results,Tryz.results207,go_sem,z0,z1,z2,zf]) rfl ⟨none,0,0,rfl,rfl,aPH,?_⟩;repeat (first|exact hm7|refine Mid.trans ?_ (Mid.alloc _ _)|refine Mid.storeNew ?_ (by simp;try omega) _)
     rcases hpi with⟨-,hok,hrs,hre⟩|⟨h, -⟩
     .obtain⟨rfl,h2,h3,rfl⟩:=HR.out.more (by rw[HK2.out];exact hlt) (by rw[HK1.out,HK2.out];exact⟨by omega,hok⟩)
      rw[HK2.out] at h2;rw[HK1.out,HK2.out] at h3;have hse:s2=rs2:=h2.trans hrs.symm;have hee:es2=res2:=h3.trans hre.symm;clear h2 h3 hrs hre hok HR HPI;subst hse;subst res2;obtain⟨y0,y1,y2⟩:=Y7.c3 rfl;go_wp2_with fail;have hcl:(w.heap.size+1 == w4.heap.size)=false:=by simp;omega
      refine bodyPost_ret (v:=.tuple #[.agg #[.int .i64 r,.int .i64 s2,.slice A6 es2.length c6],.int .i64 n,.bool true]) (by simp[results,Tryz.results207,go_sem,z0,z1,z2,zf,y0,y1,y2]) rfl ⟨A6,c6,r,rfl,rfl,?_,hc6,?_⟩
      .refine RG.wide (RG.mid ho7.rg (a:=w.heap.size) (b:=w.heap.size+2) ?_ (Or.inl (by omega))) oZ (by have:=ho7.size;simp at this |-;omega) oN
       repeat (first|exact Mid.refl _ _ _|refine Mid.stored ?_ _ (by simp;try omega) (by simp;try omega))
      repeat (first|exact hm7|refine Mid.storeNew ?_ (by simp;try omega) _)
     cases h
   go_simp;refine hK.out _ _ (Or.inl (by simp)) (fun _=>?_);clear hK K;try simp only[oP]
   refine rdZ 8 rfl (fun K hK=>?_);go_simp;refine hK.out _ _ (Or.inr hS6) (fun _=>?_);clear hK K;try simp only[oP]
   refine rdZ 10 rfl (fun K hK=>?_);go_simp;refine hK.out _ _ (Or.inl (by simp)) (fun _=>?_);clear hK K;try simp only[oP]
   refine rdZ 11 rfl (fun K hK=>?_);go_simp;refine hK.out _ _ (Or.inl (by simp)) (fun _=>?_);clear hK K;try simp only[oP]
   refine aAh (by kernel_rfl) ?_ _;have hst:=Mid.s3 w6 w4.heap.size (.int .i64 r) (.int .i64 rs2) (.slice A6 res2.length c6);have V2:=b2.mid hst (Or.inl (by omega));have Y7:=Y6.s3 (.int .i64 r) (.int .i64 rs2) (.slice A6 res2.length c6);have ho7:=ho6.mid hst (Or.inl (by omega));have hm7:=hm0.n3 w4.heap.size (by omega) (.int .i64 r) (.int .i64 rs2) (.slice A6 res2.length c6);have hc6:=ho6.cnt.1;clear Y6 yf y0 y1 y2 hS6 b0 b2 hm0 ho6 hst;generalize ((w6.setCell ⟨w4.heap.size,0,none⟩ (.int .i64 r)).setCell ⟨w4.heap.size,1,none⟩ (.int .i64 rs2)).setCell ⟨w4.heap.size,2,none⟩ (.slice A6 res2.length c6)=w7 at V2 Y7 ho7 hm7 |-;obtain⟨z0,z1,z2⟩:=V2.c3 rfl;have zf:=V2.2.2;have hpi:=HPI.out;cases bb
   .rcases hpi with⟨h, -⟩|⟨-,hno, -, -⟩
    .cases h
    obtain⟨rfl,rfl,rfl,rfl⟩:=HR.out.not (by rw[HK2.out];exact hlt) (by rw[HK1.out,HK2.out];exact fun h=>hno h.2);clear hno HR HPI;go_wp2_with fail;refine bodyPost_ret (v:=.tuple #[.agg #[.int .i64 0,.int .i64 0,.slice none 0 0],.int .i64 0,.bool false]) (by simp[results,Tryz.results207,go_sem,z0,z1,z2,zf]) rfl ⟨none,0,0,rfl,rfl,aPH,?_⟩;repeat (first|exact hm7|refine Mid.trans ?_ (Mid.alloc _ _)|refine Mid.storeNew ?_ (by simp;try omega) _)
   rcases hpi with⟨-,hok,hrs,hre⟩|⟨h, -⟩
   .obtain⟨rfl,h2,h3,rfl⟩:=HR.out.more (by rw[HK2.out];exact hlt) (by rw[HK1.out,HK2.out];exact⟨by omega,hok⟩)
    rw[HK2.out] at h2;rw[HK1.out,HK2.out] at h3;have hse:s2=rs2:=h2.trans hrs.symm;have hee:es2=res2:=h3.trans hre.symm;clear h2 h3 hrs hre hok HR HPI;subst hse;subst res2;obtain⟨y0,y1,y2⟩:=Y7.c3 rfl;go_wp2_with fail;have hcl:(w.heap.size+1 == w4.heap.size)=false:=by simp;omega
    refine bodyPost_ret (v:=.tuple #[.agg #[.int .i64 r,.int .i64 s2,.slice A6 es2.length c6],.int .i64 n,.bool true]) (by simp[results,Tryz.results207,go_sem,z0,z1,z2,zf,y0,y1,y2]) rfl ⟨A6,c6,r,rfl,rfl,?_,hc6,?_⟩
    .refine RG.wide (RG.mid ho7.rg (a:=w.heap.size) (b:=w.heap.size+2) ?_ (Or.inl (by omega))) oZ (by have:=ho7.size;simp at this |-;omega) oN
     repeat (first|exact Mid.refl _ _ _|refine Mid.stored ?_ _ (by simp;try omega) (by simp;try omega))
    repeat (first|exact hm7|refine Mid.storeNew ?_ (by simp;try omega) _)
   cases h
  obtain rfl:n=40:=by omega
  have hav:aUa r ((40:Nat):Int) es ((40:Nat):Int) false:=.inr ⟨rfl,fun h=>by have:=h.2;omega,rfl⟩;obtain⟨rfl,rfl,rfl,rfl⟩:=HR.out.not (by rw[HK2.out];exact hlt) (fun h=>by have:=h.1;omega);with_reducible refine(aFR r ((40:Nat):Int) A es c w2 _ _ (hr.mid hm0 oZl) (by omega) ((40:Nat):Int) false hav).mono ?_
  rintro en w4 ⟨A4,c4,rfl,ho4,hm4⟩;replace b2:=b2.mid hm4 oZr;replace hm0:=hm0.trans hm4;have hb23:w.heap.size+1<w4.heap.size:=b2.1;have hb22:w.heap.size<w4.heap.size:=by omega
  obtain⟨z0,z1,z2⟩:=b2.c3 rfl;have zf:=b2.2.2;clear p0 p1 p2 hav HR;go_wp2_with fail;refine bodyPost_ret (v:=.tuple #[.agg #[.int .i64 0,.int .i64 0,.slice none 0 0],.int .i64 0,.bool false]) (by simp[results,Tryz.results207,go_sem,z0,z1,z2,zf,hb22,hb23,World.cell?_alloc_lt]) rfl ⟨none,0,0,rfl,rfl,aPH,?_⟩;repeat (first|exact hm0|refine Mid.trans ?_ (Mid.alloc _ _)|refine Mid.storeNew ?_ (by simp;try omega) _)
 obtain rfl:k=wd.length:=by omega
 obtain⟨rfl,rfl,rfl,hxu⟩:=HR.out.full HK2.out;rw[HK1.out] at hxu;subst hxu;have hr2:=hr.mid hm0 oZl;obtain⟨p0,p1,p2⟩:=b0.c3 rfl;obtain⟨z0,z1,z2⟩:=b2.c3 rfl;have zf:=b2.2.2;clear HR;go_wp2_with fail;refine bodyPost_ret (v:=.tuple #[.agg #[.int .i64 r,.int .i64 n,.slice A es2.length c],.int .i64 x,.bool true]) (by simp[results,Tryz.results207,go_sem,z0,z1,z2,zf,p0,p1,p2]) rfl ⟨A,c,r,rfl,rfl,?_,hcl,?_⟩
 .refine RG.wide (RG.mid hr2 (a:=w.heap.size+1) (b:=w.heap.size+2) ?_ (Or.inr (by have:=hr.size;omega))) oZ (by have:=hr2.size;simp at this |-;omega) oN
  repeat (first|exact Mid.refl _ _ _|refine Mid.stored ?_ _ (by simp;try omega) (by simp;try omega))
 repeat (first|exact hm0|refine Mid.storeNew ?_ (by simp;try omega) _)
def CjIs(r s:Int)(es:List Ed)(wd:List Int)(rr rs:Int)(res:List Ed)(b:Bool):Prop:=
 (¬ (IsCor r s es/\IsW r wd)/\b=false/\rr=0/\rs=0/\res=[]) \/
 ((IsCor r s es/\IsW r wd)/\∃ b1 s2 es2 x,ExtIs r s es wd b1 s2 es2 x/\((b1=false/\b=false/\rr=0/\rs=0/\res=[]) \/ (b1=true/\rr=r/\MoveIs r s2 es2 x rs res b)))
theorem aTg(r s:Int)(es:List Ed)(wd:List Int):∃ rr rs res b,CjIs r s es wd rr rs res b:=by
 by_cases h:IsCor r s es/\IsW r wd
 .obtain⟨b1,s2,es2,x,he⟩:=aUo r s es wd
  cases b1
  .exact⟨_,_,_,_,.inr ⟨h,_,_,_,_,he,.inl ⟨rfl,rfl,rfl,rfl,rfl⟩⟩⟩
  obtain⟨rs,res,b,hm⟩:=aPE r s2 es2 x;exact⟨_,_,_,_,.inr ⟨h,_,_,_,_,he,.inr ⟨rfl,rfl,hm⟩⟩⟩
 exact⟨_,_,_,_,.inl ⟨h,rfl,rfl,rfl,rfl⟩⟩
theorem CjIs.lens{r s:Int}{es:List Ed}{wd:List Int}{rr rs:Int}{res:List Ed}{b:Bool}(h:CjIs r s es wd rr rs res b):res.length<=120:=by
 rcases h with⟨-, -, -, -,rfl⟩|⟨hc,b1,s2,es2,x,he,⟨-, -, -, -,rfl⟩|⟨rfl, -,hm⟩⟩
 .simp
 .simp
 have hg:=he.gr hc.1.gr;rcases hm with⟨-,hf, -,rfl⟩|⟨-, -, -,rfl⟩
 .exact(aSr hg.1 hg.2).len
 exact hg.1.len
theorem CjIs.no{r s:Int}{es:List Ed}{wd:List Int}{rr rs:Int}{res:List Ed}{b:Bool}(h:CjIs r s es wd rr rs res b)(hn:¬ (IsCor r s es/\IsW r wd)):b=false/\rr=0/\rs=0/\res=[]:=by
 rcases h with⟨-,h⟩|⟨h, -⟩
 .exact h
 exact absurd h hn
theorem CjIs.yes{r s:Int}{es:List Ed}{wd:List Int}{rr rs:Int}{res:List Ed}{b:Bool}(h:CjIs r s es wd rr rs res b)(hn:IsCor r s es/\IsW r wd) :
  ∃ b1 s2 es2 x,ExtIs r s es wd b1 s2 es2 x/\((b1=false/\b=false/\rr=0/\rs=0/\res=[]) \/ (b1=true/\rr=r/\MoveIs r s2 es2 x rs res b)):=by
 rcases h with⟨h, -⟩|⟨-,h⟩
 .exact absurd hn h
 exact h
theorem aEM(r s:Int)(A:Option Addr)(es:List Ed)(c:Nat)(Aw:Option Addr)(wd:List Int)(cw:Nat)(w:World)(lo hi lo' hi':Nat)(hr:RG w lo hi A es)(hw:RV w lo' hi' Aw (aAd wd))(hl:es.length<=1048576)(hcl:es.length<=c)(hcw:wd.length<=cw)(hwl:wd.length<=1048576)(hok:OkI wd)(rr rs:Int)(res:List Ed)(b:Bool)(hres:CjIs r s es wd rr rs res b) :
  Calls Tryz.prog 140 #[aAw r s A es.length c,.slice Aw wd.length cw] w fun e w'=>∃ A1 c1,e=.returned (.tuple #[aAw rr rs A1 res.length c1,.bool b])/\OG w' w.heap.size w'.heap.size A1 c1 res/\Mid 0 0 w w':=by
 have hm0:Mid 0 0 w ((w.alloc (.cells #[.int .i64 r,.int .i64 s,.slice A es.length c] 35)).alloc (.cells #[.int .i64 0,.int .i64 0,.slice none 0 0] 35)):=(Mid.alloc _ _).trans (Mid.alloc _ _);have b0:=(Box.new w #[.int .i64 r,.int .i64 s,.slice A es.length c] 35).mid (Mid.alloc _ (.cells #[.int .i64 0,.int .i64 0,.slice none 0 0] 35)) oZr;have b2:=Box.new (w.alloc (.cells #[.int .i64 r,.int .i64 s,.slice A es.length c] 35)) #[.int .i64 0,.int .i64 0,.slice none 0 0] 35;simp only[World.size_alloc] at b2;have HR:=oH hres;have HOK:=oH hok;clear hres hok;by_cases hc:IsCor r s es/\IsW r wd
 .obtain⟨r,n,rfl,rfl⟩:=hc.1.gr.nat
  obtain⟨b1,s2,es2,x,he,hcase⟩:=HR.out.yes hc;have HC:=oH hc.1;have HW:=oH hc.2;have HE:=oH he;have HCASE:=oH hcase;have hsz:=hc.1.gr.size;clear hc he hcase HR;go_enter Tryz.func140,Tryz.ntmps140
  go_wp2_with fail;generalize ((w.alloc (.cells #[.int .i64 r,.int .i64 n,.slice A es.length c] 35)).alloc (.cells #[.int .i64 0,.int .i64 0,.slice none 0 0] 35))=w1 at hm0 b0 b2 |-;have hs1:w.heap.size+1<w1.heap.size:=b2.1;with_reducible refine(aAt r n A es c _ _ _ (hr.mid hm0 oZl) hl hcl true (iff_of_true rfl HC.out)).mono ?_
  rintro en w2 ⟨rfl,hm2⟩;replace b0:=b0.mid hm2 oZr;replace b2:=b2.mid hm2 oZr;replace hm0:=hm0.trans hm2;have hs2:=hm2.size;obtain⟨p0,p1,p2⟩:=b0.c3 rfl;go_wp2_with fail;with_reducible refine(aGi r Aw wd cw _ _ ((hw.mid hm0 oZl).rs) HOK.out (by omega) true (iff_of_true rfl HW.out)).mono ?_
  rintro en w3 ⟨rfl,rfl⟩;go_wp2_with fail;with_reducible refine(aMV r n A es c Aw wd cw _ _ _ _ _ (hr.mid hm0 oZl) (hw.mid hm0 oZl) hcl hcw HC.out.gr hwl HOK.out b1 s2 es2 x HE.out).mono ?_
  rintro en w4 ⟨A4,c4,r4,rfl,hr4,hrg4,hc4,hm4⟩;have hs4:=hm4.size;replace b2:=b2.mid hm4 oZr;replace hm0:=hm0.trans hm4;have hb23:w.heap.size+1<w4.heap.size:=b2.1;have hb22:w.heap.size<w4.heap.size:=by omega
  clear p0 p1 p2;cases b1
  .rcases HCASE.out with⟨-,rfl,rfl,rfl,rfl⟩|⟨h, -⟩
   .have z0:=b2.cell 0 rfl
    have z1:=b2.cell 1 rfl;have z2:=b2.cell 2 rfl;have zf:=b2.2.2;clear HCASE;go_wp2_with fail;refine bodyPost_ret (v:=.tuple #[.agg #[.int .i64 0,.int .i64 0,.slice none 0 0],.bool false]) (by simp[results,Tryz.results140,go_sem,z0,z1,z2,zf,hb22,hb23,World.cell?_alloc_lt]) rfl ⟨none,0,rfl,?_,?_⟩
    .exact⟨oN,⟨rfl,.inl ⟨rfl,rfl⟩⟩,fun g hg=>by simp[Value.ownBlock] at hg⟩
    repeat (first|exact hm0|refine Mid.trans ?_ (Mid.alloc _ _)|refine Mid.storeNew ?_ (by simp;try omega) _)
   cases h
  rcases HCASE.out with⟨h, -⟩|⟨-,rfl,hmv⟩
  .cases h
  obtain rfl:r4=(r:Int):=hr4;have hgx:=HE.out.gr HC.out.gr;have HMV:=oH hmv;have HGX:=oH hgx;have hlen2:=hgx.1.len;have hxx:=hgx.1.size;have hx2:=hgx.2;have ha4:=Mid.alloc w4 (.cells #[.int .i64 r,.int .i64 s2,.slice A4 es2.length c4] 35);have Y4:=Box.new w4 #[.int .i64 r,.int .i64 s2,.slice A4 es2.length c4] 35;have hrg5:=hrg4.mid ha4 oZl;replace b2:=b2.mid ha4 oZr;replace hm0:=hm0.trans ha4;obtain⟨y0,y1,y2⟩:=Y4.c3 rfl;clear HCASE hmv hgx;go_wp2_with fail;with_reducible refine(aKG r s2 A4 es2 c4 x _ _ _ hrg5 (by omega) hc4 (by omega) rs res b HMV.out).mono ?_
  rintro en w6 ⟨A6,c6,rfl,ho6,hm6⟩;replace b2:=b2.mid hm6 oZr;replace hm0:=hm0.trans hm6;have hb6:=b2.1;obtain⟨z0,z1,z2⟩:=b2.c3 rfl;have zf:=b2.2.2;clear y0 y1 y2;go_wp2_with fail;refine bodyPost_ret (v:=.tuple #[.agg #[.int .i64 r,.int .i64 rs,.slice A6 res.length c6],.bool b]) (by simp[results,Tryz.results140,go_sem,z0,z1,z2,zf]) rfl ⟨A6,c6,rfl,?_,?_⟩
  .refine OG.wide (OG.mid ho6 (a:=w.heap.size+1) (b:=w.heap.size+2) ?_ (Or.inl (by simp;omega))) (by simp;omega) (by simp) oN
   repeat (first|exact Mid.refl _ _ _|refine Mid.stored ?_ _ (by simp;try omega) (by simp;try omega))
  repeat (first|exact hm0|refine Mid.storeNew ?_ (by simp;try omega) _)
 obtain⟨rfl,rfl,rfl,rfl⟩:=HR.out.no hc;have hcase:¬ IsCor r s es \/ (IsCor r s es/\¬ IsW r wd):=by
  by_cases h:IsCor r s es
  .exact .inr ⟨h,fun h2=>hc ⟨h,h2⟩⟩
  exact .inl h
 have HCASE:=oH hcase;clear hc hcase HR;go_enter Tryz.func140,Tryz.ntmps140
 go_wp2_with fail;generalize ((w.alloc (.cells #[.int .i64 r,.int .i64 s,.slice A es.length c] 35)).alloc (.cells #[.int .i64 0,.int .i64 0,.slice none 0 0] 35))=w1 at hm0 b0 b2 |-;rcases HCASE.out with hc|⟨hc,hwd⟩
 focus
  have HC:=oH hc;clear hc HCASE;with_reducible refine(aAt r s A es c _ _ _ (hr.mid hm0 oZl) hl hcl false (iff_of_false Bool.false_ne_true HC.out)).mono ?_
  rintro en w2 ⟨rfl,hm2⟩;replace b2:=b2.mid hm2 oZr;replace hm0:=hm0.trans hm2;obtain⟨z0,z1,z2⟩:=b2.c3 rfl;have zf:=b2.2.2
 rotate_left
 focus
  have HC:=oH hc;have HW:=oH hwd;clear hc hwd HCASE;with_reducible refine(aAt r s A es c _ _ _ (hr.mid hm0 oZl) hl hcl true (iff_of_true rfl HC.out)).mono ?_
  rintro en w2 ⟨rfl,hm2⟩;replace b0:=b0.mid hm2 oZr;replace b2:=b2.mid hm2 oZr;replace hm0:=hm0.trans hm2;obtain⟨p0,p1,p2⟩:=b0.c3 rfl;go_wp2_with fail;with_reducible refine(aGi r Aw wd cw _ _ ((hw.mid hm0 oZl).rs) HOK.out (by omega) false (iff_of_false Bool.false_ne_true HW.out)).mono ?_
  rintro en w3 ⟨rfl,rfl⟩;obtain⟨z0,z1,z2⟩:=b2.c3 rfl;have zf:=b2.2.2;clear p0 p1 p2
 rotate_left
 all_goals
  go_wp2_with fail;refine bodyPost_ret (v:=.tuple #[.agg #[.int .i64 0,.int .i64 0,.slice none 0 0],.bool false]) (by simp[results,Tryz.results140,go_sem,z0,z1,z2,zf]) rfl ⟨none,0,rfl,?_,?_⟩
  .exact⟨oN,⟨rfl,.inl ⟨rfl,rfl⟩⟩,fun g hg=>by simp[Value.ownBlock] at hg⟩
  repeat (first|exact hm0|refine Mid.trans ?_ (Mid.alloc _ _)|refine Mid.storeNew ?_ (by simp;try omega) _)
theorem RV.takeI{w:World}{lo hi:Nat}{A:Option Addr}{xs:List Int}(h:RV w lo hi A (aAd xs))(k:Nat):RV w lo hi A (aAd (xs.take k)):=by
 refine⟨h.1,fun hn=>?_⟩;obtain⟨b,off,hA,h1,h2,h3⟩:=h.2 (by intro h0;apply hn;simp[aAd] at h0 |-;right;exact h0);refine⟨b,off,hA,h1,h2,fun j u hu=>h3 j u ?_⟩;simp only[aAd,List.getElem?_map,List.getElem?_take] at hu |-;split at hu
 .exact hu
 cases hu
theorem aEO(r s:Int)(A:Option Addr)(es:List Ed)(c:Nat)(Aw:Option Addr)(wd:List Int)(cw:Nat)(w:World)(lo hi lo' hi':Nat)(hr:RG w lo hi A es)(hw:RV w lo' hi' Aw (aAd wd))(hl:es.length<=1048576)(hcl:es.length<=c)(hcw:wd.length<=cw)(hwl:wd.length<=1048576)(hok:OkI wd)(rr rs:Int)(res:List Ed)(b:Bool)(hres:CjIs r s es wd rr rs res b) :
  Calls Tryz.prog 141 #[aAw r s A es.length c,.slice Aw wd.length cw] w fun e w'=>∃ A1 c1,e=.returned (.tuple #[aAw rr rs A1 res.length c1,.bool b])/\OG w' w.heap.size w'.heap.size A1 c1 res/\Mid 0 0 w w':=by
 have hm0:Mid 0 0 w ((w.alloc (.cells #[.int .i64 r,.int .i64 s,.slice A es.length c] 35)).alloc (.cells #[.int .i64 0,.int .i64 0,.slice none 0 0] 35)):=(Mid.alloc _ _).trans (Mid.alloc _ _);have b0:=(Box.new w #[.int .i64 r,.int .i64 s,.slice A es.length c] 35).mid (Mid.alloc _ (.cells #[.int .i64 0,.int .i64 0,.slice none 0 0] 35)) oZr;have b2:=Box.new (w.alloc (.cells #[.int .i64 r,.int .i64 s,.slice A es.length c] 35)) #[.int .i64 0,.int .i64 0,.slice none 0 0] 35;simp only[World.size_alloc] at b2;have HR:=oH hres;have HOK:=oH hok;clear hres hok;by_cases hc:IsCor r s es/\IsW r wd
 .obtain⟨r,n,rfl,rfl⟩:=hc.1.gr.nat
  obtain⟨b1,s2,es2,x,he,hcase⟩:=HR.out.yes hc;have HC:=oH hc.1;have HW:=oH hc.2;have HE:=oH he;have HCASE:=oH hcase;have hsz:=hc.1.gr.size;clear hc he hcase HR;go_enter Tryz.func141,Tryz.ntmps141
  go_wp2_with fail;generalize ((w.alloc (.cells #[.int .i64 r,.int .i64 n,.slice A es.length c] 35)).alloc (.cells #[.int .i64 0,.int .i64 0,.slice none 0 0] 35))=w1 at hm0 b0 b2 |-;have hs1:w.heap.size+1<w1.heap.size:=b2.1;with_reducible refine(aAn r n A es c _ _ _ (hr.mid hm0 oZl) hl true (iff_of_true rfl HC.out)).mono ?_
  rintro en w2 ⟨rfl,hm2⟩;replace b0:=b0.mid hm2 oZr;replace b2:=b2.mid hm2 oZr;replace hm0:=hm0.trans hm2;have hs2:=hm2.size;obtain⟨p0,p1,p2⟩:=b0.c3 rfl;go_wp2_with fail;with_reducible refine(aDD r Aw wd cw _ _ ((hw.mid hm0 oZl).rs) HOK.out (by omega) true (iff_of_true rfl HW.out)).mono ?_
  rintro en w3 ⟨rfl,nd,hw3⟩;have hm3:Mid 0 0 w2 w3:=by rw[hw3];exact(Mid.refl 0 0 w2).drewN nd
  replace b0:=b0.mid hm3 oZr;replace b2:=b2.mid hm3 oZr;replace hm0:=hm0.trans hm3;have hs3:=hm3.size;clear p0 p1 p2 hw3 hm3;obtain⟨p0,p1,p2⟩:=b0.c3 rfl;go_wp2_with fail;have hn1:1<=n/\n<=40:=by omega
  have hz0:((0:Nat):Int)=0:=rfl;have hRL:=fun W h1 h2=>aJj r n 0 A es c Aw wd cw W lo hi lo' hi' h1 h2 HC.out.fol (by omega) hwl HOK.out;simp only[hz0] at hRL;obtain⟨u,k,hrd⟩:∃ u k,rdA es 0 wd=(u,k):=⟨_,_,rfl⟩
  have hk2:(rdA es 0 wd).2=k:=by rw[hrd]
  have hk1:(rdA es 0 wd).1=u:=by rw[hrd]
  have hgo:=aQo (es:=es) wd 0;have hkl:=aRx es wd 0;have hu:=aOw HC.out.gr.all wd (v:=0) (by omega);rw[hk2,hk1] at hgo;rw[hk2] at hkl;rw[hk1] at hu;simp only[hk2] at hRL;have HK1:=oH hk1;have HK2:=oH hk2;have HRL:=oH hRL;have htl:(wd.take k).length=k:=by rw[List.length_take];omega
  have hWW:∀ W,RG W lo hi A es->RV W lo' hi' Aw (aAd wd)->Calls Tryz.prog 128 #[aAw r n A es.length c,.int .i64 0,.slice Aw k cw] W fun e w'=>e=.returned (.tuple #[.int .i64 u,.bool true])/\Mid 0 0 W w':=by
   intro W h1 h2;have h3:=aEI r n 0 A es c Aw (wd.take k) cw W lo hi lo' hi' h1 (h2.takeI k) HC.out.fol (by omega) (by omega) (fun q hq=>HOK.out q (List.mem_of_mem_take hq));rw[htl] at h3;refine h3.mono ?_;rintro e w' ⟨u',b',rfl,h4,h5,h6⟩;have hz:goV es ((0:Nat):Int) (wd.take k)=some u:=hgo;cases b'
   .have:=h5 rfl
    rw[hz] at this;cases this
   have:=h4 rfl;rw[hz] at this;injection this with this
   subst this;exact⟨rfl,h6⟩
  have HWW:=oH hWW;clear hrd hk2 hk1 hgo hz0 hRL htl hWW;with_reducible refine(HRL.out _ (hr.mid hm0 oZl) (hw.mid hm0 oZl)).mono ?_
  rintro en w4 ⟨rfl,hm4⟩;replace b0:=b0.mid hm4 oZr;replace b2:=b2.mid hm4 oZr;replace hm0:=hm0.trans hm4;have hs4:=hm4.size;clear hm4 HRL p0 p1 p2;have hkc:k<=cw:=by omega
  have hkw:(k:Int)<=(wd.length:Int):=by omega
  have v0:=aAb b0.1 (b0.cell 0 rfl);have v1:=aAb b0.1 (b0.cell 1 rfl);have v2:=aAb b0.1 (b0.cell 2 rfl);have hA:∀(m:Nat) (os:Array Obj),Calls Tryz.prog 128 #[aAw r n A es.length c,.int .i64 0,.slice Aw k cw] (wg w4 m os) fun e w''=>e=.returned (.tuple #[.int .i64 u,.bool true])/\∃ q:GB,w''=wg w4 q.n q.os:=fun m os=>
   Calls.wg_of (HWW.out (wg w4 m os) (hr.mid (hm0.trans (Mid.ofWg w4 m os)) oZl) (hw.mid (hm0.trans (Mid.ofWg w4 m os)) oZl))
  go_wp2_with fail;refine wqg ?_;repeat
   (with_reducible refine wpQuiet_step (fun K hK=>?_))
   go_simp
   first|(with_reducible refine hK _ ?_)|(rw[if_neg (by decide)];(with_reducible refine hK _ ?_))|(apply Exists.intro;refine⟨fun _=>?_,hK _ ?_⟩;((go_at_call 128;with_reducible exact hA _ _)))
   clear hK K
  with_reducible refine wpQuiet_nil ?_
  rintro _ ⟨⟨nq,osq⟩,rfl⟩;have hwg:=Mid.ofWg w4 nq osq;have hs5:=hwg.size;generalize wg w4 nq osq=w5 at hwg hs5 |-;replace b0:=b0.mid hwg oZr;replace b2:=b2.mid hwg oZr;replace hm0:=hm0.trans hwg;clear v0 v1 v2 hA HWW hwg;obtain⟨p0,p1,p2⟩:=b0.c3 rfl;go_wp2_with fail;with_reducible refine(aBp r n A es c _ _ _ (hr.mid hm0 oZl) (by omega)).mono ?_
  rintro en w6 ⟨A6,c6,rfl,ho6,hm6⟩;have hs6:=hm6.size;have ha6:=Mid.alloc w6 (.cells #[.int .i64 r,.int .i64 n,.slice A6 es.length c6] 35);have Y6:=Box.new w6 #[.int .i64 r,.int .i64 n,.slice A6 es.length c6] 35;replace b0:=b0.mid hm6 oZr;replace b2:=b2.mid hm6 oZr;replace hm0:=hm0.trans hm6;replace b0:=b0.mid ha6 oZr;replace b2:=b2.mid ha6 oZr;replace ho6:=ho6.mid ha6 oZl;replace hm0:=hm0.trans ha6;have hsa:=ha6.size;clear p0 p1 p2 ha6 hm6;obtain⟨p0,p1,p2⟩:=b0.c3 rfl;rcases Nat.lt_or_ge k wd.length with hlt|hge
  .have dk:decide ((k:Int)<(wd.length:Int))=true:=by simp;omega
   have hdl:(wd.drop k).length=wd.length - k:=List.length_drop;go_wp2_with fail;generalize w6.alloc (.cells #[.int .i64 r,.int .i64 n,.slice A6 es.length c6] 35)=w7 at b0 b2 Y6 ho6 hm0 hsa p0 p1 p2 |-;have hb6:w6.heap.size<w7.heap.size:=Y6.1;by_cases h40:n<40
   .have hav:aUa r n es ((n:Int)+1) true:=.inl ⟨rfl,⟨HC.out.gr,by omega⟩,rfl⟩
    with_reducible refine(aFW r n A es c w7 _ _ (hr.mid hm0 oZl) (by omega) ((n:Int)+1) true hav).mono ?_
    rintro en w8 ⟨A8,c8,rfl,ho8,hm8⟩;have hs8:=hm8.size;have ha8:=Mid.alloc w8 (.cells #[.int .i64 r,.int .i64 ((n:Int)+1),.slice A8 es.length c8] 35);have Y8:=Box.new w8 #[.int .i64 r,.int .i64 ((n:Int)+1),.slice A8 es.length c8] 35;replace b0:=b0.mid hm8 oZr;replace b2:=b2.mid hm8 oZr;replace Y6:=Y6.mid hm8 oZr;replace hm0:=hm0.trans hm8;replace b0:=b0.mid ha8 oZr;replace b2:=b2.mid ha8 oZr;replace Y6:=Y6.mid ha8 oZr;replace ho8:=ho8.mid ha8 oZl;replace hm0:=hm0.trans ha8;have hsb:=ha8.size;clear p0 p1 p2 ha8 hm8 hav ho6;obtain⟨p0,p1,p2⟩:=b0.c3 rfl;go_wp2_with fail;generalize w8.alloc (.cells #[.int .i64 r,.int .i64 ((n:Int)+1),.slice A8 es.length c8] 35)=w9 at b0 b2 Y6 Y8 ho8 hm0 hsb p0 p1 p2 |-;have hb8:w8.heap.size<w9.heap.size:=Y8.1;obtain⟨rs2,res2,bb,hPI⟩:=aLo (r:Int) ((n:Int)+1) es u (wd.drop k) n;have HPI:=oH hPI;clear hPI;obtain⟨Bw,ow,rfl⟩:∃ Bw ow,Aw=some ⟨Bw,ow,none⟩:=by
     obtain⟨B,off,y,h1, -⟩:=hw.at hlt;exact⟨B,off,h1⟩
    have hmd:=Mid.drew1 w9;have hsd:=hmd.size;replace b0:=b0.mid hmd oZr;replace b2:=b2.mid hmd oZr;replace Y6:=Y6.mid hmd oZr;replace Y8:=Y8.mid hmd oZr;replace ho8:=ho8.mid hmd oZl;replace hm0:=hm0.trans hmd;clear p0 p1 p2;obtain⟨p0,p1,p2⟩:=b0.c3 rfl;obtain⟨y0,y1,y2⟩:=Y8.c3 rfl;have hdo:OkI (wd.drop k):=fun q hq=>HOK.out q (List.mem_of_mem_drop hq);have hck:¬ cw=k:=by omega
    have hP:=fun W (h1:RG W w7.heap.size w8.heap.size A8 es) (h2:RV W lo' hi' (some ⟨Bw,ow+k,none⟩) (aAd (wd.drop k)))=>aHP r ((n:Int)+1) A8 es c8 u (some ⟨Bw,ow+k,none⟩) (wd.drop k) (cw - k) n W _ _ _ _ h1 h2 (by omega) (by omega) hdo rs2 res2 bb HPI.out;rw[hdl] at hP;have HP:=oH hP;clear hP hdo hdl;refine aAl (S:=(fun w'=>(w'.cell? ⟨w8.heap.size,0,none⟩=some (.int .i64 r)/\w'.cell? ⟨w8.heap.size,1,none⟩=some (.int .i64 ((n:Int)+1))/\w'.cell? ⟨w8.heap.size,2,none⟩=some (.slice A8 es.length c8))/\w'.cell? ⟨w.heap.size,1,none⟩=some (.int .i64 n))) [] (by kernel_rfl) ⟨⟨y0,y1,y2⟩,p1⟩ ?_;generalize World.drew w9=wz at b0 b2 Y6 Y8 ho8 hm0 p0 p1 p2 y0 y1 y2 hsd |-;have hS:(wz.cell? ⟨w8.heap.size,0,none⟩=some (.int .i64 r)/\wz.cell? ⟨w8.heap.size,1,none⟩=some (.int .i64 ((n:Int)+1))/\wz.cell? ⟨w8.heap.size,2,none⟩=some (.slice A8 es.length c8))/\wz.cell? ⟨w.heap.size,1,none⟩=some (.int .i64 n):=⟨⟨y0,y1,y2⟩,p1⟩
    refine tkZ [] 0 rfl hS ?_;try simp only[oP]
    refine tkZ [] 1 rfl hS ?_;try simp only[oP]
    refine tkZ [] 2 rfl hS ?_;try simp only[oP]
    refine tkZ [] 3 rfl hS ?_;try simp only[oP]
    refine tkZ [] 4 rfl hS ?_;try simp only[oP]
    refine tkZ [] 5 rfl hS ?_;try simp only[oP]
    refine tkZ [] 6 rfl hS ?_;try simp only[oP]
    refine aAW (rs:=[7,11]) (by kernel_rfl) (by simp) (AllReadyZ.cons rfl (fun K hK=>?_) (AllReadyZ.cons rfl (fun K hK=>?_) AllReadyZ.nil));focus
     (go_simp;(with_reducible refine(HP.out _ ho8.rg ((hw.mid hm0 oZl).dropI k)).mono ?_);rintro en w10 ⟨A10,c10,rfl,ho10,hm10⟩;have Y80:=Y8.mid hm10 oZr;have b00:=b0.mid hm10 oZr;go_wp2_with fail)
     refine hK.out _ _ (Or.inr ⟨Y80.c3 rfl,b00.cell 1 rfl⟩) (fun _=>?_);clear hK K;try simp only[oP]
     replace b2:=b2.mid hm10 oZr;replace Y6:=Y6.mid hm10 oZr;replace hm0:=hm0.trans hm10;have hs10:=hm10.size;have hS10:=And.intro (Y80.c3 rfl) (b00.cell 1 rfl);clear Y8 hS y0 y1 y2 p0 p1 p2 ho8 b0 HP;refine tkZ [] 8 rfl hS10 ?_;try simp only[oP]
     refine tkZ [] 9 rfl hS10 ?_;try simp only[oP]
     refine tkZ [] 10 rfl hS10 ?_;try simp only[oP]
     have hal:=Mid.alloc w10 (.cells #[.int .i64 0,.int .i64 0,.slice none 0 0] 35);have Y81:=Y80.mid hal oZr;have b01:=b00.mid hal oZr;refine rdZ 11 rfl (fun K hK=>?_);go_simp;refine hK.out _ _ (Or.inr ⟨Y81.c3 rfl,b01.cell 1 rfl⟩) (fun _=>?_);clear hK K;try simp only[oP]
     clear hal Y81 b01;have hal:=Mid.alloc w10 (.cells #[.int .i64 r,.int .i64 rs2,.slice A10 res2.length c10] 35);have Y81:=Y80.mid hal oZr;have b01:=b00.mid hal oZr;refine rdZ 12 rfl (fun K hK=>?_);go_simp;refine hK.out _ _ (Or.inr ⟨Y81.c3 rfl,b01.cell 1 rfl⟩) (fun _=>?_);clear hK K;try simp only[oP]
     refine rdZ 13 rfl (fun K hK=>?_);go_simp;refine hK.out _ _ (Or.inr ⟨Y81.c3 rfl,b01.cell 1 rfl⟩) (fun _=>?_);clear hK K;try simp only[oP]
     refine aAh (by kernel_rfl) ?_ _;have Zb:=Box.new w10 #[.int .i64 r,.int .i64 rs2,.slice A10 res2.length c10] 35;have ho11:=ho10.mid hal oZl;replace b2:=b2.mid hal oZr;replace Y6:=Y6.mid hal oZr;replace hm0:=hm0.trans hal;have hlo11:w6.heap.size+1<=wz.heap.size:=by omega
     have hgz:w6.heap.size+1<=w10.heap.size:=by omega
     have hc10:=ho10.cnt.1;clear Y80 Y81 b00 hS10 hal ho10 hm10;generalize w10.alloc (.cells #[.int .i64 r,.int .i64 rs2,.slice A10 res2.length c10] 35)=w11 at b2 Y6 Zb ho11 hm0 b01 |-;generalize w10.heap.size=Gz at Zb hgz ho11 |-
    rotate_left
    focus
     have hal:=Mid.alloc wz (.cells #[.int .i64 0,.int .i64 0,.slice none 0 0] 35);have Y81:=Y8.mid hal oZr;have b01:=b0.mid hal oZr;have Zb:=Box.new wz #[.int .i64 0,.int .i64 0,.slice none 0 0] 35;have ho81:=ho8.mid hal oZl;have hsl:=hal.size;go_simp;refine hK.out _ _ (Or.inr ⟨Y81.c3 rfl,b01.cell 1 rfl⟩) (fun _=>?_);clear hK K;try simp only[oP]
     replace b2:=b2.mid hal oZr;replace Y6:=Y6.mid hal oZr;replace hm0:=hm0.trans hal;clear Y8 hS y0 y1 y2 p0 p1 p2 ho8 b0 hal;have hzb:wz.heap.size<(wz.alloc (.cells #[.int .i64 0,.int .i64 0,.slice none 0 0] 35)).heap.size:=Zb.1;generalize wz.alloc (.cells #[.int .i64 0,.int .i64 0,.slice none 0 0] 35)=wy at Y81 b01 Zb ho81 b2 Y6 hm0 hsl hzb |-;refine rdZ 7 rfl (fun K hK=>?_)
     (go_simp;(with_reducible refine(HP.out _ ho81.rg ((hw.mid hm0 oZl).dropI k)).mono ?_);rintro en w10 ⟨A10,c10,rfl,ho10,hm10⟩;have Y80:=Y81.mid hm10 oZr;have b00:=b01.mid hm10 oZr;go_wp2_with fail)
     refine hK.out _ _ (Or.inr ⟨Y80.c3 rfl,b00.cell 1 rfl⟩) (fun _=>?_);clear hK K;try simp only[oP]
     replace b2:=b2.mid hm10 oZr;replace Y6:=Y6.mid hm10 oZr;replace Zb:=Zb.mid hm10 oZr;replace hm0:=hm0.trans hm10;have hs10:=hm10.size;have hS10:=And.intro (Y80.c3 rfl) (b00.cell 1 rfl);clear Y81 b01 ho81 HP;refine tkZ [] 8 rfl hS10 ?_;try simp only[oP]
     refine tkZ [] 9 rfl hS10 ?_;try simp only[oP]
     refine tkZ [] 10 rfl hS10 ?_;try simp only[oP]
     have zzf:=Zb.2.2;obtain⟨zz0,zz1,zz2⟩:=Zb.c3 rfl;have hst:=Mid.s3 w10 wz.heap.size (.int .i64 r) (.int .i64 rs2) (.slice A10 res2.length c10);have Y82:=Y80.mid hst (Or.inl (by omega));have b02:=b00.mid hst (Or.inl (by omega));refine rdZ 12 rfl (fun K hK=>?_);go_simp;refine hK.out _ _ (Or.inr ⟨Y82.c3 rfl,b02.cell 1 rfl⟩) (fun _=>?_);clear hK K;try simp only[oP]
     refine rdZ 13 rfl (fun K hK=>?_);go_simp;refine hK.out _ _ (Or.inr ⟨Y82.c3 rfl,b02.cell 1 rfl⟩) (fun _=>?_);clear hK K;try simp only[oP]
     refine aAh (by kernel_rfl) ?_ _;have ho11:=ho10.mid hst (Or.inl (by omega));replace b2:=b2.mid hst (Or.inl (by omega));replace Y6:=Y6.mid hst (Or.inl (by omega));replace Zb:=Zb.s3 (.int .i64 r) (.int .i64 rs2) (.slice A10 res2.length c10);replace hm0:=hm0.n3 wz.heap.size (by omega) (.int .i64 r) (.int .i64 rs2) (.slice A10 res2.length c10);have hlo11:w6.heap.size+1<=wy.heap.size:=by omega
     have hgz:w6.heap.size+1<=wz.heap.size:=by omega
     have hc10:=ho10.cnt.1;have b01:=b02;clear Y80 Y82 b00 b02 hS10 hst ho10 hm10 zz0 zz1 zz2 zzf;generalize ((w10.setCell ⟨wz.heap.size,0,none⟩ (.int .i64 r)).setCell ⟨wz.heap.size,1,none⟩ (.int .i64 rs2)).setCell ⟨wz.heap.size,2,none⟩ (.slice A10 res2.length c10)=w11 at b2 Y6 Zb ho11 hm0 b01 |-;generalize wz.heap.size=Gz at Zb hgz |-
    rotate_left
    all_goals
     have hpi:=HPI.out;cases bb
     .rcases hpi with⟨h, -⟩|⟨-,hno, -, -⟩
      .cases h
      obtain⟨rfl, -, -, -⟩:=HE.out.not (by rw[HK2.out];exact hlt) (by rw[HK1.out,HK2.out];exact fun h=>hno h.2);rcases HCASE.out with⟨-,rfl,rfl,rfl,rfl⟩|⟨h, -⟩
      .have hb11:=b2.1
       obtain⟨z0,z1,z2⟩:=b2.c3 rfl;have zf:=b2.2.2;clear hno HPI HCASE HE;go_wp2_with fail;refine bodyPost_ret (v:=.tuple #[.agg #[.int .i64 0,.int .i64 0,.slice none 0 0],.bool false]) (by simp[results,Tryz.results141,go_sem,z0,z1,z2,zf]) rfl ⟨none,0,rfl,?_,?_⟩
       .exact⟨oN,⟨rfl,.inl ⟨rfl,rfl⟩⟩,fun g hg=>by simp[Value.ownBlock] at hg⟩
       repeat (first|exact hm0|refine Mid.trans ?_ (Mid.alloc _ _)|refine Mid.storeNew ?_ (by simp;try omega) _)
      cases h
     rcases hpi with⟨-,hok,hrs,hre⟩|⟨h, -⟩
     .obtain⟨rfl,h2,h3,hxn⟩:=HE.out.more (by rw[HK2.out];exact hlt) (by rw[HK1.out,HK2.out];exact⟨by omega,hok⟩)
      rw[HK2.out] at h2;rw[HK1.out,HK2.out] at h3;have hse:s2=rs2:=h2.trans hrs.symm;have hee:es2=res2:=h3.trans hre.symm;rcases HCASE.out with⟨h, -⟩|⟨-,rfl,hmv⟩
      .cases h
      rw[hse,hee,hxn] at hmv;have HMV:=oH hmv;have hgx:=HE.out.gr HC.out.gr;rw[hse,hee] at hgx;have hlen2:=hgx.1.len;have hb11:=b2.1;have hy6:=Y6.1;clear h2 h3 hrs hre hok HPI HCASE HE hmv hse hee hxn;obtain⟨q0,q1,q2⟩:=Zb.c3 rfl;have yf:=Y6.2.2;obtain⟨y0,y1,y2⟩:=Y6.c3 rfl;have p1:=b01.cell 1 rfl;have hst:=Mid.s3 w11 w6.heap.size (.int .i64 r) (.int .i64 rs2) (.slice A10 res2.length c10);have ho12:=ho11.mid hst (Or.inl (by omega));have b22:=b2.mid hst (Or.inl (by omega));have hm12:=hm0.n3 w6.heap.size (by omega) (.int .i64 r) (.int .i64 rs2) (.slice A10 res2.length c10);have hne6:(w.heap.size == w6.heap.size)=false:=by simp;omega
      go_wp2_with fail;generalize ((w11.setCell ⟨w6.heap.size,0,none⟩ (.int .i64 r)).setCell ⟨w6.heap.size,1,none⟩ (.int .i64 rs2)).setCell ⟨w6.heap.size,2,none⟩ (.slice A10 res2.length c10)=w12 at ho12 b22 hm12 |-;with_reducible refine(aHe r rs2 A10 res2 c10 n w12 _ _ ho12.rg (by omega) (by omega) rs res b HMV.out).mono ?_
      rintro en w20 ⟨A20,c20,rfl,ho20,hm20⟩;have hs20:=hm20.size;have hb12:=b22.1;replace b22:=b22.mid hm20 oZr;replace hm12:=hm12.trans hm20;have hb20:w.heap.size+1<w20.heap.size:=b22.1;have hb21:w.heap.size<w20.heap.size:=by omega
      have Y20:=Box.new w20 #[.int .i64 r,.int .i64 rs,.slice A20 res.length c20] 35;clear y0 y1 y2 q0 q1 q2 p1 yf;obtain⟨z0,z1,z2⟩:=b22.c3 rfl;obtain⟨q0,q1,q2⟩:=Y20.c3 rfl;have zf:=b22.2.2;go_wp2_with fail;refine bodyPost_ret (v:=.tuple #[.agg #[.int .i64 r,.int .i64 rs,.slice A20 res.length c20],.bool b]) (by simp[results,Tryz.results141,go_sem,z0,z1,z2,zf,q0,q1,q2,hb20,hb21,World.cell?_alloc_lt]) rfl ⟨A20,c20,rfl,?_,?_⟩
      .refine OG.wide (OG.mid ho20 (a:=w.heap.size+1) (b:=w.heap.size+2) ?_ (Or.inl (by omega))) (by omega) (by simp;try omega) oN
       repeat (first|exact Mid.refl _ _ _|refine Mid.trans ?_ (Mid.zero (Mid.alloc _ _))|refine Mid.stored ?_ _ (by simp;try omega) (by simp;try omega))
      repeat (first|exact hm12|refine Mid.trans ?_ (Mid.alloc _ _)|refine Mid.storeNew ?_ (by simp;try omega) _)
     cases h
   obtain rfl:n=40:=by omega
   have hav:aUa r ((40:Nat):Int) es ((40:Nat):Int) false:=.inr ⟨rfl,fun h=>by have:=h.2;omega,rfl⟩;obtain⟨rfl, -, -, -⟩:=HE.out.not (by rw[HK2.out];exact hlt) (fun h=>by have:=h.1;omega);rcases HCASE.out with⟨-,rfl,rfl,rfl,rfl⟩|⟨h, -⟩
   .with_reducible refine(aFW r ((40:Nat):Int) A es c w7 _ _ (hr.mid hm0 oZl) (by omega) ((40:Nat):Int) false hav).mono ?_
    rintro en w8 ⟨A8,c8,rfl,ho8,hm8⟩;replace b2:=b2.mid hm8 oZr;replace hm0:=hm0.trans hm8;have hb23:w.heap.size+1<w8.heap.size:=b2.1;have hb22:w.heap.size<w8.heap.size:=by omega
    obtain⟨z0,z1,z2⟩:=b2.c3 rfl;have zf:=b2.2.2;clear p0 p1 p2 hav HCASE HE;go_wp2_with fail;refine bodyPost_ret (v:=.tuple #[.agg #[.int .i64 0,.int .i64 0,.slice none 0 0],.bool false]) (by simp[results,Tryz.results141,go_sem,z0,z1,z2,zf,hb22,hb23,World.cell?_alloc_lt]) rfl ⟨none,0,rfl,?_,?_⟩
    .exact⟨oN,⟨rfl,.inl ⟨rfl,rfl⟩⟩,fun g hg=>by simp[Value.ownBlock] at hg⟩
    repeat (first|exact hm0|refine Mid.trans ?_ (Mid.alloc _ _)|refine Mid.storeNew ?_ (by simp;try omega) _)
   cases h
  obtain rfl:k=wd.length:=by omega
  obtain⟨rfl,rfl,rfl,hxu⟩:=HE.out.full HK2.out;rw[HK1.out] at hxu;subst hxu;rcases HCASE.out with⟨h, -⟩|⟨-,rfl,hmv⟩
  .cases h
  have HMV:=oH hmv;have hrg6:=ho6.rg;obtain⟨A9,hA9⟩:∃ A9,A6=A9:=⟨_,rfl⟩
  subst hA9;obtain⟨c9,hc9⟩:∃ c9,c6=c9:=⟨_,rfl⟩
  subst hc9;obtain⟨y0,y1,y2⟩:=Y6.c3 rfl;clear hmv HCASE HE;go_wp2_with fail;with_reducible refine(aHe r n A6 es2 c6 x _ _ _ hrg6 (by omega) (by omega) rs res b HMV.out).mono ?_
  rintro en w20 ⟨A20,c20,rfl,ho20,hm20⟩;have hs20:=hm20.size;replace b2:=b2.mid hm20 oZr;replace hm0:=hm0.trans hm20;have hb20:w.heap.size+1<w20.heap.size:=b2.1;have hb21:w.heap.size<w20.heap.size:=by omega
  have Y20:=Box.new w20 #[.int .i64 r,.int .i64 rs,.slice A20 res.length c20] 35;clear y0 y1 y2;obtain⟨z0,z1,z2⟩:=b2.c3 rfl;obtain⟨q0,q1,q2⟩:=Y20.c3 rfl;have zf:=b2.2.2;clear p0 p1 p2;go_wp2_with fail;refine bodyPost_ret (v:=.tuple #[.agg #[.int .i64 r,.int .i64 rs,.slice A20 res.length c20],.bool b]) (by simp[results,Tryz.results141,go_sem,z0,z1,z2,zf,q0,q1,q2,hb20,hb21,World.cell?_alloc_lt]) rfl ⟨A20,c20,rfl,?_,?_⟩
  .refine OG.wide (OG.mid ho20 (a:=w.heap.size+1) (b:=w.heap.size+2) ?_ (Or.inl (by simp;omega))) (by simp;omega) (by simp;try omega) oN
   repeat (first|exact Mid.refl _ _ _|refine Mid.trans ?_ (Mid.zero (Mid.alloc _ _))|refine Mid.stored ?_ _ (by simp;try omega) (by simp;try omega))
  repeat (first|exact hm0|refine Mid.trans ?_ (Mid.alloc _ _)|refine Mid.storeNew ?_ (by simp;try omega) _)
 obtain⟨rfl,rfl,rfl,rfl⟩:=HR.out.no hc;have hcase:¬ IsCor r s es \/ (IsCor r s es/\¬ IsW r wd):=by
  by_cases h:IsCor r s es
  .exact .inr ⟨h,fun h2=>hc ⟨h,h2⟩⟩
  exact .inl h
 have HCASE:=oH hcase;clear hc hcase HR;go_enter Tryz.func141,Tryz.ntmps141
 go_wp2_with fail;generalize ((w.alloc (.cells #[.int .i64 r,.int .i64 s,.slice A es.length c] 35)).alloc (.cells #[.int .i64 0,.int .i64 0,.slice none 0 0] 35))=w1 at hm0 b0 b2 |-;rcases HCASE.out with hc|⟨hc,hwd⟩
 focus
  have HC:=oH hc;clear hc HCASE;with_reducible refine(aAn r s A es c _ _ _ (hr.mid hm0 oZl) hl false (iff_of_false Bool.false_ne_true HC.out)).mono ?_
  rintro en w2 ⟨rfl,hm2⟩;replace b2:=b2.mid hm2 oZr;replace hm0:=hm0.trans hm2;obtain⟨z0,z1,z2⟩:=b2.c3 rfl;have zf:=b2.2.2
 rotate_left
 focus
  have HC:=oH hc;have HW:=oH hwd;clear hc hwd HCASE;with_reducible refine(aAn r s A es c _ _ _ (hr.mid hm0 oZl) hl true (iff_of_true rfl HC.out)).mono ?_
  rintro en w2 ⟨rfl,hm2⟩;replace b0:=b0.mid hm2 oZr;replace b2:=b2.mid hm2 oZr;replace hm0:=hm0.trans hm2;obtain⟨p0,p1,p2⟩:=b0.c3 rfl;go_wp2_with fail;with_reducible refine(aDD r Aw wd cw _ _ ((hw.mid hm0 oZl).rs) HOK.out (by omega) false (iff_of_false Bool.false_ne_true HW.out)).mono ?_
  rintro en w3 ⟨rfl,nd,hw3⟩;have hm3:Mid 0 0 w2 w3:=by rw[hw3];exact(Mid.refl 0 0 w2).drewN nd
  replace b0:=b0.mid hm3 oZr;replace b2:=b2.mid hm3 oZr;replace hm0:=hm0.trans hm3;have hs3:=hm3.size;clear p0 p1 p2 hw3 hm3;obtain⟨p0,p1,p2⟩:=b0.c3 rfl;obtain⟨z0,z1,z2⟩:=b2.c3 rfl;have zf:=b2.2.2;clear p0 p1 p2
 rotate_left
 all_goals
  go_wp2_with fail;refine bodyPost_ret (v:=.tuple #[.agg #[.int .i64 0,.int .i64 0,.slice none 0 0],.bool false]) (by simp[results,Tryz.results141,go_sem,z0,z1,z2,zf]) rfl ⟨none,0,rfl,?_,?_⟩
  .exact⟨oN,⟨rfl,.inl ⟨rfl,rfl⟩⟩,fun g hg=>by simp[Value.ownBlock] at hg⟩
  repeat (first|exact hm0|refine Mid.trans ?_ (Mid.alloc _ _)|refine Mid.storeNew ?_ (by simp;try omega) _)
theorem aQv{a x:Int}(ha:-9223372036854775808<=a/\a<=9223372036854775807)(hx:-9223372036854775808<=x/\x<=9223372036854775807) :
  aFf a x=true↔(x≠0/\a=wrap64 (-x)/\a≠x):=by
 rw[aIi,aIs hx.1 hx.2];unfold negI aLY;split <;> omega
def aUU(w wr:World)(v:Value)(out:List Int):Prop:=wr.ownsRow w.heap.size 3 1 v out.length (aAd out)/\Below w.heap.size w wr
theorem aDQ(A:Option Addr)(xs:List Int)(c:Nat)(w:World)(B:Nat)(hr:Rs w B A (aAd xs))(hB:B<=w.heap.size)(hok:OkI xs)(hl:xs.length<=268435456) :
  Calls Tryz.prog 106 #[.slice A xs.length c] w fun e w'=>RetI 3 (red [] xs) w e w':=by
 have HOK:=oH hok;clear hok;have hb0:=(Below.refl w.heap.size w).alloc oN (.cells #[] 3);have ho0:=aAi w 3 1;go_enter Tryz.func106,Tryz.ntmps106
 go_wp2_with fail;go_loopw [3,4,5] (fun v i _ wr=>∃ k:Nat,k<=xs.length/\i=.int .i64 k/\aUU w wr v (red [] (xs.take k))) (fun _ i _ _=>xs.length - (intOf i).toNat)
 case atStart=>exact⟨0,oZ,rfl,ho0,hb0⟩
 obtain⟨k,hk,rfl,hown,hb⟩:=hrel;have hsz:=hb.size;by_cases hlt:k<xs.length
 .obtain⟨b,off,x,rfl, -,hxx,hc⟩:=((hr.more hB).below hb).int hlt
  have hlt3:(k:Int)<(xs.length:Int):=by omega
  have hst:=aKZ xs hxx [];have hbx:=HOK.out x (List.mem_of_getElem? hxx);have hlen:=aNq [] (xs.take k);rw[List.length_take,List.length_nil,Nat.zero_add] at hlen;have hok1:OkI (red [] (xs.take k)):=aMm fun y hy=>HOK.out y (List.mem_of_mem_take hy);obtain⟨out1,ho1⟩:∃ o,o=red [] (xs.take k):=⟨_,rfl⟩
  rw[<- ho1] at hown hst hlen hok1;have HBX:=oH hbx;have HST:=oH hst;clear ho1 hxx hbx hst;rcases Nat.eq_zero_or_pos out1.length with he|hp
  .obtain rfl:=List.eq_nil_of_length_eq_zero he
   clear he hok1 hlen;obtain⟨A1,c1,rfl, -, -⟩:=aAg hown;go_wp2_with fail;go_quiet (fail)
   go_wp2_with (at_builtin;refine aAr rfl _ _ 44 rfl w.heap.size 3 (.int .i64 0) 1 8 aBZ aCg rfl (by decide) _ _ _ rfl (aBr hown _) 1 [.int .i64 x] rfl rfl (aAu [x]) (by unfold maxLen;simp) (by simp) hsz ?n1)
   case n1=>
    intro v' w1 hown1 hgr _;go_wp2_with fail;go_roundw
    case rel=>
     refine⟨k+1,by omega,by go_num,?_,hb.grown (aIk hgr) hsz (fun g hg=>(hown.lt g hg).1)⟩;rw[HST.out,aBk];exact hown1
    simp[intOf];omega
  obtain⟨ys,a,rfl⟩:=aLA out1 hp;have hba:=hok1 a (by simp);rw[List.length_append] at hown hlen;simp only[List.length_cons,List.length_nil,Nat.zero_add] at hown hlen;clear hp hok1;obtain⟨A1,c1,rfl,hnc, -⟩:=aAg hown;obtain⟨g,rfl, -, -⟩:=aAU hown (Nat.succ_pos _);have hca:wr.cell? ⟨g,ys.length,none⟩=some (.int .i64 a):=by
   rw[hown.cellAt ys.length (by omega)];simp[aAd]
  have hiff:=aQv hba HBX.out;have HI:=oH hiff;clear hba hiff;obtain⟨nx,hnx⟩:∃ nx,wrap64 (-x)=nx:=⟨_,rfl⟩
  have hp0:(0:Int)<(ys.length:Int)+1:=by omega
  have hp1:(ys.length:Int)+1 - 1=(ys.length:Int):=by omega
  have hys:ys.length<=c1:=by omega
  by_cases hpop:aFf a x=true
  .obtain⟨h1,h2,h3⟩:=HI.out.1 hpop
   have hx0:(x != 0)=true:=by simpa using h1
   have hanx:(a == nx)=true:=by rw[<- hnx];simpa using h2
   have hax:(a != x)=true:=by simpa using h3
   have HP:=oH hpop;clear h1 h2 h3 hpop;go_wp2_with fail;go_quiet (fail)
   go_wp2_with fail;go_roundw
   case rel=>
    refine⟨k+1,by omega,by go_num,?_,by first|exact aDk hb _|exact hb⟩;rw[HST.out,aBB HP.out];have h1:=aGQ hown (Nat.le_succ ys.length);rw[Nat.mul_one,aAj,List.take_left' (aAG ys)] at h1;exact aBr h1 _
   simp[intOf];omega
  have hpf:aFf a x=false:=by simpa using hpop
  have HP:=oH hpf;have hcases:(x != 0)=false \/ ((x != 0)=true/\(a == nx)=false) \/ ((x != 0)=true/\(a == nx)=true/\(a != x)=false):=by
   rw[<- hnx];by_cases h1:x=0
   .left;simpa using h1
   by_cases h2:a=wrap64 (-x)
   .right;right
    refine⟨by simpa using h1,by simpa using h2,?_⟩;cases hv:(a != x) with
   |false=>rfl
   |true=>exact absurd (HI.out.2 ⟨h1,h2,by simpa using hv⟩) hpop
   right;left
   exact⟨by simpa using h1,by simpa using h2⟩
  clear hpop hpf;rcases hcases with h1|⟨h1,h2⟩|⟨h1,h2,h3⟩
  .go_wp2_with fail
   go_quiet (fail)
   go_wp2_with (at_builtin;refine aAr rfl _ _ 44 rfl w.heap.size 3 (.int .i64 0) 1 8 aBZ aCg rfl (by decide) _ _ _ rfl (aBr hown _) 1 [.int .i64 x] rfl rfl (aAu [x]) (by unfold maxLen;omega) (by omega) hsz ?n2)
   case n2=>
    intro v' w1 hown1 hgr _;go_wp2_with fail;go_roundw
    case rel=>
     refine⟨k+1,by omega,by go_num,?_,hb.grown (aIk hgr) hsz (fun g hg=>(hown.lt g hg).1)⟩;rw[HST.out,aAL HP.out,aAj,List.length_append,List.length_append];exact hown1
    simp[intOf];omega
  .go_wp2_with fail
   go_quiet (fail)
   go_wp2_with (at_builtin;refine aAr rfl _ _ 44 rfl w.heap.size 3 (.int .i64 0) 1 8 aBZ aCg rfl (by decide) _ _ _ rfl (aBr hown _) 1 [.int .i64 x] rfl rfl (aAu [x]) (by unfold maxLen;omega) (by omega) hsz ?n3)
   case n3=>
    intro v' w1 hown1 hgr _;go_wp2_with fail;go_roundw
    case rel=>
     refine⟨k+1,by omega,by go_num,?_,hb.grown (aIk hgr) hsz (fun g hg=>(hown.lt g hg).1)⟩;rw[HST.out,aAL HP.out,aAj,List.length_append,List.length_append];exact hown1
    simp[intOf];omega
  go_wp2_with fail;go_quiet (fail)
  go_wp2_with (at_builtin;refine aAr rfl _ _ 44 rfl w.heap.size 3 (.int .i64 0) 1 8 aBZ aCg rfl (by decide) _ _ _ rfl (aBr hown _) 1 [.int .i64 x] rfl rfl (aAu [x]) (by unfold maxLen;omega) (by omega) hsz ?n4)
  case n4=>
   intro v' w1 hown1 hgr _;go_wp2_with fail;go_roundw
   case rel=>
    refine⟨k+1,by omega,by go_num,?_,hb.grown (aIk hgr) hsz (fun g hg=>(hown.lt g hg).1)⟩;rw[HST.out,aAL HP.out,aAj,List.length_append,List.length_append];exact hown1
   simp[intOf];omega
 obtain rfl:k=xs.length:=by omega
 rw[List.take_length] at hown;have hlr:=aCH xs;obtain⟨out,hout⟩:∃ o,o=red [] xs:=⟨_,rfl⟩
 rw[<- hout] at hown hlr;have HO:=oH hout;clear hout;obtain⟨A1,c1,rfl,hnc, -⟩:=aAg hown;have ho2:=aAi wr 3 1;have ho2':(wr.alloc (.cells #[] 3)).ownsRow w.heap.size 3 1 (.slice (some ⟨wr.heap.size,0,none⟩) 0 0) 0 []:=aAp ho2 hsz;have hra:Rs (wr.alloc (.cells #[] 3)) wr.heap.size A1 (aAd out):=(Rs.of_own hown).alloc oN _;have hla:(aAd out).length=out.length * 1:=by rw[aAG];omega
 go_wp2_with (at_builtin;refine aFH rfl _ _ 44 rfl w.heap.size 3 (.int .i64 0) 1 8 aBZ aCg rfl (by decide) _ _ _ rfl ho2' A1 out.length c1 wr.heap.size (aAd out) rfl hra hla (aAu _) ?c2 ?c3 (by simp;omega) ?next)
 case c2=>unfold maxLen;omega
 case c3=>omega
 intro v1 w1 hown1 hgr1 _;have hb1:Below w.heap.size w w1:=(hb.grown (World.grownBy_alloc wr _ none) hsz (by intro g h;cases h)).grown hgr1 (by simp;omega) (fun g hg=>(ho2'.lt g hg).1);go_wp2_with fail;go_ret;rw[<- HO.out];exact RetI.mk rfl (by simpa using hown1) hb1
theorem aJP(r n:Nat)(A:Option Addr)(es:List Ed)(c:Nat)(Aw:Option Addr)(wd:List Int)(cw:Nat)(w:World)(lo hi lo' hi':Nat)(hr:RG w lo hi A es)(hw:RV w lo' hi' Aw (aAd wd))(hg:IsGr r n es)(hwl:wd.length<=1048576)(hok:OkI wd)(b:Bool)(hb:b=true↔aJp es wd) :
  Calls Tryz.prog 130 #[aAw r n A es.length c,.slice Aw wd.length cw] w fun e w'=>e=.returned (.bool b)/\Mid 0 0 w w':=by
 have hm0:Mid 0 0 w (w.alloc (.cells #[.int .i64 r,.int .i64 n,.slice A es.length c] 35)):=Mid.alloc _ _;have b0:=Box.new w #[.int .i64 r,.int .i64 n,.slice A es.length c] 35;have HB:=oH hb;clear hb;go_enter Tryz.func130,Tryz.ntmps130
 go_wp2_with fail;with_reducible refine(aLO r n A es c 0 Aw wd cw _ _ _ _ _ (hr.mid hm0 oZl) (hw.mid hm0 oZl) hg hwl hok).mono ?_
 rintro en w2 ⟨u,k,rfl,hk,hgo,hend,hm2⟩;have hrd:rdA es 0 wd=(u,k):=aMk hgo hk hend;have hL:aJp es wd↔k=wd.length/\u=0:=by unfold aJp;rw[hrd]
 have HL:=oH hL;clear hgo hend hrd hL;rcases(Decidable.em (k=wd.length)).symm with h1|h1
 .have dk:((k:Int) == (wd.length:Int))=false:=by simp only[beq_eq_false_iff_ne];omega
  obtain rfl:b=false:=aBq HB.out fun h=>h1 (HL.out.1 h).1;clear h1;go_wp2_with fail;go_ret;exact⟨rfl,hm0.trans hm2⟩
 subst h1;rcases(Decidable.em (u=0)).symm with h2|h2
 .have dk:(u == 0)=false:=by simpa using h2
  obtain rfl:b=false:=aBq HB.out fun h=>h2 (HL.out.1 h).2;clear h2;go_wp2_with fail;go_ret;exact⟨rfl,hm0.trans hm2⟩
 subst h2;obtain rfl:b=true:=HB.out.2 (HL.out.2 ⟨rfl,rfl⟩);go_wp2_with fail;go_ret;exact⟨rfl,hm0.trans hm2⟩
theorem aRw(es:List Ed):∀(w:List Int) (v u:Int),goV es v w=some u↔rdA es v w=(u,w.length)
|[],v,u=>by simp[goV,rdA]
|x::t,v,u=>by
  rw[goV,rdA];split
  .constructor
   .intro h;cases h
   .intro h
    have:=congrArg Prod.snd h;simp at this
  .rw[aRw es t _ u]
   constructor
   .intro h;rw[h];rfl
   .intro h
    have h1:=congrArg Prod.fst h;have h2:=congrArg Prod.snd h;simp at h1 h2;exact Prod.ext h1 h2
theorem aTA{es:List Ed}{w:List Int}:aJp es w↔goV es 0 w=some 0:=by
 rw[aRw];constructor
 .intro h;exact Prod.ext h.2 h.1
 intro h;exact⟨congrArg Prod.snd h,congrArg Prod.fst h⟩
theorem aLd(r n:Nat)(A:Option Addr)(es:List Ed)(c:Nat)(Aw:Option Addr)(wd:List Int)(cw:Nat)(w:World)(lo hi lo' hi':Nat)(hr:RG w lo hi A es)(hw:RV w lo' hi' Aw (aAd wd))(hc:IsCor r n es)(hword:IsW r wd)(hwl:wd.length<=1048576)(hok:OkI wd)(b:Bool)(hb:b=true↔aJp es wd) :
  Calls Tryz.prog 50 #[aAw r n A es.length c,.slice Aw wd.length cw] w fun e w'=>e=.returned (.bool b)/\Mid 0 0 w w':=by
 have hm0:Mid 0 0 w (w.alloc (.cells #[.int .i64 r,.int .i64 n,.slice A es.length c] 35)):=Mid.alloc _ _;have b0:=Box.new w #[.int .i64 r,.int .i64 n,.slice A es.length c] 35;have HB:Hid (b=true↔goV es 0 wd=some 0):=oH (hb.trans aTA);have HOK:=oH hok;have HC:=oH hc;have hsz:=hc.gr.size;have hl:=hc.gr.len;have hRL:=fun W (h:RV W lo' hi' Aw (aAd wd))=>aDQ Aw wd cw W hi' h.rs h.1 hok (by omega);rw[aSG hword.2.2.2] at hRL;have HRL:=oH hRL;have hWW:∀(W:World) (A4:Option Addr) (c4 a4 b4:Nat),RG W lo hi A es->RV W a4 b4 A4 (aAd wd)->Calls Tryz.prog 128 #[aAw r n A es.length c,.int .i64 0,.slice A4 wd.length c4] W fun e w'=>∃(u:Int) (b:Bool),e=.returned (.tuple #[.int .i64 u,.bool b])/\(b=true->goV es 0 wd=some u)/\(b=false->goV es 0 wd=none)/\Mid 0 0 W w':=
  fun W A4 c4 a4 b4 h1 h2=>aEI r n 0 A es c A4 wd c4 W lo hi a4 b4 h1 h2 hc.fol (by omega) hwl hok
 have HWW:=oH hWW;clear hb hok hc hRL hword hWW;go_enter Tryz.func50,Tryz.ntmps50
 go_wp2_with fail;generalize (w.alloc (.cells #[.int .i64 r,.int .i64 n,.slice A es.length c] 35))=w1 at hm0 b0 |-;have hmd:=Mid.drew1 w1;replace b0:=b0.mid hmd oZr;replace hm0:=hm0.trans hmd;obtain⟨p0,p1,p2⟩:=b0.c3 rfl;clear hmd;refine aAl (S:=(fun w'=>w'.cell? ⟨w.heap.size,0,none⟩=some (.int .i64 r)/\w'.cell? ⟨w.heap.size,1,none⟩=some (.int .i64 n)/\w'.cell? ⟨w.heap.size,2,none⟩=some (.slice A es.length c))) [] (by kernel_rfl) ⟨p0,p1,p2⟩ ?_;generalize World.drew w1=wz at b0 hm0 p0 p1 p2 |-;have hS:wz.cell? ⟨w.heap.size,0,none⟩=some (.int .i64 r)/\wz.cell? ⟨w.heap.size,1,none⟩=some (.int .i64 n)/\wz.cell? ⟨w.heap.size,2,none⟩=some (.slice A es.length c):=⟨p0,p1,p2⟩
 refine tkZ [] 0 rfl hS ?_;try simp only[oP]
 refine tkZ [] 1 rfl hS ?_;try simp only[oP]
 refine rdZ 2 rfl (fun K hK=>?_)
 (go_simp;(with_reducible refine(HRL.out _ (hw.mid hm0 oZl)).mono ?_);rintro en w4 ⟨A4,c4,rfl,ho4,hbe4⟩;have hm4:Mid 0 0 wz w4:=Mid.of_below hbe4;have b04:=b0.mid hm4 oZr;go_wp2_with fail)
 refine hK.out _ _ (Or.inr (b04.c3 rfl)) (fun _=>?_);clear hK K;try simp only[oP]
 replace hm0:=hm0.trans hm4;clear hS p0 p1 p2 b0;refine rdZ 3 rfl (fun K hK=>?_)
 (go_simp;(with_reducible refine(HWW.out w4 A4 c4 _ _ (hr.mid hm0 oZl) (aAy ho4)).mono ?_);rintro en w5 ⟨u,bb,rfl,h1,h2,hm5⟩;have b05:=b04.mid hm5 oZr;go_wp2_with fail)
 refine hK.out _ _ (Or.inr (b05.c3 rfl)) (fun _=>?_);clear hK K;try simp only[oP]
 replace hm0:=hm0.trans hm5;have hS5:=b05.c3 rfl;clear b04 hm4 hm5 ho4 hbe4;have HH1:=oH h1;have HH2:=oH h2;clear h1 h2;refine tkZ [] 4 rfl hS5 ?_;try simp only[oP]
 refine tkZ [] 5 rfl hS5 ?_;try simp only[oP]
 refine tkZ [] 6 rfl hS5 ?_;try simp only[oP]
 refine rdZ 7 rfl (fun K hK=>?_);go_simp;refine hK.out _ _ (Or.inr hS5) (fun _=>?_);clear hK K;try simp only[oP]
 refine rdZ 8 rfl (fun K hK=>?_);go_simp;refine hK.out _ _ (Or.inr hS5) (fun _=>?_);clear hK K;try simp only[oP]
 refine aAh (by kernel_rfl) ?_ _;clear hS5;obtain⟨p0,p1,p2⟩:=b05.c3 rfl;go_wp2_with fail;with_reducible refine(aAn r n A es c _ _ _ (hr.mid hm0 oZl) (by omega) true (iff_of_true rfl HC.out)).mono ?_
 rintro en w6 ⟨rfl,hm6⟩;replace hm0:=hm0.trans hm6;cases bb
 .obtain rfl:b=false:=aBq HB.out fun h=>by have:=HH2.out rfl;rw[h] at this;cases this
  go_wp2_with fail;go_ret;exact⟨rfl,hm0⟩
 rcases(Decidable.em (u=0)).symm with hu|hu
 .have du:(u == 0)=false:=by simpa using hu
  obtain rfl:b=false:=aBq HB.out fun h=>by have:=HH1.out rfl;rw[h] at this;injection this with this;exact hu this.symm
  clear hu;go_wp2_with fail;go_ret;exact⟨rfl,hm0⟩
 subst hu;obtain rfl:b=true:=HB.out.2 (HH1.out rfl);go_wp2_with fail;go_ret;exact⟨rfl,hm0⟩
section
open Go.RowKit
section
variable {w w':World} {lo hi a b:Nat} {A:Option Addr} {xss:List (List Int)}
theorem aOo{e:TypeId}{base size n c:Nat}{xs:List Value}(h:w.ownsRow base e size (.slice A n c) n xs):n<=c:=by
 obtain⟨_,_,e,h1,_⟩:=aAg h;injection e with _ _ e
 omega
end
end
theorem aMi{r s:Int}{es:List Ed}(hl:es.length<=1048576):-1<=rankI r s es+40/\rankI r s es<=1048577:=by
 unfold rankI;split
 .rename_i h
  have h1:=h.fol.gr.size;have h2:=h.fol.gr.len;omega
 omega
theorem aHV(r s:Int)(A:Option Addr)(es:List Ed)(c:Nat)(w:World)(lo hi:Nat)(hr:RG w lo hi A es)(hl:es.length<=1048576)(hcl:es.length<=c) :
  Calls Tryz.prog 46 #[aAw r s A es.length c] w fun e w'=>e=.returned (.int .i64 (max 0 (rankI r s es - 1)))/\Mid 0 0 w w':=by
 have hm0:Mid 0 0 w (w.alloc (.cells #[.int .i64 r,.int .i64 s,.slice A es.length c] 35)):=Mid.alloc _ _;have hR:=fun W h=>aMU r s A es c W lo hi h hl hcl;obtain⟨k1,k2⟩:=aMi (r:=r) (s:=s) hl;generalize rankI r s es=k at hR k1 k2 |-;go_enter Tryz.func46,Tryz.ntmps46
 go_wp2_with fail;with_reducible refine(hR _ (hr.mid hm0 oZl)).mono ?_
 rintro en w1 ⟨rfl,hm1⟩;go_wp2_with fail;go_ret;exact⟨by first|rfl|(congr 1),hm0.trans hm1⟩
theorem aIb(r s:Int)(A:Option Addr)(es:List Ed)(c:Nat)(w:World)(lo hi:Nat)(hr:RG w lo hi A es)(hl:es.length<=1048576) :
  Calls Tryz.prog 58 #[aAw r s A es.length c] w fun e w'=>e=.returned (.int .i64 (max 0 (rankI r s es - 1)))/\Mid 0 0 w w':=by
 have hm0:Mid 0 0 w (w.alloc (.cells #[.int .i64 r,.int .i64 s,.slice A es.length c] 35)):=Mid.alloc _ _;have hR:=fun W h=>aNy r s A es c W lo hi h hl;obtain⟨k1,k2⟩:=aMi (r:=r) (s:=s) hl;generalize rankI r s es=k at hR k1 k2 |-;go_enter Tryz.func58,Tryz.ntmps58
 go_wp2_with fail;with_reducible refine(hR _ (hr.mid hm0 oZl)).mono ?_
 rintro en w1 ⟨rfl,hm1⟩;go_wp2_with fail;go_ret;exact⟨by first|rfl|(congr 1),hm0.trans hm1⟩
def aBw(r0 s0:Int)(d0:List Ed)(res0:Int):Prop:=res0=max 0 (rankI r0 s0 d0 - 1)
theorem aCc(r0 s0:Int)(d0:List Ed)(hl0:d0.length<=1048576):∃ res0,aBw r0 s0 d0 res0:=⟨_,rfl⟩
theorem aEr(r0 s0:Int)(A0:Option Addr)(d0:List Ed)(c0:Nat)(w:World)(lo0 hi0:Nat)(h0:OG w lo0 hi0 A0 c0 d0)(hl0:d0.length<=1048576)(res0:Int)(h:aBw r0 s0 d0 res0) :
  Calls Tryz.prog 58 #[.agg #[.int .i64 r0,.int .i64 s0,.slice A0 d0.length c0]] w fun e w'=>e=.returned (.int .i64 res0)/\Mid 0 0 w w':=by
 obtain rfl:res0=_:=h;exact aIb r0 s0 A0 d0 c0 w lo0 hi0 h0.rg hl0
theorem aBt(r0 s0:Int)(A0:Option Addr)(d0:List Ed)(c0:Nat)(w:World)(lo0 hi0:Nat)(h0:OG w lo0 hi0 A0 c0 d0)(hl0:d0.length<=1048576)(res0:Int)(h:aBw r0 s0 d0 res0) :
  Calls Tryz.prog 46 #[.agg #[.int .i64 r0,.int .i64 s0,.slice A0 d0.length c0]] w fun e w'=>e=.returned (.int .i64 res0)/\Mid 0 0 w w':=by
 obtain rfl:res0=_:=h;exact aHV r0 s0 A0 d0 c0 w lo0 hi0 h0.rg hl0 h0.cnt.1
noncomputable def dropI (r s:Int) (es:List Ed) (r' s':Int) (es':List Ed) (rr rs:Int) (res:List Ed) (b:Bool):Int:=if b=true then rankI r s es+rankI r' s' es' - rankI rr rs res else -1
end Go.Proofs.YtkimajabegojoaaGreat
