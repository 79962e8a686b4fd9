/- Contracts and lemmas of this seat, many texts in one: see the words ahead of each. No condition beyond those typed in each lemma. -/
import Derived.Test.YthampgpcajmopaaGreatJn3
import Derived.Test.YthampgpcajmopaaGreatJn11
import Derived.Test.YthampgpcajmopaaGreatJn2

namespace Go.Proofs.YthampgpcajmopaaGreat
set_option linter.unusedVariables false
set_option linter.unusedSimpArgs false
set_option maxHeartbeats 40000000
set_option maxRecDepth 100000
section
open Go.RowKit
end
section
open Go.ChangeShapes Go.WideShapes Go.ChangeAt Go.RowKit
open Go.Joins
theorem undSU:Tryz.prog.underlying 22=some (.slice 5):=by kernel_rfl
theorem undU:Tryz.prog.underlying 5=some (.int .u8):=by kernel_rfl
theorem cellsU:Tryz.prog.cellsOf 5=1:=by kernel_rfl
section
variable {H:Type} {enc:TypeId × Value→H} {P:Program} {W:World} {T E:TypeId}
theorem byts_of_cells (uT:P.underlying T=some (.slice E)) (uE:P.underlying E=some (.int .u8)) (cE:P.cellsOf E=1) {fuel:Nat} {A:Option Addr} {len c:Nat} {x:DataW H × List MemPlace}
  (h:DataW.trod enc P W 0 (fun _=>true) true fuel T [.slice A len c]=some x):∃ xs:List Int,len=xs.length∧RV W 0 W.heap.size A (byts xs)∧OkB xs∧xs.length≤9223372036854775807:=by
 rcases open_ints uT uE cE h with ⟨hcs,_⟩ | ⟨a,l,cc,zs,hcs,_,hl,hm,hz,_,hcell,hwz⟩
 ·simp at hcs
  obtain ⟨rfl,rfl,rfl⟩:=hcs;exact ⟨[],rfl,⟨Nat.le_refl _,fun hn=>absurd rfl hn⟩,fun x hx=>by simp at hx,by simp⟩
 ·simp at hcs
  obtain ⟨rfl,rfl,rfl⟩:=hcs;simp at hz;refine ⟨zs.take len,by simp;omega,⟨Nat.le_refl _,fun hn=>?_⟩,fun x hx=>bounds_u8 (hwz x (List.mem_of_mem_take hx)),by unfold maxLen at hm;simp;omega⟩;have hp:0 < zs.length:=by
   rcases Nat.eq_zero_or_pos zs.length with h0 | h0
   ·have:=List.eq_nil_of_length_eq_zero h0
    subst this;simp [byts] at hn
   ·exact h0
  obtain ⟨b,off,rfl,hc⟩:=ints_at hcell hp;refine ⟨b,off,rfl,Nat.zero_le _,World.block_lt_of_cell? _ _ (hc 0 hp),fun j u hu=>?_⟩;have hj:j < zs.length:=by
   have:=(List.getElem?_eq_some_iff.1 hu).1;simp [byts] at this;omega
  rw [hc j hj];unfold byts at hu;rw [List.getElem?_map,List.getElem?_take] at hu;split at hu
  ·rw [List.getElem?_eq_getElem hj] at hu
   simp at hu;rw [← hu];simp [List.getD,List.getElem?_eq_getElem hj]
  ·simp at hu
theorem open_byteS (uT:P.underlying T=some (.slice E)) (uE:P.underlying E=some (.int .u8)) (cE:P.cellsOf E=1) {r:Reach} {base:Nat} {v:Value} {d:DataW H} {ps:List MemPlace}
  (hok:Value.okWide P W r base T v) (h:DataW.Trod enc P W 0 (fun _=>true) true T v d ps):∃ A xs c,v=.slice A (List.length xs) c∧RV W 0 W.heap.size A (byts xs)∧OkB xs∧xs.length≤9223372036854775807:=by
 obtain ⟨A,len,c,rfl⟩:=okWide_slice uT hok;obtain ⟨fuel,hf⟩:=h;obtain ⟨xs,rfl,h1,h2⟩:=byts_of_cells (A:=A) (len:=len) (c:=c) uT uE cE (by simpa [Value.cells] using hf);exact ⟨A,xs,c,rfl,h1,h2⟩
end
end
end Go.Proofs.YthampgpcajmopaaGreat
