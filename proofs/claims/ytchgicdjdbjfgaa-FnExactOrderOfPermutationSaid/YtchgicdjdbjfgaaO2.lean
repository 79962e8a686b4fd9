
/- Opening of a morphism that came in. -/
import Derived.Test.YtchgicdjdbjfgaaO
import Derived.Test.YtchgicdjdbjfgaaL8
namespace Go.Proofs.Ytchgicdjdbjfgaa
set_option linter.unusedVariables false
open Go.ChangeShapes Go.WideShapes Go.ChangeAt Go.RowKit
open Go.Joins
theorem cellsSI : Try.prog.cellsOf 27 = 1 := by kernel_rfl
set_option maxRecDepth 100000 in
theorem open_morph {H : Type} {enc : TypeId × Value → H} {W : World} {r : Reach} {base : Nat} {v : Value} {d : DataW H} {ps : List MemPlace}
    (hok : Value.okWide Try.prog W r base 34 v) (h : DataW.Trod enc Try.prog W 0 (fun _ => true) true 34 v d ps) :
    ∃ m A xss c, v = .agg #[.int .i64 m, .slice A (List.length xss) c] ∧ (Lit.int .i64 m).wf = true ∧ RSS W 0 W.heap.size A xss ∧ OkSS xss := by
  obtain ⟨v0, v1, y0, y1, n, rfl, -, -, h0, h1⟩ := open_agg2 Try.underlying34 (by kernel_rfl) (by kernel_rfl) hok h
  have h0' : DataW.trod enc Try.prog W 0 (fun _ => true) true n 3 [v0] = some y0 := h0
  have h1' : DataW.trod enc Try.prog W 0 (fun _ => true) true n 22 [v1] = some y1 := h1
  clear h0 h1
  obtain ⟨m, hm, -, hw⟩ := DataW.trod_int undI h0'
  obtain ⟨A, l, c, hs⟩ := slice_form undSSI h1'
  simp at hm hs
  subst hm hs
  obtain ⟨xss, rfl, ha, hb⟩ := rss_of_cells undSSI undSI undI cellsSI cellsI h1'
  exact ⟨m, A, xss, c, rfl, hw, ha, hb⟩
end Go.Proofs.Ytchgicdjdbjfgaa
