/- Opening of a move that came in. -/
import Derived.Test.YtaddhbdfjkbgiaaO2
import Derived.Test.YtaddhbdfjkbgiaaL31
namespace Go.Proofs.Ytaddhbdfjkbgiaa
set_option linter.unusedVariables false
open Go.ChangeShapes Go.WideShapes Go.ChangeAt Go.RowKit
open Go.Joins
set_option maxRecDepth 100000 in
theorem open_move {H : Type} {enc : TypeId × Value → H} {W : World} {r : Reach} {base : Nat} {v : Value} {d : DataW H} {ps : List MemPlace}
    (hok : Value.okWide Try.prog W r base 59 v) (h : DataW.Trod enc Try.prog W 0 (fun _ => true) true 59 v d ps) :
    ∃ m : Mv, v = .agg #[.int .i64 m.kind, .int .i64 m.i, .int .i64 m.j, .int .i64 m.sign] := by
  obtain ⟨v0, v1, v2, v3, y0, y1, y2, y3, n, rfl, -, -, h0, h1, h2, h3⟩ := open_agg4 Try.underlying59 (by kernel_rfl) (by kernel_rfl) hok h
  have h0' : DataW.trod enc Try.prog W 0 (fun _ => true) true n 3 [v0] = some y0 := h0
  have h1' : DataW.trod enc Try.prog W 0 (fun _ => true) true n 3 [v1] = some y1 := h1
  have h2' : DataW.trod enc Try.prog W 0 (fun _ => true) true n 3 [v2] = some y2 := h2
  have h3' : DataW.trod enc Try.prog W 0 (fun _ => true) true n 3 [v3] = some y3 := h3
  clear h0 h1 h2 h3
  obtain ⟨m0, hm0, -, -⟩ := DataW.trod_int undI h0'
  obtain ⟨m1, hm1, -, -⟩ := DataW.trod_int undI h1'
  obtain ⟨m2, hm2, -, -⟩ := DataW.trod_int undI h2'
  obtain ⟨m3, hm3, -, -⟩ := DataW.trod_int undI h3'
  simp at hm0 hm1 hm2 hm3
  subst hm0 hm1 hm2 hm3
  exact ⟨⟨m0, m1, m2, m3⟩, rfl⟩
end Go.Proofs.Ytaddhbdfjkbgiaa
