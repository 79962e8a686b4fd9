/- The walk of the law FnExactCompareNielsen: it returns true at every input, and turns nothing that was there. -/
import Derived.Test.YtaddhbdfjkbgiaaL21
namespace Go.Proofs.Ytaddhbdfjkbgiaa
open Go.RowKit
set_option linter.unusedVariables false
set_option linter.unusedSimpArgs false

set_option maxRecDepth 100000 in
set_option maxHeartbeats 8000000 in
theorem walk_CompareNielsen (A0 : Option Addr) (d0 : List Int) (c0 : Nat) (A1 : Option Addr) (d1 : List Int) (c1 : Nat) (w : World) (r0 : RI w 0 w.heap.size A0 d0) (_o0 : OkI d0) (_l0 : d0.length ≤ 9223372036854775807) (r1 : RI w 0 w.heap.size A1 d1) (_o1 : OkI d1) (_l1 : d1.length ≤ 9223372036854775807) :
    Calls Try.prog 6 #[.slice A0 d0.length c0, .slice A1 d1.length c1] w fun e w' => e = .returned (.bool true) ∧ Below w.heap.size w w' := by
  by_cases hbig0 : ¬ (d0.length ≤ 1048576)
  · go_enter Try.func6, Try.ntmps6
    go_wp2_with fail
    go_ret
    exact ⟨rfl, Below.refl _ _⟩
  have hl0 : d0.length ≤ 1048576 := by omega
  clear hbig0
  by_cases hbig1 : ¬ (d1.length ≤ 1048576)
  · go_enter Try.func6, Try.ntmps6
    go_wp2_with fail
    go_ret
    exact ⟨rfl, Below.refl _ _⟩
  have hl1 : d1.length ≤ 1048576 := by omega
  clear hbig1
  obtain ⟨res0, HRES⟩ : ∃ res0, CompareNielsenIs d0 d1 res0 := CompareNielsenIs_ex d0 d1 _o0 hl0 _o1 hl1
  have HRES := Lib.hid HRES
  have hh1 := r0
  have hh2 := r1
  go_enter Try.func6, Try.ntmps6
  go_wp2_with fail
  with_reducible refine (toI _ d0 _ _ _ _ hh1 hl0).mono ?_
  rintro e w1 ⟨AA3, cc4, rfl, h5, md6⟩
  have h7 := RI.mid hh1 md6 (by omega)
  clear hh1
  have h8 := RI.mid hh2 md6 (by omega)
  clear hh2
  have b9 := below_mid (Below.refl w.heap.size w) (Nat.le_refl w.heap.size) md6 (by omega)
  have z10 := b9.size
  have y11 := md6.size
  go_wp2_with fail
  with_reducible refine (toI _ d1 _ _ _ _ h8 hl1).mono ?_
  rintro e w2 ⟨AA12, cc13, rfl, h14, md15⟩
  have h16 := RI.mid h7 md15 (by omega)
  clear h7
  have h17 := RI.mid h8 md15 (by omega)
  clear h8
  have h18 := OI.mid h5 md15 (by omega)
  clear h5
  have b19 := below_mid b9 z10 md15 (by omega)
  have z20 := b19.size
  have y21 := md15.size
  go_wp2_with fail
  with_reducible refine (sspec_CompareNielsen _ d0 _ _ d1 _ _ _ _ h18 _o0 hl0 _ _ h14 _o1 hl1 res0 HRES.out).mono ?_
  rintro e w3 ⟨rfl, md22⟩
  have h23 := RI.mid h16 md22 (by omega)
  clear h16
  have h24 := RI.mid h17 md22 (by omega)
  clear h17
  have h25 := OI.mid h18 md22 (by omega)
  clear h18
  have h26 := OI.mid h14 md22 (by omega)
  clear h14
  have b27 := below_mid b19 z20 md22 (by omega)
  have z28 := b27.size
  have y29 := md22.size
  go_wp2_with fail
  with_reducible refine (toI _ d0 _ _ _ _ h23 hl0).mono ?_
  rintro e w4 ⟨AA30, cc31, rfl, h32, md33⟩
  have h34 := RI.mid h23 md33 (by omega)
  clear h23
  have h35 := RI.mid h24 md33 (by omega)
  clear h24
  have b36 := below_mid b27 z28 md33 (by omega)
  have z37 := b36.size
  have y38 := md33.size
  go_wp2_with fail
  with_reducible refine (toI _ d1 _ _ _ _ h35 hl1).mono ?_
  rintro e w5 ⟨AA39, cc40, rfl, h41, md42⟩
  have h43 := RI.mid h34 md42 (by omega)
  clear h34
  have h44 := RI.mid h35 md42 (by omega)
  clear h35
  have h45 := OI.mid h32 md42 (by omega)
  clear h32
  have b46 := below_mid b36 z37 md42 (by omega)
  have z47 := b46.size
  have y48 := md42.size
  go_wp2_with fail
  with_reducible refine (simpl_CompareNielsen _ d0 _ _ d1 _ _ _ _ h45 _o0 hl0 _ _ h41 _o1 hl1 res0 HRES.out).mono ?_
  rintro e w6 ⟨rfl, md49⟩
  have h50 := RI.mid h43 md49 (by omega)
  clear h43
  have h51 := RI.mid h44 md49 (by omega)
  clear h44
  have h52 := OI.mid h45 md49 (by omega)
  clear h45
  have h53 := OI.mid h41 md49 (by omega)
  clear h41
  have b54 := below_mid b46 z47 md49 (by omega)
  have z55 := b54.size
  have y56 := md49.size
  go_wp2_with fail
  with_reducible refine (toI _ d0 _ _ _ _ h50 hl0).mono ?_
  rintro e w7 ⟨AA57, cc58, rfl, h59, md60⟩
  have h61 := RI.mid h50 md60 (by omega)
  clear h50
  have h62 := RI.mid h51 md60 (by omega)
  clear h51
  have h63 := OI.mid h52 md60 (by omega)
  clear h52
  have h64 := OI.mid h53 md60 (by omega)
  clear h53
  have b65 := below_mid b54 z55 md60 (by omega)
  have z66 := b65.size
  have y67 := md60.size
  go_wp2_with fail
  with_reducible refine (eqI _ _ d0 _ _ _ _ _ _ _ (OI.ri h63) (OI.ri h59) hl0).mono ?_
  rintro e w8 ⟨rfl, md68⟩
  have h69 := RI.mid h61 md68 (by omega)
  clear h61
  have h70 := RI.mid h62 md68 (by omega)
  clear h62
  have h71 := OI.mid h63 md68 (by omega)
  clear h63
  have h72 := OI.mid h64 md68 (by omega)
  clear h64
  have h73 := OI.mid h59 md68 (by omega)
  clear h59
  have b74 := below_mid b65 z66 md68 (by omega)
  have z75 := b74.size
  have y76 := md68.size
  go_wp2_with fail
  with_reducible refine (toI _ d1 _ _ _ _ h70 hl1).mono ?_
  rintro e w9 ⟨AA77, cc78, rfl, h79, md80⟩
  have h81 := RI.mid h69 md80 (by omega)
  clear h69
  have h82 := RI.mid h70 md80 (by omega)
  clear h70
  have h83 := OI.mid h71 md80 (by omega)
  clear h71
  have h84 := OI.mid h72 md80 (by omega)
  clear h72
  have b85 := below_mid b74 z75 md80 (by omega)
  have z86 := b85.size
  have y87 := md80.size
  go_wp2_with fail
  with_reducible refine (eqI _ _ d1 _ _ _ _ _ _ _ (OI.ri h84) (OI.ri h79) hl1).mono ?_
  rintro e w10 ⟨rfl, md88⟩
  have h89 := RI.mid h81 md88 (by omega)
  clear h81
  have h90 := RI.mid h82 md88 (by omega)
  clear h82
  have h91 := OI.mid h83 md88 (by omega)
  clear h83
  have h92 := OI.mid h84 md88 (by omega)
  clear h84
  have h93 := OI.mid h79 md88 (by omega)
  clear h79
  have b94 := below_mid b85 z86 md88 (by omega)
  have z95 := b94.size
  have y96 := md88.size
  go_wp2_with fail
  go_ret
  exact ⟨rfl, b94⟩
end Go.Proofs.Ytaddhbdfjkbgiaa
