
/- Contracts of the laws' helpers on morphisms. -/
import Derived.Test.YtkcfbcbkokabdaaL8
namespace Go.Proofs.Ytkcfbcbkokabdaa
set_option linter.unusedVariables false
set_option linter.unusedSimpArgs false
open Go.RowKit

theorem Mid.stored {lo hi : Nat} {a w : World} {p : Addr} (h : Mid lo hi a w) (u : Value) (h1 : lo ≤ p.block) (h2 : p.block < hi) : Mid lo hi a (w.setCell p u) := h.trans (Mid.setCell w u h1 h2)
/-- A morphism's value. -/
def morV (r : Int) (A : Option Addr) (n c : Nat) : Value := .agg #[.int .i64 r, .slice A n c]

/-- A morphism as data. -/
structure Mor where
  rank : Int
  imgs : List (List Int)
def Mor.mark (d : Mor) (q : Int) : Mor := ⟨d.rank, markD q d.imgs⟩

end Go.Proofs.Ytkcfbcbkokabdaa
