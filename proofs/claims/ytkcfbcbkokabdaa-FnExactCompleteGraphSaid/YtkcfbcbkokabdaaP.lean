
/- Facts on the tables of this seat's program: the element types' rows. -/
import Derived.Test.YtkcfbcbkokabdaaRows
import Derived.Test.YtkcfbcbkokabdaaB
namespace Go.Proofs.Ytkcfbcbkokabdaa
set_option linter.unusedVariables false
set_option linter.unusedSimpArgs false
theorem infoI : (Try.prog.info? 3).map (fun i => (i.zero, i.size, i.bytes)) = some (some (.int .i64 0), 1, 8) := by kernel_rfl
theorem infoB : (Try.prog.info? 4).map (fun i => (i.zero, i.size, i.bytes)) = some (some (.bool false), 1, 1) := by kernel_rfl
theorem undSI : Try.prog.underlying 41 = some (.slice 3) := by kernel_rfl
theorem undSB : Try.prog.underlying 68 = some (.slice 4) := by kernel_rfl
theorem undI : Try.prog.underlying 3 = some (.int .i64) := by kernel_rfl
theorem cellsI : Try.prog.cellsOf 3 = 1 := by kernel_rfl
end Go.Proofs.Ytkcfbcbkokabdaa
