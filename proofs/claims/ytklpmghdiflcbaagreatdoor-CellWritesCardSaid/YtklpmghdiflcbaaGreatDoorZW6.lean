/- Bounds of whole numbers. -/
import Derived.Test.YtklpmghdiflcbaaGreatDoorZFa
set_option linter.unusedVariables false
namespace Go.Proofs.YtklpmghdiflcbaaGreatDoor
open Go.RowKit Go.Ms Go.Lib
theorem wf64 {n : Int} (hn : (Lit.int .i64 n).wf = true) : -9223372036854775808 ≤ n ∧ n ≤ 9223372036854775807 := by
  simpa [Lit.wf, IntKind.min, IntKind.max, IntKind.signed, IntKind.bits] using hn
end Go.Proofs.YtklpmghdiflcbaaGreatDoor
