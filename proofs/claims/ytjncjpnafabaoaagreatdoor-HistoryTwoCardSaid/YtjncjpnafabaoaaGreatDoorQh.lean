/- One case of the law, run. -/
import Derived.Test.YtjncjpnafabaoaaGreatDoorMc
import Derived.KernelRfl
set_option linter.unusedSimpArgs false
set_option linter.unusedVariables false
set_option linter.unusedSectionVars false
namespace Go.Pv
open Go.Proofs
set_option maxRecDepth 100000
theorem two_h (v w s : Int) (h : ∀ b, (some false) = some b → (v == w) = b) : letI := sy2 v w s (some false) h; callN (mkC (m5 3 2)) 400 4 [.tm .i64 (.sym 0), .tm .i64 (.sym 1), .bool true, .tm .i64 (.sym 2)] [] = some (.ok (.bool true) [] []) := by
  kernel_rfl
end Go.Pv
