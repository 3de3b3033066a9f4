/- The document's example. -/
import Derived.Test.YtcbpldmnobckeaaGreatDoorMc
import Derived.KernelRfl
set_option linter.unusedSimpArgs false
set_option linter.unusedVariables false
namespace Go.Pv
open Go.Proofs
set_option maxRecDepth 100000
theorem awake_run : callN (mkC m3) 400 6 [] [] = some (.ok (.bool true) [] []) := by kernel_rfl
end Go.Pv
