/- The law, case by case. -/
import Derived.Test.YtjncjpnafabaoaaGreatDoorLa
import Derived.KernelRfl
import Derived.Test.YtjncjpnafabaoaaGreatDoorLc
import Derived.Test.YtjncjpnafabaoaaGreatDoorLd
import Derived.Test.YtjncjpnafabaoaaGreatDoorLb
import Derived.Test.YtjncjpnafabaoaaGreatDoorLe
import Derived.Test.YtjncjpnafabaoaaGreatDoorLf
import Derived.Test.YtjncjpnafabaoaaGreatDoorLg
set_option linter.unusedSimpArgs false
set_option linter.unusedVariables false
set_option linter.unusedSectionVars false
namespace Go.Pv
open Go.Proofs
set_option maxRecDepth 100000
theorem r0y (val : Nat → Int) (b4 : Bool) (dby : Bool) (h : LineH val 0 b4 dby) : letI := syL val 0 b4 dby h; callN (mkC (mL [c0zE] 1 0)) 400 3 [.it [] 20, .tm .i64 (.sym 15), .tm .i64 (.sym 16)] [] = some (.ok (.bool true) [] []) := by kernel_rfl
end Go.Pv
namespace Go.Pv
open Go.Proofs
set_option maxRecDepth 100000
theorem r1y (val : Nat → Int) (b4 : Bool) (h : LineH val 1 b4 true) : letI := syL val 1 b4 true h; callN (mkC (mL [c1zE] 1 0)) 400 3 [.it [[.tm .i64 (.sym 0)]] 20, .tm .i64 (.sym 15), .tm .i64 (.sym 16)] [] = some (.ok (.bool true) [] []) := by kernel_rfl
theorem r10 (val : Nat → Int) (b4 : Bool) (h : LineH val 1 b4 false) : letI := syL val 1 b4 false h; callN (mkC (mL [c1zE, w1x0zE] 1 0)) 400 3 [.it [[.tm .i64 (.sym 0)]] 20, .tm .i64 (.sym 15), .tm .i64 (.sym 16)] [] = some (.ok (.bool true) [] []) := by kernel_rfl
end Go.Pv
namespace Go.Pv
open Go.Proofs
set_option maxRecDepth 100000
theorem r2y (val : Nat → Int) (b4 : Bool) (h : LineH val 2 b4 true) : letI := syL val 2 b4 true h; callN (mkC (mL [c2zE] 1 0)) 400 3 [.it [[.tm .i64 (.sym 0)], [.tm .i64 (.sym 1)]] 20, .tm .i64 (.sym 15), .tm .i64 (.sym 16)] [] = some (.ok (.bool true) [] []) := by kernel_rfl
theorem r20 (val : Nat → Int) (b4 : Bool) (h : LineH val 2 b4 false) : letI := syL val 2 b4 false h; callN (mkC (mL [c2zE, w2x0zE] 2 0)) 400 3 [.it [[.tm .i64 (.sym 0)], [.tm .i64 (.sym 1)]] 20, .tm .i64 (.sym 15), .tm .i64 (.sym 16)] [] = some (.ok (.bool true) [] []) := by kernel_rfl
theorem r21 (val : Nat → Int) (b4 : Bool) (h : LineH val 2 b4 false) : letI := syL val 2 b4 false h; callN (mkC (mL [c2zE, w2x1zE] 2 1)) 400 3 [.it [[.tm .i64 (.sym 0)], [.tm .i64 (.sym 1)]] 20, .tm .i64 (.sym 15), .tm .i64 (.sym 16)] [] = some (.ok (.bool true) [] []) := by kernel_rfl
end Go.Pv
namespace Go.Pv
open Go.Proofs
set_option maxRecDepth 100000
theorem r3y (val : Nat → Int) (b4 : Bool) (h : LineH val 3 b4 true) : letI := syL val 3 b4 true h; callN (mkC (mL [c3zE] 1 0)) 400 3 [.it [[.tm .i64 (.sym 0)], [.tm .i64 (.sym 1)], [.tm .i64 (.sym 2)]] 20, .tm .i64 (.sym 15), .tm .i64 (.sym 16)] [] = some (.ok (.bool true) [] []) := by kernel_rfl
theorem r30 (val : Nat → Int) (b4 : Bool) (h : LineH val 3 b4 false) : letI := syL val 3 b4 false h; callN (mkC (mL [c3zE, w3x0zE] 3 0)) 400 3 [.it [[.tm .i64 (.sym 0)], [.tm .i64 (.sym 1)], [.tm .i64 (.sym 2)]] 20, .tm .i64 (.sym 15), .tm .i64 (.sym 16)] [] = some (.ok (.bool true) [] []) := by kernel_rfl
theorem r31 (val : Nat → Int) (b4 : Bool) (h : LineH val 3 b4 false) : letI := syL val 3 b4 false h; callN (mkC (mL [c3zE, w3x1zE] 3 1)) 400 3 [.it [[.tm .i64 (.sym 0)], [.tm .i64 (.sym 1)], [.tm .i64 (.sym 2)]] 20, .tm .i64 (.sym 15), .tm .i64 (.sym 16)] [] = some (.ok (.bool true) [] []) := by kernel_rfl
theorem r32 (val : Nat → Int) (b4 : Bool) (h : LineH val 3 b4 false) : letI := syL val 3 b4 false h; callN (mkC (mL [c3zE, w3x2zE] 3 2)) 400 3 [.it [[.tm .i64 (.sym 0)], [.tm .i64 (.sym 1)], [.tm .i64 (.sym 2)]] 20, .tm .i64 (.sym 15), .tm .i64 (.sym 16)] [] = some (.ok (.bool true) [] []) := by kernel_rfl
end Go.Pv
namespace Go.Pv
open Go.Proofs
set_option maxRecDepth 100000
theorem r4ty (val : Nat → Int) (h : LineH val 4 true true) : letI := syL val 4 true true h; callN (mkC (mL [c4zE] 1 0)) 400 3 [.it [[.tm .i64 (.sym 0)], [.tm .i64 (.sym 1)], [.tm .i64 (.sym 2)], [.tm .i64 (.sym 3)]] 20, .tm .i64 (.sym 15), .tm .i64 (.sym 16)] [] = some (.ok (.bool true) [] []) := by kernel_rfl
theorem r4t0 (val : Nat → Int) (h : LineH val 4 true false) : letI := syL val 4 true false h; callN (mkC (mL [c4zE, w4x0zE] 4 0)) 400 3 [.it [[.tm .i64 (.sym 0)], [.tm .i64 (.sym 1)], [.tm .i64 (.sym 2)], [.tm .i64 (.sym 3)]] 20, .tm .i64 (.sym 15), .tm .i64 (.sym 16)] [] = some (.ok (.bool true) [] []) := by kernel_rfl
theorem r4t1 (val : Nat → Int) (h : LineH val 4 true false) : letI := syL val 4 true false h; callN (mkC (mL [c4zE, w4x1zE] 4 1)) 400 3 [.it [[.tm .i64 (.sym 0)], [.tm .i64 (.sym 1)], [.tm .i64 (.sym 2)], [.tm .i64 (.sym 3)]] 20, .tm .i64 (.sym 15), .tm .i64 (.sym 16)] [] = some (.ok (.bool true) [] []) := by kernel_rfl
theorem r4t2 (val : Nat → Int) (h : LineH val 4 true false) : letI := syL val 4 true false h; callN (mkC (mL [c4zE, w4x2zE] 4 2)) 400 3 [.it [[.tm .i64 (.sym 0)], [.tm .i64 (.sym 1)], [.tm .i64 (.sym 2)], [.tm .i64 (.sym 3)]] 20, .tm .i64 (.sym 15), .tm .i64 (.sym 16)] [] = some (.ok (.bool true) [] []) := by kernel_rfl
theorem r4t3 (val : Nat → Int) (h : LineH val 4 true false) : letI := syL val 4 true false h; callN (mkC (mL [c4zE, w4x3zE] 4 3)) 400 3 [.it [[.tm .i64 (.sym 0)], [.tm .i64 (.sym 1)], [.tm .i64 (.sym 2)], [.tm .i64 (.sym 3)]] 20, .tm .i64 (.sym 15), .tm .i64 (.sym 16)] [] = some (.ok (.bool true) [] []) := by kernel_rfl
theorem r4fy (val : Nat → Int) (h : LineH val 4 false true) : letI := syL val 4 false true h; callN (mkC (mL [c4zE] 1 0)) 400 3 [.it [[.tm .i64 (.sym 0)], [.tm .i64 (.sym 1)], [.tm .i64 (.sym 2)], [.tm .i64 (.sym 3)]] 20, .tm .i64 (.sym 15), .tm .i64 (.sym 16)] [] = some (.ok (.bool true) [] []) := by kernel_rfl
theorem r4f0 (val : Nat → Int) (h : LineH val 4 false false) : letI := syL val 4 false false h; callN (mkC (mL [c4zE, w4x0zE] 4 0)) 400 3 [.it [[.tm .i64 (.sym 0)], [.tm .i64 (.sym 1)], [.tm .i64 (.sym 2)], [.tm .i64 (.sym 3)]] 20, .tm .i64 (.sym 15), .tm .i64 (.sym 16)] [] = some (.ok (.bool true) [] []) := by kernel_rfl
theorem r4f1 (val : Nat → Int) (h : LineH val 4 false false) : letI := syL val 4 false false h; callN (mkC (mL [c4zE, w4x1zE] 4 1)) 400 3 [.it [[.tm .i64 (.sym 0)], [.tm .i64 (.sym 1)], [.tm .i64 (.sym 2)], [.tm .i64 (.sym 3)]] 20, .tm .i64 (.sym 15), .tm .i64 (.sym 16)] [] = some (.ok (.bool true) [] []) := by kernel_rfl
theorem r4f2 (val : Nat → Int) (h : LineH val 4 false false) : letI := syL val 4 false false h; callN (mkC (mL [c4zE, w4x2zE] 4 2)) 400 3 [.it [[.tm .i64 (.sym 0)], [.tm .i64 (.sym 1)], [.tm .i64 (.sym 2)], [.tm .i64 (.sym 3)]] 20, .tm .i64 (.sym 15), .tm .i64 (.sym 16)] [] = some (.ok (.bool true) [] []) := by kernel_rfl
theorem r4f3 (val : Nat → Int) (h : LineH val 4 false false) : letI := syL val 4 false false h; callN (mkC (mL [c4zE, w4x3zE] 4 3)) 400 3 [.it [[.tm .i64 (.sym 0)], [.tm .i64 (.sym 1)], [.tm .i64 (.sym 2)], [.tm .i64 (.sym 3)]] 20, .tm .i64 (.sym 15), .tm .i64 (.sym 16)] [] = some (.ok (.bool true) [] []) := by kernel_rfl
end Go.Pv
