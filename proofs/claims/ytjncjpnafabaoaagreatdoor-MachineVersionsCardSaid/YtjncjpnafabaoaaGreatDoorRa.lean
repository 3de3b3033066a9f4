/- MachineVersions: what the card asks of the functions that are reached, held by the kernel. -/
import Derived.Test.YtjncjpnafabaoaaGreatDoorOe
import Derived.Test.YtjncjpnafabaoaaGreatDoorRows
import Derived.Test.YtjncjpnafabaoaaGreatDoorCards
import Derived.Test.YtjncjpnafabaoaaGreatDoorTie
import Derived.Shelf.Abstract
import Derived.ProofKit
import Derived.OpenShut
import Derived.LaidMore
import Derived.Lay
import Derived.ChangeSame
import Derived.ChangeStays
import Derived.ChangeBook
import Derived.Deep.Frames
import Derived.Stop.Joined
import Derived.SevenTiedAt
import Derived.Carry
import Derived.KernelRfl
set_option linter.unusedVariables false
namespace Go.Proofs.YtjncjpnafabaoaaGreatDoor
set_option maxRecDepth 100000
theorem fclosed : joinedFacts Tryz.pinned.checked.prog 5 Tryz.f5 Rows.machineVersionsSpec Rows.machineVersionsRow = true := by kernel_rfl
end Go.Proofs.YtjncjpnafabaoaaGreatDoor
