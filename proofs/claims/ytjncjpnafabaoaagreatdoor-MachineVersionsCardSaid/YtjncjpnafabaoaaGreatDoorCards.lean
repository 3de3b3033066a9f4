/-
  DERIVED. GIVEN WITH THE SEED: THE CARDS: each row of YtjncjpnafabaoaaGreatDoorRows.lean that lists a variable, with what it lists TIED to the program's text (the seventh form; the later family's looks); each row that meets fmt, with fmt's text TOLD by the authors' own Lean function (tested against real Go, not proved from fmt's source: count such statements apart). THE CARD IS WHAT COUNTS. Prove the row's statement (the work); the ties are given (YtjncjpnafabaoaaGreatDoorTie.lean); close each card by the builder's one call (the guide's Derived/Test/ToyasCard.lean, 'card_holds'). Laid BY PROGRAM, IN A SANDBOX (cutbox-door.mjs). By AI agents, Wed Nov 11 2026. No macro, syntax, notation, axiom, sorry.
-/
import Derived.Test.YtjncjpnafabaoaaGreatDoorRows
import GoSem.ClaimSeven
namespace Go.Proofs.YtjncjpnafabaoaaGreatDoor
namespace Rows

/-- THE TIED CARD OF 'palaverlaw26.HistoryLine'. -/
def historyLineCard : Claim7 := { stood := { row := historyLineRow, standIns := [], harness := (true, "1a4d32d1f666f597bf113df1ad76025fa91ef6f577f2946efc10044821ce2a21"), looks := true }, kinds := [], alts := [], laidByText := true, laidKinds := [.data, .data, .data, .data, .sentinel, .sentinel, .pinned], laidTests := true, laidLooks := .later }
def HistoryLineCardSaid : Prop := Claim7.holds Tryz.pinned (.plain (OpenSpec.ofChange historyLineSpec)) historyLineCard

/-- THE TIED CARD OF 'palaverlaw26.HistoryTwo'. -/
def historyTwoCard : Claim7 := { stood := { row := historyTwoRow, standIns := [], harness := (true, "1a4d32d1f666f597bf113df1ad76025fa91ef6f577f2946efc10044821ce2a21"), looks := true }, kinds := [], alts := [], laidByText := true, laidKinds := [.data, .data, .data, .data, .sentinel, .sentinel, .pinned], laidTests := true, laidLooks := .later }
def HistoryTwoCardSaid : Prop := Claim7.holds Tryz.pinned (.plain (OpenSpec.ofChange historyTwoSpec)) historyTwoCard

/-- THE TIED CARD OF 'palaverlaw16.MachineVersions'. -/
def machineVersionsCard : Claim7 := { stood := { row := machineVersionsRow, standIns := [], harness := (true, "1a4d32d1f666f597bf113df1ad76025fa91ef6f577f2946efc10044821ce2a21"), looks := true }, kinds := [], alts := [], laidByText := true, laidKinds := [.data, .data, .data, .data, .sentinel, .sentinel, .pinned], laidTests := true, laidLooks := .later }
def MachineVersionsCardSaid : Prop := Claim7.holds Tryz.pinned (.plain (OpenSpec.ofChange machineVersionsSpec)) machineVersionsCard

/-- THE TIED CARD OF 'palaverlaw16.MachineIndexes'. -/
def machineIndexesCard : Claim7 := { stood := { row := machineIndexesRow, standIns := [], harness := (true, "1a4d32d1f666f597bf113df1ad76025fa91ef6f577f2946efc10044821ce2a21"), looks := true }, kinds := [], alts := [], laidByText := true, laidKinds := [.data, .data, .data, .data, .sentinel, .sentinel, .pinned], laidTests := true, laidLooks := .later }
def MachineIndexesCardSaid : Prop := Claim7.holds Tryz.pinned (.plain (OpenSpec.ofChange machineIndexesSpec)) machineIndexesCard

/-- THE SECOND FORM's CARD OF 'palaverlaw26.HistoryLine'. -/
def historyLineUptoCard : Claim7 := { stood := { row := historyLineUptoRow, standIns := [], harness := (true, "1a4d32d1f666f597bf113df1ad76025fa91ef6f577f2946efc10044821ce2a21"), looks := true }, kinds := [], alts := [], laidByText := true, laidKinds := [.data, .data, .data, .data, .sentinel, .sentinel, .pinned], laidTests := true, laidLooks := .later }
def HistoryLineUptoCardSaid : Prop := Claim7.holds Tryz.pinned (.plain (OpenSpec.upto historyLineSpec)) historyLineUptoCard

/-- THE SECOND FORM's CARD OF 'palaverlaw26.HistoryTwo'. -/
def historyTwoUptoCard : Claim7 := { stood := { row := historyTwoUptoRow, standIns := [], harness := (true, "1a4d32d1f666f597bf113df1ad76025fa91ef6f577f2946efc10044821ce2a21"), looks := true }, kinds := [], alts := [], laidByText := true, laidKinds := [.data, .data, .data, .data, .sentinel, .sentinel, .pinned], laidTests := true, laidLooks := .later }
def HistoryTwoUptoCardSaid : Prop := Claim7.holds Tryz.pinned (.plain (OpenSpec.upto historyTwoSpec)) historyTwoUptoCard

/-- THE SECOND FORM's CARD OF 'palaverlaw16.MachineVersions'. -/
def machineVersionsUptoCard : Claim7 := { stood := { row := machineVersionsUptoRow, standIns := [], harness := (true, "1a4d32d1f666f597bf113df1ad76025fa91ef6f577f2946efc10044821ce2a21"), looks := true }, kinds := [], alts := [], laidByText := true, laidKinds := [.data, .data, .data, .data, .sentinel, .sentinel, .pinned], laidTests := true, laidLooks := .later }
def MachineVersionsUptoCardSaid : Prop := Claim7.holds Tryz.pinned (.plain (OpenSpec.upto machineVersionsSpec)) machineVersionsUptoCard

/-- THE SECOND FORM's CARD OF 'palaverlaw16.MachineIndexes'. -/
def machineIndexesUptoCard : Claim7 := { stood := { row := machineIndexesUptoRow, standIns := [], harness := (true, "1a4d32d1f666f597bf113df1ad76025fa91ef6f577f2946efc10044821ce2a21"), looks := true }, kinds := [], alts := [], laidByText := true, laidKinds := [.data, .data, .data, .data, .sentinel, .sentinel, .pinned], laidTests := true, laidLooks := .later }
def MachineIndexesUptoCardSaid : Prop := Claim7.holds Tryz.pinned (.plain (OpenSpec.upto machineIndexesSpec)) machineIndexesUptoCard
end Rows
end Go.Proofs.YtjncjpnafabaoaaGreatDoor
