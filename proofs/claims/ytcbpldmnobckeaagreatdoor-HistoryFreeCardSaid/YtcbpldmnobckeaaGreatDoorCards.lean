/-
  DERIVED. GIVEN WITH THE SEED: THE CARDS: each row of YtcbpldmnobckeaaGreatDoorRows.lean that lists a variable, with what it lists TIED to the program's text (the seventh form; the later family's looks); each row that meets fmt, with fmt's text TOLD by the authors' own Lean function (tested against real Go, not proved from fmt's source: count such statements apart). THE CARD IS WHAT COUNTS. Prove the row's statement (the work); the ties are given (YtcbpldmnobckeaaGreatDoorTie.lean); close each card by the builder's one call (the guide's Derived/Test/ToyasCard.lean, 'card_holds'). Laid BY PROGRAM, IN A SANDBOX (cutbox-door.mjs). By AI agents, Wed Nov 11 2026. No macro, syntax, notation, axiom, sorry.
-/
import Derived.Test.YtcbpldmnobckeaaGreatDoorRows
import GoSem.ClaimSeven
namespace Go.Proofs.YtcbpldmnobckeaaGreatDoor
namespace Rows

/-- THE TIED CARD OF 'palaverlaw26.HistoryFree'. -/
def historyFreeCard : Claim7 := { stood := { row := historyFreeRow, standIns := [], harness := (true, "eba13e612c019249f5e17bec30131a9bc9046f6d6fef411406feeacf4f3b4a13"), looks := true }, kinds := [], alts := [], laidByText := true, laidKinds := [.data, .data, .data, .data, .sentinel, .sentinel, .pinned], laidTests := true, laidLooks := .later }
def HistoryFreeCardSaid : Prop := Claim7.holds Tryz.pinned (.plain (OpenSpec.ofChange historyFreeSpec)) historyFreeCard

/-- THE SECOND FORM's CARD OF 'palaverlaw26.HistoryFree'. -/
def historyFreeUptoCard : Claim7 := { stood := { row := historyFreeUptoRow, standIns := [], harness := (true, "eba13e612c019249f5e17bec30131a9bc9046f6d6fef411406feeacf4f3b4a13"), looks := true }, kinds := [], alts := [], laidByText := true, laidKinds := [.data, .data, .data, .data, .sentinel, .sentinel, .pinned], laidTests := true, laidLooks := .later }
def HistoryFreeUptoCardSaid : Prop := Claim7.holds Tryz.pinned (.plain (OpenSpec.upto historyFreeSpec)) historyFreeUptoCard
end Rows
end Go.Proofs.YtcbpldmnobckeaaGreatDoor
