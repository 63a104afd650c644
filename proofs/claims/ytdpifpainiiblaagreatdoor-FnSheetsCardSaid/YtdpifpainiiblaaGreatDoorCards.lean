/-
  DERIVED. GIVEN WITH THE SEED: THE CARDS: each row of YtdpifpainiiblaaGreatDoorRows.lean that lists a variable, with what it lists TIED to the program's text (the seventh form; the later family's looks); each row that meets fmt, with fmt's text TOLD by the authors' own Lean function (tested against real Go, not proved from fmt's source: count such statements apart). THE CARD IS WHAT COUNTS. Prove the row's statement (the work); the ties are given (YtdpifpainiiblaaGreatDoorTie.lean); close each card by the builder's one call (the guide's Derived/Test/ToyasCard.lean, 'card_holds'). Laid BY PROGRAM, IN A SANDBOX (cutbox-door.mjs). By AI agents, Wed Nov 11 2026. No macro, syntax, notation, axiom, sorry.
-/
import Derived.Test.YtdpifpainiiblaaGreatDoorRows
import GoSem.ClaimSeven
namespace Go.Proofs.YtdpifpainiiblaaGreatDoor
namespace Rows

/-- THE TIED CARD OF 'laws.FnSheets'. -/
def fnSheetsCard : Claim7 := { stood := { row := fnSheetsRow, standIns := [], harness := (true, "bc1b2bb736a1650a65670d1b7555018690d4d4c7813e862dec231e1c51cb6825"), looks := true }, kinds := [], alts := [], laidByText := true, laidKinds := [.data, .data, .data, .data, .sentinel, .sentinel, .pinned], laidTests := true, laidLooks := .later }
def FnSheetsCardSaid : Prop := Claim7.holds Tryz.pinned (.plain (OpenSpec.ofChange fnSheetsSpec)) fnSheetsCard

/-- THE TIED CARD OF 'laws.FnRuns'. -/
def fnRunsCard : Claim7 := { stood := { row := fnRunsRow, standIns := [], harness := (true, "bc1b2bb736a1650a65670d1b7555018690d4d4c7813e862dec231e1c51cb6825"), looks := true }, kinds := [], alts := [], laidByText := true, laidKinds := [.data, .data, .data], laidTests := true, laidLooks := .later }
def FnRunsCardSaid : Prop := Claim7.holds Tryz.pinned (.plain (OpenSpec.ofChange fnRunsSpec)) fnRunsCard

/-- THE SECOND FORM's CARD OF 'laws.FnSheets'. -/
def fnSheetsUptoCard : Claim7 := { stood := { row := fnSheetsUptoRow, standIns := [], harness := (true, "bc1b2bb736a1650a65670d1b7555018690d4d4c7813e862dec231e1c51cb6825"), looks := true }, kinds := [], alts := [], laidByText := true, laidKinds := [.data, .data, .data, .data, .sentinel, .sentinel, .pinned], laidTests := true, laidLooks := .later }
def FnSheetsUptoCardSaid : Prop := Claim7.holds Tryz.pinned (.plain (OpenSpec.upto fnSheetsSpec)) fnSheetsUptoCard

/-- THE SECOND FORM's CARD OF 'laws.FnRuns'. -/
def fnRunsUptoCard : Claim7 := { stood := { row := fnRunsUptoRow, standIns := [], harness := (true, "bc1b2bb736a1650a65670d1b7555018690d4d4c7813e862dec231e1c51cb6825"), looks := true }, kinds := [], alts := [], laidByText := true, laidKinds := [.data, .data, .data], laidTests := true, laidLooks := .later }
def FnRunsUptoCardSaid : Prop := Claim7.holds Tryz.pinned (.plain (OpenSpec.upto fnRunsSpec)) fnRunsUptoCard
end Rows
end Go.Proofs.YtdpifpainiiblaaGreatDoor
