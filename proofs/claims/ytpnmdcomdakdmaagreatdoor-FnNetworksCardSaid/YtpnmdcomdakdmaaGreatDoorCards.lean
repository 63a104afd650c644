/-
  DERIVED. GIVEN WITH THE SEED: THE CARDS: each row of YtpnmdcomdakdmaaGreatDoorRows.lean that lists a variable, with what it lists TIED to the program's text (the seventh form; the later family's looks); each row that meets fmt, with fmt's text TOLD by the authors' own Lean function (tested against real Go, not proved from fmt's source: count such statements apart). THE CARD IS WHAT COUNTS. Prove the row's statement (the work); the ties are given (YtpnmdcomdakdmaaGreatDoorTie.lean); close each card by the builder's one call (the guide's Derived/Test/ToyasCard.lean, 'card_holds'). Laid BY PROGRAM, IN A SANDBOX (cutbox-door.mjs). By AI agents, Wed Nov 11 2026. No macro, syntax, notation, axiom, sorry.
-/
import Derived.Test.YtpnmdcomdakdmaaGreatDoorRows
import GoSem.ClaimSeven
namespace Go.Proofs.YtpnmdcomdakdmaaGreatDoor
namespace Rows

/-- THE TIED CARD OF 'laws.FnNetworks'. -/
def fnNetworksCard : Claim7 := { stood := { row := fnNetworksRow, standIns := [], harness := (true, "b613ab6c39c62cbed9d10fced0d5b137fc01e35eebbc597086d07d6d7a0420c0"), looks := true }, kinds := [], alts := [], laidByText := true, laidKinds := [.data, .pinned], laidTests := true, laidLooks := .later }
def FnNetworksCardSaid : Prop := Claim7.holds Tryz.pinned (.plain (OpenSpec.ofChange fnNetworksSpec)) fnNetworksCard

/-- THE TIED CARD OF 'laws.FnSheets'. -/
def fnSheetsCard : Claim7 := { stood := { row := fnSheetsRow, standIns := [], harness := (true, "b613ab6c39c62cbed9d10fced0d5b137fc01e35eebbc597086d07d6d7a0420c0"), looks := true }, kinds := [], alts := [], laidByText := true, laidKinds := [.data, .data, .data, .data, .sentinel, .sentinel, .pinned], laidTests := true, laidLooks := .later }
def FnSheetsCardSaid : Prop := Claim7.holds Tryz.pinned (.plain (OpenSpec.ofChange fnSheetsSpec)) fnSheetsCard

/-- THE TIED CARD OF 'laws.FnFetches'. -/
def fnFetchesCard : Claim7 := { stood := { row := fnFetchesRow, standIns := [], harness := (true, "b613ab6c39c62cbed9d10fced0d5b137fc01e35eebbc597086d07d6d7a0420c0"), looks := true }, kinds := [], alts := [], laidByText := true, laidKinds := [.data, .pinned], laidTests := true, laidLooks := .later }
def FnFetchesCardSaid : Prop := Claim7.holds Tryz.pinned (.plain (OpenSpec.ofChange fnFetchesSpec)) fnFetchesCard

/-- THE TIED CARD OF 'laws.FnRuns'. -/
def fnRunsCard : Claim7 := { stood := { row := fnRunsRow, standIns := [], harness := (true, "b613ab6c39c62cbed9d10fced0d5b137fc01e35eebbc597086d07d6d7a0420c0"), looks := true }, kinds := [], alts := [], laidByText := true, laidKinds := [.data, .data, .data], laidTests := true, laidLooks := .later }
def FnRunsCardSaid : Prop := Claim7.holds Tryz.pinned (.plain (OpenSpec.ofChange fnRunsSpec)) fnRunsCard

/-- THE TIED CARD OF 'laws.FnExactRunLine'. -/
def fnExactRunLineCard : Claim7 := { stood := { row := fnExactRunLineRow, standIns := [], harness := (true, "b613ab6c39c62cbed9d10fced0d5b137fc01e35eebbc597086d07d6d7a0420c0"), looks := true }, kinds := [], alts := [], laidByText := true, laidKinds := [.data, .data, .data], laidTests := true, laidLooks := .later }
def FnExactRunLineCardSaid : Prop := Claim7.holds Tryz.pinned (.plain (OpenSpec.ofChange fnExactRunLineSpec)) fnExactRunLineCard

/-- THE TIED CARD OF 'laws.FnChecks'. -/
def fnChecksCard : Claim7 := { stood := { row := fnChecksRow, standIns := [], harness := (true, "b613ab6c39c62cbed9d10fced0d5b137fc01e35eebbc597086d07d6d7a0420c0"), looks := true }, kinds := [], alts := [], laidByText := true, laidKinds := [.data, .data, .data, .data, .pinned], laidTests := true, laidLooks := .later }
def FnChecksCardSaid : Prop := Claim7.holds Tryz.pinned (.plain (OpenSpec.ofChange fnChecksSpec)) fnChecksCard

/-- THE TIED CARD OF 'laws.FnExactRunScript'. -/
def fnExactRunScriptCard : Claim7 := { stood := { row := fnExactRunScriptRow, standIns := [], harness := (true, "b613ab6c39c62cbed9d10fced0d5b137fc01e35eebbc597086d07d6d7a0420c0"), looks := true }, kinds := [], alts := [], laidByText := true, laidKinds := [.data, .data, .data], laidTests := true, laidLooks := .later }
def FnExactRunScriptCardSaid : Prop := Claim7.holds Tryz.pinned (.plain (OpenSpec.ofChange fnExactRunScriptSpec)) fnExactRunScriptCard

/-- THE SECOND FORM's CARD OF 'laws.FnNetworks'. -/
def fnNetworksUptoCard : Claim7 := { stood := { row := fnNetworksUptoRow, standIns := [], harness := (true, "b613ab6c39c62cbed9d10fced0d5b137fc01e35eebbc597086d07d6d7a0420c0"), looks := true }, kinds := [], alts := [], laidByText := true, laidKinds := [.data, .pinned], laidTests := true, laidLooks := .later }
def FnNetworksUptoCardSaid : Prop := Claim7.holds Tryz.pinned (.plain (OpenSpec.upto fnNetworksSpec)) fnNetworksUptoCard

/-- THE SECOND FORM's CARD OF 'laws.FnSheets'. -/
def fnSheetsUptoCard : Claim7 := { stood := { row := fnSheetsUptoRow, standIns := [], harness := (true, "b613ab6c39c62cbed9d10fced0d5b137fc01e35eebbc597086d07d6d7a0420c0"), looks := true }, kinds := [], alts := [], laidByText := true, laidKinds := [.data, .data, .data, .data, .sentinel, .sentinel, .pinned], laidTests := true, laidLooks := .later }
def FnSheetsUptoCardSaid : Prop := Claim7.holds Tryz.pinned (.plain (OpenSpec.upto fnSheetsSpec)) fnSheetsUptoCard

/-- THE SECOND FORM's CARD OF 'laws.FnFetches'. -/
def fnFetchesUptoCard : Claim7 := { stood := { row := fnFetchesUptoRow, standIns := [], harness := (true, "b613ab6c39c62cbed9d10fced0d5b137fc01e35eebbc597086d07d6d7a0420c0"), looks := true }, kinds := [], alts := [], laidByText := true, laidKinds := [.data, .pinned], laidTests := true, laidLooks := .later }
def FnFetchesUptoCardSaid : Prop := Claim7.holds Tryz.pinned (.plain (OpenSpec.upto fnFetchesSpec)) fnFetchesUptoCard

/-- THE SECOND FORM's CARD OF 'laws.FnRuns'. -/
def fnRunsUptoCard : Claim7 := { stood := { row := fnRunsUptoRow, standIns := [], harness := (true, "b613ab6c39c62cbed9d10fced0d5b137fc01e35eebbc597086d07d6d7a0420c0"), looks := true }, kinds := [], alts := [], laidByText := true, laidKinds := [.data, .data, .data], laidTests := true, laidLooks := .later }
def FnRunsUptoCardSaid : Prop := Claim7.holds Tryz.pinned (.plain (OpenSpec.upto fnRunsSpec)) fnRunsUptoCard

/-- THE SECOND FORM's CARD OF 'laws.FnExactRunLine'. -/
def fnExactRunLineUptoCard : Claim7 := { stood := { row := fnExactRunLineUptoRow, standIns := [], harness := (true, "b613ab6c39c62cbed9d10fced0d5b137fc01e35eebbc597086d07d6d7a0420c0"), looks := true }, kinds := [], alts := [], laidByText := true, laidKinds := [.data, .data, .data], laidTests := true, laidLooks := .later }
def FnExactRunLineUptoCardSaid : Prop := Claim7.holds Tryz.pinned (.plain (OpenSpec.upto fnExactRunLineSpec)) fnExactRunLineUptoCard

/-- THE SECOND FORM's CARD OF 'laws.FnChecks'. -/
def fnChecksUptoCard : Claim7 := { stood := { row := fnChecksUptoRow, standIns := [], harness := (true, "b613ab6c39c62cbed9d10fced0d5b137fc01e35eebbc597086d07d6d7a0420c0"), looks := true }, kinds := [], alts := [], laidByText := true, laidKinds := [.data, .data, .data, .data, .pinned], laidTests := true, laidLooks := .later }
def FnChecksUptoCardSaid : Prop := Claim7.holds Tryz.pinned (.plain (OpenSpec.upto fnChecksSpec)) fnChecksUptoCard

/-- THE SECOND FORM's CARD OF 'laws.FnExactRunScript'. -/
def fnExactRunScriptUptoCard : Claim7 := { stood := { row := fnExactRunScriptUptoRow, standIns := [], harness := (true, "b613ab6c39c62cbed9d10fced0d5b137fc01e35eebbc597086d07d6d7a0420c0"), looks := true }, kinds := [], alts := [], laidByText := true, laidKinds := [.data, .data, .data], laidTests := true, laidLooks := .later }
def FnExactRunScriptUptoCardSaid : Prop := Claim7.holds Tryz.pinned (.plain (OpenSpec.upto fnExactRunScriptSpec)) fnExactRunScriptUptoCard
end Rows
end Go.Proofs.YtpnmdcomdakdmaaGreatDoor
