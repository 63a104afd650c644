/-
  DERIVED. GIVEN WITH THE SEED: THE CARDS: each row of YtppjnohcfljmoaaGreatDoorRows.lean that lists a variable, with what it lists TIED to the program's text (the seventh form; the later family's looks); each row that meets fmt, with fmt's text TOLD by the authors' own Lean function (tested against real Go, not proved from fmt's source: count such statements apart). THE CARD IS WHAT COUNTS. Prove the row's statement (the work); the ties are given (YtppjnohcfljmoaaGreatDoorTie.lean); close each card by the builder's one call (the guide's Derived/Test/ToyasCard.lean, 'card_holds'). Laid BY PROGRAM, IN A SANDBOX (cutbox-door.mjs). By AI agents, Wed Nov 11 2026. No macro, syntax, notation, axiom, sorry.
-/
import Derived.Test.YtppjnohcfljmoaaGreatDoorRows
import GoSem.ClaimSeven
namespace Go.Proofs.YtppjnohcfljmoaaGreatDoor
namespace Rows

/-- THE TIED CARD OF 'laws.FnExactFetchNow'. -/
def fnExactFetchNowCard : Claim7 := { stood := { row := fnExactFetchNowRow, standIns := [], harness := (true, "a6362bb399f77291f5115388f8aa3aa6779984d36cb72e9aa00a05d2e410f96e"), looks := true }, kinds := [], alts := [], laidByText := true, laidKinds := [.data, .pinned], laidTests := true, laidLooks := .later }
def FnExactFetchNowCardSaid : Prop := Claim7.holds Tryz.pinned (.plain (OpenSpec.ofChange fnExactFetchNowSpec)) fnExactFetchNowCard

/-- THE TIED CARD OF 'laws.FnExactIsNet'. -/
def fnExactIsNetCard : Claim7 := { stood := { row := fnExactIsNetRow, standIns := [], harness := (true, "a6362bb399f77291f5115388f8aa3aa6779984d36cb72e9aa00a05d2e410f96e"), looks := true }, kinds := [], alts := [], laidByText := true, laidKinds := [.data, .pinned], laidTests := true, laidLooks := .later }
def FnExactIsNetCardSaid : Prop := Claim7.holds Tryz.pinned (.plain (OpenSpec.ofChange fnExactIsNetSpec)) fnExactIsNetCard

/-- THE TIED CARD OF 'laws.FnExactCheckResponse'. -/
def fnExactCheckResponseCard : Claim7 := { stood := { row := fnExactCheckResponseRow, standIns := [], harness := (true, "a6362bb399f77291f5115388f8aa3aa6779984d36cb72e9aa00a05d2e410f96e"), looks := true }, kinds := [], alts := [], laidByText := true, laidKinds := [.data, .data, .data, .data, .pinned], laidTests := true, laidLooks := .later }
def FnExactCheckResponseCardSaid : Prop := Claim7.holds Tryz.pinned (.plain (OpenSpec.ofChange fnExactCheckResponseSpec)) fnExactCheckResponseCard

/-- THE TIED CARD OF 'laws.FnExactUsableBody'. -/
def fnExactUsableBodyCard : Claim7 := { stood := { row := fnExactUsableBodyRow, standIns := [], harness := (true, "a6362bb399f77291f5115388f8aa3aa6779984d36cb72e9aa00a05d2e410f96e"), looks := true }, kinds := [], alts := [], laidByText := true, laidKinds := [.data, .data, .data, .data, .pinned], laidTests := true, laidLooks := .later }
def FnExactUsableBodyCardSaid : Prop := Claim7.holds Tryz.pinned (.plain (OpenSpec.ofChange fnExactUsableBodySpec)) fnExactUsableBodyCard

/-- THE TIED CARD OF 'laws.FnExactRunLine'. -/
def fnExactRunLineCard : Claim7 := { stood := { row := fnExactRunLineRow, standIns := [], harness := (true, "a6362bb399f77291f5115388f8aa3aa6779984d36cb72e9aa00a05d2e410f96e"), looks := true }, kinds := [], alts := [], laidByText := true, laidKinds := [.data, .data, .data], laidTests := true, laidLooks := .later }
def FnExactRunLineCardSaid : Prop := Claim7.holds Tryz.pinned (.plain (OpenSpec.ofChange fnExactRunLineSpec)) fnExactRunLineCard

/-- THE TIED CARD OF 'laws.FnExactRunScript'. -/
def fnExactRunScriptCard : Claim7 := { stood := { row := fnExactRunScriptRow, standIns := [], harness := (true, "a6362bb399f77291f5115388f8aa3aa6779984d36cb72e9aa00a05d2e410f96e"), looks := true }, kinds := [], alts := [], laidByText := true, laidKinds := [.data, .data, .data], laidTests := true, laidLooks := .later }
def FnExactRunScriptCardSaid : Prop := Claim7.holds Tryz.pinned (.plain (OpenSpec.ofChange fnExactRunScriptSpec)) fnExactRunScriptCard

/-- THE TIED CARD OF 'laws.FnExactKeepAnswer'. -/
def fnExactKeepAnswerCard : Claim7 := { stood := { row := fnExactKeepAnswerRow, standIns := [], harness := (true, "a6362bb399f77291f5115388f8aa3aa6779984d36cb72e9aa00a05d2e410f96e"), looks := true }, kinds := [], alts := [], laidByText := true, laidKinds := [.data, .pinned], laidTests := true, laidLooks := .later }
def FnExactKeepAnswerCardSaid : Prop := Claim7.holds Tryz.pinned (.plain (OpenSpec.ofChange fnExactKeepAnswerSpec)) fnExactKeepAnswerCard

/-- THE TIED CARD OF 'laws.FnExactWaitNet'. -/
def fnExactWaitNetCard : Claim7 := { stood := { row := fnExactWaitNetRow, standIns := [], harness := (true, "a6362bb399f77291f5115388f8aa3aa6779984d36cb72e9aa00a05d2e410f96e"), looks := true }, kinds := [], alts := [], laidByText := true, laidKinds := [.data, .pinned], laidTests := true, laidLooks := .later }
def FnExactWaitNetCardSaid : Prop := Claim7.holds Tryz.pinned (.plain (OpenSpec.ofChange fnExactWaitNetSpec)) fnExactWaitNetCard

/-- THE SECOND FORM's CARD OF 'laws.FnExactFetchNow'. -/
def fnExactFetchNowUptoCard : Claim7 := { stood := { row := fnExactFetchNowUptoRow, standIns := [], harness := (true, "a6362bb399f77291f5115388f8aa3aa6779984d36cb72e9aa00a05d2e410f96e"), looks := true }, kinds := [], alts := [], laidByText := true, laidKinds := [.data, .pinned], laidTests := true, laidLooks := .later }
def FnExactFetchNowUptoCardSaid : Prop := Claim7.holds Tryz.pinned (.plain (OpenSpec.upto fnExactFetchNowSpec)) fnExactFetchNowUptoCard

/-- THE SECOND FORM's CARD OF 'laws.FnExactIsNet'. -/
def fnExactIsNetUptoCard : Claim7 := { stood := { row := fnExactIsNetUptoRow, standIns := [], harness := (true, "a6362bb399f77291f5115388f8aa3aa6779984d36cb72e9aa00a05d2e410f96e"), looks := true }, kinds := [], alts := [], laidByText := true, laidKinds := [.data, .pinned], laidTests := true, laidLooks := .later }
def FnExactIsNetUptoCardSaid : Prop := Claim7.holds Tryz.pinned (.plain (OpenSpec.upto fnExactIsNetSpec)) fnExactIsNetUptoCard

/-- THE SECOND FORM's CARD OF 'laws.FnExactCheckResponse'. -/
def fnExactCheckResponseUptoCard : Claim7 := { stood := { row := fnExactCheckResponseUptoRow, standIns := [], harness := (true, "a6362bb399f77291f5115388f8aa3aa6779984d36cb72e9aa00a05d2e410f96e"), looks := true }, kinds := [], alts := [], laidByText := true, laidKinds := [.data, .data, .data, .data, .pinned], laidTests := true, laidLooks := .later }
def FnExactCheckResponseUptoCardSaid : Prop := Claim7.holds Tryz.pinned (.plain (OpenSpec.upto fnExactCheckResponseSpec)) fnExactCheckResponseUptoCard

/-- THE SECOND FORM's CARD OF 'laws.FnExactUsableBody'. -/
def fnExactUsableBodyUptoCard : Claim7 := { stood := { row := fnExactUsableBodyUptoRow, standIns := [], harness := (true, "a6362bb399f77291f5115388f8aa3aa6779984d36cb72e9aa00a05d2e410f96e"), looks := true }, kinds := [], alts := [], laidByText := true, laidKinds := [.data, .data, .data, .data, .pinned], laidTests := true, laidLooks := .later }
def FnExactUsableBodyUptoCardSaid : Prop := Claim7.holds Tryz.pinned (.plain (OpenSpec.upto fnExactUsableBodySpec)) fnExactUsableBodyUptoCard

/-- THE SECOND FORM's CARD OF 'laws.FnExactRunLine'. -/
def fnExactRunLineUptoCard : Claim7 := { stood := { row := fnExactRunLineUptoRow, standIns := [], harness := (true, "a6362bb399f77291f5115388f8aa3aa6779984d36cb72e9aa00a05d2e410f96e"), looks := true }, kinds := [], alts := [], laidByText := true, laidKinds := [.data, .data, .data], laidTests := true, laidLooks := .later }
def FnExactRunLineUptoCardSaid : Prop := Claim7.holds Tryz.pinned (.plain (OpenSpec.upto fnExactRunLineSpec)) fnExactRunLineUptoCard

/-- THE SECOND FORM's CARD OF 'laws.FnExactRunScript'. -/
def fnExactRunScriptUptoCard : Claim7 := { stood := { row := fnExactRunScriptUptoRow, standIns := [], harness := (true, "a6362bb399f77291f5115388f8aa3aa6779984d36cb72e9aa00a05d2e410f96e"), looks := true }, kinds := [], alts := [], laidByText := true, laidKinds := [.data, .data, .data], laidTests := true, laidLooks := .later }
def FnExactRunScriptUptoCardSaid : Prop := Claim7.holds Tryz.pinned (.plain (OpenSpec.upto fnExactRunScriptSpec)) fnExactRunScriptUptoCard

/-- THE SECOND FORM's CARD OF 'laws.FnExactKeepAnswer'. -/
def fnExactKeepAnswerUptoCard : Claim7 := { stood := { row := fnExactKeepAnswerUptoRow, standIns := [], harness := (true, "a6362bb399f77291f5115388f8aa3aa6779984d36cb72e9aa00a05d2e410f96e"), looks := true }, kinds := [], alts := [], laidByText := true, laidKinds := [.data, .pinned], laidTests := true, laidLooks := .later }
def FnExactKeepAnswerUptoCardSaid : Prop := Claim7.holds Tryz.pinned (.plain (OpenSpec.upto fnExactKeepAnswerSpec)) fnExactKeepAnswerUptoCard

/-- THE SECOND FORM's CARD OF 'laws.FnExactWaitNet'. -/
def fnExactWaitNetUptoCard : Claim7 := { stood := { row := fnExactWaitNetUptoRow, standIns := [], harness := (true, "a6362bb399f77291f5115388f8aa3aa6779984d36cb72e9aa00a05d2e410f96e"), looks := true }, kinds := [], alts := [], laidByText := true, laidKinds := [.data, .pinned], laidTests := true, laidLooks := .later }
def FnExactWaitNetUptoCardSaid : Prop := Claim7.holds Tryz.pinned (.plain (OpenSpec.upto fnExactWaitNetSpec)) fnExactWaitNetUptoCard
end Rows
end Go.Proofs.YtppjnohcfljmoaaGreatDoor
