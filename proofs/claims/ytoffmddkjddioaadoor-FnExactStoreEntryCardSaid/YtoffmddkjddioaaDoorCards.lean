/-
  DERIVED. GIVEN WITH THE SEED: THE CARDS: each row of YtoffmddkjddioaaDoorRows.lean that lists a variable, with what it lists TIED to the program's text (the seventh form; the later family's looks); each row that meets fmt, with fmt's text TOLD by the authors' own Lean function (tested against real Go, not proved from fmt's source: count such statements apart). THE CARD IS WHAT COUNTS. Prove the row's statement (the work); the ties are given (YtoffmddkjddioaaDoorTie.lean); close each card by the builder's one call (the guide's Derived/Test/ToyasCard.lean, 'card_holds'). Laid BY PROGRAM, IN A SANDBOX (cutbox-door.mjs). By AI agents, Wed Nov 11 2026. No macro, syntax, notation, axiom, sorry.
-/
import Derived.Test.YtoffmddkjddioaaDoorRows
import GoSem.ClaimSeven
namespace Go.Proofs.YtoffmddkjddioaaDoor
namespace Rows

/-- THE TIED CARD OF 'laws.FnExactParseScript'. -/
def fnExactParseScriptCard : Claim7 := { stood := { row := fnExactParseScriptRow, standIns := [], harness := (true, "ccda7bd4b4e1fac4a412b8dbf0afc639f6604b09e364eca12f0f331d6e54901f"), looks := false }, kinds := [], alts := [], laidByText := true, laidKinds := [.data, .pinned], laidTests := true, laidLooks := .later }
def FnExactParseScriptCardSaid : Prop := Claim7.holds Tryd.pinned (.plain (OpenSpec.ofChange fnExactParseScriptSpec)) fnExactParseScriptCard

/-- THE TIED CARD OF 'laws.FnExactIsResponse'. -/
def fnExactIsResponseCard : Claim7 := { stood := { row := fnExactIsResponseRow, standIns := [], harness := (true, "ccda7bd4b4e1fac4a412b8dbf0afc639f6604b09e364eca12f0f331d6e54901f"), looks := false }, kinds := [], alts := [], laidByText := true, laidKinds := [.data, .pinned], laidTests := true, laidLooks := .later }
def FnExactIsResponseCardSaid : Prop := Claim7.holds Tryd.pinned (.plain (OpenSpec.ofChange fnExactIsResponseSpec)) fnExactIsResponseCard

/-- THE TIED CARD OF 'laws.FnExactParsePolicy'. -/
def fnExactParsePolicyCard : Claim7 := { stood := { row := fnExactParsePolicyRow, standIns := [], harness := (true, "ccda7bd4b4e1fac4a412b8dbf0afc639f6604b09e364eca12f0f331d6e54901f"), looks := false }, kinds := [], alts := [], laidByText := true, laidKinds := [.data, .pinned], laidTests := true, laidLooks := .later }
def FnExactParsePolicyCardSaid : Prop := Claim7.holds Tryd.pinned (.plain (OpenSpec.ofChange fnExactParsePolicySpec)) fnExactParsePolicyCard

/-- THE TIED CARD OF 'laws.FnExactIsServer'. -/
def fnExactIsServerCard : Claim7 := { stood := { row := fnExactIsServerRow, standIns := [], harness := (true, "ccda7bd4b4e1fac4a412b8dbf0afc639f6604b09e364eca12f0f331d6e54901f"), looks := false }, kinds := [], alts := [], laidByText := true, laidKinds := [.data, .pinned], laidTests := true, laidLooks := .later }
def FnExactIsServerCardSaid : Prop := Claim7.holds Tryd.pinned (.plain (OpenSpec.ofChange fnExactIsServerSpec)) fnExactIsServerCard

/-- THE TIED CARD OF 'laws.FnExactIsCache'. -/
def fnExactIsCacheCard : Claim7 := { stood := { row := fnExactIsCacheRow, standIns := [], harness := (true, "ccda7bd4b4e1fac4a412b8dbf0afc639f6604b09e364eca12f0f331d6e54901f"), looks := false }, kinds := [], alts := [], laidByText := true, laidKinds := [.data, .pinned], laidTests := true, laidLooks := .later }
def FnExactIsCacheCardSaid : Prop := Claim7.holds Tryd.pinned (.plain (OpenSpec.ofChange fnExactIsCacheSpec)) fnExactIsCacheCard

/-- THE TIED CARD OF 'laws.FnExactAreServers'. -/
def fnExactAreServersCard : Claim7 := { stood := { row := fnExactAreServersRow, standIns := [], harness := (true, "ccda7bd4b4e1fac4a412b8dbf0afc639f6604b09e364eca12f0f331d6e54901f"), looks := false }, kinds := [], alts := [], laidByText := true, laidKinds := [.data, .pinned], laidTests := true, laidLooks := .later }
def FnExactAreServersCardSaid : Prop := Claim7.holds Tryd.pinned (.plain (OpenSpec.ofChange fnExactAreServersSpec)) fnExactAreServersCard

/-- THE TIED CARD OF 'laws.FnExactStoreEntry'. -/
def fnExactStoreEntryCard : Claim7 := { stood := { row := fnExactStoreEntryRow, standIns := [], harness := (true, "ccda7bd4b4e1fac4a412b8dbf0afc639f6604b09e364eca12f0f331d6e54901f"), looks := false }, kinds := [], alts := [], laidByText := true, laidKinds := [.data, .pinned], laidTests := true, laidLooks := .later }
def FnExactStoreEntryCardSaid : Prop := Claim7.holds Tryd.pinned (.plain (OpenSpec.ofChange fnExactStoreEntrySpec)) fnExactStoreEntryCard

/-- THE TIED CARD OF 'laws.FnExactPutFile'. -/
def fnExactPutFileCard : Claim7 := { stood := { row := fnExactPutFileRow, standIns := [], harness := (true, "ccda7bd4b4e1fac4a412b8dbf0afc639f6604b09e364eca12f0f331d6e54901f"), looks := false }, kinds := [], alts := [], laidByText := true, laidKinds := [.data, .pinned], laidTests := true, laidLooks := .later }
def FnExactPutFileCardSaid : Prop := Claim7.holds Tryd.pinned (.plain (OpenSpec.ofChange fnExactPutFileSpec)) fnExactPutFileCard

/-- THE SECOND FORM's CARD OF 'laws.FnExactParseScript'. -/
def fnExactParseScriptUptoCard : Claim7 := { stood := { row := fnExactParseScriptUptoRow, standIns := [], harness := (true, "ccda7bd4b4e1fac4a412b8dbf0afc639f6604b09e364eca12f0f331d6e54901f"), looks := false }, kinds := [], alts := [], laidByText := true, laidKinds := [.data, .pinned], laidTests := true, laidLooks := .later }
def FnExactParseScriptUptoCardSaid : Prop := Claim7.holds Tryd.pinned (.plain (OpenSpec.upto fnExactParseScriptSpec)) fnExactParseScriptUptoCard

/-- THE SECOND FORM's CARD OF 'laws.FnExactIsResponse'. -/
def fnExactIsResponseUptoCard : Claim7 := { stood := { row := fnExactIsResponseUptoRow, standIns := [], harness := (true, "ccda7bd4b4e1fac4a412b8dbf0afc639f6604b09e364eca12f0f331d6e54901f"), looks := false }, kinds := [], alts := [], laidByText := true, laidKinds := [.data, .pinned], laidTests := true, laidLooks := .later }
def FnExactIsResponseUptoCardSaid : Prop := Claim7.holds Tryd.pinned (.plain (OpenSpec.upto fnExactIsResponseSpec)) fnExactIsResponseUptoCard

/-- THE SECOND FORM's CARD OF 'laws.FnExactParsePolicy'. -/
def fnExactParsePolicyUptoCard : Claim7 := { stood := { row := fnExactParsePolicyUptoRow, standIns := [], harness := (true, "ccda7bd4b4e1fac4a412b8dbf0afc639f6604b09e364eca12f0f331d6e54901f"), looks := false }, kinds := [], alts := [], laidByText := true, laidKinds := [.data, .pinned], laidTests := true, laidLooks := .later }
def FnExactParsePolicyUptoCardSaid : Prop := Claim7.holds Tryd.pinned (.plain (OpenSpec.upto fnExactParsePolicySpec)) fnExactParsePolicyUptoCard

/-- THE SECOND FORM's CARD OF 'laws.FnExactIsServer'. -/
def fnExactIsServerUptoCard : Claim7 := { stood := { row := fnExactIsServerUptoRow, standIns := [], harness := (true, "ccda7bd4b4e1fac4a412b8dbf0afc639f6604b09e364eca12f0f331d6e54901f"), looks := false }, kinds := [], alts := [], laidByText := true, laidKinds := [.data, .pinned], laidTests := true, laidLooks := .later }
def FnExactIsServerUptoCardSaid : Prop := Claim7.holds Tryd.pinned (.plain (OpenSpec.upto fnExactIsServerSpec)) fnExactIsServerUptoCard

/-- THE SECOND FORM's CARD OF 'laws.FnExactIsCache'. -/
def fnExactIsCacheUptoCard : Claim7 := { stood := { row := fnExactIsCacheUptoRow, standIns := [], harness := (true, "ccda7bd4b4e1fac4a412b8dbf0afc639f6604b09e364eca12f0f331d6e54901f"), looks := false }, kinds := [], alts := [], laidByText := true, laidKinds := [.data, .pinned], laidTests := true, laidLooks := .later }
def FnExactIsCacheUptoCardSaid : Prop := Claim7.holds Tryd.pinned (.plain (OpenSpec.upto fnExactIsCacheSpec)) fnExactIsCacheUptoCard

/-- THE SECOND FORM's CARD OF 'laws.FnExactAreServers'. -/
def fnExactAreServersUptoCard : Claim7 := { stood := { row := fnExactAreServersUptoRow, standIns := [], harness := (true, "ccda7bd4b4e1fac4a412b8dbf0afc639f6604b09e364eca12f0f331d6e54901f"), looks := false }, kinds := [], alts := [], laidByText := true, laidKinds := [.data, .pinned], laidTests := true, laidLooks := .later }
def FnExactAreServersUptoCardSaid : Prop := Claim7.holds Tryd.pinned (.plain (OpenSpec.upto fnExactAreServersSpec)) fnExactAreServersUptoCard

/-- THE SECOND FORM's CARD OF 'laws.FnExactStoreEntry'. -/
def fnExactStoreEntryUptoCard : Claim7 := { stood := { row := fnExactStoreEntryUptoRow, standIns := [], harness := (true, "ccda7bd4b4e1fac4a412b8dbf0afc639f6604b09e364eca12f0f331d6e54901f"), looks := false }, kinds := [], alts := [], laidByText := true, laidKinds := [.data, .pinned], laidTests := true, laidLooks := .later }
def FnExactStoreEntryUptoCardSaid : Prop := Claim7.holds Tryd.pinned (.plain (OpenSpec.upto fnExactStoreEntrySpec)) fnExactStoreEntryUptoCard

/-- THE SECOND FORM's CARD OF 'laws.FnExactPutFile'. -/
def fnExactPutFileUptoCard : Claim7 := { stood := { row := fnExactPutFileUptoRow, standIns := [], harness := (true, "ccda7bd4b4e1fac4a412b8dbf0afc639f6604b09e364eca12f0f331d6e54901f"), looks := false }, kinds := [], alts := [], laidByText := true, laidKinds := [.data, .pinned], laidTests := true, laidLooks := .later }
def FnExactPutFileUptoCardSaid : Prop := Claim7.holds Tryd.pinned (.plain (OpenSpec.upto fnExactPutFileSpec)) fnExactPutFileUptoCard
end Rows
end Go.Proofs.YtoffmddkjddioaaDoor
