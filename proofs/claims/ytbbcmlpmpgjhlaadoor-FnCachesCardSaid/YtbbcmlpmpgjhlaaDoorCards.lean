/-
  DERIVED. GIVEN WITH THE SEED: THE CARDS: each row of YtbbcmlpmpgjhlaaDoorRows.lean that lists a variable, with what it lists TIED to the program's text (the seventh form; the later family's looks); each row that meets fmt, with fmt's text TOLD by the authors' own Lean function (tested against real Go, not proved from fmt's source: count such statements apart). THE CARD IS WHAT COUNTS. Prove the row's statement (the work); the ties are given (YtbbcmlpmpgjhlaaDoorTie.lean); close each card by the builder's one call (the guide's Derived/Test/ToyasCard.lean, 'card_holds'). Laid BY PROGRAM, IN A SANDBOX (cutbox-door.mjs). By AI agents, Wed Nov 11 2026. No macro, syntax, notation, axiom, sorry.
-/
import Derived.Test.YtbbcmlpmpgjhlaaDoorRows
import GoSem.ClaimSeven
namespace Go.Proofs.YtbbcmlpmpgjhlaaDoor
namespace Rows

/-- THE TIED CARD OF 'laws.FnPolicies'. -/
def fnPoliciesCard : Claim7 := { stood := { row := fnPoliciesRow, standIns := [], harness := (true, "2888cd0fc36e0f435765a5262e62ac1b76a6a8805d490777367180d707f59a15"), looks := false }, kinds := [], alts := [], laidByText := true, laidKinds := [.data, .pinned], laidTests := true, laidLooks := .later }
def FnPoliciesCardSaid : Prop := Claim7.holds Tryd.pinned (.plain (OpenSpec.ofChange fnPoliciesSpec)) fnPoliciesCard

/-- THE TIED CARD OF 'laws.FnCaches'. -/
def fnCachesCard : Claim7 := { stood := { row := fnCachesRow, standIns := [], harness := (true, "2888cd0fc36e0f435765a5262e62ac1b76a6a8805d490777367180d707f59a15"), looks := false }, kinds := [], alts := [], laidByText := true, laidKinds := [.data, .pinned], laidTests := true, laidLooks := .later }
def FnCachesCardSaid : Prop := Claim7.holds Tryd.pinned (.plain (OpenSpec.ofChange fnCachesSpec)) fnCachesCard

/-- THE TIED CARD OF 'laws.FnServers'. -/
def fnServersCard : Claim7 := { stood := { row := fnServersRow, standIns := [], harness := (true, "2888cd0fc36e0f435765a5262e62ac1b76a6a8805d490777367180d707f59a15"), looks := false }, kinds := [], alts := [], laidByText := true, laidKinds := [.data, .pinned], laidTests := true, laidLooks := .later }
def FnServersCardSaid : Prop := Claim7.holds Tryd.pinned (.plain (OpenSpec.ofChange fnServersSpec)) fnServersCard

/-- THE TIED CARD OF 'laws.FnDigests'. -/
def fnDigestsCard : Claim7 := { stood := { row := fnDigestsRow, standIns := [], harness := (true, "2888cd0fc36e0f435765a5262e62ac1b76a6a8805d490777367180d707f59a15"), looks := false }, kinds := [], alts := [], laidByText := true, laidKinds := [.data, .data, .data, .data, .pinned], laidTests := true, laidLooks := .later }
def FnDigestsCardSaid : Prop := Claim7.holds Tryd.pinned (.plain (OpenSpec.ofChange fnDigestsSpec)) fnDigestsCard

/-- THE SECOND FORM's CARD OF 'laws.FnPolicies'. -/
def fnPoliciesUptoCard : Claim7 := { stood := { row := fnPoliciesUptoRow, standIns := [], harness := (true, "2888cd0fc36e0f435765a5262e62ac1b76a6a8805d490777367180d707f59a15"), looks := false }, kinds := [], alts := [], laidByText := true, laidKinds := [.data, .pinned], laidTests := true, laidLooks := .later }
def FnPoliciesUptoCardSaid : Prop := Claim7.holds Tryd.pinned (.plain (OpenSpec.upto fnPoliciesSpec)) fnPoliciesUptoCard

/-- THE SECOND FORM's CARD OF 'laws.FnCaches'. -/
def fnCachesUptoCard : Claim7 := { stood := { row := fnCachesUptoRow, standIns := [], harness := (true, "2888cd0fc36e0f435765a5262e62ac1b76a6a8805d490777367180d707f59a15"), looks := false }, kinds := [], alts := [], laidByText := true, laidKinds := [.data, .pinned], laidTests := true, laidLooks := .later }
def FnCachesUptoCardSaid : Prop := Claim7.holds Tryd.pinned (.plain (OpenSpec.upto fnCachesSpec)) fnCachesUptoCard

/-- THE SECOND FORM's CARD OF 'laws.FnServers'. -/
def fnServersUptoCard : Claim7 := { stood := { row := fnServersUptoRow, standIns := [], harness := (true, "2888cd0fc36e0f435765a5262e62ac1b76a6a8805d490777367180d707f59a15"), looks := false }, kinds := [], alts := [], laidByText := true, laidKinds := [.data, .pinned], laidTests := true, laidLooks := .later }
def FnServersUptoCardSaid : Prop := Claim7.holds Tryd.pinned (.plain (OpenSpec.upto fnServersSpec)) fnServersUptoCard

/-- THE SECOND FORM's CARD OF 'laws.FnDigests'. -/
def fnDigestsUptoCard : Claim7 := { stood := { row := fnDigestsUptoRow, standIns := [], harness := (true, "2888cd0fc36e0f435765a5262e62ac1b76a6a8805d490777367180d707f59a15"), looks := false }, kinds := [], alts := [], laidByText := true, laidKinds := [.data, .data, .data, .data, .pinned], laidTests := true, laidLooks := .later }
def FnDigestsUptoCardSaid : Prop := Claim7.holds Tryd.pinned (.plain (OpenSpec.upto fnDigestsSpec)) fnDigestsUptoCard
end Rows
end Go.Proofs.YtbbcmlpmpgjhlaaDoor
