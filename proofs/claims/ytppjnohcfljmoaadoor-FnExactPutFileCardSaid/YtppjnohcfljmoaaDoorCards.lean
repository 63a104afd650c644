/-
  DERIVED. GIVEN WITH THE SEED: THE CARDS: each row of YtppjnohcfljmoaaDoorRows.lean that lists a variable, with what it lists TIED to the program's text (the seventh form; the later family's looks); each row that meets fmt, with fmt's text TOLD by the authors' own Lean function (tested against real Go, not proved from fmt's source: count such statements apart). THE CARD IS WHAT COUNTS. Prove the row's statement (the work); the ties are given (YtppjnohcfljmoaaDoorTie.lean); close each card by the builder's one call (the guide's Derived/Test/ToyasCard.lean, 'card_holds'). Laid BY PROGRAM, IN A SANDBOX (cutbox-door.mjs). By AI agents, Wed Nov 11 2026. No macro, syntax, notation, axiom, sorry.
-/
import Derived.Test.YtppjnohcfljmoaaDoorRows
import GoSem.ClaimSeven
namespace Go.Proofs.YtppjnohcfljmoaaDoor
namespace Rows

/-- THE TIED CARD OF 'laws.FnExactCheckDigest'. -/
def fnExactCheckDigestCard : Claim7 := { stood := { row := fnExactCheckDigestRow, standIns := [], harness := (true, "890f2b9fd8153e8ce6089a04a466b87f440fa4b7e4195fab0d1d61bfbdc64df4"), looks := false }, kinds := [], alts := [], laidByText := true, laidKinds := [.data, .data, .data], laidTests := true, laidLooks := .later }
def FnExactCheckDigestCardSaid : Prop := Claim7.holds Tryd.pinned (.plain (OpenSpec.ofChange fnExactCheckDigestSpec)) fnExactCheckDigestCard

/-- THE TIED CARD OF 'laws.FnExactPutFile'. -/
def fnExactPutFileCard : Claim7 := { stood := { row := fnExactPutFileRow, standIns := [], harness := (true, "890f2b9fd8153e8ce6089a04a466b87f440fa4b7e4195fab0d1d61bfbdc64df4"), looks := false }, kinds := [], alts := [], laidByText := true, laidKinds := [.data, .pinned], laidTests := true, laidLooks := .later }
def FnExactPutFileCardSaid : Prop := Claim7.holds Tryd.pinned (.plain (OpenSpec.ofChange fnExactPutFileSpec)) fnExactPutFileCard

/-- THE SECOND FORM's CARD OF 'laws.FnExactCheckDigest'. -/
def fnExactCheckDigestUptoCard : Claim7 := { stood := { row := fnExactCheckDigestUptoRow, standIns := [], harness := (true, "890f2b9fd8153e8ce6089a04a466b87f440fa4b7e4195fab0d1d61bfbdc64df4"), looks := false }, kinds := [], alts := [], laidByText := true, laidKinds := [.data, .data, .data], laidTests := true, laidLooks := .later }
def FnExactCheckDigestUptoCardSaid : Prop := Claim7.holds Tryd.pinned (.plain (OpenSpec.upto fnExactCheckDigestSpec)) fnExactCheckDigestUptoCard

/-- THE SECOND FORM's CARD OF 'laws.FnExactPutFile'. -/
def fnExactPutFileUptoCard : Claim7 := { stood := { row := fnExactPutFileUptoRow, standIns := [], harness := (true, "890f2b9fd8153e8ce6089a04a466b87f440fa4b7e4195fab0d1d61bfbdc64df4"), looks := false }, kinds := [], alts := [], laidByText := true, laidKinds := [.data, .pinned], laidTests := true, laidLooks := .later }
def FnExactPutFileUptoCardSaid : Prop := Claim7.holds Tryd.pinned (.plain (OpenSpec.upto fnExactPutFileSpec)) fnExactPutFileUptoCard
end Rows
end Go.Proofs.YtppjnohcfljmoaaDoor
