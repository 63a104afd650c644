/-
  No cell of these rows narrows 'for every input' (looked for: loops, veiled, ifaces, maps, wideKeys, modest, calm, conditions, laid).
  DERIVED. THE GIVEN ROWS OF THIS SEAT. 7 by the template 'for every input the law returns true; each argument reads behind the call as it read before'; 0 by the template 'total and deterministic' (their statements: YtchijbcooilhnaaTotals.lean).
  GIVEN WITH THE SEED: the statements are not yours to turn. If you find one false, say at which input.
  Laid BY PROGRAM, IN A SANDBOX (cutbox-rows.mjs): the forced cells as the released guide's own fill.sh prints them over the translation 8187eb35bdd3ba47… (all of the seat's roots in one cut). By AI agents, Wed Nov 11 2026. No macro, syntax, notation, axiom, sorry.
-/
import Derived.Test.YtchijbcooilhnaaChecked
import GoSem.Claim
import GoSem.ClaimJoined
import GoSem.ClaimMapViews
import Derived.JoinedTies
import Derived.KernelRfl
namespace Go.Proofs.Ytchijbcooilhnaa
/- THE CELL 'sum', in the pinned program and in every row, IS THE sha256 OF THE DUMP (.gsa) THAT YtchijbcooilhnaaProg.lean LOADS. Nothing in Lean hashes anything: it is a label: what it is worth is what the hold of that sum in a sandbox is worth. -/
noncomputable def Try.pinned : Pinned := { name := "ytchijbcooilhnaa", sum := "8187eb35bdd3ba478d04581913be8cfba4b1720fd4cbefe05dd47a64854429e8", checked := Try.checked }
namespace Rows
def none {H : Type} : Left H := { results := [], args := [] }

/-- 'laws.FnExactKindName': WHATEVER THE INPUT: true; the input reads as it did. -/
def fnExactKindNameSpec : ChangeSpec := { name := "fnExactKindName", fn := fun _ => fun
  | [d] => { results := [.lit (.bool true)], args := [d] }
  | _ => none }
def fnExactKindNameRow : OpenClaim := { program := "ytchijbcooilhnaa", sum := "8187eb35bdd3ba478d04581913be8cfba4b1720fd4cbefe05dd47a64854429e8", func := "loop.example/g00586/laws.FnExactKindName", spec := "fnExactKindName", apart := false }
def FnExactKindNameSaid : Prop := fnExactKindNameRow.holds Try.pinned (OpenSpec.ofChange fnExactKindNameSpec)

/-- ITS FALSE NEIGHBOUR: 'it returns false'. Refute it at one input. -/
def fnExactKindNameWrong : ChangeSpec := { name := "fnExactKindName", fn := fun _ => fun
  | [d] => { results := [.lit (.bool false)], args := [d] }
  | _ => none }
def FnExactKindNameWrongFalsely : Prop := fnExactKindNameRow.holds Try.pinned (OpenSpec.ofChange fnExactKindNameWrong)

/-- 'laws.FnExactVerdictName': WHATEVER THE INPUT: true; the input reads as it did. -/
def fnExactVerdictNameSpec : ChangeSpec := { name := "fnExactVerdictName", fn := fun _ => fun
  | [d] => { results := [.lit (.bool true)], args := [d] }
  | _ => none }
def fnExactVerdictNameRow : OpenClaim := { program := "ytchijbcooilhnaa", sum := "8187eb35bdd3ba478d04581913be8cfba4b1720fd4cbefe05dd47a64854429e8", func := "loop.example/g00586/laws.FnExactVerdictName", spec := "fnExactVerdictName", apart := false }
def FnExactVerdictNameSaid : Prop := fnExactVerdictNameRow.holds Try.pinned (OpenSpec.ofChange fnExactVerdictNameSpec)

/-- ITS FALSE NEIGHBOUR: 'it returns false'. Refute it at one input. -/
def fnExactVerdictNameWrong : ChangeSpec := { name := "fnExactVerdictName", fn := fun _ => fun
  | [d] => { results := [.lit (.bool false)], args := [d] }
  | _ => none }
def FnExactVerdictNameWrongFalsely : Prop := fnExactVerdictNameRow.holds Try.pinned (OpenSpec.ofChange fnExactVerdictNameWrong)

/-- 'laws.FnExactKindOfMode': WHATEVER THE INPUT: true; the input reads as it did. -/
def fnExactKindOfModeSpec : ChangeSpec := { name := "fnExactKindOfMode", fn := fun _ => fun
  | [d] => { results := [.lit (.bool true)], args := [d] }
  | _ => none }
def fnExactKindOfModeRow : OpenClaim := { program := "ytchijbcooilhnaa", sum := "8187eb35bdd3ba478d04581913be8cfba4b1720fd4cbefe05dd47a64854429e8", func := "loop.example/g00586/laws.FnExactKindOfMode", spec := "fnExactKindOfMode", apart := false }
def FnExactKindOfModeSaid : Prop := fnExactKindOfModeRow.holds Try.pinned (OpenSpec.ofChange fnExactKindOfModeSpec)

/-- ITS FALSE NEIGHBOUR: 'it returns false'. Refute it at one input. -/
def fnExactKindOfModeWrong : ChangeSpec := { name := "fnExactKindOfMode", fn := fun _ => fun
  | [d] => { results := [.lit (.bool false)], args := [d] }
  | _ => none }
def FnExactKindOfModeWrongFalsely : Prop := fnExactKindOfModeRow.holds Try.pinned (OpenSpec.ofChange fnExactKindOfModeWrong)

/-- 'laws.FnExactNotFound': WHATEVER THE INPUT: true; the input reads as it did. -/
def fnExactNotFoundSpec : ChangeSpec := { name := "fnExactNotFound", fn := fun _ => fun
  | [] => { results := [.lit (.bool true)], args := [] }
  | _ => none }
def fnExactNotFoundRow : OpenClaim := { program := "ytchijbcooilhnaa", sum := "8187eb35bdd3ba478d04581913be8cfba4b1720fd4cbefe05dd47a64854429e8", func := "loop.example/g00586/laws.FnExactNotFound", spec := "fnExactNotFound", apart := false }
def FnExactNotFoundSaid : Prop := fnExactNotFoundRow.holds Try.pinned (OpenSpec.ofChange fnExactNotFoundSpec)

/-- ITS FALSE NEIGHBOUR: 'it returns false'. Refute it at one input. -/
def fnExactNotFoundWrong : ChangeSpec := { name := "fnExactNotFound", fn := fun _ => fun
  | [] => { results := [.lit (.bool false)], args := [] }
  | _ => none }
def FnExactNotFoundWrongFalsely : Prop := fnExactNotFoundRow.holds Try.pinned (OpenSpec.ofChange fnExactNotFoundWrong)

/-- 'laws.FnExactEqualResponses': WHATEVER THE INPUT: true; the input reads as it did. -/
def fnExactEqualResponsesSpec : ChangeSpec := { name := "fnExactEqualResponses", fn := fun _ => fun
  | [d1, d2] => { results := [.lit (.bool true)], args := [d1, d2] }
  | _ => none }
def fnExactEqualResponsesRow : OpenClaim := { program := "ytchijbcooilhnaa", sum := "8187eb35bdd3ba478d04581913be8cfba4b1720fd4cbefe05dd47a64854429e8", func := "loop.example/g00586/laws.FnExactEqualResponses", spec := "fnExactEqualResponses", apart := false }
def FnExactEqualResponsesSaid : Prop := fnExactEqualResponsesRow.holds Try.pinned (OpenSpec.ofChange fnExactEqualResponsesSpec)

/-- ITS FALSE NEIGHBOUR: 'it returns false'. Refute it at one input. -/
def fnExactEqualResponsesWrong : ChangeSpec := { name := "fnExactEqualResponses", fn := fun _ => fun
  | [d1, d2] => { results := [.lit (.bool false)], args := [d1, d2] }
  | _ => none }
def FnExactEqualResponsesWrongFalsely : Prop := fnExactEqualResponsesRow.holds Try.pinned (OpenSpec.ofChange fnExactEqualResponsesWrong)

/-- 'laws.FnExactSizeResponse': WHATEVER THE INPUT: true; the input reads as it did. -/
def fnExactSizeResponseSpec : ChangeSpec := { name := "fnExactSizeResponse", fn := fun _ => fun
  | [d] => { results := [.lit (.bool true)], args := [d] }
  | _ => none }
def fnExactSizeResponseRow : OpenClaim := { program := "ytchijbcooilhnaa", sum := "8187eb35bdd3ba478d04581913be8cfba4b1720fd4cbefe05dd47a64854429e8", func := "loop.example/g00586/laws.FnExactSizeResponse", spec := "fnExactSizeResponse", apart := false }
def FnExactSizeResponseSaid : Prop := fnExactSizeResponseRow.holds Try.pinned (OpenSpec.ofChange fnExactSizeResponseSpec)

/-- ITS FALSE NEIGHBOUR: 'it returns false'. Refute it at one input. -/
def fnExactSizeResponseWrong : ChangeSpec := { name := "fnExactSizeResponse", fn := fun _ => fun
  | [d] => { results := [.lit (.bool false)], args := [d] }
  | _ => none }
def FnExactSizeResponseWrongFalsely : Prop := fnExactSizeResponseRow.holds Try.pinned (OpenSpec.ofChange fnExactSizeResponseWrong)

/-- 'laws.FnExactFitsKind': WHATEVER THE INPUT: true; the input reads as it did. -/
def fnExactFitsKindSpec : ChangeSpec := { name := "fnExactFitsKind", fn := fun _ => fun
  | [d1, d2] => { results := [.lit (.bool true)], args := [d1, d2] }
  | _ => none }
def fnExactFitsKindRow : OpenClaim := { program := "ytchijbcooilhnaa", sum := "8187eb35bdd3ba478d04581913be8cfba4b1720fd4cbefe05dd47a64854429e8", func := "loop.example/g00586/laws.FnExactFitsKind", spec := "fnExactFitsKind", apart := false }
def FnExactFitsKindSaid : Prop := fnExactFitsKindRow.holds Try.pinned (OpenSpec.ofChange fnExactFitsKindSpec)

/-- ITS FALSE NEIGHBOUR: 'it returns false'. Refute it at one input. -/
def fnExactFitsKindWrong : ChangeSpec := { name := "fnExactFitsKind", fn := fun _ => fun
  | [d1, d2] => { results := [.lit (.bool false)], args := [d1, d2] }
  | _ => none }
def FnExactFitsKindWrongFalsely : Prop := fnExactFitsKindRow.holds Try.pinned (OpenSpec.ofChange fnExactFitsKindWrong)

/- THE SECOND FORM. 'bulk': how many values and letters a reading holds, each counted each time it is reached (what is shared counts as often as it is met; a slice's spare places count too). A statement '..UptoSaid' is the law's where the arguments, and the package variables that the reading takes, are together of bulk at most 1048576: NARROWER than '..Said'. Prove '..Said' where nothing that the law and all that it calls make is longer than what came in: it says more and counts as full. Else prove '..UptoSaid'. A law counts once. -/
mutual
def uptoBulk {H : Type} : DataW H → Nat
  | .lit (.string bytes) => bytes.length + 1
  | .lit _ => 1
  | .nil => 1
  | .ptr d => uptoBulk d + 1
  | .slice elems spare => uptoBulkAll elems + uptoBulkAll spare + 1
  | .agg parts => uptoBulkAll parts + 1
  | .iface _ d => uptoBulk d + 1
  | .map entries => uptoBulkEntries entries + 1
  | .held _ => 1
def uptoBulkAll {H : Type} : List (DataW H) → Nat
  | [] => 0
  | d :: r => uptoBulk d + uptoBulkAll r
def uptoBulkEntries {H : Type} : List (Lit × DataW H) → Nat
  | [] => 0
  | x :: r => uptoBulkEntry x + uptoBulkEntries r
def uptoBulkEntry {H : Type} : Lit × DataW H → Nat
  | (.string bytes, d) => bytes.length + uptoBulk d + 1
  | (_, d) => uptoBulk d + 1
 end
def uptoSmall : (H : Type) → List (DataW H) → Bool := fun _ ds => decide (uptoBulkAll ds ≤ 1048576)
def OpenSpec.upto (s : _root_.Go.ChangeSpec) : _root_.Go.OpenSpec := { _root_.Go.OpenSpec.ofChange s with cond := some uptoSmall }

/-- 'laws.FnExactKindName', WHERE WHAT IT READS IS OF BULK AT MOST 1048576: true; the input reads as it did. -/
def fnExactKindNameUptoRow : OpenClaim := { program := "ytchijbcooilhnaa", sum := "8187eb35bdd3ba478d04581913be8cfba4b1720fd4cbefe05dd47a64854429e8", func := "loop.example/g00586/laws.FnExactKindName", spec := "fnExactKindName", apart := false, narrowed := true }
def FnExactKindNameUptoSaid : Prop := fnExactKindNameUptoRow.holds Try.pinned (OpenSpec.upto fnExactKindNameSpec)

/-- 'laws.FnExactVerdictName', WHERE WHAT IT READS IS OF BULK AT MOST 1048576: true; the input reads as it did. -/
def fnExactVerdictNameUptoRow : OpenClaim := { program := "ytchijbcooilhnaa", sum := "8187eb35bdd3ba478d04581913be8cfba4b1720fd4cbefe05dd47a64854429e8", func := "loop.example/g00586/laws.FnExactVerdictName", spec := "fnExactVerdictName", apart := false, narrowed := true }
def FnExactVerdictNameUptoSaid : Prop := fnExactVerdictNameUptoRow.holds Try.pinned (OpenSpec.upto fnExactVerdictNameSpec)

/-- 'laws.FnExactKindOfMode', WHERE WHAT IT READS IS OF BULK AT MOST 1048576: true; the input reads as it did. -/
def fnExactKindOfModeUptoRow : OpenClaim := { program := "ytchijbcooilhnaa", sum := "8187eb35bdd3ba478d04581913be8cfba4b1720fd4cbefe05dd47a64854429e8", func := "loop.example/g00586/laws.FnExactKindOfMode", spec := "fnExactKindOfMode", apart := false, narrowed := true }
def FnExactKindOfModeUptoSaid : Prop := fnExactKindOfModeUptoRow.holds Try.pinned (OpenSpec.upto fnExactKindOfModeSpec)

/-- 'laws.FnExactNotFound', WHERE WHAT IT READS IS OF BULK AT MOST 1048576: true; the input reads as it did. -/
def fnExactNotFoundUptoRow : OpenClaim := { program := "ytchijbcooilhnaa", sum := "8187eb35bdd3ba478d04581913be8cfba4b1720fd4cbefe05dd47a64854429e8", func := "loop.example/g00586/laws.FnExactNotFound", spec := "fnExactNotFound", apart := false, narrowed := true }
def FnExactNotFoundUptoSaid : Prop := fnExactNotFoundUptoRow.holds Try.pinned (OpenSpec.upto fnExactNotFoundSpec)

/-- 'laws.FnExactEqualResponses', WHERE WHAT IT READS IS OF BULK AT MOST 1048576: true; the input reads as it did. -/
def fnExactEqualResponsesUptoRow : OpenClaim := { program := "ytchijbcooilhnaa", sum := "8187eb35bdd3ba478d04581913be8cfba4b1720fd4cbefe05dd47a64854429e8", func := "loop.example/g00586/laws.FnExactEqualResponses", spec := "fnExactEqualResponses", apart := false, narrowed := true }
def FnExactEqualResponsesUptoSaid : Prop := fnExactEqualResponsesUptoRow.holds Try.pinned (OpenSpec.upto fnExactEqualResponsesSpec)

/-- 'laws.FnExactSizeResponse', WHERE WHAT IT READS IS OF BULK AT MOST 1048576: true; the input reads as it did. -/
def fnExactSizeResponseUptoRow : OpenClaim := { program := "ytchijbcooilhnaa", sum := "8187eb35bdd3ba478d04581913be8cfba4b1720fd4cbefe05dd47a64854429e8", func := "loop.example/g00586/laws.FnExactSizeResponse", spec := "fnExactSizeResponse", apart := false, narrowed := true }
def FnExactSizeResponseUptoSaid : Prop := fnExactSizeResponseUptoRow.holds Try.pinned (OpenSpec.upto fnExactSizeResponseSpec)

/-- 'laws.FnExactFitsKind', WHERE WHAT IT READS IS OF BULK AT MOST 1048576: true; the input reads as it did. -/
def fnExactFitsKindUptoRow : OpenClaim := { program := "ytchijbcooilhnaa", sum := "8187eb35bdd3ba478d04581913be8cfba4b1720fd4cbefe05dd47a64854429e8", func := "loop.example/g00586/laws.FnExactFitsKind", spec := "fnExactFitsKind", apart := false, narrowed := true }
def FnExactFitsKindUptoSaid : Prop := fnExactFitsKindUptoRow.holds Try.pinned (OpenSpec.upto fnExactFitsKindSpec)

end Rows
end Go.Proofs.Ytchijbcooilhnaa
