/-
  No cell of these rows narrows 'for every input' (looked for: loops, veiled, ifaces, maps, wideKeys, modest, calm, conditions, laid).
  DERIVED. THE GIVEN ROWS OF THIS SEAT. 10 by the template 'for every input the law returns true; each argument reads behind the call as it read before'; 0 by the template 'total and deterministic' (their statements: YtfjojpmfoingpaaTotals.lean).
  GIVEN WITH THE SEED: the statements are not yours to turn. If you find one false, say at which input.
  Laid BY PROGRAM, IN A SANDBOX (cutbox-rows.mjs): the forced cells as the released guide's own fill.sh prints them over the translation 88dfa0f16819d693… (all of the seat's roots in one cut). By AI agents, Wed Nov 11 2026. No macro, syntax, notation, axiom, sorry.
-/
import Derived.Test.YtfjojpmfoingpaaChecked
import GoSem.Claim
import GoSem.ClaimJoined
import GoSem.ClaimMapViews
import Derived.JoinedTies
import Derived.KernelRfl
namespace Go.Proofs.Ytfjojpmfoingpaa
/- THE CELL 'sum', in the pinned program and in every row, IS THE sha256 OF THE DUMP (.gsa) THAT YtfjojpmfoingpaaProg.lean LOADS. Nothing in Lean hashes anything: it is a label: what it is worth is what the hold of that sum in a sandbox is worth. -/
noncomputable def Try.pinned : Pinned := { name := "ytfjojpmfoingpaa", sum := "88dfa0f16819d6930dff7d192fd207a717bc0af9f00937df671fbce8bd890711", checked := Try.checked }
namespace Rows
def none {H : Type} : Left H := { results := [], args := [] }

/-- 'laws.FnExactNarrowPolicy': WHATEVER THE INPUT: true; the input reads as it did. -/
def fnExactNarrowPolicySpec : ChangeSpec := { name := "fnExactNarrowPolicy", fn := fun _ => fun
  | [d1, d2] => { results := [.lit (.bool true)], args := [d1, d2] }
  | _ => none }
def fnExactNarrowPolicyRow : OpenClaim := { program := "ytfjojpmfoingpaa", sum := "88dfa0f16819d6930dff7d192fd207a717bc0af9f00937df671fbce8bd890711", func := "loop.example/g00586/laws.FnExactNarrowPolicy", spec := "fnExactNarrowPolicy", apart := false }
def FnExactNarrowPolicySaid : Prop := fnExactNarrowPolicyRow.holds Try.pinned (OpenSpec.ofChange fnExactNarrowPolicySpec)

/-- ITS FALSE NEIGHBOUR: 'it returns false'. Refute it at one input. -/
def fnExactNarrowPolicyWrong : ChangeSpec := { name := "fnExactNarrowPolicy", fn := fun _ => fun
  | [d1, d2] => { results := [.lit (.bool false)], args := [d1, d2] }
  | _ => none }
def FnExactNarrowPolicyWrongFalsely : Prop := fnExactNarrowPolicyRow.holds Try.pinned (OpenSpec.ofChange fnExactNarrowPolicyWrong)

/-- 'laws.FnExactEqualServers': WHATEVER THE INPUT: true; the input reads as it did. -/
def fnExactEqualServersSpec : ChangeSpec := { name := "fnExactEqualServers", fn := fun _ => fun
  | [d1, d2] => { results := [.lit (.bool true)], args := [d1, d2] }
  | _ => none }
def fnExactEqualServersRow : OpenClaim := { program := "ytfjojpmfoingpaa", sum := "88dfa0f16819d6930dff7d192fd207a717bc0af9f00937df671fbce8bd890711", func := "loop.example/g00586/laws.FnExactEqualServers", spec := "fnExactEqualServers", unfollowed := true, recurses := true, apart := false }
def FnExactEqualServersSaid : Prop := fnExactEqualServersRow.holds Try.pinned (OpenSpec.ofChange fnExactEqualServersSpec)

/-- ITS FALSE NEIGHBOUR: 'it returns false'. Refute it at one input. -/
def fnExactEqualServersWrong : ChangeSpec := { name := "fnExactEqualServers", fn := fun _ => fun
  | [d1, d2] => { results := [.lit (.bool false)], args := [d1, d2] }
  | _ => none }
def FnExactEqualServersWrongFalsely : Prop := fnExactEqualServersRow.holds Try.pinned (OpenSpec.ofChange fnExactEqualServersWrong)

/-- 'laws.FnExactCheckRequest': WHATEVER THE INPUT: true; the input reads as it did. -/
def fnExactCheckRequestSpec : ChangeSpec := { name := "fnExactCheckRequest", fn := fun _ => fun
  | [d1, d2] => { results := [.lit (.bool true)], args := [d1, d2] }
  | _ => none }
def fnExactCheckRequestRow : OpenClaim := { program := "ytfjojpmfoingpaa", sum := "88dfa0f16819d6930dff7d192fd207a717bc0af9f00937df671fbce8bd890711", func := "loop.example/g00586/laws.FnExactCheckRequest", spec := "fnExactCheckRequest", apart := false }
def FnExactCheckRequestSaid : Prop := fnExactCheckRequestRow.holds Try.pinned (OpenSpec.ofChange fnExactCheckRequestSpec)

/-- ITS FALSE NEIGHBOUR: 'it returns false'. Refute it at one input. -/
def fnExactCheckRequestWrong : ChangeSpec := { name := "fnExactCheckRequest", fn := fun _ => fun
  | [d1, d2] => { results := [.lit (.bool false)], args := [d1, d2] }
  | _ => none }
def FnExactCheckRequestWrongFalsely : Prop := fnExactCheckRequestRow.holds Try.pinned (OpenSpec.ofChange fnExactCheckRequestWrong)

/-- 'laws.FnExactAnswerTo': WHATEVER THE INPUT: true; the input reads as it did. -/
def fnExactAnswerToSpec : ChangeSpec := { name := "fnExactAnswerTo", fn := fun _ => fun
  | [d1, d2] => { results := [.lit (.bool true)], args := [d1, d2] }
  | _ => none }
def fnExactAnswerToRow : OpenClaim := { program := "ytfjojpmfoingpaa", sum := "88dfa0f16819d6930dff7d192fd207a717bc0af9f00937df671fbce8bd890711", func := "loop.example/g00586/laws.FnExactAnswerTo", spec := "fnExactAnswerTo", unfollowed := true, recurses := true, apart := false }
def FnExactAnswerToSaid : Prop := fnExactAnswerToRow.holds Try.pinned (OpenSpec.ofChange fnExactAnswerToSpec)

/-- ITS FALSE NEIGHBOUR: 'it returns false'. Refute it at one input. -/
def fnExactAnswerToWrong : ChangeSpec := { name := "fnExactAnswerTo", fn := fun _ => fun
  | [d1, d2] => { results := [.lit (.bool false)], args := [d1, d2] }
  | _ => none }
def FnExactAnswerToWrongFalsely : Prop := fnExactAnswerToRow.holds Try.pinned (OpenSpec.ofChange fnExactAnswerToWrong)

/-- 'laws.FnExactForgetHost': WHATEVER THE INPUT: true; the input reads as it did. -/
def fnExactForgetHostSpec : ChangeSpec := { name := "fnExactForgetHost", fn := fun _ => fun
  | [d1, d2] => { results := [.lit (.bool true)], args := [d1, d2] }
  | _ => none }
def fnExactForgetHostRow : OpenClaim := { program := "ytfjojpmfoingpaa", sum := "88dfa0f16819d6930dff7d192fd207a717bc0af9f00937df671fbce8bd890711", func := "loop.example/g00586/laws.FnExactForgetHost", spec := "fnExactForgetHost", unfollowed := true, recurses := true, apart := false }
def FnExactForgetHostSaid : Prop := fnExactForgetHostRow.holds Try.pinned (OpenSpec.ofChange fnExactForgetHostSpec)

/-- ITS FALSE NEIGHBOUR: 'it returns false'. Refute it at one input. -/
def fnExactForgetHostWrong : ChangeSpec := { name := "fnExactForgetHost", fn := fun _ => fun
  | [d1, d2] => { results := [.lit (.bool false)], args := [d1, d2] }
  | _ => none }
def FnExactForgetHostWrongFalsely : Prop := fnExactForgetHostRow.holds Try.pinned (OpenSpec.ofChange fnExactForgetHostWrong)

/-- 'laws.FnExactCountGuesses': WHATEVER THE INPUT: true; the input reads as it did. -/
def fnExactCountGuessesSpec : ChangeSpec := { name := "fnExactCountGuesses", fn := fun _ => fun
  | [d] => { results := [.lit (.bool true)], args := [d] }
  | _ => none }
def fnExactCountGuessesRow : OpenClaim := { program := "ytfjojpmfoingpaa", sum := "88dfa0f16819d6930dff7d192fd207a717bc0af9f00937df671fbce8bd890711", func := "loop.example/g00586/laws.FnExactCountGuesses", spec := "fnExactCountGuesses", apart := false }
def FnExactCountGuessesSaid : Prop := fnExactCountGuessesRow.holds Try.pinned (OpenSpec.ofChange fnExactCountGuessesSpec)

/-- ITS FALSE NEIGHBOUR: 'it returns false'. Refute it at one input. -/
def fnExactCountGuessesWrong : ChangeSpec := { name := "fnExactCountGuesses", fn := fun _ => fun
  | [d] => { results := [.lit (.bool false)], args := [d] }
  | _ => none }
def FnExactCountGuessesWrongFalsely : Prop := fnExactCountGuessesRow.holds Try.pinned (OpenSpec.ofChange fnExactCountGuessesWrong)

/-- 'laws.FnExactEqualNets': WHATEVER THE INPUT: true; the input reads as it did. -/
def fnExactEqualNetsSpec : ChangeSpec := { name := "fnExactEqualNets", fn := fun _ => fun
  | [d1, d2] => { results := [.lit (.bool true)], args := [d1, d2] }
  | _ => none }
def fnExactEqualNetsRow : OpenClaim := { program := "ytfjojpmfoingpaa", sum := "88dfa0f16819d6930dff7d192fd207a717bc0af9f00937df671fbce8bd890711", func := "loop.example/g00586/laws.FnExactEqualNets", spec := "fnExactEqualNets", unfollowed := true, recurses := true, apart := false }
def FnExactEqualNetsSaid : Prop := fnExactEqualNetsRow.holds Try.pinned (OpenSpec.ofChange fnExactEqualNetsSpec)

/-- ITS FALSE NEIGHBOUR: 'it returns false'. Refute it at one input. -/
def fnExactEqualNetsWrong : ChangeSpec := { name := "fnExactEqualNets", fn := fun _ => fun
  | [d1, d2] => { results := [.lit (.bool false)], args := [d1, d2] }
  | _ => none }
def FnExactEqualNetsWrongFalsely : Prop := fnExactEqualNetsRow.holds Try.pinned (OpenSpec.ofChange fnExactEqualNetsWrong)

/-- 'laws.FnExactSentTo': WHATEVER THE INPUT: true; the input reads as it did. -/
def fnExactSentToSpec : ChangeSpec := { name := "fnExactSentTo", fn := fun _ => fun
  | [d1, d2] => { results := [.lit (.bool true)], args := [d1, d2] }
  | _ => none }
def fnExactSentToRow : OpenClaim := { program := "ytfjojpmfoingpaa", sum := "88dfa0f16819d6930dff7d192fd207a717bc0af9f00937df671fbce8bd890711", func := "loop.example/g00586/laws.FnExactSentTo", spec := "fnExactSentTo", apart := false }
def FnExactSentToSaid : Prop := fnExactSentToRow.holds Try.pinned (OpenSpec.ofChange fnExactSentToSpec)

/-- ITS FALSE NEIGHBOUR: 'it returns false'. Refute it at one input. -/
def fnExactSentToWrong : ChangeSpec := { name := "fnExactSentTo", fn := fun _ => fun
  | [d1, d2] => { results := [.lit (.bool false)], args := [d1, d2] }
  | _ => none }
def FnExactSentToWrongFalsely : Prop := fnExactSentToRow.holds Try.pinned (OpenSpec.ofChange fnExactSentToWrong)

/-- 'laws.FnExactModRequest': WHATEVER THE INPUT: true; the input reads as it did. -/
def fnExactModRequestSpec : ChangeSpec := { name := "fnExactModRequest", fn := fun _ => fun
  | [d1, d2] => { results := [.lit (.bool true)], args := [d1, d2] }
  | _ => none }
def fnExactModRequestRow : OpenClaim := { program := "ytfjojpmfoingpaa", sum := "88dfa0f16819d6930dff7d192fd207a717bc0af9f00937df671fbce8bd890711", func := "loop.example/g00586/laws.FnExactModRequest", spec := "fnExactModRequest", apart := false }
def FnExactModRequestSaid : Prop := fnExactModRequestRow.holds Try.pinned (OpenSpec.ofChange fnExactModRequestSpec)

/-- ITS FALSE NEIGHBOUR: 'it returns false'. Refute it at one input. -/
def fnExactModRequestWrong : ChangeSpec := { name := "fnExactModRequest", fn := fun _ => fun
  | [d1, d2] => { results := [.lit (.bool false)], args := [d1, d2] }
  | _ => none }
def FnExactModRequestWrongFalsely : Prop := fnExactModRequestRow.holds Try.pinned (OpenSpec.ofChange fnExactModRequestWrong)

/-- 'laws.FnExactSlotRequest': WHATEVER THE INPUT: true; the input reads as it did. -/
def fnExactSlotRequestSpec : ChangeSpec := { name := "fnExactSlotRequest", fn := fun _ => fun
  | [d1, d2] => { results := [.lit (.bool true)], args := [d1, d2] }
  | _ => none }
def fnExactSlotRequestRow : OpenClaim := { program := "ytfjojpmfoingpaa", sum := "88dfa0f16819d6930dff7d192fd207a717bc0af9f00937df671fbce8bd890711", func := "loop.example/g00586/laws.FnExactSlotRequest", spec := "fnExactSlotRequest", apart := false }
def FnExactSlotRequestSaid : Prop := fnExactSlotRequestRow.holds Try.pinned (OpenSpec.ofChange fnExactSlotRequestSpec)

/-- ITS FALSE NEIGHBOUR: 'it returns false'. Refute it at one input. -/
def fnExactSlotRequestWrong : ChangeSpec := { name := "fnExactSlotRequest", fn := fun _ => fun
  | [d1, d2] => { results := [.lit (.bool false)], args := [d1, d2] }
  | _ => none }
def FnExactSlotRequestWrongFalsely : Prop := fnExactSlotRequestRow.holds Try.pinned (OpenSpec.ofChange fnExactSlotRequestWrong)

/- THE SECOND FORM. 'bulk': how many values and letters a reading holds, each counted each time it is reached (what is shared counts as often as it is met; a slice's spare places count too). A statement '..UptoSaid' is the law's where the arguments, and the package variables that the reading takes, are together of bulk at most 1048576: NARROWER than '..Said'. Prove '..Said' where nothing that the law and all that it calls make is longer than what came in: it says more and counts as full. Else prove '..UptoSaid'. A law counts once. -/
mutual
def uptoBulk {H : Type} : DataW H → Nat
  | .lit (.string bytes) => bytes.length + 1
  | .lit _ => 1
  | .nil => 1
  | .ptr d => uptoBulk d + 1
  | .slice elems spare => uptoBulkAll elems + uptoBulkAll spare + 1
  | .agg parts => uptoBulkAll parts + 1
  | .iface _ d => uptoBulk d + 1
  | .map entries => uptoBulkEntries entries + 1
  | .held _ => 1
def uptoBulkAll {H : Type} : List (DataW H) → Nat
  | [] => 0
  | d :: r => uptoBulk d + uptoBulkAll r
def uptoBulkEntries {H : Type} : List (Lit × DataW H) → Nat
  | [] => 0
  | x :: r => uptoBulkEntry x + uptoBulkEntries r
def uptoBulkEntry {H : Type} : Lit × DataW H → Nat
  | (.string bytes, d) => bytes.length + uptoBulk d + 1
  | (_, d) => uptoBulk d + 1
 end
def uptoSmall : (H : Type) → List (DataW H) → Bool := fun _ ds => decide (uptoBulkAll ds ≤ 1048576)
def OpenSpec.upto (s : _root_.Go.ChangeSpec) : _root_.Go.OpenSpec := { _root_.Go.OpenSpec.ofChange s with cond := some uptoSmall }

/-- 'laws.FnExactNarrowPolicy', WHERE WHAT IT READS IS OF BULK AT MOST 1048576: true; the input reads as it did. -/
def fnExactNarrowPolicyUptoRow : OpenClaim := { program := "ytfjojpmfoingpaa", sum := "88dfa0f16819d6930dff7d192fd207a717bc0af9f00937df671fbce8bd890711", func := "loop.example/g00586/laws.FnExactNarrowPolicy", spec := "fnExactNarrowPolicy", apart := false, narrowed := true }
def FnExactNarrowPolicyUptoSaid : Prop := fnExactNarrowPolicyUptoRow.holds Try.pinned (OpenSpec.upto fnExactNarrowPolicySpec)

/-- 'laws.FnExactEqualServers', WHERE WHAT IT READS IS OF BULK AT MOST 1048576: true; the input reads as it did. -/
def fnExactEqualServersUptoRow : OpenClaim := { program := "ytfjojpmfoingpaa", sum := "88dfa0f16819d6930dff7d192fd207a717bc0af9f00937df671fbce8bd890711", func := "loop.example/g00586/laws.FnExactEqualServers", spec := "fnExactEqualServers", unfollowed := true, recurses := true, apart := false, narrowed := true }
def FnExactEqualServersUptoSaid : Prop := fnExactEqualServersUptoRow.holds Try.pinned (OpenSpec.upto fnExactEqualServersSpec)

/-- 'laws.FnExactCheckRequest', WHERE WHAT IT READS IS OF BULK AT MOST 1048576: true; the input reads as it did. -/
def fnExactCheckRequestUptoRow : OpenClaim := { program := "ytfjojpmfoingpaa", sum := "88dfa0f16819d6930dff7d192fd207a717bc0af9f00937df671fbce8bd890711", func := "loop.example/g00586/laws.FnExactCheckRequest", spec := "fnExactCheckRequest", apart := false, narrowed := true }
def FnExactCheckRequestUptoSaid : Prop := fnExactCheckRequestUptoRow.holds Try.pinned (OpenSpec.upto fnExactCheckRequestSpec)

/-- 'laws.FnExactAnswerTo', WHERE WHAT IT READS IS OF BULK AT MOST 1048576: true; the input reads as it did. -/
def fnExactAnswerToUptoRow : OpenClaim := { program := "ytfjojpmfoingpaa", sum := "88dfa0f16819d6930dff7d192fd207a717bc0af9f00937df671fbce8bd890711", func := "loop.example/g00586/laws.FnExactAnswerTo", spec := "fnExactAnswerTo", unfollowed := true, recurses := true, apart := false, narrowed := true }
def FnExactAnswerToUptoSaid : Prop := fnExactAnswerToUptoRow.holds Try.pinned (OpenSpec.upto fnExactAnswerToSpec)

/-- 'laws.FnExactForgetHost', WHERE WHAT IT READS IS OF BULK AT MOST 1048576: true; the input reads as it did. -/
def fnExactForgetHostUptoRow : OpenClaim := { program := "ytfjojpmfoingpaa", sum := "88dfa0f16819d6930dff7d192fd207a717bc0af9f00937df671fbce8bd890711", func := "loop.example/g00586/laws.FnExactForgetHost", spec := "fnExactForgetHost", unfollowed := true, recurses := true, apart := false, narrowed := true }
def FnExactForgetHostUptoSaid : Prop := fnExactForgetHostUptoRow.holds Try.pinned (OpenSpec.upto fnExactForgetHostSpec)

/-- 'laws.FnExactCountGuesses', WHERE WHAT IT READS IS OF BULK AT MOST 1048576: true; the input reads as it did. -/
def fnExactCountGuessesUptoRow : OpenClaim := { program := "ytfjojpmfoingpaa", sum := "88dfa0f16819d6930dff7d192fd207a717bc0af9f00937df671fbce8bd890711", func := "loop.example/g00586/laws.FnExactCountGuesses", spec := "fnExactCountGuesses", apart := false, narrowed := true }
def FnExactCountGuessesUptoSaid : Prop := fnExactCountGuessesUptoRow.holds Try.pinned (OpenSpec.upto fnExactCountGuessesSpec)

/-- 'laws.FnExactEqualNets', WHERE WHAT IT READS IS OF BULK AT MOST 1048576: true; the input reads as it did. -/
def fnExactEqualNetsUptoRow : OpenClaim := { program := "ytfjojpmfoingpaa", sum := "88dfa0f16819d6930dff7d192fd207a717bc0af9f00937df671fbce8bd890711", func := "loop.example/g00586/laws.FnExactEqualNets", spec := "fnExactEqualNets", unfollowed := true, recurses := true, apart := false, narrowed := true }
def FnExactEqualNetsUptoSaid : Prop := fnExactEqualNetsUptoRow.holds Try.pinned (OpenSpec.upto fnExactEqualNetsSpec)

/-- 'laws.FnExactSentTo', WHERE WHAT IT READS IS OF BULK AT MOST 1048576: true; the input reads as it did. -/
def fnExactSentToUptoRow : OpenClaim := { program := "ytfjojpmfoingpaa", sum := "88dfa0f16819d6930dff7d192fd207a717bc0af9f00937df671fbce8bd890711", func := "loop.example/g00586/laws.FnExactSentTo", spec := "fnExactSentTo", apart := false, narrowed := true }
def FnExactSentToUptoSaid : Prop := fnExactSentToUptoRow.holds Try.pinned (OpenSpec.upto fnExactSentToSpec)

/-- 'laws.FnExactModRequest', WHERE WHAT IT READS IS OF BULK AT MOST 1048576: true; the input reads as it did. -/
def fnExactModRequestUptoRow : OpenClaim := { program := "ytfjojpmfoingpaa", sum := "88dfa0f16819d6930dff7d192fd207a717bc0af9f00937df671fbce8bd890711", func := "loop.example/g00586/laws.FnExactModRequest", spec := "fnExactModRequest", apart := false, narrowed := true }
def FnExactModRequestUptoSaid : Prop := fnExactModRequestUptoRow.holds Try.pinned (OpenSpec.upto fnExactModRequestSpec)

/-- 'laws.FnExactSlotRequest', WHERE WHAT IT READS IS OF BULK AT MOST 1048576: true; the input reads as it did. -/
def fnExactSlotRequestUptoRow : OpenClaim := { program := "ytfjojpmfoingpaa", sum := "88dfa0f16819d6930dff7d192fd207a717bc0af9f00937df671fbce8bd890711", func := "loop.example/g00586/laws.FnExactSlotRequest", spec := "fnExactSlotRequest", apart := false, narrowed := true }
def FnExactSlotRequestUptoSaid : Prop := fnExactSlotRequestUptoRow.holds Try.pinned (OpenSpec.upto fnExactSlotRequestSpec)

end Rows
end Go.Proofs.Ytfjojpmfoingpaa
