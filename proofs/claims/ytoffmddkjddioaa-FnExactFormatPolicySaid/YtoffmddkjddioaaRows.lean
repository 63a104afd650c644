/-
  No cell of these rows narrows 'for every input' (looked for: loops, veiled, ifaces, maps, wideKeys, modest, calm, conditions, laid).
  DERIVED. THE GIVEN ROWS OF THIS SEAT. 3 by the template 'for every input the law returns true; each argument reads behind the call as it read before'; 0 by the template 'total and deterministic' (their statements: YtoffmddkjddioaaTotals.lean).
  GIVEN WITH THE SEED: the statements are not yours to turn. If you find one false, say at which input.
  Laid BY PROGRAM, IN A SANDBOX (cutbox-rows.mjs): the forced cells as the released guide's own fill.sh prints them over the translation 380b333791eb71a1… (all of the seat's roots in one cut). By AI agents, Wed Nov 11 2026. No macro, syntax, notation, axiom, sorry.
-/
import Derived.Test.YtoffmddkjddioaaChecked
import GoSem.Claim
import GoSem.ClaimJoined
import GoSem.ClaimMapViews
import Derived.JoinedTies
import Derived.KernelRfl
namespace Go.Proofs.Ytoffmddkjddioaa
/- THE CELL 'sum', in the pinned program and in every row, IS THE sha256 OF THE DUMP (.gsa) THAT YtoffmddkjddioaaProg.lean LOADS. Nothing in Lean hashes anything: it is a label: what it is worth is what the hold of that sum in a sandbox is worth. -/
noncomputable def Try.pinned : Pinned := { name := "ytoffmddkjddioaa", sum := "380b333791eb71a1d3d85c4551c4ff30184df5a62929782d91694d889ffd17b9", checked := Try.checked }
namespace Rows
def none {H : Type} : Left H := { results := [], args := [] }

/-- 'laws.FnExactFormatScript': WHATEVER THE INPUT: true; the input reads as it did. -/
def fnExactFormatScriptSpec : ChangeSpec := { name := "fnExactFormatScript", fn := fun _ => fun
  | [d] => { results := [.lit (.bool true)], args := [d] }
  | _ => none }
def fnExactFormatScriptRow : OpenClaim := { program := "ytoffmddkjddioaa", sum := "380b333791eb71a1d3d85c4551c4ff30184df5a62929782d91694d889ffd17b9", func := "loop.example/g00586/laws.FnExactFormatScript", spec := "fnExactFormatScript", inPlace := ["internal/abi.NoEscape", "internal/bytealg.MakeNoZero"], apart := false }
def FnExactFormatScriptSaid : Prop := fnExactFormatScriptRow.holds Try.pinned (OpenSpec.ofChange fnExactFormatScriptSpec)

/-- ITS FALSE NEIGHBOUR: 'it returns false'. Refute it at one input. -/
def fnExactFormatScriptWrong : ChangeSpec := { name := "fnExactFormatScript", fn := fun _ => fun
  | [d] => { results := [.lit (.bool false)], args := [d] }
  | _ => none }
def FnExactFormatScriptWrongFalsely : Prop := fnExactFormatScriptRow.holds Try.pinned (OpenSpec.ofChange fnExactFormatScriptWrong)

/-- 'laws.FnExactFormatPolicy': WHATEVER THE INPUT: true; the input reads as it did. -/
def fnExactFormatPolicySpec : ChangeSpec := { name := "fnExactFormatPolicy", fn := fun _ => fun
  | [d] => { results := [.lit (.bool true)], args := [d] }
  | _ => none }
def fnExactFormatPolicyRow : OpenClaim := { program := "ytoffmddkjddioaa", sum := "380b333791eb71a1d3d85c4551c4ff30184df5a62929782d91694d889ffd17b9", func := "loop.example/g00586/laws.FnExactFormatPolicy", spec := "fnExactFormatPolicy", inPlace := ["internal/abi.NoEscape", "internal/bytealg.MakeNoZero"], unfollowed := true, recurses := true, apart := false }
def FnExactFormatPolicySaid : Prop := fnExactFormatPolicyRow.holds Try.pinned (OpenSpec.ofChange fnExactFormatPolicySpec)

/-- ITS FALSE NEIGHBOUR: 'it returns false'. Refute it at one input. -/
def fnExactFormatPolicyWrong : ChangeSpec := { name := "fnExactFormatPolicy", fn := fun _ => fun
  | [d] => { results := [.lit (.bool false)], args := [d] }
  | _ => none }
def FnExactFormatPolicyWrongFalsely : Prop := fnExactFormatPolicyRow.holds Try.pinned (OpenSpec.ofChange fnExactFormatPolicyWrong)

/-- 'laws.FnExactSentSorted': WHATEVER THE INPUT: true; the input reads as it did. -/
def fnExactSentSortedSpec : ChangeSpec := { name := "fnExactSentSorted", fn := fun _ => fun
  | [d] => { results := [.lit (.bool true)], args := [d] }
  | _ => none }
def fnExactSentSortedRow : OpenClaim := { program := "ytoffmddkjddioaa", sum := "380b333791eb71a1d3d85c4551c4ff30184df5a62929782d91694d889ffd17b9", func := "loop.example/g00586/laws.FnExactSentSorted", spec := "fnExactSentSorted", inPlace := ["internal/bytealg.abigen_runtime_cmpstring"], unfollowed := true, recurses := true, apart := false }
def FnExactSentSortedSaid : Prop := fnExactSentSortedRow.holds Try.pinned (OpenSpec.ofChange fnExactSentSortedSpec)

/-- ITS FALSE NEIGHBOUR: 'it returns false'. Refute it at one input. -/
def fnExactSentSortedWrong : ChangeSpec := { name := "fnExactSentSorted", fn := fun _ => fun
  | [d] => { results := [.lit (.bool false)], args := [d] }
  | _ => none }
def FnExactSentSortedWrongFalsely : Prop := fnExactSentSortedRow.holds Try.pinned (OpenSpec.ofChange fnExactSentSortedWrong)

/- THE SECOND FORM. 'bulk': how many values and letters a reading holds, each counted each time it is reached (what is shared counts as often as it is met; a slice's spare places count too). A statement '..UptoSaid' is the law's where the arguments, and the package variables that the reading takes, are together of bulk at most 1048576: NARROWER than '..Said'. Prove '..Said' where nothing that the law and all that it calls make is longer than what came in: it says more and counts as full. Else prove '..UptoSaid'. A law counts once. -/
mutual
def uptoBulk {H : Type} : DataW H → Nat
  | .lit (.string bytes) => bytes.length + 1
  | .lit _ => 1
  | .nil => 1
  | .ptr d => uptoBulk d + 1
  | .slice elems spare => uptoBulkAll elems + uptoBulkAll spare + 1
  | .agg parts => uptoBulkAll parts + 1
  | .iface _ d => uptoBulk d + 1
  | .map entries => uptoBulkEntries entries + 1
  | .held _ => 1
def uptoBulkAll {H : Type} : List (DataW H) → Nat
  | [] => 0
  | d :: r => uptoBulk d + uptoBulkAll r
def uptoBulkEntries {H : Type} : List (Lit × DataW H) → Nat
  | [] => 0
  | x :: r => uptoBulkEntry x + uptoBulkEntries r
def uptoBulkEntry {H : Type} : Lit × DataW H → Nat
  | (.string bytes, d) => bytes.length + uptoBulk d + 1
  | (_, d) => uptoBulk d + 1
 end
def uptoSmall : (H : Type) → List (DataW H) → Bool := fun _ ds => decide (uptoBulkAll ds ≤ 1048576)
def OpenSpec.upto (s : _root_.Go.ChangeSpec) : _root_.Go.OpenSpec := { _root_.Go.OpenSpec.ofChange s with cond := some uptoSmall }

/-- 'laws.FnExactFormatScript', WHERE WHAT IT READS IS OF BULK AT MOST 1048576: true; the input reads as it did. -/
def fnExactFormatScriptUptoRow : OpenClaim := { program := "ytoffmddkjddioaa", sum := "380b333791eb71a1d3d85c4551c4ff30184df5a62929782d91694d889ffd17b9", func := "loop.example/g00586/laws.FnExactFormatScript", spec := "fnExactFormatScript", inPlace := ["internal/abi.NoEscape", "internal/bytealg.MakeNoZero"], apart := false, narrowed := true }
def FnExactFormatScriptUptoSaid : Prop := fnExactFormatScriptUptoRow.holds Try.pinned (OpenSpec.upto fnExactFormatScriptSpec)

/-- 'laws.FnExactFormatPolicy', WHERE WHAT IT READS IS OF BULK AT MOST 1048576: true; the input reads as it did. -/
def fnExactFormatPolicyUptoRow : OpenClaim := { program := "ytoffmddkjddioaa", sum := "380b333791eb71a1d3d85c4551c4ff30184df5a62929782d91694d889ffd17b9", func := "loop.example/g00586/laws.FnExactFormatPolicy", spec := "fnExactFormatPolicy", inPlace := ["internal/abi.NoEscape", "internal/bytealg.MakeNoZero"], unfollowed := true, recurses := true, apart := false, narrowed := true }
def FnExactFormatPolicyUptoSaid : Prop := fnExactFormatPolicyUptoRow.holds Try.pinned (OpenSpec.upto fnExactFormatPolicySpec)

/-- 'laws.FnExactSentSorted', WHERE WHAT IT READS IS OF BULK AT MOST 1048576: true; the input reads as it did. -/
def fnExactSentSortedUptoRow : OpenClaim := { program := "ytoffmddkjddioaa", sum := "380b333791eb71a1d3d85c4551c4ff30184df5a62929782d91694d889ffd17b9", func := "loop.example/g00586/laws.FnExactSentSorted", spec := "fnExactSentSorted", inPlace := ["internal/bytealg.abigen_runtime_cmpstring"], unfollowed := true, recurses := true, apart := false, narrowed := true }
def FnExactSentSortedUptoSaid : Prop := fnExactSentSortedUptoRow.holds Try.pinned (OpenSpec.upto fnExactSentSortedSpec)

end Rows
end Go.Proofs.Ytoffmddkjddioaa
