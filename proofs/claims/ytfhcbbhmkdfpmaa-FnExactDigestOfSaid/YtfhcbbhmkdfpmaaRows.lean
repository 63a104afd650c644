/-
  No cell of these rows narrows 'for every input' (looked for: loops, veiled, ifaces, maps, wideKeys, modest, calm, conditions, laid).
  DERIVED. THE GIVEN ROWS OF THIS SEAT. 12 by the template 'for every input the law returns true; each argument reads behind the call as it read before'; 0 by the template 'total and deterministic' (their statements: YtfhcbbhmkdfpmaaTotals.lean).
  GIVEN WITH THE SEED: the statements are not yours to turn. If you find one false, say at which input.
  Laid BY PROGRAM, IN A SANDBOX (cutbox-rows.mjs): the forced cells as the released guide's own fill.sh prints them over the translation 3451c4252be3f5c7… (all of the seat's roots in one cut). By AI agents, Wed Nov 11 2026. No macro, syntax, notation, axiom, sorry.
-/
import Derived.Test.YtfhcbbhmkdfpmaaChecked
import GoSem.Claim
import GoSem.ClaimJoined
import GoSem.ClaimMapViews
import Derived.JoinedTies
import Derived.KernelRfl
namespace Go.Proofs.Ytfhcbbhmkdfpmaa
/- THE CELL 'sum', in the pinned program and in every row, IS THE sha256 OF THE DUMP (.gsa) THAT YtfhcbbhmkdfpmaaProg.lean LOADS. Nothing in Lean hashes anything: it is a label: what it is worth is what the hold of that sum in a sandbox is worth. -/
noncomputable def Try.pinned : Pinned := { name := "ytfhcbbhmkdfpmaa", sum := "3451c4252be3f5c74e4657309603820dd4f87d45757aeb891d3cc8ab1d97e4c8", checked := Try.checked }
namespace Rows
def none {H : Type} : Left H := { results := [], args := [] }

/-- 'laws.FnExactSameRequest': WHATEVER THE INPUT: true; the input reads as it did. -/
def fnExactSameRequestSpec : ChangeSpec := { name := "fnExactSameRequest", fn := fun _ => fun
  | [d1, d2] => { results := [.lit (.bool true)], args := [d1, d2] }
  | _ => none }
def fnExactSameRequestRow : OpenClaim := { program := "ytfhcbbhmkdfpmaa", sum := "3451c4252be3f5c74e4657309603820dd4f87d45757aeb891d3cc8ab1d97e4c8", func := "loop.example/g00586/laws.FnExactSameRequest", spec := "fnExactSameRequest", apart := false }
def FnExactSameRequestSaid : Prop := fnExactSameRequestRow.holds Try.pinned (OpenSpec.ofChange fnExactSameRequestSpec)

/-- ITS FALSE NEIGHBOUR: 'it returns false'. Refute it at one input. -/
def fnExactSameRequestWrong : ChangeSpec := { name := "fnExactSameRequest", fn := fun _ => fun
  | [d1, d2] => { results := [.lit (.bool false)], args := [d1, d2] }
  | _ => none }
def FnExactSameRequestWrongFalsely : Prop := fnExactSameRequestRow.holds Try.pinned (OpenSpec.ofChange fnExactSameRequestWrong)

/-- 'laws.FnExactDigestOf': WHATEVER THE INPUT: true; the input reads as it did. -/
def fnExactDigestOfSpec : ChangeSpec := { name := "fnExactDigestOf", fn := fun _ => fun
  | [d] => { results := [.lit (.bool true)], args := [d] }
  | _ => none }
def fnExactDigestOfRow : OpenClaim := { program := "ytfhcbbhmkdfpmaa", sum := "3451c4252be3f5c74e4657309603820dd4f87d45757aeb891d3cc8ab1d97e4c8", func := "loop.example/g00586/laws.FnExactDigestOf", spec := "fnExactDigestOf", apart := false }
def FnExactDigestOfSaid : Prop := fnExactDigestOfRow.holds Try.pinned (OpenSpec.ofChange fnExactDigestOfSpec)

/-- ITS FALSE NEIGHBOUR: 'it returns false'. Refute it at one input. -/
def fnExactDigestOfWrong : ChangeSpec := { name := "fnExactDigestOf", fn := fun _ => fun
  | [d] => { results := [.lit (.bool false)], args := [d] }
  | _ => none }
def FnExactDigestOfWrongFalsely : Prop := fnExactDigestOfRow.holds Try.pinned (OpenSpec.ofChange fnExactDigestOfWrong)

/-- 'laws.FnExactIsPassive': WHATEVER THE INPUT: true; the input reads as it did. -/
def fnExactIsPassiveSpec : ChangeSpec := { name := "fnExactIsPassive", fn := fun _ => fun
  | [d] => { results := [.lit (.bool true)], args := [d] }
  | _ => none }
def fnExactIsPassiveRow : OpenClaim := { program := "ytfhcbbhmkdfpmaa", sum := "3451c4252be3f5c74e4657309603820dd4f87d45757aeb891d3cc8ab1d97e4c8", func := "loop.example/g00586/laws.FnExactIsPassive", spec := "fnExactIsPassive", apart := false }
def FnExactIsPassiveSaid : Prop := fnExactIsPassiveRow.holds Try.pinned (OpenSpec.ofChange fnExactIsPassiveSpec)

/-- ITS FALSE NEIGHBOUR: 'it returns false'. Refute it at one input. -/
def fnExactIsPassiveWrong : ChangeSpec := { name := "fnExactIsPassive", fn := fun _ => fun
  | [d] => { results := [.lit (.bool false)], args := [d] }
  | _ => none }
def FnExactIsPassiveWrongFalsely : Prop := fnExactIsPassiveRow.holds Try.pinned (OpenSpec.ofChange fnExactIsPassiveWrong)

/-- 'laws.FnExactAllowsInline': WHATEVER THE INPUT: true; the input reads as it did. -/
def fnExactAllowsInlineSpec : ChangeSpec := { name := "fnExactAllowsInline", fn := fun _ => fun
  | [d1, d2] => { results := [.lit (.bool true)], args := [d1, d2] }
  | _ => none }
def fnExactAllowsInlineRow : OpenClaim := { program := "ytfhcbbhmkdfpmaa", sum := "3451c4252be3f5c74e4657309603820dd4f87d45757aeb891d3cc8ab1d97e4c8", func := "loop.example/g00586/laws.FnExactAllowsInline", spec := "fnExactAllowsInline", apart := false }
def FnExactAllowsInlineSaid : Prop := fnExactAllowsInlineRow.holds Try.pinned (OpenSpec.ofChange fnExactAllowsInlineSpec)

/-- ITS FALSE NEIGHBOUR: 'it returns false'. Refute it at one input. -/
def fnExactAllowsInlineWrong : ChangeSpec := { name := "fnExactAllowsInline", fn := fun _ => fun
  | [d1, d2] => { results := [.lit (.bool false)], args := [d1, d2] }
  | _ => none }
def FnExactAllowsInlineWrongFalsely : Prop := fnExactAllowsInlineRow.holds Try.pinned (OpenSpec.ofChange fnExactAllowsInlineWrong)

/-- 'laws.FnExactIsRequest': WHATEVER THE INPUT: true; the input reads as it did. -/
def fnExactIsRequestSpec : ChangeSpec := { name := "fnExactIsRequest", fn := fun _ => fun
  | [d] => { results := [.lit (.bool true)], args := [d] }
  | _ => none }
def fnExactIsRequestRow : OpenClaim := { program := "ytfhcbbhmkdfpmaa", sum := "3451c4252be3f5c74e4657309603820dd4f87d45757aeb891d3cc8ab1d97e4c8", func := "loop.example/g00586/laws.FnExactIsRequest", spec := "fnExactIsRequest", apart := false }
def FnExactIsRequestSaid : Prop := fnExactIsRequestRow.holds Try.pinned (OpenSpec.ofChange fnExactIsRequestSpec)

/-- ITS FALSE NEIGHBOUR: 'it returns false'. Refute it at one input. -/
def fnExactIsRequestWrong : ChangeSpec := { name := "fnExactIsRequest", fn := fun _ => fun
  | [d] => { results := [.lit (.bool false)], args := [d] }
  | _ => none }
def FnExactIsRequestWrongFalsely : Prop := fnExactIsRequestRow.holds Try.pinned (OpenSpec.ofChange fnExactIsRequestWrong)

/-- 'laws.FnExactCanGuess': WHATEVER THE INPUT: true; the input reads as it did. -/
def fnExactCanGuessSpec : ChangeSpec := { name := "fnExactCanGuess", fn := fun _ => fun
  | [d] => { results := [.lit (.bool true)], args := [d] }
  | _ => none }
def fnExactCanGuessRow : OpenClaim := { program := "ytfhcbbhmkdfpmaa", sum := "3451c4252be3f5c74e4657309603820dd4f87d45757aeb891d3cc8ab1d97e4c8", func := "loop.example/g00586/laws.FnExactCanGuess", spec := "fnExactCanGuess", apart := false }
def FnExactCanGuessSaid : Prop := fnExactCanGuessRow.holds Try.pinned (OpenSpec.ofChange fnExactCanGuessSpec)

/-- ITS FALSE NEIGHBOUR: 'it returns false'. Refute it at one input. -/
def fnExactCanGuessWrong : ChangeSpec := { name := "fnExactCanGuess", fn := fun _ => fun
  | [d] => { results := [.lit (.bool false)], args := [d] }
  | _ => none }
def FnExactCanGuessWrongFalsely : Prop := fnExactCanGuessRow.holds Try.pinned (OpenSpec.ofChange fnExactCanGuessWrong)

/-- 'laws.FnExactEqualPolicies': WHATEVER THE INPUT: true; the input reads as it did. -/
def fnExactEqualPoliciesSpec : ChangeSpec := { name := "fnExactEqualPolicies", fn := fun _ => fun
  | [d1, d2] => { results := [.lit (.bool true)], args := [d1, d2] }
  | _ => none }
def fnExactEqualPoliciesRow : OpenClaim := { program := "ytfhcbbhmkdfpmaa", sum := "3451c4252be3f5c74e4657309603820dd4f87d45757aeb891d3cc8ab1d97e4c8", func := "loop.example/g00586/laws.FnExactEqualPolicies", spec := "fnExactEqualPolicies", apart := false }
def FnExactEqualPoliciesSaid : Prop := fnExactEqualPoliciesRow.holds Try.pinned (OpenSpec.ofChange fnExactEqualPoliciesSpec)

/-- ITS FALSE NEIGHBOUR: 'it returns false'. Refute it at one input. -/
def fnExactEqualPoliciesWrong : ChangeSpec := { name := "fnExactEqualPolicies", fn := fun _ => fun
  | [d1, d2] => { results := [.lit (.bool false)], args := [d1, d2] }
  | _ => none }
def FnExactEqualPoliciesWrongFalsely : Prop := fnExactEqualPoliciesRow.holds Try.pinned (OpenSpec.ofChange fnExactEqualPoliciesWrong)

/-- 'laws.FnExactAllows': WHATEVER THE INPUT: true; the input reads as it did. -/
def fnExactAllowsSpec : ChangeSpec := { name := "fnExactAllows", fn := fun _ => fun
  | [d1, d2, d3] => { results := [.lit (.bool true)], args := [d1, d2, d3] }
  | _ => none }
def fnExactAllowsRow : OpenClaim := { program := "ytfhcbbhmkdfpmaa", sum := "3451c4252be3f5c74e4657309603820dd4f87d45757aeb891d3cc8ab1d97e4c8", func := "loop.example/g00586/laws.FnExactAllows", spec := "fnExactAllows", apart := false }
def FnExactAllowsSaid : Prop := fnExactAllowsRow.holds Try.pinned (OpenSpec.ofChange fnExactAllowsSpec)

/-- ITS FALSE NEIGHBOUR: 'it returns false'. Refute it at one input. -/
def fnExactAllowsWrong : ChangeSpec := { name := "fnExactAllows", fn := fun _ => fun
  | [d1, d2, d3] => { results := [.lit (.bool false)], args := [d1, d2, d3] }
  | _ => none }
def FnExactAllowsWrongFalsely : Prop := fnExactAllowsRow.holds Try.pinned (OpenSpec.ofChange fnExactAllowsWrong)

/-- 'laws.FnExactIsPolicy': WHATEVER THE INPUT: true; the input reads as it did. -/
def fnExactIsPolicySpec : ChangeSpec := { name := "fnExactIsPolicy", fn := fun _ => fun
  | [d] => { results := [.lit (.bool true)], args := [d] }
  | _ => none }
def fnExactIsPolicyRow : OpenClaim := { program := "ytfhcbbhmkdfpmaa", sum := "3451c4252be3f5c74e4657309603820dd4f87d45757aeb891d3cc8ab1d97e4c8", func := "loop.example/g00586/laws.FnExactIsPolicy", spec := "fnExactIsPolicy", unfollowed := true, recurses := true, apart := false }
def FnExactIsPolicySaid : Prop := fnExactIsPolicyRow.holds Try.pinned (OpenSpec.ofChange fnExactIsPolicySpec)

/-- ITS FALSE NEIGHBOUR: 'it returns false'. Refute it at one input. -/
def fnExactIsPolicyWrong : ChangeSpec := { name := "fnExactIsPolicy", fn := fun _ => fun
  | [d] => { results := [.lit (.bool false)], args := [d] }
  | _ => none }
def FnExactIsPolicyWrongFalsely : Prop := fnExactIsPolicyRow.holds Try.pinned (OpenSpec.ofChange fnExactIsPolicyWrong)

/-- 'laws.FnExactFreshEntries': WHATEVER THE INPUT: true; the input reads as it did. -/
def fnExactFreshEntriesSpec : ChangeSpec := { name := "fnExactFreshEntries", fn := fun _ => fun
  | [d1, d2] => { results := [.lit (.bool true)], args := [d1, d2] }
  | _ => none }
def fnExactFreshEntriesRow : OpenClaim := { program := "ytfhcbbhmkdfpmaa", sum := "3451c4252be3f5c74e4657309603820dd4f87d45757aeb891d3cc8ab1d97e4c8", func := "loop.example/g00586/laws.FnExactFreshEntries", spec := "fnExactFreshEntries", apart := false }
def FnExactFreshEntriesSaid : Prop := fnExactFreshEntriesRow.holds Try.pinned (OpenSpec.ofChange fnExactFreshEntriesSpec)

/-- ITS FALSE NEIGHBOUR: 'it returns false'. Refute it at one input. -/
def fnExactFreshEntriesWrong : ChangeSpec := { name := "fnExactFreshEntries", fn := fun _ => fun
  | [d1, d2] => { results := [.lit (.bool false)], args := [d1, d2] }
  | _ => none }
def FnExactFreshEntriesWrongFalsely : Prop := fnExactFreshEntriesRow.holds Try.pinned (OpenSpec.ofChange fnExactFreshEntriesWrong)

/-- 'laws.FnExactEqualCaches': WHATEVER THE INPUT: true; the input reads as it did. -/
def fnExactEqualCachesSpec : ChangeSpec := { name := "fnExactEqualCaches", fn := fun _ => fun
  | [d1, d2] => { results := [.lit (.bool true)], args := [d1, d2] }
  | _ => none }
def fnExactEqualCachesRow : OpenClaim := { program := "ytfhcbbhmkdfpmaa", sum := "3451c4252be3f5c74e4657309603820dd4f87d45757aeb891d3cc8ab1d97e4c8", func := "loop.example/g00586/laws.FnExactEqualCaches", spec := "fnExactEqualCaches", apart := false }
def FnExactEqualCachesSaid : Prop := fnExactEqualCachesRow.holds Try.pinned (OpenSpec.ofChange fnExactEqualCachesSpec)

/-- ITS FALSE NEIGHBOUR: 'it returns false'. Refute it at one input. -/
def fnExactEqualCachesWrong : ChangeSpec := { name := "fnExactEqualCaches", fn := fun _ => fun
  | [d1, d2] => { results := [.lit (.bool false)], args := [d1, d2] }
  | _ => none }
def FnExactEqualCachesWrongFalsely : Prop := fnExactEqualCachesRow.holds Try.pinned (OpenSpec.ofChange fnExactEqualCachesWrong)

/-- 'laws.FnExactLookUp': WHATEVER THE INPUT: true; the input reads as it did. -/
def fnExactLookUpSpec : ChangeSpec := { name := "fnExactLookUp", fn := fun _ => fun
  | [d1, d2, d3, d4] => { results := [.lit (.bool true)], args := [d1, d2, d3, d4] }
  | _ => none }
def fnExactLookUpRow : OpenClaim := { program := "ytfhcbbhmkdfpmaa", sum := "3451c4252be3f5c74e4657309603820dd4f87d45757aeb891d3cc8ab1d97e4c8", func := "loop.example/g00586/laws.FnExactLookUp", spec := "fnExactLookUp", unfollowed := true, recurses := true, apart := false }
def FnExactLookUpSaid : Prop := fnExactLookUpRow.holds Try.pinned (OpenSpec.ofChange fnExactLookUpSpec)

/-- ITS FALSE NEIGHBOUR: 'it returns false'. Refute it at one input. -/
def fnExactLookUpWrong : ChangeSpec := { name := "fnExactLookUp", fn := fun _ => fun
  | [d1, d2, d3, d4] => { results := [.lit (.bool false)], args := [d1, d2, d3, d4] }
  | _ => none }
def FnExactLookUpWrongFalsely : Prop := fnExactLookUpRow.holds Try.pinned (OpenSpec.ofChange fnExactLookUpWrong)

/- THE SECOND FORM. 'bulk': how many values and letters a reading holds, each counted each time it is reached (what is shared counts as often as it is met; a slice's spare places count too). A statement '..UptoSaid' is the law's where the arguments, and the package variables that the reading takes, are together of bulk at most 1048576: NARROWER than '..Said'. Prove '..Said' where nothing that the law and all that it calls make is longer than what came in: it says more and counts as full. Else prove '..UptoSaid'. A law counts once. -/
mutual
def uptoBulk {H : Type} : DataW H → Nat
  | .lit (.string bytes) => bytes.length + 1
  | .lit _ => 1
  | .nil => 1
  | .ptr d => uptoBulk d + 1
  | .slice elems spare => uptoBulkAll elems + uptoBulkAll spare + 1
  | .agg parts => uptoBulkAll parts + 1
  | .iface _ d => uptoBulk d + 1
  | .map entries => uptoBulkEntries entries + 1
  | .held _ => 1
def uptoBulkAll {H : Type} : List (DataW H) → Nat
  | [] => 0
  | d :: r => uptoBulk d + uptoBulkAll r
def uptoBulkEntries {H : Type} : List (Lit × DataW H) → Nat
  | [] => 0
  | x :: r => uptoBulkEntry x + uptoBulkEntries r
def uptoBulkEntry {H : Type} : Lit × DataW H → Nat
  | (.string bytes, d) => bytes.length + uptoBulk d + 1
  | (_, d) => uptoBulk d + 1
 end
def uptoSmall : (H : Type) → List (DataW H) → Bool := fun _ ds => decide (uptoBulkAll ds ≤ 1048576)
def OpenSpec.upto (s : _root_.Go.ChangeSpec) : _root_.Go.OpenSpec := { _root_.Go.OpenSpec.ofChange s with cond := some uptoSmall }

/-- 'laws.FnExactSameRequest', WHERE WHAT IT READS IS OF BULK AT MOST 1048576: true; the input reads as it did. -/
def fnExactSameRequestUptoRow : OpenClaim := { program := "ytfhcbbhmkdfpmaa", sum := "3451c4252be3f5c74e4657309603820dd4f87d45757aeb891d3cc8ab1d97e4c8", func := "loop.example/g00586/laws.FnExactSameRequest", spec := "fnExactSameRequest", apart := false, narrowed := true }
def FnExactSameRequestUptoSaid : Prop := fnExactSameRequestUptoRow.holds Try.pinned (OpenSpec.upto fnExactSameRequestSpec)

/-- 'laws.FnExactDigestOf', WHERE WHAT IT READS IS OF BULK AT MOST 1048576: true; the input reads as it did. -/
def fnExactDigestOfUptoRow : OpenClaim := { program := "ytfhcbbhmkdfpmaa", sum := "3451c4252be3f5c74e4657309603820dd4f87d45757aeb891d3cc8ab1d97e4c8", func := "loop.example/g00586/laws.FnExactDigestOf", spec := "fnExactDigestOf", apart := false, narrowed := true }
def FnExactDigestOfUptoSaid : Prop := fnExactDigestOfUptoRow.holds Try.pinned (OpenSpec.upto fnExactDigestOfSpec)

/-- 'laws.FnExactIsPassive', WHERE WHAT IT READS IS OF BULK AT MOST 1048576: true; the input reads as it did. -/
def fnExactIsPassiveUptoRow : OpenClaim := { program := "ytfhcbbhmkdfpmaa", sum := "3451c4252be3f5c74e4657309603820dd4f87d45757aeb891d3cc8ab1d97e4c8", func := "loop.example/g00586/laws.FnExactIsPassive", spec := "fnExactIsPassive", apart := false, narrowed := true }
def FnExactIsPassiveUptoSaid : Prop := fnExactIsPassiveUptoRow.holds Try.pinned (OpenSpec.upto fnExactIsPassiveSpec)

/-- 'laws.FnExactAllowsInline', WHERE WHAT IT READS IS OF BULK AT MOST 1048576: true; the input reads as it did. -/
def fnExactAllowsInlineUptoRow : OpenClaim := { program := "ytfhcbbhmkdfpmaa", sum := "3451c4252be3f5c74e4657309603820dd4f87d45757aeb891d3cc8ab1d97e4c8", func := "loop.example/g00586/laws.FnExactAllowsInline", spec := "fnExactAllowsInline", apart := false, narrowed := true }
def FnExactAllowsInlineUptoSaid : Prop := fnExactAllowsInlineUptoRow.holds Try.pinned (OpenSpec.upto fnExactAllowsInlineSpec)

/-- 'laws.FnExactIsRequest', WHERE WHAT IT READS IS OF BULK AT MOST 1048576: true; the input reads as it did. -/
def fnExactIsRequestUptoRow : OpenClaim := { program := "ytfhcbbhmkdfpmaa", sum := "3451c4252be3f5c74e4657309603820dd4f87d45757aeb891d3cc8ab1d97e4c8", func := "loop.example/g00586/laws.FnExactIsRequest", spec := "fnExactIsRequest", apart := false, narrowed := true }
def FnExactIsRequestUptoSaid : Prop := fnExactIsRequestUptoRow.holds Try.pinned (OpenSpec.upto fnExactIsRequestSpec)

/-- 'laws.FnExactCanGuess', WHERE WHAT IT READS IS OF BULK AT MOST 1048576: true; the input reads as it did. -/
def fnExactCanGuessUptoRow : OpenClaim := { program := "ytfhcbbhmkdfpmaa", sum := "3451c4252be3f5c74e4657309603820dd4f87d45757aeb891d3cc8ab1d97e4c8", func := "loop.example/g00586/laws.FnExactCanGuess", spec := "fnExactCanGuess", apart := false, narrowed := true }
def FnExactCanGuessUptoSaid : Prop := fnExactCanGuessUptoRow.holds Try.pinned (OpenSpec.upto fnExactCanGuessSpec)

/-- 'laws.FnExactEqualPolicies', WHERE WHAT IT READS IS OF BULK AT MOST 1048576: true; the input reads as it did. -/
def fnExactEqualPoliciesUptoRow : OpenClaim := { program := "ytfhcbbhmkdfpmaa", sum := "3451c4252be3f5c74e4657309603820dd4f87d45757aeb891d3cc8ab1d97e4c8", func := "loop.example/g00586/laws.FnExactEqualPolicies", spec := "fnExactEqualPolicies", apart := false, narrowed := true }
def FnExactEqualPoliciesUptoSaid : Prop := fnExactEqualPoliciesUptoRow.holds Try.pinned (OpenSpec.upto fnExactEqualPoliciesSpec)

/-- 'laws.FnExactAllows', WHERE WHAT IT READS IS OF BULK AT MOST 1048576: true; the input reads as it did. -/
def fnExactAllowsUptoRow : OpenClaim := { program := "ytfhcbbhmkdfpmaa", sum := "3451c4252be3f5c74e4657309603820dd4f87d45757aeb891d3cc8ab1d97e4c8", func := "loop.example/g00586/laws.FnExactAllows", spec := "fnExactAllows", apart := false, narrowed := true }
def FnExactAllowsUptoSaid : Prop := fnExactAllowsUptoRow.holds Try.pinned (OpenSpec.upto fnExactAllowsSpec)

/-- 'laws.FnExactIsPolicy', WHERE WHAT IT READS IS OF BULK AT MOST 1048576: true; the input reads as it did. -/
def fnExactIsPolicyUptoRow : OpenClaim := { program := "ytfhcbbhmkdfpmaa", sum := "3451c4252be3f5c74e4657309603820dd4f87d45757aeb891d3cc8ab1d97e4c8", func := "loop.example/g00586/laws.FnExactIsPolicy", spec := "fnExactIsPolicy", unfollowed := true, recurses := true, apart := false, narrowed := true }
def FnExactIsPolicyUptoSaid : Prop := fnExactIsPolicyUptoRow.holds Try.pinned (OpenSpec.upto fnExactIsPolicySpec)

/-- 'laws.FnExactFreshEntries', WHERE WHAT IT READS IS OF BULK AT MOST 1048576: true; the input reads as it did. -/
def fnExactFreshEntriesUptoRow : OpenClaim := { program := "ytfhcbbhmkdfpmaa", sum := "3451c4252be3f5c74e4657309603820dd4f87d45757aeb891d3cc8ab1d97e4c8", func := "loop.example/g00586/laws.FnExactFreshEntries", spec := "fnExactFreshEntries", apart := false, narrowed := true }
def FnExactFreshEntriesUptoSaid : Prop := fnExactFreshEntriesUptoRow.holds Try.pinned (OpenSpec.upto fnExactFreshEntriesSpec)

/-- 'laws.FnExactEqualCaches', WHERE WHAT IT READS IS OF BULK AT MOST 1048576: true; the input reads as it did. -/
def fnExactEqualCachesUptoRow : OpenClaim := { program := "ytfhcbbhmkdfpmaa", sum := "3451c4252be3f5c74e4657309603820dd4f87d45757aeb891d3cc8ab1d97e4c8", func := "loop.example/g00586/laws.FnExactEqualCaches", spec := "fnExactEqualCaches", apart := false, narrowed := true }
def FnExactEqualCachesUptoSaid : Prop := fnExactEqualCachesUptoRow.holds Try.pinned (OpenSpec.upto fnExactEqualCachesSpec)

/-- 'laws.FnExactLookUp', WHERE WHAT IT READS IS OF BULK AT MOST 1048576: true; the input reads as it did. -/
def fnExactLookUpUptoRow : OpenClaim := { program := "ytfhcbbhmkdfpmaa", sum := "3451c4252be3f5c74e4657309603820dd4f87d45757aeb891d3cc8ab1d97e4c8", func := "loop.example/g00586/laws.FnExactLookUp", spec := "fnExactLookUp", unfollowed := true, recurses := true, apart := false, narrowed := true }
def FnExactLookUpUptoSaid : Prop := fnExactLookUpUptoRow.holds Try.pinned (OpenSpec.upto fnExactLookUpSpec)

end Rows
end Go.Proofs.Ytfhcbbhmkdfpmaa
