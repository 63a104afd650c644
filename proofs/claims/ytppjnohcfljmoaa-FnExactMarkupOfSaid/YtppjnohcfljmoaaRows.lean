/-
  No cell of these rows narrows 'for every input' (looked for: loops, veiled, ifaces, maps, wideKeys, modest, calm, conditions, laid).
  DERIVED. THE GIVEN ROWS OF THIS SEAT. 2 by the template 'for every input the law returns true; each argument reads behind the call as it read before'; 0 by the template 'total and deterministic' (their statements: YtppjnohcfljmoaaTotals.lean).
  GIVEN WITH THE SEED: the statements are not yours to turn. If you find one false, say at which input.
  Laid BY PROGRAM, IN A SANDBOX (cutbox-rows.mjs): the forced cells as the released guide's own fill.sh prints them over the translation 20be5e08cd1eebe7… (all of the seat's roots in one cut). By AI agents, Wed Nov 11 2026. No macro, syntax, notation, axiom, sorry.
-/
import Derived.Test.YtppjnohcfljmoaaChecked
import GoSem.Claim
import GoSem.ClaimJoined
import GoSem.ClaimMapViews
import Derived.JoinedTies
import Derived.KernelRfl
namespace Go.Proofs.Ytppjnohcfljmoaa
/- THE CELL 'sum', in the pinned program and in every row, IS THE sha256 OF THE DUMP (.gsa) THAT YtppjnohcfljmoaaProg.lean LOADS. Nothing in Lean hashes anything: it is a label: what it is worth is what the hold of that sum in a sandbox is worth. -/
noncomputable def Try.pinned : Pinned := { name := "ytppjnohcfljmoaa", sum := "20be5e08cd1eebe704297ccb901d5b9c84f48de6b01bfdb1b487948ad4ca5ece", checked := Try.checked }
namespace Rows
def none {H : Type} : Left H := { results := [], args := [] }

/-- 'laws.FnExactMarkupOf': WHATEVER THE INPUT: true; the input reads as it did. -/
def fnExactMarkupOfSpec : ChangeSpec := { name := "fnExactMarkupOf", fn := fun _ => fun
  | [d] => { results := [.lit (.bool true)], args := [d] }
  | _ => none }
def fnExactMarkupOfRow : OpenClaim := { program := "ytppjnohcfljmoaa", sum := "20be5e08cd1eebe704297ccb901d5b9c84f48de6b01bfdb1b487948ad4ca5ece", func := "loop.example/g00586/laws.FnExactMarkupOf", spec := "fnExactMarkupOf", inPlace := ["sync/atomic.LoadUint32", "(*internal/sync.Mutex).Lock", "internal/race.Disable", "sync/atomic.CompareAndSwapInt32", "internal/race.Enable", "internal/race.Acquire", "(*internal/sync.Mutex).lockSlow", "internal/sync.runtime_canSpin", "internal/sync.runtime_doSpin", "internal/sync.throw", "internal/sync.runtime_nanotime", "internal/sync.runtime_SemacquireMutex", "sync/atomic.AddInt32", "(*internal/sync.Mutex).Unlock", "internal/race.ReleaseMerge", "(*internal/sync.Mutex).unlockSlow", "internal/sync.fatal", "internal/sync.runtime_Semrelease", "sync/atomic.StoreUint32"], unfollowed := true, recurses := true, apart := false }
def FnExactMarkupOfSaid : Prop := fnExactMarkupOfRow.holds Try.pinned (OpenSpec.ofChange fnExactMarkupOfSpec)

/-- ITS FALSE NEIGHBOUR: 'it returns false'. Refute it at one input. -/
def fnExactMarkupOfWrong : ChangeSpec := { name := "fnExactMarkupOf", fn := fun _ => fun
  | [d] => { results := [.lit (.bool false)], args := [d] }
  | _ => none }
def FnExactMarkupOfWrongFalsely : Prop := fnExactMarkupOfRow.holds Try.pinned (OpenSpec.ofChange fnExactMarkupOfWrong)

/-- 'laws.FnExactSentSorted': WHATEVER THE INPUT: true; the input reads as it did. -/
def fnExactSentSortedSpec : ChangeSpec := { name := "fnExactSentSorted", fn := fun _ => fun
  | [d] => { results := [.lit (.bool true)], args := [d] }
  | _ => none }
def fnExactSentSortedRow : OpenClaim := { program := "ytppjnohcfljmoaa", sum := "20be5e08cd1eebe704297ccb901d5b9c84f48de6b01bfdb1b487948ad4ca5ece", func := "loop.example/g00586/laws.FnExactSentSorted", spec := "fnExactSentSorted", inPlace := ["internal/bytealg.abigen_runtime_cmpstring"], unfollowed := true, recurses := true, apart := false }
def FnExactSentSortedSaid : Prop := fnExactSentSortedRow.holds Try.pinned (OpenSpec.ofChange fnExactSentSortedSpec)

/-- ITS FALSE NEIGHBOUR: 'it returns false'. Refute it at one input. -/
def fnExactSentSortedWrong : ChangeSpec := { name := "fnExactSentSorted", fn := fun _ => fun
  | [d] => { results := [.lit (.bool false)], args := [d] }
  | _ => none }
def FnExactSentSortedWrongFalsely : Prop := fnExactSentSortedRow.holds Try.pinned (OpenSpec.ofChange fnExactSentSortedWrong)

/- THE SECOND FORM. 'bulk': how many values and letters a reading holds, each counted each time it is reached (what is shared counts as often as it is met; a slice's spare places count too). A statement '..UptoSaid' is the law's where the arguments, and the package variables that the reading takes, are together of bulk at most 1048576: NARROWER than '..Said'. Prove '..Said' where nothing that the law and all that it calls make is longer than what came in: it says more and counts as full. Else prove '..UptoSaid'. A law counts once. -/
mutual
def uptoBulk {H : Type} : DataW H → Nat
  | .lit (.string bytes) => bytes.length + 1
  | .lit _ => 1
  | .nil => 1
  | .ptr d => uptoBulk d + 1
  | .slice elems spare => uptoBulkAll elems + uptoBulkAll spare + 1
  | .agg parts => uptoBulkAll parts + 1
  | .iface _ d => uptoBulk d + 1
  | .map entries => uptoBulkEntries entries + 1
  | .held _ => 1
def uptoBulkAll {H : Type} : List (DataW H) → Nat
  | [] => 0
  | d :: r => uptoBulk d + uptoBulkAll r
def uptoBulkEntries {H : Type} : List (Lit × DataW H) → Nat
  | [] => 0
  | x :: r => uptoBulkEntry x + uptoBulkEntries r
def uptoBulkEntry {H : Type} : Lit × DataW H → Nat
  | (.string bytes, d) => bytes.length + uptoBulk d + 1
  | (_, d) => uptoBulk d + 1
 end
def uptoSmall : (H : Type) → List (DataW H) → Bool := fun _ ds => decide (uptoBulkAll ds ≤ 1048576)
def OpenSpec.upto (s : _root_.Go.ChangeSpec) : _root_.Go.OpenSpec := { _root_.Go.OpenSpec.ofChange s with cond := some uptoSmall }

/-- 'laws.FnExactMarkupOf', WHERE WHAT IT READS IS OF BULK AT MOST 1048576: true; the input reads as it did. -/
def fnExactMarkupOfUptoRow : OpenClaim := { program := "ytppjnohcfljmoaa", sum := "20be5e08cd1eebe704297ccb901d5b9c84f48de6b01bfdb1b487948ad4ca5ece", func := "loop.example/g00586/laws.FnExactMarkupOf", spec := "fnExactMarkupOf", inPlace := ["sync/atomic.LoadUint32", "(*internal/sync.Mutex).Lock", "internal/race.Disable", "sync/atomic.CompareAndSwapInt32", "internal/race.Enable", "internal/race.Acquire", "(*internal/sync.Mutex).lockSlow", "internal/sync.runtime_canSpin", "internal/sync.runtime_doSpin", "internal/sync.throw", "internal/sync.runtime_nanotime", "internal/sync.runtime_SemacquireMutex", "sync/atomic.AddInt32", "(*internal/sync.Mutex).Unlock", "internal/race.ReleaseMerge", "(*internal/sync.Mutex).unlockSlow", "internal/sync.fatal", "internal/sync.runtime_Semrelease", "sync/atomic.StoreUint32"], unfollowed := true, recurses := true, apart := false, narrowed := true }
def FnExactMarkupOfUptoSaid : Prop := fnExactMarkupOfUptoRow.holds Try.pinned (OpenSpec.upto fnExactMarkupOfSpec)

/-- 'laws.FnExactSentSorted', WHERE WHAT IT READS IS OF BULK AT MOST 1048576: true; the input reads as it did. -/
def fnExactSentSortedUptoRow : OpenClaim := { program := "ytppjnohcfljmoaa", sum := "20be5e08cd1eebe704297ccb901d5b9c84f48de6b01bfdb1b487948ad4ca5ece", func := "loop.example/g00586/laws.FnExactSentSorted", spec := "fnExactSentSorted", inPlace := ["internal/bytealg.abigen_runtime_cmpstring"], unfollowed := true, recurses := true, apart := false, narrowed := true }
def FnExactSentSortedUptoSaid : Prop := fnExactSentSortedUptoRow.holds Try.pinned (OpenSpec.upto fnExactSentSortedSpec)

end Rows
end Go.Proofs.Ytppjnohcfljmoaa
