/- Plain laws of counting names and of colors (for the laws of RunLine and RunScript). No conditions. -/
import Derived.Test.YtpnmdcomdakdmaaGreatDoorLibZ
import Derived.Test.YtpnmdcomdakdmaaGreatDoorLibH
set_option linter.all false
namespace Go.Sw
open Go Go.RowKit

def countN (name : Str) (l : List PNode) : Nat := l.countP fun x => decide (x.name = name)
theorem countN_yes {name : Str} {x : PNode} {l : List PNode} (h : x.name = name) : countN name (x :: l) = countN name l + 1 := by simp [countN, h]
theorem countN_no {name : Str} {x : PNode} {l : List PNode} (h : ¬ x.name = name) : countN name (x :: l) = countN name l := by simp [countN, h]

/-- The color of the last rule for a name, the rules' list read from its end. -/
def colR (name : Str) : List TRule → Option Int
  | [] => none
  | x :: r => if x.name = name then some x.color else colR name r
def colSR (name : Str) : List PSheet → Option Int
  | [] => none
  | s :: r => match colR name s.rules.l.reverse with
    | some c => some c
    | none => colSR name r
def colorOf (name : Str) (l : List PSheet) : Int := (colSR name l.reverse).getD 0

theorem take_pred {α : Type} {l : List α} {k : Nat} {d : α} (hk : k ≠ 0) (hd : l[k - 1]? = some d) : (l.take k).reverse = d :: (l.take (k - 1)).reverse := by
  obtain ⟨j, rfl⟩ : ∃ j, k = j + 1 := ⟨k - 1, by omega⟩
  simp only [Nat.add_sub_cancel] at hd ⊢
  obtain ⟨hj, rfl⟩ := List.getElem?_eq_some_iff.1 hd
  rw [List.take_succ_eq_append_getElem hj, List.reverse_append]
  rfl
theorem colR_yes {name : Str} {x : TRule} {l : List TRule} {k : Nat} (hk : k ≠ 0) (hd : l[k - 1]? = some x) (h : x.name = name) : colR name (l.take k).reverse = some x.color := by rw [take_pred hk hd]; simp [colR, h]
theorem colR_no {name : Str} {x : TRule} {l : List TRule} {k : Nat} (hk : k ≠ 0) (hd : l[k - 1]? = some x) (h : ¬ x.name = name) : colR name (l.take k).reverse = colR name (l.take (k - 1)).reverse := by rw [take_pred hk hd]; simp [colR, h]
theorem colSR_some {name : Str} {s : PSheet} {l : List PSheet} {k : Nat} {c : Int} (hk : k ≠ 0) (hd : l[k - 1]? = some s) (h : colR name s.rules.l.reverse = some c) : colSR name (l.take k).reverse = some c := by rw [take_pred hk hd]; simp [colSR, h]
theorem colSR_none {name : Str} {s : PSheet} {l : List PSheet} {k : Nat} (hk : k ≠ 0) (hd : l[k - 1]? = some s) (h : colR name s.rules.l.reverse = none) : colSR name (l.take k).reverse = colSR name (l.take (k - 1)).reverse := by rw [take_pred hk hd]; simp [colSR, h]

def countT (name : Str) (l : List TNode) : Nat := l.countP fun x => decide (x.name = name)
theorem countN_lg (name : Str) (l : List PNode) : countN name l = countT name (l.map PNode.lg) := by simp only [countN, countT, List.countP_map, Function.comp_def, PNode.lg]
def colT (name : Str) : List TSheet → Option Int
  | [] => none
  | s :: r => match colR name s.rules.reverse with
    | some c => some c
    | none => colT name r
def colorT (name : Str) (l : List TSheet) : Int := (colT name l.reverse).getD 0
theorem colSR_lg (name : Str) : ∀ l : List PSheet, colSR name l = colT name (l.map PSheet.lg)
  | [] => rfl
  | s :: r => by simp only [colSR, colT, List.map_cons, PSheet.lg]; rw [colSR_lg name r]
theorem colorOf_lg (name : Str) (l : List PSheet) : colorOf name l = colorT name (l.map PSheet.lg) := by rw [colorOf, colorT, colSR_lg, List.map_reverse]

/-- What a line makes of the tree, and what it says. -/
def runOut (b : TBuilder) (y : TLine) : TBuilder := if y.op = 2 ∧ inR (b.nodes.length : Int) 1 39 = true ∧ isName y.text = true then ⟨b.nodes ++ [⟨y.text, [], 0, []⟩], b.opn⟩ else b
def runSaid (b : TBuilder) (l : List TSheet) (y : TLine) : Str :=
  if y.op = 3 then [99, 111, 117, 110, 116, 32] ++ y.text ++ [32] ++ Lib.itoa (countT y.text b.nodes)
  else if y.op = 4 then [108, 111, 111, 107, 32] ++ y.text ++ [32] ++ Lib.itoa (colorT y.text l)
  else if y.op = 5 then [115, 97, 121, 32] ++ y.text else []

theorem colR_wf {name : Str} {c : Int} : ∀ l : List TRule, (∀ x ∈ l, WfI x.color) → colR name l = some c → WfI c
  | [], _, h => by cases h
  | x :: r, hw, h => by
    simp only [colR] at h
    split at h
    · cases h; exact hw x (by simp)
    · exact colR_wf r (fun y hy => hw y (by simp [hy])) h

theorem countN_wf (name : Str) {l : List PNode} (h : l.length ≤ 9223372036854775807) : WfI (countN name l : Int) := by
  have : countN name l ≤ l.length := List.countP_le_length
  exact ⟨by omega, by omega⟩
theorem colSR_wf {name : Str} {c : Int} : ∀ l : List PSheet, (∀ s ∈ l, ∀ x ∈ s.rules.l, WfI x.color) → colSR name l = some c → WfI c
  | [], _, h => by cases h
  | s :: r, hw, h => by
    simp only [colSR] at h
    split at h
    · rename_i c' hc
      cases h; exact colR_wf _ (fun x hx => hw s (by simp) x (by simpa using hx)) hc
    · exact colSR_wf r (fun y hy => hw y (by simp [hy])) h
theorem colorOf_wf {name : Str} {l : List PSheet} (hw : ∀ s ∈ l, ∀ x ∈ s.rules.l, WfI x.color) : WfI (colorOf name l) := by
  unfold colorOf
  cases h : colSR name l.reverse with
  | none => exact ⟨by decide, by decide⟩
  | some c => exact colSR_wf _ (fun s hs => hw s (by simpa using hs)) h

theorem costNode_le (x : TNode) : costNode x ≤ 4 * (1 + x.size) := by
  have := costL_lsz (cost := fun _ : TAttr => 2) (f := TAttr.size) (c := 2) (fun x => by omega) x.attrs
  simp only [costNode, TNode.size]; omega
theorem costL_app {α : Type} (c : α → Nat) (l m : List α) : costL c (l ++ m) = costL c l + costL c m := by
  induction l with
  | nil => simp [costL]
  | cons x l ih => simp only [List.cons_append, costL, ih]; omega
theorem costoBuilder_le (b : TBuilder) : costoBuilder b ≤ 4 * b.size := by
  have h1 := costL_lsz costNode_le b.nodes
  have h2 := costL_one b.opn
  simp only [costoBuilder, TBuilder.size] at *
  simp only [lsz] at *; omega
theorem costSheet_le (s : TSheet) : costSheet s ≤ 2 * (1 + s.size) := by
  have := costL_lsz (cost := fun _ : TRule => 2) (f := TRule.size) (c := 2) (fun x => by omega) s.rules
  simp only [costSheet, TSheet.size]; omega
theorem costSheets_le (l : List TSheet) : costL costSheet l ≤ 2 * lsz TSheet.size l := costL_lsz costSheet_le l
theorem costRun_le (b : TBuilder) (y : TLine) : costoBuilder (runOut b y) ≤ costoBuilder b + 10 := by
  unfold runOut
  split
  · simp only [costoBuilder, costL_app]
    have : costL costNode [(⟨y.text, [], 0, []⟩ : TNode)] ≤ 10 := by simp [costL, costNode]
    omega
  · omega

variable {M : Nat → Prop}
theorem fin3c {P : Program} {fn : Func} {E : Ending → World → Prop} {e : Env} {w w0 : World} {C : List Chunk} {n t u z k b : Nat} {T TB : TypeId} {cs : List Value} {v' v2 : Value} (hr : fn.results = #[.cell t T, .tmp u, .tmp z]) (hT : Agg P T k) (hv : get? e t = some (bp b 0)) (hv' : get? e u = some v') (hv2 : get? e z = some v2) (hs : Sat M w0 w C) (hm : box b TB cs ∈ C) (hk : cs.length = k) (h : E (.returned (.tuple #[.agg cs.toArray, v', v2])) w) : At n (bodyPost P fn E) .ret e w := fun a ha => by
  have h1 := ha.get t _ hv
  have h2 := ha.get u _ hv'
  have h3 := ha.get z _ hv2
  refine bodyPost_ret (v := .tuple #[.agg cs.toArray, v', v2]) ?_ ha.defers h
  have : (loadVar T ⟨b, 0, none⟩).run P w = .ok (.agg cs.toArray) w := hT.load hk (hs.box_cells hm)
  have h1' : a.tmps[t]?.getD undef = bp b 0 := by simpa using h1
  have h2' : a.tmps[u]?.getD undef = v' := by simpa using h2
  have h3' : a.tmps[z]?.getD undef = v2 := by simpa using h3
  simp [results, hr, h1', h2', h3', asAddr, this]


/-! A script's lines, one after the other: the tree, what was written, what was said. -/
def wroteOf (f : UInt8 → UInt8) (y : TLine) : Str := if y.op = 1 then y.text.map f else []
def saidOf (s : Str) : List Str := if s = [] then [] else [s]
def runAll (f : UInt8 → UInt8) (sh : List TSheet) : TBuilder → List TLine → TBuilder × Str × List Str
  | b, [] => (b, [], [])
  | b, x :: l => ((runAll f sh (runOut b x) l).1, wroteOf f x ++ (runAll f sh (runOut b x) l).2.1, saidOf (runSaid b sh x) ++ (runAll f sh (runOut b x) l).2.2)
theorem run_next {f : UInt8 → UInt8} {sh : List TSheet} {q : TBuilder} {l : List TLine} {k : Nat} {d : TLine} {W : Str} {L : List Str} {R : TBuilder × Str × List Str} (hd : l[k]? = some d)
    (h : R = ((runAll f sh q (l.drop k)).1, W ++ (runAll f sh q (l.drop k)).2.1, L ++ (runAll f sh q (l.drop k)).2.2)) :
    R = ((runAll f sh (runOut q d) (l.drop (k + 1))).1, (W ++ wroteOf f d) ++ (runAll f sh (runOut q d) (l.drop (k + 1))).2.1, (L ++ saidOf (runSaid q sh d)) ++ (runAll f sh (runOut q d) (l.drop (k + 1))).2.2) := by
  rw [h, drop_cons hd]
  simp only [runAll, List.append_assoc]
theorem run_end {f : UInt8 → UInt8} {sh : List TSheet} {q : TBuilder} {l : List TLine} {k : Nat} {W : Str} {L : List Str} {R : TBuilder × Str × List Str} (hk : l.length ≤ k)
    (h : R = ((runAll f sh q (l.drop k)).1, W ++ (runAll f sh q (l.drop k)).2.1, L ++ (runAll f sh q (l.drop k)).2.2)) : R = (q, W, L) := by
  rw [h, List.drop_eq_nil_of_le hk]
  simp [runAll]
theorem runOut_size (b : TBuilder) (y : TLine) : (runOut b y).size ≤ b.size + 1 + y.size := by
  unfold runOut; split
  · have e : lsz TNode.size (b.nodes ++ [⟨y.text, [], 0, []⟩]) = lsz TNode.size b.nodes + (1 + y.text.length) := by
      simp [lsz, lsum, TNode.size]; omega
    simp only [TBuilder.size, TLine.size, e]; omega
  · omega
theorem wroteOf_len (f : UInt8 → UInt8) (y : TLine) : (wroteOf f y).length ≤ y.size := by
  unfold wroteOf; split <;> simp [TLine.size]
theorem runAll_passive {f : UInt8 → UInt8} {sh : List TSheet} {b : TBuilder} : ∀ {l : List TLine}, isPassive l = true → (runAll f sh b l).1 = b ∧ (runAll f sh b l).2.1 = []
  | [], _ => ⟨rfl, rfl⟩
  | x :: l, h => by
    simp only [isPassive, List.all_cons, Bool.and_eq_true, decide_eq_true_eq] at h
    have e1 : runOut b x = b := by unfold runOut; rw [if_neg (fun h9 => h.1.2 h9.1)]
    have e2 : wroteOf f x = [] := by unfold wroteOf; rw [if_neg h.1.1]
    have ih := runAll_passive (f := f) (sh := sh) (b := b) (l := l) h.2
    simp only [runAll, e1, e2, List.nil_append]
    exact ih
theorem lsz_step {α : Type} {f : α → Nat} {l : List α} {k : Nat} {d : α} (hd : l[k]? = some d) : lsz f (l.take (k + 1)) = lsz f (l.take k) + 1 + f d := by
  rw [List.take_add_one, hd]; simp [lsz, lsum]; omega
theorem saidOf_ne {s : Str} (h : ¬ s = []) : saidOf s = [s] := by unfold saidOf; rw [if_neg h]
theorem saidOf_nil {s : Str} (h : s = []) : saidOf s = [] := by unfold saidOf; rw [if_pos h]
theorem run_size {X q : TBuilder} {b0 : Nat} {l : List TLine} {k : Nat} {d : TLine} (hX : X = runOut q d) (h : q.size ≤ b0 + lsz TLine.size (l.take k)) (hd : l[k]? = some d) : X.size ≤ b0 + lsz TLine.size (l.take (k + 1)) := by
  have := runOut_size q d
  rw [hX, lsz_step hd]; omega
theorem run_wrote {f : UInt8 → UInt8} {W : Str} {l : List TLine} {k : Nat} {d : TLine} (h : W.length ≤ lsz TLine.size (l.take k)) (hd : l[k]? = some d) : (W ++ wroteOf f d).length ≤ lsz TLine.size (l.take (k + 1)) := by
  have := wroteOf_len f d
  rw [List.length_append, lsz_step hd]; omega
theorem lineText_le {n : Nat} {l : List TLine} {d : TLine} (h : n + lsz TLine.size l ≤ 1048576) (hd : d ∈ l) : d.text.length ≤ 1048576 := by
  have h9 := lsum_le (f := TLine.size) hd
  simp only [lsz, TLine.size] at h9 h ⊢; omega
theorem wrote_len {f : UInt8 → UInt8} {W : Str} {l : List TLine} {k n : Nat} {d : TLine} (h7 : lsz TLine.size (l.take k) ≤ lsz TLine.size l) (h : W.length ≤ lsz TLine.size (l.take k)) (hb : n + lsz TLine.size l ≤ 1048576) (hd : d ∈ l) : W.length + (wroteOf f d).length ≤ 9223372036854775807 := by
  have h1 := wroteOf_len f d
  have h2 := lineText_le hb hd
  simp only [TLine.size] at h1; omega
theorem runSaid_wf {w : World} {b : PBuilder} {sh : Sl PSheet} {y : TLine} (h_b : Ph.ok w b) (h_s : Ph.ok w sh) (hy : y.text.length ≤ 1048576) : WfS (runSaid b.lg (sh.l.map PSheet.lg) y) := by
  have hi1 := itoa_len (countN_wf y.text h_b.nodes.lt)
  have hi2 := itoa_len (colorOf_wf (name := y.text) (fun s hs9 x hx9 => (Sl.Ok.elems (h_s.elems s hs9).rules x hx9).color))
  rw [countN_lg] at hi1
  rw [colorOf_lg] at hi2
  have e : (b.lg).nodes = b.nodes.l.map PNode.lg := rfl
  unfold runSaid WfS
  split
  · rw [e]; simp only [List.length_append, List.length_cons, List.length_nil]; omega
  · split
    · simp only [List.length_append, List.length_cons, List.length_nil]; omega
    · split
      · simp only [List.length_append, List.length_cons, List.length_nil]; omega
      · simp
theorem costRunAll_le (f : UInt8 → UInt8) (sh : List TSheet) : ∀ (l : List TLine) (b : TBuilder), costoBuilder (runAll f sh b l).1 ≤ costoBuilder b + 10 * lsz TLine.size l
  | [], b => by simp [runAll]
  | x :: l, b => by
    have ih := costRunAll_le f sh l (runOut b x)
    have h1 := costRun_le b x
    rw [lsz_cons]
    simp only [runAll]; omega
theorem saidAll_len (f : UInt8 → UInt8) (sh : List TSheet) : ∀ (l : List TLine) (b : TBuilder), (runAll f sh b l).2.2.length ≤ lsz TLine.size l
  | [], b => by simp [runAll]
  | x :: l, b => by
    have ih := saidAll_len f sh l (runOut b x)
    have h1 : (saidOf (runSaid b sh x)).length ≤ 1 := by unfold saidOf; split <;> simp
    rw [lsz_cons]
    simp only [runAll, List.length_append]; omega
theorem costLn_le (l : List TLine) : costL (fun _ => 2) l ≤ 2 * lsz TLine.size l := costL_lsz (fun x => by omega) l
end Go.Sw
