/- Plain laws of counting names and of colors (for the laws of RunLine and RunScript). No conditions. -/
import Derived.Test.YtdpifpainiiblaaGreatDoorLibW
import Derived.Test.YtdpifpainiiblaaGreatDoorLibH
set_option linter.all false
namespace Go.Sw
open Go Go.RowKit

def countN (name : Str) (l : List PNode) : Nat := l.countP fun x => decide (x.name = name)
theorem countN_yes {name : Str} {x : PNode} {l : List PNode} (h : x.name = name) : countN name (x :: l) = countN name l + 1 := by simp [countN, h]
theorem countN_no {name : Str} {x : PNode} {l : List PNode} (h : ¬ x.name = name) : countN name (x :: l) = countN name l := by simp [countN, h]

/-- The color of the last rule for a name, the rules' list read from its end. -/
def colR (name : Str) : List TRule → Option Int
  | [] => none
  | x :: r => if x.name = name then some x.color else colR name r
def colSR (name : Str) : List PSheet → Option Int
  | [] => none
  | s :: r => match colR name s.rules.l.reverse with
    | some c => some c
    | none => colSR name r
def colorOf (name : Str) (l : List PSheet) : Int := (colSR name l.reverse).getD 0

theorem take_pred {α : Type} {l : List α} {k : Nat} {d : α} (hk : k ≠ 0) (hd : l[k - 1]? = some d) : (l.take k).reverse = d :: (l.take (k - 1)).reverse := by
  obtain ⟨j, rfl⟩ : ∃ j, k = j + 1 := ⟨k - 1, by omega⟩
  simp only [Nat.add_sub_cancel] at hd ⊢
  obtain ⟨hj, rfl⟩ := List.getElem?_eq_some_iff.1 hd
  rw [List.take_succ_eq_append_getElem hj, List.reverse_append]
  rfl
theorem colR_yes {name : Str} {x : TRule} {l : List TRule} {k : Nat} (hk : k ≠ 0) (hd : l[k - 1]? = some x) (h : x.name = name) : colR name (l.take k).reverse = some x.color := by rw [take_pred hk hd]; simp [colR, h]
theorem colR_no {name : Str} {x : TRule} {l : List TRule} {k : Nat} (hk : k ≠ 0) (hd : l[k - 1]? = some x) (h : ¬ x.name = name) : colR name (l.take k).reverse = colR name (l.take (k - 1)).reverse := by rw [take_pred hk hd]; simp [colR, h]
theorem colSR_some {name : Str} {s : PSheet} {l : List PSheet} {k : Nat} {c : Int} (hk : k ≠ 0) (hd : l[k - 1]? = some s) (h : colR name s.rules.l.reverse = some c) : colSR name (l.take k).reverse = some c := by rw [take_pred hk hd]; simp [colSR, h]
theorem colSR_none {name : Str} {s : PSheet} {l : List PSheet} {k : Nat} (hk : k ≠ 0) (hd : l[k - 1]? = some s) (h : colR name s.rules.l.reverse = none) : colSR name (l.take k).reverse = colSR name (l.take (k - 1)).reverse := by rw [take_pred hk hd]; simp [colSR, h]

def countT (name : Str) (l : List TNode) : Nat := l.countP fun x => decide (x.name = name)
theorem countN_lg (name : Str) (l : List PNode) : countN name l = countT name (l.map PNode.lg) := by simp only [countN, countT, List.countP_map, Function.comp_def, PNode.lg]
def colT (name : Str) : List TSheet → Option Int
  | [] => none
  | s :: r => match colR name s.rules.reverse with
    | some c => some c
    | none => colT name r
def colorT (name : Str) (l : List TSheet) : Int := (colT name l.reverse).getD 0
theorem colSR_lg (name : Str) : ∀ l : List PSheet, colSR name l = colT name (l.map PSheet.lg)
  | [] => rfl
  | s :: r => by simp only [colSR, colT, List.map_cons, PSheet.lg]; rw [colSR_lg name r]
theorem colorOf_lg (name : Str) (l : List PSheet) : colorOf name l = colorT name (l.map PSheet.lg) := by rw [colorOf, colorT, colSR_lg, List.map_reverse]

/-- What a line makes of the tree, and what it says. -/
def runOut (b : TBuilder) (y : TLine) : TBuilder := if y.op = 2 ∧ inR (b.nodes.length : Int) 1 39 = true ∧ isName y.text = true then ⟨b.nodes ++ [⟨y.text, [], 0, []⟩], b.opn⟩ else b
def runSaid (b : TBuilder) (l : List TSheet) (y : TLine) : Str :=
  if y.op = 3 then [99, 111, 117, 110, 116, 32] ++ y.text ++ [32] ++ Lib.itoa (countT y.text b.nodes)
  else if y.op = 4 then [108, 111, 111, 107, 32] ++ y.text ++ [32] ++ Lib.itoa (colorT y.text l)
  else if y.op = 5 then [115, 97, 121, 32] ++ y.text else []

theorem colR_wf {name : Str} {c : Int} : ∀ l : List TRule, (∀ x ∈ l, WfI x.color) → colR name l = some c → WfI c
  | [], _, h => by cases h
  | x :: r, hw, h => by
    simp only [colR] at h
    split at h
    · cases h; exact hw x (by simp)
    · exact colR_wf r (fun y hy => hw y (by simp [hy])) h

theorem countN_wf (name : Str) {l : List PNode} (h : l.length ≤ 9223372036854775807) : WfI (countN name l : Int) := by
  have : countN name l ≤ l.length := List.countP_le_length
  exact ⟨by omega, by omega⟩
theorem colSR_wf {name : Str} {c : Int} : ∀ l : List PSheet, (∀ s ∈ l, ∀ x ∈ s.rules.l, WfI x.color) → colSR name l = some c → WfI c
  | [], _, h => by cases h
  | s :: r, hw, h => by
    simp only [colSR] at h
    split at h
    · rename_i c' hc
      cases h; exact colR_wf _ (fun x hx => hw s (by simp) x (by simpa using hx)) hc
    · exact colSR_wf r (fun y hy => hw y (by simp [hy])) h
theorem colorOf_wf {name : Str} {l : List PSheet} (hw : ∀ s ∈ l, ∀ x ∈ s.rules.l, WfI x.color) : WfI (colorOf name l) := by
  unfold colorOf
  cases h : colSR name l.reverse with
  | none => exact ⟨by decide, by decide⟩
  | some c => exact colSR_wf _ (fun s hs => hw s (by simpa using hs)) h

theorem costNode_le (x : TNode) : costNode x ≤ 4 * (1 + x.size) := by
  have := costL_lsz (cost := fun _ : TAttr => 2) (f := TAttr.size) (c := 2) (fun x => by omega) x.attrs
  simp only [costNode, TNode.size]; omega
theorem costL_app {α : Type} (c : α → Nat) (l m : List α) : costL c (l ++ m) = costL c l + costL c m := by
  induction l with
  | nil => simp [costL]
  | cons x l ih => simp only [List.cons_append, costL, ih]; omega
theorem costoBuilder_le (b : TBuilder) : costoBuilder b ≤ 4 * b.size := by
  have h1 := costL_lsz costNode_le b.nodes
  have h2 := costL_one b.opn
  simp only [costoBuilder, TBuilder.size] at *
  simp only [lsz] at *; omega
theorem costSheet_le (s : TSheet) : costSheet s ≤ 2 * (1 + s.size) := by
  have := costL_lsz (cost := fun _ : TRule => 2) (f := TRule.size) (c := 2) (fun x => by omega) s.rules
  simp only [costSheet, TSheet.size]; omega
theorem costSheets_le (l : List TSheet) : costL costSheet l ≤ 2 * lsz TSheet.size l := costL_lsz costSheet_le l
theorem costRun_le (b : TBuilder) (y : TLine) : costoBuilder (runOut b y) ≤ costoBuilder b + 10 := by
  unfold runOut
  split
  · simp only [costoBuilder, costL_app]
    have : costL costNode [(⟨y.text, [], 0, []⟩ : TNode)] ≤ 10 := by simp [costL, costNode]
    omega
  · omega

variable {M : Nat → Prop}
theorem fin3c {P : Program} {fn : Func} {E : Ending → World → Prop} {e : Env} {w w0 : World} {C : List Chunk} {n t u z k b : Nat} {T TB : TypeId} {cs : List Value} {v' v2 : Value} (hr : fn.results = #[.cell t T, .tmp u, .tmp z]) (hT : Agg P T k) (hv : get? e t = some (bp b 0)) (hv' : get? e u = some v') (hv2 : get? e z = some v2) (hs : Sat M w0 w C) (hm : box b TB cs ∈ C) (hk : cs.length = k) (h : E (.returned (.tuple #[.agg cs.toArray, v', v2])) w) : At n (bodyPost P fn E) .ret e w := fun a ha => by
  have h1 := ha.get t _ hv
  have h2 := ha.get u _ hv'
  have h3 := ha.get z _ hv2
  refine bodyPost_ret (v := .tuple #[.agg cs.toArray, v', v2]) ?_ ha.defers h
  have : (loadVar T ⟨b, 0, none⟩).run P w = .ok (.agg cs.toArray) w := hT.load hk (hs.box_cells hm)
  have h1' : a.tmps[t]?.getD undef = bp b 0 := by simpa using h1
  have h2' : a.tmps[u]?.getD undef = v' := by simpa using h2
  have h3' : a.tmps[z]?.getD undef = v2 := by simpa using h3
  simp [results, hr, h1', h2', h3', asAddr, this]


/-! A script's lines, one after the other: the tree, what was written, what was said. -/
def wroteOf (f : UInt8 → UInt8) (y : TLine) : Str := if y.op = 1 then y.text.map f else []
def saidOf (s : Str) : List Str := if s = [] then [] else [s]
def runAll (f : UInt8 → UInt8) (sh : List TSheet) : TBuilder → List TLine → TBuilder × Str × List Str
  | b, [] => (b, [], [])
  | b, x :: l => ((runAll f sh (runOut b x) l).1, wroteOf f x ++ (runAll f sh (runOut b x) l).2.1, saidOf (runSaid b sh x) ++ (runAll f sh (runOut b x) l).2.2)
theorem run_next {f : UInt8 → UInt8} {sh : List TSheet} {q : TBuilder} {l : List TLine} {k : Nat} {d : TLine} {W : Str} {L : List Str} {R : TBuilder × Str × List Str} (hd : l[k]? = some d)
    (h : R = ((runAll f sh q (l.drop k)).1, W ++ (runAll f sh q (l.drop k)).2.1, L ++ (runAll f sh q (l.drop k)).2.2)) :
    R = ((runAll f sh (runOut q d) (l.drop (k + 1))).1, (W ++ wroteOf f d) ++ (runAll f sh (runOut q d) (l.drop (k + 1))).2.1, (L ++ saidOf (runSaid q sh d)) ++ (runAll f sh (runOut q d) (l.drop (k + 1))).2.2) := by
  rw [h, drop_cons hd]
  simp only [runAll, List.append_assoc]
theorem run_end {f : UInt8 → UInt8} {sh : List TSheet} {q : TBuilder} {l : List TLine} {k : Nat} {W : Str} {L : List Str} {R : TBuilder × Str × List Str} (hk : l.length ≤ k)
    (h : R = ((runAll f sh q (l.drop k)).1, W ++ (runAll f sh q (l.drop k)).2.1, L ++ (runAll f sh q (l.drop k)).2.2)) : R = (q, W, L) := by
  rw [h, List.drop_eq_nil_of_le hk]
  simp [runAll]
theorem runOut_size (b : TBuilder) (y : TLine) : (runOut b y).size ≤ b.size + 1 + y.size := by
  unfold runOut; split
  · have e : lsz TNode.size (b.nodes ++ [⟨y.text, [], 0, []⟩]) = lsz TNode.size b.nodes + (1 + y.text.length) := by
      simp [lsz, lsum, TNode.size]; omega
    simp only [TBuilder.size, TLine.size, e]; omega
  · omega
theorem wroteOf_len (f : UInt8 → UInt8) (y : TLine) : (wroteOf f y).length ≤ y.size := by
  unfold wroteOf; split <;> simp [TLine.size]
theorem runAll_passive {f : UInt8 → UInt8} {sh : List TSheet} {b : TBuilder} : ∀ {l : List TLine}, isPassive l = true → (runAll f sh b l).1 = b ∧ (runAll f sh b l).2.1 = []
  | [], _ => ⟨rfl, rfl⟩
  | x :: l, h => by
    simp only [isPassive, List.all_cons, Bool.and_eq_true, decide_eq_true_eq] at h
    have e1 : runOut b x = b := by unfold runOut; rw [if_neg (fun h9 => h.1.2 h9.1)]
    have e2 : wroteOf f x = [] := by unfold wroteOf; rw [if_neg h.1.1]
    have ih := runAll_passive (f := f) (sh := sh) (b := b) (l := l) h.2
    simp only [runAll, e1, e2, List.nil_append]
    exact ih
theorem lsz_step {α : Type} {f : α → Nat} {l : List α} {k : Nat} {d : α} (hd : l[k]? = some d) : lsz f (l.take (k + 1)) = lsz f (l.take k) + 1 + f d := by
  rw [List.take_add_one, hd]; simp [lsz, lsum]; omega
theorem saidOf_ne {s : Str} (h : ¬ s = []) : saidOf s = [s] := by unfold saidOf; rw [if_neg h]
theorem saidOf_nil {s : Str} (h : s = []) : saidOf s = [] := by unfold saidOf; rw [if_pos h]
theorem run_size {X q : TBuilder} {b0 : Nat} {l : List TLine} {k : Nat} {d : TLine} (hX : X = runOut q d) (h : q.size ≤ b0 + lsz TLine.size (l.take k)) (hd : l[k]? = some d) : X.size ≤ b0 + lsz TLine.size (l.take (k + 1)) := by
  have := runOut_size q d
  rw [hX, lsz_step hd]; omega
theorem run_wrote {f : UInt8 → UInt8} {W : Str} {l : List TLine} {k : Nat} {d : TLine} (h : W.length ≤ lsz TLine.size (l.take k)) (hd : l[k]? = some d) : (W ++ wroteOf f d).length ≤ lsz TLine.size (l.take (k + 1)) := by
  have := wroteOf_len f d
  rw [List.length_append, lsz_step hd]; omega
theorem lineText_le {n : Nat} {l : List TLine} {d : TLine} (h : n + lsz TLine.size l ≤ 1048576) (hd : d ∈ l) : d.text.length ≤ 1048576 := by
  have h9 := lsum_le (f := TLine.size) hd
  simp only [lsz, TLine.size] at h9 h ⊢; omega
theorem wrote_len {f : UInt8 → UInt8} {W : Str} {l : List TLine} {k n : Nat} {d : TLine} (h7 : lsz TLine.size (l.take k) ≤ lsz TLine.size l) (h : W.length ≤ lsz TLine.size (l.take k)) (hb : n + lsz TLine.size l ≤ 1048576) (hd : d ∈ l) : W.length + (wroteOf f d).length ≤ 9223372036854775807 := by
  have h1 := wroteOf_len f d
  have h2 := lineText_le hb hd
  simp only [TLine.size] at h1; omega
theorem runSaid_wf {w : World} {b : PBuilder} {sh : Sl PSheet} {y : TLine} (h_b : Ph.ok w b) (h_s : Ph.ok w sh) (hy : y.text.length ≤ 1048576) : WfS (runSaid b.lg (sh.l.map PSheet.lg) y) := by
  have hi1 := itoa_len (countN_wf y.text h_b.nodes.lt)
  have hi2 := itoa_len (colorOf_wf (name := y.text) (fun s hs9 x hx9 => (Sl.Ok.elems (h_s.elems s hs9).rules x hx9).color))
  rw [countN_lg] at hi1
  rw [colorOf_lg] at hi2
  have e : (b.lg).nodes = b.nodes.l.map PNode.lg := rfl
  unfold runSaid WfS
  split
  · rw [e]; simp only [List.length_append, List.length_cons, List.length_nil]; omega
  · split
    · simp only [List.length_append, List.length_cons, List.length_nil]; omega
    · split
      · simp only [List.length_append, List.length_cons, List.length_nil]; omega
      · simp
theorem costRunAll_le (f : UInt8 → UInt8) (sh : List TSheet) : ∀ (l : List TLine) (b : TBuilder), costoBuilder (runAll f sh b l).1 ≤ costoBuilder b + 10 * lsz TLine.size l
  | [], b => by simp [runAll]
  | x :: l, b => by
    have ih := costRunAll_le f sh l (runOut b x)
    have h1 := costRun_le b x
    rw [lsz_cons]
    simp only [runAll]; omega
theorem saidAll_len (f : UInt8 → UInt8) (sh : List TSheet) : ∀ (l : List TLine) (b : TBuilder), (runAll f sh b l).2.2.length ≤ lsz TLine.size l
  | [], b => by simp [runAll]
  | x :: l, b => by
    have ih := saidAll_len f sh l (runOut b x)
    have h1 : (saidOf (runSaid b sh x)).length ≤ 1 := by unfold saidOf; split <;> simp
    rw [lsz_cons]
    simp only [runAll, List.length_append]; omega
theorem costLn_le (l : List TLine) : costL (fun _ => 2) l ≤ 2 * lsz TLine.size l := costL_lsz (fun x => by omega) l

/-! Numbers and sheets that are parsed. -/
theorem wrap_u8 (c d : UInt8) : IntKind.u8.wrap ((c.toNat : Int) - (d.toNat : Int)) = ((c - d).toNat : Int) := by
  have h1 := c.toNat_lt; have h2 := d.toNat_lt
  rw [UInt8.toNat_sub]
  show ((c.toNat : Int) - d.toNat) % 2 ^ 8 = _
  omega
theorem Yl.subB {P : Program} {n : Nat} {e : Env} {w : World} {ty tx tyy : TypeId} {x y : Operand} {c d : UInt8} (hx : ev? e x = some (U8 c)) (hy : ev? e y = some (U8 d)) : Yl P n e w (.binOp .sub tx x y tyy) ty (U8 (c - d)) := by
  have h := Yl.subw (P := P) (n := n) (w := w) (tx := tx) (tyy := tyy) (ty := ty) hx hy
  rw [wrap_u8] at h; exact h
theorem decVal_lt {s : Str} (h : s.all digit = true) : decVal s < 10 ^ s.length := by
  have key : ∀ (s : Str) (a : Nat), s.all digit = true → s.foldl (fun a c => a * 10 + (c.toNat - 48)) a < (a + 1) * 10 ^ s.length := by
    intro s
    induction s with
    | nil => intro a _; simp
    | cons c s ih =>
      intro a hs
      simp only [List.all_cons, Bool.and_eq_true] at hs
      have h1 := ih (a * 10 + (c.toNat - 48)) hs.2
      have h2 : c.toNat - 48 ≤ 9 := by
        have := hs.1; simp only [digit, Bool.and_eq_true, decide_eq_true_eq] at this; omega
      refine Nat.lt_of_lt_of_le h1 ?_
      rw [List.length_cons, Nat.pow_succ, show (a + 1) * (10 ^ s.length * 10) = ((a + 1) * 10) * 10 ^ s.length from by rw [Nat.mul_assoc, Nat.mul_comm (10 ^ s.length) 10]]
      exact Nat.mul_le_mul_right _ (by omega)
  have := key s 0 h
  simpa [decVal] using this
theorem decVal_13 {s : Str} (h : s.all digit = true) (hl : s.length ≤ 13) : decVal s < 10000000000000 := Nat.lt_of_lt_of_le (decVal_lt h) (Nat.pow_le_pow_right (by decide) hl)
def isInt (s : Str) : Bool := inR s.length 1 13 && s.all digit && decide (decVal s ≤ 1000000000000) && decide (Lib.itoa (decVal s) = s)
def parseI (s : Str) : Int := if isInt s = true then (decVal s : Int) else 0
theorem take_digit {s : Str} {k : Nat} {c : UInt8} (hd : s[k]? = some c) (h : (s.take k).all digit = true) (h1 : 48 ≤ c.toNat) (h2 : c.toNat ≤ 57) : (s.take (k + 1)).all digit = true ∧ decVal (s.take (k + 1)) = decVal (s.take k) * 10 + (c.toNat - 48) := by
  rw [List.take_add_one, hd]
  constructor
  · rw [List.all_append, h]; simp [digit, h1, h2]
  · exact decVal_snoc _ c
theorem digit_sub {c : UInt8} (h1 : 48 ≤ c.toNat) : (c - 48).toNat = c.toNat - 48 := by
  rw [UInt8.toNat_sub]; have := c.toNat_lt; show (2 ^ 8 - 48 + c.toNat) % 2 ^ 8 = _; omega
theorem not_digit {s : Str} {k : Nat} {c : UInt8} (hd : s[k]? = some c) (h : ¬ (48 ≤ (c.toNat : Int) ∧ (c.toNat : Int) ≤ 57)) : isInt s = false := by
  have : s.all digit = false := by
    apply Bool.eq_false_iff.2
    intro h9
    have h8 := List.all_eq_true.1 h9 c (List.mem_of_getElem? hd)
    simp only [digit, Bool.and_eq_true, decide_eq_true_eq] at h8; omega
  unfold isInt; simp [this]
theorem int_out {s : Str} (h : ¬ (1 ≤ (s.length : Int) ∧ (s.length : Int) ≤ 13)) : isInt s = false := by
  have : inR s.length 1 13 = false := inR_false.2 (by omega)
  unfold isInt; simp [this]
theorem int_big {s : Str} (h : (1000000000000 : Int) < (decVal s : Int)) : isInt s = false := by
  have : ¬ decVal s ≤ 1000000000000 := by omega
  unfold isInt; simp [this]
theorem int_text {s : Str} (h : ¬ Lib.itoa (decVal s : Int) = s) : isInt s = false := by unfold isInt; simp [h]
theorem int_yes {s : Str} (h1 : 1 ≤ (s.length : Int) ∧ (s.length : Int) ≤ 13) (h2 : s.all digit = true) (h3 : (decVal s : Int) ≤ 1000000000000) (h4 : Lib.itoa (decVal s : Int) = s) : isInt s = true := by
  have e1 : inR s.length 1 13 = true := inR_true.2 (by omega)
  have e3 : decVal s ≤ 1000000000000 := by omega
  unfold isInt; simp [e1, h2, e3, h4]
theorem parse_no {s : Str} (h : isInt s = false) : (.tuple #[I 0, Bo false] : Value) = .tuple #[I (parseI s), Bo (isInt s)] := by simp [parseI, h]
theorem parse_yes {s : Str} (h : isInt s = true) : (.tuple #[I (decVal s : Int), Bo true] : Value) = .tuple #[I (parseI s), Bo (isInt s)] := by simp [parseI, h]
def ruleOf (x : Str) : Option TRule := match splitC 58 x with
  | [a, b] => if (isName a && isInt b && inR (parseI b) 1 999) = true then some ⟨a, parseI b⟩ else none
  | _ => none
def sheetTo (l : List Str) : List TRule := (l.filterMap ruleOf).take 8
theorem ruleOf_len {x : Str} (h : ¬ (splitC 58 x).length = 2) : ruleOf x = none := by
  unfold ruleOf; split
  · rename_i a b e; rw [e] at h; exact absurd rfl h
  · rfl
theorem ruleOf_two {x a b : Str} (h : (splitC 58 x).length = 2) (ha : (splitC 58 x)[0]? = some a) (hb : (splitC 58 x)[1]? = some b) : ruleOf x = if (isName a && isInt b && inR (parseI b) 1 999) = true then some ⟨a, parseI b⟩ else none := by
  unfold ruleOf; split
  · rename_i a' b' e; rw [e] at ha hb; simp only [List.getElem?_cons_zero, List.getElem?_cons_succ, Option.some.injEq] at ha hb; subst ha; subst hb; rfl
  · rename_i h9; exfalso
    match e : splitC 58 x, h with
    | [a', b'], _ => exact h9 _ _ e
theorem sheetTo_step {l : List Str} {k : Nat} {d : Str} (hd : l[k]? = some d) (h : (sheetTo (l.take k)).length < 8) : sheetTo (l.take (k + 1)) = sheetTo (l.take k) ++ (ruleOf d).toList := by
  unfold sheetTo at *
  rw [List.length_take] at h
  have e1 : ((l.take k).filterMap ruleOf).take 8 = (l.take k).filterMap ruleOf := List.take_of_length_le (by omega)
  rw [e1, show l.take (k + 1) = l.take k ++ (some d).toList from by rw [List.take_add_one, hd], List.filterMap_append]
  have e2 : List.filterMap ruleOf (some d).toList = (ruleOf d).toList := by
    cases h9 : ruleOf d <;> simp [List.filterMap, h9]
  rw [e2]
  have e3 : (ruleOf d).toList.length ≤ 1 := by cases ruleOf d <;> simp
  exact List.take_of_length_le (by rw [List.length_append]; omega)
theorem sheetTo_full {l : List Str} {k : Nat} (h : 8 ≤ (sheetTo (l.take k)).length) : sheetTo l = sheetTo (l.take k) := by
  unfold sheetTo at *
  rw [List.length_take] at h
  conv => lhs; rw [← List.take_append_drop k l]
  rw [List.filterMap_append, List.take_append_of_le_length (by omega)]
theorem sheetTo_len (l : List Str) : (sheetTo l).length ≤ 8 := by unfold sheetTo; rw [List.length_take]; omega
theorem parseI_wf (s : Str) : WfI (parseI s) := by
  unfold parseI; split
  · rename_i h; unfold isInt at h; simp only [Bool.and_eq_true, decide_eq_true_eq] at h; exact ⟨by omega, by omega⟩
  · exact ⟨by omega, by omega⟩
theorem ruleOf_name {x : Str} {r : TRule} (h : ruleOf x = some r) : isName r.name = true ∧ 1 ≤ r.color ∧ r.color ≤ 999 := by
  unfold ruleOf at h; split at h
  · split at h
    · rename_i h9; simp only [Option.some.injEq] at h; subst h
      simp only [Bool.and_eq_true] at h9; exact ⟨h9.1.1, (inR_true.1 h9.2).1, (inR_true.1 h9.2).2⟩
    · cases h
  · cases h
theorem sheetTo_mem {l : List Str} {r : TRule} (h : r ∈ sheetTo l) : isName r.name = true ∧ 1 ≤ r.color ∧ r.color ≤ 999 := by
  have h1 := List.mem_of_mem_take h
  obtain ⟨x, _, hx⟩ := List.mem_filterMap.1 h1
  exact ruleOf_name hx
theorem isName_len8 {s : Str} (h : isName s = true) : s.length ≤ 8 := by
  unfold isName at h; simp only [Bool.and_eq_true] at h; have := inR_true.1 h.2; omega
theorem sheetTo_size (l : List Str) : (⟨sheetTo l⟩ : TSheet).size ≤ 72 := by
  have h1 := sheetTo_len l
  have key : ∀ q : List TRule, (∀ r ∈ q, r.name.length ≤ 8) → lsum TRule.size q ≤ q.length * 8 := by
    intro q
    induction q with
    | nil => intro _; simp [lsum]
    | cons r q ih =>
      intro h
      have h2 := ih (fun z hz => h z (List.mem_cons_of_mem _ hz))
      have h3 := h r (by simp)
      rw [lsum_cons, List.length_cons]; simp only [TRule.size]; omega
  have h2 := key _ (fun r hr => isName_len8 (sheetTo_mem (l := l) hr).1)
  simp only [TSheet.size, lsz]; omega
theorem sheet_size_of {x : PSheet} {l : List Str} (h : x.lg = ⟨sheetTo l⟩) : x.lg.size ≤ 72 := by rw [h]; exact sheetTo_size l

/-! Tokens and trees. -/
def isVoid (s : Str) : Bool := decide (s = [105, 109, 103]) || decide (s = [108, 105, 110, 107])
def idxB (b : UInt8) (s : Str) : Nat := (s.takeWhile fun c => decide (c ≠ b)).length
theorem idxB_le (b : UInt8) (s : Str) : idxB b s ≤ s.length := (List.takeWhile_sublist _).length_le
theorem idxB_here {b c : UInt8} {s : Str} (h : c = b) : idxB b (c :: s) = 0 := by simp [idxB, h]
theorem idxB_next {b c : UInt8} {s : Str} (h : ¬ c = b) : idxB b (c :: s) = idxB b s + 1 := by simp [idxB, h]
theorem idxB_two {x : Str} (h : (idxB 60 x : Int) = 0) (h2 : ¬ (idxB 62 x : Int) = (x.length : Int)) : 1 ≤ idxB 62 x := by
  cases x with
  | nil => simp [idxB] at h2
  | cons c x =>
    by_cases h9 : c = 60
    · subst h9; rw [idxB_next (by decide)]; omega
    · rw [idxB_next h9] at h; omega
def attrV (name : Str) (l : List TAttr) : Str := ((l.find? fun a => decide (a.name = name)).map TAttr.value).getD []
def attrIn (name : Str) (l : List TAttr) : Bool := l.any fun a => decide (a.name = name)
theorem isValue_len20 {s : Str} (h : isValue s = true) : s.length ≤ 20 := by
  unfold isValue at h; simp only [Bool.and_eq_true] at h; have := inR_true.1 h.2; omega
theorem idxB_or (x : Str) : idxB 60 x ≠ 0 ∨ idxB 62 x = x.length ∨ 1 ≤ idxB 62 x := by
  by_cases h1 : idxB 60 x = 0
  · by_cases h2 : idxB 62 x = x.length
    · exact .inr (.inl h2)
    · exact .inr (.inr (idxB_two (by omega) (by omega)))
  · exact .inl h1

/-- The place at which a list of open nodes is cut. -/
def hitB (b : PBuilder) (name : Str) (k : Nat) : Bool := match b.opn.l[k]? with
  | some j => inR j 0 (b.nodes.l.length - 1) && (match b.nodes.l[j.toNat]? with | some x => decide (x.name = name) | none => false)
  | none => false
def closeI (b : PBuilder) (name : Str) : Nat → Nat
  | 0 => b.opn.l.length
  | k + 1 => if k = 0 then b.opn.l.length else if hitB b name k = true then k else closeI b name k
def closeB (b : PBuilder) (name : Str) : PBuilder := ⟨b.nodes, if closeI b name b.opn.l.length < b.opn.l.length then b.opn.cut 0 (closeI b name b.opn.l.length) else b.opn⟩
theorem closeI_pos (b : PBuilder) (name : Str) (h : 0 < b.opn.l.length) : ∀ k, 0 < closeI b name k
  | 0 => h
  | k + 1 => by
    unfold closeI; split
    · exact h
    · split
      · omega
      · exact closeI_pos b name h k

section
variable {α : Type} [Ph α] [Own α] {M : Nat → Prop} {P : Program} {n : Nat} {e : Env} {w w0 : World} {ty : TypeId} {C : List Chunk}
/-- append(s, r...) where the elements own memory: r's elements are taken over. -/
theorem Yr.appendO' {t el : TypeId} {s r : Sl α} {F GG : List Nat} {x y : Operand} {b off c bytes : Nat} {z : α} {C' : List Chunk} (hs : Sat M w0 w C) (hT : ElT P t el z bytes) (hsel : Sel [ow s F, ow r GG] C C')
    (hx : ev? e x = some (.slice s.a s.l.length s.c)) (hy : ev? e y = some (.slice (some ⟨b, off, none⟩) r.l.length c)) (hc : CellsAt w b off (encs r.l))
    (hlen : s.l.length + r.l.length ≤ maxLen) (hby : (s.l.length + r.l.length) * bytes ≤ 140737488355328) :
    Yr P n e w (.call ⟨.builtin .append, #[x, y], #[t, t]⟩) ty (fun v' w' => ∃ (s' : Sl α) (F' : List Nat), v' = s'.v ∧ s'.l = s.l ++ r.l ∧ Sat M w0 w' (ow s' F' :: C')) := fun or a ha ho _ => by
  have hs2 := hs.sel hsel
  obtain ⟨hp, hnd⟩ := (hs2.all (ow s F) (by simp)).1
  obtain ⟨hpr, hndr⟩ := (hs2.all (ow r GG) (by simp)).1
  obtain ⟨G0, G, hGG, _, hels2⟩ := hpr.out
  have hndu : G.Nodup := by rw [hGG] at hndr; exact (List.nodup_append.1 hndr).2.1
  have hltF := (hs2.all (ow s F) (by simp)).2
  have hltG : ∀ x ∈ G, _ := fun x hx => (hs2.all (ow r GG) (by simp)).2 x (by show x ∈ GG; rw [hGG]; simp [hx])
  have hsepFG : ∀ b ∈ F, b ∉ G := fun b hb h => (List.pairwise_cons.1 hs2.sep).1 (ow r GG) (by simp) b hb (by show b ∈ GG; rw [hGG]; simp [h])
  obtain ⟨F0, F1, hF, harr, hels⟩ := hp.out
  obtain ⟨inf, zv, hi, hz, hsz, hb, hzc⟩ := hT.inf
  subst hb
  have hlenx : (encs r.l).length = r.l.length * Ph.sz α := encs_length _
  have hnews : ∀ j v, (encs r.l)[j]? = some v → w.cell? ((⟨b, off, none⟩ : Go.Addr).add j) = some v := fun j v hj => by rw [addr_add]; exact hc j v hj
  have hone : ∀ v ∈ encs r.l, v.oneCell' = true := encs_one r.l
  have hzs : zv.cells.size = Ph.sz α := by rw [hzc]; simp [Ph.len]
  have hexec : ∀ (v' : Value) (w' : World), (Builtin.append_ #[t, t] or.type #[.slice s.a s.l.length s.c, .slice (some ⟨b, off, none⟩) r.l.length c]).run P w = .ok v' w' → (execOp a.eval or).run P w = .ok (.value v') w' := fun v' w' hr => by
    simp only [execOp, ho, resolve, invoke, builtin, Sem.run_bind, Sem.run_pure, Result.andThen_ok, List.map_toArray, List.map_cons, List.map_nil, ha.ev hx, ha.ev hy, hr]
  have henc : encs (s.l ++ r.l) = encs s.l ++ encs r.l := encs_append _ _
  -- a new row
  have grown : ∀ (v' : Value) (w' : World), w'.ownsRow w.heap.size el (Ph.sz α) v' (s.l.length + r.l.length) (encs (s.l ++ r.l)) → w.grownBy w' none →
      ∃ (s' : Sl α) (F' : List Nat), v' = s'.v ∧ s'.l = s.l ++ r.l ∧ Sat M w0 w' (ow s' F' :: C') := fun v' w' hr hg => by
    have hbel : Below w.heap.size w w' := ⟨hg.os, hg.tape, hg.output, hg.size, fun b hb => hg.block b hb (by simp)⟩
    have hkeep : ∀ x ∈ F1 ++ G, w'.heap[x]? = w.heap[x]? := fun x hx => hbel.block x (by
      rcases List.mem_append.1 hx with h | h
      · exact (hltF x (by show x ∈ F; rw [hF]; simp [h])).2
      · exact (hltG x h).2)
    have how : ownL w' (s.l ++ r.l) (F1 ++ G) := ownL_append (ownL_loc (fun x hx => hkeep x (by simp [hx])) hels) (ownL_loc (fun x hx => hkeep x (by simp [hx])) hels2)
    obtain ⟨s', F', h1, h2, h3, h4, h5⟩ := ownsRow_own' hr (by simp) how
    refine ⟨s', F' ++ (F1 ++ G), h1, h2, hs2.touch2 (Touch.of_below hbel) ⟨h3, ?_⟩ (fun x hx => ?_)⟩
    · rw [List.nodup_append]
      refine ⟨h4, ?_, fun x hx y hy hxy => ?_⟩
      · rw [List.nodup_append]
        rw [hF, List.nodup_append] at hnd
        refine ⟨hnd.2.1, hndu, fun x hx y hy hxy => hsepFG x (by rw [hF]; simp [hx]) (hxy ▸ hy)⟩
      · subst hxy
        have h6 := (h5 x hx).1
        rcases List.mem_append.1 hy with h | h
        · have := (hltF x (by show x ∈ F; rw [hF]; simp [h])).2; omega
        · have := (hltG x h).2; omega
    · rcases List.mem_append.1 hx with h | h
      · exact .inr (.inr (h5 x h))
      · rcases List.mem_append.1 h with h | h
        · exact .inl (by show x ∈ F; rw [hF]; simp [h])
        · exact .inr (.inl (by show _ ∈ GG; rw [hGG]; simp [h]))
  cases harr with
  | nil h1 h2 h3 =>
    have hl0 : s.l = [] := by
      have := encs_length s.l
      rw [h3] at this
      have hpos : 0 < Ph.sz α := Ph.pos
      rcases Nat.eq_zero_or_pos s.l.length with h | h
      · exact List.eq_nil_of_length_eq_zero h
      · have := Nat.mul_pos h hpos; simp at *; omega
    obtain ⟨v', w', hr, h4, h5, _⟩ := run_append_own (P := P) w w.heap.size t or.type el inf zv (Ph.sz α) inf.bytes hT.und hi hz hsz rfl hzs Ph.pos (.slice none 0 0) 0 [] (World.ownsRow_nil w _ el _) ⟨b, off, none⟩ r.l.length c (encs r.l) hlenx hnews hone (by rw [hl0] at hlen; simpa using hlen) (by rw [hl0] at hby; simpa using hby) (Nat.le_refl _)
    have hv : (.slice s.a s.l.length s.c : Value) = .slice none 0 0 := by rw [h1, h2, hl0]; rfl
    obtain ⟨s', F', g1, g2, g3⟩ := grown v' w' (by rw [henc, hl0]; simpa [encs] using h4) h5
    exact ⟨v', w', .inl (hexec v' w' (by rw [hv]; exact hr)), s', F', g1, g2, g3⟩
  | @row g o cur e' h1 h2 h3 h4 =>
    have hv : (.slice s.a s.l.length s.c : Value) = .slice (some ⟨g, o, none⟩) s.l.length s.c := by rw [h1]
    have hL : (encs s.l).length = s.l.length * Ph.sz α := encs_length _
    by_cases hroom : s.l.length + r.l.length ≤ s.c
    · have hle3 : (s.l.length + r.l.length) * Ph.sz α ≤ s.c * Ph.sz α := Nat.mul_le_mul_right _ hroom
      have hfit : o + s.l.length * Ph.sz α + (encs r.l).length ≤ cur.size := by rw [hlenx]; rw [Nat.add_mul] at hle3; omega
      have hr := run_append_room' (P := P) w t or.type el e' inf hT.und hi g o s.l.length s.c cur h2 ⟨b, off, none⟩ r.l.length c (encs r.l) (by rw [hsz]; exact hlenx) hnews hone hroom (by rw [hsz]; exact hfit)
      rw [hsz] at hr
      have hgF : g ∉ F1 := by rw [hF] at hnd; exact (List.nodup_cons.1 hnd).1
      have hgG : g ∉ G := hsepFG g (by rw [hF]; simp)
      have hkeep : ∀ x ∈ F1 ++ G, (w.setRow g (lay cur.toList (o + s.l.length * Ph.sz α) (encs r.l)).toArray).heap[x]? = w.heap[x]? := fun x hx => setRow_other w g x _ (by
        rintro rfl
        rcases List.mem_append.1 hx with h | h
        · exact hgF h
        · exact hgG h)
      refine ⟨_, _, .inl (hexec _ _ (by rw [hv]; exact hr)), ⟨s.l ++ r.l, some ⟨g, o, none⟩, s.c⟩, [g] ++ (F1 ++ G), by simp [Sl.v], rfl, hs2.touch2 ((touch_setRow (b := g)).mono (by rintro k rfl; left; show k ∈ F; rw [hF]; simp)) ⟨⟨by simpa using hroom, hp.max, [g], F1 ++ G, rfl, .row rfl (setRow_heap w g cur _ e' (0, 0) h2) ?_ ?_, ?_⟩, ?_⟩ (fun k hk => ?_)⟩
      · simp only [List.size_toArray]
        rw [lay_length (by rw [Array.length_toList]; omega), Array.length_toList]; exact h3
      · have ht : (cur.toList.drop o).take (s.l.length * Ph.sz α) = encs s.l := by rw [← hL]; exact h4
        show ((lay cur.toList (o + s.l.length * Ph.sz α) (encs r.l)).drop o).take (encs (s.l ++ r.l)).length = encs (s.l ++ r.l)
        rw [lay_drop (by rw [Array.length_toList]; omega)]
        unfold lay
        rw [ht, henc, List.take_left]
      · exact ownL_append (ownL_loc (fun x hx => hkeep x (by simp [hx])) hels) (ownL_loc (fun x hx => hkeep x (by simp [hx])) hels2)
      · rw [List.nodup_append]
        refine ⟨by simp, ?_, fun x hx y hy hxy => ?_⟩
        · rw [List.nodup_append]
          rw [hF, List.nodup_append] at hnd
          exact ⟨hnd.2.1, hndu, fun x hx y hy hxy => hsepFG x (by rw [hF]; simp [hx]) (hxy ▸ hy)⟩
        · obtain rfl : x = g := by simpa using hx
          subst hxy
          rcases List.mem_append.1 hy with h | h
          · exact hgF h
          · exact hgG h
      · rcases List.mem_append.1 hk with h | h
        · left; show k ∈ F; rw [hF]; simp at h; simp [h]
        · rcases List.mem_append.1 h with h | h
          · left; show k ∈ F; rw [hF]; simp [h]
          · exact .inr (.inl (by show _ ∈ GG; rw [hGG]; simp [h]))
    · obtain ⟨v', w', hr, h5, h6⟩ := run_append_arg_grows (P := P) w t or.type el inf zv (Ph.sz α) inf.bytes hT.und hi hz hsz rfl hzs Ph.pos ⟨g, o, none⟩ s.l.length s.c (encs s.l) hL (fun j u hj => by
          rw [addr_add, cell_of_row w g (o + j) cur e' (0, 0) h2]
          rw [← h4, List.getElem?_take] at hj
          split at hj
          · rw [List.getElem?_drop] at hj; simpa using hj
          · cases hj) ⟨b, off, none⟩ r.l.length c (encs r.l) hlenx hnews (by omega) hlen hby
      obtain ⟨s', F', g1, g2, g3⟩ := grown v' w' (by rw [henc]; exact h5) h6
      exact ⟨v', w', .inl (hexec v' w' (by rw [hv]; exact hr)), s', F', g1, g2, g3⟩
theorem Yr.appendO {t el : TypeId} {s r : Sl α} {F G : List Nat} {x y : Operand} {bytes : Nat} {z : α} {C' : List Chunk} (hs : Sat M w0 w C) (hT : ElT P t el z bytes) (hsel : Sel [ow s F, ow r G] C C')
    (hx : ev? e x = some (.slice s.a s.l.length s.c)) (hy : ev? e y = some (.slice r.a r.l.length r.c))
    (hlen : s.l.length + r.l.length ≤ maxLen) (hby : (s.l.length + r.l.length) * bytes ≤ 140737488355328) :
    Yr P n e w (.call ⟨.builtin .append, #[x, y], #[t, t]⟩) ty (fun v' w' => ∃ (s' : Sl α) (F' : List Nat), v' = s'.v ∧ s'.l = s.l ++ r.l ∧ Sat M w0 w' (ow s' F' :: C')) := by
  have hr : Sl.Ok w r := Own.ok ((hs.sel hsel).all (ow r G) (by simp)).1.1
  rcases hr.cells with h0 | ⟨h1, h2⟩
  · intro or a ha ho _
    have hs2 := hs.sel hsel
    obtain ⟨hp, hnd⟩ := (hs2.all (ow s F) (by simp)).1
    obtain ⟨inf, zv, hi, hz, hsz, hb, hzc⟩ := hT.inf
    refine ⟨s.v, w, .inl ?_, s, F, rfl, by simp [h0], Sat.touch2 hs2 (Touch.refl _ _) ⟨hp, hnd⟩ (fun b hb => .inl hb)⟩
    have hle := hp.le
    have hrun : (Builtin.append_ #[t, t] or.type #[.slice s.a s.l.length s.c, .slice r.a r.l.length r.c]).run P w = .ok s.v w := by
      rw [h0]
      cases hra : r.a with
      | none => cases hsa : s.a <;> simp [Builtin.append_, run_underlying hT.und, sizeOf, typeInfo, hi, Builtin.lenOf, hle, Builtin.firstCells, storeCells, Sl.v, hsa]
      | some ad =>
        have hf := run_firstCells_some (P := P) w inf.size 0 ad 0 r.c [] (by simp) (by simp)
        cases hsa : s.a <;> simp [Builtin.append_, run_underlying hT.und, sizeOf, typeInfo, hi, Builtin.lenOf, hle, hf, storeCells, Sl.v, hsa]
    simp only [execOp, ho, resolve, invoke, builtin, Sem.run_bind, Sem.run_pure, Result.andThen_ok, List.map_toArray, List.map_cons, List.map_nil, ha.ev hx, ha.ev hy, hrun]
  · rw [h1] at hy
    exact Yr.appendO' hs hT hsel hx hy h2 hlen hby
end
theorem hit_yes {b : PBuilder} {name : Str} {k : Nat} {d : Int} {x : PNode} (hd : b.opn.l[k]? = some d) (h1 : 0 ≤ d ∧ d ≤ (b.nodes.l.length : Int) - 1) (hx : b.nodes.l[d.toNat]? = some x) (hn : x.name = name) : hitB b name k = true := by
  unfold hitB; simp only [hd, hx, inR_true.2 h1, hn]; simp
theorem hit_no {b : PBuilder} {name : Str} {k : Nat} {d : Int} {x : PNode} (hd : b.opn.l[k]? = some d) (hx : b.nodes.l[d.toNat]? = some x) (hn : ¬ x.name = name) : hitB b name k = false := by
  unfold hitB; simp only [hd, hx, hn]; simp
theorem hit_out {b : PBuilder} {name : Str} {k : Nat} {d : Int} (hd : b.opn.l[k]? = some d) (h1 : inR d 0 ((b.nodes.l.length : Int) - 1) = false) : hitB b name k = false := by
  unfold hitB; simp only [hd, h1]; simp
theorem closeI_no {b : PBuilder} {name : Str} {m : Nat} (h : 1 < m) (h2 : hitB b name (m - 1) = false) : closeI b name m = closeI b name (m - 1) := by
  obtain ⟨j, rfl⟩ : ∃ j, m = j + 1 := ⟨m - 1, by omega⟩
  rw [Nat.add_sub_cancel] at h2 ⊢
  rw [closeI, if_neg (by omega), if_neg (by rw [h2]; simp)]
theorem closeI_yes {b : PBuilder} {name : Str} {m : Nat} (h : 1 < m) (h2 : hitB b name (m - 1) = true) : closeI b name m = m - 1 := by
  obtain ⟨j, rfl⟩ : ∃ j, m = j + 1 := ⟨m - 1, by omega⟩
  rw [Nat.add_sub_cancel] at h2 ⊢
  rw [closeI, if_neg (by omega), if_pos h2]
theorem closeI_end {b : PBuilder} {name : Str} {m : Nat} (h : m ≤ 1) : closeI b name m = b.opn.l.length := by
  match m, h with
  | 0, _ => rfl
  | 1, _ => rfl
theorem closeB_cut {b : PBuilder} {name : Str} {k : Nat} (h : closeI b name b.opn.l.length = k) (hk : k < b.opn.l.length) : closeB b name = ⟨b.nodes, b.opn.cut 0 k⟩ := by
  unfold closeB; rw [h, if_pos hk]
theorem closeB_all {b : PBuilder} {name : Str} (h : closeI b name b.opn.l.length = b.opn.l.length) : closeB b name = b := by
  unfold closeB; rw [h, if_neg (Nat.lt_irrefl _)]
theorem Sat.closeB {M : Nat → Prop} {w0 w : World} {C : List Chunk} {x : PBuilder} {F : List Nat} (name : Str) (hs : Sat M w0 w (ow x F :: C)) : ∃ G, Sat M w0 w (ow (closeB x name) G :: C) := by
  unfold Go.Sw.closeB
  by_cases h : closeI x name x.opn.l.length < x.opn.l.length
  · rw [if_pos h]
    obtain ⟨F0, F1, _, hs⟩ := PBuilder.split hs
    obtain ⟨F2, hs⟩ := Sat.cutow (lo := 0) (hi := closeI x name x.opn.l.length) (hs.sel (D := [ow x.opn F1]) (Sel.cons (Ext.there Ext.here) Sel.nil)) (Nat.zero_le _) (Nat.le_of_lt h)
    exact ⟨_, PBuilder.join ⟨x.nodes, x.opn.cut 0 (closeI x name x.opn.l.length)⟩ (hs.sel (D := [ow x.nodes F0, ow (x.opn.cut 0 (closeI x name x.opn.l.length)) F2]) (Sel.cons (Ext.there Ext.here) (Sel.cons Ext.here Sel.nil)))⟩
  · rw [if_neg h]; exact ⟨F, hs⟩
theorem closeB_rel (x : PBuilder) (name : Str) : (closeB x name).lg.size ≤ x.lg.size ∧ (0 < x.opn.l.length → 0 < (closeB x name).opn.l.length) := by
  have h := closeI_pos x name
  unfold closeB
  split
  · rename_i h1
    simp only [PBuilder.lg, TBuilder.size, Sl.cut, List.drop_zero, List.length_take]
    exact ⟨by omega, fun h2 => by have := h h2 x.opn.l.length; omega⟩
  · exact ⟨Nat.le_refl _, id⟩
theorem lg_nodes {x g : PBuilder} (h : x.lg = g.lg) : x.nodes.l.length = g.nodes.l.length ∧ x.opn.l.length = g.opn.l.length ∧ lsz TNode.size (x.nodes.l.map PNode.lg) = lsz TNode.size (g.nodes.l.map PNode.lg) := by
  have h1 := congrArg TBuilder.nodes h; have h2 := congrArg TBuilder.opn h
  simp only [PBuilder.lg] at h1 h2
  exact ⟨by have := congrArg List.length h1; simpa using this, by rw [h2], by rw [h1]⟩
theorem tok_take {l : List PToken} {k : Nat} {d : PToken} (hd : l[k]? = some d) : lsz TToken.size ((l.take (k + 1)).map PToken.lg) = lsz TToken.size ((l.take k).map PToken.lg) + 1 + d.lg.size := by
  rw [List.take_add_one, hd, List.map_append]
  show lsz TToken.size (List.map PToken.lg (l.take k) ++ [d.lg]) = _
  rw [lsz_app, lsz_one]; omega
theorem tok_take_le (l : List PToken) (k : Nat) : lsz TToken.size ((l.take k).map PToken.lg) ≤ lsz TToken.size (l.map PToken.lg) := by
  conv => rhs; rw [← List.take_append_drop k l, List.map_append, lsz_app]
  omega
theorem tok_one {l : List PToken} {k : Nat} {d : PToken} (hd : l[k]? = some d) : lsz TToken.size ((l.take k).map PToken.lg) + 1 + d.lg.size ≤ lsz TToken.size (l.map PToken.lg) := by
  rw [← tok_take hd]; exact tok_take_le l _
theorem builder_lens {x : PBuilder} {B : Nat} (h : x.lg.size ≤ B) : x.nodes.l.length ≤ B ∧ x.opn.l.length ≤ B ∧ lsz TNode.size (x.nodes.l.map PNode.lg) + x.opn.l.length ≤ B := by
  simp only [PBuilder.lg, TBuilder.size] at h
  have h2 : x.nodes.l.length ≤ lsz TNode.size (x.nodes.l.map PNode.lg) := by simp only [lsz, List.length_map]; omega
  exact ⟨by omega, by omega, h⟩

/-! Three results that own memory. -/
structure Fresh3 {α β γ : Type} [Ph α] [Own α] [Ph β] [Own β] [Ph γ] [Own γ] (W : World) (x : α) (y : β) (z : γ) (w : World) : Prop where
  out : ∃ F G H, Own.own w x F ∧ Own.own w y G ∧ Own.own w z H ∧ F.Nodup ∧ G.Nodup ∧ H.Nodup ∧ (∀ k ∈ F, k ∉ G) ∧ (∀ k ∈ F, k ∉ H) ∧ (∀ k ∈ G, k ∉ H) ∧ ∀ k, k ∈ F ∨ k ∈ G ∨ k ∈ H → W.heap.size ≤ k ∧ k < w.heap.size
theorem Sat.addF3 {α β γ : Type} [Ph α] [Own α] [Ph β] [Own β] [Ph γ] [Own γ] {M : Nat → Prop} {w0 w W : World} {C : List Chunk} {x : α} {y : β} {z : γ} (hs : Sat M w0 w C) (ho : OldC w0 W C) (hf : Fresh3 W x y z w) : ∃ F G H, Sat M w0 w (ow x F :: ow y G :: ow z H :: C) := by
  obtain ⟨F, G, H, h1, h2, h3, n1, n2, n3, d1, d2, d3, h4⟩ := hf.out
  refine ⟨F, G, H, hs.tch, ?_, .cons (fun d hd k hk hkd => ?_) (.cons (fun d hd k hk hkd => ?_) (.cons (fun d hd k hk hkd => ?_) hs.sep))⟩
  · intro d hd
    rcases List.mem_cons.1 hd with rfl | hd
    · exact ⟨⟨h1, n1⟩, fun k hk => ⟨.inl (Nat.le_trans ho.1 (h4 k (.inl hk)).1), (h4 k (.inl hk)).2⟩⟩
    · rcases List.mem_cons.1 hd with rfl | hd
      · exact ⟨⟨h2, n2⟩, fun k hk => ⟨.inl (Nat.le_trans ho.1 (h4 k (.inr (.inl hk))).1), (h4 k (.inr (.inl hk))).2⟩⟩
      · rcases List.mem_cons.1 hd with rfl | hd
        · exact ⟨⟨h3, n3⟩, fun k hk => ⟨.inl (Nat.le_trans ho.1 (h4 k (.inr (.inr hk))).1), (h4 k (.inr (.inr hk))).2⟩⟩
        · exact hs.all d hd
  · rcases List.mem_cons.1 hd with rfl | hd
    · exact d1 k hk hkd
    · rcases List.mem_cons.1 hd with rfl | hd
      · exact d2 k hk hkd
      · have := ho.2 d hd k hkd; have := (h4 k (.inl hk)).1; omega
  · rcases List.mem_cons.1 hd with rfl | hd
    · exact d3 k hk hkd
    · have := ho.2 d hd k hkd; have := (h4 k (.inr (.inl hk))).1; omega
  · have := ho.2 d hd k hkd; have := (h4 k (.inr (.inr hk))).1; omega
theorem Sat.fresh3 {α β γ : Type} [Ph α] [Own α] [Ph β] [Own β] [Ph γ] [Own γ] {w0 w : World} {C C' : List Chunk} {x : α} {y : β} {z : γ} {F G H : List Nat} (hs : Sat N0 w0 w C) (hsel : Sel [ow x F, ow y G, ow z H] C C') : Fresh3 w0 x y z w := by
  have hs2 := hs.sel hsel
  have h1 := hs2.all (ow x F) (by simp)
  have h2 := hs2.all (ow y G) (by simp)
  have h3 := hs2.all (ow z H) (by simp)
  have p1 := List.pairwise_cons.1 hs2.sep
  have p2 := List.pairwise_cons.1 p1.2
  refine ⟨F, G, H, h1.1.1, h2.1.1, h3.1.1, h1.1.2, h2.1.2, h3.1.2, fun k hk hk' => p1.1 (ow y G) (by simp) k hk hk', fun k hk hk' => p1.1 (ow z H) (by simp) k hk hk', fun k hk hk' => p2.1 (ow z H) (by simp) k hk hk', fun k hk => ?_⟩
  rcases hk with h | h | h
  · exact ⟨(h1.2 k h).1.resolve_right (fun h => h), (h1.2 k h).2⟩
  · exact ⟨(h2.2 k h).1.resolve_right (fun h => h), (h2.2 k h).2⟩
  · exact ⟨(h3.2 k h).1.resolve_right (fun h => h), (h3.2 k h).2⟩

/-! A loop whose first round is walked apart: what it starts from need not be of the loop's own making. -/
structure FxC (M : Nat → Prop) {ι : Type} (n N : Nat) (μ : ι → Nat) (vars : ι → Env) (Cs : ι → List Chunk) (e0 : Env) (J : ι → Prop) (w0 : World) (C : List Chunk) (a : Act) (w : World) : Prop where
  out : ∃ k', μ k' < N ∧ J k' ∧ Sat M w0 w (Cs k' ++ C) ∧ Ag n (vars k' ++ e0) a
theorem WC.loopP {M : Nat → Prop} {P : Program} {n : Nat} {Q : Exit → Act → World → Prop} {body : Code} {ι : Type} (N : Nat) (μ : ι → Nat) (vars : ι → Env) (Cs : ι → List Chunk) (J : ι → Prop) (e0 : Env) {e : Env} {w w0 : World} {D C : List Chunk}
    (_hs : Sat M w0 w (D ++ C)) (_he : Sub e0 e)
    (first : WC P n (Exit.then (FxC M n N μ vars Cs e0 J w0 C) Q) body e w)
    (round : ∀ k w, J k → Sat M w0 w (Cs k ++ C) → WC P n (Exit.then (NxC M n μ vars Cs e0 J w0 C k) Q) body (vars k ++ e0) w) :
    WC P n Q (.loop body) e w := fun a ha =>
  wp_loop_ix (ι := Option ι) (fun o => match o with | none => N | some k => μ k)
    (fun o a' w' => match o with | none => w' = w ∧ Ag n e a' | some k => (J k ∧ Sat M w0 w' (Cs k ++ C)) ∧ Ag n (vars k ++ e0) a') none ⟨rfl, ha⟩ fun o a w' ho => by
    cases o with
    | none =>
      obtain ⟨rfl, ha'⟩ := ho
      exact wp_mono (first a ha') fun x a' w' hq => by
        cases x <;> first | exact hq | (obtain ⟨⟨k', h1, h2, h3, h4⟩⟩ := hq; exact ⟨some k', h1, ⟨h2, h3⟩, h4⟩)
    | some k =>
      obtain ⟨⟨hi, hsk⟩, hk⟩ := ho
      exact wp_mono (round k w' hi hsk a hk) fun x a' w' hq => by
        cases x <;> first | exact hq | (obtain ⟨⟨k', h1, h2, h3, h4⟩⟩ := hq; exact ⟨some k', h1, ⟨h2, h3⟩, h4⟩)
theorem At.roundF {M : Nat → Prop} {n N : Nat} {Q : Exit → Act → World → Prop} {ι : Type} {μ : ι → Nat} {vars : ι → Env} {Cs : ι → List Chunk} {e0 : Env} {J : ι → Prop} {w0 : World} {C : List Chunk} {e : Env} {w : World}
    (k' : ι) (hs : Sat M w0 w (Cs k' ++ C)) (he : Sub e0 e) (hv : Sub (vars k') e) (hm : μ k' < N) (hJ : J k') : At n (Exit.then (FxC M n N μ vars Cs e0 J w0 C) Q) .normal e w := fun _ ha => ⟨⟨k', hm, hJ, hs, ha.sub (Sub.append hv he)⟩⟩

end Go.Sw
