/- Strings put together: join, the texts of scripts and of policies; what the shelf's contracts say, at own data. General laws; no conditions. -/
import Derived.Test.YtdpifpainiiblaaGreatDoorLibH
set_option linter.all false
namespace Go.Sw
open Go Go.RowKit

section
variable {M : Nat → Prop} {P : Program} {n : Nat} {ops : Array Oper} {Q : Exit → Act → World → Prop} {e : Env} {w w0 : World} {C : List Chunk} {Cl : World → Prop}
variable {t : Nat} {ty : TypeId} {pos : String} {aft : Array Edge} {fuel : Nat} {listed : Array Bool}
/-- A guarded call whose guard says yes, the one operation that may come up. -/
theorem WA.callRg {i j : Nat} {want : Bool} {d : Nat} {op : Op} {f : FuncId} {vs : List Value} {E : Ending → World → Prop} (hr : Region.ready .any ops listed = [i]) (hi : ops[i]? = some ⟨some t, op, ty, pos, aft, some (j, want)⟩)
    (hd : ((ops[j]?).bind (·.dst)) = some d) (hx : get? e d = some (.bool want)) (ht : Nat.blt t n = true) (hy : Yc P n e w op f vs)
    (hc : Calls P f vs.toArray w E) (k : ∀ en w', E en w' → ∃ v, en = .returned v ∧ Cl w' ∧ WA P n ops Q Cl fuel (listed.setIfInBounds i true) ((t, v) :: e) w') : WA P n ops Q Cl (fuel + 1) listed e w := fun a ha => by
  refine ⟨fun h0 => (by rw [hr] at h0; cases h0), fun j' hj => ?_⟩
  rw [hr] at hj
  obtain rfl : j' = i := by simpa using hj
  unfold wpOp
  simp only [hi]
  rw [if_pos (by
    have hy := yielded_of ha hd hx
    simp [Region.wanted, hy])]
  refine .inl ?_
  unfold Oper.wp
  rw [hy ⟨some t, op, ty, pos, aft, some (j, want)⟩ a ha rfl, Oper.upon_enter]
  refine hc.mono fun en w' hE => ?_
  obtain ⟨v, rfl, hcl, hk⟩ := k en w' hE
  exact ⟨hcl, hk _ (ha.put ht v)⟩
theorem WA.callp2g {i j : Nat} {want : Bool} {d : Nat} {op : Op} {f : FuncId} {vs : List Value} {v : Value} (hs : Sat M w0 w C) (hcl : ∀ w', Sat M w0 w' C → Cl w') (hr : Region.ready .any ops listed = [i]) (hi : ops[i]? = some ⟨some t, op, ty, pos, aft, some (j, want)⟩)
    (hd : ((ops[j]?).bind (·.dst)) = some d) (hx : get? e d = some (.bool want)) (ht : Nat.blt t n = true) (hy : Yc P n e w op f vs)
    (hc : Calls P f vs.toArray w (RetP w v)) (k : ∀ w', Sat M w0 w' C → WA P n ops Q Cl fuel (listed.setIfInBounds i true) ((t, v) :: e) w') : WA P n ops Q Cl (fuel + 1) listed e w :=
  WA.callRg hr hi hd hx ht hy hc fun _ w' ⟨he, hb⟩ => ⟨v, he, hcl _ (hs.ext hb), k w' (hs.ext hb)⟩
end

/-! Arrays; loops of few rounds. -/
section
variable {P : Program} {n : Nat} {e : Env} {w : World} {ty : TypeId}
theorem Yl.indexArr {t el : TypeId} {k b i len : Nat} {x y : Operand} {kd : IntKind} {j : Int} (hu : P.underlying t = some (.array len el)) (hk : (P.info? el).map (·.size) = some k) (hx : ev? e x = some (bp b 0)) (hy : ev? e y = some (.int kd j)) (hj : j = (i : Int)) (hlt : i < len) :
    Yl P n e w (.indexAddr t x y) ty (bp b (i * k)) := fun or a ha ho _ => by
  subst hj
  obtain ⟨inf, hi, hsz⟩ : ∃ inf, P.info? el = some inf ∧ inf.size = k := by
    cases h : P.info? el with
    | none => simp [h] at hk
    | some inf => exact ⟨inf, rfl, by simpa [h] using hk⟩
  simp [execOp, ho, Instr.indexAt, ha.ev hx, ha.ev hy, asIntOf, run_underlying hu, hlt, sizeOf, typeInfo, hi, hsz, Instr.sureAddr, Addr.add_lit]
theorem Yl.buildArr {t el : TypeId} {k len : Nat} {zs : List Value} (hu : P.underlying t = some (.array len el)) (hk : (P.info? el).map (·.size) = some k) (hz : ZT P t zs) :
    Yl P n e w (.build t #[]) ty (.agg zs.toArray) := fun or a ha ho _ => by
  obtain ⟨z, _, hr, hc⟩ := hz.out
  obtain ⟨inf, hi, hsz⟩ : ∃ inf, P.info? el = some inf ∧ inf.size = k := by
    cases h : P.info? el with
    | none => simp [h] at hk
    | some inf => exact ⟨inf, rfl, by simpa [h] using hk⟩
  simp [execOp, ho, Instr.build, run_underlying hu, hr, hc, sizeOf, typeInfo, hi, Instr.fill]
end
section
variable {P : Program} {n : Nat} {Q : Exit → Act → World → Prop} {body : Code} {e : Env} {w : World}
def WR (P : Program) (n : Nat) (Q : Exit → Act → World → Prop) (body : Code) (N : Nat) (e : Env) (w : World) : Prop := ∀ a, Ag n e a → Code.rounds P body Q N a w
theorem WC.loopN (N : Nat) (h : WR P n Q body N e w) : WC P n Q (.loop body) e w := fun a ha => wp_loop_rounds N (h a ha)
theorem WR.succ {N : Nat} (h : WC P n (Exit.then (Code.rounds P body Q N) Q) body e w) : WR P n Q body (N + 1) e w := fun a ha => h a ha
theorem At.roundN {N : Nat} (h : WR P n Q body N e w) : At n (Exit.then (Code.rounds P body Q N) Q) .normal e w := fun a ha => h a ha
end

theorem nilok {α : Type} [Ph α] (w : World) : Sl.Ok w (⟨[], none, 0⟩ : Sl α) := ⟨Nat.zero_le _, Nat.zero_le _, .inl rfl, fun _ h => by cases h⟩
theorem getD_some {α : Type} {l : List α} {i : Nat} {z : α} (h : i < l.length) : l[i]? = some (l.getD i z) := by
  rw [List.getElem?_eq_getElem h, List.getD_eq_getElem?_getD, List.getElem?_eq_getElem h]; rfl

def joinS (xs : List Str) (sep : Str) : Str := sep.intercalate xs
theorem joinS_nil (sep : Str) : joinS [] sep = [] := rfl
theorem joinS_one (x sep : Str) : joinS [x] sep = x := by simp [joinS, List.intercalate, List.intersperse]
theorem joinS_cons (x y : Str) (l : List Str) (sep : Str) : joinS (x :: y :: l) sep = x ++ sep ++ joinS (y :: l) sep := by
  simp [joinS, List.intercalate, List.intersperse]
theorem joinS_snoc (sep : Str) (y : Str) : ∀ {l : List Str}, l ≠ [] → joinS (l ++ [y]) sep = joinS l sep ++ sep ++ y
  | [], h => absurd rfl h
  | [x], _ => by simp [joinS_cons, joinS_one]
  | x :: z :: l, _ => by
    rw [List.cons_append, List.cons_append, joinS_cons, ← List.cons_append, joinS_snoc sep y (l := z :: l) (by simp), joinS_cons]
    simp
theorem joinS_len (sep : Str) : ∀ (l : List Str), (joinS l sep).length ≤ lsum List.length l + l.length * sep.length
  | [] => by simp [joinS_nil]
  | [x] => by rw [joinS_one, lsum_cons]; omega
  | x :: z :: l => by
    have := joinS_len sep (z :: l)
    rw [joinS_cons, lsum_cons, List.length_cons, Nat.succ_mul]
    simp only [List.length_append]; omega
theorem joinS_empty {sep : Str} (l : List Str) (h : ∀ x ∈ l, x ≠ []) : joinS l sep = [] ↔ l = [] := by
  match l, h with
  | [], _ => simp [joinS_nil]
  | [x], h => rw [joinS_one]; simp [h x]
  | x :: y :: l, h => rw [joinS_cons]; simp [h x]

/-- strings.Join at own data. -/
theorem join_calls {P : Program} {f : FuncId}
    (hn : ∀ (a : Option Go.Addr) (c : Nat) (sep : ByteArray) (w : World), Calls P f #[.slice a 0 c, .string sep] w fun e w' => e = .returned (.string ⟨#[]⟩) ∧ w' = w)
    (hj : ∀ (bk o c : Nat) (xs : List ByteArray) (sep : ByteArray) (w : World), (∀ (j : Nat) x, xs[j]? = some x → w.cell? ⟨bk, o + j, none⟩ = some (.string x)) → bk < w.heap.size → xs.length ≤ 140737488355328 → xs.length ≤ c → (List.intercalate sep.data.toList (xs.map (·.data.toList))).length ≤ 140737488355328 →
      Calls P f #[.slice (some ⟨bk, o, none⟩) xs.length c, .string sep] w fun e w' => e = .returned (.string ⟨(List.intercalate sep.data.toList (xs.map (·.data.toList))).toArray⟩) ∧ Below w.heap.size w w')
    (l : Sl Str) (sep : Str) (w : World) (h : Sl.Ok w l) (h1 : l.l.length ≤ 140737488355328) (h2 : (joinS l.l sep).length ≤ 140737488355328) :
    Calls P f [Sl.v l, S sep].toArray w (RetP w (S (joinS l.l sep))) := by
  by_cases h0 : l.l = []
  · have hv : [Sl.v l, S sep].toArray = #[.slice l.a 0 l.c, .string ⟨⟨sep⟩⟩] := by simp [Sl.v, h0, S]
    rw [hv, h0]
    refine Calls.mono (hn l.a l.c ⟨⟨sep⟩⟩ w) ?_
    rintro e w' ⟨rfl, rfl⟩
    exact ⟨rfl, Below.refl _ _⟩
  · obtain ⟨d0, hd0⟩ := exists_get (l := l.l) (k := 0) (by cases hl : l.l with | nil => exact absurd hl h0 | cons a b => simp)
    have ha := (h.at_ hd0).1
    have hm : (l.l.map fun s => (⟨⟨s⟩⟩ : ByteArray)).map (·.data.toList) = l.l := by simp [List.map_map, Function.comp_def]
    have hv : [Sl.v l, S sep].toArray = #[.slice (some ⟨l.blk, l.off, none⟩) (l.l.map fun s => (⟨⟨s⟩⟩ : ByteArray)).length l.c, .string ⟨⟨sep⟩⟩] := by simp [Sl.v, ← ha, S]
    rw [hv]
    have hc : ∀ (j : Nat) x, (l.l.map fun s => (⟨⟨s⟩⟩ : ByteArray))[j]? = some x → w.cell? ⟨l.blk, l.off + j, none⟩ = some (.string x) := by
      intro j x hx
      rw [List.getElem?_map, Option.map_eq_some_iff] at hx
      obtain ⟨d, hd, rfl⟩ := hx
      have := (h.at_ hd).2 0 (S d) rfl
      simpa [Ph.sz] using this
    have hb : l.blk < w.heap.size := by
      have hcell := (h.at_ hd0).2 0 (S d0) rfl
      have h9 := World.block_lt_of_cell? w _ hcell
      exact h9
    have := hj l.blk l.off l.c (l.l.map fun s => (⟨⟨s⟩⟩ : ByteArray)) ⟨⟨sep⟩⟩ w hc hb (by simpa using h1) (by simpa using h.le) (by rw [hm]; exact h2)
    refine Calls.mono this ?_
    rintro e w' ⟨rfl, hbl⟩
    refine ⟨?_, hbl⟩
    rw [hm]; rfl

/-! Scripts. -/
def opWord (k : Int) : Str :=
  if k = 1 then [119, 114, 105, 116, 101] else if k = 2 then [97, 100, 100] else if k = 3 then [99, 111, 117, 110, 116] else if k = 4 then [108, 111, 111, 107] else if k = 5 then [115, 97, 121] else []
theorem opWord_out {k : Int} (h : k < 1 ∨ 5 < k) : opWord k = [] := by
  unfold opWord
  repeat (rw [if_neg (by omega)])
def opWords : List Str := [[], [119, 114, 105, 116, 101, 32], [97, 100, 100, 32], [99, 111, 117, 110, 116, 32], [108, 111, 111, 107, 32], [115, 97, 121, 32]]
theorem opWords_get {k : Int} (h : 1 ≤ k ∧ k ≤ 5) : opWords[k.toNat]? = some (opWord k ++ [32]) := by
  rcases (by omega : k = 1 ∨ k = 2 ∨ k = 3 ∨ k = 4 ∨ k = 5) with rfl | rfl | rfl | rfl | rfl <;> rfl
theorem opWord_len (k : Int) : (opWord k).length ≤ 5 := by
  unfold opWord; repeat' split
  all_goals simp
theorem opWord_nil (k : Int) : opWord k = [] ↔ ¬ (1 ≤ k ∧ k ≤ 5) := by
  constructor
  · intro h hk
    rcases (by omega : k = 1 ∨ k = 2 ∨ k = 3 ∨ k = 4 ∨ k = 5) with rfl | rfl | rfl | rfl | rfl <;> simp [opWord] at h
  · intro h; exact opWord_out (by omega)
def lineText (x : TLine) : Str := opWord x.op ++ [32] ++ x.text
def lineOk (x : TLine) : Bool := inR x.op 1 5
theorem lineText_ne (x : TLine) : lineText x ≠ [] := by simp [lineText]
def scriptParts (l : List TLine) : List Str := (l.filter lineOk).map lineText
def fmtScript (l : List TLine) : Str := joinS (scriptParts l) [59]
theorem scriptParts_yes {l : List TLine} {k : Nat} {d : TLine} (hd : l[k]? = some d) (h : 1 ≤ d.op ∧ d.op ≤ 5) : scriptParts (l.take k) ++ [lineText d] = scriptParts (l.take (k + 1)) := by
  unfold scriptParts; rw [← filter_yes (p := lineOk) hd ((inR_true).2 h)]; simp
theorem scriptParts_no {l : List TLine} {k : Nat} {d : TLine} (hd : l[k]? = some d) (h : ¬ (1 ≤ d.op ∧ d.op ≤ 5)) : scriptParts (l.take k) = scriptParts (l.take (k + 1)) := by
  unfold scriptParts; rw [← filter_no (p := lineOk) hd (fun h' => h ((inR_true).1 h'))]
theorem fmtScript_nil : fmtScript [] = [] := rfl
theorem fmtScript_no {l : List TLine} {k : Nat} {d : TLine} (hd : l[k]? = some d) (h : ¬ (1 ≤ d.op ∧ d.op ≤ 5)) : fmtScript (l.take k) = fmtScript (l.take (k + 1)) := by
  unfold fmtScript; rw [scriptParts_no hd h]
theorem fmtScript_eq_nil (l : List TLine) : fmtScript l = [] ↔ scriptParts l = [] := joinS_empty _ (fun x hx => by
  obtain ⟨y, _, rfl⟩ := List.mem_map.1 hx; exact lineText_ne y)
theorem fmtScript_first {l : List TLine} {k : Nat} {d : TLine} (hd : l[k]? = some d) (h : 1 ≤ d.op ∧ d.op ≤ 5) (h0 : fmtScript (l.take k) = []) : fmtScript (l.take (k + 1)) = lineText d := by
  unfold fmtScript; rw [← scriptParts_yes hd h, (fmtScript_eq_nil _).1 h0, List.nil_append, joinS_one]
theorem fmtScript_more {l : List TLine} {k : Nat} {d : TLine} (hd : l[k]? = some d) (h : 1 ≤ d.op ∧ d.op ≤ 5) (h0 : fmtScript (l.take k) ≠ []) : fmtScript (l.take (k + 1)) = fmtScript (l.take k) ++ [59] ++ lineText d := by
  unfold fmtScript; rw [← scriptParts_yes hd h, joinS_snoc _ _ (fun h' => h0 ((fmtScript_eq_nil _).2 h'))]
theorem scriptParts_size : ∀ (l : List TLine), lsum List.length (scriptParts l) + (scriptParts l).length ≤ 7 * lsz TLine.size l
  | [] => by simp [scriptParts, lsum]
  | x :: l => by
    have ih := scriptParts_size l
    have e : lsz TLine.size (x :: l) = lsz TLine.size l + 1 + x.text.length := by simp [lsz, lsum_cons, TLine.size]; omega
    rw [e]
    unfold scriptParts at ih ⊢
    by_cases hx : lineOk x = true
    · have hw := opWord_len x.op
      rw [List.filter_cons, if_pos hx, List.map_cons, lsum_cons, List.length_cons]
      have : (lineText x).length = (opWord x.op).length + 1 + x.text.length := by simp [lineText]; omega
      omega
    · rw [List.filter_cons, if_neg hx]; omega
theorem fmtScript_len (l : List TLine) : (fmtScript l).length ≤ 7 * lsz TLine.size l := by
  have h1 := joinS_len [59] (scriptParts l)
  have h2 := scriptParts_size l
  simp only [List.length_singleton, Nat.mul_one] at h1
  unfold fmtScript; omega
theorem scriptParts_len (l : List TLine) : (scriptParts l).length ≤ l.length := by
  unfold scriptParts; rw [List.length_map]; exact List.length_filter_le _ _
theorem lsz_take {α : Type} (f : α → Nat) (l : List α) (k : Nat) : lsz f (l.take k) ≤ lsz f l := by
  induction l generalizing k with
  | nil => simp
  | cons x l ih =>
    cases k with
    | zero => simp [lsz, lsum]
    | succ k =>
      have := ih k
      simp only [lsz, List.take_succ_cons, lsum_cons, List.length_cons] at this ⊢; omega

/-! Policies. -/
def wordsText (word : Str) (l : List Str) : Str := joinS (word :: l) [32]
theorem wordsText_nil (word : Str) : wordsText word [] = word := joinS_one _ _
theorem wordsText_snoc (word : Str) {l : List Str} {k : Nat} {d : Str} (hd : l[k]? = some d) : wordsText word (l.take (k + 1)) = wordsText word (l.take k) ++ [32] ++ d := by
  have e : l.take (k + 1) = l.take k ++ [d] := by rw [List.take_add_one, hd]; rfl
  unfold wordsText; rw [e, ← List.cons_append, joinS_snoc _ _ (by simp)]
theorem wordsText_len (word : Str) (l : List Str) : (wordsText word l).length ≤ word.length + 1 + strsz l := by
  have := joinS_len [32] (word :: l)
  unfold wordsText; simp only [strsz, lsz, lsum_cons, List.length_cons, List.length_nil] at this ⊢; omega
def fmtPolicy (p : TPolicy) : Str :=
  if (p.is && p.set) = true then
    wordsText [115, 99, 114, 105, 112, 116] p.scripts ++ [59] ++ wordsText [115, 116, 121, 108, 101] p.styles ++ [59] ++ wordsText [105, 109, 103] p.images ++ (if p.nonce = [] then [] else [59, 110, 111, 110, 99, 101, 32] ++ p.nonce)
  else []

end Go.Sw
