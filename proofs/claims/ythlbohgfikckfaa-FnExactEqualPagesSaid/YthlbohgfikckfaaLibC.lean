/- The symbolic walk: one rule for each operation that leaves memory alone, and the rules for a call. General laws over any program; no conditions. -/
import Derived.Test.YthlbohgfikckfaaLibB
namespace Go.Sw
open Go Go.RowKit
variable {M : Nat → Prop}

theorem beq_dec {α : Type} [BEq α] [LawfulBEq α] [DecidableEq α] (a b : α) : (a == b) = decide (a = b) := by
  rw [Bool.eq_iff_iff]; simp

/-- An operation's value in a world, which it leaves as it is. -/
def Yl (P : Program) (n : Nat) (e : Env) (w : World) (op : Op) (ty : TypeId) (v : Value) : Prop :=
  ∀ (o : Oper) (a : Act), Ag n e a → o.op = op → o.type = ty → (execOp a.eval o).run P w = .ok (.value v) w

/-- What an operation comes to: a value (undef where it has none) and a world. -/
def Yr (P : Program) (n : Nat) (e : Env) (w : World) (op : Op) (ty : TypeId) (R : Value → World → Prop) : Prop :=
  ∀ (o : Oper) (a : Act), Ag n e a → o.op = op → o.type = ty → ∃ v w', ((execOp a.eval o).run P w = .ok (.value v) w' ∨ ((execOp a.eval o).run P w = .ok .skip w' ∧ v = undef)) ∧ R v w'

section facts
variable {P : Program} {n : Nat} {e : Env} {w : World} {ty : TypeId}

theorem Yl.yr {op : Op} {v : Value} (h : Yl P n e w op ty v) : Yr P n e w op ty (fun v' w' => v' = v ∧ w' = w) := fun o a ha h1 h2 => ⟨v, w, .inl (h o a ha h1 h2), rfl, rfl⟩

theorem Yl.move {x : Operand} {v : Value} (hx : ev? e x = some v) : Yl P n e w (.move x) ty v := fun o a ha h _ => by simp [execOp, h, ha.ev hx]
theorem Yl.assign {x : Operand} {v : Value} (hx : ev? e x = some v) : Yl P n e w (.assign x) ty v := fun o a ha h _ => by simp [execOp, h, ha.ev hx]
theorem Yl.pickT {c x y : Operand} {v : Value} (hc : ev? e c = some (.bool true)) (hx : ev? e x = some v) : Yl P n e w (.pick c x y) ty v := fun o a ha h _ => by simp [execOp, h, ha.ev hc, ha.ev hx, asBool]
theorem Yl.pickF {c x y : Operand} {v : Value} (hc : ev? e c = some (.bool false)) (hy : ev? e y = some v) : Yl P n e w (.pick c x y) ty v := fun o a ha h _ => by simp [execOp, h, ha.ev hc, ha.ev hy, asBool]
theorem Yl.not {x : Operand} {ty' : TypeId} {b : Bool} (hx : ev? e x = some (.bool b)) : Yl P n e w (.unOp .not ty' x) ty (.bool (!b)) := fun o a ha h _ => by simp [execOp, h, ha.ev hx, Op.unary]
theorem Yl.neg {x : Operand} {ty' : TypeId} {k : IntKind} {i : Int} (hx : ev? e x = some (.int k i)) : Yl P n e w (.unOp .neg ty' x) ty (.int k (k.wrap (0 - i))) := fun o a ha h _ => by simp [execOp, h, ha.ev hx, Op.unary, Op.intArith]
theorem Yl.extract {x : Operand} {ix : Nat} {vs : Array Value} {v : Value} (hx : ev? e x = some (.tuple vs)) (hv : vs[ix]? = some v) : Yl P n e w (.extract x ix) ty v := fun o a ha h _ => by simp [execOp, h, ha.ev hx, Instr.extract, hv]
theorem Yl.nilCheck {x : Operand} {ad : Go.Addr} (hx : ev? e x = some (.pointer (some ad))) : Yl P n e w (.nilCheck x) ty (.pointer (some ad)) := fun o a ha h _ => by simp [execOp, h, ha.ev hx]

/-- A binary operation, by its run. -/
theorem Yl.bin {op : BinOp} {tx tyy : TypeId} {x y : Operand} {a b v : Value} (hx : ev? e x = some a) (hy : ev? e y = some b)
    (hrun : (do eqGuard op tx x y a b; binOp op tx a b : Sem Value).run P w = .ok v w) : Yl P n e w (.binOp op tx x y tyy) ty v := fun o ac ha h _ => by
  have : execOp ac.eval o = (do pure (.value (← (do eqGuard op tx x y (ac.eval x) (ac.eval y); binOp op tx (ac.eval x) (ac.eval y) : Sem Value)))) := by simp only [execOp, h]
  rw [this, ha.ev hx, ha.ev hy, Sem.run_bind, hrun]; rfl

section ints
variable {tx tyy : TypeId} {x y : Operand} {k : IntKind} {i j : Int}
theorem Yl.addw (hx : ev? e x = some (.int k i)) (hy : ev? e y = some (.int k j)) : Yl P n e w (.binOp .add tx x y tyy) ty (.int k (k.wrap (i + j))) := Yl.bin hx hy (by simp [eqGuard, binOp, Op.intArith])
theorem Yl.subw (hx : ev? e x = some (.int k i)) (hy : ev? e y = some (.int k j)) : Yl P n e w (.binOp .sub tx x y tyy) ty (.int k (k.wrap (i - j))) := Yl.bin hx hy (by simp [eqGuard, binOp, Op.intArith])
theorem Yl.mulw (hx : ev? e x = some (.int k i)) (hy : ev? e y = some (.int k j)) : Yl P n e w (.binOp .mul tx x y tyy) ty (.int k (k.wrap (i * j))) := Yl.bin hx hy (by simp [eqGuard, binOp, Op.intArith])
theorem Yl.quow (hx : ev? e x = some (.int k i)) (hy : ev? e y = some (.int k j)) (hj : j ≠ 0) : Yl P n e w (.binOp .quo tx x y tyy) ty (.int k (k.wrap (i.tdiv j))) := Yl.bin hx hy (by simp [eqGuard, binOp, Op.intDiv, hj])
theorem Yl.remw (hx : ev? e x = some (.int k i)) (hy : ev? e y = some (.int k j)) (hj : j ≠ 0) : Yl P n e w (.binOp .rem tx x y tyy) ty (.int k (i.tmod j)) := Yl.bin hx hy (by simp [eqGuard, binOp, Op.intDiv, hj])
theorem wrap_in {i : Int} (h : -9223372036854775808 ≤ i ∧ i ≤ 9223372036854775807) : IntKind.i64.wrap i = i := IntWalk.i64_in i h
theorem Yl.add (hx : ev? e x = some (.int .i64 i)) (hy : ev? e y = some (.int .i64 j)) (hb : -9223372036854775808 ≤ i + j ∧ i + j ≤ 9223372036854775807) : Yl P n e w (.binOp .add tx x y tyy) ty (.int .i64 (i + j)) := by have h := Yl.addw (P := P) (n := n) (w := w) (ty := ty) (tx := tx) (tyy := tyy) hx hy; rw [wrap_in hb] at h; exact h
theorem Yl.sub_ (hx : ev? e x = some (.int .i64 i)) (hy : ev? e y = some (.int .i64 j)) (hb : -9223372036854775808 ≤ i - j ∧ i - j ≤ 9223372036854775807) : Yl P n e w (.binOp .sub tx x y tyy) ty (.int .i64 (i - j)) := by have h := Yl.subw (P := P) (n := n) (w := w) (ty := ty) (tx := tx) (tyy := tyy) hx hy; rw [wrap_in hb] at h; exact h
theorem Yl.mul (hx : ev? e x = some (.int .i64 i)) (hy : ev? e y = some (.int .i64 j)) (hb : -9223372036854775808 ≤ i * j ∧ i * j ≤ 9223372036854775807) : Yl P n e w (.binOp .mul tx x y tyy) ty (.int .i64 (i * j)) := by have h := Yl.mulw (P := P) (n := n) (w := w) (ty := ty) (tx := tx) (tyy := tyy) hx hy; rw [wrap_in hb] at h; exact h
theorem Yl.lss (hx : ev? e x = some (.int k i)) (hy : ev? e y = some (.int k j)) : Yl P n e w (.binOp .lss tx x y tyy) ty (.bool (decide (i < j))) := Yl.bin hx hy (by simp [eqGuard, binOp, Op.intCmp])
theorem Yl.leq (hx : ev? e x = some (.int k i)) (hy : ev? e y = some (.int k j)) : Yl P n e w (.binOp .leq tx x y tyy) ty (.bool (decide (i ≤ j))) := Yl.bin hx hy (by simp [eqGuard, binOp, Op.intCmp])
theorem Yl.gtr (hx : ev? e x = some (.int k i)) (hy : ev? e y = some (.int k j)) : Yl P n e w (.binOp .gtr tx x y tyy) ty (.bool (decide (j < i))) := Yl.bin hx hy (by simp [eqGuard, binOp, Op.intCmp])
theorem Yl.geq (hx : ev? e x = some (.int k i)) (hy : ev? e y = some (.int k j)) : Yl P n e w (.binOp .geq tx x y tyy) ty (.bool (decide (j ≤ i))) := Yl.bin hx hy (by simp [eqGuard, binOp, Op.intCmp])
theorem Yl.eqi (hx : ev? e x = some (.int k i)) (hy : ev? e y = some (.int k j)) : Yl P n e w (.binOp .eql tx x y tyy) ty (.bool (decide (i = j))) := Yl.bin hx hy (by simp [eqGuard, binOp, Op.intCmp, beq_dec])
theorem Yl.nei (hx : ev? e x = some (.int k i)) (hy : ev? e y = some (.int k j)) : Yl P n e w (.binOp .neq tx x y tyy) ty (.bool (!decide (i = j))) := Yl.bin hx hy (by simp [eqGuard, binOp, Op.intCmp, bne, beq_dec])
end ints

section strings
variable {tx tyy : TypeId} {x y : Operand} {s u : Str}
theorem Yl.cat (hx : ev? e x = some (S s)) (hy : ev? e y = some (S u)) (hb : s.length + u.length ≤ 9223372036854775807) : Yl P n e w (.binOp .add tx x y tyy) ty (S (s ++ u)) := Yl.bin hx hy (by
      have h1 : ¬ ((((ByteArray.mk ⟨s⟩).size + (ByteArray.mk ⟨u⟩).size : Nat) : Int) > IntKind.i64.max) := by
        simp only [ByteArray.size, List.size_toArray, IntKind.max_i64]; omega
      have h2 : ByteArray.mk ⟨s⟩ ++ ByteArray.mk ⟨u⟩ = ByteArray.mk ⟨s ++ u⟩ := by
        apply ByteArray.ext; simp [ByteArray.data_append]
      simp only [eqGuard, binOp, Op.stringOp, h1, if_false, h2]; rfl)
theorem Yl.eqs (hx : ev? e x = some (S s)) (hy : ev? e y = some (S u)) : Yl P n e w (.binOp .eql tx x y tyy) ty (.bool (decide (s = u))) := Yl.bin hx hy (by simp [eqGuard, binOp, Op.stringOp]; exact beq_dec _ _)
theorem Yl.nes (hx : ev? e x = some (S s)) (hy : ev? e y = some (S u)) : Yl P n e w (.binOp .neq tx x y tyy) ty (.bool (!decide (s = u))) := Yl.bin hx hy (by simp [eqGuard, binOp, Op.stringOp]; exact beq_dec _ _)
theorem Yl.lts (hx : ev? e x = some (S s)) (hy : ev? e y = some (S u)) : Yl P n e w (.binOp .lss tx x y tyy) ty (.bool (Op.bytesLess s u)) := Yl.bin hx hy (by simp [eqGuard, binOp, Op.stringOp])
end strings

theorem run_bool_eq (P : Program) (w : World) (tx : TypeId) (x y : Operand) (b c : Bool) (hP : P.underlying tx = some .bool) : (do eqGuard .eql tx x y (.bool b) (.bool c); binOp .eql tx (.bool b) (.bool c) : Sem Value).run P w = .ok (.bool (b == c)) w := by
  have h1 : eqGuard .eql tx x y (.bool b) (.bool c) = pure () := rfl
  have h2 : binOp .eql tx (.bool b) (.bool c) = (do pure (.bool (← Op.equal tx (.bool b) (.bool c)))) := rfl
  rw [h1, h2]
  simp only [Sem.run_bind, Sem.run_pure, Result.andThen_ok, run_equal_bool w tx b c hP]
theorem run_bool_ne (P : Program) (w : World) (tx : TypeId) (x y : Operand) (b c : Bool) (hP : P.underlying tx = some .bool) : (do eqGuard .neq tx x y (.bool b) (.bool c); binOp .neq tx (.bool b) (.bool c) : Sem Value).run P w = .ok (.bool (!(b == c))) w := by
  have h1 : eqGuard .neq tx x y (.bool b) (.bool c) = pure () := rfl
  have h2 : binOp .neq tx (.bool b) (.bool c) = (do pure (.bool (!(← Op.equal tx (.bool b) (.bool c))))) := rfl
  rw [h1, h2]
  simp only [Sem.run_bind, Sem.run_pure, Result.andThen_ok, run_equal_bool w tx b c hP]

section bools
variable {tx tyy : TypeId} {x y : Operand} {b c : Bool}
theorem Yl.eqb (hP : P.underlying tx = some .bool) (hx : ev? e x = some (.bool b)) (hy : ev? e y = some (.bool c)) : Yl P n e w (.binOp .eql tx x y tyy) ty (.bool (b == c)) := Yl.bin hx hy (run_bool_eq P w _ _ _ _ _ hP)
theorem Yl.neb (hP : P.underlying tx = some .bool) (hx : ev? e x = some (.bool b)) (hy : ev? e y = some (.bool c)) : Yl P n e w (.binOp .neq tx x y tyy) ty (.bool (!(b == c))) := Yl.bin hx hy (run_bool_ne P w _ _ _ _ _ hP)
end bools
end facts

section steps
variable {P : Program} {n : Nat} {ops : Array Oper} {Q : Exit → Act → World → Prop} {rest : List Oper} {e : Env} {w : World}
variable {t : Nat} {ty : TypeId} {pos : String} {aft : Array Edge}

/-- One operation that leaves the world alone. -/
theorem WL.p {op : Op} {v : Value} (ht : Nat.blt t n = true) (hy : Yl P n e w op ty v) (h : WL P n ops Q rest ((t, v) :: e) w) : WL P n ops Q (⟨some t, op, ty, pos, aft, none⟩ :: rest) e w := fun a ha =>
  wpList_plain rfl fun K hK => by
    unfold Oper.wp
    rw [hy _ a ha rfl rfl, Oper.upon_value]
    exact hK _ _ (h _ (ha.put ht v))

/-- One operation that may change the world. -/
theorem WL.r {op : Op} {R : Value → World → Prop} (ht : Nat.blt t n = true) (hy : Yr P n e w op ty R) (h : ∀ v w', R v w' → WL P n ops Q rest ((t, v) :: e) w') : WL P n ops Q (⟨some t, op, ty, pos, aft, none⟩ :: rest) e w := fun a ha =>
  wpList_plain rfl fun K hK => by
    unfold Oper.wp
    obtain ⟨v, w', hr, hR⟩ := hy ⟨some t, op, ty, pos, aft, none⟩ a ha rfl rfl
    rcases hr with hr | ⟨hr, rfl⟩
    · rw [hr, Oper.upon_value]; exact hK _ _ (h v w' hR _ (ha.put ht v))
    · rw [hr, Oper.upon_skip]; exact hK _ _ (h _ w' hR _ (ha.put ht _))

/-- One operation without a slot of its own (a store). -/
theorem WL.s {op : Op} {R : Value → World → Prop} (hy : Yr P n e w op ty R) (h : ∀ v w', R v w' → WL P n ops Q rest e w') : WL P n ops Q (⟨none, op, ty, pos, aft, none⟩ :: rest) e w := fun a ha =>
  wpList_plain rfl fun K hK => by
    unfold Oper.wp
    obtain ⟨v, w', hr, hR⟩ := hy ⟨none, op, ty, pos, aft, none⟩ a ha rfl rfl
    rcases hr with hr | ⟨hr, rfl⟩
    · rw [hr, Oper.upon_value]; exact hK _ _ (h v w' hR _ ha)
    · rw [hr, Oper.upon_skip]; exact hK _ _ (h _ w' hR _ ha)

/-- An operation whose guard says no. -/
theorem WL.skip {o : Op} {j : Nat} {want g : Bool} {d : Nat} (hd : ((ops[j]?).bind (·.dst)) = some d) (hx : get? e d = some (.bool g)) (hne : (g == want) = false) (ht : Nat.blt t n = true)
    (h : WL P n ops Q rest ((t, undef) :: e) w) : WL P n ops Q (⟨some t, o, ty, pos, aft, some (j, want)⟩ :: rest) e w := fun a ha => by
  refine wpList_skip ?_ (h _ (ha.put ht undef))
  have hv := ha.get d _ hx
  have hsz : d < a.tmps.size := by
    rcases Nat.lt_or_ge d a.tmps.size with h' | h'
    · exact h'
    · simp [Array.getD_eq_getD_getElem?, Array.getElem?_eq_none h', undef] at hv
  have : a.tmps[d]? = some (.bool g) := by
    rw [Array.getD_eq_getD_getElem?, Array.getElem?_eq_getElem hsz] at hv
    rw [Array.getElem?_eq_getElem hsz]; simpa using hv
  have hne' : ¬ g = want := by simpa using hne
  simp [Region.wanted, yielded, hd, this, hne']

/-- An operation whose guard says yes is as one without. -/
theorem WL.run {o : Op} {j : Nat} {want : Bool} {d : Nat} (hd : ((ops[j]?).bind (·.dst)) = some d) (hx : get? e d = some (.bool want))
    (h : WL P n ops Q (⟨some t, o, ty, pos, aft, none⟩ :: rest) e w) : WL P n ops Q (⟨some t, o, ty, pos, aft, some (j, want)⟩ :: rest) e w := fun a ha => by
  have hv := ha.get d _ hx
  have hsz : d < a.tmps.size := by
    rcases Nat.lt_or_ge d a.tmps.size with h' | h'
    · exact h'
    · simp [Array.getD_eq_getD_getElem?, Array.getElem?_eq_none h', undef] at hv
  have hy : a.tmps[d]? = some (.bool want) := by
    rw [Array.getD_eq_getD_getElem?, Array.getElem?_eq_getElem hsz] at hv
    rw [Array.getElem?_eq_getElem hsz]; simpa using hv
  have := h a ha
  simp only [wpList, Region.wanted, if_true] at this
  simp only [wpList, Region.wanted, yielded, hd, Option.bind_some, hy, beq_self_eq_true, if_true]
  exact this

/-- Parting on a Bool in a slot: in each case the slot holds it outright. -/
theorem WL.split {l : List Oper} {d : Nat} {g : Bool} (hx : get? e d = some (.bool g)) (ht : g = true → WL P n ops Q l ((d, .bool true) :: e) w) (hf : g = false → WL P n ops Q l ((d, .bool false) :: e) w) : WL P n ops Q l e w := by
  intro a ha
  have key : ∀ b, g = b → Ag n ((d, .bool b) :: e) a := fun b hb => ha.weaken (by
    intro u v hu
    simp only [get?] at hu
    cases hbe : Nat.beq d u with
    | true =>
      have := Nat.eq_of_beq_eq_true hbe
      subst this
      simp only [hbe, cond_true, Option.some.injEq] at hu
      rw [hx, ← hu, hb]
    | false => simpa [hbe] using hu)
  cases hg : g with
  | true => exact ht hg a (key true hg)
  | false => exact hf hg a (key false hg)

end steps


/-- Function f has a body of its own. -/
def FN (P : Program) (f : FuncId) : Prop := ∀ (args : Array Value) (w : World), (callFunc f args).run P w = .ok (.enter f args) w

theorem FN.of {P : Program} {f : FuncId} {fn : Func} (h : P.funcs[f]? = some fn) (hn : (fn.name == "runtime.NumGoroutine") = false) (hb : fn.body.isNone = false) : FN P f := fun args w => by
  simp only [callFunc, Sem.run_bind, run_program, Result.andThen_ok, h]
  simp [hn, hb]

def evs? (e : Env) : List Operand → Option (List Value)
  | [] => some []
  | x :: xs => match ev? e x, evs? e xs with
    | some v, some vs => some (v :: vs)
    | _, _ => none

theorem evs?_map {n : Nat} {e : Env} {a : Act} (h : Ag n e a) : ∀ {xs : List Operand} {vs : List Value}, evs? e xs = some vs → xs.map a.eval = vs
  | [], vs, hv => by simp [evs?] at hv; subst hv; rfl
  | x :: xs, vs, hv => by
    simp only [evs?] at hv
    cases hx : ev? e x with
    | none => simp [hx] at hv
    | some v =>
      cases hxs : evs? e xs with
      | none => simp [hx, hxs] at hv
      | some us =>
        simp only [hx, hxs, Option.some.injEq] at hv
        subst hv
        simp [h.ev hx, evs?_map h hxs]

/-- How a call comes back: it returns, nothing that was there has turned. -/
def Ret (w : World) (R : Value → World → Prop) : Ending → World → Prop := fun e w' => ∃ v, e = .returned v ∧ Below w.heap.size w w' ∧ R v w'
/-- It returns just this value. -/
def RetP (w : World) (v : Value) : Ending → World → Prop := fun e w' => e = .returned v ∧ Below w.heap.size w w'

theorem Yl.makeFunc {P : Program} {n : Nat} {e : Env} {w : World} {ty : TypeId} {fn : Fn} {xs ys : List Operand} {vs us : List Value} (h1 : evs? e xs = some vs) (h2 : evs? e ys = some us) :
    Yl P n e w (.makeFunc fn xs.toArray ys.toArray) ty (.func fn vs.toArray us.toArray) := fun o a ha h _ => by
  simp [execOp, h, Instr.makeFunc, evs?_map ha h1, evs?_map ha h2]

/-- How a call comes out of an operation. -/
def Yc (P : Program) (n : Nat) (e : Env) (w : World) (op : Op) (f : FuncId) (vs : List Value) : Prop :=
  ∀ (o : Oper) (a : Act), Ag n e a → o.op = op → (execOp a.eval o).run P w = .ok (.enter f vs.toArray) w

theorem Yc.func {P : Program} {n : Nat} {e : Env} {w : World} {xs : List Operand} {tys : Array TypeId} {f : FuncId} {vs : List Value} (hev : evs? e xs = some vs) (hfn : FN P f) :
    Yc P n e w (.call ⟨.value (.func f), xs.toArray, tys⟩) f vs := fun o a ha h => by
  have hmap : (xs.toArray.map a.eval) = vs.toArray := by simp [evs?_map ha hev]
  simp only [execOp, h, resolve, Act.eval, Deferred.ofValue, invoke, Sem.run_bind, Sem.run_pure, Result.andThen_ok, hmap]
  simpa using hfn vs.toArray w

/-- A call of a function value. -/
theorem Yc.value {P : Program} {n : Nat} {e : Env} {w : World} {x : Operand} {xs : List Operand} {tys : Array TypeId} {f : FuncId} {vs us fs cs : List Value} (hx : ev? e x = some (.func (.func f) fs.toArray cs.toArray)) (hev : evs? e xs = some us) (hfn : FN P f) (hvs : fs ++ us ++ cs = vs) :
    Yc P n e w (.call ⟨.value x, xs.toArray, tys⟩) f vs := fun o a ha h => by
  have hmap : (xs.toArray.map a.eval) = us.toArray := by simp [evs?_map ha hev]
  simp only [execOp, h, resolve, ha.ev hx, Deferred.ofValue, invoke, Sem.run_bind, Sem.run_pure, Result.andThen_ok, hmap]
  have : fs.toArray ++ us.toArray ++ cs.toArray = vs.toArray := by rw [← hvs]; simp
  rw [this]
  exact hfn vs.toArray w

section calls
variable {P : Program} {n : Nat} {ops : Array Oper} {Q : Exit → Act → World → Prop} {rest : List Oper} {e : Env} {w : World}
variable {t : Nat} {ty : TypeId} {pos : String} {aft : Array Edge} {op : Op} {f : FuncId} {vs : List Value}

theorem WL.callR {E : Ending → World → Prop} (ht : Nat.blt t n = true) (hy : Yc P n e w op f vs)
    (hc : Calls P f vs.toArray w E) (k : ∀ en w', E en w' → ∃ v, en = .returned v ∧ WL P n ops Q rest ((t, v) :: e) w') :
    WL P n ops Q (⟨some t, op, ty, pos, aft, none⟩ :: rest) e w := fun a ha =>
  wpList_plain rfl fun K hK => by
    unfold Oper.wp
    rw [hy _ a ha rfl, Oper.upon_enter]
    refine hc.mono fun en w' hE => ?_
    obtain ⟨v, rfl, hk⟩ := k en w' hE
    exact hK _ _ (hk _ (ha.put ht v))

theorem WL.call {w0 : World} {C : List Chunk} {R : Value → World → Prop} (hs : Sat M w0 w C) (ht : Nat.blt t n = true) (hy : Yc P n e w op f vs)
    (hc : Calls P f vs.toArray w (Ret w R)) (k : ∀ v w', Below w.heap.size w w' → R v w' → Sat M w0 w' C → WL P n ops Q rest ((t, v) :: e) w') :
    WL P n ops Q (⟨some t, op, ty, pos, aft, none⟩ :: rest) e w :=
  WL.callR ht hy hc fun _ w' ⟨v, he, hb, hr⟩ => ⟨v, he, k v w' hb hr (hs.ext hb)⟩

theorem WL.callp {w0 : World} {C : List Chunk} {v : Value} (hs : Sat M w0 w C) (ht : Nat.blt t n = true) (hy : Yc P n e w op f vs)
    (hc : Calls P f vs.toArray w (RetP w v)) (k : ∀ w', Sat M w0 w' C → WL P n ops Q rest ((t, v) :: e) w') :
    WL P n ops Q (⟨some t, op, ty, pos, aft, none⟩ :: rest) e w :=
  WL.callR ht hy hc fun _ w' ⟨he, hb⟩ => ⟨v, he, k w' (hs.ext hb)⟩
end calls


/-- The parameters at a function's entry. -/
def envOf : Nat → List Value → Env
  | _, [] => []
  | k, v :: vs => (k, v) :: envOf (k + 1) vs

theorem envOf_get : ∀ (vs : List Value) (k t : Nat) (v : Value), get? (envOf k vs) t = some v → k ≤ t ∧ vs[t - k]? = some v
  | [], k, t, v, h => by simp [envOf, get?] at h
  | x :: vs, k, t, v, h => by
    simp only [envOf, get?] at h
    cases hb : Nat.beq k t with
    | true =>
      have := Nat.eq_of_beq_eq_true hb
      subst this
      simp only [hb, cond_true, Option.some.injEq] at h
      subst h
      simp
    | false =>
      simp only [hb, cond_false] at h
      obtain ⟨h1, h2⟩ := envOf_get vs (k + 1) t v h
      refine ⟨by omega, ?_⟩
      rw [show t - k = (t - (k + 1)) + 1 from by omega]
      simpa using h2

theorem enter {P : Program} {f : FuncId} {fn : Func} {c : Code} {vs : List Value} {w : World} {E : Ending → World → Prop} (hf : P.funcs[f]? = some fn) (hb : fn.body = some c) (hn : Nat.ble vs.length fn.ntmps = true)
    (h : WC P fn.ntmps (bodyPost P fn E) c (envOf 0 vs) w) : Calls P f vs.toArray w E := by
  refine calls_of_wp hf hb (h _ ⟨rfl, ?_, fun t v hv => ?_⟩)
  · have := Nat.le_of_ble_eq_true hn
    simp; omega
  · obtain ⟨_, h2⟩ := envOf_get vs 0 t v hv
    have h2' : vs[t]? = some v := by simpa using h2
    have hlt : t < vs.length := by
      rcases Nat.lt_or_ge t vs.length with h' | h'
      · exact h'
      · simp [List.getElem?_eq_none h'] at h2'
    simp only [Array.getD_eq_getD_getElem?, Array.getElem?_append, List.size_toArray, hlt, if_true, List.getElem?_toArray, h2', Option.getD_some]

/-- The end of a function of one result. -/
theorem fin1 {P : Program} {fn : Func} {E : Ending → World → Prop} {e : Env} {w : World} {t : Nat} {v : Value} (hr : fn.results = #[.tmp t]) (hv : get? e t = some v) (h : E (.returned v) w) : At fn.ntmps (bodyPost P fn E) .ret e w := fun a ha => by
  have := ha.get t v hv
  exact bodyPost_ret (results_tmp hr _ _ _) ha.defers (by rw [this]; exact h)

theorem fin1n {P : Program} {fn : Func} {E : Ending → World → Prop} {e : Env} {w : World} {t : Nat} {v : Value} (hr : fn.results = #[.tmp t]) (hv : get? e t = some v) (h : E (.returned v) w) : At fn.ntmps (bodyPost P fn E) .normal e w := fun a ha => by
  have := ha.get t v hv
  exact bodyPost_end (results_tmp hr _ _ _) ha.defers (by rw [this]; exact h)

theorem RetP.mk {w0 w : World} {C : List Chunk} {v v' : Value} (hs : Sat N0 w0 w C) (h : v' = v) : RetP w0 v (.returned v') w := ⟨by rw [h], hs.below⟩
theorem Ret.mk {w0 w : World} {C : List Chunk} {R : Value → World → Prop} {v : Value} (hs : Sat N0 w0 w C) (h : R v w) : Ret w0 R (.returned v) w := ⟨v, rfl, hs.below, h⟩

end Go.Sw
