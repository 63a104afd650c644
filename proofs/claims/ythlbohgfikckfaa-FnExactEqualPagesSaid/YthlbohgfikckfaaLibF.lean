/- The symbolic walk: regions whose order is open. Where every operation is quiet, one walk in the order of the text; else operation by operation, the quiet ones first. General laws over any program; no conditions. -/
import Derived.Test.YthlbohgfikckfaaLibE
import Derived.Deep.Quiet
import Derived.OrdersHeld
import Derived.Deep.RegionHeld3
namespace Go.Sw
open Go Go.RowKit
variable {M : Nat → Prop}

/-- A quiet walk, from every frame that the environment describes. -/
def WQ (P : Program) (n : Nat) (ops : Array Oper) (Cl : World → Prop) (Q : Act → Prop) (l : List Oper) (e : Env) : Prop := ∀ a, Ag n e a → wpQuiet P ops Cl Q l a

theorem below_drew (w : World) : Below w.heap.size w w.drew := (Below.refl _ _).drew

section
variable {P : Program} {n : Nat} {ops : Array Oper} {Q : Exit → Act → World → Prop} {rest : List Oper} {e : Env} {w w0 : World} {C : List Chunk}
variable {t : Nat} {ty : TypeId} {pos : String} {aft : Array Edge}

theorem WC.quiet {id : Nat} {l : List Oper} (hm : P.follows .mixedOrders = true) (hB : Region.lexB .any l.toArray = true) (hs : Sat M w0 w C)
    (h : WQ P n l.toArray (fun w' => Sat M w0 w' C) (fun a' => ∀ w', Sat M w0 w' C → Q .normal a' w') l e) : WC P n Q (.region id l.toArray true) e w := fun a ha =>
  wp_region_quiet (C := fun w' => Sat M w0 w' C) hm hB (hs.ext (below_drew w)) (by simpa using h a ha)

theorem WC.quietn {id : Nat} {l : List Oper} {y : Code} (hm : P.follows .mixedOrders = true) (hB : Region.lexB .any l.toArray = true) (hs : Sat M w0 w C)
    (h : WQ P n l.toArray (fun w' => Sat M w0 w' C) (fun a' => ∀ w', Sat M w0 w' C → y.wp P Q a' w') l e) : WC P n Q (.seq (.region id l.toArray true) y) e w :=
  WC.seq' (WC.quiet hm hB hs h)

theorem WQ.nil {Cl : World → Prop} {Q : Act → Prop} (h : ∀ a, Ag n e a → Q a) : WQ P n ops Cl Q [] e := fun a ha => wpQuiet_nil (h a ha)
theorem WQ.next {Cl : World → Prop} {y : Code} (h : ∀ w', Cl w' → WC P n Q y e w') : WQ P n ops Cl (fun a' => ∀ w', Cl w' → y.wp P Q a' w') [] e := fun a ha => wpQuiet_nil (fun w' hw => h w' hw a ha)
theorem WQ.last {Cl : World → Prop} (h : ∀ w', Cl w' → At n Q .normal e w') : WQ P n ops Cl (fun a' => ∀ w', Cl w' → Q .normal a' w') [] e := fun a ha => wpQuiet_nil (fun w' hw => h w' hw a ha)

variable {Cl : World → Prop} {Qa : Act → Prop}

theorem WQ.p {op : Op} {v : Value} (ht : Nat.blt t n = true) (hy : ∀ w, Cl w → Yl P n e w op ty v) (h : WQ P n ops Cl Qa rest ((t, v) :: e)) : WQ P n ops Cl Qa (⟨some t, op, ty, pos, aft, none⟩ :: rest) e := fun a ha =>
  wpQuiet_step fun K hK => by
    simp only [Region.wanted, if_true]
    refine ⟨v, fun w hw => ?_, hK _ (h _ (ha.put ht v))⟩
    unfold Oper.quietAt
    rw [hy w hw _ a ha rfl rfl]
    exact ⟨rfl, rfl⟩

theorem WQ.callp {op : Op} {f : FuncId} {vs : List Value} {v : Value} (ht : Nat.blt t n = true) (hy : ∀ w, Yc P n e w op f vs) (hc : ∀ w, Cl w → Calls P f vs.toArray w (RetP w v)) (hCl : ∀ w w', Cl w → Below w.heap.size w w' → Cl w')
    (h : WQ P n ops Cl Qa rest ((t, v) :: e)) : WQ P n ops Cl Qa (⟨some t, op, ty, pos, aft, none⟩ :: rest) e := fun a ha =>
  wpQuiet_step fun K hK => by
    simp only [Region.wanted, if_true]
    refine ⟨v, fun w hw => ?_, hK _ (h _ (ha.put ht v))⟩
    unfold Oper.quietAt
    rw [hy w _ a ha rfl]
    exact ⟨rfl, (hc w hw).mono fun en w' ⟨he, hb⟩ => ⟨he, hCl w w' hw hb⟩⟩

theorem yielded_of {a : Act} (ha : Ag n e a) {j d : Nat} {g : Bool} (hd : ((ops[j]?).bind (·.dst)) = some d) (hx : get? e d = some (.bool g)) : yielded ops a.tmps j = some g := by
  have hv := ha.get d _ hx
  have hsz : d < a.tmps.size := by
    rcases Nat.lt_or_ge d a.tmps.size with h' | h'
    · exact h'
    · simp [Array.getD_eq_getD_getElem?, Array.getElem?_eq_none h', undef] at hv
  have : a.tmps[d]? = some (.bool g) := by
    rw [Array.getD_eq_getD_getElem?, Array.getElem?_eq_getElem hsz] at hv
    rw [Array.getElem?_eq_getElem hsz]; simpa using hv
  simp [yielded, hd, this]

theorem WQ.skip {o : Op} {j : Nat} {want g : Bool} {d : Nat} (hd : ((ops[j]?).bind (·.dst)) = some d) (hx : get? e d = some (.bool g)) (hne : (g == want) = false) (ht : Nat.blt t n = true)
    (h : WQ P n ops Cl Qa rest ((t, undef) :: e)) : WQ P n ops Cl Qa (⟨some t, o, ty, pos, aft, some (j, want)⟩ :: rest) e := fun a ha =>
  wpQuiet_step fun K hK => by
    have hy := yielded_of ha hd hx
    have hne' : ¬ g = want := by simpa using hne
    simp only [Region.wanted, hy]
    rw [if_neg (by simpa using hne')]
    exact hK _ (h _ (ha.put ht undef))

theorem WQ.run {o : Op} {j : Nat} {want : Bool} {d : Nat} (hd : ((ops[j]?).bind (·.dst)) = some d) (hx : get? e d = some (.bool want))
    (h : WQ P n ops Cl Qa (⟨some t, o, ty, pos, aft, none⟩ :: rest) e) : WQ P n ops Cl Qa (⟨some t, o, ty, pos, aft, some (j, want)⟩ :: rest) e := fun a ha => by
  have hy := yielded_of ha hd hx
  have := h a ha
  simp only [wpQuiet, Region.wanted, if_true] at this
  simp only [wpQuiet, Region.wanted, hy, beq_self_eq_true, if_true]
  exact this

theorem yielded_undef {a : Act} (ha : Ag n e a) {j d : Nat} (hd : ((ops[j]?).bind (·.dst)) = some d) (hx : get? e d = some undef) : yielded ops a.tmps j = none := by
  have hv := ha.get d _ hx
  simp only [yielded, hd, Option.bind_some]
  cases h : a.tmps[d]? with
  | none => rfl
  | some v =>
    rw [Array.getD_eq_getD_getElem?, h] at hv
    simp only [Option.getD_some] at hv
    subst hv; rfl

theorem WQ.skipU {o : Op} {j : Nat} {want : Bool} {d : Nat} (hd : ((ops[j]?).bind (·.dst)) = some d) (hx : get? e d = some undef) (ht : Nat.blt t n = true)
    (h : WQ P n ops Cl Qa rest ((t, undef) :: e)) : WQ P n ops Cl Qa (⟨some t, o, ty, pos, aft, some (j, want)⟩ :: rest) e := fun a ha =>
  wpQuiet_step fun K hK => by
    have hy := yielded_undef ha hd hx
    simp only [Region.wanted, hy]
    rw [if_neg (by simp)]
    exact hK _ (h _ (ha.put ht undef))

theorem WL.skipU {o : Op} {j : Nat} {want : Bool} {d : Nat} (hd : ((ops[j]?).bind (·.dst)) = some d) (hx : get? e d = some undef) (ht : Nat.blt t n = true)
    (h : WL P n ops Q rest ((t, undef) :: e) w) : WL P n ops Q (⟨some t, o, ty, pos, aft, some (j, want)⟩ :: rest) e w := fun a ha => by
  refine wpList_skip ?_ (h _ (ha.put ht undef))
  have hy := yielded_undef ha hd hx
  simp [Region.wanted, hy]

theorem ag_split {a : Act} {d : Nat} {g : Bool} (ha : Ag n e a) (hx : get? e d = some (.bool g)) : Ag n ((d, .bool g) :: e) a := ha.weaken (by
  intro u v hu
  simp only [get?] at hu
  cases hbe : Nat.beq d u with
  | true =>
    have := Nat.eq_of_beq_eq_true hbe
    subst this
    simp only [hbe, cond_true, Option.some.injEq] at hu
    rw [hx, ← hu]
  | false => simpa [hbe] using hu)

theorem WQ.split {l : List Oper} {d : Nat} {g : Bool} (hx : get? e d = some (.bool g)) (ht : g = true → WQ P n ops Cl Qa l ((d, .bool true) :: e)) (hf : g = false → WQ P n ops Cl Qa l ((d, .bool false) :: e)) : WQ P n ops Cl Qa l e := by
  intro a ha
  have := ag_split ha hx
  cases hg : g with
  | true => exact ht hg a (by rw [hg] at this; exact this)
  | false => exact hf hg a (by rw [hg] at this; exact this)
end

/-! Regions with calls that make memory, or with operations that make it: the quiet ones are taken first. -/
def WA (P : Program) (n : Nat) (ops : Array Oper) (Q : Exit → Act → World → Prop) (Cl : World → Prop) (fuel : Nat) (listed : Array Bool) (e : Env) (w : World) : Prop :=
  ∀ a, Ag n e a → wpAnyH P .any ops (NoPanic Q) Cl fuel listed a w

section
variable {P : Program} {n : Nat} {ops : Array Oper} {Q : Exit → Act → World → Prop} {e : Env} {w w0 : World} {C : List Chunk} {Cl : World → Prop}
variable {t : Nat} {ty : TypeId} {pos : String} {aft : Array Edge} {fuel : Nat} {listed : Array Bool}

theorem WC.any {id : Nat} {l : List Oper} (hm : P.follows .mixedOrders = true) (hs : Sat M w0 w C)
    (h : ∀ w', Sat M w0 w' C → WA P n l.toArray Q (fun w' => Sat M w0 w' C) l.length (Array.replicate l.length false) e w') : WC P n Q (.region id l.toArray true) e w := fun a ha =>
  wp_region_noPanic (wp_region_any hm (wpAny_of_held (S := fun w' => Sat M w0 w' C) _ _ _ _ (by have := h _ (hs.ext (below_drew w)) a ha; simpa using this)))

theorem WC.anyn {id : Nat} {l : List Oper} {y : Code} (hm : P.follows .mixedOrders = true) (hs : Sat M w0 w C)
    (h : ∀ w', Sat M w0 w' C → WA P n l.toArray (Exit.then (fun a w => y.wp P Q a w) Q) (fun w' => Sat M w0 w' C) l.length (Array.replicate l.length false) e w') : WC P n Q (.seq (.region id l.toArray true) y) e w :=
  WC.seq' (WC.any hm hs h)


/-- A quiet operation that may come up is taken first. -/
theorem WA.p {i : Nat} {op : Op} {v : Value} (hi : ops[i]? = some ⟨some t, op, ty, pos, aft, none⟩) (hsel : Region.noSelect ops = true) (hfree : Region.free .any ops listed i = true) (hr : (Region.ready .any ops listed).contains i = true)
    (ht : Nat.blt t n = true) (hS : Cl w) (hy : ∀ w, Cl w → Yl P n e w op ty v) (h : WA P n ops Q Cl fuel (listed.setIfInBounds i true) ((t, v) :: e) w) : WA P n ops Q Cl (fuel + 1) listed e w := fun a ha =>
  wpAnyH_first (oi := ⟨some t, op, ty, pos, aft, none⟩) hi (Region.noSelect_spec hsel) (fun c a w h => h) fuel listed a w (fun j oj hj hne hu hno => Region.free_spec hi hfree j oj hj hne hu hno) (by simpa using hr)
    (.inl ⟨rfl, fun w hw => hy w hw _ a ha rfl rfl⟩) hS (h _ (ha.put ht v))

/-- A guarded operation whose guard says no. -/
theorem WA.skip {i j : Nat} {op : Op} {want g : Bool} {d : Nat} (hi : ops[i]? = some ⟨some t, op, ty, pos, aft, some (j, want)⟩) (hsel : Region.noSelect ops = true) (hfree : Region.free .any ops listed i = true) (hr : (Region.ready .any ops listed).contains i = true)
    (hd : ((ops[j]?).bind (·.dst)) = some d) (hx : get? e d = some (.bool g)) (hne : (g == want) = false)
    (ht : Nat.blt t n = true) (hS : Cl w) (h : WA P n ops Q Cl fuel (listed.setIfInBounds i true) ((t, undef) :: e) w) : WA P n ops Q Cl (fuel + 1) listed e w := fun a ha =>
  wpAnyH_first (oi := ⟨some t, op, ty, pos, aft, some (j, want)⟩) hi (Region.noSelect_spec hsel) (fun c a w h => h) fuel listed a w (fun j oj hj hne hu hno => Region.free_spec hi hfree j oj hj hne hu hno) (by simpa using hr)
    (.inr ⟨by
      have hy := yielded_of ha hd hx
      have hne' : ¬ g = want := by simpa using hne
      simpa [Region.wanted, hy] using hne', rfl⟩) hS (h _ (ha.put ht undef))

theorem WA.skipU {i j : Nat} {op : Op} {want : Bool} {d : Nat} (hi : ops[i]? = some ⟨some t, op, ty, pos, aft, some (j, want)⟩) (hsel : Region.noSelect ops = true) (hfree : Region.free .any ops listed i = true) (hr : (Region.ready .any ops listed).contains i = true)
    (hd : ((ops[j]?).bind (·.dst)) = some d) (hx : get? e d = some undef)
    (ht : Nat.blt t n = true) (hS : Cl w) (h : WA P n ops Q Cl fuel (listed.setIfInBounds i true) ((t, undef) :: e) w) : WA P n ops Q Cl (fuel + 1) listed e w := fun a ha =>
  wpAnyH_first (oi := ⟨some t, op, ty, pos, aft, some (j, want)⟩) hi (Region.noSelect_spec hsel) (fun c a w h => h) fuel listed a w (fun j oj hj hne hu hno => Region.free_spec hi hfree j oj hj hne hu hno) (by simpa using hr)
    (.inr ⟨by
      have hy := yielded_undef ha hd hx
      simp [Region.wanted, hy], rfl⟩) hS (h _ (ha.put ht undef))

/-- A guarded quiet operation whose guard says yes. -/
theorem WA.pg {i j : Nat} {op : Op} {v : Value} {want : Bool} {d : Nat} (hi : ops[i]? = some ⟨some t, op, ty, pos, aft, some (j, want)⟩) (hsel : Region.noSelect ops = true) (hfree : Region.free .any ops listed i = true) (hr : (Region.ready .any ops listed).contains i = true)
    (hd : ((ops[j]?).bind (·.dst)) = some d) (hx : get? e d = some (.bool want))
    (ht : Nat.blt t n = true) (hS : Cl w) (hy : ∀ w, Cl w → Yl P n e w op ty v) (h : WA P n ops Q Cl fuel (listed.setIfInBounds i true) ((t, v) :: e) w) : WA P n ops Q Cl (fuel + 1) listed e w := fun a ha =>
  wpAnyH_first (oi := ⟨some t, op, ty, pos, aft, some (j, want)⟩) hi (Region.noSelect_spec hsel) (fun c a w h => h) fuel listed a w (fun j oj hj hne hu hno => Region.free_spec hi hfree j oj hj hne hu hno) (by simpa using hr)
    (.inl ⟨by
      have hy := yielded_of ha hd hx
      simp [Region.wanted, hy], fun w hw => hy w hw _ a ha rfl rfl⟩) hS (h _ (ha.put ht v))

/-- The one operation that may come up, of whatever effect. -/
theorem WA.r {i : Nat} {op : Op} {R : Value → World → Prop} (hr : Region.ready .any ops listed = [i]) (hi : ops[i]? = some ⟨some t, op, ty, pos, aft, none⟩) (ht : Nat.blt t n = true) (hy : Yr P n e w op ty R)
    (hCl : ∀ v w', R v w' → Cl w') (h : ∀ v w', R v w' → WA P n ops Q Cl fuel (listed.setIfInBounds i true) ((t, v) :: e) w') : WA P n ops Q Cl (fuel + 1) listed e w := fun a ha => by
  refine ⟨fun h0 => (by rw [hr] at h0; cases h0), fun j hj => ?_⟩
  rw [hr] at hj
  obtain rfl : j = i := by simpa using hj
  unfold wpOp
  simp only [hi]
  rw [if_pos (by simp [Region.wanted])]
  refine .inl ?_
  unfold Oper.wp
  obtain ⟨v, w', hrun, hR⟩ := hy ⟨some t, op, ty, pos, aft, none⟩ a ha rfl rfl
  rcases hrun with hrun | ⟨hrun, rfl⟩
  · rw [hrun, Oper.upon_value]; exact ⟨hCl _ _ hR, h v w' hR _ (ha.put ht v)⟩
  · rw [hrun, Oper.upon_skip]; exact ⟨hCl _ _ hR, h _ w' hR _ (ha.put ht _)⟩

/-- The one operation that may come up, a store. -/
theorem WA.s {i : Nat} {op : Op} {R : Value → World → Prop} (hr : Region.ready .any ops listed = [i]) (hi : ops[i]? = some ⟨none, op, ty, pos, aft, none⟩) (hy : Yr P n e w op ty R)
    (hCl : ∀ v w', R v w' → Cl w') (h : ∀ v w', R v w' → WA P n ops Q Cl fuel (listed.setIfInBounds i true) e w') : WA P n ops Q Cl (fuel + 1) listed e w := fun a ha => by
  refine ⟨fun h0 => (by rw [hr] at h0; cases h0), fun j hj => ?_⟩
  rw [hr] at hj
  obtain rfl : j = i := by simpa using hj
  unfold wpOp
  simp only [hi]
  rw [if_pos (by simp [Region.wanted])]
  refine .inl ?_
  unfold Oper.wp
  obtain ⟨v, w', hrun, hR⟩ := hy ⟨none, op, ty, pos, aft, none⟩ a ha rfl rfl
  rcases hrun with hrun | ⟨hrun, rfl⟩
  · rw [hrun, Oper.upon_value]; exact ⟨hCl _ _ hR, h v w' hR _ ha⟩
  · rw [hrun, Oper.upon_skip]; exact ⟨hCl _ _ hR, h _ w' hR _ ha⟩

theorem WA.callR {i : Nat} {op : Op} {f : FuncId} {vs : List Value} {E : Ending → World → Prop} (hr : Region.ready .any ops listed = [i]) (hi : ops[i]? = some ⟨some t, op, ty, pos, aft, none⟩) (ht : Nat.blt t n = true) (hy : Yc P n e w op f vs)
    (hc : Calls P f vs.toArray w E) (k : ∀ en w', E en w' → ∃ v, en = .returned v ∧ Cl w' ∧ WA P n ops Q Cl fuel (listed.setIfInBounds i true) ((t, v) :: e) w') : WA P n ops Q Cl (fuel + 1) listed e w := fun a ha => by
  refine ⟨fun h0 => (by rw [hr] at h0; cases h0), fun j hj => ?_⟩
  rw [hr] at hj
  obtain rfl : j = i := by simpa using hj
  unfold wpOp
  simp only [hi]
  rw [if_pos (by simp [Region.wanted])]
  refine .inl ?_
  unfold Oper.wp
  rw [hy ⟨some t, op, ty, pos, aft, none⟩ a ha rfl, Oper.upon_enter]
  refine hc.mono fun en w' hE => ?_
  obtain ⟨v, rfl, hcl, hk⟩ := k en w' hE
  exact ⟨hcl, hk _ (ha.put ht v)⟩

theorem WA.call {C : List Chunk} {i : Nat} {op : Op} {f : FuncId} {vs : List Value} {R : Value → World → Prop} (hs : Sat M w0 w C) (hr : Region.ready .any ops listed = [i]) (hi : ops[i]? = some ⟨some t, op, ty, pos, aft, none⟩) (ht : Nat.blt t n = true) (hy : Yc P n e w op f vs)
    (hc : Calls P f vs.toArray w (Ret w R)) (k : ∀ v w', Below w.heap.size w w' → R v w' → Sat M w0 w' C → WA P n ops Q (fun w' => Sat M w0 w' C) fuel (listed.setIfInBounds i true) ((t, v) :: e) w') : WA P n ops Q (fun w' => Sat M w0 w' C) (fuel + 1) listed e w :=
  WA.callR hr hi ht hy hc fun _ w' ⟨v, he, hb, hR⟩ => ⟨v, he, hs.ext hb, k v w' hb hR (hs.ext hb)⟩

theorem WA.callp {C : List Chunk} {i : Nat} {op : Op} {f : FuncId} {vs : List Value} {v : Value} (hs : Sat M w0 w C) (hr : Region.ready .any ops listed = [i]) (hi : ops[i]? = some ⟨some t, op, ty, pos, aft, none⟩) (ht : Nat.blt t n = true) (hy : Yc P n e w op f vs)
    (hc : Calls P f vs.toArray w (RetP w v)) (k : ∀ w', Sat M w0 w' C → WA P n ops Q (fun w' => Sat M w0 w' C) fuel (listed.setIfInBounds i true) ((t, v) :: e) w') : WA P n ops Q (fun w' => Sat M w0 w' C) (fuel + 1) listed e w :=
  WA.callR hr hi ht hy hc fun _ w' ⟨he, hb⟩ => ⟨v, he, hs.ext hb, k w' (hs.ext hb)⟩

theorem WA.done (hr : Region.ready .any ops listed = []) (h : At n Q .normal e w) : WA P n ops Q Cl fuel listed e w := fun a ha => by
  cases fuel with
  | zero => exact ⟨hr, h a ha⟩
  | succ f => exact ⟨fun _ => h a ha, fun i hi => by rw [hr] at hi; cases hi⟩

theorem WA.donen {y : Code} (hr : Region.ready .any ops listed = []) (h : WC P n Q y e w) : WA P n ops (Exit.then (fun a w => y.wp P Q a w) Q) Cl fuel listed e w := WA.done hr h

theorem WA.split {d : Nat} {g : Bool} (hx : get? e d = some (.bool g)) (ht : g = true → WA P n ops Q Cl fuel listed ((d, .bool true) :: e) w) (hf : g = false → WA P n ops Q Cl fuel listed ((d, .bool false) :: e) w) : WA P n ops Q Cl fuel listed e w := by
  intro a ha
  have := ag_split ha hx
  cases hg : g with
  | true => exact ht hg a (by rw [hg] at this; exact this)
  | false => exact hf hg a (by rw [hg] at this; exact this)
end

end Go.Sw
