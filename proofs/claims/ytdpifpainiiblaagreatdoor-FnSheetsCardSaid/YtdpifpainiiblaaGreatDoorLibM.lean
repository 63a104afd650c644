/- The symbolic walk: calls that write into memory of the caller's own. General laws over any program; no conditions. -/
import Derived.Test.YtdpifpainiiblaaGreatDoorLibQ
import Derived.Laws.BytesArg
set_option linter.all false
namespace Go.Sw
open Go Go.RowKit
variable {M : Nat → Prop}

section
variable {α : Type} [Ph α] [Own α]

/-- The call returned v, and wrote into the data a (blocks F) alone, which now is a'. -/
def RetM (w : World) (a : α) (F : List Nat) (v : Value) (Q : α → Prop) : Ending → World → Prop := fun en w' =>
  en = .returned v ∧ ∃ (a' : α) (F' : List Nat), Ph.enc a' = Ph.enc a ∧ Q a' ∧ Own.own w' a' F' ∧ F'.Nodup ∧ (∀ b ∈ F', b ∈ F ∨ (w.heap.size ≤ b ∧ b < w'.heap.size)) ∧ Touch (fun k => k ∈ F) w w'

theorem Sat.markStart {w : World} {a : α} {F : List Nat} (h : Own.own w a F) (hn : F.Nodup) : Sat (fun k => k ∈ F) w w [ow a F] :=
  Sat.startM (c := ow a F) ⟨h, hn⟩ (fun b hb => Own.lt h b hb)

theorem RetM.of {w0 w : World} {C : List Chunk} {a a' : α} {F F' : List Nat} {v : Value} {Q : α → Prop} (hs : Sat (fun k => k ∈ F) w0 w C) (hm : ow a' F' ∈ C) (he : Ph.enc a' = Ph.enc a) (hq : Q a') : RetM w0 a F v Q (.returned v) w := by
  obtain ⟨⟨h1, h2⟩, h3⟩ := hs.all _ hm
  exact ⟨rfl, a', F', he, hq, h1, h2, fun b hb => by rcases (h3 b hb).1 with h | h; exact .inr ⟨h, (h3 b hb).2⟩; exact .inl h, hs.tch⟩

theorem Sl.v_enc {s t : Sl α} (h : s.v = t.v) : Ph.enc s = Ph.enc t := by show [s.v] = [t.v]; rw [h]
theorem Sl.enc_v {s t : Sl α} (h : Ph.enc s = Ph.enc t) : s.v = t.v := by have h : [s.v] = [t.v] := h; exact List.head_eq_of_cons_eq h

section rules
variable {P : Program} {n : Nat} {ops : Array Oper} {Q : Exit → Act → World → Prop} {rest : List Oper} {e : Env} {w w0 : World} {C C' : List Chunk}
variable {t : Nat} {ty : TypeId} {pos : String} {aft : Array Edge} {op : Op} {f : FuncId} {vs : List Value}

theorem Sat.marked {a a' : α} {F F' : List Nat} {w' : World} (hs : Sat M w0 w C) (hsel : Sel [ow a F] C C') (ho : Own.own w' a' F') (hn : F'.Nodup) (hb : ∀ b ∈ F', b ∈ F ∨ (w.heap.size ≤ b ∧ b < w'.heap.size)) (ht : Touch (fun k => k ∈ F) w w') : Sat M w0 w' (ow a' F' :: C') :=
  (hs.sel hsel).touch .here ht ⟨ho, hn⟩ hb

theorem WL.callm {a : α} {F : List Nat} {v : Value} {R : α → Prop} (hs : Sat M w0 w C) (hsel : Sel [ow a F] C C') (ht : Nat.blt t n = true) (hy : Yc P n e w op f vs)
    (hc : Calls P f vs.toArray w (RetM w a F v R)) (k : ∀ a' F' w', Ph.enc a' = Ph.enc a → R a' → Sat M w0 w' (ow a' F' :: C') → WL P n ops Q rest ((t, v) :: e) w') :
    WL P n ops Q (⟨some t, op, ty, pos, aft, none⟩ :: rest) e w :=
  WL.callR ht hy hc fun en w' ⟨he, a', F', h1, h2, h3, h4, h5, h6⟩ => ⟨v, he, k a' F' w' h1 h2 (hs.marked hsel h3 h4 h5 h6)⟩

theorem own_of {a : α} {F : List Nat} (hs : Sat M w0 w C) (hm : ow a F ∈ C) : Own.own w a F := (hs.all _ hm).1.1
theorem nodup_of {a : α} {F : List Nat} (hs : Sat M w0 w C) (hm : ow a F ∈ C) : F.Nodup := (hs.all _ hm).1.2

/-- The string of bytes that lie in a row. -/
theorem Yl.bytesStr {src dst el : TypeId} {x : Operand} {b m c : Nat} {l : Str} {cs : List Value} (h1 : P.underlying src = some (.slice el)) (h2 : P.underlying el = some (.int .u8)) (h3 : P.underlying dst = some .string) (hx : ev? e x = some (.slice (some ⟨b, 0, none⟩) m c)) (hc : CellsAt w b 0 cs) (hl : cs = l.map (fun b => U8 b)) (hm : l.length = m) :
    Yl P n e w (.convert src dst x) ty (S l) := fun or a ha ho _ => by
  subst hm; subst hl
  have hr := run_convert_bytes_back (P := P) w src dst el ⟨b, 0, none⟩ c l h1 h2 h3 (fun j hj => by
    rw [addr_add]
    exact hc j _ (by simp [List.getElem?_eq_getElem hj]))
  simp only [execOp, ho, ha.ev hx, Sem.run_bind, hr]; rfl

/-- An int made a byte. -/
theorem Yl.intByte {src dst : TypeId} {x : Operand} {i : Int} {c : UInt8} (h1 : (P.underlying src).isSome = true) (h2 : P.underlying dst = some (.int .u8)) (hx : ev? e x = some (I i)) (hi : i = (c.toNat : Int)) : Yl P n e w (.convert src dst x) ty (U8 c) := fun or a ha ho _ => by
  subst hi
  have hk : P.intKind dst = .u8 := by simp [Program.intKind, h2]
  have hr := run_convert_int (P := P) w src dst .i64 (c.toNat : Int) h1 (by rw [hk]; exact h2)
  rw [hk] at hr
  have hw : IntKind.u8.wrap (c.toNat : Int) = (c.toNat : Int) := IntWalk.u8_in _ (by have := c.toNat_lt; omega)
  rw [hw] at hr
  simp only [execOp, ho, ha.ev hx, Sem.run_bind, hr]; rfl
end rules
end

/-- Two calls that may come up in either order, each handing over new data. -/
theorem WA.both {α β : Type} [Ph α] [Own α] [Ph β] [Own β] {P : Program} {n : Nat} {ops : Array Oper} {Q : Exit → Act → World → Prop} {e : Env} {w w0 : World} {C : List Chunk} {Cl : World → Prop} {fuel : Nat} {listed : Array Bool}
    {i j ti tj : Nat} {opi opj : Op} {tyi tyj : TypeId} {posi posj : String} {afti aftj : Array Edge} {fi fj : FuncId} {vsi vsj : List Value} {va : α → Value} {vb : β → Value} {ra : α → Prop} {rb : β → Prop}
    (hs : Sat M w0 w C) (hcl : ∀ w', Sat M w0 w' C → Cl w') (hr : Region.ready .any ops listed = [i, j]) (hr1 : Region.ready .any ops (listed.setIfInBounds i true) = [j]) (hr2 : Region.ready .any ops (listed.setIfInBounds j true) = [i])
    (hi : ops[i]? = some ⟨some ti, opi, tyi, posi, afti, none⟩) (hj : ops[j]? = some ⟨some tj, opj, tyj, posj, aftj, none⟩) (hti : Nat.blt ti n = true) (htj : Nat.blt tj n = true) (hne : Nat.beq ti tj = false) (hij : Nat.beq i j = false)
    (hyi : ∀ w, Yc P n e w opi fi vsi) (hyi' : ∀ v w, Yc P n ((tj, v) :: e) w opi fi vsi) (hyj : ∀ w, Yc P n e w opj fj vsj) (hyj' : ∀ v w, Yc P n ((ti, v) :: e) w opj fj vsj)
    (hci : ∀ w, Sat M w0 w C → Calls P fi vsi.toArray w (Ret w fun v w' => ∃ x : α, v = va x ∧ ra x ∧ Fresh w x w')) (hcj : ∀ w, Sat M w0 w C → Calls P fj vsj.toArray w (Ret w fun v w' => ∃ y : β, v = vb y ∧ rb y ∧ Fresh w y w'))
    (k : ∀ (x : α) (F : List Nat) (y : β) (G : List Nat) (w' : World), ra x → rb y → Sat M w0 w' (ow y G :: ow x F :: C) → WA P n ops Q Cl fuel ((listed.setIfInBounds i true).setIfInBounds j true) ((tj, vb y) :: (ti, va x) :: e) w') :
    WA P n ops Q Cl (fuel + 1 + 1) listed e w := by
  have hne' : ti ≠ tj := Nat.ne_of_beq_eq_false hne
  have hij' : i ≠ j := Nat.ne_of_beq_eq_false hij
  refine WA.two hr ?_ ?_
  · refine WI.call2 hs hcl hi hti (hyi w) (hci w hs) (fun v w1 hb ⟨x, hv, hx, hf⟩ hs1 => ?_)
    subst hv
    obtain ⟨F, hs2⟩ := hf.sat hs hb
    refine WA.call2 hs2 (fun w' h => hcl w' h.tail) hr1 hj htj (hyj' _ w1) (hcj w1 hs2.tail) (fun v w3 hb3 ⟨y, hv, hy, hf3⟩ _ => ?_)
    subst hv
    obtain ⟨G, hs4⟩ := hf3.sat hs2 hb3
    exact k x F y G w3 hx hy hs4
  · refine WI.call2 hs hcl hj htj (hyj w) (hcj w hs) (fun v w1 hb ⟨y, hv, hy, hf⟩ hs1 => ?_)
    subst hv
    obtain ⟨G, hs2⟩ := hf.sat hs hb
    refine WA.call2 hs2 (fun w' h => hcl w' h.tail) hr2 hi hti (hyi' _ w1) (hci w1 hs2.tail) (fun v w3 hb3 ⟨x, hv, hx, hf3⟩ _ => ?_)
    subst hv
    obtain ⟨F, hs4⟩ := hf3.sat hs2 hb3
    have hk := k x F y G w3 hx hy (hs4.sel (.cons (.there .here) (.cons .here .nil)))
    rw [Array.setIfInBounds_comm _ _ hij'] at hk
    intro a ha
    refine hk a (ha.weaken fun t v hg => ?_)
    cases hb1 : Nat.beq tj t <;> cases hb2 : Nat.beq ti t
    · simp only [get?, hb1, hb2, cond_false] at hg ⊢; exact hg
    · simp only [get?, hb1, hb2, cond_false, cond_true] at hg ⊢; exact hg
    · simp only [get?, hb1, hb2, cond_false, cond_true] at hg ⊢; exact hg
    · exact absurd ((Nat.eq_of_beq_eq_true hb2).trans (Nat.eq_of_beq_eq_true hb1).symm) hne'

/-- An open region whose orders meet again behind it. -/
theorem WC.anynJ {P : Program} {n : Nat} {Q : Exit → Act → World → Prop} {e : Env} {w w0 : World} {C : List Chunk} {ι : Type} (vars : ι → Env) (Cs : ι → List Chunk) (J : ι → Prop) (e0 : Env) {id : Nat} {l : List Oper} {y : Code} (hm : P.follows .mixedOrders = true) (hs : Sat M w0 w C) (he : Sub e0 e)
    (h : (∀ k w e', J k → Sat M w0 w (Cs k ++ C) → Sub e0 e' → Sub (vars k) e' → WC P n Q y e' w) → ∀ w', Sat M w0 w' C → WA P n l.toArray (Exit.then (fun a w => y.wp P Q a w) Q) (fun w' => Sat M w0 w' C) l.length (Array.replicate l.length false) e w')
    (hk : ∀ k w, J k → Sat M w0 w (Cs k ++ C) → WC P n Q y (vars k ++ e0) w) : WC P n Q (.seq (.region id l.toArray true) y) e w :=
  WC.anyn hm hs (h fun k w _ hJ hs he hv => (hk k w hJ hs).sub (Sub.append hv he))

theorem calls_conv {P : Program} {f : FuncId} {vs vs' : Array Value} {w : World} {E : Ending → World → Prop} (h : vs = vs') (hc : Calls P f vs w E) : Calls P f vs' w E := h ▸ hc

end Go.Sw
