/- The symbolic walk: calls that write into memory of the caller's own. General laws over any program; no conditions. -/
import Derived.Test.YtfjojpmfoingpaaLibQ
import Derived.Laws.BytesArg
set_option linter.all false
namespace Go.Sw
open Go Go.RowKit
variable {M : Nat → Prop}

section
variable {α : Type} [Ph α] [Own α]

/-- The call returned v, and wrote into the data a (blocks F) alone, which now is a'. -/
def RetM (w : World) (a : α) (F : List Nat) (v : Value) (Q : α → Prop) : Ending → World → Prop := fun en w' =>
  en = .returned v ∧ ∃ (a' : α) (F' : List Nat), Ph.enc a' = Ph.enc a ∧ Q a' ∧ Own.own w' a' F' ∧ F'.Nodup ∧ (∀ b ∈ F', b ∈ F ∨ (w.heap.size ≤ b ∧ b < w'.heap.size)) ∧ Touch (fun k => k ∈ F) w w'

theorem Sat.markStart {w : World} {a : α} {F : List Nat} (h : Own.own w a F) (hn : F.Nodup) : Sat (fun k => k ∈ F) w w [ow a F] :=
  Sat.startM (c := ow a F) ⟨h, hn⟩ (fun b hb => Own.lt h b hb)

theorem RetM.of {w0 w : World} {C : List Chunk} {a a' : α} {F F' : List Nat} {v : Value} {Q : α → Prop} (hs : Sat (fun k => k ∈ F) w0 w C) (hm : ow a' F' ∈ C) (he : Ph.enc a' = Ph.enc a) (hq : Q a') : RetM w0 a F v Q (.returned v) w := by
  obtain ⟨⟨h1, h2⟩, h3⟩ := hs.all _ hm
  exact ⟨rfl, a', F', he, hq, h1, h2, fun b hb => by rcases (h3 b hb).1 with h | h; exact .inr ⟨h, (h3 b hb).2⟩; exact .inl h, hs.tch⟩

theorem Sl.v_enc {s t : Sl α} (h : s.v = t.v) : Ph.enc s = Ph.enc t := by show [s.v] = [t.v]; rw [h]
theorem Sl.enc_v {s t : Sl α} (h : Ph.enc s = Ph.enc t) : s.v = t.v := by have h : [s.v] = [t.v] := h; exact List.head_eq_of_cons_eq h

section rules
variable {P : Program} {n : Nat} {ops : Array Oper} {Q : Exit → Act → World → Prop} {rest : List Oper} {e : Env} {w w0 : World} {C C' : List Chunk}
variable {t : Nat} {ty : TypeId} {pos : String} {aft : Array Edge} {op : Op} {f : FuncId} {vs : List Value}

theorem Sat.marked {a a' : α} {F F' : List Nat} {w' : World} (hs : Sat M w0 w C) (hsel : Sel [ow a F] C C') (ho : Own.own w' a' F') (hn : F'.Nodup) (hb : ∀ b ∈ F', b ∈ F ∨ (w.heap.size ≤ b ∧ b < w'.heap.size)) (ht : Touch (fun k => k ∈ F) w w') : Sat M w0 w' (ow a' F' :: C') :=
  (hs.sel hsel).touch .here ht ⟨ho, hn⟩ hb

theorem WL.callm {a : α} {F : List Nat} {v : Value} {R : α → Prop} (hs : Sat M w0 w C) (hsel : Sel [ow a F] C C') (ht : Nat.blt t n = true) (hy : Yc P n e w op f vs)
    (hc : Calls P f vs.toArray w (RetM w a F v R)) (k : ∀ a' F' w', Ph.enc a' = Ph.enc a → R a' → Sat M w0 w' (ow a' F' :: C') → WL P n ops Q rest ((t, v) :: e) w') :
    WL P n ops Q (⟨some t, op, ty, pos, aft, none⟩ :: rest) e w :=
  WL.callR ht hy hc fun en w' ⟨he, a', F', h1, h2, h3, h4, h5, h6⟩ => ⟨v, he, k a' F' w' h1 h2 (hs.marked hsel h3 h4 h5 h6)⟩

theorem own_of {a : α} {F : List Nat} (hs : Sat M w0 w C) (hm : ow a F ∈ C) : Own.own w a F := (hs.all _ hm).1.1
theorem nodup_of {a : α} {F : List Nat} (hs : Sat M w0 w C) (hm : ow a F ∈ C) : F.Nodup := (hs.all _ hm).1.2

/-- The string of bytes that lie in a row. -/
theorem Yl.bytesStr {src dst el : TypeId} {x : Operand} {b m c : Nat} {l : Str} {cs : List Value} (h1 : P.underlying src = some (.slice el)) (h2 : P.underlying el = some (.int .u8)) (h3 : P.underlying dst = some .string) (hx : ev? e x = some (.slice (some ⟨b, 0, none⟩) m c)) (hc : CellsAt w b 0 cs) (hl : cs = l.map (fun b => U8 b)) (hm : l.length = m) :
    Yl P n e w (.convert src dst x) ty (S l) := fun or a ha ho _ => by
  subst hm; subst hl
  have hr := run_convert_bytes_back (P := P) w src dst el ⟨b, 0, none⟩ c l h1 h2 h3 (fun j hj => by
    rw [addr_add]
    exact hc j _ (by simp [List.getElem?_eq_getElem hj]))
  simp only [execOp, ho, ha.ev hx, Sem.run_bind, hr]; rfl

/-- An int made a byte. -/
theorem Yl.intByte {src dst : TypeId} {x : Operand} {i : Int} {c : UInt8} (h1 : (P.underlying src).isSome = true) (h2 : P.underlying dst = some (.int .u8)) (hx : ev? e x = some (I i)) (hi : i = (c.toNat : Int)) : Yl P n e w (.convert src dst x) ty (U8 c) := fun or a ha ho _ => by
  subst hi
  have hk : P.intKind dst = .u8 := by simp [Program.intKind, h2]
  have hr := run_convert_int (P := P) w src dst .i64 (c.toNat : Int) h1 (by rw [hk]; exact h2)
  rw [hk] at hr
  have hw : IntKind.u8.wrap (c.toNat : Int) = (c.toNat : Int) := IntWalk.u8_in _ (by have := c.toNat_lt; omega)
  rw [hw] at hr
  simp only [execOp, ho, ha.ev hx, Sem.run_bind, hr]; rfl
end rules
end

end Go.Sw
