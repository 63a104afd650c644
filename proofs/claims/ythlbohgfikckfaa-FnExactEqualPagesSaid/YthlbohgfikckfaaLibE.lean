/- The symbolic walk: data that lies in memory (slices of any depth), read element by element. General laws over any program; no conditions. -/
import Derived.Test.YthlbohgfikckfaaLibD
namespace Go.Sw
open Go Go.RowKit
variable {M : Nat → Prop}

/-- Data as it lies in cells: how it is laid, and what memory must hold for it to read so. -/
class Ph (α : Type) where
  sz : Nat
  pos : 0 < sz
  enc : α → List Value
  len : ∀ x, (enc x).length = sz
  one : ∀ x, (enc x).all Value.oneCell' = true
  ok : World → α → Prop
  ext : ∀ {w w' : World} {x : α}, Below w.heap.size w w' → ok w x → ok w' x

/-- A slice: its elements, its address, its capacity. -/
structure Sl (α : Type) where
  l : List α
  a : Option Go.Addr
  c : Nat

abbrev Sl.v {α : Type} (s : Sl α) : Value := .slice s.a s.l.length s.c
def Sl.blk {α : Type} (s : Sl α) : Nat := (s.a.getD ⟨0, 0, none⟩).block
def Sl.off {α : Type} (s : Sl α) : Nat := (s.a.getD ⟨0, 0, none⟩).off

/-- The cells of a list of data. -/
def encs {α : Type} [Ph α] (l : List α) : List Value := l.flatMap Ph.enc

theorem encs_length {α : Type} [Ph α] (l : List α) : (encs l).length = l.length * Ph.sz α := by
  induction l with
  | nil => simp [encs]
  | cons x l ih =>
    simp only [encs, List.flatMap_cons, List.length_append, List.length_cons, Ph.len] at ih ⊢
    rw [ih, Nat.add_mul]; omega

theorem encs_append {α : Type} [Ph α] (l m : List α) : encs (l ++ m) = encs l ++ encs m := by simp [encs]
theorem encs_cons {α : Type} [Ph α] (x : α) (l : List α) : encs (x :: l) = Ph.enc x ++ encs l := by simp [encs]
theorem encs_nil {α : Type} [Ph α] : encs ([] : List α) = [] := rfl

theorem encs_get {α : Type} [Ph α] : ∀ (l : List α) (k : Nat) (d : α), l[k]? = some d → ∀ j v, (Ph.enc d)[j]? = some v → (encs l)[k * Ph.sz α + j]? = some v
  | [], k, d, h, _, _, _ => by simp at h
  | x :: l, 0, d, h, j, v, hj => by
    simp at h; subst h
    have hlt : j < (Ph.enc x).length := (List.getElem?_eq_some_iff.1 hj).1
    rw [encs_cons, Nat.zero_mul, Nat.zero_add, List.getElem?_append_left hlt]; exact hj
  | x :: l, k + 1, d, h, j, v, hj => by
    have := encs_get l k d (by simpa using h) j v hj
    rw [encs_cons, List.getElem?_append_right (by rw [Ph.len, Nat.add_mul]; omega), Ph.len]
    rw [show (k + 1) * Ph.sz α + j - Ph.sz α = k * Ph.sz α + j from by rw [Nat.add_mul]; omega]
    exact this

theorem encs_one {α : Type} [Ph α] (l : List α) : ∀ v ∈ encs l, v.oneCell' = true := by
  intro v hv
  obtain ⟨x, _, hx⟩ := List.mem_flatMap.1 hv
  exact List.all_eq_true.1 (Ph.one x) v hx

/-- What memory holds for a slice to read as its list. -/
structure Sl.Ok {α : Type} [Ph α] (w : World) (s : Sl α) : Prop where
  le : s.l.length ≤ s.c
  max : s.c ≤ maxLen
  cells : s.l = [] ∨ (s.a = some ⟨s.blk, s.off, none⟩ ∧ CellsAt w s.blk s.off (encs s.l))
  elems : ∀ x ∈ s.l, Ph.ok w x

instance {α : Type} [Ph α] : Ph (Sl α) where
  sz := 1
  pos := Nat.one_pos
  enc s := [s.v]
  len _ := rfl
  one _ := rfl
  ok := Sl.Ok
  ext := fun hb h => ⟨h.le, h.max, h.cells.imp id (fun ⟨h1, h2⟩ => ⟨h1, h2.ext hb⟩), fun x hx => Ph.ext hb (h.elems x hx)⟩

theorem Ph.old {α : Type} [Ph α] {w0 w : World} {C : List Chunk} {x : α} (h : Ph.ok w0 x) (hs : Sat N0 w0 w C) : Ph.ok w x := Ph.ext hs.below h

theorem Sl.Ok.old {α : Type} [Ph α] {w0 w : World} {C : List Chunk} {s : Sl α} (h : Sl.Ok w0 s) (hs : Sat N0 w0 w C) : Sl.Ok w s := Ph.ext (α := Sl α) hs.below h

/-- One element. -/
theorem Sl.Ok.at_ {α : Type} [Ph α] {w : World} {s : Sl α} (h : Sl.Ok w s) {k : Nat} {d : α} (hk : s.l[k]? = some d) : s.a = some ⟨s.blk, s.off, none⟩ ∧ CellsAt w s.blk (s.off + k * Ph.sz α) (Ph.enc d) := by
  rcases h.cells with h0 | ⟨h1, h2⟩
  · simp [h0] at hk
  · refine ⟨h1, fun j v hj => ?_⟩
    rw [Nat.add_assoc]
    exact h2 _ v (encs_get s.l k d hk j v hj)

theorem Sl.Ok.elem {α : Type} [Ph α] {w : World} {s : Sl α} (h : Sl.Ok w s) {k : Nat} {d : α} (hk : s.l[k]? = some d) : Ph.ok w d := h.elems d (List.mem_of_getElem? hk)

theorem Sl.Ok.lt {α : Type} [Ph α] {w : World} {s : Sl α} (h : Sl.Ok w s) : s.l.length ≤ 9223372036854775807 := by
  have h1 := h.le; have h2 := h.max; unfold maxLen at h2; omega

/-- A slice type, by its element's size. -/
structure SlT (P : Program) (t el : TypeId) (k : Nat) : Prop where
  und : P.underlying t = some (.slice el)
  size : (P.info? el).map (·.size) = some k

section rules
variable {P : Program} {n : Nat} {e : Env} {w w0 : World} {C : List Chunk} {ty : TypeId}

theorem Yl.indexAddr {α : Type} [Ph α] {s : Sl α} {t el : TypeId} {x y : Operand} {kd : IntKind} {i : Int} {k : Nat} {d : α} (hT : SlT P t el (Ph.sz α)) (hx : ev? e x = some (.slice s.a s.l.length s.c)) (hy : ev? e y = some (.int kd i))
    (hok : Sl.Ok w s) (hi : i = (k : Int)) (hk : s.l[k]? = some d) : Yl P n e w (.indexAddr t x y) ty (bp s.blk (s.off + k * Ph.sz α)) := fun or a ha ho _ => by
  subst hi
  obtain ⟨h1, _⟩ := hok.at_ hk
  have hlt : k < s.l.length := (List.getElem?_eq_some_iff.1 hk).1
  obtain ⟨inf, hi, hsz⟩ : ∃ inf, P.info? el = some inf ∧ inf.size = Ph.sz α := by
    cases h : P.info? el with
    | none => have := hT.size; simp [h] at this
    | some inf => exact ⟨inf, rfl, by have := hT.size; simpa [h] using this⟩
  rw [h1] at hx
  simp [execOp, ho, Instr.indexAt, ha.ev hx, ha.ev hy, asIntOf, run_underlying hT.und, hlt, sizeOf, typeInfo, hi, hsz, Addr.add_lit]

end rules

/-! Data of one cell, and of a few. -/
structure WfI (x : Int) : Prop where
  lo : -9223372036854775808 ≤ x
  hi : x ≤ 9223372036854775807

instance : Ph Int where
  sz := 1
  pos := Nat.one_pos
  enc x := [I x]
  len _ := rfl
  one _ := rfl
  ok _ x := WfI x
  ext := fun _ h => h

instance : Ph Bool where
  sz := 1
  pos := Nat.one_pos
  enc x := [Bo x]
  len _ := rfl
  one _ := rfl
  ok _ _ := True
  ext := fun _ h => h

instance : Ph UInt8 where
  sz := 1
  pos := Nat.one_pos
  enc x := [U8 x]
  len _ := rfl
  one _ := rfl
  ok _ _ := True
  ext := fun _ h => h

def WfS (s : Str) : Prop := s.length ≤ 9223372036854775807

instance : Ph Str where
  sz := 1
  pos := Nat.one_pos
  enc x := [S x]
  len _ := rfl
  one _ := rfl
  ok _ x := WfS x
  ext := fun _ h => h

end Go.Sw
