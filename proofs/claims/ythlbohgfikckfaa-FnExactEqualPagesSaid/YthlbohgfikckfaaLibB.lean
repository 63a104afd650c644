/- The symbolic walk: chunks of memory that a call owns, and what is known of a world. General laws over any program; no conditions. -/
import Derived.Test.YthlbohgfikckfaaLibA
namespace Go.Sw
open Go Go.RowKit

/-- A piece of memory that the running call owns: the blocks it lives in, and what holds there. -/
structure Chunk where
  S : Nat → Prop
  p : World → Prop
  loc : ∀ w w' : World, (∀ b, S b → w'.heap[b]? = w.heap[b]?) → p w → p w'

/-- One block of cells, known whole. -/
def box (b : Nat) (T : TypeId) (cs : List Value) : Chunk :=
  ⟨fun k => k = b, fun w => w.heap[b]? = some (.cells cs.toArray T (0, 0)), fun _ _ h hp => by rw [h b rfl]; exact hp⟩

/-- What a write into the blocks of S leaves. -/
structure Touch (S : Nat → Prop) (w w' : World) : Prop where
  os : w'.os = w.os
  tape : w'.tape = w.tape
  output : w'.output = w.output
  size : w.heap.size ≤ w'.heap.size
  block : ∀ k, k < w.heap.size → ¬ S k → w'.heap[k]? = w.heap[k]?

theorem Touch.refl (S : Nat → Prop) (w : World) : Touch S w w := ⟨rfl, rfl, rfl, Nat.le_refl _, fun _ _ _ => rfl⟩
theorem Touch.trans {S : Nat → Prop} {a b c : World} (h : Touch S a b) (k : Touch S b c) : Touch S a c :=
  ⟨k.os.trans h.os, k.tape.trans h.tape, k.output.trans h.output, Nat.le_trans h.size k.size, fun i hi hS => (k.block i (Nat.lt_of_lt_of_le hi h.size) hS).trans (h.block i hi hS)⟩
theorem Touch.below {S : Nat → Prop} {a b : World} (h : Touch S a b) (hS : ∀ k, ¬ S k) : Below a.heap.size a b := ⟨h.os, h.tape, h.output, h.size, fun k hk => h.block k hk (hS k)⟩
theorem Touch.of_below {S : Nat → Prop} {a b : World} (h : Below a.heap.size a b) : Touch S a b := ⟨h.os, h.tape, h.output, h.size, fun k hk _ => h.block k hk⟩
theorem Touch.mono {S S' : Nat → Prop} {a b : World} (h : Touch S a b) (hS : ∀ k, S k → S' k) : Touch S' a b := ⟨h.os, h.tape, h.output, h.size, fun k hk hn => h.block k hk fun hs => hn (hS k hs)⟩

/-- No block. -/
def N0 : Nat → Prop := fun _ => False

/-- The world w grew out of w0, in which none but the blocks of M may have turned; the chunks hold in it, live in blocks that are new since w0 or are M's, and do not meet. -/
structure Sat (M : Nat → Prop) (w0 w : World) (C : List Chunk) : Prop where
  tch : Touch M w0 w
  all : ∀ c ∈ C, c.p w ∧ ∀ b, c.S b → (w0.heap.size ≤ b ∨ M b) ∧ b < w.heap.size
  sep : C.Pairwise fun c d => ∀ b, c.S b → ¬ d.S b

variable {M : Nat → Prop}

theorem Sat.below {w0 w : World} {C : List Chunk} (h : Sat N0 w0 w C) : Below w0.heap.size w0 w := h.tch.below (fun _ h => h)

theorem Sat.start (w : World) : Sat N0 w w [] := ⟨Touch.refl _ _, by simp, .nil⟩

/-- A start with one chunk of old memory that the call may write. -/
theorem Sat.startM {w : World} {c : Chunk} (hp : c.p w) (hS : ∀ b, c.S b → b < w.heap.size) : Sat c.S w w [c] :=
  ⟨Touch.refl _ _, by simpa using ⟨hp, fun b hb => ⟨.inr hb, hS b hb⟩⟩, by simp⟩

theorem Sat.ext {w0 w w' : World} {C : List Chunk} (h : Sat M w0 w C) (hb : Below w.heap.size w w') : Sat M w0 w' C where
  tch := h.tch.trans (Touch.of_below hb)
  all := fun c hc => by
    obtain ⟨hp, hS⟩ := h.all c hc
    exact ⟨c.loc w w' (fun b hbS => hb.block b (hS b hbS).2) hp, fun b hbS => ⟨(hS b hbS).1, Nat.lt_of_lt_of_le (hS b hbS).2 hb.size⟩⟩
  sep := h.sep

theorem Sat.add {w0 w w' : World} {C : List Chunk} {c : Chunk} (h : Sat M w0 w C) (hb : Below w.heap.size w w') (hp : c.p w')
    (hS : ∀ b, c.S b → w.heap.size ≤ b ∧ b < w'.heap.size) : Sat M w0 w' (c :: C) where
  tch := (h.ext hb).tch
  all := fun d hd => by
    rcases List.mem_cons.1 hd with rfl | hd
    · exact ⟨hp, fun b hbS => ⟨.inl (Nat.le_trans h.tch.size (hS b hbS).1), (hS b hbS).2⟩⟩
    · exact (h.ext hb).all d hd
  sep := .cons (fun d hd b hbS hdS => by have := (h.all d hd).2 b hdS; have := hS b hbS; omega) h.sep

theorem Sat.tail {w0 w : World} {C : List Chunk} {c : Chunk} (h : Sat M w0 w (c :: C)) : Sat M w0 w C :=
  ⟨h.tch, fun d hd => h.all d (List.mem_cons_of_mem _ hd), (List.pairwise_cons.1 h.sep).2⟩

theorem Sat.size {w0 w : World} {C : List Chunk} (h : Sat M w0 w C) : w0.heap.size ≤ w.heap.size := h.tch.size

/-- The list C' is C with its member c exchanged for c'. -/
inductive Repl (c c' : Chunk) : List Chunk → List Chunk → Prop
  | here {C : List Chunk} : Repl c c' (c :: C) (c' :: C)
  | there {d : Chunk} {C C' : List Chunk} (h : Repl c c' C C') : Repl c c' (d :: C) (d :: C')

theorem Repl.mem {c c' : Chunk} {C C' : List Chunk} (h : Repl c c' C C') : c ∈ C := by
  induction h with
  | here => simp
  | there _ ih => exact List.mem_cons_of_mem _ ih

theorem Repl.mem' {c c' : Chunk} {C C' : List Chunk} (h : Repl c c' C C') : ∀ d ∈ C', d = c' ∨ d ∈ C := by
  induction h with
  | here => intro d hd; rcases List.mem_cons.1 hd with h | h; exact .inl h; exact .inr (List.mem_cons_of_mem _ h)
  | there _ ih =>
    intro d hd
    rcases List.mem_cons.1 hd with rfl | h
    · exact .inr (by simp)
    · rcases ih d h with h | h
      · exact .inl h
      · exact .inr (List.mem_cons_of_mem _ h)

theorem Sat.touch {w0 w w' : World} {c c' : Chunk} {C C' : List Chunk} (h : Sat M w0 w C) (hr : Repl c c' C C') (ht : Touch c.S w w') (hp : c'.p w')
    (hS : ∀ b, c'.S b → c.S b ∨ (w.heap.size ≤ b ∧ b < w'.heap.size)) : Sat M w0 w' C' := by
  have hc := h.all c hr.mem
  have hc'S : ∀ b, c'.S b → (w0.heap.size ≤ b ∨ M b) ∧ b < w'.heap.size := fun b hb => by
    rcases hS b hb with h1 | h1
    · exact ⟨(hc.2 b h1).1, Nat.lt_of_lt_of_le (hc.2 b h1).2 ht.size⟩
    · exact ⟨.inl (Nat.le_trans h.tch.size h1.1), h1.2⟩
  have hbel : Touch M w0 w' := ⟨ht.os.trans h.tch.os, ht.tape.trans h.tch.tape, ht.output.trans h.tch.output, Nat.le_trans h.tch.size ht.size, fun k hk hM =>
    (ht.block k (Nat.lt_of_lt_of_le hk h.tch.size) fun hk' => by rcases (hc.2 k hk').1 with h1 | h1; omega; exact hM h1).trans (h.tch.block k hk hM)⟩
  -- the others keep
  have key : ∀ (C C' : List Chunk), Repl c c' C C' → (∀ d ∈ C, d.p w ∧ ∀ b, d.S b → (w0.heap.size ≤ b ∨ M b) ∧ b < w.heap.size) → C.Pairwise (fun c d => ∀ b, c.S b → ¬ d.S b) →
      (∀ d ∈ C', d.p w' ∧ ∀ b, d.S b → (w0.heap.size ≤ b ∨ M b) ∧ b < w'.heap.size) ∧ C'.Pairwise (fun c d => ∀ b, c.S b → ¬ d.S b) := by
    intro C C' hr
    have keep : ∀ d : Chunk, (d.p w ∧ ∀ b, d.S b → (w0.heap.size ≤ b ∨ M b) ∧ b < w.heap.size) → (∀ b, c.S b → ¬ d.S b) → (d.p w' ∧ ∀ b, d.S b → (w0.heap.size ≤ b ∨ M b) ∧ b < w'.heap.size) := fun d hd hcd =>
      ⟨d.loc w w' (fun b hb => ht.block b (hd.2 b hb).2 fun hcb => hcd b hcb hb) hd.1, fun b hb => ⟨(hd.2 b hb).1, Nat.lt_of_lt_of_le (hd.2 b hb).2 ht.size⟩⟩
    induction hr with
    | here =>
      intro ha hs
      obtain ⟨hs1, hs2⟩ := List.pairwise_cons.1 hs
      refine ⟨fun d hd => ?_, .cons (fun d hd b hb hdb => ?_) hs2⟩
      · rcases List.mem_cons.1 hd with rfl | hd
        · exact ⟨hp, hc'S⟩
        · exact keep d (ha d (List.mem_cons_of_mem _ hd)) (hs1 d hd)
      · rcases hS b hb with h1 | h1
        · exact hs1 d hd b h1 hdb
        · have := (ha d (List.mem_cons_of_mem _ hd)).2 b hdb; omega
    | @there d C C' hr ih =>
      intro ha hs
      obtain ⟨hs1, hs2⟩ := List.pairwise_cons.1 hs
      obtain ⟨i1, i2⟩ := ih (fun x hx => ha x (List.mem_cons_of_mem _ hx)) hs2
      have hdc : ∀ b, c.S b → ¬ d.S b := fun b hb hd => hs1 c hr.mem b hd hb
      refine ⟨fun x hx => ?_, .cons (fun x hx b hb hxb => ?_) i2⟩
      · rcases List.mem_cons.1 hx with rfl | hx
        · exact keep _ (ha _ (by simp)) hdc
        · exact i1 x hx
      · rcases hr.mem' x hx with rfl | hx'
        · rcases hS b hxb with h1 | h1
          · exact hdc b h1 hb
          · have := (ha d (by simp)).2 b hb; omega
        · exact hs1 x hx' b hb hxb
  obtain ⟨k1, k2⟩ := key C C' hr h.all h.sep
  exact ⟨hbel, k1, k2⟩

theorem touch_setCell {w : World} {b o : Nat} {s : Option Nat} {v : Value} : Touch (fun k => k = b) w (w.setCell ⟨b, o, s⟩ v) :=
  ⟨rfl, rfl, rfl, by simp, fun k _ hk => Below.heap_setCell w ⟨b, o, s⟩ v k hk⟩

/-- Cells read. -/
def CellsAt (w : World) (b o : Nat) (cs : List Value) : Prop := ∀ j v, cs[j]? = some v → w.cell? ⟨b, o + j, none⟩ = some v

theorem CellsAt.ext {w w' : World} {b o : Nat} {cs : List Value} (h : CellsAt w b o cs) (hb : Below w.heap.size w w') : CellsAt w' b o cs := fun j v hv => by
  have := h j v hv
  rw [hb.cell (p := ⟨b, o + j, none⟩) (World.block_lt_of_cell? w _ this)]
  exact this

theorem CellsAt.old {w0 w : World} {C : List Chunk} {b o : Nat} {cs : List Value} (h : CellsAt w0 b o cs) (hs : Sat N0 w0 w C) : CellsAt w b o cs := h.ext hs.below

theorem cell_of_heap {w : World} {b o : Nat} {cs : List Value} {T : TypeId} {fz : Nat × Nat} (h : w.heap[b]? = some (.cells cs.toArray T fz)) : w.cell? ⟨b, o, none⟩ = cs[o]? := by
  simp [World.cell?, h]

theorem Sat.box_cell {w0 w : World} {C : List Chunk} {b o : Nat} {T : TypeId} {cs : List Value} (h : Sat M w0 w C) (hm : box b T cs ∈ C) : w.cell? ⟨b, o, none⟩ = cs[o]? :=
  cell_of_heap (h.all _ hm).1

theorem Sat.box_cells {w0 w : World} {C : List Chunk} {b : Nat} {T : TypeId} {cs : List Value} (h : Sat M w0 w C) (hm : box b T cs ∈ C) : CellsAt w b 0 cs := fun j v hv => by
  rw [h.box_cell hm]; simpa using hv

theorem Sat.box_cells_at {w0 w : World} {C : List Chunk} {b o : Nat} {T : TypeId} {cs vs : List Value} (h : Sat M w0 w C) (hm : box b T cs ∈ C) (hv : ∀ j v, vs[j]? = some v → cs[o + j]? = some v) : CellsAt w b o vs := fun j v hj => by
  rw [h.box_cell hm]; exact hv j v hj

/-- cs with its first cells written over. -/
inductive Over : List Value → List Value → List Value → Prop
  | nil {cs : List Value} : Over cs [] cs
  | cons {c v : Value} {cs vs cs' : List Value} (h : Over cs vs cs') : Over (c :: cs) (v :: vs) (v :: cs')
/-- cs with vs written over at a place. -/
inductive SetAt : List Value → Nat → List Value → List Value → Prop
  | here {cs vs cs' : List Value} (h : Over cs vs cs') : SetAt cs 0 vs cs'
  | there {c : Value} {k : Nat} {cs vs cs' : List Value} (h : SetAt cs k vs cs') : SetAt (c :: cs) (k + 1) vs (c :: cs')

theorem Over.eq {cs vs cs' : List Value} (h : Over cs vs cs') : cs' = vs ++ cs.drop vs.length ∧ vs.length ≤ cs.length := by
  induction h with
  | nil => simp
  | cons _ ih => exact ⟨by simp [ih.1], by simpa using ih.2⟩

theorem SetAt.eq {cs vs cs' : List Value} {k : Nat} (h : SetAt cs k vs cs') : cs' = cs.take k ++ vs ++ cs.drop (k + vs.length) ∧ k + vs.length ≤ cs.length := by
  induction h with
  | here h => have := h.eq; simpa using this
  | @there c k cs vs cs' _ ih =>
    refine ⟨?_, by simp; omega⟩
    rw [show k + 1 + vs.length = (k + vs.length) + 1 from by omega]
    simp [ih.1]

/-- The part of cs from a place on. -/
inductive TakeAt : List Value → Nat → List Value → Prop
  | here {vs cs : List Value} : TakeAt (vs ++ cs) 0 vs
  | there {c : Value} {k : Nat} {cs vs : List Value} (h : TakeAt cs k vs) : TakeAt (c :: cs) (k + 1) vs

end Go.Sw
