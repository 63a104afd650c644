/- The symbolic walk: facts on types, and the rules for operations that read or write memory: boxes, fields, loads, stores, strings. General laws over any program; no conditions. -/
import Derived.Test.YthlbohgfikckfaaLibC
namespace Go.Sw
open Go Go.RowKit
variable {M : Nat → Prop}

theorem run_underlying' {P : Program} {t : TypeId} {d : TypeDesc} (h : P.underlying t = some d) (w : World) : (underlying t).run P w = .ok d w := run_underlying h w

def notAgg : TypeDesc → Bool
  | .struct _ | .array _ _ => false
  | _ => true

/-- A type of one cell, no struct and no array. -/
structure Sca (P : Program) (T : TypeId) : Prop where
  out : ∃ d i, P.underlying T = some d ∧ notAgg d = true ∧ P.info? T = some i ∧ i.size = 1

theorem Sca.of {P : Program} {T : TypeId} (h1 : (P.underlying T).map notAgg = some true) (h2 : (P.info? T).map (·.size) = some 1) : Sca P T := by
  cases h : P.underlying T with
  | none => simp [h] at h1
  | some d =>
    cases h' : P.info? T with
    | none => simp [h'] at h2
    | some i => exact ⟨d, i, h, by simpa [h] using h1, h', by simpa [h'] using h2⟩

def isStruct : TypeDesc → Bool
  | .struct _ => true
  | _ => false

/-- A struct type of k cells. -/
structure Agg (P : Program) (T : TypeId) (k : Nat) : Prop where
  out : ∃ d i, P.underlying T = some d ∧ isStruct d = true ∧ P.info? T = some i ∧ i.size = k

theorem Agg.of {P : Program} {T : TypeId} {k : Nat} (h1 : (P.underlying T).map isStruct = some true) (h2 : (P.info? T).map (·.size) = some k) : Agg P T k := by
  cases h : P.underlying T with
  | none => simp [h] at h1
  | some d =>
    cases h' : P.info? T with
    | none => simp [h'] at h2
    | some i => exact ⟨d, i, h, by simpa [h] using h1, h', by simpa [h'] using h2⟩

section
variable {P : Program} {T : TypeId}

theorem Sca.isAgg (h : Sca P T) (w : World) : (isAgg T).run P w = .ok false w := by
  obtain ⟨d, i, h1, h2, _⟩ := h.out
  unfold Go.isAgg
  rw [Sem.run_bind, run_underlying h1, Result.andThen_ok]
  cases d <;> first | rfl | simp [notAgg] at h2

theorem Sca.size (h : Sca P T) (w : World) : (sizeOf T).run P w = .ok 1 w := by
  obtain ⟨d, i, _, _, h3, h4⟩ := h.out
  simp [sizeOf, typeInfo, h3, h4]

theorem Agg.isAgg {k : Nat} (h : Agg P T k) (w : World) : (isAgg T).run P w = .ok true w := by
  obtain ⟨d, i, h1, h2, _⟩ := h.out
  unfold Go.isAgg
  rw [Sem.run_bind, run_underlying h1, Result.andThen_ok]
  cases d <;> first | rfl | simp [isStruct] at h2

theorem Agg.size {k : Nat} (h : Agg P T k) (w : World) : (sizeOf T).run P w = .ok k w := by
  obtain ⟨d, i, _, _, h3, h4⟩ := h.out
  simp [sizeOf, typeInfo, h3, h4]

theorem Sca.load (h : Sca P T) {w : World} {b o : Nat} {v : Value} (hc : w.cell? ⟨b, o, none⟩ = some v) : (loadVar T ⟨b, o, none⟩).run P w = .ok v w := by
  simp [loadVar, h.isAgg, hc]

theorem CellsAt.loads {w : World} {b o : Nat} {cs : List Value} (h : CellsAt w b o cs) : (loadCells ⟨b, o, none⟩ cs.length).run P w = .ok cs.toArray w :=
  run_loadCells_list w ⟨b, o, none⟩ cs (fun j v hv => by rw [Addr.add_lit]; exact h j v hv)

theorem Agg.load {k : Nat} (h : Agg P T k) {w : World} {b o : Nat} {cs : List Value} (hk : cs.length = k) (hc : CellsAt w b o cs) : (loadVar T ⟨b, o, none⟩).run P w = .ok (.agg cs.toArray) w := by
  subst hk
  simp [loadVar, h.isAgg, h.size, hc.loads]
end

/-- The address of a field. -/
def FA (P : Program) (s : TypeId) (f off : Nat) : Prop := ∀ (b o : Nat) (w : World), (Instr.fieldAt s (bp b o) f).run P w = .ok (bp b (o + off)) w

def fieldOf (d : TypeDesc) (f : Nat) : Option (Nat × TypeId) :=
  match d with
  | .struct fs => (fs[f]?).map fun x => (x.offset, x.type)
  | _ => none

theorem FA.of {P : Program} {s : TypeId} {f off : Nat} {T : TypeId} {k : Nat} (h : (P.underlying s).bind (fieldOf · f) = some (off, T)) (hi : (P.info? T).map (·.size) = some (k + 1)) : FA P s f off := fun b o w => by
  cases hd : P.underlying s with
  | none => simp [hd] at h
  | some d =>
    cases d with
    | struct fs =>
      simp only [hd, Option.bind_some, fieldOf] at h
      cases hf : fs[f]? with
      | none => simp [hf] at h
      | some x =>
        simp only [hf, Option.map_some, Option.some.injEq, Prod.mk.injEq] at h
        obtain ⟨rfl, rfl⟩ := h
        cases hi' : P.info? x.type with
        | none => simp [hi'] at hi
        | some i =>
          simp only [hi', Option.map_some, Option.some.injEq] at hi
          simp [Instr.fieldAt, run_underlying hd, hf, Instr.sureAddr, fieldPlace, sizeOf, typeInfo, hi', hi, Addr.add_lit]
    | _ => simp [hd, fieldOf] at h

/-- The zero value's cells. -/
structure ZT (P : Program) (T : TypeId) (zs : List Value) : Prop where
  out : ∃ z, (zeroValue T = zeroValue T) ∧ (∀ w, (zeroValue T).run P w = .ok z w) ∧ z.cells = zs.toArray

theorem ZT.of {P : Program} {T : TypeId} {z : Value} {zs : List Value} (h : (P.info? T).bind (·.zero) = some z) (hz : z.cells = zs.toArray) : ZT P T zs := by
  cases h' : P.info? T with
  | none => simp [h'] at h
  | some i =>
    simp only [h', Option.bind_some] at h
    exact ⟨z, rfl, fun w => by simp [zeroValue, typeInfo, h', h], hz⟩

section rules
variable {P : Program} {n : Nat} {e : Env} {w w0 : World} {C : List Chunk} {ty : TypeId}

theorem Yl.fieldAddr {s : TypeId} {x : Operand} {f b o off : Nat} (h : FA P s f off) (hx : ev? e x = some (bp b o)) : Yl P n e w (.fieldAddr s x f) ty (bp b (o + off)) := fun or a ha ho _ => by
  simp only [execOp, ho, ha.ev hx, Sem.run_bind, h b o w, Result.andThen_ok]; rfl

theorem Yl.load {T : TypeId} {x : Operand} {b o : Nat} {v : Value} (h : Sca P T) (hx : ev? e x = some (bp b o)) (hc : w.cell? ⟨b, o, none⟩ = some v) : Yl P n e w (.load T x) ty v := fun or a ha ho _ => by
  simp only [execOp, ho, ha.ev hx, Instr.loadAt, Instr.sureAddr, Sem.run_bind, Sem.run_pure, Result.andThen_ok, h.load hc]

/-- A load out of a box of the call's own. -/
theorem Yl.loadB {T TB : TypeId} {x : Operand} {b o : Nat} {cs : List Value} {v : Value} (h : Sca P T) (hx : ev? e x = some (bp b o)) (hs : Sat M w0 w C) (hm : box b TB cs ∈ C) (hv : cs[o]? = some v) : Yl P n e w (.load T x) ty v :=
  Yl.load h hx (by rw [hs.box_cell hm]; exact hv)

/-- A load out of cells that are known. -/
theorem Yl.loadC {T : TypeId} {x : Operand} {b o j : Nat} {cs : List Value} {v : Value} (h : Sca P T) (hx : ev? e x = some (bp b (o + j))) (hc : CellsAt w b o cs) (hv : cs[j]? = some v) : Yl P n e w (.load T x) ty v :=
  Yl.load h hx (hc j v hv)
theorem Yl.loadC0 {T : TypeId} {x : Operand} {b o : Nat} {cs : List Value} {v : Value} (h : Sca P T) (hx : ev? e x = some (bp b o)) (hc : CellsAt w b o cs) (hv : cs[0]? = some v) : Yl P n e w (.load T x) ty v :=
  Yl.load h hx (hc 0 v hv)

theorem Yl.loadA {T : TypeId} {k : Nat} {x : Operand} {b o : Nat} {cs : List Value} (h : Agg P T k) (hx : ev? e x = some (bp b o)) (hc : CellsAt w b o cs) (hk : cs.length = k) : Yl P n e w (.load T x) ty (.agg cs.toArray) := fun or a ha ho _ => by
  simp only [execOp, ho, ha.ev hx, Instr.loadAt, Instr.sureAddr, Sem.run_bind, Sem.run_pure, Result.andThen_ok, h.load hk hc]

/-- The first k of the cells from o on. -/
def cut : List Value → Nat → Nat → List Value
  | _, _, 0 => []
  | [], _, _ + 1 => []
  | c :: cs, 0, k + 1 => c :: cut cs 0 k
  | _ :: cs, o + 1, k + 1 => cut cs o (k + 1)

theorem cut_get : ∀ (cs : List Value) (o k j : Nat) (v : Value), (cut cs o k)[j]? = some v → cs[o + j]? = some v
  | _, _, 0, j, v, h => by simp [cut] at h
  | [], _, _ + 1, j, v, h => by simp [cut] at h
  | c :: cs, 0, k + 1, j, v, h => by
    cases j with
    | zero => simpa [cut] using h
    | succ j => have := cut_get cs 0 k j v (by simpa [cut] using h); simpa using this
  | c :: cs, o + 1, k + 1, j, v, h => by
    have := cut_get cs o (k + 1) j v (by simpa [cut] using h)
    rw [show o + 1 + j = (o + j) + 1 from by omega]; simpa using this

/-- A struct loaded out of a box. -/
theorem Yl.loadAB {T TB : TypeId} {k : Nat} {x : Operand} {b o : Nat} {cs vs : List Value} (h : Agg P T k) (hx : ev? e x = some (bp b o)) (hs : Sat M w0 w C) (hm : box b TB cs ∈ C) (hv : cut cs o k = vs) (hk : vs.length = k) : Yl P n e w (.load T x) ty (.agg vs.toArray) :=
  Yl.loadA h hx (hs.box_cells_at hm fun j v hj => cut_get cs o k j v (by rw [hv]; exact hj)) hk

theorem Yl.len_str {t : TypeId} {x : Operand} {s : Str} (hT : P.underlying t = some .string) (hx : ev? e x = some (S s)) :
    Yl P n e w (.call ⟨.builtin .len, #[x], #[t]⟩) ty (I s.length) := fun or a ha ho _ => by
  have hsz : (ByteArray.mk ⟨s⟩).size = s.length := by simp [ByteArray.size]
  simp [execOp, ho, resolve, invoke, builtin, Builtin.len_, ha.ev hx, run_underlying hT, goInt, hsz]

theorem Yl.len_sl {t el : TypeId} {x : Operand} {ad : Option Go.Addr} {k c : Nat} (hT : P.underlying t = some (.slice el)) (hx : ev? e x = some (.slice ad k c)) :
    Yl P n e w (.call ⟨.builtin .len, #[x], #[t]⟩) ty (I k) := fun or a ha ho _ => by
  simp [execOp, ho, resolve, invoke, builtin, Builtin.len_, ha.ev hx, run_underlying hT, goInt]

theorem bytes_getElem? (s : Str) (k : Nat) (c : UInt8) (h : s[k]? = some c) : (ByteArray.mk ⟨s⟩)[k]? = some c := by
  have hk : k < s.length := (List.getElem?_eq_some_iff.1 h).1
  have hk' : k < (ByteArray.mk ⟨s⟩).size := by simpa [ByteArray.size] using hk
  rw [ByteArray.getElem?_lt' _ _ hk']
  congr 1
  have := (List.getElem?_eq_some_iff.1 h).2
  rw [← this]; rfl

/-- A byte of a string. -/
theorem Yl.index {t : TypeId} {x y : Operand} {s : Str} {kd : IntKind} {i : Int} {k : Nat} {c : UInt8} (hT : P.underlying t = some .string) (hx : ev? e x = some (S s)) (hy : ev? e y = some (.int kd i)) (hi : i = (k : Int)) (hc : s[k]? = some c) :
    Yl P n e w (.index t x y) ty (U8 c) := fun or a ha ho _ => by
  subst hi
  simp [execOp, ho, Instr.index, ha.ev hx, ha.ev hy, asIntOf, run_underlying hT, bytes_getElem? s k c hc]

/-- A cut of a string. -/
theorem bytes_extract (s : Str) (a b : Nat) : (ByteArray.mk ⟨s⟩).extract a b = ByteArray.mk ⟨(s.drop a).take (b - a)⟩ := ByteArray.extract_mk s a b

theorem Yl.slice_str {t : TypeId} {x : Operand} {lo hi : Option Operand} {s : Str} {l h : Nat} (hT : P.underlying t = some .string) (hx : ev? e x = some (S s))
    (hl : match lo with | none => l = 0 | some y => ∃ kd, ev? e y = some (.int kd (l : Int))) (hh : match hi with | none => h = s.length | some y => ∃ kd, ev? e y = some (.int kd (h : Int))) (h1 : l ≤ h) (h2 : h ≤ s.length) :
    Yl P n e w (.slice t x lo hi none) ty (S ((s.drop l).take (h - l))) := fun or a ha ho _ => by
  have hsz : (ByteArray.mk ⟨s⟩).size = s.length := by simp [ByteArray.size]
  have hb : ∀ (kd : IntKind) (i y : Nat) (cd : BoundsCode), i ≤ y → (Instr.sliceBound (.int kd (i : Int)) y cd).run P w = .ok i w := fun kd i y cd hiy => by
    simp [Instr.sliceBound, asIntOf, hiy]
  have hrun : (Instr.sliceBounds false (ByteArray.mk ⟨s⟩).size (ByteArray.mk ⟨s⟩).size (lo.map a.eval) (hi.map a.eval) none).run P w = .ok (l, h, s.length) w := by
    rw [hsz]
    cases lo with
    | none =>
      subst hl
      cases hi with
      | none => subst hh; simp [Instr.sliceBounds]
      | some y =>
        obtain ⟨kd, hy⟩ := hh
        simp [Instr.sliceBounds, ha.ev hy, hb kd h s.length _ h2]
    | some z =>
      obtain ⟨kz, hz⟩ := hl
      cases hi with
      | none => subst hh; simp [Instr.sliceBounds, ha.ev hz, hb kz l s.length _ h1]
      | some y =>
        obtain ⟨kd, hy⟩ := hh
        simp [Instr.sliceBounds, ha.ev hy, ha.ev hz, hb kd h s.length _ h2, hb kz l h _ h1]
  have h3 : (Instr.sliceAt t (S s) (lo.map a.eval) (hi.map a.eval) none).run P w = .ok (S ((s.drop l).take (h - l))) w := by
    simp only [Instr.sliceAt, Instr.slice, Sem.run_bind, run_underlying hT, Result.andThen_ok, Option.isSome_none, Bool.false_eq_true, if_false]
    simp only [Sem.run_pure, Result.andThen_ok, hrun, bytes_extract]
  simp only [execOp, ho, ha.ev hx, Sem.run_bind, Option.map_none, h3, Result.andThen_ok]; rfl

/-- A new box. -/
theorem Yr.box {T : TypeId} {x : Operand} {v : Value} {cs : List Value} (hs : Sat M w0 w C) (hx : ev? e x = some v) (hc : v.cells = cs.toArray) :
    Yr P n e w (.box T x) ty (fun v' w' => ∃ b, v' = bp b 0 ∧ Below w.heap.size w w' ∧ Sat M w0 w' (Go.Sw.box b T cs :: C)) := fun or a ha ho _ => by
  have hb : Below w.heap.size w (w.alloc (.cells cs.toArray T)) := (Below.refl _ _).alloc (Nat.le_refl _) _
  refine ⟨bp w.heap.size 0, w.alloc (.cells cs.toArray T), .inl ?_, w.heap.size, rfl, hb, hs.add hb ?_ ?_⟩
  · simp [execOp, ho, Instr.box, newVar, newRow, ha.ev hx, hc]
  · exact heap_alloc_new w _
  · intro b hbb; simp only [Go.Sw.box] at hbb; subst hbb; simp

theorem Yr.alloc {T : TypeId} {zs : List Value} (hs : Sat M w0 w C) (hz : ZT P T zs) :
    Yr P n e w (.alloc T) ty (fun v' w' => ∃ b, v' = bp b 0 ∧ Below w.heap.size w w' ∧ Sat M w0 w' (Go.Sw.box b T zs :: C)) := fun or a ha ho _ => by
  obtain ⟨z, _, hr, hc⟩ := hz.out
  have hb : Below w.heap.size w (w.alloc (.cells zs.toArray T)) := (Below.refl _ _).alloc (Nat.le_refl _) _
  refine ⟨bp w.heap.size 0, w.alloc (.cells zs.toArray T), .inl ?_, w.heap.size, rfl, hb, hs.add hb ?_ ?_⟩
  · simp [execOp, ho, Instr.alloc, newVar, newRow, hr, hc]
  · exact heap_alloc_new w _
  · intro b hbb; simp only [Go.Sw.box] at hbb; subst hbb; simp

theorem touch_setRow {w : World} {b : Nat} {cs : Array Value} : Touch (fun k => k = b) w (w.setRow b cs) :=
  ⟨rfl, rfl, rfl, by simp [World.setRow], fun k _ hk => setRow_other w b k cs hk⟩

/-- A store into a box. -/
theorem Yr.storeB {T TB : TypeId} {x y : Operand} {b o : Nat} {v : Value} {cs vs cs' : List Value} {C' : List Chunk} (hs : Sat M w0 w C) (hx : ev? e x = some (bp b o)) (hy : ev? e y = some v) (hv : v.cells = vs.toArray)
    (hr : Repl (Go.Sw.box b TB cs) (Go.Sw.box b TB cs') C C') (hset : SetAt cs o vs cs') (h1 : vs.all Value.oneCell' = true) (hsz : (P.info? T).map (·.size) = some vs.length) :
    Yr P n e w (.store T x y) ty (fun _ w' => Sat M w0 w' C') := fun or a ha ho _ => by
  obtain ⟨he, hle⟩ := hset.eq
  have hbox : w.heap[b]? = some (.cells cs.toArray TB (0, 0)) := (hs.all _ hr.mem).1
  have hst := run_storeCells_at P b o TB vs 0 cs.toArray w hbox (by simpa using hle) (by simpa using h1)
  simp only [Nat.add_zero] at hst
  rw [← he] at hst
  refine ⟨undef, w.setRow b cs'.toArray, .inr ⟨?_, rfl⟩, ?_⟩
  · cases hi : P.info? T with
    | none => simp [hi] at hsz
    | some i =>
      simp only [hi, Option.map_some, Option.some.injEq] at hsz
      have hne : ¬ (v.cells.size ≠ i.size) := by rw [hv, hsz]; simp
      have : (storeVar T ⟨b, o, none⟩ v).run P w = .ok () (w.setRow b cs'.toArray) := by
        simp only [storeVar, sizeOf, typeInfo, Sem.run_bind, run_program, Result.andThen_ok, hi, Sem.run_pure]
        rw [if_neg hne]
        rw [hv]; exact hst
      simp only [execOp, ho, ha.ev hx, ha.ev hy, Instr.storeAt, Instr.sureAddr, Sem.run_bind, Sem.run_pure, Result.andThen_ok, this]
  · exact hs.touch hr touch_setRow (setRow_heap w b cs.toArray cs'.toArray TB (0, 0) hbox) (fun k hk => .inl hk)

end rules
end Go.Sw
