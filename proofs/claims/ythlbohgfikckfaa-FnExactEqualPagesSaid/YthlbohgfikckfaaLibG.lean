/- The symbolic walk: literals of structs and of slices, equality of structs, loops, the ends of functions. General laws over any program; no conditions. -/
import Derived.Test.YthlbohgfikckfaaLibT
namespace Go.Sw
open Go Go.RowKit
variable {M : Nat → Prop}

/-- The fields' places of a struct type. -/
def placesRun (P : Program) (t : TypeId) (w : World) : Result (Array (Nat × Nat)) :=
  (match P.underlying t with
    | some (.struct fs) => (fs.mapM fun (f : Field) => do pure (f.offset, ← sizeOf f.type) : Sem (Array (Nat × Nat)))
    | _ => stuck "").run P w

structure BT (P : Program) (t : TypeId) (zs : List Value) (pl : List (Nat × Nat)) : Prop where
  und : (P.underlying t).map isStruct = some true
  zero : ∃ z, (∀ w, (zeroValue t).run P w = .ok z w) ∧ z.cells = zs.toArray
  places : ∀ w, placesRun P t w = .ok pl.toArray w

theorem BT.of {P : Program} {t : TypeId} {z : Value} {zs : List Value} {pl : List (Nat × Nat)} (h1 : (P.underlying t).map isStruct = some true) (h2 : (P.info? t).bind (·.zero) = some z) (h3 : z.cells = zs.toArray) (h4 : ∀ w, placesRun P t w = .ok pl.toArray w) : BT P t zs pl := by
  refine ⟨h1, ?_, h4⟩
  cases h' : P.info? t with
  | none => simp [h'] at h2
  | some i =>
    simp only [h', Option.bind_some] at h2
    exact ⟨z, fun w => by simp [zeroValue, typeInfo, h', h2], h3⟩

/-- Cells filled part by part. -/
inductive Fill (pl : List (Nat × Nat)) : List Value → List (Nat × Value) → List Value → Prop
  | nil {cs : List Value} : Fill pl cs [] cs
  | cons {i off sz : Nat} {v : Value} {cs vs cs1 cs' : List Value} {ps : List (Nat × Value)} (hp : pl[i]? = some (off, sz)) (hv : v.cells = vs.toArray) (hl : vs.length = sz) (hs : SetAt cs off vs cs1) (h : Fill pl cs1 ps cs') : Fill pl cs ((i, v) :: ps) cs'

theorem foldl_set (vs : List Value) : ∀ (pre cs : List Value) (off : Nat), off + pre.length + vs.length ≤ cs.length →
    (vs.zipIdx pre.length).foldl (fun (a : Array Value) (c, j) => a.setIfInBounds (off + j) c) (cs.take off ++ pre ++ cs.drop (off + pre.length)).toArray = (cs.take off ++ pre ++ vs ++ cs.drop (off + pre.length + vs.length)).toArray := by
  induction vs with
  | nil => intro pre cs off _; simp
  | cons v vs ih =>
    intro pre cs off h
    simp only [List.length_cons] at h
    have := ih (pre ++ [v]) cs off (by simp; omega)
    simp only [List.length_append, List.length_cons, List.length_nil, Nat.zero_add] at this
    simp only [List.zipIdx_cons, List.foldl_cons]
    have e : (cs.take off ++ pre ++ cs.drop (off + pre.length)).toArray.setIfInBounds (off + pre.length) v = (cs.take off ++ (pre ++ [v]) ++ cs.drop (off + (pre.length + 1))).toArray := by
      have hl : (cs.take off ++ pre).length = off + pre.length := by simp; omega
      have hd : cs.drop (off + pre.length) = cs[off + pre.length]'(by omega) :: cs.drop (off + (pre.length + 1)) := by
        rw [List.drop_eq_getElem_cons (by omega)]; rfl
      rw [hd]
      simp only [List.setIfInBounds_toArray]
      congr 1
      rw [List.set_append, if_neg (by omega), hl, Nat.sub_self]
      simp
    rw [e, this]
    simp [Nat.add_assoc, Nat.add_comm 1]

theorem Fill.run {pl : List (Nat × Nat)} {cs cs' : List Value} {ps : List (Nat × Value)} (h : Fill pl cs ps cs') : Instr.fill (pl.toArray[·]?) cs.toArray ps = some cs'.toArray := by
  induction h with
  | nil => rfl
  | @cons i off sz v cs vs cs1 cs' ps hp hv hl hs _ ih =>
    obtain ⟨he, hle⟩ := hs.eq
    unfold Instr.fill
    simp only [List.getElem?_toArray, hp]
    have h1 : ¬ ((v.cells.size ≠ sz || decide (off + v.cells.size > cs.toArray.size)) = true) := by
      rw [hv]; simp [hl]; omega
    rw [if_neg h1]
    have := foldl_set vs [] cs off (by simpa using hle)
    simp only [List.length_nil, Nat.add_zero, List.append_nil, List.take_append_drop] at this
    have hz : v.cells.zipIdx.foldl (fun (cs : Array Value) (x : Value × Nat) => cs.setIfInBounds (off + x.2) x.1) cs.toArray = cs1.toArray := by
      rw [hv, he]
      rw [← Array.foldl_toList]
      simpa using this
    rw [hz]
    simp only [List.getElem?_toArray] at ih
    exact ih

def evp? (e : Env) : List (Nat × Operand) → Option (List (Nat × Value))
  | [] => some []
  | x :: xs => match ev? e x.2, evp? e xs with
    | some v, some vs => some ((x.1, v) :: vs)
    | _, _ => none

theorem evp?_map {n : Nat} {e : Env} {a : Act} (h : Ag n e a) : ∀ {xs : List (Nat × Operand)} {vs : List (Nat × Value)}, evp? e xs = some vs → xs.map (fun x => (x.1, a.eval x.2)) = vs
  | [], vs, hv => by simp [evp?] at hv; subst hv; rfl
  | x :: xs, vs, hv => by
    simp only [evp?] at hv
    cases hx : ev? e x.2 with
    | none => simp [hx] at hv
    | some v =>
      cases hxs : evp? e xs with
      | none => simp [hx, hxs] at hv
      | some us =>
        simp only [hx, hxs, Option.some.injEq] at hv
        subst hv
        simp [h.ev hx, evp?_map h hxs]

section rules
variable {P : Program} {n : Nat} {e : Env} {w w0 : World} {C : List Chunk} {ty : TypeId}

theorem Yl.build {t : TypeId} {parts : List (Nat × Operand)} {ps : List (Nat × Value)} {zs cs : List Value} {pl : List (Nat × Nat)} (h : BT P t zs pl) (hev : evp? e parts = some ps) (hf : Fill pl zs ps cs) :
    Yl P n e w (.build t parts.toArray) ty (.agg cs.toArray) := fun or a ha ho _ => by
  obtain ⟨z, hz, hzc⟩ := h.zero
  have hmap : (parts.toArray.map fun (i, x) => (i, a.eval x)).toList = ps := by
    have := evp?_map ha hev; simpa using this
  cases hd : P.underlying t with
  | none => have := h.und; simp [hd] at this
  | some d =>
    have hs := h.und
    simp only [hd, Option.map_some, Option.some.injEq] at hs
    cases d with
    | struct fs =>
      have hp := h.places w
      simp only [placesRun, hd] at hp
      have hrun : (Instr.build t (parts.toArray.map fun (i, x) => (i, a.eval x))).run P w = .ok (.agg cs.toArray) w := by
        simp only [Instr.build, Sem.run_bind, hz, Result.andThen_ok, run_underlying hd, hp, hmap, hzc, hf.run, Sem.run_pure]
      simp only [execOp, ho, Sem.run_bind, hrun, Result.andThen_ok]; rfl
    | _ => simp [isStruct] at hs

/-- A slice literal of scalars or structs, all its places given: the elements' cells. -/
structure SlLit (P : Program) (t el : TypeId) (k : Nat) (z : List Value) : Prop where
  und : P.underlying t = some (.slice el)
  size : ∀ w, (sizeOf el).run P w = .ok k w
  zero : ∃ zv, (∀ w, (zeroValue el).run P w = .ok zv w) ∧ zv.cells = z.toArray

theorem SlLit.of {P : Program} {t el : TypeId} {k : Nat} {zv : Value} {z : List Value} (h1 : P.underlying t = some (.slice el)) (h2 : (P.info? el).map (·.size) = some k) (h3 : (P.info? el).bind (·.zero) = some zv) (h4 : zv.cells = z.toArray) : SlLit P t el k z := by
  cases h' : P.info? el with
  | none => simp [h'] at h2
  | some i =>
    simp only [h', Option.bind_some, Option.map_some, Option.some.injEq] at h2 h3
    exact ⟨h1, fun w => by simp [sizeOf, typeInfo, h', h2], zv, fun w => by simp [zeroValue, typeInfo, h', h3], h4⟩

theorem Yr.buildSlice {t el : TypeId} {k len : Nat} {z : List Value} {parts : List (Nat × Operand)} {ps : List (Nat × Value)} {zs cs : List Value} (hs : Sat M w0 w C) (h : SlLit P t el k z) (hev : evp? e parts = some ps)
    (hz : ((List.range (len * k)).map fun j => z[j % z.length]?.getD undef) = zs) (hb : Nat.ble (len * k) 1000 = true)
    (hf : Fill ((List.range len).map fun i => (i * k, k)) zs ps cs) (hz0 : Nat.blt 0 z.length = true) :
    Yr P n e w (.buildSlice t len parts.toArray) ty (fun v' w' => ∃ b, v' = .slice (some ⟨b, 0, none⟩) len len ∧ Below w.heap.size w w' ∧ Sat M w0 w' (Go.Sw.box b el cs :: C)) := fun or a ha ho _ => by
  have hb' : Below w.heap.size w (w.alloc (.cells cs.toArray el)) := (Below.refl _ _).alloc (Nat.le_refl _) _
  obtain ⟨zv, hzv, hzc⟩ := h.zero
  have hmap : (parts.toArray.map fun (i, x) => (i, a.eval x)).toList = ps := by
    have := evp?_map ha hev; simpa using this
  have hle : ¬ (len * k > 2 ^ 24) := by have := Nat.le_of_ble_eq_true hb; omega
  have hz0' : 0 < z.length := by simpa [Nat.blt_eq] using hz0
  -- the places, as a list and as a function
  have hpl : ∀ (ps : List (Nat × Value)) (cs cs' : List Value), Fill ((List.range len).map fun i => (i * k, k)) cs ps cs' → Instr.fill (fun i => some (i * k, k)) cs.toArray ps = some cs'.toArray := by
    intro ps cs cs' hF
    induction hF with
    | nil => rfl
    | @cons i off sz v cs vs cs1 cs' ps hp hv hl hs' _ ih =>
      obtain ⟨he, hle⟩ := hs'.eq
      have hi : i < len ∧ (i * k, k) = (off, sz) := by
        rw [List.getElem?_map] at hp
        cases hr : (List.range len)[i]? with
        | none => simp [hr] at hp
        | some r =>
          have hr2 := List.getElem?_eq_some_iff.1 hr
          obtain ⟨h1, h2⟩ := hr2
          simp only [List.getElem_range] at h2
          subst h2
          simp only [hr, Option.map_some, Option.some.injEq] at hp
          exact ⟨by simpa using h1, hp⟩
      obtain ⟨_, hi2⟩ := hi
      simp only [Prod.mk.injEq] at hi2
      obtain ⟨rfl, rfl⟩ := hi2
      unfold Instr.fill
      simp only []
      have h1 : ¬ ((v.cells.size ≠ k || decide (i * k + v.cells.size > cs.toArray.size)) = true) := by
        rw [hv]; simp [hl]; omega
      rw [if_neg h1]
      have := foldl_set vs [] cs (i * k) (by simpa using hle)
      simp only [List.length_nil, Nat.add_zero, List.append_nil, List.take_append_drop] at this
      have hz : v.cells.zipIdx.foldl (fun (cs : Array Value) (x : Value × Nat) => cs.setIfInBounds (i * k + x.2) x.1) cs.toArray = cs1.toArray := by
        rw [hv, he, ← Array.foldl_toList]
        simpa using this
      rw [hz]
      exact ih
  refine ⟨.slice (some ⟨w.heap.size, 0, none⟩) len len, w.alloc (.cells cs.toArray el), .inl ?_, w.heap.size, rfl, hb', hs.add hb' ?_ ?_⟩
  · have hrun : (Instr.buildSlice t len (parts.toArray.map fun (i, x) => (i, a.eval x))).run P w = .ok (.slice (some ⟨w.heap.size, 0, none⟩) len len) (w.alloc (.cells cs.toArray el)) := by
      simp only [Instr.buildSlice, Sem.run_bind, run_underlying h.und, Result.andThen_ok, h.size]
      rw [if_neg hle]
      by_cases h0 : len * k = 0
      · have hz1 : (Array.range (len * k)).map (fun j => (#[] : Array Value)[j % (#[] : Array Value).size]!) = zs.toArray := by
          rw [← hz, h0]; simp
        rw [if_pos h0]
        simp only [Sem.run_bind, Sem.run_pure, Result.andThen_ok, hz1, hmap, hpl ps zs cs hf]
        simp [newRow]
      · have hz1 : (Array.range (len * k)).map (fun j => z.toArray[j % z.toArray.size]!) = zs.toArray := by
          rw [← hz]
          apply Array.ext'
          simp only [Array.toList_map, Array.toList_range]
          apply List.map_congr_left
          intro j _
          have hj : j % z.length < z.length := Nat.mod_lt _ hz0'
          simp [getElem!_pos, hj]
        rw [if_neg h0]
        simp only [Sem.run_bind, Sem.run_pure, Result.andThen_ok, hzv, hzc, hz1, hmap, hpl ps zs cs hf]
        simp [newRow]
    simp only [execOp, ho, Sem.run_bind, hrun, Result.andThen_ok]; rfl
  · exact heap_alloc_new w _
  · intro b hbb; simp only [Go.Sw.box] at hbb; subst hbb; simp

/-- The address of an element of a slice that lies in a box, at a place that is known. -/
theorem Yl.indexB {t el : TypeId} {k b len c i : Nat} {x y : Operand} {kd : IntKind} {j : Int} (hT : SlT P t el k) (hx : ev? e x = some (.slice (some ⟨b, 0, none⟩) len c)) (hy : ev? e y = some (.int kd j)) (hj : j = (i : Int)) (hlt : i < len) :
    Yl P n e w (.indexAddr t x y) ty (bp b (i * k)) := fun or a ha ho _ => by
  subst hj
  obtain ⟨inf, hi, hsz⟩ : ∃ inf, P.info? el = some inf ∧ inf.size = k := by
    cases h : P.info? el with
    | none => have := hT.size; simp [h] at this
    | some inf => exact ⟨inf, rfl, by have := hT.size; simpa [h] using this⟩
  simp [execOp, ho, Instr.indexAt, ha.ev hx, ha.ev hy, asIntOf, run_underlying hT.und, hlt, sizeOf, typeInfo, hi, hsz, Addr.add_lit]

/-- A field of a field: the offsets are kept together. -/
theorem Yl.fieldAddr2 {s : TypeId} {x : Operand} {f b o j off : Nat} (h : FA P s f off) (hx : ev? e x = some (bp b (o + j))) : Yl P n e w (.fieldAddr s x f) ty (bp b (o + (j + off))) := by
  have := Yl.fieldAddr (n := n) (w := w) (ty := ty) h hx
  rw [Nat.add_assoc] at this; exact this

/-- A struct inside an element. -/
theorem Yl.loadAC {T : TypeId} {k : Nat} {x : Operand} {b o j : Nat} {cs : List Value} (h : Agg P T k) (hx : ev? e x = some (bp b (o + j))) (hc : CellsAt w b o cs) {vs : List Value} (hv : cut cs j k = vs) (hk : vs.length = k) : Yl P n e w (.load T x) ty (.agg vs.toArray) :=
  Yl.loadA h hx (fun i v hi => by rw [Nat.add_assoc]; exact hc _ v (cut_get cs j k i v (by rw [hv]; exact hi))) hk

/-- Equality of two structs, by the type's own law. -/
def EqT (P : Program) (t : TypeId) {α : Type} [DecidableEq α] [Ph α] : Prop :=
  ∀ (x y : α) (o p : Operand) (w : World), (do eqGuard .eql t o p (.agg (Ph.enc x).toArray) (.agg (Ph.enc y).toArray); binOp .eql t (.agg (Ph.enc x).toArray) (.agg (Ph.enc y).toArray) : Sem Value).run P w = .ok (.bool (decide (x = y))) w ∧
    (do eqGuard .neq t o p (.agg (Ph.enc x).toArray) (.agg (Ph.enc y).toArray); binOp .neq t (.agg (Ph.enc x).toArray) (.agg (Ph.enc y).toArray) : Sem Value).run P w = .ok (.bool (!decide (x = y))) w

theorem Yl.eqt {α : Type} [DecidableEq α] [Ph α] {t tyy : TypeId} {o p : Operand} {x y : α} (h : EqT P t (α := α)) (hx : ev? e o = some (.agg (Ph.enc x).toArray)) (hy : ev? e p = some (.agg (Ph.enc y).toArray)) : Yl P n e w (.binOp .eql t o p tyy) ty (.bool (decide (x = y))) :=
  Yl.bin hx hy (h x y o p w).1
theorem Yl.net {α : Type} [DecidableEq α] [Ph α] {t tyy : TypeId} {o p : Operand} {x y : α} (h : EqT P t (α := α)) (hx : ev? e o = some (.agg (Ph.enc x).toArray)) (hy : ev? e p = some (.agg (Ph.enc y).toArray)) : Yl P n e w (.binOp .neq t o p tyy) ty (.bool (!decide (x = y))) :=
  Yl.bin hx hy (h x y o p w).2
end rules

theorem run_eqt_of {P : Program} {t : TypeId} {α : Type} [DecidableEq α] [Ph α] (h : ∀ (x y : α) (w : World), (Op.equalIn 10000 t (.agg (Ph.enc x).toArray) (.agg (Ph.enc y).toArray)).run P w = .ok (decide (x = y)) w) (hq : P.eqGuardType P.depth t = false) : EqT P t (α := α) := fun x y o p w => by
  have hg : ∀ (op : BinOp) (xs ys : Array Value), (eqGuard op t o p (.agg xs) (.agg ys)).run P w = .ok () w := fun op xs ys => by
    unfold eqGuard
    cases op <;> simp [hq]
  constructor
  · rw [Sem.run_bind, hg, Result.andThen_ok, run_eql_struct, h]; rfl
  · rw [Sem.run_bind, hg, Result.andThen_ok, run_neq_struct, h]; rfl

/-! A loop whose own memory stays as it is. -/
theorem Sub.append {e1 e2 e : Env} (h1 : Sub e1 e) (h2 : Sub e2 e) : Sub (e1 ++ e2) e := by
  induction e1 with
  | nil => exact h2
  | cons p r ih => exact ⟨h1.1, ih h1.2⟩

structure NxS (M : Nat → Prop) {ι : Type} (n : Nat) (μ : ι → Nat) (vars : ι → Env) (e0 : Env) (J : ι → Prop) (w0 : World) (C : List Chunk) (k : ι) (a : Act) (w : World) : Prop where
  out : ∃ k', μ k' < μ k ∧ J k' ∧ Sat M w0 w C ∧ Ag n (vars k' ++ e0) a

theorem WC.loopS {P : Program} {n : Nat} {Q : Exit → Act → World → Prop} {body : Code} {ι : Type} (μ : ι → Nat) (vars : ι → Env) (J : ι → Prop) (e0 : Env) (k0 : ι) {e : Env} {w w0 : World} {C : List Chunk}
    (hs : Sat M w0 w C) (he : Sub e0 e) (hv : Sub (vars k0) e) (hJ : J k0)
    (round : ∀ k w, J k → Sat M w0 w C → WC P n (Exit.then (NxS M n μ vars e0 J w0 C k) Q) body (vars k ++ e0) w) :
    WC P n Q (.loop body) e w := fun a ha =>
  wp_loop_ix μ (fun k a w => (J k ∧ Sat M w0 w C) ∧ Ag n (vars k ++ e0) a) k0 ⟨⟨hJ, hs⟩, ha.sub (Sub.append hv he)⟩ fun k a w ⟨⟨hi, hsk⟩, hk⟩ =>
    wp_mono (round k w hi hsk a hk) fun x a' w' hq => by
      cases x <;> first | exact hq | (obtain ⟨⟨k', h1, h2, h3, h4⟩⟩ := hq; exact ⟨k', h1, ⟨h2, h3⟩, h4⟩)

theorem At.roundS {n : Nat} {Q : Exit → Act → World → Prop} {ι : Type} {μ : ι → Nat} {vars : ι → Env} {e0 : Env} {J : ι → Prop} {w0 : World} {C : List Chunk} {k : ι} {e : Env} {w : World}
    (k' : ι) (hs : Sat M w0 w C) (he : Sub e0 e) (hv : Sub (vars k') e) (hm : μ k' < μ k) (hJ : J k') : At n (Exit.then (NxS M n μ vars e0 J w0 C k) Q) .normal e w := fun _ ha => ⟨⟨k', hm, hJ, hs, ha.sub (Sub.append hv he)⟩⟩

/-- A test on a slot: in each branch the slot holds its outcome outright. -/
theorem WC.condS {P : Program} {n : Nat} {Q : Exit → Act → World → Prop} {e : Env} {w : World} {d : Nat} {x y : Code} {t : Bool} (hc : get? e d = some (.bool t)) (ht : t = true → WC P n Q x ((d, .bool true) :: e) w) (hf : t = false → WC P n Q y ((d, .bool false) :: e) w) : WC P n Q (.cond (.tmp d) x y) e w := fun a ha => by
  have := ag_split ha hc
  refine wp_cond_split (ha.ev (x := .tmp d) hc) (fun h => ?_) (fun h => ?_)
  · exact ht h a (by rw [h] at this; exact this)
  · exact hf h a (by rw [h] at this; exact this)

/-- As 'enter', the number of slots written out. -/
theorem enterN {P : Program} {f : FuncId} {fn : Func} {c : Code} {vs : List Value} {w : World} {E : Ending → World → Prop} (n : Nat) (hf : P.funcs[f]? = some fn) (hb : fn.body = some c) (hnt : fn.ntmps = n) (hn : Nat.ble vs.length n = true)
    (h : WC P n (bodyPost P fn E) c (envOf 0 vs) w) : Calls P f vs.toArray w E := by
  subst hnt; exact enter hf hb hn h

theorem fin1' {P : Program} {fn : Func} {E : Ending → World → Prop} {e : Env} {w : World} {n t : Nat} {v : Value} (hr : fn.results = #[.tmp t]) (hv : get? e t = some v) (h : E (.returned v) w) : At n (bodyPost P fn E) .ret e w := fun a ha => by
  have := ha.get t v hv
  exact bodyPost_ret (results_tmp hr _ _ _) ha.defers (by rw [this]; exact h)

theorem fin2' {P : Program} {fn : Func} {E : Ending → World → Prop} {e : Env} {w : World} {n t u : Nat} {v v' : Value} (hr : fn.results = #[.tmp t, .tmp u]) (hv : get? e t = some v) (hv' : get? e u = some v') (h : E (.returned (.tuple #[v, v'])) w) : At n (bodyPost P fn E) .ret e w := fun a ha => by
  have h1 := ha.get t v hv
  have h2 := ha.get u v' hv'
  exact bodyPost_ret (results_tmp2 hr _ _ _) ha.defers (by rw [h1, h2]; exact h)

/-- A result that lies in a box. -/
theorem fin1c {P : Program} {fn : Func} {E : Ending → World → Prop} {e : Env} {w w0 : World} {C : List Chunk} {n t k b : Nat} {T TB : TypeId} {cs : List Value} (hr : fn.results = #[.cell t T]) (hT : Agg P T k) (hv : get? e t = some (bp b 0)) (hs : Sat M w0 w C) (hm : box b TB cs ∈ C) (hk : cs.length = k) (h : E (.returned (.agg cs.toArray)) w) : At n (bodyPost P fn E) .ret e w := fun a ha => by
  have h1 := ha.get t _ hv
  refine bodyPost_ret (v := .agg cs.toArray) ?_ ha.defers h
  have : (loadVar T ⟨b, 0, none⟩).run P w = .ok (.agg cs.toArray) w := hT.load hk (hs.box_cells hm)
  have h1' : a.tmps[t]?.getD undef = bp b 0 := by simpa using h1
  simp [results, hr, h1', asAddr, this]

theorem fin2c {P : Program} {fn : Func} {E : Ending → World → Prop} {e : Env} {w w0 : World} {C : List Chunk} {n t u k b : Nat} {T TB : TypeId} {cs : List Value} {v' : Value} (hr : fn.results = #[.cell t T, .tmp u]) (hT : Agg P T k) (hv : get? e t = some (bp b 0)) (hv' : get? e u = some v') (hs : Sat M w0 w C) (hm : box b TB cs ∈ C) (hk : cs.length = k) (h : E (.returned (.tuple #[.agg cs.toArray, v'])) w) : At n (bodyPost P fn E) .ret e w := fun a ha => by
  have h1 := ha.get t _ hv
  have h2 := ha.get u _ hv'
  refine bodyPost_ret (v := .tuple #[.agg cs.toArray, v']) ?_ ha.defers h
  have : (loadVar T ⟨b, 0, none⟩).run P w = .ok (.agg cs.toArray) w := hT.load hk (hs.box_cells hm)
  have h1' : a.tmps[t]?.getD undef = bp b 0 := by simpa using h1
  have h2' : a.tmps[u]?.getD undef = v' := by simpa using h2
  simp [results, hr, h1', h2', asAddr, this]

theorem not_eq_true {b : Bool} (h : (!b) = true) : b = false := by simpa using h
theorem not_eq_false {b : Bool} (h : (!b) = false) : b = true := by simpa using h
theorem beq_true {b c : Bool} (h : (b == c) = true) : b = c := by simpa using h
theorem beq_false {b c : Bool} (h : (b == c) = false) : ¬ b = c := by simpa using h

/-- x lies between a and b. -/
def inR (x a b : Int) : Bool := decide (a ≤ x) && decide (x ≤ b)
theorem inR_true {x a b : Int} : inR x a b = true ↔ a ≤ x ∧ x ≤ b := by simp [inR]
theorem inR_false {x a b : Int} : inR x a b = false ↔ x < a ∨ b < x := by
  simp only [inR, Bool.and_eq_false_iff, decide_eq_false_iff_not, Int.not_le]

theorem exists_get {α : Type} {l : List α} {k : Nat} (h : k < l.length) : ∃ d, l[k]? = some d := ⟨l[k], List.getElem?_eq_getElem h⟩

end Go.Sw
