/- Sheets: guarded operations in open regions, an error held against nil, Atoi at every text, rows of strings sorted and made compact, the laws of sheets. General laws over any program; no conditions. -/
import Derived.Test.YtdpifpainiiblaaGreatDoorLibL
import Derived.WideLaws
import Derived.Lib.AtoiTie
import Derived.Lib.AtoiAllCases
import Derived.Lib.AtoiErrMem
import Derived.Lib.SlicesCompact
import Derived.Sort.Row
import Derived.Sort.Walk0
import Derived.Sort.EncStr
set_option linter.all false
namespace Go.Sw
open Go Go.RowKit

/-! Guarded operations in open regions. -/
section
variable {M : Nat → Prop} {P : Program} {n : Nat} {ops : Array Oper} {Q : Exit → Act → World → Prop} {e : Env} {w w0 : World} {C : List Chunk} {Cl : World → Prop}
variable {t : Nat} {ty : TypeId} {pos : String} {aft : Array Edge} {fuel : Nat} {listed : Array Bool}
theorem WA.one {i : Nat} (hr : Region.ready .any ops listed = [i]) (h : WI P n ops Q Cl fuel listed i e w) : WA P n ops Q Cl (fuel + 1) listed e w := fun a ha =>
  wpAnyH_all hr (by simp) fun k hk => by
    obtain rfl : k = i := by simpa using hk
    exact h a ha
theorem WI.callRg {i j : Nat} {want : Bool} {d : Nat} {op : Op} {f : FuncId} {vs : List Value} {E : Ending → World → Prop} (hi : ops[i]? = some ⟨some t, op, ty, pos, aft, some (j, want)⟩)
    (hd : ((ops[j]?).bind (·.dst)) = some d) (hx : get? e d = some (.bool want)) (ht : Nat.blt t n = true) (hy : Yc P n e w op f vs)
    (hc : Calls P f vs.toArray w E) (k : ∀ en w', E en w' → ∃ v, en = .returned v ∧ Cl w' ∧ WA P n ops Q Cl fuel (listed.setIfInBounds i true) ((t, v) :: e) w') : WI P n ops Q Cl fuel listed i e w := fun a ha => by
  unfold wpOp
  simp only [hi]
  rw [if_pos (by
    have hy := yielded_of ha hd hx
    simp [Region.wanted, hy])]
  refine .inl ?_
  unfold Oper.wp
  rw [hy ⟨some t, op, ty, pos, aft, some (j, want)⟩ a ha rfl, Oper.upon_enter]
  refine hc.mono fun en w' hE => ?_
  obtain ⟨v, rfl, hcl, hk⟩ := k en w' hE
  exact ⟨hcl, hk _ (ha.put ht v)⟩
theorem WI.call2g {i j : Nat} {want : Bool} {d : Nat} {op : Op} {f : FuncId} {vs : List Value} {R : Value → World → Prop} (hs : Sat M w0 w C) (hcl : ∀ w', Sat M w0 w' C → Cl w') (hi : ops[i]? = some ⟨some t, op, ty, pos, aft, some (j, want)⟩)
    (hd : ((ops[j]?).bind (·.dst)) = some d) (hx : get? e d = some (.bool want)) (ht : Nat.blt t n = true) (hy : Yc P n e w op f vs)
    (hc : Calls P f vs.toArray w (Ret w R)) (k : ∀ v w', Below w.heap.size w w' → R v w' → Sat M w0 w' C → WA P n ops Q Cl fuel (listed.setIfInBounds i true) ((t, v) :: e) w') : WI P n ops Q Cl fuel listed i e w :=
  WI.callRg hi hd hx ht hy hc fun _ w' ⟨v, he, hb, hR⟩ => ⟨v, he, hcl _ (hs.ext hb), k v w' hb hR (hs.ext hb)⟩
theorem WI.callp2g {i j : Nat} {want : Bool} {d : Nat} {op : Op} {f : FuncId} {vs : List Value} {v : Value} (hs : Sat M w0 w C) (hcl : ∀ w', Sat M w0 w' C → Cl w') (hi : ops[i]? = some ⟨some t, op, ty, pos, aft, some (j, want)⟩)
    (hd : ((ops[j]?).bind (·.dst)) = some d) (hx : get? e d = some (.bool want)) (ht : Nat.blt t n = true) (hy : Yc P n e w op f vs)
    (hc : Calls P f vs.toArray w (RetP w v)) (k : ∀ w', Sat M w0 w' C → WA P n ops Q Cl fuel (listed.setIfInBounds i true) ((t, v) :: e) w') : WI P n ops Q Cl fuel listed i e w :=
  WI.callRg hi hd hx ht hy hc fun _ w' ⟨he, hb⟩ => ⟨v, he, hcl _ (hs.ext hb), k w' (hs.ext hb)⟩
theorem WI.rg {i j : Nat} {want : Bool} {d : Nat} {op : Op} {R : Value → World → Prop} (hi : ops[i]? = some ⟨some t, op, ty, pos, aft, some (j, want)⟩)
    (hd : ((ops[j]?).bind (·.dst)) = some d) (hx : get? e d = some (.bool want)) (ht : Nat.blt t n = true) (hy : Yr P n e w op ty R)
    (hCl : ∀ v w', R v w' → Cl w') (h : ∀ v w', R v w' → WA P n ops Q Cl fuel (listed.setIfInBounds i true) ((t, v) :: e) w') : WI P n ops Q Cl fuel listed i e w := fun a ha => by
  unfold wpOp
  simp only [hi]
  rw [if_pos (by
    have hy := yielded_of ha hd hx
    simp [Region.wanted, hy])]
  refine .inl ?_
  unfold Oper.wp
  obtain ⟨v, w', hrun, hR⟩ := hy ⟨some t, op, ty, pos, aft, some (j, want)⟩ a ha rfl rfl
  rcases hrun with hrun | ⟨hrun, rfl⟩
  · rw [hrun, Oper.upon_value]; exact ⟨hCl _ _ hR, h v w' hR _ (ha.put ht v)⟩
  · rw [hrun, Oper.upon_skip]; exact ⟨hCl _ _ hR, h _ w' hR _ (ha.put ht _)⟩
end

/-! Texts held against each other; an error held against nil. -/
section
variable {P : Program} {n : Nat} {e : Env} {w : World} {ty tx tyy : TypeId} {x y : Operand}
theorem Yl.ges {s u : Str} (hx : ev? e x = some (S s)) (hy : ev? e y = some (S u)) : Yl P n e w (.binOp .geq tx x y tyy) ty (.bool (!Op.bytesLess s u)) := Yl.bin hx hy (by simp [eqGuard, binOp, Op.stringOp])
def IsErr (v : Value) : Prop := v = .nilIface ∨ ∃ t p, v = .iface t p
def errB : Value → Bool
  | .nilIface => false
  | _ => true
theorem Yl.neNil {v : Value} (hu : P.underlying tx = some (.interface (P.methodsAt tx))) (hx : ev? e x = some v) (hv : IsErr v) : Yl P n e w (.binOp .neq tx x (.const .nilIface) tyy) ty (Bo (errB v)) := by
  rcases hv with rfl | ⟨t, p, rfl⟩
  · exact Yl.bin hx rfl (by
      have h1 : eqGuard .neq tx x (.const .nilIface) .nilIface .nilIface = (pure () : Sem Unit) := by simp [eqGuard]
      rw [h1]
      simp only [Sem.run_bind, Sem.run_pure, Result.andThen_ok, run_neq_nil_nil w tx hu]; rfl)
  · exact Yl.bin hx rfl (by
      have h1 : eqGuard .neq tx x (.const .nilIface) (.iface t p) .nilIface = (pure () : Sem Unit) := by simp [eqGuard]
      rw [h1]
      simp only [Sem.run_bind, Sem.run_pure, Result.andThen_ok, run_neq_held_nil w tx t p hu]; rfl)
end

/-- A literal list of one datum, read. -/
theorem Sat.oklit1 {α : Type} [Ph α] {M : Nat → Prop} {w0 w : World} {C : List Chunk} {x : α} {b : Nat} {T : TypeId} (hs : Sat M w0 w C) (hm : box b T (Ph.enc x) ∈ C) (hx : Ph.ok w x) : Sl.Ok w (⟨[x], some ⟨b, 0, none⟩, 1⟩ : Sl α) :=
  ⟨Nat.le_refl _, by show 1 ≤ maxLen; unfold maxLen; omega, .inr ⟨rfl, by rw [show encs [x] = Ph.enc x from by rw [encs_cons, encs_nil, List.append_nil]]; exact hs.box_cells hm⟩, fun y hy => by obtain rfl := List.mem_singleton.1 hy; exact hx⟩

/-! Atoi at every text. -/
def ErrCell (g : Nat) (w : World) : Prop := ∃ ev, w.cell? ⟨g, 0, none⟩ = some ev ∧ (ev = .nilIface ∨ ∃ te pe, ev = .iface te pe)
def ErrCells (gs gr : Nat) (w : World) : Prop := ErrCell gs w ∧ ErrCell gr w
theorem ErrCell.below {g : Nat} {w w' : World} (hb : Below w.heap.size w w') (h : ErrCell g w) : ErrCell g w' := by
  obtain ⟨ev, h1, h2⟩ := h
  exact ⟨ev, (hb.cell (show (⟨g, 0, none⟩ : Go.Addr).block < w.heap.size from Go.Lib.lt_of_cell h1)).trans h1, h2⟩
theorem Sat.errs {gs gr : Nat} {w0 w : World} {C : List Chunk} (hs : Sat N0 w0 w C) (h : ErrCells gs gr w0) : ErrCells gs gr w := ⟨h.1.below hs.below, h.2.below hs.below⟩
def AtoiR (s : Str) (v : Value) : Prop := ∃ (n : Int) (e : Value), v = .tuple #[I n, e] ∧ WfI n ∧ IsErr e ∧ (errB e = false → Lib.atoiAll s = .ok n) ∧ (errB e = true → ∀ m, ¬ Lib.atoiAll s = .ok m)
theorem atoi_calls {P : Program} {f : FuncId} {gs gr T T2 T5 : Nat}
    (hO : ∀ (s : ByteArray), s.size ≤ 9223372036854775806 → ∀ (v : Int), Lib.atoiAll s.data.toList = .ok v → ∀ w : World, Calls P f #[.string s] w fun e w' => e = .returned (.tuple #[.int .i64 v, .nilIface]) ∧ (w' = w ∨ ∃ t, w' = Lib.bytesWorld w T5 t))
    (hY : ∀ (s : ByteArray), s.size ≤ 281474976710656 → Lib.atoiAll s.data.toList = Lib.atoiAll [] → ∀ (ev : Value) (w : World), w.cell? ⟨gs, 0, none⟩ = some ev → (ev = .nilIface ∨ ∃ te pe, ev = .iface te pe) →
      Calls P f #[.string s] w fun e w' => ∃ N, e = .returned (.tuple #[.int .i64 0, .iface T (.pointer (some ⟨N, 0, none⟩))]) ∧ w.heap.size ≤ N ∧ w'.heap[N]? = some (.cells #[.string ⟨#[65, 116, 111, 105]⟩, .string s, ev] T2 (0, 0)) ∧ Below w.heap.size w w')
    (hR : ∀ (s : ByteArray), s.size ≤ 281474976710656 → Lib.atoiAll s.data.toList = .range → ∀ (ev : Value) (w : World), w.cell? ⟨gr, 0, none⟩ = some ev → (ev = .nilIface ∨ ∃ te pe, ev = .iface te pe) →
      Calls P f #[.string s] w fun e w' => ∃ N, e = .returned (.tuple #[.int .i64 (Lib.atoiSat s.data.toList), .iface T (.pointer (some ⟨N, 0, none⟩))]) ∧ w.heap.size ≤ N ∧ w'.heap[N]? = some (.cells #[.string ⟨#[65, 116, 111, 105]⟩, .string s, ev] T2 (0, 0)) ∧ Below w.heap.size w w')
    (s : Str) (w : World) (hl : s.length ≤ 2097152) (he : ErrCells gs gr w) : Calls P f [S s].toArray w (Ret w fun v _ => AtoiR s v) := by
  have hv : [S s].toArray = #[.string ⟨⟨s⟩⟩] := rfl
  have hsz : (⟨⟨s⟩⟩ : ByteArray).size = s.length := rfl
  have hd : (⟨⟨s⟩⟩ : ByteArray).data.toList = s := rfl
  rw [hv]
  rcases h : Lib.atoiAll s with n | _ | _
  · have hb := Lib.atoiAll_bounds h
    refine Calls.mono (hO ⟨⟨s⟩⟩ (by rw [hsz]; omega) n h w) ?_
    rintro e w' ⟨rfl, hw⟩
    refine ⟨_, rfl, ?_, n, .nilIface, rfl, ⟨hb.1, hb.2⟩, .inl rfl, fun _ => h, fun h9 => (by cases h9)⟩
    rcases hw with rfl | ⟨t, rfl⟩
    · exact Below.refl _ _
    · exact Lib.bytesWorld_below _ _ _
  · obtain ⟨ev, h1, h2⟩ := he.1
    refine Calls.mono (hY ⟨⟨s⟩⟩ (by rw [hsz]; omega) h ev w h1 h2) ?_
    rintro e w' ⟨N, rfl, _, _, hb⟩
    exact ⟨_, rfl, hb, 0, _, rfl, ⟨by omega, by omega⟩, .inr ⟨_, _, rfl⟩, fun h9 => (by cases h9), fun _ m h9 => (by rw [h] at h9; cases h9)⟩
  · obtain ⟨ev, h1, h2⟩ := he.2
    refine Calls.mono (hR ⟨⟨s⟩⟩ (by rw [hsz]; omega) h ev w h1 h2) ?_
    rintro e w' ⟨N, rfl, _, _, hb⟩
    have hb2 := Lib.atoiSat_bounds s
    exact ⟨_, rfl, hb, _, _, rfl, ⟨hb2.1, hb2.2⟩, .inr ⟨_, _, rfl⟩, fun h9 => (by cases h9), fun _ m h9 => (by rw [h] at h9; cases h9)⟩

/-! What ParseInt answers. -/
theorem decFrom_digits : ∀ (s : Str) (acc : Nat), s.all digit = true → Lib.decFrom acc s = some (s.foldl (fun a c => a * 10 + (c.toNat - 48)) acc)
  | [], acc, _ => rfl
  | c :: r, acc, h => by
    simp only [List.all_cons, Bool.and_eq_true] at h
    have hc : 48 ≤ c.toNat ∧ c.toNat ≤ 57 := by simpa [digit] using h.1
    have hd : Lib.digitVal c = some (c.toNat - 48) := by unfold Lib.digitVal; rw [if_pos hc]
    rw [Lib.decFrom, hd]
    exact decFrom_digits r _ h.2
theorem atoi_digits {s : Str} (h0 : s ≠ []) (h : s.all digit = true) : Lib.atoi s = some (decVal s : Int) := by
  cases s with
  | nil => exact absurd rfl h0
  | cons c r =>
    have hc : 48 ≤ c.toNat ∧ c.toNat ≤ 57 := by
      simp only [List.all_cons, Bool.and_eq_true] at h
      simpa [digit] using h.1
    have h1 : (c == 45) = false := by
      rw [beq_eq_false_iff_ne]; rintro rfl; exact absurd hc.1 (by decide)
    have h2 : (c == 43) = false := by
      rw [beq_eq_false_iff_ne]; rintro rfl; exact absurd hc.1 (by decide)
    have h3 : Lib.decNat (c :: r) = some (decVal (c :: r)) := by
      unfold Lib.decNat
      rw [if_neg (by simp), decFrom_digits (c :: r) 0 h]; rfl
    simp [Lib.atoi, h1, h2, h3]
theorem isInt_atoi {s : Str} (h : isInt s = true) : Lib.atoiAll s = .ok (decVal s : Int) := by
  unfold isInt at h
  simp only [Bool.and_eq_true, decide_eq_true_eq] at h
  have hl := inR_true.1 h.1.1.1
  have h0 : s ≠ [] := by rintro rfl; simp at hl
  rw [Lib.atoiAll_short s (by omega), atoi_digits h0 h.1.1.2]; rfl
theorem decDigits_all (u : Nat) : (Lib.decDigits u).all digit = true := by
  induction u using Nat.strongRecOn with
  | _ u ih =>
    rw [Lib.decDigits]
    split
    · have : u < 10 := by assumption
      simp [digit]; omega
    · rw [List.all_append, ih (u / 10) (by omega)]
      simp [digit]; omega
theorem decDigits_len : ∀ (k u : Nat), u < 10 ^ (k + 1) → 1 ≤ (Lib.decDigits u).length ∧ (Lib.decDigits u).length ≤ k + 1
  | 0, u, h => by rw [Lib.decDigits, dif_pos (by simpa using h)]; simp
  | k + 1, u, h => by
    rw [Lib.decDigits]
    split
    · simp
    · have := decDigits_len k (u / 10) (by rw [Nat.pow_succ] at h; omega)
      rw [List.length_append, List.length_singleton]; omega
theorem itoa_isInt {s : Str} {n : Int} (h0 : 0 ≤ n) (h1 : n ≤ 1000000000000) (h : Lib.itoa n = s) : isInt s = true ∧ (decVal s : Int) = n := by
  subst h
  have e : Lib.itoa n = Lib.decDigits n.toNat := by unfold Lib.itoa; rw [if_neg (by omega)]
  have ev : decVal (Lib.itoa n) = n.toNat := by rw [e]; exact decVal_dec _
  have ei : ((n.toNat : Nat) : Int) = n := by omega
  have hall : (Lib.itoa n).all digit = true := by rw [e]; exact decDigits_all _
  have hlen : 1 ≤ (Lib.itoa n).length ∧ (Lib.itoa n).length ≤ 13 := by
    rw [e]; exact decDigits_len 12 n.toNat (by rw [show (10 : Nat) ^ (12 + 1) = 10000000000000 from by decide]; omega)
  refine ⟨int_yes (by omega) hall (by rw [ev]; omega) (by rw [ev, ei]), by rw [ev, ei]⟩
theorem parse_err {s : Str} {e : Value} (he : errB e = true) (h : errB e = true → ∀ m, ¬ Lib.atoiAll s = .ok m) : isInt s = false := by
  cases hi : isInt s with
  | false => rfl
  | true => exact absurd (isInt_atoi hi) (h he _)
theorem parse_val {s : Str} {n : Int} (h : Lib.atoiAll s = .ok n) (hn : ¬ (0 ≤ n ∧ n ≤ 1000000000000 ∧ Lib.itoa n = s)) : isInt s = false := by
  cases hi : isInt s with
  | false => rfl
  | true =>
    have e := isInt_atoi hi
    rw [h] at e
    injection e with e
    subst e
    unfold isInt at hi
    simp only [Bool.and_eq_true, decide_eq_true_eq] at hi
    exact absurd ⟨by omega, by omega, hi.2⟩ hn

/-! Rows of texts: sorted, made compact. -/
open Go.Sort in
section
def leS (x y : Str) : Bool := decide (x ≤ y)
theorem encs_str : ∀ L : List Str, encs L = L.map S
  | [] => rfl
  | x :: L => by rw [encs_cons, encs_str L]; rfl
theorem enc_flatS {L : List Str} {j : Nat} (hj : j < L.length) : (encs L)[j]? = some (Go.Proofs.encStr (L.toArray[j]!)) := by
  rw [encs_str, List.getElem?_map, List.getElem?_eq_getElem hj]
  have : L.toArray[j]! = L[j] := by rw [getElem!_pos L.toArray j (by simpa using hj)]; rfl
  rw [this]; rfl
theorem OwnS.holds {s : Sl Str} {F : List Nat} {w : World} (ho : OwnS w s F) {b o : Nat} {cur : Array Value} {ce : TypeId} (h0 : s.l ≠ []) (hblk : s.blk = b) (hoff : s.off = o) (h2 : w.heap[b]? = some (.cells cur ce (0, 0))) : Holds Go.Proofs.encStr w b o s.l.toArray := by
  intro j hj
  have hj2 : j < s.l.length := by simpa using hj
  refine ⟨?_, ?_⟩
  · rcases ho.ok.cells with h | ⟨_, hc⟩
    · exact absurd h h0
    · have := hc j _ (enc_flatS hj2)
      rw [hblk, hoff] at this
      exact this
  · simp [World.frozen?, h2]
theorem OwnS.put {s : Sl Str} {F : List Nat} {w : World} (ho : OwnS w s F) {L : List Str} {k : Nat} (hL : L.length = s.l.length) (hk : k ≤ L.length) (hok : ∀ x ∈ L, WfS x) {b o : Nat} {cur : Array Value} {ce : TypeId} (h1 : s.a = some ⟨b, o, none⟩) (hF : F = [b]) (h2 : w.heap[b]? = some (.cells cur ce (0, 0))) (h3 : o + s.c ≤ cur.size) (n : Nat) (os : Array Obj) :
    OwnS (grow (putRow Go.Proofs.encStr (Go.Sort.ahead w n) b o L.toArray) os) (⟨L.take k, s.a, s.c⟩ : Sl Str) F ∧ Touch (fun j => j ∈ F) w (grow (putRow Go.Proofs.encStr (Go.Sort.ahead w n) b o L.toArray) os) := by
  subst hF
  have hb : b < w.heap.size := (Array.getElem?_eq_some_iff.1 h2).1
  have hheap : ∀ j, j < w.heap.size → (grow (putRow Go.Proofs.encStr (Go.Sort.ahead w n) b o L.toArray) os).heap[j]? = if b = j then some (.cells (putCells Go.Proofs.encStr o L.toArray cur) ce (0, 0)) else w.heap[j]? := by
    intro j hj
    show ((w.heap.modify b _) ++ os)[j]? = _
    rw [Array.getElem?_append_left (by simpa using hj), Array.getElem?_modify]
    split
    · rename_i hbk
      subst hbk
      rw [h2]; rfl
    · rfl
  have hle := ho.le
  have hkl : (L.take k).length = k := by rw [List.length_take]; omega
  refine ⟨⟨by show (L.take k).length ≤ s.c; rw [hkl]; omega, ho.max, [b], [], rfl, .row h1 (by rw [hheap b hb, if_pos rfl]) ?_ ?_, ?_⟩, ⟨rfl, rfl, rfl, ?_, fun j hj hne => ?_⟩⟩
  · show o + s.c * 1 ≤ (putCells Go.Proofs.encStr o _ cur).size
    simp only [putCells, Array.size_mapIdx]; omega
  · have hlen2 : (encs (L.take k)).length = k := by rw [encs_str, List.length_map, hkl]
    apply List.ext_getElem?
    intro j
    show (((putCells Go.Proofs.encStr o L.toArray cur).toList.drop o).take (encs (L.take k)).length)[j]? = (encs (L.take k))[j]?
    by_cases hj : j < k
    · have hjL : j < L.length := by omega
      have e1 : (encs (L.take k))[j]? = some (Go.Proofs.encStr (L.toArray[j]!)) := by
        rw [encs_str, List.getElem?_map, List.getElem?_take, if_pos hj]
        have := enc_flatS hjL
        rw [encs_str, List.getElem?_map] at this
        exact this
      rw [e1, List.getElem?_take, if_pos (by rw [hlen2]; exact hj), List.getElem?_drop, Array.getElem?_toList]
      have hlt : o + j < cur.size := by omega
      simp only [putCells, Array.getElem?_mapIdx, Array.getElem?_eq_getElem hlt, Option.map_some]
      rw [if_pos ⟨by omega, by simp; omega⟩, show o + j - o = j from by omega]
    · rw [List.getElem?_eq_none (by simp; omega), List.getElem?_eq_none (by omega)]
  · exact ownL_mk_flat fun x hx => hok x (List.mem_of_mem_take hx)
  · show w.heap.size ≤ ((w.heap.modify b _) ++ os).size
    simp
  · have hne2 : ¬ b = j := by rintro rfl; exact hne (by simp)
    rw [hheap j hj, if_neg hne2]
theorem sortS_calls {P : Program} {f : FuncId}
    (hS : ∀ (blk off cap : Nat) (ss : List (List UInt8)) (w : World), Holds Go.Proofs.encStr w blk off ss.toArray → blk < w.heap.size → ss.length < 4611686018427387904 → Calls P f #[.slice (some ⟨blk, off, none⟩) ss.length cap] w fun e w' => e = .returned (.tuple #[]) ∧ ∃ n os, w' = grow (putRow Go.Proofs.encStr (Go.Sort.ahead w n) blk off (ss.mergeSort fun x y => decide (x ≤ y)).toArray) os)
    (hN : ∀ (p : Option Go.Addr) (c : Nat) (w : World), Calls P f #[.slice p 0 c] w fun e w' => e = .returned (.tuple #[]) ∧ w' = w)
    (s : Sl Str) (F : List Nat) (w : World) (hF : Own.own w s F) (hn : F.Nodup) (hlen : s.l.length ≤ 4611686018427387903) :
    Calls P f [Sl.v s].toArray w (RetM w s F (.tuple #[]) (fun s' => s'.l = s.l.mergeSort leS)) := by
  have ho : OwnS w s F := hF
  by_cases h0 : s.l = []
  · have hv : [Sl.v s].toArray = #[.slice s.a 0 s.c] := by simp [Sl.v, h0]
    rw [hv]
    refine Calls.mono (hN s.a s.c w) ?_
    rintro e w' ⟨rfl, rfl⟩
    exact ⟨rfl, s, F, rfl, by show s.l = _; rw [h0]; simp, hF, hn, fun b hb => .inl hb, Touch.refl _ _⟩
  · have hpos : 0 < s.l.length := by cases h9 : s.l with | nil => exact absurd h9 h0 | cons x l => simp
    obtain ⟨b, o, cur, ce, F1, h1, hblk, hoff, hFe, h2, h3, h4, h5⟩ := ho.row hpos
    have hF1 : F1 = [] := ownL_flat h5
    subst hF1
    have hv : [Sl.v s].toArray = #[.slice (some ⟨b, o, none⟩) s.l.length s.c] := by simp [Sl.v, h1]
    rw [hv]
    have hb : b < w.heap.size := (Array.getElem?_eq_some_iff.1 h2).1
    refine Calls.mono (hS b o s.c s.l w (ho.holds h0 hblk hoff h2) hb (by omega)) ?_
    rintro e w' ⟨rfl, n, os, rfl⟩
    have hL : (s.l.mergeSort leS).length = s.l.length := List.length_mergeSort _
    have hok : ∀ x ∈ s.l.mergeSort leS, WfS x := fun x hx => ho.ok.elems x ((List.mergeSort_perm s.l leS).mem_iff.1 hx)
    have h9 := ho.put hL (Nat.le_refl _) hok h1 hFe h2 (by have h3' : o + s.c * 1 ≤ cur.size := h3; omega) n os
    rw [List.take_length] at h9
    refine ⟨rfl, ⟨s.l.mergeSort leS, s.a, s.c⟩, F, ?_, rfl, h9.1, hn, fun k hk => .inl hk, h9.2⟩
    show [Value.slice s.a (s.l.mergeSort leS).length s.c] = [Value.slice s.a s.l.length s.c]; rw [hL]
theorem compact_len (zs : List Str) : (Lib.compact zs).length ≤ zs.length := by
  unfold Lib.compact Lib.compactUpTo
  rw [List.length_map]
  refine Nat.le_trans (List.length_filter_le _ _) ?_
  rw [List.length_range]; exact Nat.le_refl _
theorem compact_mem1 {zs : List Str} {x : Str} (h : x ∈ Lib.compact zs) : x ∈ zs := by
  unfold Lib.compact Lib.compactUpTo at h
  obtain ⟨i, hi, rfl⟩ := List.mem_map.1 h
  have hi' : i < zs.length := List.mem_range.1 (List.mem_filter.1 hi).1
  rw [getElem!_pos zs.toArray i (by simpa using hi')]
  simp
theorem compactS_calls {P : Program} {f : FuncId}
    (hS : ∀ (blk off cap : Nat) (zs : List (List UInt8)) (w : World), Holds Go.Proofs.encStr w blk off zs.toArray → zs.length ≤ 9223372036854775807 → zs.length ≤ cap → Calls P f #[.slice (some ⟨blk, off, none⟩) zs.length cap] w fun e w' => e = .returned (.slice (some ⟨blk, off, none⟩) (Lib.compact zs).length cap) ∧ ∃ q, w' = putRow Go.Proofs.encStr (Go.Sort.ahead w q) blk off (Lib.compact zs ++ List.replicate (zs.length - (Lib.compact zs).length) []).toArray)
    (hN : ∀ (p : Option Go.Addr) (c : Nat) (w : World), Calls P f #[.slice p 0 c] w fun e w' => e = .returned (.slice p 0 c) ∧ w' = w)
    (s : Sl Str) (F : List Nat) (w : World) (hF : Own.own w s F) (hn : F.Nodup) :
    Calls P f [Sl.v s].toArray w (RetO w F (fun s' : Sl Str => s'.l = Lib.compact s.l)) := by
  have ho : OwnS w s F := hF
  by_cases h0 : s.l = []
  · have hv : [Sl.v s].toArray = #[.slice s.a 0 s.c] := by simp [Sl.v, h0]
    rw [hv]
    refine Calls.mono (hN s.a s.c w) ?_
    rintro e w' ⟨rfl, rfl⟩
    exact ⟨s, F, by simp [Sl.v, h0], by show s.l = _; rw [h0]; rfl, ho, hn, fun b hb => .inl hb, Touch.refl _ _⟩
  · have hpos : 0 < s.l.length := by cases h9 : s.l with | nil => exact absurd h9 h0 | cons x l => simp
    obtain ⟨b, o, cur, ce, F1, h1, hblk, hoff, hFe, h2, h3, h4, h5⟩ := ho.row hpos
    have hF1 : F1 = [] := ownL_flat h5
    subst hF1
    have hv : [Sl.v s].toArray = #[.slice (some ⟨b, o, none⟩) s.l.length s.c] := by simp [Sl.v, h1]
    rw [hv]
    have hle := ho.le; have hmax := ho.max
    refine Calls.mono (hS b o s.c s.l w (ho.holds h0 hblk hoff h2) (by unfold maxLen at hmax; omega) hle) ?_
    rintro e w' ⟨rfl, q, rfl⟩
    have hcl := compact_len s.l
    have hL : (Lib.compact s.l ++ List.replicate (s.l.length - (Lib.compact s.l).length) ([] : Str)).length = s.l.length := by simp; omega
    have hok : ∀ x ∈ Lib.compact s.l ++ List.replicate (s.l.length - (Lib.compact s.l).length) ([] : Str), WfS x := fun x hx => by
      rcases List.mem_append.1 hx with h | h
      · exact ho.ok.elems x (compact_mem1 h)
      · rw [(List.mem_replicate.1 h).2]; exact Nat.zero_le _
    have h9 := ho.put hL (k := (Lib.compact s.l).length) (by rw [hL]; exact hcl) hok h1 hFe h2 (by have h3' : o + s.c * 1 ≤ cur.size := h3; omega) q #[]
    rw [List.take_left, grow_empty] at h9
    exact ⟨⟨Lib.compact s.l, s.a, s.c⟩, F, by show _ = Ending.returned (Value.slice s.a _ s.c); rw [h1], rfl, h9.1, hn, fun k hk => .inl hk, h9.2⟩
end

end Go.Sw
