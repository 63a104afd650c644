/- The symbolic walk: data that the running call owns (slices that it made, of any depth): making, setting an element, appending. General laws over any program; no conditions. -/
import Derived.Test.YthlbohgfikckfaaLibG
set_option linter.all false
namespace Go.Sw
open Go Go.RowKit
variable {M : Nat → Prop}

/-- Data whose blocks are the caller's own: F lists them. -/
class Own (α : Type) [Ph α] where
  own : World → α → List Nat → Prop
  ok : ∀ {w : World} {x : α} {F : List Nat}, own w x F → Ph.ok w x
  loc : ∀ {w w' : World} {x : α} {F : List Nat}, (∀ b ∈ F, w'.heap[b]? = w.heap[b]?) → own w x F → own w' x F
  lt : ∀ {w : World} {x : α} {F : List Nat}, own w x F → ∀ b ∈ F, b < w.heap.size

/-- Data without blocks. -/
class Flat (α : Type) [Ph α] : Prop where
  any : ∀ {w w' : World} {x : α}, Ph.ok w x → Ph.ok w' x

instance {α : Type} [Ph α] [Flat α] : Own α where
  own w x F := F = [] ∧ Ph.ok w x
  ok h := h.2
  loc := fun _ h => ⟨h.1, Flat.any h.2⟩
  lt := fun h b hb => by rw [h.1] at hb; cases hb

instance : Flat Int := ⟨fun h => h⟩
instance : Flat Bool := ⟨fun h => h⟩
instance : Flat UInt8 := ⟨fun h => h⟩
instance : Flat Str := ⟨fun h => h⟩

theorem own_flat {α : Type} [Ph α] [Flat α] {w : World} {x : α} (h : Ph.ok w x) : Own.own w x [] := ⟨rfl, h⟩

section
variable {α : Type} [Ph α] [Own α]

def ownL (w : World) : List α → List Nat → Prop
  | [], F => F = []
  | x :: l, F => ∃ F1 F2, Own.own w x F1 ∧ ownL w l F2 ∧ F = F1 ++ F2

theorem ownL_ok {w : World} : ∀ {l : List α} {F : List Nat}, ownL w l F → ∀ x ∈ l, Ph.ok w x
  | _ :: _, _, ⟨_, _, h1, h2, _⟩, x, hx => by
    rcases List.mem_cons.1 hx with rfl | hx
    · exact Own.ok h1
    · exact ownL_ok h2 x hx

theorem ownL_loc {w w' : World} : ∀ {l : List α} {F : List Nat}, (∀ b ∈ F, w'.heap[b]? = w.heap[b]?) → ownL w l F → ownL w' l F
  | [], _, _, h => h
  | _ :: _, _, hb, ⟨F1, F2, h1, h2, h3⟩ => by
    subst h3
    exact ⟨F1, F2, Own.loc (fun b hb' => hb b (List.mem_append_left _ hb')) h1, ownL_loc (fun b hb' => hb b (List.mem_append_right _ hb')) h2, rfl⟩

theorem ownL_lt {w : World} : ∀ {l : List α} {F : List Nat}, ownL w l F → ∀ b ∈ F, b < w.heap.size
  | [], _, h, b, hb => by rw [h] at hb; cases hb
  | _ :: _, _, ⟨F1, F2, h1, h2, h3⟩, b, hb => by
    subst h3
    rcases List.mem_append.1 hb with hb | hb
    · exact Own.lt h1 b hb
    · exact ownL_lt h2 b hb

theorem ownL_append {w : World} : ∀ {l m : List α} {F G : List Nat}, ownL w l F → ownL w m G → ownL w (l ++ m) (F ++ G)
  | [], _, _, _, h, h' => by rw [show _ = [] from h]; exact h'
  | _ :: _, _, _, _, ⟨F1, F2, h1, h2, h3⟩, h' => by
    subst h3
    exact ⟨F1, F2 ++ _, h1, ownL_append h2 h', by simp⟩

theorem ownL_one {w : World} {x : α} {F : List Nat} (h : Own.own w x F) : ownL w [x] F := ⟨F, [], h, rfl, by simp⟩

/-- One element taken out: what is left, and another put in its place. -/
theorem ownL_set {w : World} : ∀ {l : List α} {F : List Nat} {k : Nat} {y : α}, ownL w l F → l[k]? = some y →
    ∃ A B D, F = A ++ B ++ D ∧ Own.own w y B ∧ ∀ (x : α) (G : List Nat) (w' : World), (∀ b ∈ A ++ D, w'.heap[b]? = w.heap[b]?) → Own.own w' x G → ownL w' (l.set k x) (A ++ G ++ D)
  | z :: l, F, 0, y, ⟨F1, F2, h1, h2, h3⟩, hk => by
    simp at hk; subst hk; subst h3
    refine ⟨[], F1, F2, by simp, h1, fun x G w' hb hx => ⟨G, F2, hx, ownL_loc (fun b hb' => hb b (by simpa using hb')) h2, by simp⟩⟩
  | z :: l, F, k + 1, y, ⟨F1, F2, h1, h2, h3⟩, hk => by
    subst h3
    obtain ⟨A, B, D, rfl, h4, h5⟩ := ownL_set h2 (by simpa using hk)
    refine ⟨F1 ++ A, B, D, by simp, h4, fun x G w' hb hx => ⟨F1, A ++ G ++ D, Own.loc (fun b hb' => hb b (by simp [hb'])) h1, h5 x G w' (fun b hb' => hb b ?_) hx, by simp⟩⟩
    rcases List.mem_append.1 hb' with h | h
    · simp [h]
    · simp [h]

theorem ownL_flat {β : Type} [Ph β] [Flat β] {w : World} : ∀ {l : List β} {F : List Nat}, ownL w l F → F = []
  | [], _, h => h
  | _ :: _, _, ⟨F1, F2, h1, h2, h3⟩ => by rw [h3, h1.1, ownL_flat h2]; rfl

theorem ownL_mk_flat {β : Type} [Ph β] [Flat β] {w : World} : ∀ {l : List β}, (∀ x ∈ l, Ph.ok w x) → ownL w l []
  | [], _ => rfl
  | x :: l, h => ⟨[], [], ⟨rfl, h x (by simp)⟩, ownL_mk_flat (fun y hy => h y (by simp [hy])), rfl⟩

/-- The array of an owned slice. -/
inductive Arr (w : World) (a : Option Go.Addr) (c sz : Nat) (cs : List Value) : List Nat → Prop
  | nil (ha : a = none) (hc : c = 0) (hcs : cs = []) : Arr w a c sz cs []
  | row {b : Nat} {cur : Array Value} {e : TypeId} (ha : a = some ⟨b, 0, none⟩) (hb : w.heap[b]? = some (.cells cur e (0, 0))) (hs : cur.size = c * sz) (ht : cur.toList.take cs.length = cs) : Arr w a c sz cs [b]

theorem Arr.loc {w w' : World} {a : Option Go.Addr} {c sz : Nat} {cs : List Value} {F : List Nat} (h : Arr w a c sz cs F) (hb : ∀ b ∈ F, w'.heap[b]? = w.heap[b]?) : Arr w' a c sz cs F := by
  cases h with
  | nil h1 h2 h3 => exact .nil h1 h2 h3
  | row h1 h2 h3 h4 => exact .row h1 (by rw [hb _ (by simp)]; exact h2) h3 h4

structure OwnS (w : World) (s : Sl α) (F : List Nat) : Prop where
  le : s.l.length ≤ s.c
  max : s.c ≤ maxLen
  out : ∃ F0 F1, F = F0 ++ F1 ∧ Arr w s.a s.c (Ph.sz α) (encs s.l) F0 ∧ ownL w s.l F1

theorem OwnS.ok {w : World} {s : Sl α} {F : List Nat} (h : OwnS w s F) : Sl.Ok w s := by
  obtain ⟨F0, F1, _, h2, h3⟩ := h.out
  refine ⟨h.le, h.max, ?_, ownL_ok h3⟩
  cases h2 with
  | nil h1 h2 h3 =>
    left
    have := encs_length s.l
    rw [h3] at this
    have hp : 0 < Ph.sz α := Ph.pos
    have : s.l.length = 0 := by
      rcases Nat.eq_zero_or_pos s.l.length with h | h
      · exact h
      · have := Nat.mul_pos h hp; simp at *; omega
    exact List.eq_nil_of_length_eq_zero this
  | @row b cur e h1 h2 h3 h4 =>
    right
    refine ⟨by rw [h1]; simp [Sl.blk, Sl.off, h1], fun j v hj => ?_⟩
    have hblk : s.blk = b := by simp [Sl.blk, h1]
    have hoff : s.off = 0 := by simp [Sl.off, h1]
    rw [hblk, hoff, Nat.zero_add, cell_of_row w b j cur e (0, 0) h2]
    rw [← h4, List.getElem?_take] at hj
    split at hj
    · simpa using hj
    · cases hj

instance : Own (Sl α) where
  own := OwnS
  ok := OwnS.ok
  loc := fun hb h => ⟨h.le, h.max, by
    obtain ⟨F0, F1, h1, h2, h3⟩ := h.out
    subst h1
    exact ⟨F0, F1, rfl, h2.loc (fun b hb' => hb b (List.mem_append_left _ hb')), ownL_loc (fun b hb' => hb b (List.mem_append_right _ hb')) h3⟩⟩
  lt := fun h b hb => by
    obtain ⟨F0, F1, h1, h2, h3⟩ := h.out
    subst h1
    rcases List.mem_append.1 hb with hb | hb
    · cases h2 with
      | nil => cases hb
      | row _ h2 _ _ => simp at hb; subst hb; exact (Array.getElem?_eq_some_iff.1 h2).1
    · exact ownL_lt h3 b hb

/-- A chunk of owned data. -/
def ow (x : α) (F : List Nat) : Chunk := ⟨fun k => k ∈ F, fun w => Own.own w x F ∧ F.Nodup, fun _ _ h hp => ⟨Own.loc h hp.1, hp.2⟩⟩

theorem Sat.okow {w0 w : World} {C : List Chunk} {x : α} {F : List Nat} (hs : Sat M w0 w C) (hm : ow x F ∈ C) : Ph.ok w x := Own.ok (hs.all _ hm).1.1

/-- Owned data handed over: new since W. -/
structure Fresh (W : World) (x : α) (w : World) : Prop where
  out : ∃ F, Own.own w x F ∧ F.Nodup ∧ ∀ b ∈ F, W.heap.size ≤ b ∧ b < w.heap.size

theorem Fresh.sat {w0 w w' : World} {C : List Chunk} {x : α} (h : Fresh w x w') (hs : Sat M w0 w C) (hb : Below w.heap.size w w') : ∃ F, Sat M w0 w' (ow x F :: C) := by
  obtain ⟨F, h1, h2, h3⟩ := h.out
  exact ⟨F, hs.add hb ⟨h1, h2⟩ h3⟩

theorem Sat.fresh {w0 w : World} {C : List Chunk} {x : α} {F : List Nat} (hs : Sat N0 w0 w C) (hm : ow x F ∈ C) : Fresh w0 x w := by
  obtain ⟨⟨h1, h2⟩, h3⟩ := hs.all _ hm
  exact ⟨F, h1, h2, fun b hb => ⟨(h3 b hb).1.resolve_right (fun h => h), (h3 b hb).2⟩⟩

theorem Fresh.flat {β : Type} [Ph β] [Flat β] {W w : World} {x : β} (h : Ph.ok w x) : Fresh W x w := ⟨[], own_flat h, .nil, by simp⟩

/-- Chunks chosen out of a list, in another order. -/
inductive Ext (c : Chunk) : List Chunk → List Chunk → Prop
  | here {C : List Chunk} : Ext c (c :: C) C
  | there {d : Chunk} {C C' : List Chunk} (h : Ext c C C') : Ext c (d :: C) (d :: C')
inductive Sel : List Chunk → List Chunk → List Chunk → Prop
  | nil {C : List Chunk} : Sel [] C C
  | cons {c : Chunk} {D C C1 C2 : List Chunk} (h : Ext c C C1) (h' : Sel D C1 C2) : Sel (c :: D) C C2

theorem Sat.ext_ {w0 w : World} {c : Chunk} {C C' : List Chunk} (h : Ext c C C') (hs : Sat M w0 w C) : Sat M w0 w (c :: C') := by
  have key : (∀ d, d ∈ C ↔ d = c ∨ d ∈ C') ∧ (C.Pairwise (fun c d => ∀ b, c.S b → ¬ d.S b) → (c :: C').Pairwise (fun c d => ∀ b, c.S b → ¬ d.S b)) := by
    clear hs
    induction h with
    | here => exact ⟨fun d => by simp, fun h => h⟩
    | @there d C C' _ ih =>
      obtain ⟨i1, i2⟩ := ih
      refine ⟨fun x => by simp only [List.mem_cons, i1]; constructor <;> (rintro (h | h | h) <;> simp [h]), fun hp => ?_⟩
      obtain ⟨h1, h2⟩ := List.pairwise_cons.1 hp
      obtain ⟨h3, h4⟩ := List.pairwise_cons.1 (i2 h2)
      refine .cons (fun x hx => ?_) (.cons (fun x hx => h1 x ((i1 x).2 (.inr hx))) h4)
      rcases List.mem_cons.1 hx with rfl | hx
      · exact fun b hb hd => h1 c ((i1 c).2 (.inl rfl)) b hd hb
      · exact h3 x hx
  exact ⟨hs.tch, fun d hd => hs.all d ((key.1 d).2 (by simpa using hd)), key.2 hs.sep⟩

theorem Sat.sel {w0 w : World} {D C C' : List Chunk} (h : Sel D C C') (hs : Sat M w0 w C) : Sat M w0 w (D ++ C') := by
  have : ∀ (D C C' E : List Chunk), Sel D C C' → Sat M w0 w (E ++ C) → Sat M w0 w (E ++ D ++ C') := by
    intro D C C' E h
    induction h generalizing E with
    | nil => intro hs; simpa using hs
    | @cons c D C C1 C2 hx _ ih =>
      intro hs
      have h1 : ∀ (E : List Chunk), Ext c (E ++ C) (E ++ C1) := fun E => by
        induction E with
        | nil => exact hx
        | cons e E ih => exact .there ih
      have h2 := hs.ext_ (h1 E)
      -- bring c behind E
      have h3 : Sat M w0 w (E ++ (c :: C1)) := by
        have : ∀ (E : List Chunk) (hs : Sat M w0 w (c :: (E ++ C1))), Sat M w0 w (E ++ (c :: C1)) := by
          intro E hs
          refine ⟨hs.tch, fun d hd => hs.all d (by simp only [List.mem_append, List.mem_cons] at hd ⊢; rcases hd with h | h | h <;> simp [h]), ?_⟩
          obtain ⟨p1, p2⟩ := List.pairwise_cons.1 hs.sep
          rw [List.pairwise_append] at p2 ⊢
          obtain ⟨q1, q2, q3⟩ := p2
          refine ⟨q1, .cons (fun x hxE => p1 x (by simp [hxE])) q2, fun x hxE y hy => ?_⟩
          rcases List.mem_cons.1 hy with rfl | hy
          · exact fun b hb hc => p1 x (by simp [hxE]) b hc hb
          · exact q3 x hxE y hy
        exact this E h2
      have := ih (E ++ [c]) (by simpa using h3)
      simpa using this
  have := this D C C' [] h (by simpa using hs)
  simpa using this
/-- Two chunks taken as one. -/
theorem Sat.merge {w0 w : World} {c d : Chunk} {C : List Chunk} (hs : Sat M w0 w (c :: d :: C)) :
    Sat M w0 w (⟨fun b => c.S b ∨ d.S b, fun w => c.p w ∧ d.p w, fun w w' h hp => ⟨c.loc w w' (fun b hb => h b (.inl hb)) hp.1, d.loc w w' (fun b hb => h b (.inr hb)) hp.2⟩⟩ :: C) := by
  obtain ⟨p1, p2⟩ := List.pairwise_cons.1 hs.sep
  obtain ⟨p3, p4⟩ := List.pairwise_cons.1 p2
  have hc := hs.all c (by simp)
  have hd := hs.all d (by simp)
  refine ⟨hs.tch, fun x hx => ?_, .cons (fun x hx b hb hxb => ?_) p4⟩
  · rcases List.mem_cons.1 hx with rfl | hx
    · exact ⟨⟨hc.1, hd.1⟩, fun b hb => hb.elim (hc.2 b) (hd.2 b)⟩
    · exact hs.all x (by simp [hx])
  · rcases hb with hb | hb
    · exact p1 x (by simp [hx]) b hb hxb
    · exact p3 x hx b hb hxb

/-- A chunk said otherwise. -/
theorem Sat.conv {w0 w : World} {c c' : Chunk} {C : List Chunk} (hs : Sat M w0 w (c :: C)) (hp : c.p w → c'.p w) (hS : ∀ b, c'.S b → c.S b) : Sat M w0 w (c' :: C) := by
  obtain ⟨p1, p2⟩ := List.pairwise_cons.1 hs.sep
  have hc := hs.all c (by simp)
  refine ⟨hs.tch, fun x hx => ?_, .cons (fun x hx b hb hxb => p1 x hx b (hS b hb) hxb) p2⟩
  rcases List.mem_cons.1 hx with rfl | hx
  · exact ⟨hp hc.1, fun b hb => hc.2 b (hS b hb)⟩
  · exact hs.all x (by simp [hx])

/-- A chunk without blocks. -/
theorem Sat.put {w0 w : World} {c : Chunk} {C : List Chunk} (hs : Sat M w0 w C) (hp : c.p w) (hS : ∀ b, ¬ c.S b) : Sat M w0 w (c :: C) :=
  ⟨hs.tch, fun x hx => by
    rcases List.mem_cons.1 hx with rfl | hx
    · exact ⟨hp, fun b hb => absurd hb (hS b)⟩
    · exact hs.all x hx, .cons (fun _ _ b hb => absurd hb (hS b)) hs.sep⟩

theorem Sat.flat {β : Type} [Ph β] [Flat β] {w0 w : World} {C : List Chunk} {x : β} (hs : Sat M w0 w C) (h : Ph.ok w x) : Sat M w0 w (ow x [] :: C) := hs.put ⟨own_flat h, .nil⟩ (fun _ h => by cases h)

theorem Sat.nilsl {w0 w : World} {C : List Chunk} (hs : Sat M w0 w C) : Sat M w0 w (ow (⟨[], none, 0⟩ : Sl α) [] :: C) :=
  hs.put ⟨⟨by simp, by simp, [], [], rfl, .nil rfl rfl rfl, rfl⟩, .nil⟩ (fun _ h => by cases h)

theorem encs_set {β : Type} [Ph β] : ∀ (l : List β) (k : Nat) (x : β), k < l.length → encs (l.set k x) = (encs l).take (k * Ph.sz β) ++ Ph.enc x ++ (encs l).drop (k * Ph.sz β + Ph.sz β)
  | [], _, _, h => absurd h (Nat.not_lt_zero _)
  | y :: l, 0, x, _ => by
    simp only [List.set_cons_zero, encs_cons, Nat.zero_mul, List.take_zero, List.nil_append, Nat.zero_add]
    rw [List.drop_append_of_le_length (by rw [Ph.len]; exact Nat.le_refl _), List.drop_of_length_le (by rw [Ph.len]; exact Nat.le_refl _), List.nil_append]
  | y :: l, k + 1, x, h => by
    have ih := encs_set l k x (by simpa using h)
    simp only [List.set_cons_succ, encs_cons, ih]
    have e1 : (k + 1) * Ph.sz β = (Ph.enc y).length + k * Ph.sz β := by rw [Ph.len, Nat.add_mul]; omega
    rw [e1, Nat.add_assoc, List.take_length_add_append, List.drop_length_add_append]
    simp [List.append_assoc]

/-- What is laid over the place of element k. -/
def lay (cur : List Value) (o : Nat) (vs : List Value) : List Value := cur.take o ++ vs ++ cur.drop (o + vs.length)

theorem encs_lay {l : List α} {cur : List Value} {k : Nat} {x : α} (hk : k < l.length) (ht : cur.take (encs l).length = encs l) : (lay cur (k * Ph.sz α) (Ph.enc x)).take (encs (l.set k x)).length = encs (l.set k x) := by
  obtain ⟨R, rfl⟩ : ∃ R, cur = encs l ++ R := ⟨cur.drop (encs l).length, by have := List.take_append_drop (encs l).length cur; rw [ht] at this; exact this.symm⟩
  have hle : k * Ph.sz α + Ph.sz α ≤ (encs l).length := by
    rw [encs_length]; have := Nat.mul_le_mul_right (Ph.sz α) hk; rw [Nat.succ_mul] at this; exact this
  have : lay (encs l ++ R) (k * Ph.sz α) (Ph.enc x) = encs (l.set k x) ++ R := by
    rw [encs_set l k x hk]
    unfold lay
    rw [List.take_append_of_le_length (by omega), Ph.len, List.drop_append_of_le_length hle]
    simp [List.append_assoc]
  rw [this, List.take_left]

theorem OwnS.row {w : World} {s : Sl α} {F : List Nat} {k : Nat} (h : OwnS w s F) (hk : k < s.l.length) :
    ∃ b cur e F1, s.a = some ⟨b, 0, none⟩ ∧ s.blk = b ∧ s.off = 0 ∧ F = b :: F1 ∧ w.heap[b]? = some (.cells cur e (0, 0)) ∧ cur.size = s.c * Ph.sz α ∧ cur.toList.take (encs s.l).length = encs s.l ∧ ownL w s.l F1 := by
  obtain ⟨F0, F1, h1, h2, h3⟩ := h.out
  cases h2 with
  | nil h4 h5 h6 =>
    have := encs_length s.l
    rw [h6] at this
    have hp : 0 < Ph.sz α := Ph.pos
    have := Nat.mul_pos (Nat.lt_of_le_of_lt (Nat.zero_le _) hk) hp
    simp at *; omega
  | @row b cur e h4 h5 h6 h7 => exact ⟨b, cur, e, F1, h4, by simp [Sl.blk, h4], by simp [Sl.off, h4], by simpa using h1, h5, h6, h7, h3⟩

/-- One element exchanged. -/
theorem OwnS.set {w : World} {s : Sl α} {F G : List Nat} {k : Nat} {x : α} (h : OwnS w s F) (hF : F.Nodup) (hk : k < s.l.length) (hx : Own.own w x G) (hG : G.Nodup) (hFG : ∀ b ∈ F, b ∉ G) :
    ∃ b cur e, s.a = some ⟨b, 0, none⟩ ∧ b ∈ F ∧ w.heap[b]? = some (.cells cur e (0, 0)) ∧ k * Ph.sz α + Ph.sz α ≤ cur.size ∧
      ∃ F', OwnS (w.setRow b (lay cur.toList (k * Ph.sz α) (Ph.enc x)).toArray) (⟨s.l.set k x, s.a, s.c⟩ : Sl α) F' ∧ F'.Nodup ∧ ∀ y ∈ F', y ∈ F ∨ y ∈ G := by
  obtain ⟨b, cur, e, F1, h1, _, _, rfl, h2, h3, h4, h5⟩ := h.row hk
  have hle : k * Ph.sz α + Ph.sz α ≤ s.l.length * Ph.sz α := by have := Nat.mul_le_mul_right (Ph.sz α) hk; rwa [Nat.succ_mul] at this
  have hle2 : s.l.length * Ph.sz α ≤ s.c * Ph.sz α := Nat.mul_le_mul_right _ h.le
  refine ⟨b, cur, e, h1, by simp, h2, by omega, ?_⟩
  obtain ⟨y, hy⟩ : ∃ y, s.l[k]? = some y := ⟨_, List.getElem?_eq_getElem hk⟩
  obtain ⟨A, B, D, rfl, _, hset⟩ := ownL_set h5 hy
  obtain ⟨n1, n2⟩ := List.nodup_cons.1 hF
  have hbG : b ∉ G := hFG b (by simp)
  have hheap : ∀ y, y ≠ b → (w.setRow b (lay cur.toList (k * Ph.sz α) (Ph.enc x)).toArray).heap[y]? = w.heap[y]? := fun y hy => setRow_other w b y _ hy
  have hnd : (A ++ G ++ D).Nodup := by
    rw [List.append_assoc, List.nodup_append] at n2
    obtain ⟨m1, m2, m3⟩ := n2
    rw [List.nodup_append] at m2
    obtain ⟨m4, m5, m6⟩ := m2
    rw [List.append_assoc, List.nodup_append]
    refine ⟨m1, ?_, fun u hu v hv => ?_⟩
    · rw [List.nodup_append]
      refine ⟨hG, m5, fun u hu v hv => ?_⟩
      rintro rfl
      exact hFG u (by simp [hv]) hu
    · rintro rfl
      rcases List.mem_append.1 hv with hv | hv
      · exact hFG u (by simp [hu]) hv
      · exact m3 u hu u (by simp [hv]) rfl
  refine ⟨b :: (A ++ G ++ D), ⟨by simpa using h.le, h.max, [b], A ++ G ++ D, rfl, ?_, ?_⟩, ?_, ?_⟩
  · refine .row h1 (setRow_heap w b cur _ e (0, 0) h2) ?_ ?_
    · simp only [List.size_toArray]
      unfold lay
      simp only [List.length_append, List.length_take, List.length_drop, Ph.len, Array.length_toList]
      omega
    · exact encs_lay hk h4
  · exact hset x G _ (fun u hu => hheap u (by rintro rfl; exact n1 (by simp only [List.mem_append] at hu ⊢; rcases hu with hu | hu <;> simp [hu]))) (Own.loc (fun u hu => hheap u (by rintro rfl; exact hbG hu)) hx)
  · refine List.nodup_cons.2 ⟨?_, hnd⟩
    simp only [List.mem_append, not_or] at n1 ⊢
    exact ⟨⟨n1.1.1, hbG⟩, n1.2⟩
  · intro u hu
    simp only [List.mem_cons, List.mem_append] at hu ⊢
    rcases hu with hu | (hu | hu) | hu <;> simp [hu]

theorem encs_rep (z : α) (k : Nat) : ∀ j, j < k * Ph.sz α → (encs (List.replicate k z))[j]? = (Ph.enc z)[j % Ph.sz α]? := by
  induction k with
  | zero => intro j hj; simp at hj
  | succ k ih =>
    intro j hj
    rw [List.replicate_succ, encs_cons]
    by_cases h : j < Ph.sz α
    · rw [List.getElem?_append_left (by rw [Ph.len]; exact h), Nat.mod_eq_of_lt h]
    · rw [List.getElem?_append_right (by rw [Ph.len]; omega), Ph.len, ih _ (by rw [Nat.succ_mul] at hj; omega), ← Nat.mod_eq_sub_mod (by omega)]

theorem madeCells_encs {z : α} {zc : Array Value} (hz : zc = (Ph.enc z).toArray) (k : Nat) : (madeCells zc (k * Ph.sz α)).toList = encs (List.replicate k z) := by
  subst hz
  apply List.ext_getElem?
  intro j
  by_cases hj : j < k * Ph.sz α
  · rw [encs_rep z k j hj]
    have hm : j % Ph.sz α < (Ph.enc z).length := by rw [Ph.len]; exact Nat.mod_lt _ Ph.pos
    simp [madeCells, hj, Ph.len, List.getElem?_eq_getElem hm]
  · rw [List.getElem?_eq_none (by simp [madeCells]; omega), List.getElem?_eq_none (by rw [encs_length]; simp; omega)]

theorem ownL_rep {w : World} {z : α} (h : Own.own w z []) : ∀ k, ownL w (List.replicate k z) []
  | 0 => rfl
  | k + 1 => ⟨[], [], h, ownL_rep h k, rfl⟩

section rules
variable {P : Program} {n : Nat} {e : Env} {w w0 : World} {C : List Chunk} {ty : TypeId}

/-- The type of a slice, of its elements, and its zero element. -/
structure ElT (P : Program) (t el : TypeId) (z : α) (bytes : Nat) : Prop where
  und : P.underlying t = some (.slice el)
  inf : ∃ i zv, P.info? el = some i ∧ i.zero = some zv ∧ i.size = Ph.sz α ∧ i.bytes = bytes ∧ zv.cells = (Ph.enc z).toArray
  own : ∀ w : World, Own.own w z []

theorem ElT.of {t el : TypeId} {z : α} {bytes : Nat} {zv : Value} (h1 : P.underlying t = some (.slice el)) (h2 : (P.info? el).map (fun i => (i.zero, i.size, i.bytes)) = some (some zv, Ph.sz α, bytes)) (h3 : zv.cells = (Ph.enc z).toArray) (h4 : ∀ w : World, Own.own w z []) : ElT P t el z bytes := by
  obtain ⟨i, hi, hz⟩ := Option.map_eq_some_iff.1 h2
  simp only [Prod.mk.injEq] at hz
  exact ⟨h1, ⟨i, zv, hi, hz.1, hz.2.1, hz.2.2, h3⟩, h4⟩

/-- Own data stored into an own slice. -/
theorem Yr.storeE {T : TypeId} {x y : Operand} {b o k : Nat} {s : Sl α} {u : α} {F G : List Nat} {C' : List Chunk} (hs : Sat M w0 w C) (hsel : Sel [ow s F, ow u G] C C') (hx : ev? e x = some (bp b o)) (hb : b = s.blk) (ho : o = s.off + k * Ph.sz α) (hk : k < s.l.length)
    (hy : ∃ v, ev? e y = some v ∧ v.cells = (Ph.enc u).toArray) (hsz : (P.info? T).map (·.size) = some (Ph.sz α)) :
    Yr P n e w (.store T x y) ty (fun _ w' => ∃ F', Sat M w0 w' (ow (⟨s.l.set k u, s.a, s.c⟩ : Sl α) F' :: C')) := fun or a ha hop _ => by
  subst hb; subst ho
  obtain ⟨v, hy, hv⟩ := hy
  have hs2 := hs.sel hsel
  have hp1 := (hs2.all (ow s F) (by simp)).1
  have hp2 := (hs2.all (ow u G) (by simp)).1
  have hsep := (List.pairwise_cons.1 hs2.sep).1 (ow u G) (by simp)
  obtain ⟨b, cur, ce, h1, hbF, h2, h3, F', h4, h5, h6⟩ := OwnS.set hp1.1 hp1.2 hk hp2.1 hp2.2 hsep
  have hblk : s.blk = b := by simp [Sl.blk, h1]
  have hoff : s.off = 0 := by simp [Sl.off, h1]
  rw [hblk, hoff, Nat.zero_add] at hx
  have hone : ∀ v ∈ Ph.enc u, v.oneCell' = true := fun v hv => List.all_eq_true.1 (Ph.one u) v hv
  have hst := run_storeCells_at P b (k * Ph.sz α) ce (Ph.enc u) 0 cur w h2 (by rw [Ph.len]; omega) hone
  simp only [Nat.add_zero] at hst
  refine ⟨undef, w.setRow b (lay cur.toList (k * Ph.sz α) (Ph.enc u)).toArray, .inr ⟨?_, rfl⟩, F', ?_⟩
  · cases hi : P.info? T with
    | none => simp [hi] at hsz
    | some i =>
      simp only [hi, Option.map_some, Option.some.injEq] at hsz
      have hne : ¬ (v.cells.size ≠ i.size) := by rw [hv, hsz]; simp [Ph.len]
      have : (storeVar T ⟨b, k * Ph.sz α, none⟩ v).run P w = .ok () (w.setRow b (lay cur.toList (k * Ph.sz α) (Ph.enc u)).toArray) := by
        simp only [storeVar, sizeOf, typeInfo, Sem.run_bind, run_program, Result.andThen_ok, hi, Sem.run_pure]
        rw [if_neg hne]
        rw [hv]; exact hst
      simp only [execOp, hop, ha.ev hx, ha.ev hy, Instr.storeAt, Instr.sureAddr, Sem.run_bind, Sem.run_pure, Result.andThen_ok, this]
  · refine (hs2.merge).touch .here ((touch_setRow (b := b)).mono ?_) ⟨h4, h5⟩ ?_
    · rintro y rfl; exact .inl hbF
    · intro y hy; exact .inl (h6 y hy)

/-- A slice of zeros. -/
theorem Yr.makeSlice {t el : TypeId} {x : Operand} {kd : IntKind} {i : Int} {k bytes : Nat} {z : α} (hs : Sat M w0 w C) (hT : ElT P t el z bytes) (hx : ev? e x = some (.int kd i)) (hi : i = (k : Int)) (hby : bytes * k ≤ 281474976710656) (hk : k ≤ maxLen) :
    Yr P n e w (.makeSlice t x x) ty (fun v' w' => ∃ (s : Sl α) (F : List Nat), v' = s.v ∧ s.l = List.replicate k z ∧ Below w.heap.size w w' ∧ Sat M w0 w' (ow s F :: C)) := fun or a ha ho _ => by
  subst hi
  obtain ⟨inf, zv, hi, hz, hsz, hb, hzc⟩ := hT.inf
  subst hb
  obtain ⟨w', hrun, hrow, hg⟩ := run_make_full (P := P) w w.heap.size t el inf zv (Ph.sz α) hT.und hi hz hsz kd kd k hby hk (Nat.le_refl _)
  have hbel : Below w.heap.size w w' := ⟨hg.os, hg.tape, hg.output, hg.size, fun b hb => hg.block b hb (by simp)⟩
  refine ⟨.slice (some ⟨w.heap.size, 0, none⟩) k k, w', .inl ?_, ⟨List.replicate k z, some ⟨w.heap.size, 0, none⟩, k⟩, [w.heap.size], ?_, rfl, hbel, hs.add hbel ⟨?_, by simp⟩ ?_⟩
  · simp only [execOp, ho, ha.ev hx, hrun, Sem.run_bind, Result.andThen_ok]; rfl
  · simp [Sl.v]
  · obtain ⟨h1, h2⟩ := hrow
    rcases h2 with ⟨h2, _⟩ | ⟨g, cap, cur, h2, h3, h4, h5, h6, h7, h8⟩
    · cases h2
    · simp only [Value.slice.injEq, Option.some.injEq, Go.Addr.mk.injEq] at h2
      obtain ⟨⟨rfl, _⟩, _, rfl⟩ := h2
      refine ⟨by simp, hk, [w.heap.size], [], rfl, .row rfl h4 h7 ?_, ?_⟩
      · rw [encs_length]
        simp only [List.length_replicate]
        rw [h8]
        exact madeCells_encs hzc k
      · exact ownL_rep (hT.own w') k
  · intro b hb
    simp only [ow, List.mem_singleton] at hb
    subst hb
    refine ⟨Nat.le_refl _, ?_⟩
    have := hrow.lt w.heap.size (by simp [Value.ownBlock])
    exact this.2
end rules
end

section
variable {α : Type} [Ph α] [Own α]

/-- A chunk of listed blocks. -/
def fc (F : List Nat) (p : World → Prop) (hl : ∀ w w' : World, (∀ b ∈ F, w'.heap[b]? = w.heap[b]?) → p w → p w') : Chunk :=
  ⟨fun k => k ∈ F, fun w => p w ∧ F.Nodup, fun w w' h hp => ⟨hl w w' h hp.1, hp.2⟩⟩

theorem Sat.fc_join {w0 w : World} {C : List Chunk} {F G : List Nat} {p q : World → Prop} {hp : ∀ w w' : World, (∀ b ∈ F, w'.heap[b]? = w.heap[b]?) → p w → p w'} {hq : ∀ w w' : World, (∀ b ∈ G, w'.heap[b]? = w.heap[b]?) → q w → q w'}
    (hs : Sat M w0 w (fc F p hp :: fc G q hq :: C)) : Sat M w0 w (fc (F ++ G) (fun w => p w ∧ q w) (fun w w' h hh => ⟨hp w w' (fun b hb => h b (List.mem_append_left _ hb)) hh.1, hq w w' (fun b hb => h b (List.mem_append_right _ hb)) hh.2⟩) :: C) := by
  have h1 := (hs.all _ (List.mem_cons_self)).1
  have h2 := (hs.all (fc G q hq) (by simp)).1
  have hsep := (List.pairwise_cons.1 hs.sep).1 (fc G q hq) (by simp)
  refine hs.merge.conv (fun h => ⟨⟨h.1.1, h.2.1⟩, ?_⟩) (fun b hb => List.mem_append.1 hb)
  rw [List.nodup_append]
  exact ⟨h1.2, h2.2, fun x hx y hy hxy => hsep x hx (by subst hxy; exact hy)⟩

theorem Sat.fc_of {w0 w : World} {C : List Chunk} {x : α} {F : List Nat} (hs : Sat M w0 w (ow x F :: C)) : Sat M w0 w (fc F (fun w => Own.own w x F) (fun _ _ h hp => Own.loc h hp) :: C) := hs
theorem Sat.fc_to {w0 w : World} {C : List Chunk} {x : α} {F : List Nat} {p : World → Prop} {hl : ∀ w w' : World, (∀ b ∈ F, w'.heap[b]? = w.heap[b]?) → p w → p w'} (hs : Sat M w0 w (fc F p hl :: C)) (h : p w → Own.own w x F) : Sat M w0 w (ow x F :: C) :=
  hs.conv (fun hp => ⟨h hp.1, hp.2⟩) (fun _ hb => hb)

/-- A box of elements that were laid out by hand, as an own slice. -/
theorem Sat.boxow {w0 w : World} {C : List Chunk} {b n : Nat} {T : TypeId} {cs : List Value} {l : List α} (hs : Sat M w0 w (box b T cs :: C)) (hn : l.length = n) (hcs : cs = encs l) (hm : n ≤ maxLen) (hok : ownL w l []) : Sat M w0 w (ow (⟨l, some ⟨b, 0, none⟩, n⟩ : Sl α) [b] :: C) := by
  have hb := (hs.all _ (List.mem_cons_self)).1
  refine hs.conv (fun h => ⟨⟨by simp [hn], hm, [b], [], rfl, .row rfl h ?_ ?_, hok⟩, by simp⟩) (fun k hk => by simpa [ow, box] using hk)
  · rw [hcs]; simp [encs_length, hn]
  · rw [hcs]; simp
end

/-- Chunks dropped. -/
theorem Sat.only {w0 w : World} {D C C' : List Chunk} (h : Sel D C C') (hs : Sat M w0 w C) : Sat M w0 w D := by
  have := hs.sel h
  exact ⟨this.tch, fun c hc => this.all c (List.mem_append_left _ hc), (List.pairwise_append.1 this.sep).1⟩

structure NxC (M : Nat → Prop) {ι : Type} (n : Nat) (μ : ι → Nat) (vars : ι → Env) (Cs : ι → List Chunk) (e0 : Env) (J : ι → Prop) (w0 : World) (C : List Chunk) (k : ι) (a : Act) (w : World) : Prop where
  out : ∃ k', μ k' < μ k ∧ J k' ∧ Sat M w0 w (Cs k' ++ C) ∧ Ag n (vars k' ++ e0) a

/-- A loop whose own memory turns from round to round. -/
theorem WC.loopC {P : Program} {n : Nat} {Q : Exit → Act → World → Prop} {body : Code} {ι : Type} (μ : ι → Nat) (vars : ι → Env) (Cs : ι → List Chunk) (J : ι → Prop) (e0 : Env) (k0 : ι) {e : Env} {w w0 : World} {C : List Chunk}
    (hs : Sat M w0 w (Cs k0 ++ C)) (he : Sub e0 e) (hv : Sub (vars k0) e) (hJ : J k0)
    (round : ∀ k w, J k → Sat M w0 w (Cs k ++ C) → WC P n (Exit.then (NxC M n μ vars Cs e0 J w0 C k) Q) body (vars k ++ e0) w) :
    WC P n Q (.loop body) e w := fun a ha =>
  wp_loop_ix μ (fun k a w => (J k ∧ Sat M w0 w (Cs k ++ C)) ∧ Ag n (vars k ++ e0) a) k0 ⟨⟨hJ, hs⟩, ha.sub (Sub.append hv he)⟩ fun k a w ⟨⟨hi, hsk⟩, hk⟩ =>
    wp_mono (round k w hi hsk a hk) fun x a' w' hq => by
      cases x <;> first | exact hq | (obtain ⟨⟨k', h1, h2, h3, h4⟩⟩ := hq; exact ⟨k', h1, ⟨h2, h3⟩, h4⟩)

theorem At.roundC {n : Nat} {Q : Exit → Act → World → Prop} {ι : Type} {μ : ι → Nat} {vars : ι → Env} {Cs : ι → List Chunk} {e0 : Env} {J : ι → Prop} {w0 : World} {C : List Chunk} {k : ι} {e : Env} {w : World}
    (k' : ι) (hs : Sat M w0 w (Cs k' ++ C)) (he : Sub e0 e) (hv : Sub (vars k') e) (hm : μ k' < μ k) (hJ : J k') : At n (Exit.then (NxC M n μ vars Cs e0 J w0 C k) Q) .normal e w := fun _ ha => ⟨⟨k', hm, hJ, hs, ha.sub (Sub.append hv he)⟩⟩

theorem Sl.v_set {α : Type} {s : Sl α} {k : Nat} {x : α} : (⟨s.l.set k x, s.a, s.c⟩ : Sl α).v = s.v := by simp [Sl.v]

section
variable {P : Program} {n : Nat} {ops : Array Oper} {Q : Exit → Act → World → Prop} {e : Env} {w w0 : World} {C : List Chunk} {Cl : World → Prop}
variable {t : Nat} {ty : TypeId} {pos : String} {aft : Array Edge} {fuel : Nat} {listed : Array Bool}
theorem WA.call2 {i : Nat} {op : Op} {f : FuncId} {vs : List Value} {R : Value → World → Prop} (hs : Sat M w0 w C) (hcl : ∀ w', Sat M w0 w' C → Cl w') (hr : Region.ready .any ops listed = [i]) (hi : ops[i]? = some ⟨some t, op, ty, pos, aft, none⟩) (ht : Nat.blt t n = true) (hy : Yc P n e w op f vs)
    (hc : Calls P f vs.toArray w (Ret w R)) (k : ∀ v w', Below w.heap.size w w' → R v w' → Sat M w0 w' C → WA P n ops Q Cl fuel (listed.setIfInBounds i true) ((t, v) :: e) w') : WA P n ops Q Cl (fuel + 1) listed e w :=
  WA.callR hr hi ht hy hc fun _ w' ⟨v, he, hb, hR⟩ => ⟨v, he, hcl _ (hs.ext hb), k v w' hb hR (hs.ext hb)⟩

theorem WA.callp2 {i : Nat} {op : Op} {f : FuncId} {vs : List Value} {v : Value} (hs : Sat M w0 w C) (hcl : ∀ w', Sat M w0 w' C → Cl w') (hr : Region.ready .any ops listed = [i]) (hi : ops[i]? = some ⟨some t, op, ty, pos, aft, none⟩) (ht : Nat.blt t n = true) (hy : Yc P n e w op f vs)
    (hc : Calls P f vs.toArray w (RetP w v)) (k : ∀ w', Sat M w0 w' C → WA P n ops Q Cl fuel (listed.setIfInBounds i true) ((t, v) :: e) w') : WA P n ops Q Cl (fuel + 1) listed e w :=
  WA.callR hr hi ht hy hc fun _ w' ⟨he, hb⟩ => ⟨v, he, hcl _ (hs.ext hb), k w' (hs.ext hb)⟩
end

/-- One of several that may come up comes up. -/
def WI (P : Program) (n : Nat) (ops : Array Oper) (Q : Exit → Act → World → Prop) (Cl : World → Prop) (fuel : Nat) (listed : Array Bool) (i : Nat) (e : Env) (w : World) : Prop :=
  ∀ a, Ag n e a → wpOp P ops (NoPanic Q) i (fun a' w' => Cl w' ∧ wpAnyH P .any ops (NoPanic Q) Cl fuel (listed.setIfInBounds i true) a' w') a w

section
variable {P : Program} {n : Nat} {ops : Array Oper} {Q : Exit → Act → World → Prop} {e : Env} {w w0 : World} {C : List Chunk} {Cl : World → Prop}
variable {t : Nat} {ty : TypeId} {pos : String} {aft : Array Edge} {fuel : Nat} {listed : Array Bool}

theorem WA.two {i j : Nat} (hr : Region.ready .any ops listed = [i, j]) (h1 : WI P n ops Q Cl fuel listed i e w) (h2 : WI P n ops Q Cl fuel listed j e w) : WA P n ops Q Cl (fuel + 1) listed e w := fun a ha =>
  wpAnyH_all hr (by simp) fun k hk => by
    rcases List.mem_cons.1 hk with rfl | hk
    · exact h1 a ha
    · obtain rfl : k = j := by simpa using hk
      exact h2 a ha
theorem WA.three {i j k : Nat} (hr : Region.ready .any ops listed = [i, j, k]) (h1 : WI P n ops Q Cl fuel listed i e w) (h2 : WI P n ops Q Cl fuel listed j e w) (h3 : WI P n ops Q Cl fuel listed k e w) : WA P n ops Q Cl (fuel + 1) listed e w := fun a ha =>
  wpAnyH_all hr (by simp) fun l hl => by
    rcases List.mem_cons.1 hl with rfl | hl
    · exact h1 a ha
    · rcases List.mem_cons.1 hl with rfl | hl
      · exact h2 a ha
      · obtain rfl : l = k := by simpa using hl
        exact h3 a ha

theorem WI.callR {i : Nat} {op : Op} {f : FuncId} {vs : List Value} {E : Ending → World → Prop} (hi : ops[i]? = some ⟨some t, op, ty, pos, aft, none⟩) (ht : Nat.blt t n = true) (hy : Yc P n e w op f vs)
    (hc : Calls P f vs.toArray w E) (k : ∀ en w', E en w' → ∃ v, en = .returned v ∧ Cl w' ∧ WA P n ops Q Cl fuel (listed.setIfInBounds i true) ((t, v) :: e) w') : WI P n ops Q Cl fuel listed i e w := fun a ha => by
  unfold wpOp
  simp only [hi]
  rw [if_pos (by simp [Region.wanted])]
  refine .inl ?_
  unfold Oper.wp
  rw [hy ⟨some t, op, ty, pos, aft, none⟩ a ha rfl, Oper.upon_enter]
  refine hc.mono fun en w' hE => ?_
  obtain ⟨v, rfl, hcl, hk⟩ := k en w' hE
  exact ⟨hcl, hk _ (ha.put ht v)⟩
theorem WI.call2 {i : Nat} {op : Op} {f : FuncId} {vs : List Value} {R : Value → World → Prop} (hs : Sat M w0 w C) (hcl : ∀ w', Sat M w0 w' C → Cl w') (hi : ops[i]? = some ⟨some t, op, ty, pos, aft, none⟩) (ht : Nat.blt t n = true) (hy : Yc P n e w op f vs)
    (hc : Calls P f vs.toArray w (Ret w R)) (k : ∀ v w', Below w.heap.size w w' → R v w' → Sat M w0 w' C → WA P n ops Q Cl fuel (listed.setIfInBounds i true) ((t, v) :: e) w') : WI P n ops Q Cl fuel listed i e w :=
  WI.callR hi ht hy hc fun _ w' ⟨v, he, hb, hR⟩ => ⟨v, he, hcl _ (hs.ext hb), k v w' hb hR (hs.ext hb)⟩
theorem WI.callp2 {i : Nat} {op : Op} {f : FuncId} {vs : List Value} {v : Value} (hs : Sat M w0 w C) (hcl : ∀ w', Sat M w0 w' C → Cl w') (hi : ops[i]? = some ⟨some t, op, ty, pos, aft, none⟩) (ht : Nat.blt t n = true) (hy : Yc P n e w op f vs)
    (hc : Calls P f vs.toArray w (RetP w v)) (k : ∀ w', Sat M w0 w' C → WA P n ops Q Cl fuel (listed.setIfInBounds i true) ((t, v) :: e) w') : WI P n ops Q Cl fuel listed i e w :=
  WI.callR hi ht hy hc fun _ w' ⟨he, hb⟩ => ⟨v, he, hcl _ (hs.ext hb), k w' (hs.ext hb)⟩
theorem WI.r {i : Nat} {op : Op} {R : Value → World → Prop} (hi : ops[i]? = some ⟨some t, op, ty, pos, aft, none⟩) (ht : Nat.blt t n = true) (hy : Yr P n e w op ty R)
    (hCl : ∀ v w', R v w' → Cl w') (h : ∀ v w', R v w' → WA P n ops Q Cl fuel (listed.setIfInBounds i true) ((t, v) :: e) w') : WI P n ops Q Cl fuel listed i e w := fun a ha => by
  unfold wpOp
  simp only [hi]
  rw [if_pos (by simp [Region.wanted])]
  refine .inl ?_
  unfold Oper.wp
  obtain ⟨v, w', hrun, hR⟩ := hy ⟨some t, op, ty, pos, aft, none⟩ a ha rfl rfl
  rcases hrun with hrun | ⟨hrun, rfl⟩
  · rw [hrun, Oper.upon_value]; exact ⟨hCl _ _ hR, h v w' hR _ (ha.put ht v)⟩
  · rw [hrun, Oper.upon_skip]; exact ⟨hCl _ _ hR, h _ w' hR _ (ha.put ht _)⟩
end

end Go.Sw
