/- The symbolic walk: states, chunks of memory, and the rules for the operations that neither read nor write memory. General laws over any program; no conditions. -/
import Derived.WalkKit
namespace Go.Sw
open Go Go.RowKit

abbrev Str := List UInt8
abbrev S (s : Str) : Value := .string ⟨⟨s⟩⟩
abbrev I (n : Int) : Value := .int .i64 n
abbrev Bo (b : Bool) : Value := .bool b
abbrev U8 (b : UInt8) : Value := .int .u8 (b.toNat : Int)
abbrev bp (b o : Nat) : Value := .pointer (some ⟨b, o, none⟩)

abbrev Env := List (Nat × Value)

def get? : Env → Nat → Option Value
  | [], _ => none
  | p :: r, t => bif Nat.beq p.1 t then some p.2 else get? r t

def ev? (e : Env) : Operand → Option Value
  | .tmp t => get? e t
  | .const v => some v
  | .global g => some (.pointer (some ⟨g, 0, none⟩))
  | .func f => some (.func (.func f) #[] #[])

/-- What is known of the temporaries. -/
structure Ag (n : Nat) (e : Env) (a : Act) : Prop where
  defers : a.defers = []
  size : a.tmps.size = n
  get : ∀ t v, get? e t = some v → a.tmps.getD t undef = v

theorem Ag.ev {n : Nat} {e : Env} {a : Act} (h : Ag n e a) {x : Operand} {v : Value} (hx : ev? e x = some v) : a.eval x = v := by
  cases x with
  | tmp t => exact h.get t v hx
  | const c => simpa [ev?, Act.eval] using hx
  | global g => simpa [ev?, Act.eval] using hx
  | func f => simpa [ev?, Act.eval] using hx

theorem Ag.put {n : Nat} {e : Env} {a : Act} (h : Ag n e a) {t : Nat} (ht : Nat.blt t n = true) (v : Value) : Ag n ((t, v) :: e) (a.put (some t) v) := by
  have ht' : t < n := by simpa [Nat.blt_eq] using ht
  refine ⟨h.defers, by simp [Act.put, h.size], fun u x hu => ?_⟩
  by_cases e' : t = u
  · subst e'
    have hb : Nat.beq t t = true := Nat.beq_refl t
    simp only [get?, hb, cond_true, Option.some.injEq] at hu
    subst hu
    have : t < a.tmps.size := by rw [h.size]; exact ht'
    simp [Act.put, Array.getD_eq_getD_getElem?, this]
  · have hb : Nat.beq t u = false := by
      cases hh : Nat.beq t u with
      | false => rfl
      | true => exact absurd (Nat.eq_of_beq_eq_true hh) e'
    simp only [get?, hb, cond_false] at hu
    have := h.get u x hu
    simp only [Act.put, Array.getD_eq_getD_getElem?] at this ⊢
    rw [Array.getElem?_setIfInBounds_ne e']
    exact this

theorem Ag.weaken {n : Nat} {e e' : Env} {a : Act} (h : Ag n e a) (hw : ∀ t v, get? e' t = some v → get? e t = some v) : Ag n e' a :=
  ⟨h.defers, h.size, fun t v hv => h.get t v (hw t v hv)⟩

/-- Every entry of the first list is found in the second: decided entry by entry. -/
def Sub : Env → Env → Prop
  | [], _ => True
  | p :: r, e => get? e p.1 = some p.2 ∧ Sub r e

theorem Sub.get {e' e : Env} (h : Sub e' e) : ∀ t v, get? e' t = some v → get? e t = some v := by
  induction e' with
  | nil => intro t v hv; simp [get?] at hv
  | cons p r ih =>
    intro t v hv
    simp only [get?] at hv
    cases hb : Nat.beq p.1 t with
    | true =>
      simp only [hb, cond_true, Option.some.injEq] at hv
      have := Nat.eq_of_beq_eq_true hb
      subst this; subst hv
      exact h.1
    | false =>
      simp only [hb, cond_false] at hv
      exact ih h.2 t v hv

theorem Ag.sub {n : Nat} {e e' : Env} {a : Act} (h : Ag n e a) (hs : Sub e' e) : Ag n e' a := h.weaken hs.get

/-- The rest of a list of operations, from every frame that the environment describes. -/
def WL (P : Program) (n : Nat) (ops : Array Oper) (Q : Exit → Act → World → Prop) (l : List Oper) (e : Env) (w : World) : Prop :=
  ∀ a, Ag n e a → wpList P ops Q l a w

def WC (P : Program) (n : Nat) (Q : Exit → Act → World → Prop) (c : Code) (e : Env) (w : World) : Prop :=
  ∀ a, Ag n e a → c.wp P Q a w

/-- What holds behind a piece of code at one way out. -/
def At (n : Nat) (Q : Exit → Act → World → Prop) (x : Exit) (e : Env) (w : World) : Prop := ∀ a, Ag n e a → Q x a w

section code
variable {P : Program} {n : Nat} {Q : Exit → Act → World → Prop} {e : Env} {w : World}

theorem WC.sub {c : Code} {e' : Env} (h : WC P n Q c e' w) (hs : Sub e' e) : WC P n Q c e w := fun a ha => h a (ha.sub hs)
theorem WL.sub {ops : Array Oper} {l : List Oper} {e' : Env} (h : WL P n ops Q l e' w) (hs : Sub e' e) : WL P n ops Q l e w := fun a ha => h a (ha.sub hs)

theorem WC.region {id : Nat} {l : List Oper} (h : WL P n l.toArray Q l e w) : WC P n Q (.region id l.toArray false) e w :=
  fun a ha => wp_region_lit (h a ha)

/-- A region and what follows it. -/
theorem WC.seq {id : Nat} {l : List Oper} {y : Code} (h : WL P n l.toArray (Exit.then (fun a w => y.wp P Q a w) Q) l e w) : WC P n Q (.seq (.region id l.toArray false) y) e w :=
  fun a ha => wp_seq (wp_region_lit (h a ha))

theorem WC.seq' {x y : Code} (h : WC P n (Exit.then (fun a w => y.wp P Q a w) Q) x e w) : WC P n Q (.seq x y) e w :=
  fun a ha => wp_seq (h a ha)

theorem WL.nil {ops : Array Oper} (h : At n Q .normal e w) : WL P n ops Q [] e w := fun a ha => wpList_nil (h a ha)

/-- The end of a region that is followed by code. -/
theorem WL.next {ops : Array Oper} {y : Code} (h : WC P n Q y e w) : WL P n ops (Exit.then (fun a w => y.wp P Q a w) Q) [] e w := fun a ha => wpList_nil (h a ha)

theorem WC.skip (h : At n Q .normal e w) : WC P n Q .skip e w := fun a ha => wp_skip (h a ha)
/-- skip, followed by code. -/
theorem WC.skipn {y : Code} (h : WC P n Q y e w) : WC P n (Exit.then (fun a w => y.wp P Q a w) Q) .skip e w := fun a ha => wp_skip (h a ha)
theorem WC.ret (h : At n Q .ret e w) : WC P n Q .ret e w := fun a ha => wp_ret (h a ha)
theorem WC.exit {id : Nat} (h : At n Q (.exit id) e w) : WC P n Q (.exit id) e w := fun a ha => wp_exit (h a ha)
theorem WC.block {id : Nat} {c : Code} (h : WC P n (Exit.inBlock id Q) c e w) : WC P n Q (.block id c) e w := fun a ha => wp_block (h a ha)

theorem WC.cond {c : Operand} {x y : Code} {t : Bool} (hc : ev? e c = some (.bool t)) (ht : t = true → WC P n Q x e w) (hf : t = false → WC P n Q y e w) : WC P n Q (.cond c x y) e w :=
  fun a ha => wp_cond_split (ha.ev hc) (fun h => ht h a ha) (fun h => hf h a ha)
theorem WC.condT {c : Operand} {x y : Code} (hc : ev? e c = some (.bool true)) (ht : WC P n Q x e w) : WC P n Q (.cond c x y) e w :=
  fun a ha => wp_cond_true (ha.ev hc) (ht a ha)
theorem WC.condF {c : Operand} {x y : Code} (hc : ev? e c = some (.bool false)) (hf : WC P n Q y e w) : WC P n Q (.cond c x y) e w :=
  fun a ha => wp_cond_false (ha.ev hc) (hf a ha)

theorem At.then_ {y : Code} (h : WC P n Q y e w) : At n (Exit.then (fun a w => y.wp P Q a w) Q) .normal e w := fun a ha => h a ha
theorem At.thenx {K : Act → World → Prop} {x : Exit} (hx : x ≠ .normal) (h : At n Q x e w) : At n (Exit.then K Q) x e w := fun a ha => by
  have := h a ha
  cases x <;> first | exact absurd rfl hx | exact this
theorem At.thenret {K : Act → World → Prop} (h : At n Q .ret e w) : At n (Exit.then K Q) .ret e w := h
theorem At.thenexit {K : Act → World → Prop} {id : Nat} (h : At n Q (.exit id) e w) : At n (Exit.then K Q) (.exit id) e w := h
theorem At.blockret {id : Nat} (h : At n Q .ret e w) : At n (Exit.inBlock id Q) .ret e w := h
theorem At.blocknormal {id : Nat} (h : At n Q .normal e w) : At n (Exit.inBlock id Q) .normal e w := h
theorem At.blockexit {id : Nat} (h : At n Q .normal e w) : At n (Exit.inBlock id Q) (.exit id) e w := fun a ha => by
  simp only [Exit.inBlock, if_true]; exact h a ha
theorem At.blockexit' {id id' : Nat} (hne : (id' == id) = false) (h : At n Q (.exit id') e w) : At n (Exit.inBlock id Q) (.exit id') e w := fun a ha => by
  have : ¬ id' = id := by simpa using hne
  simp only [Exit.inBlock, if_neg this]; exact h a ha

end code

/-- A loop: states numbered by any type, a measure that falls. -/
theorem wp_loop_ix {P : Program} {c : Code} {Q : Exit → Act → World → Prop} {ι : Type} (μ : ι → Nat) (J : ι → Act → World → Prop) (k0 : ι) {a : Act} {w : World} (h0 : J k0 a w)
    (round : ∀ k a w, J k a w → c.wp P (Exit.then (fun a' w' => ∃ k', μ k' < μ k ∧ J k' a' w') Q) a w) : (Code.loop c).wp P Q a w := by
  intro b k cs
  have key : ∀ m i a w, μ i = m → J i a w →
      ∃ e a' w', Q e a' w' ∧ Arrives P (lone (b.at a (.code c :: .inLoop c :: k)) cs w) b k cs e a' w' := by
    intro m
    induction m using Nat.strongRecOn with
    | _ m ih =>
      intro i a w hn hI
      obtain ⟨e, a1, w1, hq, harr⟩ := round i a w hI b (.inLoop c :: k) cs
      cases e with
      | normal =>
        obtain ⟨i', hlt, hI1⟩ := hq
        obtain ⟨e2, a2, w2, hq2, harr2⟩ := ih (μ i') (hn ▸ hlt) i' a1 w1 rfl hI1
        exact ⟨e2, a2, w2, hq2, .of_steps (Steps.trans harr (.one step_inLoop)) harr2⟩
      | exit id => exact ⟨_, a1, w1, hq, .pass (x := .inLoop c) rfl (fun _ _ => .inl (by simp)) harr⟩
      | goto l => exact ⟨_, a1, w1, hq, .pass (x := .inLoop c) rfl (fun _ _ => .inl (by simp)) harr⟩
      | ret => exact ⟨_, a1, w1, hq, .pass (x := .inLoop c) rfl (fun _ _ => .inl (by simp)) harr⟩
      | panic ch => exact ⟨_, a1, w1, hq, .pass (x := .inLoop c) rfl (fun _ _ => .inl (by simp)) harr⟩
      | outgrown => exact ⟨_, a1, w1, hq, .pass (x := .inLoop c) rfl (fun _ _ => .inl (by simp)) harr⟩
  obtain ⟨e, a', w', hq, harr⟩ := key _ k0 a w rfl h0
  exact ⟨e, a', w', hq, .of_steps (.one step_loop) harr⟩

/-- The end of a round: the next state. -/
structure Nx {ι : Type} (n : Nat) (μ : ι → Nat) (st : ι → Env) (inv : ι → World → Prop) (k : ι) (a : Act) (w : World) : Prop where
  out : ∃ k', μ k' < μ k ∧ inv k' w ∧ Ag n (st k') a

theorem WC.loop {P : Program} {n : Nat} {Q : Exit → Act → World → Prop} {body : Code} {ι : Type} (μ : ι → Nat) (st : ι → Env) (inv : ι → World → Prop) (k0 : ι) {e : Env} {w : World}
    (he : Sub (st k0) e) (h0 : inv k0 w)
    (round : ∀ k w, inv k w → WC P n (Exit.then (Nx n μ st inv k) Q) body (st k) w) :
    WC P n Q (.loop body) e w := fun a ha =>
  wp_loop_ix μ (fun k a w => inv k w ∧ Ag n (st k) a) k0 ⟨h0, ha.sub he⟩ fun k a w ⟨hi, hk⟩ =>
    wp_mono (round k w hi a hk) fun x a' w' hq => by
      cases x <;> first | exact hq | (obtain ⟨⟨k', h1, h2, h3⟩⟩ := hq; exact ⟨k', h1, h2, h3⟩)

theorem At.round {n : Nat} {Q : Exit → Act → World → Prop} {ι : Type} {μ : ι → Nat} {st : ι → Env} {inv : ι → World → Prop} {k : ι} {e : Env} {w : World}
    (k' : ι) (hm : μ k' < μ k) (he : Sub (st k') e) (hi : inv k' w) : At n (Exit.then (Nx n μ st inv k) Q) .normal e w := fun _ ha => ⟨⟨k', hm, hi, ha.sub he⟩⟩

end Go.Sw
