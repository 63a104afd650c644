/- The symbolic walk: open regions whose operations each make memory of their own, in whatever order: one walk in the order of the text. General laws over any program; no conditions. -/
import Derived.Test.YtdpifpainiiblaaGreatDoorLibM
set_option linter.all false
namespace Go.Sw
open Go Go.RowKit
variable {M : Nat → Prop}

theorem Sat.perm {w0 w : World} {C C' : List Chunk} (hs : Sat M w0 w C) (h : C.Perm C') : Sat M w0 w C' :=
  ⟨hs.tch, fun c hc => hs.all c (h.mem_iff.2 hc), (h.pairwise_iff (fun {c d} hcd b hb hd => hcd b hd hb)).1 hs.sep⟩

theorem Sat.dropl {w0 w : World} : ∀ {D C : List Chunk}, Sat M w0 w (D ++ C) → Sat M w0 w C
  | [], _, h => h
  | _ :: _, _, h => Sat.dropl h.tail

/-- An operation of an open region: its number, its slot, the slots that its outcome is told by, what it comes to. -/
structure FO where
  i : Nat
  t : Nat
  op : Op
  ty : TypeId
  pos : String
  aft : Array Edge
  loc : List Nat
  eat : List Nat
  G : Env → Value → List Chunk → Prop

def FO.o (u : FO) : Oper := ⟨some u.t, u.op, u.ty, u.pos, u.aft, none⟩

/-- What an operation comes to, from every frame that the environment describes. -/
def Gives (P : Program) (n : Nat) (e : Env) (w : World) (o : Oper) (R : Value → World → Prop) : Prop :=
  ∀ (a : Act) (K : Act → World → Prop) (Q : Exit → Act → World → Prop), Ag n e a → (∀ v w', R v w' → K (a.put o.dst v) w') → o.wp P a w K Q

section
variable {P : Program} {n : Nat} {e : Env} {w : World} {u : FO} {R : Value → World → Prop}
theorem Gives.r (hy : Yr P n e w u.op u.ty R) : Gives P n e w u.o R := fun a K Q ha hK => by
  unfold Oper.wp
  obtain ⟨v, w', hrun, hR⟩ := hy u.o a ha rfl rfl
  rcases hrun with hrun | ⟨hrun, rfl⟩
  · rw [hrun, Oper.upon_value]; exact hK _ _ hR
  · rw [hrun, Oper.upon_skip]; exact hK _ _ hR
theorem Gives.rr {R' : Value → World → Prop} (hy : Yr P n e w u.op u.ty R') (h : ∀ v w', R' v w' → R v w') : Gives P n e w u.o R := Gives.r fun o a ha h1 h2 => by
  obtain ⟨v, w', hr, hR⟩ := hy o a ha h1 h2
  exact ⟨v, w', hr, h v w' hR⟩
theorem Gives.p {v : Value} (hy : Yl P n e w u.op u.ty v) (hR : R v w) : Gives P n e w u.o R := Gives.r fun o a ha h1 h2 => ⟨v, w, .inl (hy o a ha h1 h2), hR⟩
theorem Gives.c {f : FuncId} {vs : List Value} {E : Ending → World → Prop} (hy : Yc P n e w u.op f vs) (hc : Calls P f vs.toArray w E) (k : ∀ en w', E en w' → ∃ v, en = .returned v ∧ R v w') : Gives P n e w u.o R := fun a K Q ha hK => by
  unfold Oper.wp
  rw [hy u.o a ha rfl, Oper.upon_enter]
  refine hc.mono fun en w' hE => ?_
  obtain ⟨v, rfl, hk⟩ := k en w' hE
  exact hK _ _ hk
end

/-- For all outcomes of these operations, one after the other; beside the chunks: those that are left when the ones p says have been taken over. -/
def AllOut (p : FO → Bool) : List FO → Env → List Chunk → List Chunk → (Env → List Chunk → List Chunk → Prop) → Prop
  | [], e, C, C', K => K e C C'
  | u :: L, e, C, C', K => ∀ v cs, u.G e v cs → AllOut p L ((u.t, v) :: e) (cs ++ C) (cond (p u) C' (cs ++ C')) K

section
variable (out : Nat → Value × List Chunk)
def envO : List FO → Env → Env
  | [], e => e
  | u :: L, e => envO L ((u.t, (out u.t).1) :: e)
def chO : List FO → List Chunk → List Chunk
  | [], C => C
  | u :: L, C => chO L ((out u.t).2 ++ C)
def legal : List FO → Env → Prop
  | [], _ => True
  | u :: L, e => u.G e (out u.t).1 (out u.t).2 ∧ legal L ((u.t, (out u.t).1) :: e)

def chP (p : FO → Bool) : List FO → List Chunk → List Chunk
  | [], C => C
  | u :: L, C => chP p L (cond (p u) C ((out u.t).2 ++ C))
theorem AllOut.use {p : FO → Bool} {K : Env → List Chunk → List Chunk → Prop} : ∀ (L : List FO) (e : Env) (C C' : List Chunk), AllOut p L e C C' K → legal out L e → K (envO out L e) (chO out L C) (chP out p L C')
  | [], _, _, _, h, _ => h
  | u :: L, e, C, C', h, hl => AllOut.use L _ _ _ (h _ _ hl.1) hl.2
theorem chP_perm (p : FO → Bool) : ∀ (L : List FO) (C : List Chunk), (chP out p L C).Perm ((L.filter (fun u => !p u)).flatMap (fun u => (out u.t).2) ++ C)
  | [], C => by simp [chP]
  | u :: L, C => by
    rw [chP]
    refine (chP_perm p L _).trans ?_
    cases hp : p u with
    | true => simp [hp]
    | false =>
      simp only [cond_false, List.filter_cons, hp, Bool.not_false, if_true, List.flatMap_cons]
      exact (List.perm_append_comm_assoc _ _ _).trans (by rw [List.append_assoc])

theorem get_envO (s : Nat) : ∀ (L : List FO) (e : Env), get? (envO out L e) s = if s ∈ L.map (·.t) then some (out s).1 else get? e s
  | [], e => by simp [envO]
  | u :: L, e => by
    rw [envO, get_envO s L]
    by_cases h : s ∈ L.map (·.t)
    · rw [if_pos h, if_pos (by simp at h ⊢; exact .inr h)]
    · rw [if_neg h]
      by_cases hs : u.t = s
      · subst hs
        rw [if_pos (by simp), get?, Nat.beq_refl]; rfl
      · have hb : Nat.beq u.t s = false := by
          cases hh : Nat.beq u.t s with
          | false => rfl
          | true => exact absurd (Nat.eq_of_beq_eq_true hh) hs
        rw [get?, hb, cond_false]
        by_cases hin : s ∈ (u :: L).map (·.t)
        · simp only [List.map_cons, List.mem_cons] at hin
          rcases hin with hin | hin
          · exact absurd hin.symm hs
          · exact absurd hin h
        · rw [if_neg hin]

theorem chO_perm : ∀ (L : List FO) (C : List Chunk), (chO out L C).Perm (L.flatMap (fun u => (out u.t).2) ++ C)
  | [], C => by simp [chO]
  | u :: L, C => by
    rw [chO]
    refine (chO_perm L _).trans ?_
    rw [List.flatMap_cons]
    exact (List.perm_append_comm_assoc _ _ _).trans (by rw [List.append_assoc])

def locOK : List Nat → List FO → Bool
  | _, [] => true
  | acc, u :: L => u.loc.all (acc.contains ·) && locOK (u.t :: acc) L

def Local (u : FO) : Prop := ∀ e e' v cs, (∀ s ∈ u.loc, get? e s = get? e' s) → u.G e v cs → u.G e' v cs

theorem legal_of {E : Env} : ∀ (L : List FO) (acc : List Nat) (e : Env), locOK acc L = true → (∀ u ∈ L, Local u) → (∀ s ∈ acc, get? e s = get? E s) → (∀ u ∈ L, get? E u.t = some (out u.t).1 ∧ u.G E (out u.t).1 (out u.t).2) → legal out L e
  | [], _, _, _, _, _, _ => trivial
  | u :: L, acc, e, hk, hloc, hacc, hall => by
    simp only [locOK, Bool.and_eq_true, List.all_eq_true, List.contains_iff_mem] at hk
    obtain ⟨h1, h2⟩ := hall u (by simp)
    refine ⟨hloc u (by simp) E e _ _ (fun s hs => (hacc s (hk.1 s hs)).symm) h2, legal_of L (u.t :: acc) _ hk.2 (fun x hx => hloc x (by simp [hx])) (fun s hs => ?_) (fun x hx => hall x (by simp [hx]))⟩
    by_cases he : u.t = s
    · subst he; rw [get?, Nat.beq_refl, h1]; rfl
    · have hb : Nat.beq u.t s = false := by
        cases hh : Nat.beq u.t s with
        | false => rfl
        | true => exact absurd (Nat.eq_of_beq_eq_true hh) he
      rw [get?, hb, cond_false]
      rcases List.mem_cons.1 hs with h | h
      · exact absurd h.symm he
      · exact hacc s h
end

/-- Operation j waits for operation u. -/
def waitsB (ops : Array Oper) : Nat → Nat → Nat → Bool
  | 0, _, _ => false
  | k + 1, j, u => match ops[j]? with
    | none => false
    | some o => o.after.any fun e => Region.binds .any e && (e.on == u || waitsB ops k e.on u)

/-- Each of these can come up once those ahead of it have. -/
def ahead (listed : Array Bool) : List Nat → List FO → Bool
  | _, [] => true
  | acc, u :: L => u.aft.all (fun e => !Region.binds .any e || listed.getD e.on false || acc.contains e.on) && ahead listed (u.i :: acc) L

def dagB (ops : Array Oper) (listed : Array Bool) (L : List FO) : Bool :=
  (List.range ops.size).all (fun j => listed.getD j true || L.any (fun u => u.i == j) || L.all fun u => waitsB ops ops.size j u.i) &&
  ((List.range ops.size).all (fun j => !listed.getD j false || (match ops[j]? with | some o => o.after.all fun e => !Region.binds .any e || listed.getD e.on false | none => true)) &&
  (ahead listed [] L && L.all fun u => !listed.getD u.i true))

/-- What is to be shown of one operation: that it comes to what is said of it, wherever those have come up whose outcomes it uses. -/
def St (P : Program) (n : Nat) (M : Nat → Prop) (w0 : World) (u : FO) (e : Env) (D D' : List Chunk) : Prop :=
  ∀ w R, Sat M w0 w (D ++ R) → Gives P n e w u.o (fun v w' => ∃ cs, u.G e v cs ∧ Sat M w0 w' (cs ++ (D' ++ R)))

structure Ob (P : Program) (n : Nat) (M : Nat → Prop) (w0 : World) (e0 : Env) (C0 : List Chunk) (ops : Array Oper) (L : List FO) (u : FO) (dl : List FO) : Prop where
  get : ops[u.i]? = some u.o
  slot : Nat.blt u.t n = true
  sub : ∀ d ∈ dl, d ∈ L ∧ (u.aft.any fun e => Region.binds .any e && e.on == d.i) = true
  nd : (dl.map (·.t)).Nodup
  lk : locOK [] dl = true
  use : u.loc.all ((dl.map (·.t)).contains ·) = true
  eats : u.eat.all ((dl.map (·.t)).contains ·) = true
  live : ∀ d ∈ dl, ∀ x ∈ L, x.eat.contains d.t = true → x.i = u.i ∨ waitsB ops ops.size x.i u.i = true
  loc : Local u
  st : AllOut (fun d => u.eat.contains d.t) dl e0 C0 C0 (St P n M w0 u)

theorem exists_rest {α : Type} : ∀ (D T : List α), D.Nodup → (∀ d ∈ D, d ∈ T) → ∃ R, T.Perm (D ++ R)
  | [], T, _, _ => ⟨T, .refl _⟩
  | d :: D, T, hn, h => by
    obtain ⟨s, t, rfl⟩ := List.append_of_mem (h d (by simp))
    obtain ⟨h1, h2⟩ := List.nodup_cons.1 hn
    obtain ⟨R, hR⟩ := exists_rest D (s ++ t) h2 fun x hx => by
      have := h x (by simp [hx])
      simp only [List.mem_append, List.mem_cons] at this ⊢
      rcases this with h | h | h
      · exact .inl h
      · subst h; exact absurd hx h1
      · exact .inr h
    exact ⟨R, List.perm_middle.trans (.cons d hR)⟩

theorem nodup_of_map {α β : Type} {f : α → β} : ∀ {l : List α}, (l.map f).Nodup → l.Nodup
  | [], _ => .nil
  | a :: l, h => by
    obtain ⟨h1, h2⟩ := List.nodup_cons.1 (by simpa using h : (f a :: l.map f).Nodup)
    exact List.nodup_cons.2 ⟨fun ha => h1 (List.mem_map_of_mem ha), nodup_of_map h2⟩

theorem inj_of_map {α β : Type} {f : α → β} : ∀ {l : List α}, (l.map f).Nodup → ∀ {a b : α}, a ∈ l → b ∈ l → f a = f b → a = b
  | [], _, _, _, h, _, _ => by cases h
  | x :: l, h, a, b, ha, hb, he => by
    obtain ⟨h1, h2⟩ := List.nodup_cons.1 (by simpa using h : (f x :: l.map f).Nodup)
    rcases List.mem_cons.1 ha with e1 | q1
    · rcases List.mem_cons.1 hb with e2 | q2
      · rw [e1, e2]
      · subst e1; exact absurd (by rw [he]; exact List.mem_map_of_mem q2) h1
    · rcases List.mem_cons.1 hb with e2 | q2
      · subst e2; exact absurd (by rw [← he]; exact List.mem_map_of_mem q1) h1
      · exact inj_of_map h2 q1 q2 he

def setAll : List FO → Array Bool → Array Bool
  | [], l => l
  | u :: L, l => setAll L (l.setIfInBounds u.i true)
theorem setAll_size : ∀ (L : List FO) (l : Array Bool), (setAll L l).size = l.size
  | [], _ => rfl
  | u :: L, l => by rw [setAll, setAll_size L]; simp
theorem getD_set' {listed : Array Bool} {i j : Nat} : (listed.setIfInBounds i true).getD j true = (listed.getD j true || (i == j)) := by
  by_cases h : i = j
  · subst h
    rcases Nat.lt_or_ge i listed.size with h' | h'
    · simp [Array.getD_eq_getD_getElem?, h']
    · simp [Array.getD_eq_getD_getElem?, Array.getElem?_eq_none h']
  · rw [getD_set_ne true h]
    have : (i == j) = false := by simpa using h
    rw [this, Bool.or_false]
theorem inb {l : Array Bool} {j : Nat} (h : j < l.size) : l.getD j true = l.getD j false := by simp [Array.getD_eq_getD_getElem?, h]
theorem inb_of {l : Array Bool} {j : Nat} (h : l.getD j false = true) : j < l.size := by
  rcases Nat.lt_or_ge j l.size with h' | h'
  · exact h'
  · simp [Array.getD_eq_getD_getElem?, Array.getElem?_eq_none h'] at h
theorem getD_setf {listed : Array Bool} {i j : Nat} (hj : j < listed.size) : (listed.setIfInBounds i true).getD j false = (listed.getD j false || (i == j)) := by
  have := getD_set' (listed := listed) (i := i) (j := j)
  rw [inb (by simpa using hj), inb hj] at this
  exact this
theorem setAll_getD (j : Nat) : ∀ (L : List FO) (l : Array Bool), j < l.size → (setAll L l).getD j false = (l.getD j false || L.any (fun u => u.i == j))
  | [], l, _ => by simp [setAll]
  | u :: L, l, h => by rw [setAll, setAll_getD j L _ (by simpa using h), getD_setf h, List.any_cons, Bool.or_assoc]

theorem bools_ext {a b : Array Bool} (h : a.size = b.size) (h' : ∀ j, j < a.size → a.getD j false = b.getD j false) : a = b := by
  apply Array.ext h
  intro i h1 h2
  have := h' i h1
  simpa [Array.getD_eq_getD_getElem?, h1, h2] using this

section
variable {P : Program} {n : Nat} {ops : Array Oper} {Q : Exit → Act → World → Prop} {e : Env} {w w0 : World} {C0 : List Chunk} {Cl : World → Prop}
variable {listed0 : Array Bool} {L : List FO} {fuel : Nat} {e0 : Env}

/-- The state behind the operations T. -/
structure Inv (n : Nat) (M : Nat → Prop) (w0 : World) (e0 : Env) (C0 : List Chunk) (listed0 : Array Bool) (T : List FO) (out : Nat → Value × List Chunk) (listed : Array Bool) (a : Act) (w : World) : Prop where
  size : listed.size = listed0.size
  get : ∀ j, j < listed0.size → listed.getD j false = (listed0.getD j false || T.any (fun u => u.i == j))
  leg : ∀ u ∈ T, u.G (envO out T e0) (out u.t).1 (out u.t).2
  locs : ∀ u ∈ T, ∀ s ∈ u.loc, s ∈ T.map (·.t)
  ag : Ag n (envO out T e0) a
  sat : Sat M w0 w ((T.filter (fun d => !T.any (·.eat.contains d.t))).flatMap (fun u => (out u.t).2) ++ C0)
  cl : ∀ u ∈ T, ∀ x ∈ u.aft, Region.binds .any x = true → listed.getD x.on false = true

theorem waits_listed {listed : Array Bool} {T : List FO} {out : Nat → Value × List Chunk} {a : Act} (hi : Inv n M w0 e0 C0 listed0 T out listed a w) (hT : ∀ u ∈ T, ops[u.i]? = some u.o)
    (hc : ∀ j o, listed0.getD j false = true → ops[j]? = some o → ∀ x ∈ o.after, Region.binds .any x = true → listed0.getD x.on false = true) :
    ∀ (k j u : Nat), waitsB ops k j u = true → (∀ o, ops[j]? = some o → ∀ x ∈ o.after, Region.binds .any x = true → listed.getD x.on false = true) → listed.getD u false = true
  | 0, _, _, h, _ => by simp [waitsB] at h
  | k + 1, j, u, h, hj => by
    unfold waitsB at h
    cases ho : ops[j]? with
    | none => simp [ho] at h
    | some o =>
      simp only [ho] at h
      obtain ⟨x, hx, hb⟩ := Array.any_eq_true'.1 h
      simp only [Bool.and_eq_true, Bool.or_eq_true, beq_iff_eq] at hb
      have hl := hj o ho x hx hb.1
      rcases hb.2 with hb2 | hb2
      · rw [← hb2]; exact hl
      · refine waits_listed hi hT hc k x.on u hb2 fun o' ho' y hy hby => ?_
        have hlt : x.on < listed0.size := by rw [← hi.size]; exact inb_of hl
        have hg := hi.get x.on hlt
        rw [hl] at hg
        rcases Bool.or_eq_true_iff.1 hg.symm with h0 | h0
        · have := hc x.on o' h0 ho' y hy hby
          rw [hi.get _ (inb_of this), this]; rfl
        · obtain ⟨d, hd, hdi⟩ := List.any_eq_true.1 h0
          have hdi' : d.i = x.on := by simpa using hdi
          have : o' = d.o := by
            have h1 := hT d hd
            rw [hdi', ho'] at h1
            simpa using h1
          subst this
          exact hi.cl d hd y hy hby

/-- The first of them that has not come up can come up now. -/
theorem first_ready {listed : Array Bool} {T : List FO} {out : Nat → Value × List Chunk} {a : Act} (hi : Inv n M w0 e0 C0 listed0 T out listed a w) :
    ∀ (L : List FO) (acc : List Nat), ahead listed0 acc L = true → (∀ s ∈ acc, listed.getD s false = true) → (∃ u ∈ L, u ∉ T) → (∀ u ∈ L, u.i < listed0.size) → ∃ u ∈ L, u ∉ T ∧ ∀ x ∈ u.aft, Region.binds .any x = true → listed.getD x.on false = true
  | [], _, _, _, ⟨_, h, _⟩, _ => by cases h
  | u :: L, acc, hk, hacc, hex, hlt => by
    simp only [ahead, Bool.and_eq_true, Array.all_eq_true_iff_forall_mem, Bool.or_eq_true, Bool.not_eq_true', List.contains_iff_mem] at hk
    by_cases hu : u ∈ T
    · obtain ⟨v, hv, hvT⟩ := hex
      have hv' : v ∈ L := by
        rcases List.mem_cons.1 hv with rfl | h
        · exact absurd hu hvT
        · exact h
      obtain ⟨x, hx, h1, h2⟩ := first_ready hi L (u.i :: acc) hk.2 (fun s hs => by
        rcases List.mem_cons.1 hs with rfl | hs
        · rw [hi.get _ (hlt u (by simp))]
          have : (T.any fun x => x.i == u.i) = true := List.any_eq_true.2 ⟨u, hu, by simp⟩
          rw [this, Bool.or_true]
        · exact hacc s hs) ⟨v, hv', hvT⟩ (fun x hx => hlt x (by simp [hx]))
      exact ⟨x, by simp [hx], h1, h2⟩
    · refine ⟨u, by simp, hu, fun x hx hb => ?_⟩
      rcases hk.1 x hx with (h | h) | h
      · rw [hb] at h; cases h
      · rw [hi.get _ (inb_of h), h]; rfl
      · exact hacc _ h

theorem WA.dag (L : List FO) (dls : FO → List FO) (e0 : Env) (hsz : Nat.beq ops.size listed0.size = true) (hB : dagB ops listed0 L = true) (hni : (L.map (·.i)).Nodup) (hnt : (L.map (·.t)).Nodup) (hsub : Sub e0 e) (hnew : ∀ u ∈ L, get? e0 u.t = none) (hlk : locOK [] L = true)
    (hcl : ∀ w', Sat M w0 w' C0 → Cl w') (hs : Sat M w0 w C0) (ob : ∀ u ∈ L, Ob P n M w0 e0 C0 ops L u (dls u))
    (k : AllOut (fun d => L.any (·.eat.contains d.t)) L e0 C0 C0 fun e' _ C' => ∀ w', Sat M w0 w' C' → WA P n ops Q Cl fuel (setAll L listed0) e' w') :
    WA P n ops Q Cl (L.length + fuel) listed0 e w := by
  have hsz' : ops.size = listed0.size := Nat.eq_of_beq_eq_true hsz
  simp only [dagB, Bool.and_eq_true, List.all_eq_true, List.mem_range] at hB
  obtain ⟨hB1, hB2, hB3, hB4⟩ := hB
  have hc : ∀ j o, listed0.getD j false = true → ops[j]? = some o → ∀ x ∈ o.after, Region.binds .any x = true → listed0.getD x.on false = true := fun j o hj ho x hx hb => by
    have hlt := inb_of hj
    have := hB2 j (by omega)
    rw [hj, ho] at this
    simp only [Bool.not_true, Bool.false_or, Array.all_eq_true_iff_forall_mem, Bool.or_eq_true, Bool.not_eq_true'] at this
    rcases this x hx with h | h
    · rw [hb] at h; cases h
    · exact h
  have hlt : ∀ u ∈ L, u.i < listed0.size := fun u hu => by
    have := (ob u hu).get
    rw [← hsz']; exact (Array.getElem?_eq_some_iff.1 this).1
  have hun : ∀ u ∈ L, listed0.getD u.i false = false := fun u hu => by
    have := hB4 u hu
    rw [inb (hlt u hu)] at this
    simpa using this
  -- the state's lookups
  have key : ∀ (m : Nat) (T Rm : List FO) (out : Nat → Value × List Chunk) (listed : Array Bool) (a : Act) (w : World), Rm.length = m → L.Perm (T ++ Rm) → Inv n M w0 e0 C0 listed0 T out listed a w → wpAnyH P .any ops (NoPanic Q) Cl (m + fuel) listed a w := by
    intro m
    induction m with
    | zero =>
      intro T Rm out listed a w hm hp hi
      obtain rfl := List.eq_nil_of_length_eq_zero hm
      rw [List.append_nil] at hp
      have hleg : legal out L e0 := legal_of out (E := envO out T e0) L [] e0 hlk (fun u hu => (ob u hu).loc) (by simp) (fun u hu => ⟨by rw [get_envO, if_pos (List.mem_map_of_mem (hp.mem_iff.1 hu))], hi.leg u (hp.mem_iff.1 hu)⟩)
      have hany : (fun d : FO => !L.any (·.eat.contains d.t)) = (fun d => !T.any (·.eat.contains d.t)) := by
        funext d
        congr 1
        rw [Bool.eq_iff_iff, List.any_eq_true, List.any_eq_true]
        constructor
        · rintro ⟨x, hx, h⟩; exact ⟨x, hp.mem_iff.1 hx, h⟩
        · rintro ⟨x, hx, h⟩; exact ⟨x, hp.mem_iff.2 hx, h⟩
      have hfin := AllOut.use out L e0 C0 C0 k hleg w (hi.sat.perm ((((hp.symm.filter _).flatMap_right _).append_right C0).trans (by rw [← hany]; exact (chP_perm out _ L C0).symm)))
      have hl : listed = setAll L listed0 := bools_ext (by rw [setAll_size, hi.size]) fun j hj => by
        have hj' : j < listed0.size := by rw [← hi.size]; exact hj
        rw [hi.get j hj', setAll_getD j L _ hj']
        congr 1
        rw [Bool.eq_iff_iff, List.any_eq_true, List.any_eq_true]
        constructor
        · rintro ⟨x, hx, h⟩; exact ⟨x, hp.mem_iff.2 hx, h⟩
        · rintro ⟨x, hx, h⟩; exact ⟨x, hp.mem_iff.1 hx, h⟩
      rw [hl, Nat.zero_add]
      refine hfin a (hi.ag.weaken fun t v hv => ?_)
      rw [get_envO] at hv ⊢
      by_cases ht : t ∈ L.map (·.t)
      · rw [if_pos ht] at hv; rw [if_pos ((hp.map _).mem_iff.1 ht)]; exact hv
      · rw [if_neg ht] at hv; rw [if_neg (fun h => ht ((hp.map _).mem_iff.2 h))]; exact hv
    | succ m ih =>
      intro T Rm out listed a w hm hp hi
      have hTL : ∀ u ∈ T, u ∈ L := fun u hu => hp.mem_iff.2 (by simp [hu])
      have hnd : (T ++ Rm).Nodup := hp.nodup_iff.1 (nodup_of_map hnt)
      obtain ⟨r, hr⟩ : ∃ r, r ∈ Rm := by
        cases Rm with
        | nil => cases hm
        | cons r _ => exact ⟨r, by simp⟩
      have hT : ∀ u ∈ T, ops[u.i]? = some u.o := fun u hu => (ob u (hTL u hu)).get
      -- what is listed of L has been carried out
      have hin : ∀ u ∈ L, listed.getD u.i false = true → u ∈ T := fun u hu h => by
        rw [hi.get _ (hlt u hu), hun u hu, Bool.false_or] at h
        obtain ⟨d, hd, he⟩ := List.any_eq_true.1 h
        have : d = u := inj_of_map hni (hTL d hd) hu (by simpa using he)
        exact this ▸ hd
      have hrT : r ∉ T := fun h => (List.nodup_append.1 hnd).2.2 r h r hr rfl
      have hrL : r ∈ L := hp.mem_iff.2 (by simp [hr])
      rw [show m + 1 + fuel = (m + fuel) + 1 from by omega]
      refine ⟨fun h0 => ?_, fun j hj => ?_⟩
      · obtain ⟨u, hu, huT, hall⟩ := first_ready hi L [] hB3 (by simp) ⟨r, hrL, hrT⟩ hlt
        have : u.i ∈ Region.ready .any ops listed := mem_ready.2 ⟨by
          cases hb : listed.getD u.i true with
          | false => rfl
          | true =>
            rw [inb (by rw [hi.size]; exact hlt u hu)] at hb
            exact absurd (hin u hu hb) huT, u.o, (ob u hu).get, hall⟩
        rw [h0] at this; cases this
      · obtain ⟨hjl, o, ho, hjall⟩ := mem_ready.1 hj
        have hjlt : j < ops.size := (Array.getElem?_eq_some_iff.1 ho).1
        have hjl' : listed.getD j false = false := by rw [← inb (by rw [hi.size]; omega)]; exact hjl
        obtain ⟨u, hu, rfl⟩ : ∃ u ∈ L, u.i = j := by
          have := hB1 j hjlt
          simp only [Bool.or_eq_true, List.any_eq_true, List.all_eq_true, beq_iff_eq] at this
          rcases this with (h | h) | h
          · have hg := hi.get j (by omega)
            have h0 : listed0.getD j false = true := by rw [← inb (by omega)]; exact h
            rw [h0, hjl'] at hg; simp at hg
          · exact h
          · have := waits_listed hi hT hc ops.size j r.i (h r hrL) (fun o' ho' x hx hb => by
              have : o' = o := by rw [ho] at ho'; simpa using ho'.symm
              subst this; exact hjall x hx hb)
            exact absurd (hin r hrL this) hrT
        have hob := ob u hu
        have huT : u ∉ T := fun h => by
          have h2 := hi.get u.i (hlt u hu)
          have : (T.any fun x => x.i == u.i) = true := List.any_eq_true.2 ⟨u, h, by simp⟩
          rw [this, Bool.or_true, hjl'] at h2; cases h2
        have hut : u.t ∉ T.map (·.t) := fun h => by
          obtain ⟨d, hd, he⟩ := List.mem_map.1 h
          have : d = u := inj_of_map hnt (hTL d hd) hu he
          exact huT (this ▸ hd)
        have ho' : o = u.o := by rw [hob.get] at ho; simpa using ho.symm
        subst ho'
        have hdT : ∀ d ∈ dls u, d ∈ T := fun d hd => by
          obtain ⟨h1, h2⟩ := hob.sub d hd
          obtain ⟨x, hx, hb⟩ := Array.any_eq_true'.1 h2
          simp only [Bool.and_eq_true, beq_iff_eq] at hb
          have := hjall x hx hb.1
          rw [hb.2] at this
          exact hin d h1 this
        have hleg : legal out (dls u) e0 := legal_of out (E := envO out T e0) (dls u) [] e0 hob.lk (fun d hd => (ob d (hob.sub d hd).1).loc) (by simp) (fun d hd => ⟨by rw [get_envO, if_pos (List.mem_map_of_mem (hdT d hd))], hi.leg d (hdT d hd)⟩)
        have hst := AllOut.use out (dls u) e0 C0 C0 hob.st hleg
        -- nobody that has come up has taken over what u uses
        have hlive : ∀ d ∈ dls u, (T.any (·.eat.contains d.t)) = false := fun d hd => by
          cases hb : T.any (·.eat.contains d.t) with
          | false => rfl
          | true =>
            obtain ⟨x, hx, hxe⟩ := List.any_eq_true.1 hb
            rcases hob.live d hd x (hTL x hx) hxe with h | h
            · exact absurd (inj_of_map hni (hTL x hx) hu h ▸ hx) huT
            · have := waits_listed hi hT hc ops.size x.i u.i h (fun o' ho' y hy hby => by
                have h1 := hT x hx
                rw [ho'] at h1
                obtain rfl : o' = x.o := by simpa using h1
                exact hi.cl x hx y hy hby)
              exact absurd (hin u hu this) huT
        obtain ⟨T', hT'⟩ := exists_rest (dls u) (T.filter (fun d => !T.any (·.eat.contains d.t))) (nodup_of_map hob.nd) (fun d hd => List.mem_filter.2 ⟨hdT d hd, by rw [hlive d hd]; rfl⟩)
        have hperm : ((T.filter (fun d => !T.any (·.eat.contains d.t))).flatMap (fun u => (out u.t).2) ++ C0).Perm (chO out (dls u) C0 ++ T'.flatMap (fun u => (out u.t).2)) := by
          refine (((hT'.flatMap_right _).append_right C0).trans ?_)
          rw [List.flatMap_append, List.append_assoc]
          refine (List.Perm.append_left _ List.perm_append_comm).trans ?_
          rw [← List.append_assoc]
          exact (chO_perm out (dls u) C0).symm.append_right _
        -- what u eats is among what it uses
        have heat : ∀ d ∈ T', u.eat.contains d.t = false := fun d hd => by
          cases hb : u.eat.contains d.t with
          | false => rfl
          | true =>
            have h1 := List.all_eq_true.1 hob.eats d.t (by simpa using hb)
            obtain ⟨y, hy, hyt⟩ := List.mem_map.1 (show d.t ∈ (dls u).map (·.t) from by simpa using h1)
            have hnT : ((dls u) ++ T').Nodup := hT'.nodup_iff.1 (((List.nodup_append.1 hnd).1).filter _)
            have hdT' : d ∈ T := (List.mem_filter.1 (hT'.mem_iff.2 (List.mem_append_right _ hd))).1
            have : y = d := inj_of_map hnt (hTL y (hdT y hy)) (hTL d hdT') hyt
            exact absurd this ((List.nodup_append.1 hnT).2.2 y hy d hd)
        unfold wpOp
        simp only [hob.get]
        rw [if_pos (by simp [Region.wanted, FO.o])]
        refine .inl (hst w _ (hi.sat.perm hperm) a _ _ (hi.ag.weaken fun t v hv => ?_) fun v w' ⟨cs, hG, hsat⟩ => ?_)
        · rw [get_envO] at hv ⊢
          by_cases ht : t ∈ (dls u).map (·.t)
          · rw [if_pos ht] at hv
            obtain ⟨d, hd, rfl⟩ := List.mem_map.1 ht
            rw [if_pos (List.mem_map_of_mem (hdT d hd))]; exact hv
          · rw [if_neg ht] at hv
            rw [if_neg fun h => ?_]
            · exact hv
            · obtain ⟨d, hd, rfl⟩ := List.mem_map.1 h
              rw [hnew d (hTL d hd)] at hv; cases hv
        · have hq : ((dls u ++ T').filter (fun d => !u.eat.contains d.t)) = (dls u).filter (fun d => !u.eat.contains d.t) ++ T' := by
            rw [List.filter_append]
            congr 1
            exact List.filter_eq_self.2 (fun d hd => by rw [heat d hd]; rfl)
          have hsat' : Sat M w0 w' (cs ++ (((T.filter (fun d => !T.any (·.eat.contains d.t))).filter (fun d => !u.eat.contains d.t)).flatMap (fun u => (out u.t).2) ++ C0)) := hsat.perm (List.Perm.append_left _ (by
            refine List.Perm.trans ((chP_perm out _ (dls u) C0).append_right _) ?_
            refine List.Perm.trans ?_ (((hT'.filter _).flatMap_right _).append_right C0).symm
            rw [hq, List.flatMap_append, List.append_assoc, List.append_assoc]
            exact List.Perm.append_left _ List.perm_append_comm))
          refine ⟨hcl _ (by rw [← List.append_assoc] at hsat'; exact hsat'.dropl), ?_⟩
          obtain ⟨s, t, rfl⟩ := List.append_of_mem (show u ∈ Rm from by
            have := hp.mem_iff.1 hu
            exact (List.mem_append.1 this).resolve_left huT)
          have hout : ∀ d ∈ T, (fun x => if x = u.t then (v, cs) else out x) d.t = out d.t := fun d hd => by
            have : d.t ≠ u.t := fun h => hut (h ▸ List.mem_map_of_mem hd)
            simp only [if_neg this]
          have hmapt : ∀ s ∈ T.map (·.t), s ≠ u.t := fun s hs h => hut (h ▸ hs)
          -- the new state's lookups
          have hge : ∀ s ∈ T.map (·.t), get? (envO (fun x => if x = u.t then (v, cs) else out x) (u :: T) e0) s = get? (envO out T e0) s := fun s hs => by
            rw [get_envO, get_envO, if_pos (by simp only [List.map_cons, List.mem_cons]; exact .inr hs), if_pos hs, if_neg (hmapt s hs)]
          refine ih (u :: T) (s ++ t) (fun x => if x = u.t then (v, cs) else out x) _ _ _ (by simp at hm ⊢; omega) (hp.trans ?_) ⟨by simpa using hi.size, fun j hj => ?_, fun d hd => ?_, fun d hd x hx => ?_, ?_, ?_, fun d hd x hx hb => ?_⟩
          · refine List.Perm.trans ?_ (List.perm_middle (l₁ := T))
            exact List.Perm.append_left _ List.perm_middle
          · rw [getD_setf (by rw [hi.size]; exact hj), hi.get j hj, List.any_cons, Bool.or_assoc, Bool.or_comm (u.i == j)]
          · rcases List.mem_cons.1 hd with rfl | hd
            · simp only [if_true]
              refine hob.loc _ _ _ _ (fun s hs => ?_) hG
              have hsd : s ∈ (dls d).map (·.t) := by
                have := List.all_eq_true.1 hob.use s hs
                simpa using this
              obtain ⟨y, hy, rfl⟩ := List.mem_map.1 hsd
              have hyT := List.mem_map_of_mem (f := (·.t)) (hdT y hy)
              rw [hge _ hyT, get_envO, get_envO, if_pos hsd, if_pos hyT]
            · have hne : d.t ≠ u.t := fun h => hut (h ▸ List.mem_map_of_mem hd)
              simp only [if_neg hne]
              exact (ob d (hTL d hd)).loc _ _ _ _ (fun s hs => (hge s (hi.locs d hd s hs)).symm) (hi.leg d hd)
          · rcases List.mem_cons.1 hd with rfl | hd
            · have := List.all_eq_true.1 hob.use x hx
              obtain ⟨y, hy, rfl⟩ := List.mem_map.1 (show x ∈ (dls d).map (·.t) from by simpa using this)
              exact List.mem_map_of_mem (List.mem_cons_of_mem _ (hdT y hy))
            · have := hi.locs d hd x hx
              simp only [List.map_cons, List.mem_cons]
              exact .inr this
          · have := hi.ag.put hob.slot v
            refine this.weaken fun t x hx => ?_
            by_cases ht : t = u.t
            · subst ht
              rw [get_envO, if_pos (by simp)] at hx
              simp only [if_true] at hx
              rw [get?, Nat.beq_refl]; exact hx
            · have hb : Nat.beq u.t t = false := by
                cases hh : Nat.beq u.t t with
                | false => rfl
                | true => exact absurd (Nat.eq_of_beq_eq_true hh).symm ht
              rw [get?, hb, cond_false]
              rw [get_envO] at hx ⊢
              by_cases h : t ∈ T.map (·.t)
              · rw [if_pos (by simp only [List.map_cons, List.mem_cons]; exact .inr h)] at hx
                simp only [if_neg ht] at hx
                rw [if_pos h]; exact hx
              · rw [if_neg (by simp only [List.map_cons, List.mem_cons, not_or]; exact ⟨ht, h⟩)] at hx
                rw [if_neg h]; exact hx
          · have hflat : ∀ (T : List FO), (∀ d ∈ T, d.t ≠ u.t) → T.flatMap (fun d => (if d.t = u.t then (v, cs) else out d.t).2) = T.flatMap (fun d => (out d.t).2) := by
              intro T
              induction T with
              | nil => intro _; rfl
              | cons d T ih =>
                intro h
                rw [List.flatMap_cons, List.flatMap_cons, ih (fun x hx => h x (by simp [hx])), if_neg (h d (by simp))]
            -- nobody eats u
            have hunot : ((u :: T).any (·.eat.contains u.t)) = false := by
              cases hb : (u :: T).any (·.eat.contains u.t) with
              | false => rfl
              | true =>
                obtain ⟨x, hx, hxe⟩ := List.any_eq_true.1 hb
                have hxL : x ∈ L := by
                  rcases List.mem_cons.1 hx with rfl | hx
                  · exact hu
                  · exact hTL x hx
                have h1 := List.all_eq_true.1 (ob x hxL).eats u.t (by simpa using hxe)
                obtain ⟨y, hy, hyt⟩ := List.mem_map.1 (show u.t ∈ (dls x).map (·.t) from by simpa using h1)
                have hyu : y = u := inj_of_map hnt ((ob x hxL).sub y hy).1 hu hyt
                obtain ⟨_, h3⟩ := (ob x hxL).sub y hy
                rw [hyu] at h3
                obtain ⟨z, hz, hzb⟩ := Array.any_eq_true'.1 h3
                simp only [Bool.and_eq_true, beq_iff_eq] at hzb
                rcases List.mem_cons.1 hx with rfl | hx
                · have := hjall z hz hzb.1
                  rw [hzb.2] at this
                  exact absurd (hin x hu this) huT
                · have := hi.cl x hx z hz hzb.1
                  rw [hzb.2] at this
                  exact absurd (hin u hu this) huT
            have hfil : (u :: T).filter (fun d => !(u :: T).any (·.eat.contains d.t)) = u :: (T.filter (fun d => !T.any (·.eat.contains d.t))).filter (fun d => !u.eat.contains d.t) := by
              rw [List.filter_cons, hunot]
              simp only [Bool.not_false, if_true]
              rw [List.filter_filter]
              congr 1
              apply List.filter_congr
              intro d _
              rw [List.any_cons, Bool.not_or]
            rw [hfil, List.flatMap_cons]
            simp only [if_true]
            rw [hflat _ (fun d hd h => hut (h ▸ List.mem_map_of_mem (List.mem_filter.1 (List.mem_filter.1 hd).1).1)), List.append_assoc]
            exact hsat'
          · have hj2 : ∀ y, listed.getD y false = true → (listed.setIfInBounds u.i true).getD y false = true := fun y hy => by
              rw [getD_setf (inb_of hy), hy]; rfl
            rcases List.mem_cons.1 hd with rfl | hd
            · exact hj2 _ (hjall x hx hb)
            · exact hj2 _ (hi.cl d hd x hx hb)
  intro a ha
  exact key L.length [] L (fun _ => (undef, [])) listed0 a w rfl (.refl _) ⟨rfl, by simp, by simp, by simp, ha.sub hsub, by simpa using hs, by simp⟩

/-! The same, by a short description: the operation, the places of those whose outcomes it uses, and which of these it takes over. -/
structure Sp where
  i : Nat
  t : Nat
  loc : List Nat
  G : Env → Value → List Chunk → Prop

abbrev Sd := Sp × List (Nat × Bool)

def pick (A : List Sp) (ks : List (Nat × Bool)) : List (Sp × Bool) := ks.filterMap fun k => (A[k.1]?).map (·, k.2)

@[reducible] def FO.of (ops : Array Oper) (s : Sp) (eat : List Nat) : FO :=
  { i := s.i, t := s.t, op := (ops.getD s.i default).op, ty := (ops.getD s.i default).type, pos := (ops.getD s.i default).pos, aft := (ops.getD s.i default).after, loc := s.loc, eat := eat, G := s.G }

def eatOf (A : List Sp) (ks : List (Nat × Bool)) : List Nat := ((pick A ks).filter (·.2)).map (·.1.t)
/-- The operations in full. -/
def fos (ops : Array Oper) (A : List Sp) (S : List Sd) : List FO := S.map fun x => FO.of ops x.1 (eatOf A x.2)

def AllS : List (Sp × Bool) → Env → List Chunk → List Chunk → (Env → List Chunk → List Chunk → Prop) → Prop
  | [], e, C, C', K => K e C C'
  | s :: L, e, C, C', K => ∀ v cs, s.1.G e v cs → AllS L ((s.1.t, v) :: e) (cs ++ C) (cond s.2 C' (cs ++ C')) K

theorem AllS.mono {K K' : Env → List Chunk → List Chunk → Prop} (h : ∀ e C C', K e C C' → K' e C C') : ∀ {L : List (Sp × Bool)} {e : Env} {C C' : List Chunk}, AllS L e C C' K → AllS L e C C' K'
  | [], _, _, _, hk => h _ _ _ hk
  | _ :: _, _, _, _, hk => fun v cs hG => AllS.mono h (hk v cs hG)
theorem AllS.of {p : FO → Bool} {K : Env → List Chunk → List Chunk → Prop} : ∀ {L : List (Sp × Bool)} {F : List FO} {e : Env} {C C' : List Chunk}, L.map (fun s => (s.1.t, s.1.G, s.2)) = F.map (fun u => (u.t, u.G, p u)) → AllS L e C C' K → AllOut p F e C C' K
  | [], [], _, _, _, _, h => h
  | [], _ :: _, _, _, _, he, _ => by simp at he
  | _ :: _, [], _, _, _, he, _ => by simp at he
  | s :: L, u :: F, e, C, C', he, h => fun v cs hG => by
    simp only [List.map_cons, List.cons.injEq, Prod.mk.injEq] at he
    obtain ⟨⟨h1, h2, h3⟩, h4⟩ := he
    have := AllS.of (p := p) h4 (h v cs (by rw [h2]; exact hG))
    rw [h1, h3] at this
    exact this

def nodupB : List Nat → Bool
  | [] => true
  | x :: l => !l.contains x && nodupB l
theorem nodupB_spec : ∀ {l : List Nat}, nodupB l = true → l.Nodup
  | [], _ => .nil
  | x :: l, h => by
    simp only [nodupB, Bool.and_eq_true, Bool.not_eq_true', List.contains_eq_mem, decide_eq_false_iff_not] at h
    exact List.nodup_cons.2 ⟨h.1, nodupB_spec h.2⟩

/-- What is closed in the description. -/
def spB (ops : Array Oper) (n : Nat) (A : List Sp) (S : List Sd) : Bool :=
  S.all fun x => (match ops[x.1.i]? with | some o => o.dst == some x.1.t && o.guard.isNone | none => false) && (Nat.blt x.1.t n &&
    (((pick A x.2).all fun d => (ops.getD x.1.i default).after.any fun e => Region.binds .any e && e.on == d.1.i) && (nodupB ((pick A x.2).map (·.1.t)) && ((x.1.loc.all (((pick A x.2).map (·.1.t)).contains ·)) &&
    ((pick A x.2).all fun d => S.all fun y => !(eatOf A y.2).contains d.1.t || y.1.i == x.1.i || waitsB ops ops.size y.1.i x.1.i)))))

/-- .. and of the slots that outcomes are told by. -/
def locS : List Nat → List (Sp × Bool) → Bool
  | _, [] => true
  | acc, u :: L => u.1.loc.all (acc.contains ·) && locS (u.1.t :: acc) L
theorem locS_of : ∀ {L : List (Sp × Bool)} {F : List FO} {acc : List Nat}, L.map (fun s => (s.1.t, s.1.loc)) = F.map (fun u => (u.t, u.loc)) → locS acc L = true → locOK acc F = true
  | [], [], _, _, _ => rfl
  | [], _ :: _, _, he, _ => by simp at he
  | _ :: _, [], _, he, _ => by simp at he
  | s :: L, u :: F, acc, he, h => by
    simp only [List.map_cons, List.cons.injEq, Prod.mk.injEq] at he
    obtain ⟨⟨h1, h2⟩, h4⟩ := he
    simp only [locS, Bool.and_eq_true] at h
    simp only [locOK, Bool.and_eq_true, ← h1, ← h2]
    exact ⟨h.1, locS_of h4 h.2⟩

/-- What an operation comes to, by its short description. -/
structure GivesAt (P : Program) (n : Nat) (e : Env) (w : World) (ops : Array Oper) (s : Sp) (R : Value → World → Prop) : Prop where
  out : Gives P n e w (FO.of ops s []).o R
def StS (P : Program) (n : Nat) (M : Nat → Prop) (w0 : World) (ops : Array Oper) (s : Sp) (e : Env) (D D' : List Chunk) : Prop :=
  ∀ w R, Sat M w0 w (D ++ R) → GivesAt P n e w ops s (fun v w' => ∃ cs, s.G e v cs ∧ Sat M w0 w' (cs ++ (D' ++ R)))

def ObS (P : Program) (n : Nat) (M : Nat → Prop) (w0 : World) (e0 : Env) (C0 : List Chunk) (ops : Array Oper) (A : List Sp) : List Sd → Prop
  | [] => True
  | x :: r => (Local (FO.of ops x.1 []) ∧ AllS (pick A x.2) e0 C0 C0 (StS P n M w0 ops x.1)) ∧ ObS P n M w0 e0 C0 ops A r

theorem ObS.get : ∀ {S : List Sd} {A : List Sp}, ObS P n M w0 e0 C0 ops A S → ∀ x ∈ S, Local (FO.of ops x.1 []) ∧ AllS (pick A x.2) e0 C0 C0 (StS P n M w0 ops x.1)
  | [], _, _, _, h => by cases h
  | y :: S, _, h, x, hx => by
    rcases List.mem_cons.1 hx with rfl | hx
    · exact h.1
    · exact ObS.get h.2 x hx

/-- Who is taken over by nobody, said by flags. -/
def finB (A : List Sp) (S : List Sd) (fs : List Bool) : Bool := fs.length == S.length && (S.zip fs).all fun x => x.2 == S.any fun y => (eatOf A y.2).contains x.1.1.t

theorem zip_flags {p : Sd → Bool} : ∀ {S : List Sd} {fs : List Bool}, fs.length = S.length → ((S.zip fs).all fun x => x.2 == p x.1) = true → ((S.map (·.1)).zip fs) = S.map fun x => (x.1, p x)
  | [], [], _, _ => rfl
  | [], _ :: _, h, _ => by simp at h
  | _ :: _, [], h, _ => by simp at h
  | x :: S, f :: fs, h, hb => by
    simp only [List.zip_cons_cons, List.all_cons, Bool.and_eq_true, beq_iff_eq] at hb
    simp only [List.map_cons, List.zip_cons_cons, hb.1, zip_flags (by simpa using h) hb.2]

set_option maxHeartbeats 2000000 in
theorem WA.dag' (S : List Sd) (fs : List Bool) (e0 : Env) (hsub : Sub e0 e) (hnew : (S.all fun x => (get? e0 x.1.t).isNone) = true) (hsz : Nat.beq ops.size listed0.size = true) (hB : dagB ops listed0 (fos ops (S.map (·.1)) S) = true)
    (hni : nodupB (S.map (·.1.i)) = true) (hnt : nodupB (S.map (·.1.t)) = true) (hlk : locS [] (S.map fun x => (x.1, false)) = true) (hlk' : (S.all fun x => locS [] (pick (S.map (·.1)) x.2)) = true) (hsp : spB ops n (S.map (·.1)) S = true) (hfin : finB (S.map (·.1)) S fs = true)
    (hcl : ∀ w', Sat M w0 w' C0 → Cl w') (hs : Sat M w0 w C0) (ob : ObS P n M w0 e0 C0 ops (S.map (·.1)) S)
    (k : AllS ((S.map (·.1)).zip fs) e0 C0 C0 fun e' _ C' => ∀ w', Sat M w0 w' C' → WA P n ops Q Cl fuel (setAll (fos ops (S.map (·.1)) S) listed0) e' w') :
    WA P n ops Q Cl (S.length + fuel) listed0 e w := by
  have hmi : (fos ops (S.map (·.1)) S).map (·.i) = S.map (·.1.i) := by simp [fos, Function.comp_def]
  have hmt : (fos ops (S.map (·.1)) S).map (·.t) = S.map (·.1.t) := by simp [fos, Function.comp_def]
  have hni' := nodupB_spec hni
  have hnt' := nodupB_spec hnt
  simp only [finB, Bool.and_eq_true, beq_iff_eq] at hfin
  have hz := zip_flags (p := fun x => S.any fun y => (eatOf (S.map (·.1)) y.2).contains x.1.t) hfin.1 hfin.2
  have hk2 : AllOut (fun d => (fos ops (S.map (·.1)) S).any (·.eat.contains d.t)) (fos ops (S.map (·.1)) S) e0 C0 C0 fun e' _ C' => ∀ w', Sat M w0 w' C' → WA P n ops Q Cl fuel (setAll (fos ops (S.map (·.1)) S) listed0) e' w' := by
    refine AllS.of ?_ k
    rw [hz]
    simp only [fos, List.map_map, Function.comp_def, List.any_map]
  let dls : FO → List FO := fun u => match S.find? (fun x => x.1.i == u.i) with | some x => (pick (S.map (·.1)) x.2).filterMap (fun d => (S.find? (fun y => y.1.i == d.1.i)).map fun y => FO.of ops y.1 (eatOf (S.map (·.1)) y.2)) | none => []
  have := WA.dag (P := P) (n := n) (ops := ops) (Q := Q) (e := e) (w := w) (w0 := w0) (C0 := C0) (Cl := Cl) (listed0 := listed0) (fuel := fuel) (M := M) (fos ops (S.map (·.1)) S) dls e0 hsz hB (by rw [hmi]; exact hni') (by rw [hmt]; exact hnt') hsub
    (fun u hu => by
      obtain ⟨x, hx, rfl⟩ := List.mem_map.1 hu
      have := List.all_eq_true.1 hnew x hx
      simpa using this) (locS_of (by simp [fos, Function.comp_def]) hlk) hcl hs (fun u hu => ?_) hk2
  · simpa [fos] using this
  · obtain ⟨x, hx, rfl⟩ := List.mem_map.1 hu
    have hget : ∀ y ∈ S, S.find? (fun z => z.1.i == y.1.i) = some y := fun y hy => by
      cases hf : S.find? (fun z => z.1.i == y.1.i) with
      | none => have := List.find?_eq_none.1 hf y hy; simp at this
      | some z =>
        have h1 := List.find?_some hf
        have h2 := List.mem_of_find?_eq_some hf
        have : z = y := inj_of_map (f := fun y : Sd => y.1.i) hni' h2 hy (by simpa using h1)
        rw [this]
    have hpk : ∀ d ∈ pick (S.map (·.1)) x.2, ∃ y ∈ S, y.1 = d.1 := fun d hd => by
      obtain ⟨k, _, hk⟩ := List.mem_filterMap.1 hd
      obtain ⟨s, hs1, rfl⟩ := Option.map_eq_some_iff.1 hk
      obtain ⟨y, hy, h⟩ := List.mem_map.1 (List.mem_of_getElem? hs1)
      exact ⟨y, hy, h⟩
    -- the used ones, in full
    have hdl : ∀ (D : List (Sp × Bool)), (∀ d ∈ D, ∃ y ∈ S, y.1 = d.1) → ∃ F : List FO, (D.filterMap (fun d => (S.find? (fun y => y.1.i == d.1.i)).map fun y => FO.of ops y.1 (eatOf (S.map (·.1)) y.2))) = F ∧ F.map (fun u => (u.t, u.i, u.loc, u.G)) = D.map (fun s => (s.1.t, s.1.i, s.1.loc, s.1.G)) ∧ ∀ f ∈ F, f ∈ fos ops (S.map (·.1)) S := by
      intro D
      induction D with
      | nil => intro _; exact ⟨[], rfl, rfl, by simp⟩
      | cons d D ih =>
        intro h
        obtain ⟨y, hy, hyd⟩ := h d (by simp)
        obtain ⟨F, h1, h2, h3⟩ := ih fun d hd => h d (by simp [hd])
        have hf := hget y hy
        rw [hyd] at hf
        refine ⟨FO.of ops y.1 (eatOf (S.map (·.1)) y.2) :: F, ?_, ?_, ?_⟩
        · rw [List.filterMap_cons, hf]; simp only [Option.map_some, h1]
        · simp only [List.map_cons, h2, hyd]
        · intro f hf'
          rcases List.mem_cons.1 hf' with rfl | hf'
          · exact List.mem_map_of_mem (f := fun x : Sd => FO.of ops x.1 (eatOf (S.map (·.1)) x.2)) hy
          · exact h3 f hf'
    obtain ⟨F, hF1, hF2, hF3⟩ := hdl (pick (S.map (·.1)) x.2) hpk
    have hdls : dls (FO.of ops x.1 (eatOf (S.map (·.1)) x.2)) = F := by
      show (match S.find? (fun y => y.1.i == x.1.i) with | some x => _ | none => _) = F
      rw [hget x hx]; exact hF1
    rw [hdls]
    have hchk := List.all_eq_true.1 hsp x hx
    simp only [Bool.and_eq_true] at hchk
    obtain ⟨c1, c2, c3, c4, c6, c7⟩ := hchk
    obtain ⟨o1, o2⟩ := ObS.get ob x hx
    have ht : F.map (·.t) = (pick (S.map (·.1)) x.2).map (·.1.t) := by
      have := congrArg (List.map (·.1)) hF2
      simpa [Function.comp_def] using this
    have hfi : ∀ f ∈ F, ∃ d ∈ pick (S.map (·.1)) x.2, d.1.i = f.i ∧ d.1.t = f.t := fun f hf => by
      have : (f.t, f.i, f.loc, f.G) ∈ F.map (fun u => (u.t, u.i, u.loc, u.G)) := List.mem_map_of_mem hf
      rw [hF2] at this
      obtain ⟨d, hd, he⟩ := List.mem_map.1 this
      simp only [Prod.mk.injEq] at he
      exact ⟨d, hd, he.2.1, he.1⟩
    refine ⟨?_, c2, fun d hd => ⟨hF3 d hd, ?_⟩, ?_, locS_of ?_ (List.all_eq_true.1 hlk' x hx), ?_, ?_, fun d hd y hy hye => ?_, o1, AllS.of ?_ (AllS.mono (fun _ _ _ h w R hs => (h w R hs).out) o2)⟩
    · cases ho : ops[x.1.i]? with
      | none => rw [ho] at c1; cases c1
      | some o =>
        rw [ho] at c1
        simp only [Bool.and_eq_true, beq_iff_eq, Option.isNone_iff_eq_none] at c1
        have hg : ops.getD x.1.i default = o := by rw [Array.getD_eq_getD_getElem?, ho]; rfl
        obtain ⟨h1, h2⟩ := c1
        simp only [FO.o, FO.of, hg]
        cases o
        simp only at h1 h2
        rw [h1, h2]
    · obtain ⟨d', hd', h1, _⟩ := hfi d hd
      have := List.all_eq_true.1 c3 d' hd'
      rw [h1] at this
      exact this
    · rw [ht]; exact nodupB_spec c4
    · have := congrArg (List.map (fun z => (z.1, z.2.2.1))) hF2
      simpa [Function.comp_def] using this.symm
    · rw [ht]; exact c6
    · rw [ht]
      simp only [eatOf, List.all_eq_true, List.mem_map, List.mem_filter]
      rintro s ⟨d, ⟨hd, _⟩, rfl⟩
      have : d.1.t ∈ (pick (S.map (·.1)) x.2).map (·.1.t) := List.mem_map_of_mem (f := fun d : Sp × Bool => d.1.t) hd
      simpa using this
    · obtain ⟨d', hd', h1, h2⟩ := hfi d hd
      obtain ⟨z, hz', rfl⟩ := List.mem_map.1 hy
      have := List.all_eq_true.1 (List.all_eq_true.1 c7 d' hd') z hz'
      rw [h2] at this
      simp only [Bool.or_eq_true, Bool.not_eq_true', beq_iff_eq] at this
      rcases this with (h | h) | h
      · rw [h] at hye; cases hye
      · exact .inl h
      · exact .inr h
    · have h1 := congrArg (List.map (fun z => (z.1, z.2.2.2))) hF2
      simp only [List.map_map, Function.comp_def] at h1
      -- who is taken over: by slots
      have hnd : ((pick (S.map (·.1)) x.2).map (·.1.t)).Nodup := nodupB_spec c4
      have key : ∀ (D : List (Sp × Bool)) (F : List FO), F.map (fun u => (u.t, u.G)) = D.map (fun s => (s.1.t, s.1.G)) → (∀ d ∈ D, d.2 = (eatOf (S.map (·.1)) x.2).contains d.1.t) →
          D.map (fun s => (s.1.t, s.1.G, s.2)) = F.map (fun u => (u.t, u.G, (eatOf (S.map (·.1)) x.2).contains u.t)) := by
        intro D
        induction D with
        | nil =>
          intro F h _
          cases F with
          | nil => rfl
          | cons _ _ => simp at h
        | cons d D ih =>
          intro F h hd
          cases F with
          | nil => simp at h
          | cons f F =>
            simp only [List.map_cons, List.cons.injEq, Prod.mk.injEq] at h
            simp only [List.map_cons, List.cons.injEq, Prod.mk.injEq]
            refine ⟨⟨h.1.1.symm, h.1.2.symm, ?_⟩, ih F h.2 fun d' hd' => hd d' (by simp [hd'])⟩
            rw [hd d (by simp), h.1.1]
      refine key _ _ h1 fun d hd => ?_
      cases hb : d.2 with
      | true =>
        symm
        have : d.1.t ∈ eatOf (S.map (·.1)) x.2 := List.mem_map_of_mem (f := fun d : Sp × Bool => d.1.t) (List.mem_filter.2 ⟨hd, hb⟩)
        simpa using this
      | false =>
        symm
        cases hc : (eatOf (S.map (·.1)) x.2).contains d.1.t with
        | false => rfl
        | true =>
          have h2 : d.1.t ∈ eatOf (S.map (·.1)) x.2 := by simpa using hc
          obtain ⟨d', hd', he⟩ := List.mem_map.1 h2
          obtain ⟨h3, h4⟩ := List.mem_filter.1 hd'
          have : d' = d := inj_of_map (f := fun d : Sp × Bool => d.1.t) hnd h3 hd he
          rw [this, hb] at h4; cases h4

theorem FO.of_eq {s : Sp} {t : Nat} {op : Op} {ty : TypeId} {pos : String} {aft : Array Edge} (hi : ops[s.i]? = some ⟨some t, op, ty, pos, aft, none⟩) : (FO.of ops s []).op = op ∧ (FO.of ops s []).ty = ty := by
  have : ops.getD s.i default = ⟨some t, op, ty, pos, aft, none⟩ := by rw [Array.getD_eq_getD_getElem?, hi]; rfl
  simp only [FO.of, this, and_self]
section
variable {s : Sp} {t : Nat} {op : Op} {ty : TypeId} {pos : String} {aft : Array Edge} {R : Value → World → Prop}
theorem Gives.c' {f : FuncId} {vs : List Value} {E : Ending → World → Prop} (hi : ops[s.i]? = some ⟨some t, op, ty, pos, aft, none⟩) (hy : Yc P n e w op f vs) (hc : Calls P f vs.toArray w E) (k : ∀ en w', E en w' → ∃ v, en = .returned v ∧ R v w') : GivesAt P n e w ops s R :=
  ⟨Gives.c (by rw [(FO.of_eq hi).1]; exact hy) hc k⟩
theorem Gives.rr' {R' : Value → World → Prop} (hi : ops[s.i]? = some ⟨some t, op, ty, pos, aft, none⟩) (hy : Yr P n e w op ty R') (h : ∀ v w', R' v w' → R v w') : GivesAt P n e w ops s R :=
  ⟨Gives.rr (R' := R') (by rw [(FO.of_eq hi).1, (FO.of_eq hi).2]; exact hy) h⟩
theorem Gives.p' {v : Value} (hi : ops[s.i]? = some ⟨some t, op, ty, pos, aft, none⟩) (hy : Yl P n e w op ty v) (hR : R v w) : GivesAt P n e w ops s R :=
  ⟨Gives.p (v := v) (by rw [(FO.of_eq hi).1, (FO.of_eq hi).2]; exact hy) hR⟩
end

/-- An operation that says nothing of the others is local. -/
theorem local_const {ops : Array Oper} {i t : Nat} {loc : List Nat} {G : Value → List Chunk → Prop} : Local (FO.of ops ⟨i, t, loc, fun _ v cs => G v cs⟩ []) := fun _ _ _ _ _ h => h
/-- One that reads a slot. -/
theorem local_get {ops : Array Oper} {i t s : Nat} {G : Option Value → Value → List Chunk → Prop} : Local (FO.of ops ⟨i, t, [s], fun e v cs => G (get? e s) v cs⟩ []) := fun e e' v cs h hg => by
  have := h s (by simp)
  show G (get? e' s) v cs
  rw [← this]; exact hg
end

/-- An open region in which some chunks are written: what holds throughout is the rest. -/
theorem WC.anyX {P : Program} {n : Nat} {Q : Exit → Act → World → Prop} {e : Env} {w w0 : World} {C K D : List Chunk} {id : Nat} {l : List Oper} (hm : P.follows .mixedOrders = true) (hs : Sat M w0 w C) (_hx : Sel K C D)
    (h : ∀ w', Sat M w0 w' C → WA P n l.toArray Q (fun w' => Sat M w0 w' D) l.length (Array.replicate l.length false) e w') : WC P n Q (.region id l.toArray true) e w := fun a ha =>
  wp_region_noPanic (wp_region_any hm (wpAny_of_held (S := fun w' => Sat M w0 w' D) _ _ _ _ (by have := h _ (hs.ext (below_drew w)) a ha; simpa using this)))
theorem WC.anynX {P : Program} {n : Nat} {Q : Exit → Act → World → Prop} {e : Env} {w w0 : World} {C K D : List Chunk} {id : Nat} {l : List Oper} {y : Code} (hm : P.follows .mixedOrders = true) (hs : Sat M w0 w C) (hx : Sel K C D)
    (h : ∀ w', Sat M w0 w' C → WA P n l.toArray (Exit.then (fun a w => y.wp P Q a w) Q) (fun w' => Sat M w0 w' D) l.length (Array.replicate l.length false) e w') : WC P n Q (.seq (.region id l.toArray true) y) e w :=
  WC.seq' (WC.anyX hm hs hx h)
end Go.Sw
