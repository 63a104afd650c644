/- Draws: a cursor over the bytes of a draw, that functions are handed and move. General laws over any program; no conditions. -/
import Derived.Test.YtppjnohcfljmoaaGreatDoorLibX
set_option linter.all false
namespace Go.Sw
open Go Go.RowKit
variable {M : Nat → Prop}

/-- The cursor at block c: its bytes, a place, a number. -/
def CurAt (T : TypeId) (b : Sl UInt8) (c : Nat) (w : World) : Prop := ∃ i h : Int, 0 ≤ i ∧ i ≤ 9223372036854775807 ∧ w.heap[c]? = some (.cells #[b.v, I i, I h] T (0, 0))
def cu (T : TypeId) (b : Sl UInt8) (c : Nat) : Chunk := ⟨fun k => k = c, CurAt T b c, fun _ _ h hp => by
  obtain ⟨i, g, h1, h2, h3⟩ := hp
  exact ⟨i, g, h1, h2, by rw [h c rfl]; exact h3⟩⟩
/-- A slice that reads, and does not lie in block c. -/
structure Apart {α : Type} [Ph α] (w : World) (s : Sl α) (c : Nat) : Prop where
  ok : Sl.Ok w s
  apart : s.l = [] ∨ s.blk ≠ c
abbrev CurB (w : World) (b : Sl UInt8) (c : Nat) : Prop := Apart w b c

theorem CurAt.lt {T : TypeId} {b : Sl UInt8} {c : Nat} {w : World} (h : CurAt T b c w) : c < w.heap.size := by
  obtain ⟨_, _, _, _, h⟩ := h
  exact (Array.getElem?_eq_some_iff.1 h).1

section
variable {α : Type} [Ph α] [Flat α]
theorem flat_touch {w w' : World} {s : Sl α} {c : Nat} (h : Sl.Ok w s) (ha : s.l = [] ∨ s.blk ≠ c) (ht : Touch (fun k => k = c) w w') : Sl.Ok w' s := by
  refine ⟨h.le, h.max, ?_, fun x hx => Flat.any (h.elems x hx)⟩
  rcases h.cells with h0 | ⟨h1, h2⟩
  · exact .inl h0
  · rcases ha with h0 | hne
    · exact .inl h0
    · refine .inr ⟨h1, fun j v hj => ?_⟩
      have hj2 := h2 j v hj
      have hlt := World.block_lt_of_cell? w _ hj2
      have hblk := ht.block s.blk hlt hne
      simp only [World.cell?] at hj2 ⊢
      rw [hblk]; exact hj2
theorem Apart.touch {w w' : World} {s : Sl α} {c : Nat} (h : Apart w s c) (ht : Touch (fun k => k = c) w w') : Apart w' s c := ⟨flat_touch h.ok h.apart ht, h.apart⟩
theorem Apart.now {w0 w : World} {C : List Chunk} {s : Sl α} {c : Nat} (h : Apart w0 s c) (hs : Sat (fun k => k = c) w0 w C) : Apart w s c := h.touch hs.tch
theorem blk_lt {w : World} {s : Sl α} (h : Sl.Ok w s) (hl : s.l ≠ []) : s.blk < w.heap.size := by
  obtain ⟨d, hd⟩ : ∃ d, s.l[0]? = some d := by
    cases h9 : s.l with
    | nil => exact absurd h9 hl
    | cons x l => exact ⟨x, rfl⟩
  have hpos : 0 < (Ph.enc d).length := by rw [Ph.len]; exact Ph.pos
  have hcell := (h.at_ hd).2 0 _ (List.getElem?_eq_getElem hpos)
  have h9 := World.block_lt_of_cell? _ _ hcell
  exact h9
theorem Apart.new {w0 w : World} {C : List Chunk} {T : TypeId} {b : Sl UInt8} {s : Sl α} {c : Nat} (h : Sl.Ok w0 s) (hs : Sat N0 w0 w C) (hm : cu T b c ∈ C) : Apart w s c := by
  refine ⟨Ph.old (α := Sl α) h hs, ?_⟩
  have hc := ((hs.all _ hm).2 c rfl).1.resolve_right (fun h => h)
  by_cases hl : s.l = []
  · exact .inl hl
  · right
    intro he
    have := blk_lt h hl
    omega
theorem Apart.own {w0 w : World} {C C' : List Chunk} {T : TypeId} {b : Sl UInt8} {s : Sl α} {F : List Nat} {c : Nat} (hs : Sat M w0 w C) (hsel : Sel [ow s F, cu T b c] C C') : Apart w s c := by
  have hs2 := hs.sel hsel
  have h1 := hs2.all (ow s F) (by simp)
  have hsep := (List.pairwise_cons.1 hs2.sep).1 (cu T b c) (by simp)
  have hok : Sl.Ok w s := Own.ok h1.1.1
  refine ⟨hok, ?_⟩
  by_cases hl : s.l = []
  · exact .inl hl
  · right
    have ho : OwnS w s F := h1.1.1
    obtain ⟨bb, o, cur, e, F1, _, hb, _, hF, _⟩ := ho.row (k := 0) (by cases h9 : s.l with | nil => exact absurd h9 hl | cons x l => simp)
    intro he
    exact hsep c (by show c ∈ F; rw [hF, ← he, hb]; simp) rfl
end
theorem Sat.cur {w0 w : World} {C : List Chunk} {T : TypeId} {b : Sl UInt8} {c : Nat} (hs : Sat M w0 w C) (hm : cu T b c ∈ C) : CurAt T b c w := (hs.all _ hm).1

/-- A start with the cursor. -/
theorem Sat.startC {T : TypeId} {b : Sl UInt8} {c : Nat} {w : World} (h : CurAt T b c w) : Sat (fun k => k = c) w w [cu T b c] := Sat.startM (c := cu T b c) h (fun k hk => by subst hk; exact h.lt)

/-- How a call that moves the cursor comes back. -/
def RetD (T : TypeId) (b : Sl UInt8) (c : Nat) (w : World) (R : Value → World → Prop) : Ending → World → Prop := fun en w' => ∃ v, en = .returned v ∧ Touch (fun k => k = c) w w' ∧ CurAt T b c w' ∧ R v w'
theorem RetD.mk {T : TypeId} {b : Sl UInt8} {c : Nat} {w0 w : World} {C : List Chunk} {R : Value → World → Prop} {v : Value} (hs : Sat (fun k => k = c) w0 w C) (hm : cu T b c ∈ C) (h : R v w) : RetD T b c w0 R (.returned v) w :=
  ⟨v, rfl, hs.tch, hs.cur hm, h⟩
/-- A new cursor handed over. -/
def RetN (T : TypeId) (b : Sl UInt8) (w : World) : Ending → World → Prop := fun en w' => ∃ c, en = .returned (bp c 0) ∧ Below w.heap.size w w' ∧ w.heap.size ≤ c ∧ CurAt T b c w'
theorem RetN.mk {T : TypeId} {b : Sl UInt8} {w0 w : World} {C : List Chunk} {c : Nat} {cs : List Value} {i h : Int} (hs : Sat N0 w0 w C) (hm : box c T cs ∈ C) (hcs : cs = [b.v, I i, I h]) (h1 : 0 ≤ i) (h2 : i ≤ 9223372036854775807) : RetN T b w0 (.returned (bp c 0)) w := by
  subst hcs
  have hc := hs.all _ hm
  exact ⟨c, rfl, hs.below, (hc.2 c rfl).1.resolve_right (fun h => h), i, h, h1, h2, hc.1⟩

section
variable {α : Type} [Ph α] [Own α]
theorem Sat.freshD {T : TypeId} {b : Sl UInt8} {c : Nat} {w0 w : World} {C C' : List Chunk} {x : α} {F : List Nat} (hs : Sat (fun k => k = c) w0 w C) (hsel : Sel [ow x F, cu T b c] C C') : Fresh w0 x w := by
  have hs2 := hs.sel hsel
  have h1 := hs2.all (ow x F) (by simp)
  have hsep := (List.pairwise_cons.1 hs2.sep).1 (cu T b c) (by simp)
  refine ⟨F, h1.1.1, h1.1.2, fun k hk => ⟨?_, (h1.2 k hk).2⟩⟩
  rcases (h1.2 k hk).1 with h | h
  · exact h
  · exact absurd (show (cu T b c).S k from h) (hsep k hk)
/-- Two owned data handed over, apart. -/
structure Fresh2 {β : Type} [Ph β] [Own β] (W : World) (x : α) (y : β) (w : World) : Prop where
  out : ∃ F G, Own.own w x F ∧ Own.own w y G ∧ (F ++ G).Nodup ∧ ∀ b ∈ F ++ G, W.heap.size ≤ b ∧ b < w.heap.size
end

section
variable {P : Program} {n : Nat} {ops : Array Oper} {Q : Exit → Act → World → Prop} {rest : List Oper} {e : Env} {w w0 : World} {C C' : List Chunk}
variable {t : Nat} {ty : TypeId} {pos : String} {aft : Array Edge} {op : Op} {f : FuncId} {vs : List Value} {T : TypeId} {b : Sl UInt8} {c : Nat}

theorem Sat.moved {w' : World} (hs : Sat M w0 w C) (hsel : Sel [cu T b c] C C') (ht : Touch (fun k => k = c) w w') (hc : CurAt T b c w') : Sat M w0 w' (cu T b c :: C') :=
  (hs.sel hsel).touch .here ht hc (fun _ hb => .inl hb)
/-- The chunks lived below the world W. -/
def OldC (w0 W : World) (C : List Chunk) : Prop := w0.heap.size ≤ W.heap.size ∧ ∀ d ∈ C, ∀ k, d.S k → k < W.heap.size
theorem Sat.oldc (hs : Sat M w0 w C) : OldC w0 w C := ⟨hs.size, fun d hd k hk => ((hs.all d hd).2 k hk).2⟩
theorem Sat.addF {α : Type} [Ph α] [Own α] {W : World} {x : α} (hs : Sat M w0 w C) (ho : OldC w0 W C) (hf : Fresh W x w) : ∃ F, Sat M w0 w (ow x F :: C) := by
  obtain ⟨F, h1, h2, h3⟩ := hf.out
  refine ⟨F, hs.tch, ?_, .cons (fun d hd k hk hkd => ?_) hs.sep⟩
  · intro d hd
    rcases List.mem_cons.1 hd with rfl | hd
    · exact ⟨⟨h1, h2⟩, fun k hk => ⟨.inl (Nat.le_trans ho.1 (h3 k hk).1), (h3 k hk).2⟩⟩
    · exact hs.all d hd
  · have := ho.2 d hd k hkd
    have := (h3 k hk).1
    omega
theorem Sat.addF2 {α β : Type} [Ph α] [Own α] [Ph β] [Own β] {W : World} {x : α} {y : β} (hs : Sat M w0 w C) (ho : OldC w0 W C) (hf : Fresh2 W x y w) : ∃ F G, Sat M w0 w (ow x F :: ow y G :: C) := by
  obtain ⟨F, G, h1, h2, h3, h4⟩ := hf.out
  rw [List.nodup_append] at h3
  refine ⟨F, G, hs.tch, ?_, .cons (fun d hd k hk hkd => ?_) (.cons (fun d hd k hk hkd => ?_) hs.sep)⟩
  · intro d hd
    rcases List.mem_cons.1 hd with rfl | hd
    · exact ⟨⟨h1, h3.1⟩, fun k hk => ⟨.inl (Nat.le_trans ho.1 (h4 k (List.mem_append_left _ hk)).1), (h4 k (List.mem_append_left _ hk)).2⟩⟩
    · rcases List.mem_cons.1 hd with rfl | hd
      · exact ⟨⟨h2, h3.2.1⟩, fun k hk => ⟨.inl (Nat.le_trans ho.1 (h4 k (List.mem_append_right _ hk)).1), (h4 k (List.mem_append_right _ hk)).2⟩⟩
      · exact hs.all d hd
  · rcases List.mem_cons.1 hd with rfl | hd
    · exact h3.2.2 k hk k hkd rfl
    · have := ho.2 d hd k hkd
      have := (h4 k (List.mem_append_left _ hk)).1
      omega
  · have := ho.2 d hd k hkd
    have := (h4 k (List.mem_append_right _ hk)).1
    omega
theorem Sat.fresh2 {α β : Type} [Ph α] [Own α] [Ph β] [Own β] {x : α} {y : β} {F G : List Nat} (hs : Sat N0 w0 w C) (hsel : Sel [ow x F, ow y G] C C') : Fresh2 w0 x y w := by
  have hs2 := hs.sel hsel
  have h1 := hs2.all (ow x F) (by simp)
  have h2 := hs2.all (ow y G) (by simp)
  have hsep := (List.pairwise_cons.1 hs2.sep).1 (ow y G) (by simp)
  refine ⟨F, G, h1.1.1, h2.1.1, ?_, fun k hk => ?_⟩
  · rw [List.nodup_append]
    exact ⟨h1.1.2, h2.1.2, fun k hk k' hk' he => hsep k hk (by subst he; exact hk')⟩
  · rcases List.mem_append.1 hk with h | h
    · exact ⟨(h1.2 k h).1.resolve_right (fun h => h), (h1.2 k h).2⟩
    · exact ⟨(h2.2 k h).1.resolve_right (fun h => h), (h2.2 k h).2⟩
theorem WL.calld {R : Value → World → Prop} (hs : Sat M w0 w C) (hsel : Sel [cu T b c] C C') (ht : Nat.blt t n = true) (hy : Yc P n e w op f vs)
    (hc : Calls P f vs.toArray w (RetD T b c w R)) (k : ∀ v w', OldC w0 w (cu T b c :: C') → R v w' → Sat M w0 w' (cu T b c :: C') → WL P n ops Q rest ((t, v) :: e) w') :
    WL P n ops Q (⟨some t, op, ty, pos, aft, none⟩ :: rest) e w :=
  WL.callR ht hy hc fun _ w' ⟨v, he, h1, h2, h3⟩ => ⟨v, he, k v w' (hs.sel hsel).oldc h3 (hs.moved hsel h1 h2)⟩
theorem WL.callx {R : Value → World → Prop} (hs : Sat M w0 w C) (ht : Nat.blt t n = true) (hy : Yc P n e w op f vs)
    (hc : Calls P f vs.toArray w (Ret w R)) (k : ∀ v w', OldC w0 w C → R v w' → Sat M w0 w' C → WL P n ops Q rest ((t, v) :: e) w') :
    WL P n ops Q (⟨some t, op, ty, pos, aft, none⟩ :: rest) e w :=
  WL.callR ht hy hc fun _ w' ⟨v, he, hb, hr⟩ => ⟨v, he, k v w' hs.oldc hr (hs.ext hb)⟩
theorem WL.calln (hs : Sat M w0 w C) (ht : Nat.blt t n = true) (hy : Yc P n e w op f vs)
    (hc : Calls P f vs.toArray w (RetN T b w)) (k : ∀ c w', Sat M w0 w' (cu T b c :: C) → WL P n ops Q rest ((t, bp c 0) :: e) w') :
    WL P n ops Q (⟨some t, op, ty, pos, aft, none⟩ :: rest) e w :=
  WL.callR ht hy hc fun _ w' ⟨c, he, h1, h2, h3⟩ => ⟨_, he, k c w' (hs.add h1 h3 (fun k hk => by
    have : k = c := hk
    subst this
    exact ⟨h2, h3.lt⟩))⟩

variable {Cl : World → Prop} {fuel : Nat} {listed : Array Bool}
theorem WA.calld {i : Nat} {R : Value → World → Prop} (hs : Sat M w0 w C) (hsel : Sel [cu T b c] C C') (hcl : ∀ w', Sat M w0 w' (cu T b c :: C') → Cl w') (hr : Region.ready .any ops listed = [i]) (hi : ops[i]? = some ⟨some t, op, ty, pos, aft, none⟩) (ht : Nat.blt t n = true) (hy : Yc P n e w op f vs)
    (hc : Calls P f vs.toArray w (RetD T b c w R)) (k : ∀ v w', OldC w0 w (cu T b c :: C') → R v w' → Sat M w0 w' (cu T b c :: C') → WA P n ops Q Cl fuel (listed.setIfInBounds i true) ((t, v) :: e) w') : WA P n ops Q Cl (fuel + 1) listed e w :=
  WA.callR hr hi ht hy hc fun _ w' ⟨v, he, h1, h2, h3⟩ => ⟨v, he, hcl _ (hs.moved hsel h1 h2), k v w' (hs.sel hsel).oldc h3 (hs.moved hsel h1 h2)⟩
theorem WA.callx {i : Nat} {R : Value → World → Prop} (hs : Sat M w0 w C) (hcl : ∀ w', Sat M w0 w' C → Cl w') (hr : Region.ready .any ops listed = [i]) (hi : ops[i]? = some ⟨some t, op, ty, pos, aft, none⟩) (ht : Nat.blt t n = true) (hy : Yc P n e w op f vs)
    (hc : Calls P f vs.toArray w (Ret w R)) (k : ∀ v w', OldC w0 w C → R v w' → Sat M w0 w' C → WA P n ops Q Cl fuel (listed.setIfInBounds i true) ((t, v) :: e) w') : WA P n ops Q Cl (fuel + 1) listed e w :=
  WA.callR hr hi ht hy hc fun _ w' ⟨v, he, hb, hr⟩ => ⟨v, he, hcl _ (hs.ext hb), k v w' hs.oldc hr (hs.ext hb)⟩
end


/-! The same rules, what is closed found by itself. -/
section
variable {P : Program} {n : Nat} {ops : Array Oper} {Q : Exit → Act → World → Prop} {e : Env} {w w0 : World} {C D : List Chunk}
variable {t : Nat} {ty : TypeId} {pos : String} {aft : Array Edge} {fuel : Nat} {listed : Array Bool}
theorem WA.pq (i : Nat) {op : Op} {v : Value} (hi : ops[i]? = some ⟨some t, op, ty, pos, aft, none⟩) (hs : Sat M w0 w C) (hy : ∀ w, Sat M w0 w D → Yl P n e w op ty v) (h : WA P n ops Q (fun w' => Sat M w0 w' D) fuel (listed.setIfInBounds i true) ((t, v) :: e) w)
    (hsel : ∀ w', Sat M w0 w' C → Sat M w0 w' D := by intro _ hs; exact hs.only (by repeat (first | exact Sel.nil | (apply Sel.cons; (repeat (first | exact Ext.here | apply Ext.there))))))
    (hno : Region.noSelect ops = true := by kernel_rfl) (hfree : Region.free .any ops listed i = true := by kernel_rfl) (hr : (Region.ready .any ops listed).contains i = true := by kernel_rfl) (ht : Nat.blt t n = true := by rfl) :
    WA P n ops Q (fun w' => Sat M w0 w' D) (fuel + 1) listed e w := WA.p hi hno hfree hr ht (hsel _ hs) hy h
theorem WA.stq (i : Nat) {T TB : TypeId} {x y : Operand} {b o : Nat} {v : Value} {cs vs cs' : List Value} {C' : List Chunk} (hi : ops[i]? = some ⟨none, .store T x y, ty, pos, aft, none⟩) (hs : Sat M w0 w C) (hsz : (P.info? T).map (·.size) = some vs.length)
    (h : ∀ w', Sat M w0 w' C' → WA P n ops Q (fun w' => Sat M w0 w' D) fuel (listed.setIfInBounds i true) e w')
    (hx : ev? e x = some (bp b o) := by rfl) (hy : ev? e y = some v := by rfl) (hv : v.cells = vs.toArray := by rfl)
    (hrp : Repl (Go.Sw.box b TB cs) (Go.Sw.box b TB cs') C C' := by repeat (first | exact Repl.here | apply Repl.there)) (hset : SetAt cs o vs cs' := by repeat (first | (apply SetAt.here; repeat (first | exact Over.nil | apply Over.cons)) | apply SetAt.there)) (h1 : vs.all Value.oneCell' = true := by rfl)
    (hsel : ∀ w', Sat M w0 w' C' → Sat M w0 w' D := by intro _ hs; exact hs.only (by repeat (first | exact Sel.nil | (apply Sel.cons; (repeat (first | exact Ext.here | apply Ext.there))))))
    (hr : Region.ready .any ops listed = [i] := by kernel_rfl) :
    WA P n ops Q (fun w' => Sat M w0 w' D) (fuel + 1) listed e w := WA.s hr hi (Yr.storeB hs hx hy hv hrp hset h1 hsz) (fun _ w' h => hsel w' h) (fun _ w' hs' => h w' hs')
theorem WI.alq (i : Nat) {T : TypeId} {zs : List Value} (hi : ops[i]? = some ⟨some t, .alloc T, ty, pos, aft, none⟩) (hs : Sat M w0 w C) (hz : ZT P T zs)
    (h : ∀ b w', Sat M w0 w' (Go.Sw.box b T zs :: C) → WA P n ops Q (fun w' => Sat M w0 w' D) fuel (listed.setIfInBounds i true) ((t, bp b 0) :: e) w')
    (hsel : ∀ b w', Sat M w0 w' (Go.Sw.box b T zs :: C) → Sat M w0 w' D := by intro _ _ hs; exact hs.only (by repeat (first | exact Sel.nil | (apply Sel.cons; (repeat (first | exact Ext.here | apply Ext.there))))))
    (ht : Nat.blt t n = true := by rfl) :
    WI P n ops Q (fun w' => Sat M w0 w' D) fuel listed i e w := WI.r hi ht (Yr.alloc hs hz) (fun _ w' ⟨b, _, _, h⟩ => hsel b w' h) (fun _ w' ⟨b, hv, _, hs'⟩ => by subst hv; exact h b w' hs')
theorem WA.alq (i : Nat) {T : TypeId} {zs : List Value} (hi : ops[i]? = some ⟨some t, .alloc T, ty, pos, aft, none⟩) (hs : Sat M w0 w C) (hz : ZT P T zs)
    (h : ∀ b w', Sat M w0 w' (Go.Sw.box b T zs :: C) → WA P n ops Q (fun w' => Sat M w0 w' D) fuel (listed.setIfInBounds i true) ((t, bp b 0) :: e) w')
    (hsel : ∀ b w', Sat M w0 w' (Go.Sw.box b T zs :: C) → Sat M w0 w' D := by intro _ _ hs; exact hs.only (by repeat (first | exact Sel.nil | (apply Sel.cons; (repeat (first | exact Ext.here | apply Ext.there))))))
    (hr : Region.ready .any ops listed = [i] := by kernel_rfl) (ht : Nat.blt t n = true := by rfl) :
    WA P n ops Q (fun w' => Sat M w0 w' D) (fuel + 1) listed e w := WA.r hr hi ht (Yr.alloc hs hz) (fun _ w' ⟨b, _, _, h⟩ => hsel b w' h) (fun _ w' ⟨b, hv, _, hs'⟩ => by subst hv; exact h b w' hs')
theorem WA.callq (i : Nat) {op : Op} {f : FuncId} {vs : List Value} {R : Value → World → Prop} (hi : ops[i]? = some ⟨some t, op, ty, pos, aft, none⟩) (hs : Sat M w0 w C) (hy : Yc P n e w op f vs) (hc : Calls P f vs.toArray w (Ret w R)) (k : ∀ v w', Below w.heap.size w w' → R v w' → Sat M w0 w' C → WA P n ops Q (fun w' => Sat M w0 w' D) fuel (listed.setIfInBounds i true) ((t, v) :: e) w')
    (hsel : ∀ w', Sat M w0 w' C → Sat M w0 w' D := by intro _ hs; exact hs.only (by repeat (first | exact Sel.nil | (apply Sel.cons; (repeat (first | exact Ext.here | apply Ext.there))))))
    (hr : Region.ready .any ops listed = [i] := by kernel_rfl) (ht : Nat.blt t n = true := by rfl) :
    WA P n ops Q (fun w' => Sat M w0 w' D) (fuel + 1) listed e w := WA.call2 hs hsel hr hi ht hy hc k
theorem WI.callq (i : Nat) {op : Op} {f : FuncId} {vs : List Value} {R : Value → World → Prop} (hi : ops[i]? = some ⟨some t, op, ty, pos, aft, none⟩) (hs : Sat M w0 w C) (hy : Yc P n e w op f vs) (hc : Calls P f vs.toArray w (Ret w R)) (k : ∀ v w', Below w.heap.size w w' → R v w' → Sat M w0 w' C → WA P n ops Q (fun w' => Sat M w0 w' D) fuel (listed.setIfInBounds i true) ((t, v) :: e) w')
    (hsel : ∀ w', Sat M w0 w' C → Sat M w0 w' D := by intro _ hs; exact hs.only (by repeat (first | exact Sel.nil | (apply Sel.cons; (repeat (first | exact Ext.here | apply Ext.there))))))
    (ht : Nat.blt t n = true := by rfl) :
    WI P n ops Q (fun w' => Sat M w0 w' D) fuel listed i e w := WI.call2 hs hsel hi ht hy hc k
end

theorem lit_str {w : World} {l : List Str} (h : l.all (fun x => Nat.ble x.length 1000) = true) : ∀ x ∈ l, Ph.ok w x := fun x hx => by
  have := List.all_eq_true.1 h x hx
  have := Nat.le_of_ble_eq_true this
  show x.length ≤ 9223372036854775807
  omega
theorem lit_int {w : World} {l : List Int} (h : l.all (fun x => decide (-9223372036854775808 ≤ x ∧ x ≤ 9223372036854775807)) = true) : ∀ x ∈ l, Ph.ok w x := fun x hx => by
  have := List.all_eq_true.1 h x hx
  have := of_decide_eq_true this
  exact ⟨this.1, this.2⟩

end Go.Sw
