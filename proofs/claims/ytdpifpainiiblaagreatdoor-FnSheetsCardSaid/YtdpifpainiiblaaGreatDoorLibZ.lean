/- Draws: a cursor over the bytes of a draw, that functions are handed and move. General laws over any program; no conditions. -/
import Derived.Test.YtdpifpainiiblaaGreatDoorLibX
set_option linter.all false
namespace Go.Sw
open Go Go.RowKit
variable {M : Nat → Prop}

/-- The cursor at block c: its bytes, a place, a number. -/
def CurAt (T : TypeId) (b : Sl UInt8) (c : Nat) (w : World) : Prop := ∃ i h : Int, 0 ≤ i ∧ i ≤ 9223372036854775807 ∧ w.heap[c]? = some (.cells #[b.v, I i, I h] T (0, 0))
def cu (T : TypeId) (b : Sl UInt8) (c : Nat) : Chunk := ⟨fun k => k = c, CurAt T b c, fun _ _ h hp => by
  obtain ⟨i, g, h1, h2, h3⟩ := hp
  exact ⟨i, g, h1, h2, by rw [h c rfl]; exact h3⟩⟩
/-- A slice that reads, and does not lie in block c. -/
structure Apart {α : Type} [Ph α] (w : World) (s : Sl α) (c : Nat) : Prop where
  ok : Sl.Ok w s
  apart : s.l = [] ∨ s.blk ≠ c
abbrev CurB (w : World) (b : Sl UInt8) (c : Nat) : Prop := Apart w b c

theorem CurAt.lt {T : TypeId} {b : Sl UInt8} {c : Nat} {w : World} (h : CurAt T b c w) : c < w.heap.size := by
  obtain ⟨_, _, _, _, h⟩ := h
  exact (Array.getElem?_eq_some_iff.1 h).1

section
variable {α : Type} [Ph α] [Flat α]
theorem flat_touch {w w' : World} {s : Sl α} {c : Nat} (h : Sl.Ok w s) (ha : s.l = [] ∨ s.blk ≠ c) (ht : Touch (fun k => k = c) w w') : Sl.Ok w' s := by
  refine ⟨h.le, h.max, ?_, fun x hx => Flat.any (h.elems x hx)⟩
  rcases h.cells with h0 | ⟨h1, h2⟩
  · exact .inl h0
  · rcases ha with h0 | hne
    · exact .inl h0
    · refine .inr ⟨h1, fun j v hj => ?_⟩
      have hj2 := h2 j v hj
      have hlt := World.block_lt_of_cell? w _ hj2
      have hblk := ht.block s.blk hlt hne
      simp only [World.cell?] at hj2 ⊢
      rw [hblk]; exact hj2
theorem Apart.touch {w w' : World} {s : Sl α} {c : Nat} (h : Apart w s c) (ht : Touch (fun k => k = c) w w') : Apart w' s c := ⟨flat_touch h.ok h.apart ht, h.apart⟩
theorem Apart.now {w0 w : World} {C : List Chunk} {s : Sl α} {c : Nat} (h : Apart w0 s c) (hs : Sat (fun k => k = c) w0 w C) : Apart w s c := h.touch hs.tch
theorem blk_lt {w : World} {s : Sl α} (h : Sl.Ok w s) (hl : s.l ≠ []) : s.blk < w.heap.size := by
  obtain ⟨d, hd⟩ : ∃ d, s.l[0]? = some d := by
    cases h9 : s.l with
    | nil => exact absurd h9 hl
    | cons x l => exact ⟨x, rfl⟩
  have hpos : 0 < (Ph.enc d).length := by rw [Ph.len]; exact Ph.pos
  have hcell := (h.at_ hd).2 0 _ (List.getElem?_eq_getElem hpos)
  have h9 := World.block_lt_of_cell? _ _ hcell
  exact h9
theorem Apart.new {w0 w : World} {C : List Chunk} {T : TypeId} {b : Sl UInt8} {s : Sl α} {c : Nat} (h : Sl.Ok w0 s) (hs : Sat N0 w0 w C) (hm : cu T b c ∈ C) : Apart w s c := by
  refine ⟨Ph.old (α := Sl α) h hs, ?_⟩
  have hc := ((hs.all _ hm).2 c rfl).1.resolve_right (fun h => h)
  by_cases hl : s.l = []
  · exact .inl hl
  · right
    intro he
    have := blk_lt h hl
    omega
theorem Apart.own {w0 w : World} {C C' : List Chunk} {T : TypeId} {b : Sl UInt8} {s : Sl α} {F : List Nat} {c : Nat} (hs : Sat M w0 w C) (hsel : Sel [ow s F, cu T b c] C C') : Apart w s c := by
  have hs2 := hs.sel hsel
  have h1 := hs2.all (ow s F) (by simp)
  have hsep := (List.pairwise_cons.1 hs2.sep).1 (cu T b c) (by simp)
  have hok : Sl.Ok w s := Own.ok h1.1.1
  refine ⟨hok, ?_⟩
  by_cases hl : s.l = []
  · exact .inl hl
  · right
    have ho : OwnS w s F := h1.1.1
    obtain ⟨bb, o, cur, e, F1, _, hb, _, hF, _⟩ := ho.row (k := 0) (by cases h9 : s.l with | nil => exact absurd h9 hl | cons x l => simp)
    intro he
    exact hsep c (by show c ∈ F; rw [hF, ← he, hb]; simp) rfl
end
theorem Sat.cur {w0 w : World} {C : List Chunk} {T : TypeId} {b : Sl UInt8} {c : Nat} (hs : Sat M w0 w C) (hm : cu T b c ∈ C) : CurAt T b c w := (hs.all _ hm).1

/-- A start with the cursor. -/
theorem Sat.startC {T : TypeId} {b : Sl UInt8} {c : Nat} {w : World} (h : CurAt T b c w) : Sat (fun k => k = c) w w [cu T b c] := Sat.startM (c := cu T b c) h (fun k hk => by subst hk; exact h.lt)

/-- How a call that moves the cursor comes back. -/
def RetD (T : TypeId) (b : Sl UInt8) (c : Nat) (w : World) (R : Value → World → Prop) : Ending → World → Prop := fun en w' => ∃ v, en = .returned v ∧ Touch (fun k => k = c) w w' ∧ CurAt T b c w' ∧ R v w'
theorem RetD.mk {T : TypeId} {b : Sl UInt8} {c : Nat} {w0 w : World} {C : List Chunk} {R : Value → World → Prop} {v : Value} (hs : Sat (fun k => k = c) w0 w C) (hm : cu T b c ∈ C) (h : R v w) : RetD T b c w0 R (.returned v) w :=
  ⟨v, rfl, hs.tch, hs.cur hm, h⟩
/-- A new cursor handed over. -/
def RetN (T : TypeId) (b : Sl UInt8) (w : World) : Ending → World → Prop := fun en w' => ∃ c, en = .returned (bp c 0) ∧ Below w.heap.size w w' ∧ w.heap.size ≤ c ∧ CurAt T b c w'
theorem RetN.mk {T : TypeId} {b : Sl UInt8} {w0 w : World} {C : List Chunk} {c : Nat} {cs : List Value} {i h : Int} (hs : Sat N0 w0 w C) (hm : box c T cs ∈ C) (hcs : cs = [b.v, I i, I h]) (h1 : 0 ≤ i) (h2 : i ≤ 9223372036854775807) : RetN T b w0 (.returned (bp c 0)) w := by
  subst hcs
  have hc := hs.all _ hm
  exact ⟨c, rfl, hs.below, (hc.2 c rfl).1.resolve_right (fun h => h), i, h, h1, h2, hc.1⟩

section
variable {α : Type} [Ph α] [Own α]
theorem Sat.freshD {T : TypeId} {b : Sl UInt8} {c : Nat} {w0 w : World} {C C' : List Chunk} {x : α} {F : List Nat} (hs : Sat (fun k => k = c) w0 w C) (hsel : Sel [ow x F, cu T b c] C C') : Fresh w0 x w := by
  have hs2 := hs.sel hsel
  have h1 := hs2.all (ow x F) (by simp)
  have hsep := (List.pairwise_cons.1 hs2.sep).1 (cu T b c) (by simp)
  refine ⟨F, h1.1.1, h1.1.2, fun k hk => ⟨?_, (h1.2 k hk).2⟩⟩
  rcases (h1.2 k hk).1 with h | h
  · exact h
  · exact absurd (show (cu T b c).S k from h) (hsep k hk)
/-- Two owned data handed over, apart. -/
structure Fresh2 {β : Type} [Ph β] [Own β] (W : World) (x : α) (y : β) (w : World) : Prop where
  out : ∃ F G, Own.own w x F ∧ Own.own w y G ∧ (F ++ G).Nodup ∧ ∀ b ∈ F ++ G, W.heap.size ≤ b ∧ b < w.heap.size
end

section
variable {P : Program} {n : Nat} {ops : Array Oper} {Q : Exit → Act → World → Prop} {rest : List Oper} {e : Env} {w w0 : World} {C C' : List Chunk}
variable {t : Nat} {ty : TypeId} {pos : String} {aft : Array Edge} {op : Op} {f : FuncId} {vs : List Value} {T : TypeId} {b : Sl UInt8} {c : Nat}

theorem Sat.moved {w' : World} (hs : Sat M w0 w C) (hsel : Sel [cu T b c] C C') (ht : Touch (fun k => k = c) w w') (hc : CurAt T b c w') : Sat M w0 w' (cu T b c :: C') :=
  (hs.sel hsel).touch .here ht hc (fun _ hb => .inl hb)
/-- The chunks lived below the world W. -/
def OldC (w0 W : World) (C : List Chunk) : Prop := w0.heap.size ≤ W.heap.size ∧ ∀ d ∈ C, ∀ k, d.S k → k < W.heap.size
theorem Sat.oldc (hs : Sat M w0 w C) : OldC w0 w C := ⟨hs.size, fun d hd k hk => ((hs.all d hd).2 k hk).2⟩
theorem Sat.addF {α : Type} [Ph α] [Own α] {W : World} {x : α} (hs : Sat M w0 w C) (ho : OldC w0 W C) (hf : Fresh W x w) : ∃ F, Sat M w0 w (ow x F :: C) := by
  obtain ⟨F, h1, h2, h3⟩ := hf.out
  refine ⟨F, hs.tch, ?_, .cons (fun d hd k hk hkd => ?_) hs.sep⟩
  · intro d hd
    rcases List.mem_cons.1 hd with rfl | hd
    · exact ⟨⟨h1, h2⟩, fun k hk => ⟨.inl (Nat.le_trans ho.1 (h3 k hk).1), (h3 k hk).2⟩⟩
    · exact hs.all d hd
  · have := ho.2 d hd k hkd
    have := (h3 k hk).1
    omega
theorem Sat.addF2 {α β : Type} [Ph α] [Own α] [Ph β] [Own β] {W : World} {x : α} {y : β} (hs : Sat M w0 w C) (ho : OldC w0 W C) (hf : Fresh2 W x y w) : ∃ F G, Sat M w0 w (ow x F :: ow y G :: C) := by
  obtain ⟨F, G, h1, h2, h3, h4⟩ := hf.out
  rw [List.nodup_append] at h3
  refine ⟨F, G, hs.tch, ?_, .cons (fun d hd k hk hkd => ?_) (.cons (fun d hd k hk hkd => ?_) hs.sep)⟩
  · intro d hd
    rcases List.mem_cons.1 hd with rfl | hd
    · exact ⟨⟨h1, h3.1⟩, fun k hk => ⟨.inl (Nat.le_trans ho.1 (h4 k (List.mem_append_left _ hk)).1), (h4 k (List.mem_append_left _ hk)).2⟩⟩
    · rcases List.mem_cons.1 hd with rfl | hd
      · exact ⟨⟨h2, h3.2.1⟩, fun k hk => ⟨.inl (Nat.le_trans ho.1 (h4 k (List.mem_append_right _ hk)).1), (h4 k (List.mem_append_right _ hk)).2⟩⟩
      · exact hs.all d hd
  · rcases List.mem_cons.1 hd with rfl | hd
    · exact h3.2.2 k hk k hkd rfl
    · have := ho.2 d hd k hkd
      have := (h4 k (List.mem_append_left _ hk)).1
      omega
  · have := ho.2 d hd k hkd
    have := (h4 k (List.mem_append_right _ hk)).1
    omega
theorem Sat.fresh2 {α β : Type} [Ph α] [Own α] [Ph β] [Own β] {x : α} {y : β} {F G : List Nat} (hs : Sat N0 w0 w C) (hsel : Sel [ow x F, ow y G] C C') : Fresh2 w0 x y w := by
  have hs2 := hs.sel hsel
  have h1 := hs2.all (ow x F) (by simp)
  have h2 := hs2.all (ow y G) (by simp)
  have hsep := (List.pairwise_cons.1 hs2.sep).1 (ow y G) (by simp)
  refine ⟨F, G, h1.1.1, h2.1.1, ?_, fun k hk => ?_⟩
  · rw [List.nodup_append]
    exact ⟨h1.1.2, h2.1.2, fun k hk k' hk' he => hsep k hk (by subst he; exact hk')⟩
  · rcases List.mem_append.1 hk with h | h
    · exact ⟨(h1.2 k h).1.resolve_right (fun h => h), (h1.2 k h).2⟩
    · exact ⟨(h2.2 k h).1.resolve_right (fun h => h), (h2.2 k h).2⟩
theorem WL.calld {R : Value → World → Prop} (hs : Sat M w0 w C) (hsel : Sel [cu T b c] C C') (ht : Nat.blt t n = true) (hy : Yc P n e w op f vs)
    (hc : Calls P f vs.toArray w (RetD T b c w R)) (k : ∀ v w', OldC w0 w (cu T b c :: C') → R v w' → Sat M w0 w' (cu T b c :: C') → WL P n ops Q rest ((t, v) :: e) w') :
    WL P n ops Q (⟨some t, op, ty, pos, aft, none⟩ :: rest) e w :=
  WL.callR ht hy hc fun _ w' ⟨v, he, h1, h2, h3⟩ => ⟨v, he, k v w' (hs.sel hsel).oldc h3 (hs.moved hsel h1 h2)⟩
theorem WL.callx {R : Value → World → Prop} (hs : Sat M w0 w C) (ht : Nat.blt t n = true) (hy : Yc P n e w op f vs)
    (hc : Calls P f vs.toArray w (Ret w R)) (k : ∀ v w', OldC w0 w C → R v w' → Sat M w0 w' C → WL P n ops Q rest ((t, v) :: e) w') :
    WL P n ops Q (⟨some t, op, ty, pos, aft, none⟩ :: rest) e w :=
  WL.callR ht hy hc fun _ w' ⟨v, he, hb, hr⟩ => ⟨v, he, k v w' hs.oldc hr (hs.ext hb)⟩
theorem WL.calln (hs : Sat M w0 w C) (ht : Nat.blt t n = true) (hy : Yc P n e w op f vs)
    (hc : Calls P f vs.toArray w (RetN T b w)) (k : ∀ c w', Sat M w0 w' (cu T b c :: C) → WL P n ops Q rest ((t, bp c 0) :: e) w') :
    WL P n ops Q (⟨some t, op, ty, pos, aft, none⟩ :: rest) e w :=
  WL.callR ht hy hc fun _ w' ⟨c, he, h1, h2, h3⟩ => ⟨_, he, k c w' (hs.add h1 h3 (fun k hk => by
    have : k = c := hk
    subst this
    exact ⟨h2, h3.lt⟩))⟩

variable {Cl : World → Prop} {fuel : Nat} {listed : Array Bool}
theorem WA.calld {i : Nat} {R : Value → World → Prop} (hs : Sat M w0 w C) (hsel : Sel [cu T b c] C C') (hcl : ∀ w', Sat M w0 w' (cu T b c :: C') → Cl w') (hr : Region.ready .any ops listed = [i]) (hi : ops[i]? = some ⟨some t, op, ty, pos, aft, none⟩) (ht : Nat.blt t n = true) (hy : Yc P n e w op f vs)
    (hc : Calls P f vs.toArray w (RetD T b c w R)) (k : ∀ v w', OldC w0 w (cu T b c :: C') → R v w' → Sat M w0 w' (cu T b c :: C') → WA P n ops Q Cl fuel (listed.setIfInBounds i true) ((t, v) :: e) w') : WA P n ops Q Cl (fuel + 1) listed e w :=
  WA.callR hr hi ht hy hc fun _ w' ⟨v, he, h1, h2, h3⟩ => ⟨v, he, hcl _ (hs.moved hsel h1 h2), k v w' (hs.sel hsel).oldc h3 (hs.moved hsel h1 h2)⟩
theorem WA.callx {i : Nat} {R : Value → World → Prop} (hs : Sat M w0 w C) (hcl : ∀ w', Sat M w0 w' C → Cl w') (hr : Region.ready .any ops listed = [i]) (hi : ops[i]? = some ⟨some t, op, ty, pos, aft, none⟩) (ht : Nat.blt t n = true) (hy : Yc P n e w op f vs)
    (hc : Calls P f vs.toArray w (Ret w R)) (k : ∀ v w', OldC w0 w C → R v w' → Sat M w0 w' C → WA P n ops Q Cl fuel (listed.setIfInBounds i true) ((t, v) :: e) w') : WA P n ops Q Cl (fuel + 1) listed e w :=
  WA.callR hr hi ht hy hc fun _ w' ⟨v, he, hb, hr⟩ => ⟨v, he, hcl _ (hs.ext hb), k v w' hs.oldc hr (hs.ext hb)⟩
end


/-! The same rules, what is closed found by itself. -/
section
variable {P : Program} {n : Nat} {ops : Array Oper} {Q : Exit → Act → World → Prop} {e : Env} {w w0 : World} {C D : List Chunk}
variable {t : Nat} {ty : TypeId} {pos : String} {aft : Array Edge} {fuel : Nat} {listed : Array Bool}
theorem WA.pq (i : Nat) {op : Op} {v : Value} (hi : ops[i]? = some ⟨some t, op, ty, pos, aft, none⟩) (hs : Sat M w0 w C) (hy : ∀ w, Sat M w0 w D → Yl P n e w op ty v) (h : WA P n ops Q (fun w' => Sat M w0 w' D) fuel (listed.setIfInBounds i true) ((t, v) :: e) w)
    (hsel : ∀ w', Sat M w0 w' C → Sat M w0 w' D := by intro _ hs; exact hs.only (by repeat (first | exact Sel.nil | (apply Sel.cons; (repeat (first | exact Ext.here | apply Ext.there))))))
    (hno : Region.noSelect ops = true := by kernel_rfl) (hfree : Region.free .any ops listed i = true := by kernel_rfl) (hr : (Region.ready .any ops listed).contains i = true := by kernel_rfl) (ht : Nat.blt t n = true := by rfl) :
    WA P n ops Q (fun w' => Sat M w0 w' D) (fuel + 1) listed e w := WA.p hi hno hfree hr ht (hsel _ hs) hy h
theorem WA.stq (i : Nat) {T TB : TypeId} {x y : Operand} {b o : Nat} {v : Value} {cs vs cs' : List Value} {C' : List Chunk} (hi : ops[i]? = some ⟨none, .store T x y, ty, pos, aft, none⟩) (hs : Sat M w0 w C) (hsz : (P.info? T).map (·.size) = some vs.length)
    (h : ∀ w', Sat M w0 w' C' → WA P n ops Q (fun w' => Sat M w0 w' D) fuel (listed.setIfInBounds i true) e w')
    (hx : ev? e x = some (bp b o) := by rfl) (hy : ev? e y = some v := by rfl) (hv : v.cells = vs.toArray := by rfl)
    (hrp : Repl (Go.Sw.box b TB cs) (Go.Sw.box b TB cs') C C' := by repeat (first | exact Repl.here | apply Repl.there)) (hset : SetAt cs o vs cs' := by repeat (first | (apply SetAt.here; repeat (first | exact Over.nil | apply Over.cons)) | apply SetAt.there)) (h1 : vs.all Value.oneCell' = true := by rfl)
    (hsel : ∀ w', Sat M w0 w' C' → Sat M w0 w' D := by intro _ hs; exact hs.only (by repeat (first | exact Sel.nil | (apply Sel.cons; (repeat (first | exact Ext.here | apply Ext.there))))))
    (hr : Region.ready .any ops listed = [i] := by kernel_rfl) :
    WA P n ops Q (fun w' => Sat M w0 w' D) (fuel + 1) listed e w := WA.s hr hi (Yr.storeB hs hx hy hv hrp hset h1 hsz) (fun _ w' h => hsel w' h) (fun _ w' hs' => h w' hs')
theorem WI.alq (i : Nat) {T : TypeId} {zs : List Value} (hi : ops[i]? = some ⟨some t, .alloc T, ty, pos, aft, none⟩) (hs : Sat M w0 w C) (hz : ZT P T zs)
    (h : ∀ b w', Sat M w0 w' (Go.Sw.box b T zs :: C) → WA P n ops Q (fun w' => Sat M w0 w' D) fuel (listed.setIfInBounds i true) ((t, bp b 0) :: e) w')
    (hsel : ∀ b w', Sat M w0 w' (Go.Sw.box b T zs :: C) → Sat M w0 w' D := by intro _ _ hs; exact hs.only (by repeat (first | exact Sel.nil | (apply Sel.cons; (repeat (first | exact Ext.here | apply Ext.there))))))
    (ht : Nat.blt t n = true := by rfl) :
    WI P n ops Q (fun w' => Sat M w0 w' D) fuel listed i e w := WI.r hi ht (Yr.alloc hs hz) (fun _ w' ⟨b, _, _, h⟩ => hsel b w' h) (fun _ w' ⟨b, hv, _, hs'⟩ => by subst hv; exact h b w' hs')
theorem WA.alq (i : Nat) {T : TypeId} {zs : List Value} (hi : ops[i]? = some ⟨some t, .alloc T, ty, pos, aft, none⟩) (hs : Sat M w0 w C) (hz : ZT P T zs)
    (h : ∀ b w', Sat M w0 w' (Go.Sw.box b T zs :: C) → WA P n ops Q (fun w' => Sat M w0 w' D) fuel (listed.setIfInBounds i true) ((t, bp b 0) :: e) w')
    (hsel : ∀ b w', Sat M w0 w' (Go.Sw.box b T zs :: C) → Sat M w0 w' D := by intro _ _ hs; exact hs.only (by repeat (first | exact Sel.nil | (apply Sel.cons; (repeat (first | exact Ext.here | apply Ext.there))))))
    (hr : Region.ready .any ops listed = [i] := by kernel_rfl) (ht : Nat.blt t n = true := by rfl) :
    WA P n ops Q (fun w' => Sat M w0 w' D) (fuel + 1) listed e w := WA.r hr hi ht (Yr.alloc hs hz) (fun _ w' ⟨b, _, _, h⟩ => hsel b w' h) (fun _ w' ⟨b, hv, _, hs'⟩ => by subst hv; exact h b w' hs')
theorem WA.callq (i : Nat) {op : Op} {f : FuncId} {vs : List Value} {R : Value → World → Prop} (hi : ops[i]? = some ⟨some t, op, ty, pos, aft, none⟩) (hs : Sat M w0 w C) (hy : Yc P n e w op f vs) (hc : Calls P f vs.toArray w (Ret w R)) (k : ∀ v w', Below w.heap.size w w' → R v w' → Sat M w0 w' C → WA P n ops Q (fun w' => Sat M w0 w' D) fuel (listed.setIfInBounds i true) ((t, v) :: e) w')
    (hsel : ∀ w', Sat M w0 w' C → Sat M w0 w' D := by intro _ hs; exact hs.only (by repeat (first | exact Sel.nil | (apply Sel.cons; (repeat (first | exact Ext.here | apply Ext.there))))))
    (hr : Region.ready .any ops listed = [i] := by kernel_rfl) (ht : Nat.blt t n = true := by rfl) :
    WA P n ops Q (fun w' => Sat M w0 w' D) (fuel + 1) listed e w := WA.call2 hs hsel hr hi ht hy hc k
theorem WI.callq (i : Nat) {op : Op} {f : FuncId} {vs : List Value} {R : Value → World → Prop} (hi : ops[i]? = some ⟨some t, op, ty, pos, aft, none⟩) (hs : Sat M w0 w C) (hy : Yc P n e w op f vs) (hc : Calls P f vs.toArray w (Ret w R)) (k : ∀ v w', Below w.heap.size w w' → R v w' → Sat M w0 w' C → WA P n ops Q (fun w' => Sat M w0 w' D) fuel (listed.setIfInBounds i true) ((t, v) :: e) w')
    (hsel : ∀ w', Sat M w0 w' C → Sat M w0 w' D := by intro _ hs; exact hs.only (by repeat (first | exact Sel.nil | (apply Sel.cons; (repeat (first | exact Ext.here | apply Ext.there))))))
    (ht : Nat.blt t n = true := by rfl) :
    WI P n ops Q (fun w' => Sat M w0 w' D) fuel listed i e w := WI.call2 hs hsel hi ht hy hc k
end

theorem lit_str {w : World} {l : List Str} (h : l.all (fun x => Nat.ble x.length 1000) = true) : ∀ x ∈ l, Ph.ok w x := fun x hx => by
  have := List.all_eq_true.1 h x hx
  have := Nat.le_of_ble_eq_true this
  show x.length ≤ 9223372036854775807
  omega
theorem lit_int {w : World} {l : List Int} (h : l.all (fun x => decide (-9223372036854775808 ≤ x ∧ x ≤ 9223372036854775807)) = true) : ∀ x ∈ l, Ph.ok w x := fun x hx => by
  have := List.all_eq_true.1 h x hx
  have := of_decide_eq_true this
  exact ⟨this.1, this.2⟩

/-! Bits of numbers. -/
def shrI (a j : Int) : Int := a.fdiv (2 ^ (min j.toNat 64))
def xorI (a b : Int) : Int := IntKind.i64.wrap ((BitVec.ofInt 64 a ^^^ BitVec.ofInt 64 b).toNat : Int)
def andI (a b : Int) : Int := IntKind.i64.wrap ((BitVec.ofInt 64 a &&& BitVec.ofInt 64 b).toNat : Int)
theorem Yl.shr {P : Program} {n : Nat} {e : Env} {w : World} {ty tx tyy : TypeId} {x y : Operand} {i j : Int} {k : IntKind} (hx : ev? e x = some (I i)) (hy : ev? e y = some (.int k j)) (hj : 0 ≤ j) : Yl P n e w (.binOp .shr tx x y tyy) ty (I (shrI i j)) := Yl.bin hx hy (by
  have : ¬ j < 0 := by omega
  simp [eqGuard, binOp, Op.shift, this, shrI, IntKind.bits])
theorem Yl.xorb {P : Program} {n : Nat} {e : Env} {w : World} {ty tx tyy : TypeId} {x y : Operand} {i j : Int} (hx : ev? e x = some (I i)) (hy : ev? e y = some (I j)) : Yl P n e w (.binOp .xor tx x y tyy) ty (I (xorI i j)) := Yl.bin hx hy (by
  simp only [eqGuard, binOp, Op.intBits]; rfl)
theorem Yl.andb {P : Program} {n : Nat} {e : Env} {w : World} {ty tx tyy : TypeId} {x y : Operand} {i j : Int} (hx : ev? e x = some (I i)) (hy : ev? e y = some (I j)) : Yl P n e w (.binOp .and tx x y tyy) ty (I (andI i j)) := Yl.bin hx hy (by
  simp only [eqGuard, binOp, Op.intBits]; rfl)
theorem andI_le (a : Int) {m : Nat} (hm : m < 9223372036854775808) : 0 ≤ andI a m ∧ andI a m ≤ m := by
  have h1 : (BitVec.ofInt 64 a &&& BitVec.ofInt 64 (m : Int)).toNat ≤ m := by
    rw [BitVec.toNat_and]
    refine Nat.le_trans Nat.and_le_right ?_
    rw [BitVec.toNat_ofInt]
    have h9 : ((m : Int) % ((2 ^ 64 : Nat) : Int)).toNat = m := by
      have : ((2 ^ 64 : Nat) : Int) = 18446744073709551616 := by decide
      rw [this]; omega
    omega
  unfold andI
  rw [wrap_in (by omega)]
  omega
theorem and255 (a : Int) : 0 ≤ andI a 255 ∧ andI a 255 ≤ 255 := andI_le a (m := 255) (by decide)
theorem and255_wf (a : Int) : WfI (andI a 255) := ⟨by have := and255 a; omega, by have := and255 a; omega⟩
theorem tmod_bd {a n : Int} (ha : 0 ≤ a) (hn : 0 < n) : 0 ≤ a.tmod n ∧ a.tmod n < n ∧ a.tmod n ≤ a := by
  rw [Int.tmod_eq_emod_of_nonneg ha]
  refine ⟨Int.emod_nonneg _ (by omega), Int.emod_lt_of_pos _ hn, ?_⟩
  by_cases h : a < n
  · rw [Int.emod_eq_of_lt ha h]; omega
  · have := Int.emod_lt_of_pos a hn; omega
theorem mem_len {l : List Str} {x : Str} (N : Nat) (h : x ∈ l) (hl : l.all (fun s => Nat.ble s.length N) = true) : x.length ≤ N := Nat.le_of_ble_eq_true (List.all_eq_true.1 hl x h)
theorem mem_int {l : List Int} {x : Int} (m N : Int) (h : x ∈ l) (hl : l.all (fun s => decide (m ≤ s ∧ s ≤ N)) = true) : m ≤ x ∧ x ≤ N := of_decide_eq_true (List.all_eq_true.1 hl x h)
/-- The cursor opened, and closed again. -/
theorem Sat.curopen {T : TypeId} {b : Sl UInt8} {c : Nat} {w0 w : World} {C : List Chunk} (hs : Sat M w0 w (cu T b c :: C)) : ∃ i h : Int, 0 ≤ i ∧ i ≤ 9223372036854775807 ∧ Sat M w0 w (box c T [b.v, I i, I h] :: C) := by
  have h1 := hs.all _ List.mem_cons_self
  obtain ⟨i, h, h2, h3, h4⟩ := h1.1
  refine ⟨i, h, h2, h3, hs.tch, fun d hd => ?_, ?_⟩
  · rcases List.mem_cons.1 hd with rfl | hd
    · exact ⟨h4, h1.2⟩
    · exact hs.all d (List.mem_cons_of_mem _ hd)
  · obtain ⟨h5, h6⟩ := List.pairwise_cons.1 hs.sep
    exact .cons h5 h6
theorem Sat.curclose {T : TypeId} {b : Sl UInt8} {c : Nat} {w0 w : World} {C : List Chunk} {cs : List Value} {i h : Int} (hs : Sat M w0 w (box c T cs :: C)) (hcs : cs = [b.v, I i, I h]) (h2 : 0 ≤ i) (h3 : i ≤ 9223372036854775807) : Sat M w0 w (cu T b c :: C) := by
  subst hcs
  have h1 := hs.all _ List.mem_cons_self
  refine ⟨hs.tch, fun d hd => ?_, ?_⟩
  · rcases List.mem_cons.1 hd with rfl | hd
    · exact ⟨⟨i, h, h2, h3, h1.1⟩, h1.2⟩
    · exact hs.all d (List.mem_cons_of_mem _ hd)
  · obtain ⟨h5, h6⟩ := List.pairwise_cons.1 hs.sep
    exact .cons h5 h6

section
variable {P : Program} {n : Nat} {ops : Array Oper} {Q : Exit → Act → World → Prop} {e : Env} {w w0 : World} {C C' : List Chunk} {Cl : World → Prop} {fuel : Nat} {listed : Array Bool}
variable {t : Nat} {ty : TypeId} {pos : String} {aft : Array Edge} {op : Op} {f : FuncId} {vs : List Value} {T : TypeId} {b : Sl UInt8} {c : Nat}
theorem WI.calld {i : Nat} {R : Value → World → Prop} (hs : Sat M w0 w C) (hsel : Sel [cu T b c] C C') (hcl : ∀ w', Sat M w0 w' (cu T b c :: C') → Cl w') (hi : ops[i]? = some ⟨some t, op, ty, pos, aft, none⟩) (ht : Nat.blt t n = true) (hy : Yc P n e w op f vs)
    (hc : Calls P f vs.toArray w (RetD T b c w R)) (k : ∀ v w', OldC w0 w (cu T b c :: C') → R v w' → Sat M w0 w' (cu T b c :: C') → WA P n ops Q Cl fuel (listed.setIfInBounds i true) ((t, v) :: e) w') : WI P n ops Q Cl fuel listed i e w :=
  WI.callR hi ht hy hc fun _ w' ⟨v, he, h1, h2, h3⟩ => ⟨v, he, hcl _ (hs.moved hsel h1 h2), k v w' (hs.sel hsel).oldc h3 (hs.moved hsel h1 h2)⟩
theorem WI.callx {i : Nat} {R : Value → World → Prop} (hs : Sat M w0 w C) (hcl : ∀ w', Sat M w0 w' C → Cl w') (hi : ops[i]? = some ⟨some t, op, ty, pos, aft, none⟩) (ht : Nat.blt t n = true) (hy : Yc P n e w op f vs)
    (hc : Calls P f vs.toArray w (Ret w R)) (k : ∀ v w', OldC w0 w C → R v w' → Sat M w0 w' C → WA P n ops Q Cl fuel (listed.setIfInBounds i true) ((t, v) :: e) w') : WI P n ops Q Cl fuel listed i e w :=
  WI.callR hi ht hy hc fun _ w' ⟨v, he, hb, hr⟩ => ⟨v, he, hcl _ (hs.ext hb), k v w' hs.oldc hr (hs.ext hb)⟩
end

/-! Any list of results. -/
inductive RV (P : Program) (e : Env) (C : List Chunk) : List ResultVar → List Value → Prop
  | nil : RV P e C [] []
  | tmp {t : Nat} {v : Value} {rs : List ResultVar} {vs : List Value} (hv : get? e t = some v) (h : RV P e C rs vs) : RV P e C (.tmp t :: rs) (v :: vs)
  | cell {t k b : Nat} {T TB : TypeId} {cs : List Value} {rs : List ResultVar} {vs : List Value} (hT : Agg P T k) (hv : get? e t = some (bp b 0)) (hm : box b TB cs ∈ C) (hk : cs.length = k) (h : RV P e C rs vs) : RV P e C (.cell t T :: rs) (.agg cs.toArray :: vs)
theorem finT {P : Program} {fn : Func} {E : Ending → World → Prop} {e : Env} {w w0 : World} {C : List Chunk} {n : Nat} {rs : List ResultVar} {vs : List Value} (hr : fn.results = rs.toArray) (hl : 2 ≤ rs.length) (hs : Sat M w0 w C) (h9 : RV P e C rs vs) (h : E (.returned (.tuple vs.toArray)) w) : At n (bodyPost P fn E) .ret e w := fun a ha => by
  refine bodyPost_ret (v := .tuple vs.toArray) ?_ ha.defers h
  have hlen : vs.length = rs.length := by
    clear hr hl h
    induction h9 with
    | nil => rfl
    | tmp _ _ ih => simp [ih]
    | cell _ _ _ _ _ ih => simp [ih]
  have key : ∀ (g : ResultVar → Sem Value), (∀ t, g (.tmp t) = pure (a.tmps.getD t undef)) → (∀ t T, g (.cell t T) = (do loadVar T (← asAddr (a.tmps.getD t undef)))) → (rs.mapM g).run P w = .ok vs w := by
    intro g h1 h2
    clear hr hl h hlen
    induction h9 with
    | nil => simp
    | tmp hv _ ih =>
      have h3 := ha.get _ _ hv
      rw [List.mapM_cons, h1, h3]
      simp [Sem.run_bind, ih]
    | cell hT hv hm hk _ ih =>
      have h3 := ha.get _ _ hv
      have h4 := hT.load hk (hs.box_cells hm)
      rw [List.mapM_cons, h2, h3]
      simp [Sem.run_bind, ih, asAddr, h4]
  have h5 : vs.toArray.size ≠ 1 := by simp; omega
  unfold results
  rw [hr, List.mapM_toArray]
  simp only [Sem.run_bind, Sem.run_map]
  rw [key]
  · simp only [Result.andThen_ok, Sem.run_pure]
    rw [dif_neg h5]
  · intro t; rfl
  · intro t T; rfl

def hosts3 : List Str := [[104, 111, 109, 101], [99, 100, 110], [101, 118, 105, 108]]
theorem hosts3_len {x : Str} (h : x ∈ hosts3) : x.length ≤ 4 := mem_len 4 h (by rfl)
theorem lsz_app {α : Type} {f : α → Nat} {l m : List α} : lsz f (l ++ m) = lsz f l + lsz f m := by simp [lsz, lsum]; omega
theorem lsz_one {α : Type} {f : α → Nat} {x : α} : lsz f [x] = 1 + f x := by simp [lsz, lsum]

/-! Ways that part in a region and meet at its end. -/
theorem Sub.app {K G e : Env} (h1 : Sub G e) (h2 : Sub K e) : Sub (G ++ K) e := by
  induction G with
  | nil => exact h2
  | cons p r ih => exact ⟨h1.1, ih h1.2⟩
theorem WC.quietnJ {ι : Type} {P : Program} {n : Nat} {Q : Exit → Act → World → Prop} {e : Env} {w w0 : World} {C : List Chunk} (G : ι → Env) (J : ι → Prop) (K : Env) {id : Nat} {l : List Oper} {y : Code} (hm : P.follows .mixedOrders = true) (hB : Region.lexB .any l.toArray = true) (hs : Sat M w0 w C) (hK : Sub K e)
    (h : ∀ Qa : Act → Prop, (∀ i e', J i → Sub (G i) e' → Sub K e' → ∀ a, Ag n e' a → Qa a) → WQ P n l.toArray (fun w' => Sat M w0 w' C) Qa l e)
    (k : ∀ i w', J i → Sat M w0 w' C → WC P n Q y (G i ++ K) w') : WC P n Q (.seq (.region id l.toArray true) y) e w :=
  WC.quietn hm hB hs (h _ fun i e' hj h1 h2 a ha w' hw => k i w' hj hw a (ha.sub (Sub.app h1 h2)))
theorem WC.seqJ {ι : Type} {P : Program} {n : Nat} {Q : Exit → Act → World → Prop} {e : Env} {w w0 : World} {C : List Chunk} (G : ι → Env) (J : ι → Prop) (K : Env) {id : Nat} {l : List Oper} {y : Code} (hs : Sat M w0 w C) (hK : Sub K e)
    (h : ∀ Q' : Exit → Act → World → Prop, (∀ i e' w', J i → Sat M w0 w' C → Sub (G i) e' → Sub K e' → At n Q' .normal e' w') → WC P n Q' (.region id l.toArray false) e w)
    (k : ∀ i w', J i → Sat M w0 w' C → WC P n Q y (G i ++ K) w') : WC P n Q (.seq (.region id l.toArray false) y) e w :=
  WC.seq' (h _ fun i e' w' hj hs' h1 h2 a ha => k i w' hj hs' a (ha.sub (Sub.app h1 h2)))

/-- A field of a struct's value. -/
def FV (P : Program) (s : TypeId) (f off : Nat) : Prop := ∀ (cs : Array Value) (v : Value) (w : World), cs[off]? = some v → (Instr.field s (.agg cs) f).run P w = .ok v w
theorem FV.of {P : Program} {s T : TypeId} {f off : Nat} (h : (P.underlying s).bind (fieldOf · f) = some (off, T)) (hT : Sca P T) : FV P s f off := fun cs v w hv => by
  obtain ⟨d, i, h1, h2, h3, h4⟩ := hT.out
  cases hd : P.underlying s with
  | none => simp [hd] at h
  | some ds =>
    cases ds with
    | struct fs =>
      simp only [hd, Option.bind_some, fieldOf] at h
      cases hf : fs[f]? with
      | none => simp [hf] at h
      | some x =>
        simp only [hf, Option.map_some, Option.some.injEq, Prod.mk.injEq] at h
        obtain ⟨rfl, rfl⟩ := h
        have hu : (underlying s).run P w = .ok (.struct fs) w := by simp [underlying, hd]
        have hp : (part x.type cs x.offset).run P w = .ok v w := by
          have hq : (isAgg x.type).run P w = .ok false w := by
            cases d <;> first | (simp [notAgg] at h2; done) | simp [isAgg, underlying, h1]
          simp [part, hq, hv]
        simp only [Instr.field, Sem.run_bind, hu, Result.andThen_ok, hf, asAgg, Sem.run_pure, hp]
    | _ => simp [hd, fieldOf] at h
theorem Yl.field {P : Program} {n : Nat} {e : Env} {w : World} {ty s : TypeId} {x : Operand} {f off : Nat} {cs : Array Value} {v : Value} (h : FV P s f off) (hx : ev? e x = some (.agg cs)) (hv : cs[off]? = some v) : Yl P n e w (.field s x f) ty v := fun or a ha ho _ => by
  simp only [execOp, ho, ha.ev hx, Sem.run_bind, h cs v w hv, Result.andThen_ok]; rfl

theorem quo_bd {k : Nat} (h : k < 101) : 0 ≤ IntKind.i64.wrap (Int.tdiv (k : Int) 20) ∧ IntKind.i64.wrap (Int.tdiv (k : Int) 20) ≤ 5 := by
  rw [Int.tdiv_eq_ediv_of_nonneg (by omega), wrap_in (by omega)]; omega
theorem ch_mod {k : Nat} (h : k < 101) : 97 + Int.tmod (k : Int) 20 = ((UInt8.ofNat (97 + k % 20)).toNat : Int) := by
  have h9 : (UInt8.ofNat (97 + k % 20)).toNat = 97 + k % 20 := by simp; omega
  rw [h9, Int.tmod_eq_emod_of_nonneg (by omega)]; omega
theorem ch_quo {k : Nat} (h : k < 101) : 97 + IntKind.i64.wrap (Int.tdiv (k : Int) 20) = ((UInt8.ofNat (97 + k / 20)).toNat : Int) := by
  have h9 : (UInt8.ofNat (97 + k / 20)).toNat = 97 + k / 20 := by simp; omega
  rw [h9, Int.tdiv_eq_ediv_of_nonneg (by omega), wrap_in (by omega)]; omega
theorem lsz_set_le {α : Type} {f : α → Nat} : ∀ {l : List α} {k : Nat} {x : α}, lsz f (l.set k x) ≤ lsz f l + f x
  | [], _, _ => by simp
  | y :: l, 0, x => by simp only [List.set_cons_zero, lsz_cons]; omega
  | y :: l, k + 1, x => by
    have := lsz_set_le (f := f) (l := l) (k := k) (x := x)
    simp only [List.set_cons_succ, lsz_cons]; omega

section
variable {P : Program} {n : Nat} {ops : Array Oper} {Q : Exit → Act → World → Prop} {e : Env} {w w0 : World} {C : List Chunk} {Cl : World → Prop} {fuel : Nat} {listed : Array Bool}
variable {t : Nat} {ty : TypeId} {pos : String} {aft : Array Edge} {op : Op} {f : FuncId} {vs : List Value}
theorem WA.call2g {i j : Nat} {want : Bool} {d : Nat} {R : Value → World → Prop} (hs : Sat M w0 w C) (hcl : ∀ w', Sat M w0 w' C → Cl w') (hr : Region.ready .any ops listed = [i]) (hi : ops[i]? = some ⟨some t, op, ty, pos, aft, some (j, want)⟩)
    (hd : ((ops[j]?).bind (·.dst)) = some d) (hx : get? e d = some (.bool want)) (ht : Nat.blt t n = true) (hy : Yc P n e w op f vs)
    (hc : Calls P f vs.toArray w (Ret w R)) (k : ∀ v w', Below w.heap.size w w' → R v w' → Sat M w0 w' C → WA P n ops Q Cl fuel (listed.setIfInBounds i true) ((t, v) :: e) w') : WA P n ops Q Cl (fuel + 1) listed e w :=
  WA.callRg hr hi hd hx ht hy hc fun _ w' ⟨v, he, hb, hR⟩ => ⟨v, he, hcl _ (hs.ext hb), k v w' hb hR (hs.ext hb)⟩
end
end Go.Sw
