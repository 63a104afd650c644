/- The symbolic walk: appending to own slices; conversions that make slices. General laws over any program; no conditions. -/
import Derived.Test.YthlbohgfikckfaaLibU
import Derived.ArgAppend
import Derived.Laws.IdiomStrings
set_option linter.all false
namespace Go.Sw
open Go Go.RowKit
variable {M : Nat → Prop}

section
variable {α : Type} [Ph α] [Own α]

/-- A row that was made, as an own slice. -/
theorem ownsRow_own {w : World} {base el n : Nat} {v : Value} {l : List α} (h : w.ownsRow base el (Ph.sz α) v n (encs l)) (hn : l.length = n) (hok : ownL w l []) :
    ∃ (s : Sl α) (F : List Nat), v = s.v ∧ s.l = l ∧ OwnS w s F ∧ F.Nodup ∧ ∀ b ∈ F, base ≤ b ∧ b < w.heap.size := by
  obtain ⟨h1, h2⟩ := h
  rcases h2 with ⟨rfl, rfl⟩ | ⟨g, cap, cur, rfl, h3, h4, h5, h6, h7, h8⟩
  · obtain rfl := List.eq_nil_of_length_eq_zero hn
    exact ⟨⟨[], none, 0⟩, [], rfl, rfl, nilOwn w, .nil, by simp⟩
  · refine ⟨⟨l, some ⟨g, 0, none⟩, cap⟩, [g], by rw [← hn], rfl, ⟨by simp only [hn]; exact h5, h6, [g], [], rfl, .row rfl h4 h7 ?_, hok⟩, by simp, fun b hb => ?_⟩
    · rw [h1]; exact h8
    · obtain rfl : b = g := by simpa using hb
      exact ⟨h3, (Array.getElem?_eq_some_iff.1 h4).1⟩

theorem addr_add (b o j : Nat) : (⟨b, o, none⟩ : Go.Addr).add j = ⟨b, o + j, none⟩ := Addr.add_lit b o j

/-- The append that has room, whatever type the row bears. -/
theorem run_append_room' {P : Program} (w : World) (t ty e e' : TypeId) (i : TypeInfo) (ht : P.underlying t = some (.slice e)) (hi : P.info? e = some i)
    (g sLen sCap : Nat) (cur : Array Value) (hg : w.heap[g]? = some (.cells cur e' (0, 0)))
    (a : Go.Addr) (m c : Nat) (news : List Value) (hl : news.length = m * i.size) (hnews : ∀ j u, news[j]? = some u → w.cell? (a.add j) = some u) (h1 : ∀ u ∈ news, u.oneCell' = true)
    (hroom : sLen + m ≤ sCap) (hfit : sLen * i.size + news.length ≤ cur.size) :
    (Builtin.append_ #[t, t] ty #[.slice (some ⟨g, 0, none⟩) sLen sCap, .slice (some a) m c]).run P w =
      .ok (.slice (some ⟨g, 0, none⟩) (sLen + m) sCap) (w.setRow g (lay cur.toList (sLen * i.size) news).toArray) := by
  have hf := run_firstCells_some (P := P) w i.size m a m c news hl hnews
  have hst := run_storeCells_at P g (sLen * i.size) e' news 0 cur w hg (by simpa using hfit) h1
  simp only [Nat.add_zero] at hst
  simp [Builtin.append_, run_underlying ht, sizeOf, typeInfo, hi, Builtin.lenOf, hroom, hf, Addr.add_lit, hst, lay]

section rules
variable {P : Program} {n : Nat} {e : Env} {w w0 : World} {C : List Chunk} {ty : TypeId}

theorem ownL_nil_ok {β : Type} [Ph β] [Flat β] {w w' : World} {l m : List β} {F : List Nat} (h : ownL w l F) (hm : ∀ x ∈ m, Ph.ok w x) : ownL w' (l ++ m) [] :=
  ownL_mk_flat fun x hx => by
    rcases List.mem_append.1 hx with hx | hx
    · exact Flat.any (ownL_ok h x hx)
    · exact Flat.any (hm x hx)

/-- Flat data appended to an own slice. -/
theorem Yr.append {β : Type} [Ph β] [Flat β] {t el : TypeId} {s : Sl β} {xs : List β} {F : List Nat} {x y : Operand} {b off m c bytes : Nat} {z : β} {C' : List Chunk} (hs : Sat M w0 w C) (hT : ElT P t el z bytes) (hsel : Sel [ow s F] C C')
    (hx : ev? e x = some (.slice s.a s.l.length s.c)) (hy : ev? e y = some (.slice (some ⟨b, off, none⟩) m c)) (hm : xs.length = m) (hc : CellsAt w b off (encs xs)) (hok : ∀ x ∈ xs, Ph.ok w x)
    (hlen : s.l.length + m ≤ maxLen) (hby : (s.l.length + m) * bytes ≤ 140737488355328) :
    Yr P n e w (.call ⟨.builtin .append, #[x, y], #[t, t]⟩) ty (fun v' w' => ∃ (s' : Sl β) (F' : List Nat), v' = s'.v ∧ s'.l = s.l ++ xs ∧ Sat M w0 w' (ow s' F' :: C')) := fun or a ha ho _ => by
  have hs2 := hs.sel hsel
  obtain ⟨hp, hnd⟩ := (hs2.all (ow s F) (by simp)).1
  obtain ⟨F0, F1, hF, harr, hels⟩ := hp.out
  obtain ⟨inf, zv, hi, hz, hsz, hb, hzc⟩ := hT.inf
  subst hb
  have hlenx : (encs xs).length = m * Ph.sz β := by rw [encs_length, hm]
  have hnews : ∀ j u, (encs xs)[j]? = some u → w.cell? ((⟨b, off, none⟩ : Go.Addr).add j) = some u := fun j u hj => by rw [addr_add]; exact hc j u hj
  have hone : ∀ u ∈ encs xs, u.oneCell' = true := encs_one xs
  have hzs : zv.cells.size = Ph.sz β := by rw [hzc]; simp [Ph.len]
  have hexec : ∀ (v' : Value) (w' : World), (Builtin.append_ #[t, t] or.type #[.slice s.a s.l.length s.c, .slice (some ⟨b, off, none⟩) m c]).run P w = .ok v' w' → (execOp a.eval or).run P w = .ok (.value v') w' := fun v' w' hr => by
    simp only [execOp, ho, resolve, invoke, builtin, Sem.run_bind, Sem.run_pure, Result.andThen_ok, List.map_toArray, List.map_cons, List.map_nil, ha.ev hx, ha.ev hy, hr]
  -- a new row
  have grown : ∀ (v' : Value) (w' : World), w'.ownsRow w.heap.size el (Ph.sz β) v' (s.l.length + m) (encs (s.l ++ xs)) → w.grownBy w' none →
      ∃ (s' : Sl β) (F' : List Nat), v' = s'.v ∧ s'.l = s.l ++ xs ∧ Sat M w0 w' (ow s' F' :: C') := fun v' w' hr hg => by
    obtain ⟨s', F', h1, h2, h3, h4, h5⟩ := ownsRow_own hr (by simp [hm]) (ownL_nil_ok hels hok)
    have hbel : Below w.heap.size w w' := ⟨hg.os, hg.tape, hg.output, hg.size, fun b hb => hg.block b hb (by simp)⟩
    exact ⟨s', F', h1, h2, hs2.tail.add hbel ⟨h3, h4⟩ h5⟩
  cases harr with
  | nil h1 h2 h3 =>
    have hl0 : s.l = [] := by
      have := encs_length s.l
      rw [h3] at this
      have hpos : 0 < Ph.sz β := Ph.pos
      rcases Nat.eq_zero_or_pos s.l.length with h | h
      · exact List.eq_nil_of_length_eq_zero h
      · have := Nat.mul_pos h hpos; simp at *; omega
    obtain ⟨v', w', hr, h4, h5, _⟩ := run_append_own (P := P) w w.heap.size t or.type el inf zv (Ph.sz β) inf.bytes hT.und hi hz hsz rfl hzs Ph.pos (.slice none 0 0) 0 [] (World.ownsRow_nil w _ el _) ⟨b, off, none⟩ m c (encs xs) hlenx hnews hone (by rw [hl0] at hlen; simpa using hlen) (by rw [hl0] at hby; simpa using hby) (Nat.le_refl _)
    have hv : (.slice s.a s.l.length s.c : Value) = .slice none 0 0 := by rw [h1, h2, hl0]; rfl
    obtain ⟨s', F', g1, g2, g3⟩ := grown v' w' (by rw [hl0]; simpa using h4) h5
    exact ⟨v', w', .inl (hexec v' w' (by rw [hv]; exact hr)), s', F', g1, g2, g3⟩
  | @row g cur e' h1 h2 h3 h4 =>
    have hv : (.slice s.a s.l.length s.c : Value) = .slice (some ⟨g, 0, none⟩) s.l.length s.c := by rw [h1]
    have hL : (encs s.l).length = s.l.length * Ph.sz β := encs_length _
    by_cases hroom : s.l.length + m ≤ s.c
    · have hfit : s.l.length * Ph.sz β + (encs xs).length ≤ cur.size := by rw [hlenx, ← Nat.add_mul, h3]; exact Nat.mul_le_mul_right _ hroom
      have hr := run_append_room' (P := P) w t or.type el e' inf hT.und hi g s.l.length s.c cur h2 ⟨b, off, none⟩ m c (encs xs) (by rw [hsz]; exact hlenx) hnews hone hroom (by rw [hsz]; exact hfit)
      rw [hsz] at hr
      refine ⟨_, _, .inl (hexec _ _ (by rw [hv]; exact hr)), ⟨s.l ++ xs, some ⟨g, 0, none⟩, s.c⟩, F, by simp [Sl.v, hm], rfl, hs2.touch .here ((touch_setRow (b := g)).mono (by rintro k rfl; show k ∈ F; rw [hF]; simp)) ⟨⟨by simpa [hm] using hroom, hp.max, [g], F1, hF, .row rfl (setRow_heap w g cur _ e' (0, 0) h2) ?_ ?_, ?_⟩, hnd⟩ (fun k hk => .inl hk)⟩
      · simp only [List.size_toArray]
        unfold lay
        simp only [List.length_append, List.length_take, List.length_drop, Array.length_toList]
        omega
      · have ht : cur.toList.take (s.l.length * Ph.sz β) = encs s.l := by rw [← hL]; exact h4
        show (lay cur.toList (s.l.length * Ph.sz β) (encs xs)).take (encs (s.l ++ xs)).length = encs (s.l ++ xs)
        unfold lay
        rw [ht, encs_append, List.take_left]
      · have hn1 : F1 = [] := ownL_flat hels
        rw [hn1]; exact ownL_nil_ok hels hok
    · obtain ⟨v', w', hr, h5, h6⟩ := run_append_arg_grows (P := P) w t or.type el inf zv (Ph.sz β) inf.bytes hT.und hi hz hsz rfl hzs Ph.pos ⟨g, 0, none⟩ s.l.length s.c (encs s.l) hL (fun j u hj => by
          rw [addr_add, Nat.zero_add, cell_of_row w g j cur e' (0, 0) h2]
          rw [← h4, List.getElem?_take] at hj
          split at hj
          · simpa using hj
          · cases hj) ⟨b, off, none⟩ m c (encs xs) hlenx hnews (by omega) hlen hby
      obtain ⟨s', F', g1, g2, g3⟩ := grown v' w' (by rw [encs_append]; exact h5) h6
      exact ⟨v', w', .inl (hexec v' w' (by rw [hv]; exact hr)), s', F', g1, g2, g3⟩

/-- A slice of flat data appended to an own slice. -/
theorem Yr.appendS {β : Type} [Ph β] [Flat β] {t el : TypeId} {s r : Sl β} {F : List Nat} {x y : Operand} {bytes : Nat} {z : β} {C' : List Chunk} (hs : Sat M w0 w C) (hT : ElT P t el z bytes) (hsel : Sel [ow s F] C C')
    (hx : ev? e x = some (.slice s.a s.l.length s.c)) (hy : ev? e y = some (.slice r.a r.l.length r.c)) (hr : Sl.Ok w r)
    (hlen : s.l.length + r.l.length ≤ maxLen) (hby : (s.l.length + r.l.length) * bytes ≤ 140737488355328) :
    Yr P n e w (.call ⟨.builtin .append, #[x, y], #[t, t]⟩) ty (fun v' w' => ∃ (s' : Sl β) (F' : List Nat), v' = s'.v ∧ s'.l = s.l ++ r.l ∧ Sat M w0 w' (ow s' F' :: C')) := by
  rcases hr.cells with h0 | ⟨h1, h2⟩
  · intro or a ha ho _
    have hs2 := hs.sel hsel
    obtain ⟨hp, hnd⟩ := (hs2.all (ow s F) (by simp)).1
    obtain ⟨inf, zv, hi, hz, hsz, hb, hzc⟩ := hT.inf
    refine ⟨s.v, w, .inl ?_, s, F, rfl, by simp [h0], hs2⟩
    have hle := hp.le
    have hrun : (Builtin.append_ #[t, t] or.type #[.slice s.a s.l.length s.c, .slice r.a r.l.length r.c]).run P w = .ok s.v w := by
      rw [h0]
      cases hra : r.a with
      | none => cases hsa : s.a <;> simp [Builtin.append_, run_underlying hT.und, sizeOf, typeInfo, hi, Builtin.lenOf, hle, Builtin.firstCells, storeCells, Sl.v, hsa]
      | some ad =>
        have hf := run_firstCells_some (P := P) w inf.size 0 ad 0 r.c [] (by simp) (by simp)
        cases hsa : s.a <;> simp [Builtin.append_, run_underlying hT.und, sizeOf, typeInfo, hi, Builtin.lenOf, hle, hf, storeCells, Sl.v, hsa]
    simp only [execOp, ho, resolve, invoke, builtin, Sem.run_bind, Sem.run_pure, Result.andThen_ok, List.map_toArray, List.map_cons, List.map_nil, ha.ev hx, ha.ev hy, hrun]
  · rw [h1] at hy
    exact Yr.append hs hT hsel hx hy rfl h2 hr.elems hlen hby

/-- A row that is only read. -/
def rd (s : Sl α) (b : Nat) : Chunk := fc [b] (fun w => s.a = some ⟨b, 0, none⟩ ∧ s.l.length ≤ s.c ∧ s.c ≤ maxLen ∧ (∃ cur el fz, w.heap[b]? = some (.cells cur el fz) ∧ cur.toList.take (encs s.l).length = encs s.l) ∧ ownL w s.l [])
  (fun w w' h hp => ⟨hp.1, hp.2.1, hp.2.2.1, by obtain ⟨cur, el, fz, h1, h2⟩ := hp.2.2.2.1; exact ⟨cur, el, fz, by rw [h b (by simp)]; exact h1, h2⟩, ownL_loc (by simp) hp.2.2.2.2⟩)

theorem Sat.okrd {s : Sl α} {b : Nat} (hs : Sat M w0 w C) (hm : rd s b ∈ C) : Sl.Ok w s := by
  obtain ⟨h1, h2, h3, ⟨cur, el, fz, h4, h5⟩, h6⟩ := (hs.all _ hm).1.1
  refine ⟨h2, h3, .inr ⟨by rw [h1]; simp [Sl.blk, Sl.off, h1], fun j v hj => ?_⟩, ownL_ok h6⟩
  have hblk : s.blk = b := by simp [Sl.blk, h1]
  have hoff : s.off = 0 := by simp [Sl.off, h1]
  rw [hblk, hoff, Nat.zero_add, cell_of_row w b j cur el fz h4]
  rw [← h5, List.getElem?_take] at hj
  split at hj
  · simpa using hj
  · cases hj

theorem encs_bytes : ∀ s : Str, encs s = s.map (fun b => U8 b)
  | [] => rfl
  | a :: s => by rw [encs_cons, encs_bytes s]; rfl

/-- The bytes of a string. -/
theorem Yr.strBytes {src dst el : TypeId} {x : Operand} {s : Str} (hs : Sat M w0 w C) (h1 : P.underlying src = some .string) (h2 : P.underlying dst = some (.slice el)) (h3 : P.underlying el = some (.int .u8)) (hx : ev? e x = some (S s)) (hl : s.length ≤ 9223372036854775807) :
    Yr P n e w (.convert src dst x) ty (fun v' w' => ∃ (r : Sl UInt8) (b : Nat), v' = r.v ∧ r.l = s ∧ Below w.heap.size w w' ∧ Sat M w0 w' (rd r b :: C)) := fun or a ha ho _ => by
  have hr := run_bytes_of_string (P := P) w src dst el ⟨s.toArray⟩ h1 h2 h3
  have hge := grownCap_ge w s.length 0 el
  have hle := grownCap_le_maxLen w s.length 0 el (by unfold maxLen; omega)
  have hsz : (⟨s.toArray⟩ : ByteArray).size = s.length := by simp [ByteArray.size]
  rw [hsz] at hr
  generalize hcap : grownCap w s.length 0 el = cap at *
  have hbel : Below w.heap.size w (w.drew.alloc (.cells (bytesRow ⟨s.toArray⟩ cap) el ((bytesRow ⟨s.toArray⟩ cap).size, (bytesRow ⟨s.toArray⟩ cap).size + 1))) := ((Below.refl _ _).drew).alloc (Nat.le_refl _) _
  refine ⟨.slice (some ⟨w.heap.size, 0, none⟩) s.length cap, _, .inl ?_, ⟨s, some ⟨w.heap.size, 0, none⟩, cap⟩, w.heap.size, rfl, rfl, hbel, hs.add hbel ⟨⟨rfl, hge, hle, ⟨_, _, _, heap_alloc_new w.drew _, ?_⟩, ownL_mk_flat (fun _ _ => trivial)⟩, by simp⟩ ?_⟩
  · simp only [execOp, ho, ha.ev hx, Sem.run_bind]
    rw [show (S s : Value) = .string ⟨s.toArray⟩ from rfl, hr]; rfl
  · rw [show encs (⟨s, some ⟨w.heap.size, 0, none⟩, cap⟩ : Sl UInt8).l = s.map (fun b => U8 b) from encs_bytes s]
    simp [bytesRow]
  · intro b hb
    obtain rfl : b = w.heap.size := by simpa [rd, fc] using hb
    exact ⟨Nat.le_refl _, by simp⟩

/-- An integer made an int: nothing is lost from a byte. -/
theorem Yl.byteInt {src dst : TypeId} {x : Operand} {c : UInt8} (h1 : (P.underlying src).isSome = true) (h2 : P.underlying dst = some (.int .i64)) (hx : ev? e x = some (U8 c)) : Yl P n e w (.convert src dst x) ty (I (c.toNat : Int)) := fun or a ha ho _ => by
  have hk : P.intKind dst = .i64 := by simp [Program.intKind, h2]
  have hr := run_convert_int (P := P) w src dst .u8 (c.toNat : Int) h1 (by rw [hk]; exact h2)
  rw [hk] at hr
  have hw : IntKind.i64.wrap (c.toNat : Int) = (c.toNat : Int) := wrap_in (by have := c.toNat_lt; omega)
  rw [hw] at hr
  simp only [execOp, ho, ha.ev hx, Sem.run_bind, hr]; rfl
end rules
end

end Go.Sw
