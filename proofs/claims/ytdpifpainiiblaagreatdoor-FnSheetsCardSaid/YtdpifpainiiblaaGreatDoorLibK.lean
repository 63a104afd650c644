/- The symbolic walk: writes into parts of own elements; own elements lent and given back; own elements appended. General laws over any program; no conditions. -/
import Derived.Test.YtdpifpainiiblaaGreatDoorLibN
set_option linter.all false
namespace Go.Sw
open Go Go.RowKit
variable {M : Nat → Prop}

section
variable {α : Type} [Ph α] [Own α]

theorem lay_lay {cur vs zs : List Value} {o j : Nat} (h1 : j + vs.length ≤ zs.length) (h2 : o + zs.length ≤ cur.length) (hz : (cur.drop o).take zs.length = zs) :
    lay cur o (zs.take j ++ vs ++ zs.drop (j + vs.length)) = lay cur (o + j) vs := by
  unfold lay
  have e1 : cur.take (o + j) = cur.take o ++ zs.take j := by
    rw [List.take_add, ← hz, List.take_take, Nat.min_eq_left (by omega)]
  have e2 : zs.drop (j + vs.length) ++ cur.drop (o + zs.length) = cur.drop (o + j + vs.length) := by
    have : cur.drop o = zs ++ cur.drop (o + zs.length) := by
      have := (List.take_append_drop zs.length (cur.drop o)).symm
      rw [hz, List.drop_drop] at this; exact this
    rw [show o + j + vs.length = o + (j + vs.length) from by omega]
    have h9 := congrArg (List.drop (j + vs.length)) this
    rw [List.drop_drop, List.drop_append_of_le_length (by omega)] at h9
    exact h9.symm
  have e3 : (zs.take j ++ vs ++ zs.drop (j + vs.length)).length = zs.length := by simp; omega
  rw [e3, e1, ← e2]
  simp only [List.append_assoc]

/-- A part of one element written over. -/
theorem OwnS.part {w : World} {s : Sl α} {F : List Nat} {k j : Nat} {d x : α} {vs : List Value} (h : OwnS w s F) (hF : F.Nodup) (hd : s.l[k]? = some d) (hx : SetAt (Ph.enc d) j vs (Ph.enc x))
    (hown : ∀ (w' : World) (B : List Nat), (∀ b ∈ B, w'.heap[b]? = w.heap[b]?) → Own.own w d B → Own.own w' x B) :
    ∃ b o cur e, s.a = some ⟨b, o, none⟩ ∧ b ∈ F ∧ w.heap[b]? = some (.cells cur e (0, 0)) ∧ o + (k * Ph.sz α + j) + vs.length ≤ cur.size ∧
      OwnS (w.setRow b (lay cur.toList (o + (k * Ph.sz α + j)) vs).toArray) (⟨s.l.set k x, s.a, s.c⟩ : Sl α) F := by
  have hk : k < s.l.length := (List.getElem?_eq_some_iff.1 hd).1
  obtain ⟨b, o, cur, e, F1, h1, _, _, rfl, h2, h3, h4, h5⟩ := h.row hk
  have hle : k * Ph.sz α + Ph.sz α ≤ s.l.length * Ph.sz α := by have := Nat.mul_le_mul_right (Ph.sz α) hk; rwa [Nat.succ_mul] at this
  have hle2 : s.l.length * Ph.sz α ≤ s.c * Ph.sz α := Nat.mul_le_mul_right _ h.le
  obtain ⟨he, hj⟩ := hx.eq
  rw [Ph.len] at hj
  refine ⟨b, o, cur, e, h1, by simp, h2, by omega, ?_⟩
  obtain ⟨A, B, D, rfl, hB, hset⟩ := ownL_set h5 hd
  obtain ⟨n1, n2⟩ := List.nodup_cons.1 hF
  have hheap : ∀ y, y ≠ b → (w.setRow b (lay cur.toList (o + (k * Ph.sz α + j)) vs).toArray).heap[y]? = w.heap[y]? := fun y hy => setRow_other w b y _ hy
  have hz : ((cur.toList.drop o).drop (k * Ph.sz α)).take (Ph.enc d).length = Ph.enc d := by
    apply List.ext_getElem?
    intro i
    by_cases hi : i < (Ph.enc d).length
    · rw [List.getElem?_take, if_pos hi, List.getElem?_drop]
      have hg := encs_get s.l k d hd i _ (List.getElem?_eq_getElem hi)
      rw [← h4, List.getElem?_take] at hg
      split at hg
      · rw [List.getElem?_eq_getElem hi]; exact hg
      · cases hg
    · rw [List.getElem?_eq_none (by simp; omega), List.getElem?_eq_none (by omega)]
  have hlay : lay (cur.toList.drop o) (k * Ph.sz α + j) vs = lay (cur.toList.drop o) (k * Ph.sz α) (Ph.enc x) := by
    rw [he]
    exact (lay_lay (by rw [Ph.len]; exact hj) (by rw [Ph.len]; simp; omega) hz).symm
  refine ⟨by simpa using h.le, h.max, [b], A ++ B ++ D, rfl, ?_, ?_⟩
  · refine .row h1 (setRow_heap w b cur _ e (0, 0) h2) ?_ ?_
    · simp only [List.size_toArray]
      have hcl : cur.toList.length = cur.size := Array.length_toList
      rw [lay_length (by rw [hcl]; omega), hcl]; exact h3
    · show ((lay cur.toList (o + (k * Ph.sz α + j)) vs).drop o).take _ = _
      rw [lay_drop (by rw [Array.length_toList]; omega), hlay]; exact encs_lay hk h4
  · exact hset x B _ (fun u hu => hheap u (by rintro rfl; exact n1 (by simp only [List.mem_append] at hu ⊢; rcases hu with hu | hu <;> simp [hu]))) (hown _ B (fun u hu => hheap u (by rintro rfl; exact n1 (by simp [hu]))) hB)

theorem own_part_flat {β : Type} [Ph β] [Flat β] {w : World} {d x : β} (h : Ph.ok w x) : ∀ (w' : World) (B : List Nat), (∀ b ∈ B, w'.heap[b]? = w.heap[b]?) → Own.own w d B → Own.own w' x B :=
  fun _ _ _ hd => ⟨hd.1, Flat.any h⟩

section rules
variable {P : Program} {n : Nat} {e : Env} {w w0 : World} {C : List Chunk} {ty : TypeId}

/-- A store into a part of an own element. -/
theorem Yr.storeP {T : TypeId} {x y : Operand} {b o k j : Nat} {s : Sl α} {d u : α} {F : List Nat} {vs : List Value} {C' : List Chunk} (hs : Sat M w0 w C) (hsel : Sel [ow s F] C C') (hx : ev? e x = some (bp b o)) (hb : b = s.blk) (ho : o = s.off + k * Ph.sz α + j) (hd : s.l[k]? = some d)
    (hy : ∃ v, ev? e y = some v ∧ v.cells = vs.toArray) (hset : SetAt (Ph.enc d) j vs (Ph.enc u)) (hown : ∀ (w' : World) (B : List Nat), (∀ b ∈ B, w'.heap[b]? = w.heap[b]?) → Own.own w d B → Own.own w' u B) (h1 : vs.all Value.oneCell' = true) (hsz : (P.info? T).map (·.size) = some vs.length) :
    Yr P n e w (.store T x y) ty (fun _ w' => ∃ (s' : Sl α) (d' : α), d' = u ∧ s'.v = s.v ∧ s'.l = s.l.set k d' ∧ s'.l[k]? = some d' ∧ Sat M w0 w' (ow s' F :: C')) := fun or a ha hop _ => by
  subst hb; subst ho
  obtain ⟨v, hy, hv⟩ := hy
  have hs2 := hs.sel hsel
  have hp1 := (hs2.all (ow s F) (by simp)).1
  obtain ⟨b, o, cur, ce, h2, hbF, h3, h4, h5⟩ := OwnS.part hp1.1 hp1.2 hd hset hown
  have hblk : s.blk = b := by simp [Sl.blk, h2]
  have hoff : s.off = o := by simp [Sl.off, h2]
  rw [hblk, hoff, Nat.add_assoc] at hx
  have hone : ∀ v ∈ vs, v.oneCell' = true := fun v hv => List.all_eq_true.1 h1 v hv
  have hst := run_storeCells_at P b (o + (k * Ph.sz α + j)) ce vs 0 cur w h3 (by omega) hone
  simp only [Nat.add_zero] at hst
  have hk : k < s.l.length := (List.getElem?_eq_some_iff.1 hd).1
  refine ⟨undef, w.setRow b (lay cur.toList (o + (k * Ph.sz α + j)) vs).toArray, .inr ⟨?_, rfl⟩, ⟨s.l.set k u, s.a, s.c⟩, u, rfl, Sl.v_set, rfl, by simp [hk], ?_⟩
  · cases hi : P.info? T with
    | none => simp [hi] at hsz
    | some i =>
      simp only [hi, Option.map_some, Option.some.injEq] at hsz
      have hne : ¬ (v.cells.size ≠ i.size) := by rw [hv, hsz]; simp
      have : (storeVar T ⟨b, o + (k * Ph.sz α + j), none⟩ v).run P w = .ok () (w.setRow b (lay cur.toList (o + (k * Ph.sz α + j)) vs).toArray) := by
        simp only [storeVar, sizeOf, typeInfo, Sem.run_bind, run_program, Result.andThen_ok, hi, Sem.run_pure]
        rw [if_neg hne]
        rw [hv]; exact hst
      simp only [execOp, hop, ha.ev hx, ha.ev hy, Instr.storeAt, Instr.sureAddr, Sem.run_bind, Sem.run_pure, Result.andThen_ok, this]
  · exact hs2.touch .here ((touch_setRow (b := b)).mono (by rintro y rfl; exact hbF)) ⟨h5, hp1.2⟩ (fun y hy => .inl hy)

theorem Yl.indexAddrV {s : Sl α} {v0 : Value} {t el : TypeId} {x y : Operand} {kd : IntKind} {i : Int} {k : Nat} {d : α} (hT : SlT P t el (Ph.sz α)) (hx : ev? e x = some v0) (hv : s.v = v0) (hy : ev? e y = some (.int kd i))
    (hok : Sl.Ok w s) (hi : i = (k : Int)) (hk : s.l[k]? = some d) : Yl P n e w (.indexAddr t x y) ty (bp s.blk (s.off + k * Ph.sz α)) :=
  Yl.indexAddr hT (by rw [hx, ← hv]) hy hok hi hk
end rules

section
variable {P : Program} {n : Nat} {e : Env} {w : World} {ty : TypeId}
/-- An element's address: of no world. -/
theorem Yl.indexAddrA {s : Sl α} {t el : TypeId} {x y : Operand} {kd : IntKind} {i : Int} {k : Nat} {d : α} (hT : SlT P t el (Ph.sz α)) (hx : ev? e x = some (.slice s.a s.l.length s.c)) (hy : ev? e y = some (.int kd i))
    (ha : s.a = some ⟨s.blk, s.off, none⟩) (hi : i = (k : Int)) (hk : s.l[k]? = some d) : Yl P n e w (.indexAddr t x y) ty (bp s.blk (s.off + k * Ph.sz α)) := fun or a ha' ho _ => by
  subst hi
  have hlt : k < s.l.length := (List.getElem?_eq_some_iff.1 hk).1
  obtain ⟨inf, hi, hsz⟩ : ∃ inf, P.info? el = some inf ∧ inf.size = Ph.sz α := by
    cases h : P.info? el with
    | none => have := hT.size; simp [h] at this
    | some inf => exact ⟨inf, rfl, by have := hT.size; simpa [h] using this⟩
  rw [ha] at hx
  simp [execOp, ho, Instr.indexAt, ha'.ev hx, ha'.ev hy, asIntOf, run_underlying hT.und, hlt, sizeOf, typeInfo, hi, hsz, Addr.add_lit]
end

/-! An own element lent. -/
def hole (w : World) (s : Sl α) (k : Nat) (F : List Nat) : Prop :=
  s.l.length ≤ s.c ∧ s.c ≤ maxLen ∧ k < s.l.length ∧ ∃ F0 A D, F = F0 ++ (A ++ D) ∧ Arr w s.a s.c (Ph.sz α) (encs s.l) F0 ∧ ownL w (s.l.take k) A ∧ ownL w (s.l.drop (k + 1)) D

theorem hole_loc {s : Sl α} {k : Nat} {F : List Nat} (w w' : World) (h : ∀ b ∈ F, w'.heap[b]? = w.heap[b]?) (hh : hole w s k F) : hole w' s k F := by
  obtain ⟨h1, h2, h3, F0, A, D, rfl, h4, h5, h6⟩ := hh
  exact ⟨h1, h2, h3, F0, A, D, rfl, h4.loc (fun b hb => h b (by simp [hb])), ownL_loc (fun b hb => h b (by simp [hb])) h5, ownL_loc (fun b hb => h b (by simp [hb])) h6⟩

/-- A slice without its element k. -/
def hl (s : Sl α) (k : Nat) (F : List Nat) : Chunk := fc F (fun w => hole w s k F) hole_loc

theorem ownL_cut {w : World} : ∀ {l : List α} {F : List Nat} {k : Nat} {y : α}, ownL w l F → l[k]? = some y → ∃ A B D, F = A ++ B ++ D ∧ Own.own w y B ∧ ownL w (l.take k) A ∧ ownL w (l.drop (k + 1)) D
  | z :: l, F, 0, y, ⟨F1, F2, h1, h2, h3⟩, hk => by
    simp at hk; subst hk; subst h3
    exact ⟨[], F1, F2, by simp, h1, rfl, h2⟩
  | z :: l, F, k + 1, y, ⟨F1, F2, h1, h2, h3⟩, hk => by
    subst h3
    obtain ⟨A, B, D, rfl, h4, h5, h6⟩ := ownL_cut h2 (by simpa using hk)
    exact ⟨F1 ++ A, B, D, by simp, h4, ⟨F1, A, h1, h5, rfl⟩, h6⟩

theorem Sat.lend {w0 w : World} {C : List Chunk} {s : Sl α} {F : List Nat} {k : Nat} {d : α} (hs : Sat M w0 w (ow s F :: C)) (hd : s.l[k]? = some d) : ∃ G B, Sat M w0 w (ow d B :: hl s k G :: C) := by
  obtain ⟨⟨ho, hn⟩, _⟩ := hs.all _ (List.mem_cons_self)
  obtain ⟨h1, h2, F0, F1, rfl, h3, h4⟩ := ho
  obtain ⟨A, B, D, rfl, h5, h6, h7⟩ := ownL_cut h4 hd
  have hk : k < s.l.length := (List.getElem?_eq_some_iff.1 hd).1
  have hp : (F0 ++ (A ++ B ++ D)).Perm (B ++ (F0 ++ (A ++ D))) := by
    refine (List.Perm.append_left F0 ?_).trans (List.perm_append_comm_assoc F0 B (A ++ D))
    rw [List.append_assoc]
    exact List.perm_append_comm_assoc A B D
  exact ⟨F0 ++ (A ++ D), B, Sat.fc_split (c := ow s _) (F := B) (G := F0 ++ (A ++ D)) (p := fun w => Own.own w d B) (q := fun w => hole w s k (F0 ++ (A ++ D))) (hp := fun _ _ h hp => Own.loc h hp) (hq := hole_loc) hs (fun b hb => hp.mem_iff.2 hb) (hp.nodup_iff.1 hn) h5 ⟨h1, h2, hk, F0, A, D, rfl, h3, h6, h7⟩⟩

theorem encs_setsame {l : List α} {k : Nat} {d d' : α} (hd : l[k]? = some d) (he : Ph.enc d' = Ph.enc d) : encs (l.set k d') = encs l := by
  have hk : k < l.length := (List.getElem?_eq_some_iff.1 hd).1
  have h1 := encs_set l k d' hk
  have h2 := encs_set l k d hk
  rw [h1, he, ← h2]
  congr 1
  apply List.ext_getElem?
  intro i
  by_cases hi : k = i
  · subst hi; rw [List.getElem?_set_self hk, hd]
  · rw [List.getElem?_set_ne hi]

theorem ownL_glue {w : World} {d : α} {B : List Nat} (hd : Own.own w d B) : ∀ {l : List α} {k : Nat} {A D : List Nat}, k < l.length → ownL w (l.take k) A → ownL w (l.drop (k + 1)) D → ownL w (l.set k d) (A ++ B ++ D)
  | [], _, _, _, h, _, _ => by cases h
  | z :: l, 0, A, D, _, h1, h2 => by
    rw [show A = [] from h1]
    exact ⟨B, D, hd, h2, by simp⟩
  | z :: l, k + 1, A, D, hk, ⟨F1, F2, h1, h2, h3⟩, h4 => by
    subst h3
    exact ⟨F1, F2 ++ B ++ D, h1, ownL_glue hd (by simpa using hk) h2 h4, by simp⟩

theorem Sat.back {w0 w : World} {C : List Chunk} {s : Sl α} {G B : List Nat} {k : Nat} {d d' : α} (hs : Sat M w0 w (ow d' B :: hl s k G :: C)) (hd : s.l[k]? = some d) (he : Ph.enc d' = Ph.enc d) : ∃ (s' : Sl α) (F : List Nat), s'.v = s.v ∧ s'.l = s.l.set k d' ∧ s'.l[k]? = some d' ∧ Sat M w0 w (ow s' F :: C) := by
  have hk : k < s.l.length := (List.getElem?_eq_some_iff.1 hd).1
  have hj := Sat.fc_join (F := B) (G := G) (p := fun w => Own.own w d' B) (q := fun w => hole w s k G) (hp := fun _ _ h hp => Own.loc h hp) (hq := hole_loc) hs
  obtain ⟨⟨⟨ho, h1, h2, h3, F0, A, D, rfl, h4, h5, h6⟩, hn⟩, _⟩ := hj.all _ (List.mem_cons_self)
  have hp : (F0 ++ (A ++ B ++ D)).Perm (B ++ (F0 ++ (A ++ D))) := by
    refine (List.Perm.append_left F0 ?_).trans (List.perm_append_comm_assoc F0 B (A ++ D))
    rw [List.append_assoc]
    exact List.perm_append_comm_assoc A B D
  refine ⟨⟨s.l.set k d', s.a, s.c⟩, F0 ++ (A ++ B ++ D), Sl.v_set, rfl, by simp [hk], hj.conv (fun _ => ⟨⟨by simpa using h1, h2, F0, A ++ B ++ D, rfl, ?_, ownL_glue ho hk h5 h6⟩, hp.nodup_iff.2 hn⟩) (fun b hb => hp.mem_iff.1 hb)⟩
  show Arr w s.a s.c (Ph.sz α) (encs (s.l.set k d')) F0
  rw [encs_setsame hd he]; exact h4

/-- A part of an element written over, its new data at hand: the hole is filled. -/
theorem Yr.storeHole {P : Program} {n : Nat} {e : Env} {w w0 : World} {C : List Chunk} {ty : TypeId} {T : TypeId} {x y : Operand} {b o k j : Nat} {s : Sl α} {d u : α} {G B : List Nat} {vs : List Value} {C' : List Chunk} (hs : Sat M w0 w C) (hsel : Sel [ow u B, hl s k G] C C') (hx : ev? e x = some (bp b o)) (hb : b = s.blk) (ho : o = s.off + k * Ph.sz α + j) (hd : s.l[k]? = some d)
    (hy : ∃ v, ev? e y = some v ∧ v.cells = vs.toArray) (hset : SetAt (Ph.enc d) j vs (Ph.enc u)) (h1 : vs.all Value.oneCell' = true) (hsz : (P.info? T).map (·.size) = some vs.length) :
    Yr P n e w (.store T x y) ty (fun _ w' => ∃ (s' : Sl α) (F' : List Nat), s'.v = s.v ∧ s'.l = s.l.set k u ∧ s'.l[k]? = some u ∧ Sat M w0 w' (ow s' F' :: C')) := fun or a ha hop _ => by
  subst hb; subst ho
  obtain ⟨v, hy, hv⟩ := hy
  have hs2 := hs.sel hsel
  have hk : k < s.l.length := (List.getElem?_eq_some_iff.1 hd).1
  have hj := Sat.fc_join (F := B) (G := G) (p := fun w => Own.own w u B) (q := fun w => hole w s k G) (hp := fun _ _ h hp => Own.loc h hp) (hq := hole_loc) hs2
  obtain ⟨⟨⟨ho, g1, g2, g3, F0, A, D, rfl, h4, h5, h6⟩, hn⟩, _⟩ := hj.all _ (List.mem_cons_self)
  cases h4 with
  | nil a1 a2 a3 =>
    have := encs_length s.l
    rw [a3] at this
    have hp : 0 < Ph.sz α := Ph.pos
    have := Nat.mul_pos (Nat.lt_of_le_of_lt (Nat.zero_le _) hk) hp
    simp at *; omega
  | @row b o cur ce a1 a2 a3 a4 =>
    have hle : k * Ph.sz α + Ph.sz α ≤ s.l.length * Ph.sz α := by have := Nat.mul_le_mul_right (Ph.sz α) hk; rwa [Nat.succ_mul] at this
    have hle2 : s.l.length * Ph.sz α ≤ s.c * Ph.sz α := Nat.mul_le_mul_right _ g1
    obtain ⟨he, hj2⟩ := hset.eq
    rw [Ph.len] at hj2
    have hblk : s.blk = b := by simp [Sl.blk, a1]
    have hoff : s.off = o := by simp [Sl.off, a1]
    rw [hblk, hoff, Nat.add_assoc] at hx
    have hone : ∀ v ∈ vs, v.oneCell' = true := fun v hv => List.all_eq_true.1 h1 v hv
    have hst := run_storeCells_at P b (o + (k * Ph.sz α + j)) ce vs 0 cur w a2 (by omega) hone
    simp only [Nat.add_zero] at hst
    have hz : ((cur.toList.drop o).drop (k * Ph.sz α)).take (Ph.enc d).length = Ph.enc d := by
      apply List.ext_getElem?
      intro i
      by_cases hi : i < (Ph.enc d).length
      · rw [List.getElem?_take, if_pos hi, List.getElem?_drop]
        have hg := encs_get s.l k d hd i _ (List.getElem?_eq_getElem hi)
        rw [← a4, List.getElem?_take] at hg
        split at hg
        · rw [List.getElem?_eq_getElem hi]; exact hg
        · cases hg
      · rw [List.getElem?_eq_none (by simp; omega), List.getElem?_eq_none (by omega)]
    have hlay : lay (cur.toList.drop o) (k * Ph.sz α + j) vs = lay (cur.toList.drop o) (k * Ph.sz α) (Ph.enc u) := by
      rw [he]
      exact (lay_lay (by rw [Ph.len]; exact hj2) (by rw [Ph.len]; simp; omega) hz).symm
    have hp : ([b] ++ (A ++ B ++ D)).Perm (B ++ ([b] ++ (A ++ D))) := by
      refine (List.Perm.append_left [b] ?_).trans (List.perm_append_comm_assoc [b] B (A ++ D))
      rw [List.append_assoc]
      exact List.perm_append_comm_assoc A B D
    have hn' := hp.nodup_iff.2 hn
    have hnb : ∀ y ∈ A ++ B ++ D, y ≠ b := fun y hy hyb => (List.nodup_cons.1 hn').1 (hyb ▸ hy)
    have hheap : ∀ y, y ≠ b → (w.setRow b (lay cur.toList (o + (k * Ph.sz α + j)) vs).toArray).heap[y]? = w.heap[y]? := fun y hy => setRow_other w b y _ hy
    refine ⟨undef, w.setRow b (lay cur.toList (o + (k * Ph.sz α + j)) vs).toArray, .inr ⟨?_, rfl⟩, ⟨s.l.set k u, s.a, s.c⟩, [b] ++ (A ++ B ++ D), Sl.v_set, rfl, by simp [hk], ?_⟩
    · cases hi : P.info? T with
      | none => simp [hi] at hsz
      | some i =>
        simp only [hi, Option.map_some, Option.some.injEq] at hsz
        have hne : ¬ (v.cells.size ≠ i.size) := by rw [hv, hsz]; simp
        have : (storeVar T ⟨b, o + (k * Ph.sz α + j), none⟩ v).run P w = .ok () (w.setRow b (lay cur.toList (o + (k * Ph.sz α + j)) vs).toArray) := by
          simp only [storeVar, sizeOf, typeInfo, Sem.run_bind, run_program, Result.andThen_ok, hi, Sem.run_pure]
          rw [if_neg hne]
          rw [hv]; exact hst
        simp only [execOp, hop, ha.ev hx, ha.ev hy, Instr.storeAt, Instr.sureAddr, Sem.run_bind, Sem.run_pure, Result.andThen_ok, this]
    · refine hj.touch .here ((touch_setRow (b := b)).mono (by rintro y rfl; show y ∈ B ++ ([y] ++ (A ++ D)); simp)) ⟨⟨by simpa using g1, g2, [b], A ++ B ++ D, rfl, .row a1 (setRow_heap w b cur _ ce (0, 0) a2) ?_ ?_, ?_⟩, hn'⟩ (fun y hy => .inl (hp.mem_iff.1 hy))
      · simp only [List.size_toArray]
        have hcl : cur.toList.length = cur.size := Array.length_toList
        rw [lay_length (by rw [hcl]; omega), hcl]; exact a3
      · show ((lay cur.toList (o + (k * Ph.sz α + j)) vs).drop o).take _ = _
        rw [lay_drop (by rw [Array.length_toList]; omega), hlay]; exact encs_lay hk a4
      · exact ownL_glue (Own.loc (fun y hy => hheap y (hnb y (by simp [hy]))) ho) hk (ownL_loc (fun y hy => hheap y (hnb y (by simp [hy]))) h5) (ownL_loc (fun y hy => hheap y (hnb y (by simp [hy]))) h6)

/-! An own element appended to an own slice. -/
theorem ownsRow_own' {w : World} {base el n : Nat} {v : Value} {l : List α} {G : List Nat} (h : w.ownsRow base el (Ph.sz α) v n (encs l)) (hn : l.length = n) (hok : ownL w l G) :
    ∃ (s : Sl α) (F : List Nat), v = s.v ∧ s.l = l ∧ OwnS w s (F ++ G) ∧ F.Nodup ∧ ∀ b ∈ F, base ≤ b ∧ b < w.heap.size := by
  obtain ⟨h1, h2⟩ := h
  rcases h2 with ⟨rfl, rfl⟩ | ⟨g, cap, cur, rfl, h3, h4, h5, h6, h7, h8⟩
  · obtain rfl := List.eq_nil_of_length_eq_zero hn
    exact ⟨⟨[], none, 0⟩, [], rfl, rfl, ⟨by simp, by simp, [], G, rfl, .nil rfl rfl rfl, hok⟩, .nil, by simp⟩
  · refine ⟨⟨l, some ⟨g, 0, none⟩, cap⟩, [g], by rw [← hn], rfl, ⟨by simp only [hn]; exact h5, h6, [g], G, rfl, .row rfl h4 (by rw [h7, Nat.zero_add]; exact Nat.le_refl _) ?_, hok⟩, by simp, fun b hb => ?_⟩
    · rw [List.drop_zero, h1]; exact h8
    · obtain rfl : b = g := by simpa using hb
      exact ⟨h3, (Array.getElem?_eq_some_iff.1 h4).1⟩

section rules
variable {P : Program} {n : Nat} {e : Env} {w w0 : World} {C : List Chunk} {ty : TypeId}

/-- Two chunks become one of new make: its blocks are theirs, or new. -/
theorem Sat.touch2 {w0 w w' : World} {c d c' : Chunk} {C : List Chunk} (h : Sat M w0 w (c :: d :: C)) (ht : Touch (fun k => c.S k ∨ d.S k) w w') (hp : c'.p w') (hS : ∀ b, c'.S b → c.S b ∨ d.S b ∨ (w.heap.size ≤ b ∧ b < w'.heap.size)) : Sat M w0 w' (c' :: C) :=
  h.merge.touch .here ht hp (fun b hb => by rcases hS b hb with h | h | h; exact .inl (.inl h); exact .inl (.inr h); exact .inr h)

/-- One own element, its cells at hand, appended to an own slice. -/
theorem Yr.appendE {t el : TypeId} {s : Sl α} {u : α} {F G : List Nat} {x y : Operand} {b off c bytes : Nat} {z : α} {C' : List Chunk} (hs : Sat M w0 w C) (hT : ElT P t el z bytes) (hsel : Sel [ow s F, ow u G] C C')
    (hx : ev? e x = some (.slice s.a s.l.length s.c)) (hy : ev? e y = some (.slice (some ⟨b, off, none⟩) 1 c)) (hc : CellsAt w b off (Ph.enc u))
    (hlen : s.l.length + 1 ≤ maxLen) (hby : (s.l.length + 1) * bytes ≤ 140737488355328) :
    Yr P n e w (.call ⟨.builtin .append, #[x, y], #[t, t]⟩) ty (fun v' w' => ∃ (s' : Sl α) (F' : List Nat), v' = s'.v ∧ s'.l = s.l ++ [u] ∧ Sat M w0 w' (ow s' F' :: C')) := fun or a ha ho _ => by
  have hs2 := hs.sel hsel
  obtain ⟨hp, hnd⟩ := (hs2.all (ow s F) (by simp)).1
  obtain ⟨hpu, hndu⟩ := (hs2.all (ow u G) (by simp)).1
  have hltF := (hs2.all (ow s F) (by simp)).2
  have hltG := (hs2.all (ow u G) (by simp)).2
  have hsepFG : ∀ b ∈ F, b ∉ G := (List.pairwise_cons.1 hs2.sep).1 (ow u G) (by simp)
  obtain ⟨F0, F1, hF, harr, hels⟩ := hp.out
  obtain ⟨inf, zv, hi, hz, hsz, hb, hzc⟩ := hT.inf
  subst hb
  have hlenx : (Ph.enc u).length = 1 * Ph.sz α := by rw [Ph.len, Nat.one_mul]
  have hnews : ∀ j v, (Ph.enc u)[j]? = some v → w.cell? ((⟨b, off, none⟩ : Go.Addr).add j) = some v := fun j v hj => by rw [addr_add]; exact hc j v hj
  have hone : ∀ v ∈ Ph.enc u, v.oneCell' = true := fun v hv => List.all_eq_true.1 (Ph.one u) v hv
  have hzs : zv.cells.size = Ph.sz α := by rw [hzc]; simp [Ph.len]
  have hexec : ∀ (v' : Value) (w' : World), (Builtin.append_ #[t, t] or.type #[.slice s.a s.l.length s.c, .slice (some ⟨b, off, none⟩) 1 c]).run P w = .ok v' w' → (execOp a.eval or).run P w = .ok (.value v') w' := fun v' w' hr => by
    simp only [execOp, ho, resolve, invoke, builtin, Sem.run_bind, Sem.run_pure, Result.andThen_ok, List.map_toArray, List.map_cons, List.map_nil, ha.ev hx, ha.ev hy, hr]
  have henc : encs (s.l ++ [u]) = encs s.l ++ Ph.enc u := by rw [encs_append]; simp [encs]
  -- a new row
  have grown : ∀ (v' : Value) (w' : World), w'.ownsRow w.heap.size el (Ph.sz α) v' (s.l.length + 1) (encs (s.l ++ [u])) → w.grownBy w' none →
      ∃ (s' : Sl α) (F' : List Nat), v' = s'.v ∧ s'.l = s.l ++ [u] ∧ Sat M w0 w' (ow s' F' :: C') := fun v' w' hr hg => by
    have hbel : Below w.heap.size w w' := ⟨hg.os, hg.tape, hg.output, hg.size, fun b hb => hg.block b hb (by simp)⟩
    have hkeep : ∀ x ∈ F1 ++ G, w'.heap[x]? = w.heap[x]? := fun x hx => hbel.block x (by
      rcases List.mem_append.1 hx with h | h
      · exact (hltF x (by show x ∈ F; rw [hF]; simp [h])).2
      · exact (hltG x h).2)
    have how : ownL w' (s.l ++ [u]) (F1 ++ G) := ownL_append (ownL_loc (fun x hx => hkeep x (by simp [hx])) hels) (ownL_one (Own.loc (fun x hx => hkeep x (by simp [hx])) hpu))
    obtain ⟨s', F', h1, h2, h3, h4, h5⟩ := ownsRow_own' hr (by simp) how
    refine ⟨s', F' ++ (F1 ++ G), h1, h2, hs2.touch2 (Touch.of_below hbel) ⟨h3, ?_⟩ (fun x hx => ?_)⟩
    · rw [List.nodup_append]
      refine ⟨h4, ?_, fun x hx y hy hxy => ?_⟩
      · rw [List.nodup_append]
        rw [hF, List.nodup_append] at hnd
        refine ⟨hnd.2.1, hndu, fun x hx y hy hxy => hsepFG x (by rw [hF]; simp [hx]) (hxy ▸ hy)⟩
      · subst hxy
        have h6 := (h5 x hx).1
        rcases List.mem_append.1 hy with h | h
        · have := (hltF x (by show x ∈ F; rw [hF]; simp [h])).2; omega
        · have := (hltG x h).2; omega
    · rcases List.mem_append.1 hx with h | h
      · exact .inr (.inr (h5 x h))
      · rcases List.mem_append.1 h with h | h
        · exact .inl (by show x ∈ F; rw [hF]; simp [h])
        · exact .inr (.inl h)
  cases harr with
  | nil h1 h2 h3 =>
    have hl0 : s.l = [] := by
      have := encs_length s.l
      rw [h3] at this
      have hpos : 0 < Ph.sz α := Ph.pos
      rcases Nat.eq_zero_or_pos s.l.length with h | h
      · exact List.eq_nil_of_length_eq_zero h
      · have := Nat.mul_pos h hpos; simp at *; omega
    obtain ⟨v', w', hr, h4, h5, _⟩ := run_append_own (P := P) w w.heap.size t or.type el inf zv (Ph.sz α) inf.bytes hT.und hi hz hsz rfl hzs Ph.pos (.slice none 0 0) 0 [] (World.ownsRow_nil w _ el _) ⟨b, off, none⟩ 1 c (Ph.enc u) hlenx hnews hone (by rw [hl0] at hlen; simpa using hlen) (by rw [hl0] at hby; simpa using hby) (Nat.le_refl _)
    have hv : (.slice s.a s.l.length s.c : Value) = .slice none 0 0 := by rw [h1, h2, hl0]; rfl
    obtain ⟨s', F', g1, g2, g3⟩ := grown v' w' (by rw [henc, hl0]; simpa [encs] using h4) h5
    exact ⟨v', w', .inl (hexec v' w' (by rw [hv]; exact hr)), s', F', g1, g2, g3⟩
  | @row g o cur e' h1 h2 h3 h4 =>
    have hv : (.slice s.a s.l.length s.c : Value) = .slice (some ⟨g, o, none⟩) s.l.length s.c := by rw [h1]
    have hL : (encs s.l).length = s.l.length * Ph.sz α := encs_length _
    by_cases hroom : s.l.length + 1 ≤ s.c
    · have hle3 : (s.l.length + 1) * Ph.sz α ≤ s.c * Ph.sz α := Nat.mul_le_mul_right _ hroom
      have hfit : o + s.l.length * Ph.sz α + (Ph.enc u).length ≤ cur.size := by rw [hlenx]; rw [Nat.add_mul] at hle3; omega
      have hr := run_append_room' (P := P) w t or.type el e' inf hT.und hi g o s.l.length s.c cur h2 ⟨b, off, none⟩ 1 c (Ph.enc u) (by rw [hsz]; exact hlenx) hnews hone hroom (by rw [hsz]; exact hfit)
      rw [hsz] at hr
      have hgF : g ∉ F1 := by rw [hF] at hnd; exact (List.nodup_cons.1 hnd).1
      have hgG : g ∉ G := hsepFG g (by rw [hF]; simp)
      have hkeep : ∀ x ∈ F1 ++ G, (w.setRow g (lay cur.toList (o + s.l.length * Ph.sz α) (Ph.enc u)).toArray).heap[x]? = w.heap[x]? := fun x hx => setRow_other w g x _ (by
        rintro rfl
        rcases List.mem_append.1 hx with h | h
        · exact hgF h
        · exact hgG h)
      refine ⟨_, _, .inl (hexec _ _ (by rw [hv]; exact hr)), ⟨s.l ++ [u], some ⟨g, o, none⟩, s.c⟩, [g] ++ (F1 ++ G), by simp [Sl.v], rfl, hs2.touch2 ((touch_setRow (b := g)).mono (by rintro k rfl; left; show k ∈ F; rw [hF]; simp)) ⟨⟨by simpa using hroom, hp.max, [g], F1 ++ G, rfl, .row rfl (setRow_heap w g cur _ e' (0, 0) h2) ?_ ?_, ?_⟩, ?_⟩ (fun k hk => ?_)⟩
      · simp only [List.size_toArray]
        rw [lay_length (by rw [Array.length_toList]; omega), Array.length_toList]; exact h3
      · have ht : (cur.toList.drop o).take (s.l.length * Ph.sz α) = encs s.l := by rw [← hL]; exact h4
        show ((lay cur.toList (o + s.l.length * Ph.sz α) (Ph.enc u)).drop o).take (encs (s.l ++ [u])).length = encs (s.l ++ [u])
        rw [lay_drop (by rw [Array.length_toList]; omega)]
        unfold lay
        rw [ht, henc, List.take_left]
      · exact ownL_append (ownL_loc (fun x hx => hkeep x (by simp [hx])) hels) (ownL_one (Own.loc (fun x hx => hkeep x (by simp [hx])) hpu))
      · rw [List.nodup_append]
        refine ⟨by simp, ?_, fun x hx y hy hxy => ?_⟩
        · rw [List.nodup_append]
          rw [hF, List.nodup_append] at hnd
          exact ⟨hnd.2.1, hndu, fun x hx y hy hxy => hsepFG x (by rw [hF]; simp [hx]) (hxy ▸ hy)⟩
        · obtain rfl : x = g := by simpa using hx
          subst hxy
          rcases List.mem_append.1 hy with h | h
          · exact hgF h
          · exact hgG h
      · rcases List.mem_append.1 hk with h | h
        · left; show k ∈ F; rw [hF]; simp at h; simp [h]
        · rcases List.mem_append.1 h with h | h
          · left; show k ∈ F; rw [hF]; simp [h]
          · exact .inr (.inl h)
    · obtain ⟨v', w', hr, h5, h6⟩ := run_append_arg_grows (P := P) w t or.type el inf zv (Ph.sz α) inf.bytes hT.und hi hz hsz rfl hzs Ph.pos ⟨g, o, none⟩ s.l.length s.c (encs s.l) hL (fun j u hj => by
          rw [addr_add, cell_of_row w g (o + j) cur e' (0, 0) h2]
          rw [← h4, List.getElem?_take] at hj
          split at hj
          · rw [List.getElem?_drop] at hj; simpa using hj
          · cases hj) ⟨b, off, none⟩ 1 c (Ph.enc u) hlenx hnews (by omega) hlen hby
      obtain ⟨s', F', g1, g2, g3⟩ := grown v' w' (by rw [henc]; exact h5) h6
      exact ⟨v', w', .inl (hexec v' w' (by rw [hv]; exact hr)), s', F', g1, g2, g3⟩
end rules

theorem RetM.cast {w w' : World} {a : α} {F : List Nat} {v v' : Value} {Q : α → Prop} (h : v' = v) (H : RetM w a F v' Q (.returned v') w') : RetM w a F v Q (.returned v') w' := by
  subst h; exact H
end

/-! Slices cut. -/
section
variable {α : Type} [Ph α]
theorem encs_take (l : List α) (k : Nat) : encs (l.take k) = (encs l).take (k * Ph.sz α) := by
  induction l generalizing k with
  | nil => simp [encs]
  | cons x l ih =>
    cases k with
    | zero => simp [encs]
    | succ k => rw [List.take_succ_cons, encs_cons, encs_cons, ih, Nat.succ_mul, Nat.add_comm, ← Ph.len x, List.take_length_add_append]
theorem encs_drop (l : List α) (k : Nat) : encs (l.drop k) = (encs l).drop (k * Ph.sz α) := by
  induction l generalizing k with
  | nil => simp [encs]
  | cons x l ih =>
    cases k with
    | zero => simp [encs]
    | succ k => rw [List.drop_succ_cons, encs_cons, ih, Nat.succ_mul, Nat.add_comm, ← Ph.len x, List.drop_length_add_append]

/-- s[lo:hi]. -/
def Sl.cut (s : Sl α) (lo hi : Nat) : Sl α := ⟨(s.l.take hi).drop lo, if s.c = lo then s.a else s.a.map (·.add (lo * Ph.sz α)), s.c - lo⟩
theorem Sl.cut_l {s : Sl α} {lo hi : Nat} : (s.cut lo hi).l = (s.l.take hi).drop lo := rfl
theorem Sl.cut_len {s : Sl α} {lo hi : Nat} (h : hi ≤ s.l.length) : (s.cut lo hi).l.length = hi - lo := by simp [Sl.cut, Nat.min_eq_left h]
theorem Sl.cut_full {s : Sl α} {lo : Nat} : (s.cut lo s.l.length).l = s.l.drop lo := by simp [Sl.cut]
theorem Sl.cut_head {s : Sl α} {hi : Nat} : (s.cut 0 hi).l = s.l.take hi := by simp [Sl.cut]

theorem Sl.Ok.cut {w : World} {s : Sl α} (h : Sl.Ok w s) {lo hi : Nat} (h1 : lo ≤ hi) (h2 : hi ≤ s.l.length) : Sl.Ok w (s.cut lo hi) := by
  have hle := h.le; have hmax := h.max
  refine ⟨by rw [Sl.cut_len h2]; show _ ≤ s.c - lo; omega, by show s.c - lo ≤ _; omega, ?_, fun x hx => h.elems x (List.mem_of_mem_take (List.mem_of_mem_drop hx))⟩
  rcases h.cells with h0 | ⟨ha, hc⟩
  · left; simp [Sl.cut, h0]
  · by_cases hlt : lo < hi
    · right
      have hne : ¬ s.c = lo := by omega
      have ha2 : (s.cut lo hi).a = some ⟨s.blk, s.off + lo * Ph.sz α, none⟩ := by simp only [Sl.cut, if_neg hne]; rw [ha, Option.map_some, Addr.add_lit]
      have hb : (s.cut lo hi).blk = s.blk := by unfold Sl.blk; rw [ha2]; rfl
      have ho : (s.cut lo hi).off = s.off + lo * Ph.sz α := by unfold Sl.off at *; rw [ha2]; rfl
      refine ⟨by rw [hb, ho]; exact ha2, fun j v hj => ?_⟩
      rw [hb, ho, Nat.add_assoc]
      apply hc
      rw [Sl.cut_l, encs_drop, encs_take, List.getElem?_drop, List.getElem?_take] at hj
      split at hj
      · exact hj
      · cases hj
    · left
      have : lo = hi := by omega
      subst this
      simp [Sl.cut]

section rules
variable {P : Program} {n : Nat} {e : Env} {w w0 : World} {C : List Chunk} {ty : TypeId}
theorem Yl.slice_sl {t el : TypeId} {x : Operand} {lo hi : Option Operand} {s : Sl α} {l h : Nat} (hT : SlT P t el (Ph.sz α)) (hx : ev? e x = some s.v) (hok : s.l.length ≤ s.c)
    (hl : match lo with | none => l = 0 | some y => ∃ kd, ev? e y = some (.int kd (l : Int))) (hh : match hi with | none => h = s.l.length | some y => ∃ kd, ev? e y = some (.int kd (h : Int))) (h1 : l ≤ h) (h2 : h ≤ s.l.length) :
    Yl P n e w (.slice t x lo hi none) ty (s.cut l h).v := fun or a ha ho _ => by
  obtain ⟨inf, hi', hsz⟩ : ∃ inf, P.info? el = some inf ∧ inf.size = Ph.sz α := by
    cases hh : P.info? el with
    | none => have := hT.size; simp [hh] at this
    | some inf => exact ⟨inf, rfl, by have := hT.size; simpa [hh] using this⟩
  have hb : ∀ (kd : IntKind) (i y : Nat) (cd : BoundsCode), i ≤ y → (Instr.sliceBound (.int kd (i : Int)) y cd).run P w = .ok i w := fun kd i y cd hiy => by
    simp [Instr.sliceBound, asIntOf, hiy]
  have hrun : (Instr.sliceBounds true s.l.length s.c (lo.map a.eval) (hi.map a.eval) none).run P w = .ok (l, h, s.c) w := by
    cases lo with
    | none =>
      subst hl
      cases hi with
      | none => subst hh; simp [Instr.sliceBounds]
      | some y =>
        obtain ⟨kd, hy⟩ := hh
        simp [Instr.sliceBounds, ha.ev hy, hb kd h s.c _ (by omega)]
    | some z =>
      obtain ⟨kz, hz⟩ := hl
      cases hi with
      | none => subst hh; simp [Instr.sliceBounds, ha.ev hz, hb kz l s.l.length _ h1]
      | some y =>
        obtain ⟨kd, hy⟩ := hh
        simp [Instr.sliceBounds, ha.ev hy, ha.ev hz, hb kd h s.c _ (by omega), hb kz l h _ h1]
  have hlen : (s.cut l h).l.length = h - l := Sl.cut_len h2
  have h3 : (Instr.sliceAt t s.v (lo.map a.eval) (hi.map a.eval) none).run P w = .ok (s.cut l h).v w := by
    simp only [Instr.sliceAt, Instr.slice, Sem.run_bind, run_underlying hT.und, Result.andThen_ok]
    simp only [hrun, Result.andThen_ok, sizeOf, typeInfo, Sem.run_bind, run_program, hi', Sem.run_pure, hsz]
    rw [show (s.cut l h).v = Value.slice (s.cut l h).a (h - l) (s.c - l) from by rw [← hlen]; rfl]; rfl
  simp only [execOp, ho, ha.ev hx, Sem.run_bind, Option.map_none, h3, Result.andThen_ok]; rfl
end rules

variable [Own α]
theorem ownL_split {w : World} : ∀ {l m : List α} {F : List Nat}, ownL w (l ++ m) F → ∃ F1 F2, F = F1 ++ F2 ∧ ownL w l F1 ∧ ownL w m F2
  | [], _, F, h => ⟨[], F, rfl, rfl, h⟩
  | x :: l, m, F, ⟨F1, F2, h1, h2, h3⟩ => by
    subst h3
    obtain ⟨A, B, rfl, h4, h5⟩ := ownL_split h2
    exact ⟨F1 ++ A, B, by simp, ⟨F1, A, h1, h4, rfl⟩, h5⟩

/-- An own slice cut: what is cut off is let go. -/
theorem Sat.cutow {w0 w : World} {C : List Chunk} {s : Sl α} {F : List Nat} {lo hi : Nat} (hs : Sat M w0 w (ow s F :: C)) (h1 : lo ≤ hi) (h2 : hi ≤ s.l.length) : ∃ F', Sat M w0 w (ow (s.cut lo hi) F' :: C) := by
  obtain ⟨⟨ho, hn⟩, _⟩ := hs.all _ (List.mem_cons_self)
  have hok := (OwnS.ok ho).cut h1 h2
  obtain ⟨hle, hmax, F0, F1, rfl, ha, hl⟩ := ho
  have e1 : s.l = s.l.take lo ++ ((s.l.take hi).drop lo ++ s.l.drop hi) := by
    conv => lhs; rw [← List.take_append_drop hi s.l]
    rw [← List.append_assoc]
    congr 1
    conv => lhs; rw [← List.take_append_drop lo (s.l.take hi)]
    rw [List.take_take, Nat.min_eq_left h1]
  rw [e1] at hl
  obtain ⟨A, B', rfl, hA, hB'⟩ := ownL_split hl
  obtain ⟨B, D, rfl, hB, hD⟩ := ownL_split hB'
  rw [List.nodup_append] at hn
  obtain ⟨n1, n2, n3⟩ := hn
  rw [List.nodup_append] at n2
  have n4 := (List.nodup_append.1 n2.2.1).1
  refine ⟨F0 ++ B, hs.conv (fun _ => ⟨⟨hok.le, hok.max, F0, B, rfl, ?_, hB⟩, ?_⟩) (fun b hb => ?_)⟩
  · cases ha with
    | nil a1 a2 a3 =>
      refine .nil (by simp [Sl.cut, a1]) (by show s.c - lo = 0; omega) ?_
      show encs ((s.l.take hi).drop lo) = []
      have : s.l = [] := by
        have := encs_length s.l
        rw [a3] at this
        have hp : 0 < Ph.sz α := Ph.pos
        rcases Nat.eq_zero_or_pos s.l.length with h | h
        · exact List.eq_nil_of_length_eq_zero h
        · have := Nat.mul_pos h hp; simp at *; omega
      rw [this]; simp [encs]
    | @row b o cur e a1 a2 a3 a4 =>
      have hmul : lo * Ph.sz α + (s.c - lo) * Ph.sz α ≤ s.c * Ph.sz α := by rw [← Nat.add_mul]; exact Nat.mul_le_mul_right _ (by omega)
      by_cases hc : s.c = lo
      · refine .row (b := b) (o := o) (cur := cur) (e := e) (by simp [Sl.cut, hc, a1]) a2 (by show o + (s.c - lo) * _ ≤ _; omega) ?_
        show _ = encs ((s.l.take hi).drop lo)
        have : (s.l.take hi).drop lo = [] := by apply List.drop_eq_nil_of_le; simp; omega
        have e0 : (encs (s.cut lo hi).l) = [] := by show encs ((s.l.take hi).drop lo) = []; rw [this]; rfl
        rw [e0, this]; simp [encs]
      · refine .row (b := b) (o := o + lo * Ph.sz α) (cur := cur) (e := e) (by simp only [Sl.cut, if_neg hc, a1, Option.map_some, Addr.add_lit]) a2 (by show o + lo * Ph.sz α + (s.c - lo) * _ ≤ _; omega) ?_
        show ((cur.toList.drop (o + lo * Ph.sz α)).take (encs ((s.l.take hi).drop lo)).length) = encs ((s.l.take hi).drop lo)
        rw [encs_drop, encs_take]
        have h5 : ((cur.toList.drop o).take (encs s.l).length) = encs s.l := a4
        rw [← List.drop_drop]
        conv => rhs; rw [← h5]
        simp only [List.take_take, List.drop_take, List.length_take, List.length_drop]
        congr 1
        omega
  · rw [List.nodup_append]
    exact ⟨n1, n4, fun x hx y hy => n3 x hx y (by simp [hy])⟩
  · have hb' : b ∈ F0 ++ B := hb
    rcases List.mem_append.1 hb' with h | h
    · show b ∈ F0 ++ (A ++ (B ++ D)); simp [h]
    · show b ∈ F0 ++ (A ++ (B ++ D)); simp [h]

theorem zeroCells_encs {z : α} {zc : Array Value} (hz : zc = (Ph.enc z).toArray) (k : Nat) : (Builtin.zeroCells zc k).toList = encs (List.replicate k z) := by
  subst hz
  apply List.ext_getElem?
  intro j
  by_cases hj : j < k * Ph.sz α
  · rw [encs_rep z k j hj]
    have hm : j % Ph.sz α < (Ph.enc z).length := by rw [Ph.len]; exact Nat.mod_lt _ Ph.pos
    simp [Builtin.zeroCells, hj, Ph.len, List.getElem?_eq_getElem hm]
  · rw [List.getElem?_eq_none (by simp [Builtin.zeroCells, Ph.len]; omega), List.getElem?_eq_none (by rw [encs_length]; simp; omega)]

section rules
variable {β : Type} [Ph β] [Flat β] {P : Program} {n : Nat} {e : Env} {w w0 : World} {C : List Chunk} {ty : TypeId}
/-- The tail of an own slice of flat data cleared. -/
theorem Yr.clearTail {t el : TypeId} {x : Operand} {s : Sl β} {F : List Nat} {k bytes : Nat} {z : β} {C' : List Chunk} (hs : Sat M w0 w C) (hT : ElT P t el z bytes) (hsel : Sel [ow s F] C C') (hx : ev? e x = some (s.cut k s.l.length).v) (hk : k ≤ s.l.length) (hz : ∀ w : World, Ph.ok w z) :
    Yr P n e w (.call ⟨.builtin .clear, #[x], #[t]⟩) ty (fun _ w' => ∃ s' : Sl β, s'.v = s.v ∧ s'.l = s.l.take k ++ List.replicate (s.l.length - k) z ∧ Sat M w0 w' (ow s' F :: C')) := fun or a ha ho _ => by
  have hs2 := hs.sel hsel
  obtain ⟨hp, hnd⟩ := (hs2.all (ow s F) (by simp)).1
  obtain ⟨inf, zv, hi, hz', hsz, hb, hzc⟩ := hT.inf
  have hlen : (s.cut k s.l.length).l.length = s.l.length - k := Sl.cut_len (Nat.le_refl _)
  have hexec : ∀ w', (Builtin.clear_ #[t] or.type #[(s.cut k s.l.length).v]).run P w = .ok (.tuple #[]) w' → (execOp a.eval or).run P w = .ok (.value (.tuple #[])) w' := fun w' hr => by
    simp only [execOp, ho, resolve, invoke, builtin, Sem.run_bind, Sem.run_pure, Result.andThen_ok, List.map_toArray, List.map_cons, List.map_nil, ha.ev hx, hr]
  by_cases hlt : k < s.l.length
  · obtain ⟨b, o, cur, ce, F1, h1, hblk, hoff, rfl, h2, h3, h4, h5⟩ := hp.row hlt
    have hle := hp.le
    have hne : ¬ s.c = k := by omega
    have hv : (s.cut k s.l.length).v = .slice (some ⟨b, o + k * Ph.sz β, none⟩) (s.l.length - k) (s.c - k) := by
      show Value.slice (s.cut k s.l.length).a (s.cut k s.l.length).l.length _ = _
      rw [hlen]
      simp only [Sl.cut, if_neg hne, h1, Option.map_some, Addr.add_lit]
    have hzl : encs (List.replicate (s.l.length - k) z) = (Builtin.zeroCells zv.cells (s.l.length - k)).toList := (zeroCells_encs hzc _).symm
    have hzlen : (encs (List.replicate (s.l.length - k) z)).length = (s.l.length - k) * Ph.sz β := by rw [encs_length]; simp
    have hmul : k * Ph.sz β + (s.l.length - k) * Ph.sz β = s.l.length * Ph.sz β := by rw [← Nat.add_mul]; congr 1; omega
    have hmul2 : s.l.length * Ph.sz β ≤ s.c * Ph.sz β := Nat.mul_le_mul_right _ hle
    have hst := run_storeCells_at P b (o + k * Ph.sz β) ce (encs (List.replicate (s.l.length - k) z)) 0 cur w h2 (by rw [hzlen]; omega) (encs_one _)
    simp only [Nat.add_zero] at hst
    have hpos : ∃ m, s.l.length - k = m + 1 := ⟨s.l.length - k - 1, by omega⟩
    obtain ⟨m, hm⟩ := hpos
    have hrun : (Builtin.clear_ #[t] or.type #[(s.cut k s.l.length).v]).run P w = .ok (.tuple #[]) (w.setRow b (lay cur.toList (o + k * Ph.sz β) (encs (List.replicate (s.l.length - k) z))).toArray) := by
      rw [hv, hm]
      rw [hm] at hst hzl
      rw [hzl] at hst
      simp [Builtin.clear_, run_underlying hT.und, zeroValue, typeInfo, hi, hz', hst, lay, hzl, hm]
    refine ⟨_, _, .inl (hexec _ hrun), ⟨s.l.take k ++ List.replicate (s.l.length - k) z, s.a, s.c⟩, ?_, rfl, hs2.touch .here ((touch_setRow (b := b)).mono (by rintro y rfl; show y ∈ y :: F1; simp)) ⟨⟨?_, hp.max, [b], F1, rfl, .row h1 (setRow_heap w b cur _ ce (0, 0) h2) ?_ ?_, ?_⟩, hnd⟩ (fun y hy => .inl hy)⟩
    · show Value.slice s.a _ s.c = Value.slice s.a _ s.c; congr 1; simp; omega
    · show (s.l.take k ++ List.replicate (s.l.length - k) z).length ≤ s.c; simp; omega
    · have hcl : cur.toList.length = cur.size := Array.length_toList
      simp only [List.size_toArray]
      rw [lay_length (by rw [hzlen, hcl]; omega), hcl]; exact h3
    · have hcl : cur.toList.length = cur.size := Array.length_toList
      show ((lay cur.toList (o + k * Ph.sz β) (encs (List.replicate (s.l.length - k) z))).drop o).take (encs (s.l.take k ++ List.replicate (s.l.length - k) z)).length = encs (s.l.take k ++ List.replicate (s.l.length - k) z)
      rw [lay_drop (by rw [hcl]; omega)]
      have ht : (cur.toList.drop o).take (k * Ph.sz β) = encs (s.l.take k) := by
        rw [encs_take]
        have h5 : ((cur.toList.drop o).take (encs s.l).length) = encs s.l := h4
        conv => rhs; rw [← h5]
        rw [List.take_take, Nat.min_eq_left (by rw [encs_length]; exact Nat.mul_le_mul_right _ hk)]
      unfold lay
      rw [ht, encs_append, List.take_left]
    · have : F1 = [] := ownL_flat h5
      rw [this]
      exact ownL_mk_flat fun x hx => by
        rcases List.mem_append.1 hx with h | h
        · exact Flat.any (ownL_ok h5 x (List.mem_of_mem_take h))
        · rw [(List.mem_replicate.1 h).2]; exact hz _
  · have hkl : k = s.l.length := by omega
    refine ⟨.tuple #[], w, .inl (hexec w ?_), s, rfl, by rw [hkl]; simp, hs2⟩
    have hv : (s.cut k s.l.length).v = .slice (s.cut k s.l.length).a 0 (s.c - k) := by
      show Value.slice (s.cut k s.l.length).a (s.cut k s.l.length).l.length _ = _
      rw [hlen, show s.l.length - k = 0 from by omega]
      rfl
    rw [hv]
    cases (s.cut k s.l.length).a <;> simp [Builtin.clear_, run_underlying hT.und]
end rules
end

/-! Calls that take an own slice over and hand it back. -/
section
variable {α : Type} [Ph α] [Own α]
/-- The call returned a slice whose memory was the own slice's (blocks F), or is new. -/
def RetO (w : World) (F : List Nat) (Q : Sl α → Prop) : Ending → World → Prop := fun en w' =>
  ∃ (s' : Sl α) (F' : List Nat), en = .returned s'.v ∧ Q s' ∧ OwnS w' s' F' ∧ F'.Nodup ∧ (∀ b ∈ F', b ∈ F ∨ (w.heap.size ≤ b ∧ b < w'.heap.size)) ∧ Touch (fun k => k ∈ F) w w'
theorem RetO.of {w0 w : World} {C : List Chunk} {s' : Sl α} {F F' : List Nat} {v : Value} {Q : Sl α → Prop} (hs : Sat (fun k => k ∈ F) w0 w C) (hm : ow s' F' ∈ C) (hv : v = s'.v) (hq : Q s') : RetO w0 F Q (.returned v) w := by
  obtain ⟨⟨h1, h2⟩, h3⟩ := hs.all _ hm
  exact ⟨s', F', by rw [hv], hq, h1, h2, fun b hb => by rcases (h3 b hb).1 with h | h; exact .inr ⟨h, (h3 b hb).2⟩; exact .inl h, hs.tch⟩
theorem WL.callo {P : Program} {n : Nat} {ops : Array Oper} {Q : Exit → Act → World → Prop} {rest : List Oper} {e : Env} {w w0 : World} {C C' : List Chunk} {t : Nat} {ty : TypeId} {pos : String} {aft : Array Edge} {op : Op} {f : FuncId} {vs : List Value}
    {s : Sl α} {F : List Nat} {R : Sl α → Prop} (hs : Sat M w0 w C) (hsel : Sel [ow s F] C C') (ht : Nat.blt t n = true) (hy : Yc P n e w op f vs)
    (hc : Calls P f vs.toArray w (RetO w F R)) (k : ∀ s' F' w', R s' → Sat M w0 w' (ow s' F' :: C') → WL P n ops Q rest ((t, s'.v) :: e) w') :
    WL P n ops Q (⟨some t, op, ty, pos, aft, none⟩ :: rest) e w :=
  WL.callR ht hy hc fun en w' ⟨s', F', he, h2, h3, h4, h5, h6⟩ => ⟨s'.v, he, k s' F' w' h2 (hs.marked (a := s) (a' := s') hsel h3 h4 h5 h6)⟩
theorem Sat.box_touch {w w' w0 : World} {C C' : List Chunk} {b : Nat} {T : TypeId} {cs : List Value} {s : Sl α} {F : List Nat} (hs : Sat M w0 w C) (hsel : Sel [box b T cs, ow s F] C C') (ht : Touch (fun k => k ∈ F) w w') : CellsAt w' b 0 cs := fun j v hv => by
  have hs2 := hs.sel hsel
  have h1 := (hs2.all (box b T cs) (by simp))
  have hsep := (List.pairwise_cons.1 hs2.sep).1 (ow s F) (by simp) b rfl
  have h2 := ht.block b (h1.2 b rfl).2 hsep
  have h3 : w.heap[b]? = some (.cells cs.toArray T (0, 0)) := h1.1
  rw [cell_of_heap (by rw [h2]; exact h3)]
  simpa using hv
end

/-! Marks. -/
def costL {α : Type} (cost : α → Nat) : List α → Nat
  | [] => 0
  | x :: l => cost x + costL cost l
def mkL {α : Type} (mk : Int → α → α) (cost : α → Nat) : Int → List α → List α
  | _, [] => []
  | k, x :: l => mk k x :: mkL mk cost (k + (cost x : Int)) l

section
variable {α : Type} {mk : Int → α → α} {cost : α → Nat}
theorem costL_append : ∀ {l m : List α}, costL cost (l ++ m) = costL cost l + costL cost m
  | [], m => by simp [costL]
  | x :: l, m => by simp only [List.cons_append, costL, costL_append (l := l)]; omega
theorem costL_const {c : Nat} : ∀ {l : List α}, costL (fun _ => c) l = c * l.length
  | [] => by simp [costL]
  | x :: l => by rw [costL, costL_const (l := l), List.length_cons, Nat.mul_add]; omega
theorem costL_le {f : α → Nat} {c : Nat} (h : ∀ x, cost x ≤ c * (1 + f x)) : ∀ {l : List α}, costL cost l ≤ c * (l.length + (l.map f).sum)
  | [] => by simp [costL]
  | x :: l => by
    have h1 := h x; have h2 := costL_le h (l := l)
    simp only [costL, List.length_cons, List.map_cons, List.sum_cons]
    rw [show l.length + 1 + (f x + (l.map f).sum) = (1 + f x) + (l.length + (l.map f).sum) from by omega, Nat.mul_add]
    omega
theorem mkL_length : ∀ {k : Int} {l : List α}, (mkL mk cost k l).length = l.length
  | _, [] => rfl
  | k, x :: l => by simp [mkL, mkL_length]
theorem mkL_append : ∀ {k : Int} {l m : List α}, mkL mk cost k (l ++ m) = mkL mk cost k l ++ mkL mk cost (k + (costL cost l : Int)) m
  | k, [], m => by simp [mkL, costL]
  | k, x :: l, m => by
    simp only [List.cons_append, mkL, mkL_append (l := l), costL]
    rw [show k + ((cost x : Nat) : Int) + ((costL cost l : Nat) : Int) = k + ((cost x + costL cost l : Nat) : Int) from by omega]
theorem take_snoc' {l : List α} {n : Nat} {d : α} (hd : l[n]? = some d) : l.take (n + 1) = l.take n ++ [d] := by rw [List.take_add_one, hd]; rfl
theorem mkL_step {k : Int} {l : List α} {n : Nat} {d : α} (hd : l[n]? = some d) : mkL mk cost k (l.take (n + 1)) = mkL mk cost k (l.take n) ++ [mk (k + (costL cost (l.take n) : Int)) d] := by
  rw [take_snoc' hd, mkL_append]; rfl
theorem costL_step {l : List α} {n : Nat} {d : α} (hd : l[n]? = some d) : costL cost (l.take (n + 1)) = costL cost (l.take n) + cost d := by
  rw [take_snoc' hd, costL_append]; simp [costL]
theorem costL_split {l : List α} {n : Nat} {d : α} (hd : l[n]? = some d) : costL cost (l.take n) + cost d + costL cost (l.drop (n + 1)) = costL cost l := by
  rw [← costL_step hd, ← costL_append, List.take_append_drop]
theorem costL_take_const {c n : Nat} {l : List α} (h : n ≤ l.length) : costL (fun _ => c) (l.take n) = c * n := by
  rw [costL_const, List.length_take, Nat.min_eq_left h]
theorem mkL_get {k : Int} {l : List α} {n : Nat} {d : α} (hd : l[n]? = some d) : (mkL mk cost k l)[n]? = some (mk (k + (costL cost (l.take n) : Int)) d) := by
  have hn : n < l.length := (List.getElem?_eq_some_iff.1 hd).1
  have e : l = l.take n ++ d :: l.drop (n + 1) := by
    have := (List.getElem?_eq_some_iff.1 hd).2
    rw [← this, List.getElem_cons_drop, List.take_append_drop]
  have hl : (mkL mk cost k (l.take n)).length = n := by rw [mkL_length, List.length_take]; omega
  have : mkL mk cost k l = mkL mk cost k (l.take n) ++ (mk (k + (costL cost (l.take n) : Int)) d :: mkL mk cost (k + (costL cost (l.take n) : Int) + (cost d : Int)) (l.drop (n + 1))) := by
    conv => lhs; rw [e, mkL_append]
    rfl
  rw [this, List.getElem?_append_right (by omega), hl, Nat.sub_self]; rfl
theorem step_set {p l : List α} {n : Nat} {x : α} (hp : p.length = n) (hn : n < l.length) : (p ++ l.drop n).set n x = (p ++ [x]) ++ l.drop (n + 1) := by
  rw [List.set_append_right _ _ (by omega), hp, Nat.sub_self, List.drop_eq_getElem_cons hn, List.set_cons_zero]
  simp
theorem step_get {p l : List α} {n : Nat} {d : α} (hp : p.length = n) (hd : l[n]? = some d) : (p ++ l.drop n)[n]? = some d := by
  rw [List.getElem?_append_right (by omega), hp, Nat.sub_self, List.getElem?_drop, Nat.add_zero, hd]
end

end Go.Sw
