/- Addresses in order: two ways to compare, lists without doubles, sorted lists; the library's sort at own data. General laws; no conditions. -/
import Derived.Test.YtpnmdcomdakdmaaGreatDoorLibZ
import Derived.Sort.Row
import Derived.Shelf.SlSortCmp.NoneTotal
set_option linter.all false
namespace Go.Sw
open Go Go.RowKit

/-! Texts in order. -/
theorem cmp_zero : ∀ {a b : Str}, Lib.compareBytes a b = 0 ↔ a = b
  | [], [] => by simp [Lib.compareBytes]
  | [], _ :: _ => by simp [Lib.compareBytes]
  | _ :: _, [] => by simp [Lib.compareBytes]
  | x :: a, y :: b => by
    have ih := cmp_zero (a := a) (b := b)
    unfold Lib.compareBytes
    by_cases h1 : x < y
    · have hne : x ≠ y := fun h => by subst h; exact absurd h1 (UInt8.lt_irrefl x)
      simp [h1, hne]
    · by_cases h2 : y < x
      · have hne : x ≠ y := fun h => by subst h; exact absurd h2 (UInt8.lt_irrefl x)
        simp [h1, h2, hne]
      · have he : x = y := UInt8.le_antisymm (UInt8.not_lt.1 h2) (UInt8.not_lt.1 h1)
        simp [h1, h2, he, ih]
theorem cmp_neg : ∀ {a b : Str}, decide (Lib.compareBytes a b < 0) = Op.bytesLess a b
  | [], [] => by simp [Lib.compareBytes, Op.bytesLess]
  | [], _ :: _ => by simp [Lib.compareBytes, Op.bytesLess]
  | _ :: _, [] => by simp [Lib.compareBytes, Op.bytesLess]
  | x :: a, y :: b => by
    have ih := cmp_neg (a := a) (b := b)
    unfold Lib.compareBytes Op.bytesLess
    by_cases h1 : x < y
    · simp [h1]
    · by_cases h2 : y < x
      · have hne : (x == y) = false := by
          have : x ≠ y := fun h => by subst h; exact absurd h2 (UInt8.lt_irrefl x)
          simpa using this
        simp [h1, h2, hne]
      · have he : x = y := UInt8.le_antisymm (UInt8.not_lt.1 h2) (UInt8.not_lt.1 h1)
        subst he
        simp [h1, ih]
theorem bl_irrefl : ∀ (a : Str), Op.bytesLess a a = false
  | [] => rfl
  | x :: a => by unfold Op.bytesLess; simp [bl_irrefl a, UInt8.lt_irrefl]
theorem bl_trans : ∀ {a b c : Str}, Op.bytesLess a b = true → Op.bytesLess b c = true → Op.bytesLess a c = true
  | [], _, [], _, h => by cases ‹List UInt8› <;> simp [Op.bytesLess] at h
  | [], _, _ :: _, _, _ => rfl
  | _ :: _, [], _, h, _ => by simp [Op.bytesLess] at h
  | _ :: _, _ :: _, [], _, h => by simp [Op.bytesLess] at h
  | x :: a, y :: b, z :: c, h1, h2 => by
    unfold Op.bytesLess at h1 h2 ⊢
    simp only [Bool.or_eq_true, decide_eq_true_eq, Bool.and_eq_true, beq_iff_eq] at h1 h2 ⊢
    rcases h1 with h1 | ⟨rfl, h1⟩
    · rcases h2 with h2 | ⟨rfl, h2⟩
      · exact .inl (UInt8.lt_trans h1 h2)
      · exact .inl h1
    · rcases h2 with h2 | ⟨rfl, h2⟩
      · exact .inl h2
      · exact .inr ⟨rfl, bl_trans h1 h2⟩
theorem bl_total : ∀ (a b : Str), Op.bytesLess a b = true ∨ a = b ∨ Op.bytesLess b a = true
  | [], [] => .inr (.inl rfl)
  | [], _ :: _ => .inl rfl
  | _ :: _, [] => .inr (.inr rfl)
  | x :: a, y :: b => by
    unfold Op.bytesLess
    simp only [Bool.or_eq_true, decide_eq_true_eq, Bool.and_eq_true, beq_iff_eq, List.cons.injEq]
    by_cases h1 : x < y
    · exact .inl (.inl h1)
    · by_cases h2 : y < x
      · exact .inr (.inr (.inl h2))
      · have he : x = y := UInt8.le_antisymm (UInt8.not_lt.1 h2) (UInt8.not_lt.1 h1)
        subst he
        rcases bl_total a b with h | h | h
        · exact .inl (.inr ⟨rfl, h⟩)
        · exact .inr (.inl ⟨rfl, h⟩)
        · exact .inr (.inr (.inr ⟨rfl, h⟩))

/-! Addresses in order. -/
def ltA (x y : TAddr) : Bool := Op.bytesLess x.host y.host || (decide (x.host = y.host) && Op.bytesLess x.path y.path)
def cmpS (a b : TAddr) : Int := if a = b then 0 else if ltA a b = true then -1 else 1
def cmpI (a b : TAddr) : Int := if Lib.compareBytes a.host b.host ≠ 0 then Lib.compareBytes a.host b.host else Lib.compareBytes a.path b.path
theorem ltA_irrefl (x : TAddr) : ltA x x = false := by simp [ltA, bl_irrefl]
theorem ltA_trans {x y z : TAddr} (h1 : ltA x y = true) (h2 : ltA y z = true) : ltA x z = true := by
  simp only [ltA, Bool.or_eq_true, Bool.and_eq_true, decide_eq_true_eq] at *
  rcases h1 with h1 | ⟨e1, h1⟩
  · rcases h2 with h2 | ⟨e2, _⟩
    · exact .inl (bl_trans h1 h2)
    · exact .inl (e2 ▸ h1)
  · rcases h2 with h2 | ⟨e2, h2⟩
    · exact .inl (e1 ▸ h2)
    · exact .inr ⟨e1.trans e2, bl_trans h1 h2⟩
theorem ltA_total (x y : TAddr) : ltA x y = true ∨ x = y ∨ ltA y x = true := by
  simp only [ltA, Bool.or_eq_true, Bool.and_eq_true, decide_eq_true_eq, TAddr.ext_iff]
  rcases bl_total x.host y.host with h | h | h
  · exact .inl (.inl h)
  · rcases bl_total x.path y.path with g | g | g
    · exact .inl (.inr ⟨h, g⟩)
    · exact .inr (.inl ⟨h, g⟩)
    · exact .inr (.inr (.inr ⟨h.symm, g⟩))
  · exact .inr (.inr (.inl h))
theorem ltA_asym {x y : TAddr} (h : ltA x y = true) : ltA y x = false := by
  cases h2 : ltA y x with
  | false => rfl
  | true => have := ltA_trans h h2; rw [ltA_irrefl] at this; cases this
theorem cmpI_lt (x y : TAddr) : Go.Proofs.ltOf cmpI x y = ltA x y := by
  unfold Go.Proofs.ltOf cmpI ltA
  by_cases h : x.host = y.host
  · rw [if_neg (by simpa using cmp_zero.2 h), cmp_neg, h, bl_irrefl]; simp
  · rw [if_pos (by intro h9; exact h (cmp_zero.1 h9)), cmp_neg]; simp [h]
theorem swoA : Sort.SWO (Go.Proofs.ltOf cmpI) where
  irrefl x := by rw [cmpI_lt]; exact ltA_irrefl x
  trans x y z h1 h2 := by rw [cmpI_lt] at *; exact ltA_trans h1 h2
  ntrans x y z h1 h2 := by
    rw [cmpI_lt] at *
    cases h : ltA x z with
    | false => rfl
    | true =>
      rcases ltA_total x y with g | g | g
      · rw [g] at h1; cases h1
      · subst g; rw [h] at h2; cases h2
      · have := ltA_trans g h; rw [this] at h2; cases h2
theorem totA (x y : TAddr) (h1 : Go.Proofs.ltOf cmpI x y = false) (h2 : Go.Proofs.ltOf cmpI y x = false) : x = y := by
  rw [cmpI_lt] at h1 h2
  rcases ltA_total x y with g | g | g
  · rw [g] at h1; cases h1
  · exact g
  · rw [g] at h2; cases h2

/-! Lists without doubles. -/
def pushU (acc : List TAddr) (x : TAddr) : List TAddr := if acc.getLast? = some x then acc else acc ++ [x]
def cmpct (l : List TAddr) : List TAddr := l.foldl pushU []
theorem cmpct_snoc {l : List TAddr} {k : Nat} {d : TAddr} (hd : l[k]? = some d) : cmpct (l.take (k + 1)) = pushU (cmpct (l.take k)) d := by
  unfold cmpct; rw [List.take_add_one, hd]; simp
theorem pushU_last (acc : List TAddr) (x : TAddr) : (pushU acc x).getLast? = some x := by
  unfold pushU; split
  · assumption
  · simp
theorem cmpct_last {l : List TAddr} {k : Nat} {d : TAddr} (hd : l[k]? = some d) : (cmpct (l.take (k + 1))).getLast? = some d := by rw [cmpct_snoc hd]; exact pushU_last _ _
theorem cmpct_mem (l : List TAddr) (x : TAddr) : x ∈ cmpct l ↔ x ∈ l := by
  have key : ∀ (l acc : List TAddr), x ∈ l.foldl pushU acc ↔ x ∈ acc ∨ x ∈ l := by
    intro l
    induction l with
    | nil => intro acc; simp
    | cons y l ih =>
      intro acc
      rw [List.foldl_cons, ih]
      have : x ∈ pushU acc y ↔ x ∈ acc ∨ x = y := by
        unfold pushU; split
        · rename_i h
          constructor
          · exact .inl
          · rintro (h1 | rfl)
            · exact h1
            · exact List.mem_of_getLast? h
        · simp
      rw [this, List.mem_cons, or_assoc]
  have := key l []
  simpa [cmpct] using this
theorem cmpct_sorted {l : List TAddr} (h : l.Pairwise fun x y => ltA y x = false) : (cmpct l).Pairwise fun x y => ltA x y = true := by
  have key : ∀ (l acc : List TAddr), acc.Pairwise (fun x y => ltA x y = true) → l.Pairwise (fun x y => ltA y x = false) → (∀ x ∈ acc, ∀ y ∈ l, ltA y x = false) → (l.foldl pushU acc).Pairwise (fun x y => ltA x y = true) := by
    intro l
    induction l with
    | nil => intro acc h _ _; exact h
    | cons y l ih =>
      intro acc ha hl hm
      rw [List.foldl_cons]
      obtain ⟨h1, h2⟩ := List.pairwise_cons.1 hl
      refine ih _ ?_ h2 ?_
      · unfold pushU; split
        · exact ha
        · rename_i hne
          rw [List.pairwise_append]
          refine ⟨ha, by simp, fun x hx z hz => ?_⟩
          obtain rfl := List.mem_singleton.1 hz
          rcases ltA_total x z with g | g | g
          · exact g
          · subst g
            -- it stands in acc, and is not the last
            exfalso
            obtain ⟨p, w, rfl⟩ : ∃ p w, acc = p ++ [w] := by
              rcases List.eq_nil_or_concat acc with h | ⟨p, w, h⟩
              · subst h; cases hx
              · exact ⟨p, w, by simpa using h⟩
            have hw : w ≠ x := fun h => hne (by simp [h])
            have hxp : x ∈ p := by
              rcases List.mem_append.1 hx with h | h
              · exact h
              · exact absurd (List.mem_singleton.1 h).symm hw
            have g1 := (List.pairwise_append.1 ha).2.2 x hxp w (by simp)
            have g2 := hm w (by simp) x (by simp)
            rw [g1] at g2; cases g2
          · have := hm x hx z (by simp); rw [this] at g; cases g
      · intro x hx z hz
        have : x ∈ acc ∨ x = y := by
          unfold pushU at hx; split at hx
          · exact .inl hx
          · simpa using hx
        rcases this with h | rfl
        · exact hm x h z (by simp [hz])
        · exact h1 z hz
  exact key l [] .nil h (by simp)
theorem sorted_uniq : ∀ {a b : List TAddr}, a.Pairwise (fun x y => ltA x y = true) → b.Pairwise (fun x y => ltA x y = true) → (∀ x, x ∈ a ↔ x ∈ b) → a = b
  | [], [], _, _, _ => rfl
  | [], y :: b, _, _, h => by have := (h y).2 (by simp); cases this
  | x :: a, [], _, _, h => by have := (h x).1 (by simp); cases this
  | x :: a, y :: b, ha, hb, h => by
    obtain ⟨a1, a2⟩ := List.pairwise_cons.1 ha
    obtain ⟨b1, b2⟩ := List.pairwise_cons.1 hb
    have hxy : x = y := by
      rcases ltA_total x y with g | g | g
      · rcases List.mem_cons.1 ((h x).1 (by simp)) with e | e
        · exact e
        · have := b1 x e; rw [ltA_asym this] at g; cases g
      · exact g
      · rcases List.mem_cons.1 ((h y).2 (by simp)) with e | e
        · exact e.symm
        · have := a1 y e; rw [ltA_asym this] at g; cases g
    subst hxy
    have hna : x ∉ a := fun hx => by have := a1 x hx; rw [ltA_irrefl] at this; cases this
    have hnb : x ∉ b := fun hx => by have := b1 x hx; rw [ltA_irrefl] at this; cases this
    congr 1
    exact sorted_uniq a2 b2 fun z => by
      have := h z
      simp only [List.mem_cons] at this
      constructor
      · intro hz
        rcases this.1 (.inr hz) with e | e
        · subst e; exact absurd hz hna
        · exact e
      · intro hz
        rcases this.2 (.inr hz) with e | e
        · subst e; exact absurd hz hnb
        · exact e
def leA (x y : TAddr) : Bool := !(Go.Proofs.ltOf cmpI) y x
def sortA (l : List TAddr) : List TAddr := cmpct (l.mergeSort leA)
theorem sortA_sorted (l : List TAddr) : (sortA l).Pairwise fun x y => ltA x y = true := by
  have h : (l.mergeSort leA).Pairwise fun x y => leA x y = true := List.pairwise_mergeSort (le := leA) (fun a b c h1 h2 => by
    simp only [leA, cmpI_lt, Bool.not_eq_true'] at *
    have := swoA.ntrans c b a (by rw [cmpI_lt]; exact h2) (by rw [cmpI_lt]; exact h1)
    rwa [cmpI_lt] at this) (fun a b => by
    simp only [leA, cmpI_lt, Bool.or_eq_true, Bool.not_eq_true']
    rcases ltA_total a b with g | g | g
    · exact .inl (ltA_asym g)
    · subst g; exact .inl (ltA_irrefl a)
    · exact .inr (ltA_asym g)) l
  exact cmpct_sorted (h.imp fun hxy => by simpa [leA, cmpI_lt] using hxy)
theorem sortA_mem (l : List TAddr) (x : TAddr) : x ∈ sortA l ↔ x ∈ l := by
  unfold sortA; rw [cmpct_mem]; exact (List.mergeSort_perm l leA).mem_iff
theorem sortA_of {a l : List TAddr} (h : a.Pairwise fun x y => ltA x y = true) (hm : ∀ x, x ∈ a ↔ x ∈ l) : a = sortA l :=
  sorted_uniq h (sortA_sorted l) fun x => (hm x).trans (sortA_mem l x).symm

/-! The library's sort at own data. -/
instance : Inhabited TAddr := ⟨⟨[], []⟩⟩
def encA (x : TAddr) : List Value := [S x.host, S x.path]
theorem enc_flat {L : List TAddr} {j : Nat} (hj : j < L.length * 2) : (encs L)[j]? = some ((Go.Sort.flatK encA 2 L.toArray)[j]!) := by
  have h2 : j / 2 < L.length := by omega
  have hd : L[j / 2]? = some L[j / 2] := List.getElem?_eq_getElem h2
  have hlt : j % 2 < (Ph.enc L[j / 2]).length := by rw [Ph.len]; exact Nat.mod_lt _ (by decide)
  have h := encs_get L (j / 2) _ hd (j % 2) _ (List.getElem?_eq_getElem hlt)
  have e : j / 2 * Ph.sz TAddr + j % 2 = j := by show j / 2 * 2 + j % 2 = j; omega
  rw [e] at h
  rw [h, Go.Sort.get_flatK encA 2 L.toArray j (by simpa using hj)]
  have e2 : L.toArray[j / 2]! = L[j / 2] := by simp [h2]
  rw [e2]
  congr 1
  have hx : ∀ (l : List Value) (i : Nat) (h : i < l.length), l[i] = l[i]! := fun l i h => by simp [h]
  exact hx (Ph.enc L[j / 2]) (j % 2) hlt
theorem sort_calls {P : Program} {f g : FuncId}
    (hS : ∀ (b o c : Nat) (d : Array TAddr) (w : World), Go.Sort.HoldsK encA 2 w b o d → b < w.heap.size → d.size < 4611686018427387904 → Calls P f #[.slice (some ⟨b, o, none⟩) d.size c, .func (.func g) #[] #[]] w fun e w' => e = .returned (.tuple #[]) ∧ ∃ n os, w' = Go.Proofs.sortWorldK encA 2 w b o n (d.toList.mergeSort leA).toArray os)
    (hN : ∀ (p : Option Go.Addr) (c : Nat) (w : World), Calls P f #[.slice p 0 c, .func (.func g) #[] #[]] w fun e w' => e = .returned (.tuple #[]) ∧ w' = w)
    (s : Sl TAddr) (F : List Nat) (w : World) (hF : Own.own w s F) (hn : F.Nodup) (hlen : s.l.length ≤ 4611686018427387903) :
    Calls P f [Sl.v s, .func (.func g) #[] #[]].toArray w (RetM w s F (.tuple #[]) (fun s' => s'.l = s.l.mergeSort leA)) := by
  have ho : OwnS w s F := hF
  by_cases h0 : s.l = []
  · have hv : [Sl.v s, .func (.func g) #[] #[]].toArray = #[.slice s.a 0 s.c, .func (.func g) #[] #[]] := by simp [Sl.v, h0]
    rw [hv]
    refine Calls.mono (hN s.a s.c w) ?_
    rintro e w' ⟨rfl, rfl⟩
    exact ⟨rfl, s, F, rfl, by show s.l = _; rw [h0]; simp, hF, hn, fun b hb => .inl hb, Touch.refl _ _⟩
  · have hpos : 0 < s.l.length := by cases h9 : s.l with | nil => exact absurd h9 h0 | cons x l => simp
    obtain ⟨b, o, cur, ce, F1, h1, hblk, hoff, hFe, h2, h3, h4, h5⟩ := ho.row hpos
    have hF1 : F1 = [] := ownL_flat h5
    subst hF1; subst hFe
    have hv : [Sl.v s, .func (.func g) #[] #[]].toArray = #[.slice (some ⟨b, o, none⟩) s.l.toArray.size s.c, .func (.func g) #[] #[]] := by simp [Sl.v, h1]
    rw [hv]
    have hok : Sl.Ok w s := Own.ok hF
    have hH : Go.Sort.HoldsK encA 2 w b o s.l.toArray := by
      intro j hj
      have hj2 : j < s.l.length * 2 := by simpa using hj
      refine ⟨?_, ?_⟩
      · rcases hok.cells with h | ⟨_, hc⟩
        · exact absurd h h0
        · have := hc j _ (enc_flat hj2)
          rw [hblk, hoff] at this
          exact this
      · simp [World.frozen?, h2]
    have hb : b < w.heap.size := (Array.getElem?_eq_some_iff.1 h2).1
    refine Calls.mono (hS b o s.c s.l.toArray w hH hb (by simp; omega)) ?_
    rintro e w' ⟨rfl, n, os, rfl⟩
    have hL : (s.l.mergeSort leA).length = s.l.length := List.length_mergeSort _
    have hlist : s.l.toArray.toList = s.l := rfl
    rw [hlist]
    generalize hM : s.l.mergeSort leA = L at *
    -- the heap
    have hheap : ∀ k, k < w.heap.size → (Go.Proofs.sortWorldK encA 2 w b o n L.toArray os).heap[k]? = if b = k then some (.cells (Go.Sort.putCells id o (Go.Sort.flatK encA 2 L.toArray) cur) ce (0, 0)) else w.heap[k]? := by
      intro k hk
      show ((w.heap.modify b _) ++ os)[k]? = _
      rw [Array.getElem?_append_left (by simpa using hk), Array.getElem?_modify]
      split
      · rename_i hbk
        subst hbk
        rw [h2]; rfl
      · rfl
    have hle : s.l.length * 2 ≤ s.c * 2 := Nat.mul_le_mul_right _ ho.le
    have hcs : o + s.c * 2 ≤ cur.size := h3
    refine ⟨rfl, ⟨L, s.a, s.c⟩, [b], ?_, rfl, ⟨by show L.length ≤ s.c; rw [hL]; exact ho.le, ho.max, [b], [], rfl, .row h1 (by rw [hheap b hb, if_pos rfl]) ?_ ?_, ?_⟩, by simp, fun k hk => .inl hk, ⟨rfl, rfl, rfl, ?_, fun k hk hne => ?_⟩⟩
    · show [Value.slice s.a L.length s.c] = [Value.slice s.a s.l.length s.c]; rw [hL]
    · show o + s.c * 2 ≤ (Go.Sort.putCells id o _ cur).size
      simp only [Go.Sort.putCells, Array.size_mapIdx]; exact hcs
    · have hlen2 : (encs L).length = L.length * 2 := encs_length L
      apply List.ext_getElem?
      intro j
      show (((Go.Sort.putCells id o (Go.Sort.flatK encA 2 L.toArray) cur).toList.drop o).take (encs L).length)[j]? = (encs L)[j]?
      by_cases hj : j < L.length * 2
      · rw [List.getElem?_take, if_pos (by rw [hlen2]; exact hj), List.getElem?_drop, Array.getElem?_toList, enc_flat hj]
        have hlt : o + j < cur.size := by rw [hL] at hj; omega
        simp only [Go.Sort.putCells, Array.getElem?_mapIdx, Array.getElem?_eq_getElem hlt, Option.map_some]
        rw [if_pos ⟨by omega, by simp; omega⟩, show o + j - o = j from by omega]
        rfl
      · rw [List.getElem?_eq_none (by simp; omega), List.getElem?_eq_none (by omega)]
    · exact ownL_mk_flat fun x hx => by
        have hx2 : x ∈ s.l := by rw [← hM] at hx; exact (List.mergeSort_perm s.l leA).mem_iff.1 hx
        exact Flat.any (hok.elems x hx2)
    · show w.heap.size ≤ ((w.heap.modify b _) ++ os).size
      simp
    · rw [hheap k hk, if_neg (by rintro rfl; exact hne (by simp))]

/-! Slices cut: the value does not turn with the data. -/
theorem cut_v {α : Type} [Ph α] {s z : Sl α} {k : Nat} (hv : z.v = s.v) : (z.cut k z.l.length).v = (s.cut k s.l.length).v := by
  simp only [Sl.v, Value.slice.injEq] at hv
  obtain ⟨h1, h2, h3⟩ := hv
  simp only [Sl.v, Sl.cut, h1, h2, h3, List.length_drop, List.length_take, Nat.min_self]
theorem cut_get? {α : Type} [Ph α] {s : Sl α} {k m : Nat} : (s.cut k s.l.length).l[m]? = s.l[k + m]? := by rw [Sl.cut_full, List.getElem?_drop]

theorem cmpct_len (l : List TAddr) : (cmpct l).length ≤ l.length := by
  have key : ∀ (l acc : List TAddr), (l.foldl pushU acc).length ≤ acc.length + l.length := by
    intro l
    induction l with
    | nil => intro acc; simp
    | cons y l ih =>
      intro acc
      have := ih (pushU acc y)
      have h2 : (pushU acc y).length ≤ acc.length + 1 := by unfold pushU; split <;> simp
      rw [List.foldl_cons, List.length_cons]; omega
  have := key l []
  simpa [cmpct] using this
theorem sortA_len (l : List TAddr) : (sortA l).length ≤ l.length := by
  have := cmpct_len (l.mergeSort leA)
  rw [List.length_mergeSort] at this
  exact this
theorem cmpS_neg {a b : TAddr} : cmpS a b < 0 ↔ ltA a b = true := by
  unfold cmpS
  by_cases h : a = b
  · subst h; rw [if_pos rfl, ltA_irrefl]; simp
  · rw [if_neg h]
    by_cases g : ltA a b = true
    · rw [if_pos g]; simp [g]
    · rw [if_neg g]; simp [g]
/-- One address put in its place. -/
theorem ins_ok {l : List TAddr} {m : Nat} {d : TAddr} (h : l.Pairwise fun x y => ltA x y = true) (hlo : ∀ y ∈ l.take m, ltA y d = true) (hhi : ∀ y ∈ l.drop m, ltA d y = true) :
    (l.take m ++ [d] ++ l.drop m).Pairwise (fun x y => ltA x y = true) ∧ ∀ x, x ∈ l.take m ++ [d] ++ l.drop m ↔ x ∈ l ∨ x = d := by
  refine ⟨?_, fun x => ?_⟩
  · rw [List.append_assoc, List.pairwise_append]
    refine ⟨h.sublist (List.take_sublist _ _), ?_, ?_⟩
    · rw [List.singleton_append, List.pairwise_cons]
      exact ⟨hhi, h.sublist (List.drop_sublist _ _)⟩
    · intro a ha b hb
      rcases List.mem_append.1 hb with h1 | h1
      · rw [List.mem_singleton.1 h1]; exact hlo a ha
      · exact ltA_trans (hlo a ha) (hhi b h1)
  · have e : x ∈ l ↔ x ∈ l.take m ∨ x ∈ l.drop m := by
      conv => lhs; rw [← List.take_append_drop m l]
      exact List.mem_append
    simp only [List.mem_append, List.mem_singleton, e]
    constructor
    · rintro ((h | h) | h) <;> simp [h]
    · rintro ((h | h) | h) <;> simp [h]
theorem low_zero {l : List TAddr} {m : Nat} {d : TAddr} (h : m = 0) : ∀ y ∈ l.take m, ltA y d = true := fun y hy => by subst h; simp at hy
theorem low_of {l : List TAddr} {m : Nat} {d d2 : TAddr} (h : l.Pairwise fun x y => ltA x y = true) (hm : m ≠ 0) (hd : l[m - 1]? = some d2) (hn : d ∉ l) (hlt : ¬ cmpS d d2 < 0) : ∀ y ∈ l.take m, ltA y d = true := fun y hy => by
  have h2 : ltA d2 d = true := by
    rcases ltA_total d d2 with g | g | g
    · exact absurd (cmpS_neg.2 g) hlt
    · subst g; exact absurd (List.mem_of_getElem? hd) hn
    · exact g
  obtain ⟨p, rfl⟩ : ∃ p, m = p + 1 := ⟨m - 1, by omega⟩
  rw [Nat.add_sub_cancel] at hd
  rw [List.take_add_one, hd] at hy
  rcases List.mem_append.1 hy with g | g
  · have e : l = l.take p ++ l.drop p := (List.take_append_drop p l).symm
    rw [e, List.pairwise_append] at h
    have hp : d2 ∈ l.drop p := by
      have : (l.drop p)[0]? = some d2 := by rw [List.getElem?_drop]; exact hd
      exact List.mem_of_getElem? this
    exact ltA_trans (h.2.2 y g d2 hp) h2
  · have : y = d2 := by simpa using g
    rw [this]; exact h2
theorem drop_pred {l : List TAddr} {m : Nat} {d2 : TAddr} (hm : m ≠ 0) (hd : l[m - 1]? = some d2) : l.drop (m - 1) = d2 :: l.drop m := by
  obtain ⟨p, rfl⟩ : ∃ p, m = p + 1 := ⟨m - 1, by omega⟩
  rw [Nat.add_sub_cancel] at hd ⊢
  exact drop_cons hd
theorem mem_take_succ {l : List TAddr} {k : Nat} {d x : TAddr} (hd : l[k]? = some d) : x ∈ l.take (k + 1) ↔ x ∈ l.take k ∨ x = d := by
  rw [List.take_add_one, hd]; simp
theorem costSorted_le (l : List TSent) : costL (fun _ => 2) (sortA (l.map TSent.to)) ≤ 2 * lsz TSent.size l := by
  have := sortA_len (l.map TSent.to)
  rw [List.length_map] at this
  rw [costL_const]
  simp only [lsz]; omega
/-- The work of Compact, step by step. -/
theorem cmp_step {l z : List TAddr} {w m : Nat} {d e : TAddr} (h1 : z.take w = cmpct (l.take m)) (hm : m ≠ 0) (he : l[m - 1]? = some e) (hd : l[m]? = some d) (hw : w < z.length) (hne : ¬ d = e) : (z.set w d).take (w + 1) = cmpct (l.take (m + 1)) := by
  obtain ⟨p, rfl⟩ : ∃ p, m = p + 1 := ⟨m - 1, by omega⟩
  rw [Nat.add_sub_cancel] at he
  rw [cmpct_snoc hd, take_set_succ hw, h1]
  unfold pushU
  rw [if_neg]
  rw [cmpct_last he]
  intro h; exact hne (Option.some.inj h).symm
theorem cmp_same {l z : List TAddr} {w m : Nat} {d e : TAddr} (h1 : z.take w = cmpct (l.take m)) (hm : m ≠ 0) (he : l[m - 1]? = some e) (hd : l[m]? = some d) (heq : d = e) : z.take w = cmpct (l.take (m + 1)) := by
  obtain ⟨p, rfl⟩ : ∃ p, m = p + 1 := ⟨m - 1, by omega⟩
  rw [Nat.add_sub_cancel] at he
  rw [cmpct_snoc hd, h1]
  unfold pushU
  rw [if_pos (by rw [cmpct_last he, heq])]
theorem cmp_grow {l : List TAddr} {k : Nat} {d e : TAddr} (h1 : cmpct (l.take k) = l.take k) (hk : k ≠ 0) (he : l[k - 1]? = some e) (hd : l[k]? = some d) (hne : ¬ d = e) : cmpct (l.take (k + 1)) = l.take (k + 1) := by
  obtain ⟨p, rfl⟩ : ∃ p, k = p + 1 := ⟨k - 1, by omega⟩
  rw [Nat.add_sub_cancel] at he
  rw [cmpct_snoc hd]
  unfold pushU
  rw [if_neg (by rw [cmpct_last he]; intro h; exact hne (Option.some.inj h).symm), h1, List.take_add_one (i := p + 1), hd]; rfl
theorem cmp_one (l : List TAddr) : cmpct (l.take 1) = l.take 1 := by
  cases l with
  | nil => rfl
  | cons x l => rfl

end Go.Sw
