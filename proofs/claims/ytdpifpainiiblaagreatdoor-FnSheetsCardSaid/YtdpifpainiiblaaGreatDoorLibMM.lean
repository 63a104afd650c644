/- Sheets: their text and what it parses to, the join, the color of a name and of a place in a tree. Plain laws; no conditions. -/
import Derived.Test.YtdpifpainiiblaaGreatDoorLibLL
set_option linter.all false
namespace Go.Sw
open Go Go.RowKit

/-! A part of a sheet's text, cut at its colon. -/
theorem cutC_no {b : UInt8} : ∀ {x : Str}, b ∉ x → cutC b x = (x, [], false)
  | [], _ => rfl
  | c :: x, h => by
    have h1 : c ≠ b := fun e => h (by simp [e])
    have h2 : b ∉ x := fun e => h (by simp [e])
    simp [cutC, h1, cutC_no h2]
theorem cutC_app {b : UInt8} : ∀ {x y : Str}, b ∉ x → cutC b (x ++ b :: y) = (x, y, true)
  | [], y, _ => by simp [cutC]
  | c :: x, y, h => by
    have h1 : c ≠ b := fun e => h (by simp [e])
    have h2 : b ∉ x := fun e => h (by simp [e])
    simp [cutC, h1, cutC_app h2]
theorem parted {b : UInt8} : ∀ {x : Str}, b ∈ x → ∃ u v, x = u ++ b :: v ∧ b ∉ u
  | [], h => by cases h
  | c :: x, h => by
    by_cases hc : c = b
    · subst hc; exact ⟨[], x, rfl, by simp⟩
    · have hx : b ∈ x := by
        rcases List.mem_cons.1 h with h | h
        · exact absurd h.symm hc
        · exact h
      obtain ⟨u, v, e, hu⟩ := parted hx
      refine ⟨c :: u, v, by rw [e]; rfl, ?_⟩
      intro h9
      rcases List.mem_cons.1 h9 with h9 | h9
      · exact hc h9.symm
      · exact hu h9
theorem isInt_nil : isInt [] = false := int_out (by simp)
theorem isInt_other {v : Str} {b : UInt8} (hb : digit b = false) (h : b ∈ v) : isInt v = false := by
  cases hi : isInt v with
  | false => rfl
  | true =>
    unfold isInt at hi
    simp only [Bool.and_eq_true, decide_eq_true_eq] at hi
    have := List.all_eq_true.1 hi.1.1.2 b h
    rw [hb] at this; cases this
def ruleCut (x : Str) : Option TRule := if (isInt (cutC 58 x).2.1 && isName (cutC 58 x).1 && inR (parseI (cutC 58 x).2.1) 1 999) = true then some ⟨(cutC 58 x).1, parseI (cutC 58 x).2.1⟩ else none
theorem ruleOf_cut (x : Str) : ruleOf x = ruleCut x := by
  by_cases h : (58 : UInt8) ∈ x
  · obtain ⟨u, v, rfl, hu⟩ := parted h
    have e1 : splitC 58 (u ++ 58 :: v) = u :: splitC 58 v := splitC_app hu
    have e2 : cutC 58 (u ++ 58 :: v) = (u, v, true) := cutC_app hu
    unfold ruleCut
    rw [e2]
    by_cases hv : (58 : UInt8) ∈ v
    · rw [ruleOf_len (by
        obtain ⟨a, c, rfl, ha⟩ := parted hv
        rw [e1, splitC_app ha]
        have := List.length_pos_iff.2 (splitC_ne 58 c)
        simp only [List.length_cons]; omega), if_neg (by simp [isInt_other (b := 58) (by decide) hv])]
    · rw [ruleOf_two (a := u) (b := v) (by rw [e1, splitC_none hv]; rfl) (by rw [e1]; rfl) (by rw [e1, splitC_none hv]; rfl)]
      show (if (isName u && isInt v && inR (parseI v) 1 999) = true then _ else _) = if (isInt v && isName u && inR (parseI v) 1 999) = true then _ else _
      rw [Bool.and_comm (isName u)]
  · unfold ruleCut
    rw [cutC_no h, ruleOf_len (by rw [splitC_none h]; simp), if_neg (by simp [isInt_nil])]
theorem ruleOf_yes {x : Str} (h1 : isInt (cutC 58 x).2.1 = true) (h2 : isName (cutC 58 x).1 = true) (h3 : inR (parseI (cutC 58 x).2.1) 1 999 = true) : ruleOf x = some ⟨(cutC 58 x).1, parseI (cutC 58 x).2.1⟩ := by
  rw [ruleOf_cut]; unfold ruleCut; rw [if_pos (by simp [h1, h2, h3])]
theorem ruleOf_no {x : Str} (h : ¬ (isInt (cutC 58 x).2.1 = true ∧ isName (cutC 58 x).1 = true ∧ inR (parseI (cutC 58 x).2.1) 1 999 = true)) : ruleOf x = none := by
  rw [ruleOf_cut]; unfold ruleCut; rw [if_neg (by simpa [and_assoc] using h)]
theorem sheetTo_stop {l : List Str} {k : Nat} (h : 8 ≤ (sheetTo (l.take k)).length) : sheetTo (l.take (k + 1)) = sheetTo (l.take k) := by
  have e : (l.take (k + 1)).take k = l.take k := by rw [List.take_take, Nat.min_eq_left (Nat.le_succ k)]
  have := sheetTo_full (l := l.take (k + 1)) (k := k) (by rw [e]; exact h)
  rwa [e] at this
theorem sheetTo_none {l : List Str} {k : Nat} {d : Str} (hd : l[k]? = some d) (h : ruleOf d = none) : sheetTo (l.take (k + 1)) = sheetTo (l.take k) := by
  by_cases h8 : (sheetTo (l.take k)).length < 8
  · rw [sheetTo_step hd h8, h]; simp
  · exact sheetTo_stop (by omega)
theorem sheetTo_more {l : List Str} {k : Nat} {d : Str} {r : TRule} (hd : l[k]? = some d) (h8 : (sheetTo (l.take k)).length < 8) (h : ruleOf d = some r) : sheetTo (l.take (k + 1)) = sheetTo (l.take k) ++ [r] := by
  rw [sheetTo_step hd h8, h]; rfl

/-! The text of a sheet, and what it parses to. -/
def ruleText (r : TRule) : Str := (r.name ++ [58]) ++ Lib.itoa r.color
def fmtSheet (x : TSheet) : Str := joinS (x.rules.map ruleText) [59]
theorem split_joinS {b : UInt8} : ∀ {l : List Str}, l ≠ [] → (∀ x ∈ l, b ∉ x) → splitC b (joinS l [b]) = l
  | [], h, _ => absurd rfl h
  | [x], _, h => by rw [joinS_one]; exact splitC_none (h x (by simp))
  | x :: y :: l, _, h => by
    have ih := split_joinS (b := b) (l := y :: l) (by simp) (fun z hz => h z (List.mem_cons_of_mem _ hz))
    rw [joinS_cons, List.append_assoc]
    show splitC b (x ++ b :: joinS (y :: l) [b]) = _
    rw [splitC_app (h x (by simp)), ih]
theorem sname_no {s : Str} (h : isName s = true) {b : UInt8} (hb : lower b = false) : b ∉ s := fun h9 => by
  unfold isName at h
  simp only [Bool.and_eq_true] at h
  have := List.all_eq_true.1 h.1 b h9
  rw [hb] at this; cases this
theorem itoa_no {n : Int} (h : 0 ≤ n) {b : UInt8} (hb : digit b = false) : b ∉ Lib.itoa n := fun h9 => by
  have e : Lib.itoa n = Lib.decDigits n.toNat := by unfold Lib.itoa; rw [if_neg (by omega)]
  rw [e] at h9
  have := List.all_eq_true.1 (decDigits_all n.toNat) b h9
  rw [hb] at this; cases this
theorem ruleOf_text {r : TRule} (hn : isName r.name = true) (h1 : 1 ≤ r.color) (h2 : r.color ≤ 999) : ruleOf (ruleText r) = some r := by
  have e : ruleText r = r.name ++ 58 :: Lib.itoa r.color := by unfold ruleText; simp
  have hu : (58 : UInt8) ∉ r.name := sname_no hn (by decide)
  have hv : (58 : UInt8) ∉ Lib.itoa r.color := itoa_no (by omega) (by decide)
  have hi := itoa_isInt (s := Lib.itoa r.color) (n := r.color) (by omega) (by omega) rfl
  have hp : parseI (Lib.itoa r.color) = r.color := by unfold parseI; rw [if_pos hi.1, hi.2]
  rw [e, ruleOf_two (a := r.name) (b := Lib.itoa r.color) (by rw [splitC_app hu, splitC_none hv]; rfl) (by rw [splitC_app hu]; rfl) (by rw [splitC_app hu, splitC_none hv]; rfl),
    if_pos (by rw [hp]; simp [hn, hi.1, inR_true.2 ⟨h1, h2⟩]), hp]
theorem sheet_back {R : List TRule} (hR : ∀ r ∈ R, isName r.name = true ∧ 1 ≤ r.color ∧ r.color ≤ 999) (hl : R.length ≤ 8) : sheetTo (splitC 59 (fmtSheet ⟨R⟩)) = R := by
  by_cases h0 : R = []
  · subst h0; decide
  · have e : splitC 59 (fmtSheet ⟨R⟩) = R.map ruleText := split_joinS (by simpa using h0) (fun x hx => by
      obtain ⟨r, hr, rfl⟩ := List.mem_map.1 hx
      have h9 := hR r hr
      unfold ruleText
      intro h8
      rcases List.mem_append.1 h8 with h8 | h8
      · rcases List.mem_append.1 h8 with h8 | h8
        · exact sname_no h9.1 (by decide) h8
        · exact absurd (List.mem_singleton.1 h8) (by decide)
      · exact itoa_no (by omega) (by decide) h8)
    rw [e]
    unfold sheetTo
    have key : ∀ Q : List TRule, (∀ r ∈ Q, isName r.name = true ∧ 1 ≤ r.color ∧ r.color ≤ 999) → (Q.map ruleText).filterMap ruleOf = Q := by
      intro Q
      induction Q with
      | nil => intro _; rfl
      | cons q Q ih =>
        intro h
        have h9 := h q (by simp)
        rw [List.map_cons, List.filterMap_cons, ruleOf_text h9.1 h9.2.1 h9.2.2, ih (fun r hr => h r (List.mem_cons_of_mem _ hr))]
    rw [key R hR, List.take_of_length_le hl]
theorem sheet_round (l : List Str) : sheetTo (splitC 59 (fmtSheet ⟨sheetTo l⟩)) = sheetTo l := sheet_back (fun _ h => sheetTo_mem h) (sheetTo_len l)
theorem sheet_wf {x : PSheet} {l : List Str} {r : TRule} (h : x.lg = ⟨sheetTo l⟩) (hr : r ∈ x.lg.rules) : WfI r.color := by
  rw [h] at hr
  have := (sheetTo_mem hr).2
  exact ⟨by omega, by omega⟩
theorem itoa_len13 {n : Int} (h : WfI n) : (Lib.itoa n).length ≤ 20 := by
  unfold Lib.itoa; split
  · have := decDigits_len 18 n.natAbs (by rw [show (10 : Nat) ^ (18 + 1) = 10000000000000000000 from by decide]; have := h.1; omega)
    rw [List.length_cons]; omega
  · have := decDigits_len 18 n.toNat (by rw [show (10 : Nat) ^ (18 + 1) = 10000000000000000000 from by decide]; have := h.2; omega)
    omega
theorem fmtSheet_len (x : TSheet) (h : ∀ r ∈ x.rules, WfI r.color) : (fmtSheet x).length ≤ 23 * x.size := by
  unfold fmtSheet
  have h1 := joinS_len [59] (x.rules.map ruleText)
  have key : ∀ Q : List TRule, (∀ r ∈ Q, WfI r.color) → lsum List.length (Q.map ruleText) + Q.length ≤ lsum TRule.size Q + 22 * Q.length := by
    intro Q
    induction Q with
    | nil => intro _; simp [lsum]
    | cons q Q ih =>
      intro h
      have h2 := ih (fun r hr => h r (List.mem_cons_of_mem _ hr))
      have h3 := itoa_len13 (h q (by simp))
      rw [List.map_cons, lsum_cons, lsum_cons]
      simp only [ruleText, TRule.size, List.length_append, List.length_cons, List.length_nil]; omega
  have h2 := key x.rules h
  simp only [TSheet.size, lsz]
  simp only [List.length_map, List.length_singleton, Nat.mul_one] at h1
  omega

/-! The join: every name once, in order, with its color. -/
theorem le_trans3 {a b c : Str} (h1 : leS a b = true) (h2 : leS b c = true) : leS a c = true := by
  unfold leS at *
  exact decide_eq_true (List.le_trans (of_decide_eq_true h1) (of_decide_eq_true h2))
theorem le_total2 (a b : Str) : (leS a b || leS b a) = true := by
  unfold leS
  rcases List.le_total a b with h | h <;> simp [h]
theorem compact_mem2 {zs : List Str} : ∀ (i : Nat) {x : Str}, zs[i]? = some x → x ∈ Lib.compact zs := by
  intro i
  induction i with
  | zero =>
    intro x h
    obtain ⟨hi, rfl⟩ := List.getElem?_eq_some_iff.1 h
    unfold Lib.compact Lib.compactUpTo
    refine List.mem_map.2 ⟨0, List.mem_filter.2 ⟨List.mem_range.2 hi, by simp [Lib.keeps]⟩, ?_⟩
    rw [getElem!_pos zs.toArray 0 (by simpa using hi)]; rfl
  | succ i ih =>
    intro x h
    obtain ⟨hi, rfl⟩ := List.getElem?_eq_some_iff.1 h
    have e1 : zs.toArray[i + 1]! = zs[i + 1] := by rw [getElem!_pos zs.toArray (i + 1) (by simpa using hi)]; rfl
    by_cases hk : Lib.keeps zs.toArray (i + 1) = true
    · unfold Lib.compact Lib.compactUpTo
      exact List.mem_map.2 ⟨i + 1, List.mem_filter.2 ⟨List.mem_range.2 hi, hk⟩, e1⟩
    · have e2 : zs.toArray[i]! = zs[i] := by rw [getElem!_pos zs.toArray i (by simp; omega)]; rfl
      have : zs.toArray[i + 1]! = zs.toArray[i + 1 - 1]! := by
        simpa [Lib.keeps] using hk
      rw [Nat.add_sub_cancel, e1, e2] at this
      exact ih (by rw [List.getElem?_eq_getElem (by omega), this])
theorem compact_mem (zs : List Str) (x : Str) : x ∈ Lib.compact zs ↔ x ∈ zs := by
  refine ⟨compact_mem1, fun h => ?_⟩
  obtain ⟨i, hi, rfl⟩ := List.getElem_of_mem h
  exact compact_mem2 i (List.getElem?_eq_getElem hi)
theorem compact_sorted {zs : List Str} (hs : zs.Pairwise fun a b => leS a b = true) : (Lib.compact zs).Pairwise fun a b => Op.bytesLess a b = true := by
  unfold Lib.compact Lib.compactUpTo
  rw [List.pairwise_map]
  have hr : (List.range zs.length).Pairwise (· < ·) := List.pairwise_lt_range
  have hf := hr.filter (Lib.keeps zs.toArray)
  refine List.Pairwise.imp_of_mem (fun {i j} hi hj hij => ?_) hf
  have hi' : i < zs.length := List.mem_range.1 (List.mem_filter.1 hi).1
  have hj' : j < zs.length := List.mem_range.1 (List.mem_filter.1 hj).1
  have hk := (List.mem_filter.1 hj).2
  have e1 : zs.toArray[i]! = zs[i] := by rw [getElem!_pos zs.toArray i (by simpa using hi')]; rfl
  have e2 : zs.toArray[j]! = zs[j] := by rw [getElem!_pos zs.toArray j (by simpa using hj')]; rfl
  have e3 : zs.toArray[j - 1]! = zs[j - 1] := by rw [getElem!_pos zs.toArray (j - 1) (by simp; omega)]; rfl
  have hne : zs[j] ≠ zs[j - 1] := by
    have : j = 0 ∨ zs.toArray[j]! ≠ zs.toArray[j - 1]! := by simpa [Lib.keeps] using hk
    rcases this with h | h
    · omega
    · rw [e2, e3] at h; exact h
  rw [e1, e2, Go.Proofs.bytesLess_eq]
  have hp := List.pairwise_iff_getElem.1 hs
  have h1 : leS zs[j - 1] zs[j] = true := hp (j - 1) j (by omega) hj' (by omega)
  have h2 : zs[i] ≤ zs[j - 1] := by
    by_cases h : i = j - 1
    · subst h; exact List.le_refl _
    · exact of_decide_eq_true (hp i (j - 1) hi' (by omega) (by omega))
  have h3 : zs[j - 1] < zs[j] := by
    by_cases h : zs[j - 1] < zs[j]
    · exact h
    · exact absurd (List.le_antisymm (List.not_lt.1 h) (of_decide_eq_true h1)) hne
  exact decide_eq_true (List.lt_of_le_of_lt h2 h3)
def namesT (L : List TSheet) : List Str := L.flatMap fun s => s.rules.map TRule.name
def joinT (L : List TSheet) : TSheet := ⟨(Lib.compact ((namesT L).mergeSort leS)).map fun nm => ⟨nm, colorT nm L⟩⟩
theorem joinT_names (L : List TSheet) : ((joinT L).rules.map TRule.name).Pairwise fun a b => Op.bytesLess a b = true := by
  have e : (joinT L).rules.map TRule.name = Lib.compact ((namesT L).mergeSort leS) := by
    unfold joinT; rw [List.map_map]; exact List.map_id _
  rw [e]
  exact compact_sorted (List.pairwise_mergeSort (le := leS) (fun a b c h1 h2 => le_trans3 h1 h2) le_total2 _)
theorem joinT_mem (L : List TSheet) (r : TRule) : r ∈ (joinT L).rules ↔ r.name ∈ namesT L ∧ r.color = colorT r.name L := by
  unfold joinT
  rw [List.mem_map]
  constructor
  · rintro ⟨nm, h, rfl⟩
    rw [compact_mem, (List.mergeSort_perm _ _).mem_iff] at h
    exact ⟨h, rfl⟩
  · rintro ⟨h1, h2⟩
    refine ⟨r.name, by rw [compact_mem, (List.mergeSort_perm _ _).mem_iff]; exact h1, ?_⟩
    rw [← h2]
theorem joinT_lt {L : List TSheet} {k : Nat} {x y : TRule} (hx : (joinT L).rules[k]? = some x) (hy : (joinT L).rules[k + 1]? = some y) : Op.bytesLess x.name y.name = true := by
  obtain ⟨h1, rfl⟩ := List.getElem?_eq_some_iff.1 hx
  obtain ⟨h2, rfl⟩ := List.getElem?_eq_some_iff.1 hy
  have := List.pairwise_iff_getElem.1 (joinT_names L) k (k + 1) (by simpa using h1) (by simpa using h2) (by omega)
  simpa using this
theorem colR_none {nm : Str} : ∀ {l : List TRule}, (∀ r ∈ l, ¬ r.name = nm) → colR nm l = none
  | [], _ => rfl
  | r :: l, h => by
    rw [colR, if_neg (h r (by simp))]
    exact colR_none fun x hx => h x (List.mem_cons_of_mem _ hx)
theorem colR_all {nm : Str} {v : Int} : ∀ {l : List TRule}, (∃ r ∈ l, r.name = nm) → (∀ r ∈ l, r.name = nm → r.color = v) → colR nm l = some v
  | [], h, _ => by obtain ⟨r, h, _⟩ := h; cases h
  | r :: l, h, h2 => by
    rw [colR]
    by_cases h9 : r.name = nm
    · rw [if_pos h9, h2 r (by simp) h9]
    · rw [if_neg h9]
      obtain ⟨x, hx, hn⟩ := h
      rcases List.mem_cons.1 hx with rfl | hx
      · exact absurd hn h9
      · exact colR_all ⟨x, hx, hn⟩ fun y hy => h2 y (List.mem_cons_of_mem _ hy)
theorem colT_none {nm : Str} : ∀ {L : List TSheet}, (∀ s ∈ L, ∀ r ∈ s.rules, ¬ r.name = nm) → colT nm L = none
  | [], _ => rfl
  | s :: L, h => by
    rw [colT, colR_none (l := s.rules.reverse) (fun r hr => h s (by simp) r (List.mem_reverse.1 hr))]
    exact colT_none fun x hx => h x (List.mem_cons_of_mem _ hx)
theorem colorT_none {nm : Str} {L : List TSheet} (h : nm ∉ namesT L) : colorT nm L = 0 := by
  unfold colorT
  rw [colT_none (fun s hs r hr h9 => h (List.mem_flatMap.2 ⟨s, List.mem_reverse.1 hs, List.mem_map.2 ⟨r, hr, h9⟩⟩))]; rfl
theorem colorT_join (nm : Str) (L : List TSheet) : colorT nm [joinT L] = colorT nm L := by
  by_cases h : nm ∈ namesT L
  · have e : colR nm (joinT L).rules.reverse = some (colorT nm L) := by
      refine colR_all ⟨⟨nm, colorT nm L⟩, List.mem_reverse.2 ((joinT_mem L _).2 ⟨h, rfl⟩), rfl⟩ fun r hr h9 => ?_
      rw [((joinT_mem L r).1 (List.mem_reverse.1 hr)).2, h9]
    show (colT nm [joinT L]).getD 0 = _
    rw [colT, e]; rfl
  · have e : nm ∉ namesT [joinT L] := fun h9 => by
      obtain ⟨s, hs, hr⟩ := List.mem_flatMap.1 h9
      obtain rfl := List.mem_singleton.1 hs
      have hr2 : nm ∈ (joinT L).rules.map TRule.name := hr
      obtain ⟨r, hr3, rfl⟩ := List.mem_map.1 hr2
      exact h ((joinT_mem L r).1 hr3).1
    rw [colorT_none h, colorT_none e]
theorem namesT_len (L : List TSheet) : (namesT L).length ≤ lsz TSheet.size L := by
  induction L with
  | nil => simp [namesT]
  | cons s L ih =>
    rw [lsz_cons]
    have e : namesT (s :: L) = s.rules.map TRule.name ++ namesT L := rfl
    rw [e, List.length_append, List.length_map]
    simp only [TSheet.size, lsz] at *; omega
theorem joinT_len (L : List TSheet) : (joinT L).rules.length ≤ lsz TSheet.size L := by
  have h1 := compact_len ((namesT L).mergeSort leS)
  have h2 := namesT_len L
  rw [List.length_mergeSort] at h1
  unfold joinT; rw [List.length_map]; omega

theorem names_step {l : List PSheet} {k : Nat} {d : PSheet} (hd : l[k]? = some d) : namesT ((l.take (k + 1)).map PSheet.lg) = namesT ((l.take k).map PSheet.lg) ++ d.rules.l.map TRule.name := by
  rw [List.take_add_one, hd, List.map_append]
  show List.flatMap _ (_ ++ _) = _
  rw [List.flatMap_append]
  show _ ++ List.flatMap _ [PSheet.lg d] = _
  simp [namesT, PSheet.lg]
theorem names_room {l : List PSheet} {k N : Nat} {d : PSheet} (hd : l[k]? = some d) (hb : lsz TSheet.size (l.map PSheet.lg) ≤ N) : (namesT ((l.take k).map PSheet.lg)).length + d.rules.l.length ≤ N := by
  have h1 := namesT_len ((l.take (k + 1)).map PSheet.lg)
  have h2 := lsz_take TSheet.size (l.map PSheet.lg) (k + 1)
  rw [← List.map_take] at h2
  rw [names_step hd, List.length_append, List.length_map] at h1
  omega
theorem colorOf_join {l : List PSheet} {x : PSheet} (h : x.lg = joinT (l.map PSheet.lg)) (nm : Str) : colorOf nm [x] = colorOf nm l := by
  rw [colorOf_lg, colorOf_lg]
  show colorT nm [x.lg] = _
  rw [h]; exact colorT_join nm _
theorem join_of {l : List PSheet} {c : List Str} {q : List TRule} (hc : c = Lib.compact ((namesT (l.map PSheet.lg)).mergeSort leS)) (hq : q = c.map fun nm => ⟨nm, colorOf nm l⟩) : (⟨q⟩ : TSheet) = joinT (l.map PSheet.lg) := by
  rw [hq, hc]
  unfold joinT
  congr 1
  exact List.map_congr_left fun nm _ => by rw [colorOf_lg]
theorem join_lt {l : List PSheet} {x : PSheet} {k : Nat} {a b : TRule} (h : x.lg = joinT (l.map PSheet.lg)) (hk : 1 ≤ k) (ha : x.rules.l[k - 1]? = some a) (hb : x.rules.l[k]? = some b) : Op.bytesLess a.name b.name = true := by
  have e : (joinT (l.map PSheet.lg)).rules = x.rules.l := by rw [← h]
  refine joinT_lt (L := l.map PSheet.lg) (k := k - 1) (by rw [e]; exact ha) (by rw [e, Nat.sub_add_cancel hk]; exact hb)

/-! The color of a place in a tree. -/
def colorAt (f : Str → Int) (L : List PNode) : Nat → Int → Int
  | 0, _ => 0
  | k + 1, n => if 0 ≤ n ∧ n < (L.length : Int) then match L[n.toNat]? with
      | some x => if f x.name = 0 then colorAt f L k x.parent else f x.name
      | none => 0
    else 0
theorem colorAt_in {f : Str → Int} {L : List PNode} {k : Nat} {m : Int} {x : PNode} (hk : k < 40) (hx : L[m.toNat]? = some x) (h0 : 0 ≤ m) :
    colorAt f L (40 - k) m = if f x.name = 0 then colorAt f L (40 - (k + 1)) x.parent else f x.name := by
  have hl : m.toNat < L.length := (List.getElem?_eq_some_iff.1 hx).1
  rw [show 40 - k = (40 - (k + 1)) + 1 from by omega, colorAt, if_pos ⟨h0, by omega⟩, hx]
theorem colorAt_out {f : Str → Int} {L : List PNode} {k : Nat} {m : Int} (h : ¬ (k < 40 ∧ 0 ≤ m ∧ m < (L.length : Int))) : colorAt f L (40 - k) m = 0 := by
  by_cases hk : k < 40
  · rw [show 40 - k = (40 - (k + 1)) + 1 from by omega, colorAt, if_neg (fun h9 => h ⟨hk, h9⟩)]
  · rw [show 40 - k = 0 from by omega, colorAt]

end Go.Sw
