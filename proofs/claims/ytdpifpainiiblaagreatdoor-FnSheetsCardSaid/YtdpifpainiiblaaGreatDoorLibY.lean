/- Strings cut and read: split, cut, the reading of scripts and of policies. Plain laws; no conditions. -/
import Derived.Test.YtdpifpainiiblaaGreatDoorLibS
import Derived.Lib.Split
import Derived.Lib.SplitLaws
import Derived.Lib.Strings
set_option linter.all false
namespace Go.Sw
open Go Go.RowKit

/-! Split at one byte. -/
def splitC (b : UInt8) : Str → List Str
  | [] => [[]]
  | c :: s => if c = b then [] :: splitC b s else (c :: (splitC b s).headD []) :: (splitC b s).tail
def preH (p : Str) (l : List Str) : List Str := (p ++ l.headD []) :: l.tail
theorem splitC_ne (b : UInt8) (s : Str) : splitC b s ≠ [] := by
  cases s with
  | nil => simp [splitC]
  | cons c s => unfold splitC; split <;> simp
theorem preH_nil (b : UInt8) (s : Str) : preH [] (splitC b s) = splitC b s := by
  cases h : splitC b s with
  | nil => exact absurd h (splitC_ne b s)
  | cons x l => simp [preH]
theorem preH_step {b c : UInt8} (h : c ≠ b) (p s : Str) : preH p (splitC b (c :: s)) = preH (p ++ [c]) (splitC b s) := by
  simp [preH, splitC, h]
theorem preH_cut (b : UInt8) (p s : Str) : preH p (splitC b (b :: s)) = p :: splitC b s := by simp [preH, splitC]
theorem preH_end (b : UInt8) (p : Str) : preH p (splitC b []) = [p] := by simp [preH, splitC]
theorem splitC_len (b : UInt8) : ∀ s : Str, (splitC b s).length ≤ s.length + 1
  | [] => by simp [splitC]
  | c :: s => by
    have := splitC_len b s
    unfold splitC; split
    · simp; exact this
    · simp; omega
theorem splitC_sum (b : UInt8) : ∀ s : Str, lsum List.length (splitC b s) + (splitC b s).length ≤ s.length + 1
  | [] => by simp [splitC, lsum]
  | c :: s => by
    have ih := splitC_sum b s
    unfold splitC; split
    · rw [lsum_cons]; simp; omega
    · cases h : splitC b s with
      | nil => exact absurd h (splitC_ne b s)
      | cons x l => rw [h, lsum_cons] at ih; rw [lsum_cons]; simp at ih ⊢; omega
theorem splitC_mem_le {b : UInt8} {s x : Str} (h : x ∈ splitC b s) : x.length ≤ s.length := by
  have h1 := splitC_sum b s
  have h2 := lsum_le (f := List.length) h
  have h3 : 0 < (splitC b s).length := List.length_pos_of_mem h
  omega
theorem splitC_none {b : UInt8} : ∀ {x : Str}, b ∉ x → splitC b x = [x]
  | [], _ => rfl
  | c :: x, h => by
    have h1 : c ≠ b := fun e => h (by simp [e])
    have h2 : b ∉ x := fun e => h (by simp [e])
    simp [splitC, h1, splitC_none h2]
theorem splitC_app {b : UInt8} : ∀ {x y : Str}, b ∉ x → splitC b (x ++ b :: y) = x :: splitC b y
  | [], y, _ => by simp [splitC]
  | c :: x, y, h => by
    have h1 : c ≠ b := fun e => h (by simp [e])
    have h2 : b ∉ x := fun e => h (by simp [e])
    simp [splitC, h1, splitC_app h2]

theorem splitK_nil (b : UInt8) (k : Nat) : Lib.splitK [b] 0 k [] = [[]] := by
  cases k with
  | zero => rfl
  | succ k => simp [Lib.splitK, Lib.index]
theorem splitK_ne (b : UInt8) (k : Nat) (s : Str) : Lib.splitK [b] 0 k s ≠ [] := by
  cases k with
  | zero => simp [Lib.splitK]
  | succ k => unfold Lib.splitK; split <;> simp
theorem index_cons_ne {b c : UInt8} (h : c ≠ b) (s : Str) : Lib.index (c :: s) [b] = if Lib.index s [b] == -1 then -1 else Lib.index s [b] + 1 := by
  have : ([b] : Str).isPrefixOf (c :: s) = false := by simp [List.isPrefixOf]; exact fun e => h e.symm
  rw [Lib.index, this]; rfl
theorem index_cons_eq (b : UInt8) (s : Str) : Lib.index (b :: s) [b] = 0 := by
  have : ([b] : Str).isPrefixOf (b :: s) = true := by simp [List.isPrefixOf]
  rw [Lib.index, this]; rfl
theorem splitK_cons_ne {b c : UInt8} (h : c ≠ b) (k : Nat) (s : Str) : Lib.splitK [b] 0 k (c :: s) = (c :: (Lib.splitK [b] 0 k s).headD []) :: (Lib.splitK [b] 0 k s).tail := by
  cases k with
  | zero => rfl
  | succ k =>
    unfold Lib.splitK
    rw [index_cons_ne h]
    by_cases h1 : Lib.index s [b] = -1
    · simp [h1]
    · have hge := Lib.index_ge s [b]
      obtain ⟨i, hi⟩ : ∃ i : Nat, Lib.index s [b] = i := ⟨(Lib.index s [b]).toNat, by omega⟩
      have h2 : ((i : Int) + 1).toNat = i + 1 := by omega
      have h3 : ¬ (i : Int) = -1 := by omega
      have h4 : ¬ ((i : Int) + 1) = -1 := by omega
      simp [hi, h2, h3, h4]
theorem splitK_cons_eq (b : UInt8) (k : Nat) (s : Str) : Lib.splitK [b] 0 (k + 1) (b :: s) = [] :: Lib.splitK [b] 0 k s := by
  rw [Lib.splitK, index_cons_eq]; simp
theorem splitK_splitC (b : UInt8) : ∀ s : Str, Lib.splitK [b] 0 (Lib.count s [b]) s = splitC b s
  | [] => splitK_nil b _
  | c :: s => by
    by_cases h : c = b
    · subst h
      rw [Lib.count_cons_eq, Nat.add_comm, splitK_cons_eq, splitK_splitC c s]; simp [splitC]
    · rw [Lib.count_cons_ne c b s h, splitK_cons_ne h, splitK_splitC b s]; simp [splitC, h]

/-! Cut at one byte. -/
def cutC (b : UInt8) : Str → Str × Str × Bool
  | [] => ([], [], false)
  | c :: s => if c = b then ([], s, true) else (c :: (cutC b s).1, (cutC b s).2)
theorem cut_cutC (b : UInt8) : ∀ s : Str, Lib.cut s [b] = cutC b s
  | [] => by simp [Lib.cut, Lib.index, cutC]
  | c :: s => by
    have ih := cut_cutC b s
    by_cases h : c = b
    · subst h; unfold Lib.cut; rw [index_cons_eq]; simp [cutC]
    · have hge := Lib.index_ge s [b]
      unfold Lib.cut at ih ⊢
      rw [index_cons_ne h]
      by_cases h1 : Lib.index s [b] = -1
      · simp only [h1] at ih ⊢
        simp [cutC, h, ← ih]
      · obtain ⟨i, hi⟩ : ∃ i : Nat, Lib.index s [b] = i := ⟨(Lib.index s [b]).toNat, by omega⟩
        have h2 : ((i : Int) + 1).toNat = i + 1 := by omega
        have h3 : ¬ (i : Int) = -1 := by omega
        have h5 : (0 : Int) ≤ (i : Int) + 1 := by omega
        simp [hi, h3] at ih
        simp [hi, h2, h3, h5, cutC, h, ← ih]
theorem cutC_len (b : UInt8) : ∀ s : Str, (cutC b s).1.length ≤ s.length ∧ (cutC b s).2.1.length ≤ s.length
  | [] => by simp [cutC]
  | c :: s => by
    have := cutC_len b s
    unfold cutC; split
    · simp
    · simp; omega
/-- Cut at a space: the word before it, and what stands behind. -/
theorem cutC_prefix {b : UInt8} : ∀ {w s : Str}, b ∉ w → ((w ++ [b]).isPrefixOf s = true ↔ cutC b s = (w, s.drop (w.length + 1), true))
  | [], [], _ => by simp [cutC, List.isPrefixOf]
  | [], c :: s, _ => by
    by_cases h : c = b
    · subst h; simp [cutC, List.isPrefixOf]
    · simp [cutC, List.isPrefixOf, h, Ne.symm h]
  | x :: w, [], _ => by simp [cutC, List.isPrefixOf]
  | x :: w, c :: s, hb => by
    have h1 : x ≠ b := fun e => hb (by simp [e])
    have h2 : b ∉ w := fun e => hb (by simp [e])
    have ih := cutC_prefix (s := s) h2
    by_cases h : c = b
    · subst h; simp [cutC, List.isPrefixOf, h1]
    · by_cases hx : x = c
      · subst hx
        simp only [List.cons_append, List.isPrefixOf, beq_self_eq_true, Bool.true_and, cutC, if_neg h1, List.length_cons, List.drop_succ_cons]
        rw [ih]
        constructor
        · intro e; rw [e]
        · intro e
          have e1 := congrArg (·.1) e
          have e2 := congrArg (·.2) e
          simp only [List.cons.injEq, true_and] at e1
          exact Prod.ext e1 e2
      · simp [cutC, List.isPrefixOf, hx, h]
        intro e; exact absurd e.symm hx

/-! Lines of a script. -/
def opPre (i : Int) : Str := opWord i ++ [32]
def opOf (s : Str) : Int :=
  if (opPre 1).isPrefixOf s then 1 else if (opPre 2).isPrefixOf s then 2 else if (opPre 3).isPrefixOf s then 3 else if (opPre 4).isPrefixOf s then 4 else if (opPre 5).isPrefixOf s then 5 else 0
def specLine (s : Str) : TLine := if opOf s = 0 then ⟨0, []⟩ else ⟨opOf s, s.drop (opPre (opOf s)).length⟩
def lineGood (x : TLine) : Bool := if x.op = 1 ∨ x.op = 5 then decide (x.text.length ≤ 60) else isName x.text
def lineIs (s : Str) : Bool := decide (opOf s ≠ 0) && lineGood (specLine s)
def implLine (s : Str) : TLine := if lineIs s = true then specLine s else ⟨0, []⟩
theorem opOf_hit {s : Str} {i : Int} (h1 : 1 ≤ i) (h5 : i ≤ 5) (h : (opPre i).isPrefixOf s = true) (hn : ∀ j : Int, 1 ≤ j → j < i → (opPre j).isPrefixOf s = false) : opOf s = i := by
  rcases (by omega : i = 1 ∨ i = 2 ∨ i = 3 ∨ i = 4 ∨ i = 5) with rfl | rfl | rfl | rfl | rfl
  · simp [opOf, h]
  · simp [opOf, h, hn 1 (by omega) (by omega)]
  · simp [opOf, h, hn 1 (by omega) (by omega), hn 2 (by omega) (by omega)]
  · simp [opOf, h, hn 1 (by omega) (by omega), hn 2 (by omega) (by omega), hn 3 (by omega) (by omega)]
  · simp [opOf, h, hn 1 (by omega) (by omega), hn 2 (by omega) (by omega), hn 3 (by omega) (by omega), hn 4 (by omega) (by omega)]
theorem opOf_none {s : Str} (hn : ∀ j : Int, 1 ≤ j → j < 6 → (opPre j).isPrefixOf s = false) : opOf s = 0 := by
  simp [opOf, hn 1 (by omega) (by omega), hn 2 (by omega) (by omega), hn 3 (by omega) (by omega), hn 4 (by omega) (by omega), hn 5 (by omega) (by omega)]
theorem opWord_space (i : Int) : (32 : UInt8) ∉ opWord i := by
  unfold opWord; repeat' split
  all_goals decide
theorem opPre_len (i : Int) : (opPre i).length ≤ 6 := by have := opWord_len i; simp [opPre]; omega
theorem opPre_iff {s : Str} (i : Int) : (opPre i).isPrefixOf s = true ↔ cutC 32 s = (opWord i, s.drop ((opWord i).length + 1), true) := cutC_prefix (opWord_space i)
theorem opPre_no {s : Str} {i : Int} (h : ¬ opWord i = (cutC 32 s).1) : (opPre i).isPrefixOf s = false := by
  cases hp : (opPre i).isPrefixOf s with
  | false => rfl
  | true => rw [opPre_iff] at hp; rw [hp] at h; exact absurd rfl h
theorem cut_hit {s : Str} {i : Int} (h : opWord i = (cutC 32 s).1) (hf : (cutC 32 s).2.2 = true) : (opPre i).isPrefixOf s = true ∧ (cutC 32 s).2.1 = s.drop (opPre i).length := by
  have key : ∀ {s : Str}, (cutC 32 s).2.2 = true → s = (cutC 32 s).1 ++ 32 :: (cutC 32 s).2.1 := by
    intro s
    induction s with
    | nil => simp [cutC]
    | cons c s ih =>
      intro hf
      by_cases hc : c = 32
      · subst hc; simp [cutC]
      · simp only [cutC, if_neg hc] at hf ⊢
        have := ih hf
        simpa using this
  have e := key hf
  have hp : (opPre i).isPrefixOf s = true := by
    rw [List.isPrefixOf_iff_prefix]
    exact ⟨(cutC 32 s).2.1, by unfold opPre; rw [h]; simp [← e]⟩
  refine ⟨hp, ?_⟩
  have := (opPre_iff i).1 hp
  rw [this]; simp [opPre]
theorem specLine_hit {s : Str} {k : Nat} (h1 : 1 ≤ k) (h5 : k ≤ 5) (h3 : (s.drop 0).take ((opPre (k : Int)).length - 0) = opPre (k : Int)) (hn : ∀ j : Int, 1 ≤ j → j < k → (opPre j).isPrefixOf s = false) :
    specLine s = ⟨(k : Int), (s.drop (opPre (k : Int)).length).take (s.length - (opPre (k : Int)).length)⟩ ∧ lineIs s = lineGood ⟨(k : Int), (s.drop (opPre (k : Int)).length).take (s.length - (opPre (k : Int)).length)⟩ := by
  have hp : (opPre (k : Int)).isPrefixOf s = true := by
    rw [List.isPrefixOf_iff_prefix, List.prefix_iff_eq_take]; simpa using h3.symm
  have ho := opOf_hit (by omega) (by omega) hp hn
  have e2 : (s.drop (opPre (k : Int)).length).take (s.length - (opPre (k : Int)).length) = s.drop (opPre (k : Int)).length := List.take_of_length_le (by simp)
  have e : specLine s = ⟨(k : Int), s.drop (opPre (k : Int)).length⟩ := by unfold specLine; rw [ho, if_neg (by omega)]
  rw [e2]
  refine ⟨e, ?_⟩
  have e0 : ¬ (k : Int) = 0 := by omega
  unfold lineIs; rw [e, ho]; simp only [ne_eq, e0, not_false_eq_true, decide_true, Bool.true_and]
/-- A word that was cut off decides the line. -/
theorem line_hit {s : Str} {i : Int} (h1 : 1 ≤ i) (h5 : i ≤ 5) (hw : opWord i = (cutC 32 s).1) (hn : ∀ j : Int, 1 ≤ j → j < i → ¬ opWord j = (cutC 32 s).1) :
    ((cutC 32 s).2.2 = true → specLine s = ⟨i, (cutC 32 s).2.1⟩ ∧ lineIs s = lineGood ⟨i, (cutC 32 s).2.1⟩) ∧ ((cutC 32 s).2.2 = false → lineIs s = false) := by
  constructor
  · intro hf
    obtain ⟨hp, ht⟩ := cut_hit hw hf
    have ho := opOf_hit h1 h5 hp (fun j a b => opPre_no (hn j a b))
    have e : specLine s = ⟨i, (cutC 32 s).2.1⟩ := by unfold specLine; rw [ho, if_neg (by omega), ht]
    refine ⟨e, ?_⟩
    unfold lineIs; rw [e, ho]; simp; omega
  · intro hf
    have : opOf s = 0 := opOf_none (fun j a b => by
      cases hp : (opPre j).isPrefixOf s with
      | false => rfl
      | true => rw [opPre_iff] at hp; rw [hp] at hf; cases hf)
    simp [lineIs, this]
theorem line_none {s : Str} (hn : ∀ j : Int, 1 ≤ j → j < 6 → ¬ opWord j = (cutC 32 s).1) : lineIs s = false := by
  have : opOf s = 0 := opOf_none (fun j a b => opPre_no (hn j a b))
  simp [lineIs, this]
def scriptIs (s : Str) : Bool := decide (s = []) || ((splitC 59 s).all lineIs && decide ((splitC 59 s).length ≤ 6))
def scriptLines (s : Str) : List TLine := if s = [] then [] else if scriptIs s = true then (splitC 59 s).map specLine else []
theorem opOf_range (s : Str) : 0 ≤ opOf s ∧ opOf s ≤ 5 := by
  unfold opOf; repeat' split
  all_goals omega
theorem specLine_ok {w : World} {s : Str} (h : s.length ≤ 9223372036854775807) : Ph.ok w (specLine s) := by
  have := opOf_range s
  unfold specLine; split
  · exact ⟨(show WfI 0 from ⟨by omega, by omega⟩), (show WfS [] from by unfold WfS; simp)⟩
  · exact ⟨(show WfI (opOf s) from ⟨by omega, by omega⟩), (show WfS (s.drop _) from by unfold WfS; simp only [List.length_drop]; omega)⟩
theorem implLine_ok {w : World} {s : Str} (h : s.length ≤ 9223372036854775807) : Ph.ok w (implLine s) := by
  unfold implLine; split
  · exact specLine_ok h
  · exact ⟨(show WfI 0 from ⟨by omega, by omega⟩), (show WfS [] from by unfold WfS; simp)⟩
theorem scriptIs_nil {s : Str} (h : s = []) : scriptIs s = true := by simp [scriptIs, h]
theorem scriptIs_bad {s d : Str} {k : Nat} (h0 : ¬ s = []) (hd : (splitC 59 s)[k]? = some d) (h : lineIs d = false) : scriptIs s = false := by
  have : (splitC 59 s).all lineIs = false := by
    cases ha : (splitC 59 s).all lineIs with
    | false => rfl
    | true => rw [List.all_eq_true.1 ha d (List.mem_of_getElem? hd)] at h; cases h
  simp [scriptIs, h0, this]
theorem scriptIs_long {s : Str} (h0 : ¬ s = []) (h : 6 < (splitC 59 s).length) : scriptIs s = false := by
  have : ¬ (splitC 59 s).length ≤ 6 := by omega
  simp [scriptIs, h0, this]
theorem scriptIs_good {s : Str} (ha : (splitC 59 s).all lineIs = true) (h : (splitC 59 s).length ≤ 6) : scriptIs s = true := by simp [scriptIs, ha, h]
theorem scriptLines_bad {s : Str} (h : scriptIs s = false) : scriptLines s = [] := by simp [scriptLines, h]
theorem scriptLines_nil {s : Str} (h : s = []) : scriptLines s = [] := by simp [scriptLines, h]
theorem scriptLines_good {s : Str} (h0 : ¬ s = []) (h : scriptIs s = true) : scriptLines s = (splitC 59 s).map specLine := by simp [scriptLines, h, h0]
theorem all_step {α : Type} {p : α → Bool} {l : List α} {k : Nat} {d : α} (hd : l[k]? = some d) (h : (l.take k).all p = true) (hp : p d = true) : (l.take (k + 1)).all p = true := by
  rw [List.take_add_one, hd, List.all_append, h]; simp [hp]
theorem map_step {α β : Type} {f : α → β} {l : List α} {k : Nat} {d : α} (hd : l[k]? = some d) : (l.take k).map f ++ [f d] = (l.take (k + 1)).map f := by
  rw [List.take_add_one, hd, List.map_append]; rfl
theorem implLine_map {l : List Str} (h : l.all lineIs = true) : l.map implLine = l.map specLine := by
  apply List.map_congr_left; intro x hx
  simp [implLine, List.all_eq_true.1 h x hx]
theorem implLine_spec {s : Str} (h : lineIs s = true) : implLine s = specLine s := by simp [implLine, h]

theorem scriptLines_len (s : Str) : (scriptLines s).length ≤ s.length + 1 := by
  have := splitC_len 59 s
  unfold scriptLines; split
  · simp
  · split
    · simpa using this
    · simp
theorem costLines_le (s : Str) : costL (fun _ => 2) (scriptLines s) ≤ 2 * (s.length + 1) := by
  have := scriptLines_len s
  rw [costL_const]; omega

/-! Policies. -/
def noncePre : Str := [110, 111, 110, 99, 101, 32]
def nonceS (t : Str) : Str := if 6 < t.length then t.drop 6 else []
def nonceI (t : Str) : Str := if noncePre.isPrefixOf t then t.drop 6 else t
def polOf (l : List Str) (n : Str) : TPolicy := ⟨true, (splitC 32 (l.getD 0 [])).tail, (splitC 32 (l.getD 1 [])).tail, (splitC 32 (l.getD 2 [])).tail, n⟩
def polS (s : Str) : TPolicy := polOf (splitC 59 s) (if 3 < (splitC 59 s).length then nonceS ((splitC 59 s).getD 3 []) else [])
def polI (s : Str) : TPolicy := polOf (splitC 59 s) (if 3 < (splitC 59 s).length then nonceI ((splitC 59 s).getD 3 []) else [])
def policyIs (s : Str) : Bool := decide (s = []) || (decide (3 ≤ (splitC 59 s).length) && decide (fmtPolicy (polS s) = s))
def policyOf (s : Str) : TPolicy := if s ≠ [] ∧ policyIs s = true then polS s else ⟨false, [], [], [], []⟩
theorem joinS_mem {sep : Str} {b : UInt8} : ∀ {l : List Str}, b ∈ joinS l sep → b ∈ sep ∨ ∃ x ∈ l, b ∈ x
  | [], h => by simp [joinS_nil] at h
  | [x], h => by rw [joinS_one] at h; exact .inr ⟨x, by simp, h⟩
  | x :: y :: l, h => by
    rw [joinS_cons] at h
    simp only [List.mem_append] at h
    rcases h with (h | h) | h
    · exact .inr ⟨x, by simp, h⟩
    · exact .inl h
    · rcases joinS_mem h with h | ⟨z, hz, hb⟩
      · exact .inl h
      · exact .inr ⟨z, List.mem_cons_of_mem _ hz, hb⟩
theorem name_no59 {x : Str} (h : isName x = true) : (59 : UInt8) ∉ x := fun hx => by
  simp only [isName, Bool.and_eq_true] at h
  have := List.all_eq_true.1 h.1 _ hx
  simp [lower] at this
theorem words_no59 {w : Str} {l : List Str} (hw : (59 : UInt8) ∉ w) (hl : l.all isName = true) : (59 : UInt8) ∉ wordsText w l := fun h => by
  rcases joinS_mem h with h | ⟨x, hx, hb⟩
  · simp at h
  · rcases List.mem_cons.1 hx with rfl | hx
    · exact hw hb
    · exact name_no59 (List.all_eq_true.1 hl x hx) hb
theorem fmt_parts {q : TPolicy} (h : (q.is && q.set) = true) : splitC 59 (fmtPolicy q) = [wordsText [115, 99, 114, 105, 112, 116] q.scripts, wordsText [115, 116, 121, 108, 101] q.styles, wordsText [105, 109, 103] q.images] ++ (if q.nonce = [] then [] else [noncePre ++ q.nonce]) := by
  have hs : q.set = true := by simp only [Bool.and_eq_true] at h; exact h.2
  have hi : q.is = true := by simp only [Bool.and_eq_true] at h; exact h.1
  simp only [TPolicy.is, hs, if_true, hosts, Bool.and_eq_true, Bool.or_eq_true, decide_eq_true_eq] at hi
  obtain ⟨⟨h1, _⟩, ⟨h2, _⟩, ⟨h3, _⟩, h4⟩ := hi
  have a1 := words_no59 (w := [115, 99, 114, 105, 112, 116]) (by decide) h1
  have a2 := words_no59 (w := [115, 116, 121, 108, 101]) (by decide) h2
  have a3 := words_no59 (w := [105, 109, 103]) (by decide) h3
  rw [fmtPolicy, if_pos h]
  by_cases hn : q.nonce = []
  · rw [if_pos hn, if_pos hn]
    simp only [List.append_assoc, List.append_nil, List.cons_append, List.nil_append]
    rw [splitC_app a1, splitC_app a2, splitC_none a3]
  · rw [if_neg hn, if_neg hn]
    have hv : isValue q.nonce = true := h4.resolve_left hn
    have a4 : (59 : UInt8) ∉ noncePre ++ q.nonce := by
      intro hx
      rcases List.mem_append.1 hx with hx | hx
      · revert hx; decide
      · simp only [isValue, Bool.and_eq_true] at hv
        have := List.all_eq_true.1 hv.1 _ hx
        simp [valueByte, lower, digit] at this
    have e : ([59, 110, 111, 110, 99, 101, 32] : Str) ++ q.nonce = 59 :: (noncePre ++ q.nonce) := rfl
    rw [e]
    simp only [List.append_assoc, List.cons_append, List.nil_append]
    rw [splitC_app a1, splitC_app a2, splitC_app a3, splitC_none a4]
theorem fmt_nonce {q : TPolicy} {s : Str} (hq : fmtPolicy q = s) (h0 : s ≠ []) (h3 : 3 < (splitC 59 s).length) : noncePre.isPrefixOf ((splitC 59 s).getD 3 []) = true := by
  have hi : (q.is && q.set) = true := by
    cases h : (q.is && q.set) with
    | true => rfl
    | false => rw [fmtPolicy, h] at hq; exact absurd hq.symm h0
  have hp := fmt_parts hi
  rw [hq] at hp
  rw [hp] at h3 ⊢
  by_cases hn : q.nonce = []
  · rw [if_pos hn] at h3; simp at h3
  · rw [if_neg hn]; simp [noncePre, List.isPrefixOf]
theorem pol_same {s : Str} (h0 : s ≠ []) : (fmtPolicy (polS s) = s ↔ fmtPolicy (polI s) = s) ∧ (fmtPolicy (polS s) = s → polI s = polS s) := by
  by_cases h3 : 3 < (splitC 59 s).length
  · by_cases hp : noncePre.isPrefixOf ((splitC 59 s).getD 3 []) = true
    · have e : nonceI ((splitC 59 s).getD 3 []) = nonceS ((splitC 59 s).getD 3 []) := by
        unfold nonceI nonceS
        rw [if_pos hp]
        split
        · rfl
        · exact List.drop_eq_nil_of_le (by omega)
      have e2 : polI s = polS s := by unfold polI polS; rw [if_pos h3, if_pos h3, e]
      rw [e2]; exact ⟨Iff.rfl, fun _ => rfl⟩
    · exact ⟨⟨fun h => absurd (fmt_nonce h h0 h3) hp, fun h => absurd (fmt_nonce h h0 h3) hp⟩, fun h => absurd (fmt_nonce h h0 h3) hp⟩
  · have e2 : polI s = polS s := by unfold polI polS; rw [if_neg h3, if_neg h3]
    rw [e2]; exact ⟨Iff.rfl, fun _ => rfl⟩

theorem policyIs_nil {s : Str} (h : s = []) : policyIs s = true := by simp [policyIs, h]
theorem policyIs_short {s : Str} (h0 : ¬ s = []) (h : (splitC 59 s).length < 3) : policyIs s = false := by
  have : ¬ 3 ≤ (splitC 59 s).length := by omega
  simp [policyIs, h0, this]
theorem policyIs_bad {s : Str} (h0 : ¬ s = []) (h : ¬ fmtPolicy (polS s) = s) : policyIs s = false := by simp [policyIs, h0, h]
theorem policyIs_badI {s : Str} (h0 : ¬ s = []) (h : ¬ fmtPolicy (polI s) = s) : policyIs s = false := policyIs_bad h0 (fun e => h ((pol_same h0).1.1 e))
theorem policyIs_good {s : Str} (h : fmtPolicy (polS s) = s) (h3 : 3 ≤ (splitC 59 s).length) : policyIs s = true := by simp [policyIs, h, h3]
theorem policyIs_goodI {s : Str} (h0 : ¬ s = []) (h : fmtPolicy (polI s) = s) (h3 : 3 ≤ (splitC 59 s).length) : policyIs s = true := policyIs_good ((pol_same h0).1.2 h) h3
theorem policyOf_no {s : Str} (h : s = [] ∨ policyIs s = false) : policyOf s = ⟨false, [], [], [], []⟩ := by
  unfold policyOf; rw [if_neg]; rintro ⟨h1, h2⟩
  rcases h with h | h
  · exact h1 h
  · rw [h] at h2; cases h2
theorem policyOf_good {s : Str} (h0 : ¬ s = []) (h : policyIs s = true) : policyOf s = polS s := by unfold policyOf; rw [if_pos ⟨h0, h⟩]
theorem policyOf_goodI {s : Str} (h0 : ¬ s = []) (h : policyIs s = true) (hf : fmtPolicy (polI s) = s) : policyOf s = polI s := by
  rw [policyOf_good h0 h, (pol_same h0).2 ((pol_same h0).1.2 hf)]
theorem tail_size (b : UInt8) (s : Str) : strsz (splitC b s).tail ≤ s.length := by
  have h := splitC_sum b s
  cases hc : splitC b s with
  | nil => exact absurd hc (splitC_ne b s)
  | cons x l => rw [hc, lsum_cons] at h; simp only [List.tail_cons, strsz, lsz, List.length_cons] at h ⊢; omega
theorem getD_sum3 : ∀ {l : List Str}, 3 ≤ l.length → (l.getD 0 []).length + (l.getD 1 []).length + (l.getD 2 []).length + (if 3 < l.length then (l.getD 3 []).length + 1 else 0) + 3 ≤ lsum List.length l + l.length
  | [a, b, c], _ => by simp [lsum]; omega
  | a :: b :: c :: d :: l, _ => by simp [lsum]; omega
theorem polOf_size {s n : Str} (h3 : 3 ≤ (splitC 59 s).length) (hn : n.length ≤ (if 3 < (splitC 59 s).length then ((splitC 59 s).getD 3 []).length else 0)) : (polOf (splitC 59 s) n).size ≤ s.length := by
  have h1 := splitC_sum 59 s
  have h2 := getD_sum3 h3
  have t0 := tail_size 32 ((splitC 59 s).getD 0 [])
  have t1 := tail_size 32 ((splitC 59 s).getD 1 [])
  have t2 := tail_size 32 ((splitC 59 s).getD 2 [])
  simp only [polOf, TPolicy.size]
  split at hn <;> rename_i hc
  · rw [if_pos hc] at h2; omega
  · rw [if_neg hc] at h2; omega
theorem polS_size {s : Str} (h3 : 3 ≤ (splitC 59 s).length) : (polS s).size ≤ s.length := by
  apply polOf_size h3
  by_cases hc : 3 < (splitC 59 s).length
  · rw [if_pos hc, if_pos hc]; unfold nonceS; split
    · simp
    · simp
  · rw [if_neg hc, if_neg hc]; simp
theorem polI_size {s : Str} (h3 : 3 ≤ (splitC 59 s).length) : (polI s).size ≤ s.length := by
  apply polOf_size h3
  by_cases hc : 3 < (splitC 59 s).length
  · rw [if_pos hc, if_pos hc]; unfold nonceI; split
    · simp
    · simp
  · rw [if_neg hc, if_neg hc]; simp
theorem nonceI_len (t : Str) : (nonceI t).length ≤ t.length := by unfold nonceI; split <;> simp
theorem getD_len {s : Str} {i : Nat} : ((splitC 59 s).getD i []).length ≤ s.length := by
  by_cases h : i < (splitC 59 s).length
  · exact splitC_mem_le (b := 59) (List.mem_of_getElem? (getD_some h))
  · rw [List.getD_eq_getElem?_getD, List.getElem?_eq_none (by omega)]; simp
theorem policyOf_size (s : Str) : (policyOf s).size ≤ s.length := by
  unfold policyOf; split
  · rename_i h
    have h2 := h.2
    simp only [policyIs, Bool.or_eq_true, Bool.and_eq_true, decide_eq_true_eq] at h2
    rcases h2 with h2 | h2
    · exact absurd h2 h.1
    · exact polS_size h2.1
  · simp [TPolicy.size, strsz, lsz, lsum]

/-! Responses, servers, caches. -/
def TResponse.isv (x : TResponse) : Bool := inR x.status 100 599 && (inR x.kind 1 5 && (decide ((x.body.length : Int) ≤ 400) && (inR x.age 0 1000 && policyIs x.policy)))
/-- Each is good, and none is the same as one before it. -/
def uniqF {α : Type} (good : α → Bool) (same : α → α → Bool) : List α → List α → Bool
  | _, [] => true
  | pre, d :: l => good d && (!pre.any (same d) && uniqF good same (pre ++ [d]) l)
theorem uniq_step {α : Type} {good : α → Bool} {same : α → α → Bool} {l : List α} {k : Nat} {d : α} (hd : l[k]? = some d) :
    uniqF good same (l.take k) (l.drop k) = (good d && (!(l.take k).any (same d) && uniqF good same (l.take (k + 1)) (l.drop (k + 1)))) := by
  have e : l.take (k + 1) = l.take k ++ [d] := by rw [List.take_add_one, hd]; rfl
  rw [drop_cons hd, uniqF, e]
theorem uniq_end {α : Type} {good : α → Bool} {same : α → α → Bool} {l : List α} {k : Nat} (h : l.length ≤ k) : uniqF good same (l.take k) (l.drop k) = true := by
  rw [List.drop_eq_nil_of_le h, uniqF]
theorem uniqF_map {α β : Type} {good : β → Bool} {same : β → β → Bool} {f : α → β} : ∀ {pre l : List α}, uniqF good same (pre.map f) (l.map f) = uniqF (fun x => good (f x)) (fun a b => same (f a) (f b)) pre l
  | _, [] => rfl
  | pre, d :: l => by
    have := uniqF_map (good := good) (same := same) (f := f) (pre := pre ++ [d]) (l := l)
    simp only [List.map_append, List.map_cons, List.map_nil] at this
    rw [List.map_cons, uniqF, uniqF, this, List.any_map]; rfl
theorem idx_first {α : Type} {p : α → Bool} : ∀ {l : List α} {k n : Nat} {d : α}, l[k]? = some d → p d = true → (idxF p l n = ((n + k : Nat) : Int) ↔ (l.take k).any p = false)
  | [], _, _, _, h, _ => by simp at h
  | x :: l, 0, n, d, h, hp => by
    obtain rfl : x = d := by simpa using h
    simp [idxF, hp]
  | x :: l, k + 1, n, d, h, hp => by
    have ih := idx_first (l := l) (k := k) (n := n + 1) (d := d) (by simpa using h) hp
    unfold idxF
    by_cases hx : p x = true
    · simp [hx]; omega
    · rw [if_neg hx, show n + (k + 1) = n + 1 + k from by omega, ih]
      simp [hx]
theorem idx_first0 {α : Type} {p : α → Bool} {l : List α} {k : Nat} {d : α} (hd : l[k]? = some d) (hp : p d = true) : idxF p l 0 = (k : Int) ↔ (l.take k).any p = false := by
  have := idx_first (n := 0) hd hp
  rw [Nat.zero_add] at this; exact this
def fileOk (f : TFile) : Bool := isName f.path && f.response.isv
def sameFile (d d2 : TFile) : Bool := decide (d2.path = d.path)
def filesOk (l : List TFile) : Bool := uniqF fileOk sameFile [] l
def serverOk (s : TServer) : Bool := filesOk s.files && (isName s.host && decide (s.files.length ≤ 10))
def serversOk (l : List TServer) : Bool := uniqF serverOk (fun d d2 => decide (d2.host = d.host)) [] l && decide (l.length ≤ 4)
theorem serversOk_map (l : List PServer) : serversOk (l.map PServer.lg) = (uniqF (fun d : PServer => serverOk d.lg) (fun d d2 : PServer => decide (d2.host = d.host)) [] l && decide (l.length ≤ 4)) := by
  unfold serversOk
  have := uniqF_map (good := serverOk) (same := fun d d2 : TServer => decide (d2.host = d.host)) (f := PServer.lg) (pre := []) (l := l)
  rw [List.map_nil] at this
  rw [this, List.length_map]
def entryOk (e : TEntry) : Bool := isName e.top && (e.to.is && (e.response.isv && decide (e.response.status = 200)))
def sameEntry (d d2 : TEntry) : Bool := decide (d2.top = d.top) && decide (d2.to = d.to)
def cacheOk (c : TCache) : Bool := uniqF entryOk sameEntry [] c.entries && decide (c.entries.length ≤ 100)

theorem uniq_all {α : Type} {good : α → Bool} {same : α → α → Bool} : ∀ {pre l : List α}, uniqF good same pre l = true → ∀ d ∈ l, good d = true
  | _, [], _, _, h => by cases h
  | pre, x :: l, h, d, hd => by
    simp only [uniqF, Bool.and_eq_true] at h
    rcases List.mem_cons.1 hd with rfl | hd
    · exact h.1
    · exact uniq_all h.2.2 d hd
theorem cacheOk_all {c : TCache} (h : cacheOk c = true) : ∀ e ∈ c.entries, e.response.isv = true := fun e he => by
  simp only [cacheOk, Bool.and_eq_true] at h
  have := uniq_all h.1 e he
  simp only [entryOk, Bool.and_eq_true] at this
  exact this.2.2.1
theorem cache_pol {c : TCache} (h : c.size ≤ 1048576) : ∀ e ∈ c.entries, e.response.policy.length ≤ 1048576 := fun e he => by
  have := lsum_le (f := TEntry.size) he
  simp only [TCache.size, lsz, TEntry.size, TResponse.size] at h this; omega
def atF (top : Str) (a : TAddr) (e : TEntry) : Bool := decide (e.top = top) && decide (e.to = a)
def putEntry (c : TCache) (top : Str) (a : TAddr) (e : TEntry) : TCache := if 0 ≤ idxF (atF top a) c.entries 0 then ⟨c.entries.set (idxF (atF top a) c.entries 0).toNat e⟩ else ⟨c.entries ++ [e]⟩
def newEntry (top : Str) (a : TAddr) (x : TResponse) (now : Int) : TEntry := ⟨top, a, x, now + x.age⟩
def storeIs (c : TCache) (top : Str) (a : TAddr) (x : TResponse) (now : Int) : Bool :=
  !decide (x.age = 0) && (inR now 0 999999999000 && (cacheOk c && cacheOk (putEntry c top a (newEntry top a x now))))
def storeEntry (c : TCache) (top : Str) (a : TAddr) (x : TResponse) (now : Int) : TCache := if storeIs c top a x now = true then putEntry c top a (newEntry top a x now) else c
theorem idxF_lt {α : Type} {p : α → Bool} {l : List α} (h : 0 ≤ idxF p l 0) : (idxF p l 0).toNat < l.length := by
  obtain ⟨k, d, hk, hd, _⟩ := idxF_some (p := p) (l := l) (k := 0) (show ¬ idxF p l 0 < 0 by omega)
  have := (List.getElem?_eq_some_iff.1 hd).1
  omega
theorem mem_putEntry {c : TCache} {top : Str} {a : TAddr} {e : TEntry} : e ∈ (putEntry c top a e).entries := by
  unfold putEntry; split
  · rename_i h
    have := idxF_lt h
    simp only
    rw [List.mem_iff_getElem?]
    exact ⟨_, List.getElem?_set_self this⟩
  · simp
theorem storeIs_isv {c : TCache} {top : Str} {a : TAddr} {x : TResponse} {now : Int} (h : storeIs c top a x now = true) : x.isv = true := by
  simp only [storeIs, Bool.and_eq_true] at h
  exact cacheOk_all h.2.2.2 _ mem_putEntry
theorem putEntry_mem {c : TCache} {top : Str} {a : TAddr} {e d : TEntry} (h : d ∈ (putEntry c top a e).entries) : d ∈ c.entries ∨ d = e := by
  unfold putEntry at h; split at h
  · exact (List.mem_or_eq_of_mem_set h)
  · simpa using h

theorem putEntry_set {c : TCache} {top : Str} {a : TAddr} {e : TEntry} {j : Nat} (h : idxF (atF top a) c.entries 0 = (j : Int)) : putEntry c top a e = ⟨c.entries.set j e⟩ := by
  unfold putEntry; rw [h, if_pos (by omega)]; simp
theorem putEntry_app {c : TCache} {top : Str} {a : TAddr} {e : TEntry} (h : idxF (atF top a) c.entries 0 < 0) : putEntry c top a e = ⟨c.entries ++ [e]⟩ := by
  unfold putEntry; rw [if_neg (by omega)]
theorem put_pol {c : TCache} {top : Str} {a : TAddr} {e : TEntry} (h : c.size ≤ 1048576) (he : e.response.policy.length ≤ 1048576) : ∀ d ∈ (putEntry c top a e).entries, d.response.policy.length ≤ 1048576 := fun d hd => by
  rcases putEntry_mem hd with h1 | rfl
  · exact cache_pol h d h1
  · exact he
theorem storeEntry_yes {c : TCache} {top : Str} {a : TAddr} {x : TResponse} {now : Int} (h : storeIs c top a x now = true) : storeEntry c top a x now = putEntry c top a (newEntry top a x now) := by unfold storeEntry; rw [if_pos h]
theorem storeEntry_no {c : TCache} {top : Str} {a : TAddr} {x : TResponse} {now : Int} (h : storeIs c top a x now = false) : storeEntry c top a x now = c := by unfold storeEntry; rw [h]; rfl
theorem costStore_le (c : TCache) (top : Str) (a : TAddr) (x : TResponse) (now : Int) : costoCache (storeEntry c top a x now) ≤ costoCache c + 20 := by
  unfold storeEntry putEntry
  split
  · split
    · simp only [costoCache, costL_const, List.length_set]; omega
    · simp only [costoCache, costL_const, List.length_append, List.length_singleton]; omega
  · omega
theorem restore {M : Nat → Prop} {α : Type} [Ph α] [Own α] {w0 w : World} {C : List Chunk} {s : Sl α} {k : Nat} {u : α} {F : List Nat} (hs : Sat M w0 w (ow (⟨s.l.set k u, s.a, s.c⟩ : Sl α) F :: C)) : ∃ s' : Sl α, s'.v = s.v ∧ s'.l = s.l.set k u ∧ Sat M w0 w (ow s' F :: C) := ⟨_, Sl.v_set, rfl, hs⟩
/-! A file put. -/
def onPath (path : Str) (f : TFile) : Bool := decide (f.path = path)
def onHost (host : Str) (s : TServer) : Bool := decide (s.host = host)
def putIn (l : List TFile) (path : Str) (x : TResponse) : List TFile := if 0 ≤ idxF (onPath path) l 0 then l.modify (idxF (onPath path) l 0).toNat (fun f => ⟨f.path, x⟩) else l ++ [⟨path, x⟩]
def putOn (s : TServer) (path : Str) (x : TResponse) : TServer := ⟨s.host, putIn s.files path x⟩
def withHost (l : List TServer) (host : Str) : List TServer := if idxF (onHost host) l 0 < 0 then l ++ [⟨host, []⟩] else l
def hostIx (l : List TServer) (host : Str) : Nat := if idxF (onHost host) l 0 < 0 then l.length else (idxF (onHost host) l 0).toNat
def putAll (l : List TServer) (a : TAddr) (x : TResponse) : List TServer := (withHost l a.host).modify (hostIx l a.host) (fun s => putOn s a.path x)
def putIs (l : List TServer) (a : TAddr) (x : TResponse) : Bool := decide ((putAll l a x).length ≤ 4) && (((putAll l a x)[hostIx l a.host]?).map serverOk).getD false
def putFile (l : List TServer) (a : TAddr) (x : TResponse) : List TServer := if putIs l a x = true then putAll l a x else l
theorem hostIx_lt (l : List TServer) (host : Str) : hostIx l host < (withHost l host).length := by
  unfold hostIx withHost; split
  · simp
  · exact idxF_lt (by omega)
theorem wfI_wrap (i : Int) : WfI (IntKind.i64.wrap i) := by
  rw [IntWalk.i64_left]
  refine ⟨?_, ?_⟩ <;> unfold RowKit.wrap64 <;> omega
def newEntryW (top : Str) (a : TAddr) (x : TResponse) (now : Int) : TEntry := ⟨top, a, x, IntKind.i64.wrap (now + x.age)⟩
theorem newEntryW_eq {top : Str} {a : TAddr} {x : TResponse} {now : Int} (h : x.isv = true) (hn : inR now 0 999999999000 = true) : newEntryW top a x now = newEntry top a x now := by
  rw [inR_true] at hn
  simp only [TResponse.isv, Bool.and_eq_true, inR_true] at h
  unfold newEntryW newEntry
  rw [wrap_in (by omega)]
theorem storeEntry_yesW {c : TCache} {top : Str} {a : TAddr} {x : TResponse} {now : Int} (h : storeIs c top a x now = true) : storeEntry c top a x now = putEntry c top a (newEntryW top a x now) := by
  have hn : inR now 0 999999999000 = true := by simp only [storeIs, Bool.and_eq_true] at h; exact h.2.1
  rw [storeEntry_yes h, newEntryW_eq (storeIs_isv h) hn]
theorem storeIs_W {c : TCache} {top : Str} {a : TAddr} {x : TResponse} {now : Int} :
    storeIs c top a x now = (!decide (x.age = 0) && (inR now 0 999999999000 && (cacheOk c && cacheOk (putEntry c top a (newEntryW top a x now))))) := by
  cases hn : inR now 0 999999999000 with
  | false => simp [storeIs, hn]
  | true =>
    cases hv : x.isv with
    | true => rw [newEntryW_eq hv hn]; simp [storeIs, hn]
    | false =>
      have h1 : storeIs c top a x now = false := by
        cases h : storeIs c top a x now with
        | false => rfl
        | true => rw [storeIs_isv h] at hv; cases hv
      have h2 : cacheOk (putEntry c top a (newEntryW top a x now)) = false := by
        cases h : cacheOk (putEntry c top a (newEntryW top a x now)) with
        | false => rfl
        | true =>
          have := cacheOk_all h (newEntryW top a x now) mem_putEntry
          rw [show (newEntryW top a x now).response = x from rfl, hv] at this; cases this
      rw [h1, h2]; simp

/-! The library's functions at own data. -/
theorem alloc_sat (w : World) (T : TypeId) (cs : List Value) : Sat N0 w (w.alloc (.cells cs.toArray T)) [box w.heap.size T cs] :=
  (Sat.start w).add ((Below.refl _ _).alloc (Nat.le_refl _) _) (heap_alloc_new w _) (fun b hbb => by simp only [Go.Sw.box] at hbb; subst hbb; simp)
theorem split_calls {P : Program} {f : FuncId} {g : Nat} {T : TypeId}
    (hS : ∀ (s sep : ByteArray) (m : Int) (w : World), s.size < 4294967281 → w.cell? ⟨g, 0, none⟩ = some (.int .i64 m) → 1 ≤ sep.size → Calls P f #[.string s, .string sep] w fun e w' =>
      e = .returned (.slice (some ⟨w.heap.size, 0, none⟩) (Lib.countB s sep + 1) (Lib.countB s sep + 1)) ∧ w' = w.alloc (.cells ((Lib.splitB sep 0 (Lib.countB s sep) s).map Value.string).toArray T))
    (s : Str) (b : UInt8) (w : World) (h1 : s.length ≤ 2097152) (hm : ∃ m, w.cell? ⟨g, 0, none⟩ = some (.int .i64 m)) :
    Calls P f [S s, S [b]].toArray w (Ret w fun v w' => ∃ x : Sl Str, v = x.v ∧ x.l = splitC b s ∧ Fresh w x w') := by
  obtain ⟨m, hm⟩ := hm
  have hv : [S s, S [b]].toArray = #[.string ⟨⟨s⟩⟩, .string ⟨⟨[b]⟩⟩] := rfl
  rw [hv]
  refine Calls.mono (hS ⟨⟨s⟩⟩ ⟨⟨[b]⟩⟩ m w (by simp [ByteArray.size]; omega) hm (by simp [ByteArray.size])) ?_
  rintro e w' ⟨rfl, rfl⟩
  have hd := Lib.splitB_data ⟨⟨[b]⟩⟩ 0 (Lib.countB ⟨⟨s⟩⟩ ⟨⟨[b]⟩⟩) ⟨⟨s⟩⟩
  have hk := splitK_splitC b s
  have hd2 : (Lib.splitB ⟨⟨[b]⟩⟩ 0 (Lib.countB ⟨⟨s⟩⟩ ⟨⟨[b]⟩⟩) ⟨⟨s⟩⟩).map (·.data.toList) = splitC b s := hd.trans hk
  have hl := Lib.splitB_all ⟨⟨[b]⟩⟩ (by simp [ByteArray.size]) 0 _ ⟨⟨s⟩⟩ rfl
  have hcs : (Lib.splitB ⟨⟨[b]⟩⟩ 0 (Lib.countB ⟨⟨s⟩⟩ ⟨⟨[b]⟩⟩) ⟨⟨s⟩⟩).map Value.string = encs (splitC b s) := by
    rw [← hd2]
    generalize Lib.splitB ⟨⟨[b]⟩⟩ 0 (Lib.countB ⟨⟨s⟩⟩ ⟨⟨[b]⟩⟩) ⟨⟨s⟩⟩ = l
    clear hd hd2 hl hk
    induction l with
    | nil => rfl
    | cons x l ih => simp only [List.map_cons, ih]; rfl
  have hlen : (splitC b s).length = Lib.countB ⟨⟨s⟩⟩ ⟨⟨[b]⟩⟩ + 1 := by rw [← hd2, List.length_map, hl]
  have hb := splitC_len b s
  have hs := alloc_sat w T (encs (splitC b s))
  rw [hcs]
  have hs2 := Sat.boxow (l := splitC b s) hs rfl rfl (by unfold maxLen; omega) (ownL_mk_flat (by
    intro x hx
    have := splitC_mem_le hx
    show WfS x
    unfold WfS; omega))
  refine ⟨_, rfl, hs.below, ⟨splitC b s, some ⟨w.heap.size, 0, none⟩, (splitC b s).length⟩, ?_, rfl, hs2.fresh List.mem_cons_self⟩
  simp [Sl.v, hlen]
theorem cut_calls {P : Program} {f : FuncId} {g : Nat}
    (hS : ∀ (s sep : ByteArray) (m : Int) (w : World), s.size < 4294967281 → w.cell? ⟨g, 0, none⟩ = some (.int .i64 m) → Calls P f #[.string s, .string sep] w fun e w' =>
      e = .returned (.tuple #[.string ⟨(Lib.cut s.data.toList sep.data.toList).1.toArray⟩, .string ⟨(Lib.cut s.data.toList sep.data.toList).2.1.toArray⟩, .bool (Lib.cut s.data.toList sep.data.toList).2.2]) ∧ ∃ n, w' = w.drewN n)
    (s : Str) (b : UInt8) (w : World) (h1 : s.length ≤ 2097152) (hm : ∃ m, w.cell? ⟨g, 0, none⟩ = some (.int .i64 m)) :
    Calls P f [S s, S [b]].toArray w (RetP w (.tuple #[S (cutC b s).1, S (cutC b s).2.1, Bo (cutC b s).2.2])) := by
  obtain ⟨m, hm⟩ := hm
  have hv : [S s, S [b]].toArray = #[.string ⟨⟨s⟩⟩, .string ⟨⟨[b]⟩⟩] := rfl
  rw [hv]
  refine Calls.mono (hS ⟨⟨s⟩⟩ ⟨⟨[b]⟩⟩ m w (by simp [ByteArray.size]; omega) hm) ?_
  rintro e w' ⟨rfl, n, rfl⟩
  have e1 : Lib.cut (⟨⟨s⟩⟩ : ByteArray).data.toList (⟨⟨[b]⟩⟩ : ByteArray).data.toList = cutC b s := cut_cutC b s
  exact ⟨by rw [e1], ⟨rfl, rfl, rfl, Nat.le_refl _, fun _ _ => rfl⟩⟩
theorem trim_calls {P : Program} {f : FuncId}
    (hS : ∀ (s p : ByteArray) (w : World), Calls P f #[.string s, .string p] w fun e w' => e = .returned (.string ⟨(Lib.trimPrefix s.data.toList p.data.toList).toArray⟩) ∧ w' = w)
    (s p : Str) (w : World) : Calls P f [S s, S p].toArray w (RetP w (S (if p.isPrefixOf s then s.drop p.length else s))) := by
  have hv : [S s, S p].toArray = #[.string ⟨⟨s⟩⟩, .string ⟨⟨p⟩⟩] := rfl
  rw [hv]
  refine Calls.mono (hS ⟨⟨s⟩⟩ ⟨⟨p⟩⟩ w) ?_
  rintro e w' ⟨rfl, rfl⟩
  exact ⟨rfl, Below.refl _ _⟩
theorem Sat.cellm {w0 w : World} {C : List Chunk} {a : Go.Addr} {k : IntKind} (hs : Sat N0 w0 w C) (h : ∃ m, w0.cell? a = some (.int k m)) : ∃ m, w.cell? a = some (.int k m) := by
  obtain ⟨m, hm⟩ := h
  exact ⟨m, by rw [hs.below.cell (World.block_lt_of_cell? _ _ hm)]; exact hm⟩

end Go.Sw
