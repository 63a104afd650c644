/- Plain laws: what the functions of the program compute, as Lean functions on data. No program in sight; no conditions. -/
import Derived.Test.YtfhcbbhmkdfpmaaLibU
set_option linter.all false
namespace Go.Sw

def kindName (k : Int) : Str :=
  if k = 1 then [112, 97, 103, 101] else if k = 2 then [115, 99, 114, 105, 112, 116] else if k = 3 then [115, 116, 121, 108, 101] else if k = 4 then [105, 109, 97, 103, 101] else if k = 5 then [109, 111, 100, 117, 108, 101] else []
theorem kindName_out {k : Int} (h : k < 1 ∨ 5 < k) : kindName k = [] := by
  unfold kindName
  repeat (rw [if_neg (by omega)])

def verdictName (k : Int) : Str :=
  if k = 1 then [111, 107] else if k = 2 then [112, 111, 108, 105, 99, 121] else if k = 3 then [115, 116, 97, 116, 117, 115] else if k = 4 then [107, 105, 110, 100] else if k = 5 then [115, 104, 97, 114, 101] else if k = 6 then [100, 105, 103, 101, 115, 116] else []
theorem verdictName_out {k : Int} (h : k < 1 ∨ 6 < k) : verdictName k = [] := by
  unfold verdictName
  repeat (rw [if_neg (by omega)])

def kindOfMode (m : Int) : Int := if m = 1 then 4 else if m = 2 then 3 else if m = 3 ∨ m = 4 then 2 else 0
theorem kindOfMode_out {m : Int} (h1 : ¬ m = 1) (h2 : ¬ m = 2) (h3 : ¬ m = 3) (h4 : ¬ m = 4) : kindOfMode m = 0 := by simp [kindOfMode, h1, h2, h3, h4]
def notFound : TResponse := ⟨404, 1, [], 0, false, []⟩
def fitsKind (xk kind : Int) : Bool := decide (xk = kind) || (decide (kind = 5) && decide (xk = 2))

/-- What is left of a purse behind n. -/
def lessN (left : Int) (n : Nat) : Int := if left - n < 0 then -1 else left - n
theorem lessN_lt {left : Int} {n : Nat} (h : left < (n : Int)) : lessN left n = -1 := by unfold lessN; rw [if_pos (by omega)]
theorem lessN_ge {left : Int} {n : Nat} (h : (n : Int) ≤ left) : lessN left n = left - n := by unfold lessN; rw [if_neg (by omega)]
theorem lessN_nn {left : Int} {n : Nat} (_h0 : 0 ≤ left) (h : ¬ lessN left n < 0) : (n : Int) ≤ left ∧ lessN left n = left - n := by
  unfold lessN at h ⊢
  by_cases hc : left - n < 0
  · rw [if_pos hc] at h; omega
  · rw [if_neg hc]; omega
theorem lessN_neg {left : Int} {n : Nat} (h : lessN left n < 0) : left < (n : Int) := by
  unfold lessN at h
  by_cases hc : left - n < 0
  · omega
  · rw [if_neg hc] at h; omega
def TResponse.size (x : TResponse) : Nat := x.body.length + x.policy.length

theorem drop_cons {α : Type} {l : List α} {k : Nat} {d : α} (h : l[k]? = some d) : l.drop k = d :: l.drop (k + 1) := by
  obtain ⟨h1, h2⟩ := List.getElem?_eq_some_iff.1 h
  rw [List.drop_eq_getElem_cons h1, h2]
theorem drop_out {α : Type} {l : List α} {k : Nat} (h : ¬ k < l.length) : l.drop k = [] := List.drop_eq_nil_of_le (by omega)

def lower (c : UInt8) : Bool := decide (97 ≤ c.toNat) && decide (c.toNat ≤ 122)
def digit (c : UInt8) : Bool := decide (48 ≤ c.toNat) && decide (c.toNat ≤ 57)
def isName (s : Str) : Bool := s.all lower && inR s.length 1 8
def valueByte (c : UInt8) : Bool := lower c || digit c || decide (c.toNat = 47)
def isValue (s : Str) : Bool := s.all valueByte && inR s.length 1 20
def TAddr.is (a : TAddr) : Bool := isName a.host && isName a.path
def TRequest.is (r : TRequest) : Bool := inR r.kind 1 5 && (r.to.is && (isName r.frm && (decide (r.digest = []) || isValue r.digest)))
def TAddr.size (a : TAddr) : Nat := a.host.length + a.path.length
def TRequest.size (r : TRequest) : Nat := r.to.size + r.frm.length + r.digest.length

-- sums of sizes
def lsum {α : Type} (f : α → Nat) (l : List α) : Nat := (l.map f).sum
def lsz {α : Type} (f : α → Nat) (l : List α) : Nat := l.length + lsum f l
theorem lsum_cons {α : Type} {f : α → Nat} {x : α} {l : List α} : lsum f (x :: l) = f x + lsum f l := by simp [lsum]
theorem lsum_nil {α : Type} {f : α → Nat} : lsum f ([] : List α) = 0 := rfl
theorem lessN_sub {l : Int} {n m : Nat} (h : 0 ≤ l - n) : lessN (l - n) m = lessN l (n + m) := by
  unfold lessN
  rw [show l - (n : Int) - m = l - ((n + m : Nat) : Int) from by omega]
theorem lessN_add_lt {l : Int} {n m : Nat} (h : l < (n : Int)) : lessN l (n + m) = -1 := by
  unfold lessN
  rw [if_pos (by omega)]
theorem lessN_zero {l : Int} (h : 0 ≤ l) : lessN l 0 = l := by unfold lessN; rw [if_neg (by omega)]; omega
theorem lsum_le {α : Type} {f : α → Nat} {l : List α} {x : α} (h : x ∈ l) : f x ≤ lsum f l := by
  induction l with
  | nil => cases h
  | cons y l ih =>
    rw [lsum_cons]
    rcases List.mem_cons.1 h with rfl | h
    · omega
    · have := ih h; omega

theorem fill_step {α : Type} {l : List α} {k : Nat} {x z : α} (hk : l[k]? = some x) : (l.take k ++ List.replicate (l.length - k) z).set k x = l.take (k + 1) ++ List.replicate (l.length - (k + 1)) z := by
  obtain ⟨h1, h2⟩ := List.getElem?_eq_some_iff.1 hk
  have hl : (l.take k).length = k := by simp; omega
  rw [List.set_append_right _ _ (by omega), hl, Nat.sub_self]
  obtain ⟨m, hm⟩ : ∃ m, l.length - k = m + 1 := ⟨l.length - k - 1, by omega⟩
  rw [hm, List.replicate_succ, List.set_cons_zero, show l.length - (k + 1) = m from by omega, List.take_add_one, hk]
  simp

def TLine.size (x : TLine) : Nat := x.text.length
def TEntry.size (x : TEntry) : Nat := x.top.length + x.to.size + x.response.size
def TCache.size (x : TCache) : Nat := lsz TEntry.size x.entries
def strsz (l : List Str) : Nat := lsz List.length l
def TPolicy.size (x : TPolicy) : Nat := strsz x.scripts + strsz x.styles + strsz x.images + x.nonce.length

def idxF {α : Type} (p : α → Bool) : List α → Nat → Int
  | [], _ => -1
  | x :: l, k => if p x then (k : Int) else idxF p l (k + 1)

def isPassive (l : List TLine) : Bool := l.all fun x => decide (x.op ≠ 1) && decide (x.op ≠ 2)
def TPolicy.inl (p : TPolicy) (nonce : Str) : Bool := !p.set || (decide (p.nonce ≠ []) && decide (p.nonce = nonce))

def hosts (l : List Str) : Bool := l.all isName && decide (l.length ≤ 4)
def TPolicy.is (p : TPolicy) : Bool :=
  if p.set then hosts p.scripts && (hosts p.styles && (hosts p.images && (decide (p.nonce = []) || isValue p.nonce)))
  else decide (p.scripts = []) && (decide (p.styles = []) && (decide (p.images = []) && decide (p.nonce = [])))
def TPolicy.allows (p : TPolicy) (kind : Int) (host : Str) : Bool :=
  if p.set then (if kind = 2 ∨ kind = 5 then decide (host ∈ p.scripts) else if kind = 3 then decide (host ∈ p.styles) else if kind = 4 then decide (host ∈ p.images) else false) else true
theorem idxF_any {α : Type} {p : α → Bool} : ∀ (l : List α) (k : Nat), decide (0 ≤ idxF p l k) = l.any p
  | [], k => by simp [idxF]
  | x :: l, k => by
    unfold idxF
    by_cases h : p x = true
    · simp [h]
    · rw [if_neg h, idxF_any l (k + 1)]; simp [h]
theorem any_mem {v : Str} {l : List Str} : l.any (fun x => decide (v = x)) = decide (v ∈ l) := by
  induction l with
  | nil => simp
  | cons x l ih => simp [ih]
theorem any_not_all {α : Type} {p : α → Bool} {l : List α} : (!l.any fun x => !p x) = l.all p := by
  induction l with
  | nil => simp
  | cons x l ih => simp [ih]
theorem dec_le4 {n : Nat} : decide ((n : Int) ≤ 4) = decide (n ≤ 4) := by apply decide_eq_decide.2; omega

def freshN (now : Int) (l : List TEntry) : Nat := l.countP fun e => decide (now ≤ e.until_)
theorem freshN_yes {now : Int} {e : TEntry} {l : List TEntry} (h : now ≤ e.until_) : freshN now (e :: l) = freshN now l + 1 := by simp [freshN, h]
theorem freshN_no {now : Int} {e : TEntry} {l : List TEntry} (h : ¬ now ≤ e.until_) : freshN now (e :: l) = freshN now l := by simp [freshN, h]
def TCache.fresh (c : TCache) (now : Int) : Nat := freshN now c.entries
def hit (top : Str) (a : TAddr) (now : Int) (e : TEntry) : Bool := decide (e.top = top) && (decide (e.to = a) && decide (now ≤ e.until_))
def lookIn (top : Str) (a : TAddr) (now : Int) (l : List TEntry) : TResponse × Bool := match l.find? (hit top a now) with
  | some e => (e.response, true)
  | none => (notFound, false)
theorem lookIn_yes {top : Str} {a : TAddr} {now : Int} {e : TEntry} {l : List TEntry} (h : hit top a now e = true) : lookIn top a now (e :: l) = (e.response, true) := by simp [lookIn, h]
theorem lookIn_no {top : Str} {a : TAddr} {now : Int} {e : TEntry} {l : List TEntry} (h : hit top a now e = false) : lookIn top a now (e :: l) = lookIn top a now l := by simp [lookIn, h]
theorem lookIn_nil {top : Str} {a : TAddr} {now : Int} : lookIn top a now [] = (notFound, false) := rfl
theorem idxF_none {α : Type} {p : α → Bool} : ∀ {l : List α} {k : Nat}, idxF p l k < 0 → l.find? p = none
  | [], _, _ => rfl
  | x :: l, k, h => by
    unfold idxF at h
    by_cases hp : p x = true
    · rw [if_pos hp] at h; omega
    · rw [if_neg hp] at h; simp [hp, idxF_none h]
theorem idxF_some {α : Type} {p : α → Bool} : ∀ {l : List α} {k : Nat}, ¬ idxF p l k < 0 → ∃ j d, idxF p l k = ((k + j : Nat) : Int) ∧ l[j]? = some d ∧ l.find? p = some d
  | [], k, h => by simp [idxF] at h
  | x :: l, k, h => by
    unfold idxF at h ⊢
    by_cases hp : p x = true
    · rw [if_pos hp]; exact ⟨0, x, by simp, by simp, by simp [hp]⟩
    · rw [if_neg hp] at h ⊢
      obtain ⟨j, d, h1, h2, h3⟩ := idxF_some h
      exact ⟨j + 1, d, by rw [h1]; congr 1; omega, by simpa using h2, by simp [hp, h3]⟩

end Go.Sw
