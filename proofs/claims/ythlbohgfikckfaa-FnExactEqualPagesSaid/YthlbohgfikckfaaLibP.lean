/- Plain laws: what the functions of the program compute, as Lean functions on data. No program in sight; no conditions. -/
import Derived.Test.YthlbohgfikckfaaLibQ
set_option linter.all false
namespace Go.Sw

def kindName (k : Int) : Str :=
  if k = 1 then [112, 97, 103, 101] else if k = 2 then [115, 99, 114, 105, 112, 116] else if k = 3 then [115, 116, 121, 108, 101] else if k = 4 then [105, 109, 97, 103, 101] else if k = 5 then [109, 111, 100, 117, 108, 101] else []
theorem kindName_out {k : Int} (h : k < 1 ∨ 5 < k) : kindName k = [] := by
  unfold kindName
  repeat (rw [if_neg (by omega)])

def verdictName (k : Int) : Str :=
  if k = 1 then [111, 107] else if k = 2 then [112, 111, 108, 105, 99, 121] else if k = 3 then [115, 116, 97, 116, 117, 115] else if k = 4 then [107, 105, 110, 100] else if k = 5 then [115, 104, 97, 114, 101] else if k = 6 then [100, 105, 103, 101, 115, 116] else []
theorem verdictName_out {k : Int} (h : k < 1 ∨ 6 < k) : verdictName k = [] := by
  unfold verdictName
  repeat (rw [if_neg (by omega)])

def kindOfMode (m : Int) : Int := if m = 1 then 4 else if m = 2 then 3 else if m = 3 ∨ m = 4 then 2 else 0
theorem kindOfMode_out {m : Int} (h1 : ¬ m = 1) (h2 : ¬ m = 2) (h3 : ¬ m = 3) (h4 : ¬ m = 4) : kindOfMode m = 0 := by simp [kindOfMode, h1, h2, h3, h4]
def notFound : TResponse := ⟨404, 1, [], 0, false, []⟩
def fitsKind (xk kind : Int) : Bool := decide (xk = kind) || (decide (kind = 5) && decide (xk = 2))

/-- What is left of a purse behind n. -/
def lessN (left : Int) (n : Nat) : Int := if left - n < 0 then -1 else left - n
theorem lessN_lt {left : Int} {n : Nat} (h : left < (n : Int)) : lessN left n = -1 := by unfold lessN; rw [if_pos (by omega)]
theorem lessN_ge {left : Int} {n : Nat} (h : (n : Int) ≤ left) : lessN left n = left - n := by unfold lessN; rw [if_neg (by omega)]
theorem lessN_nn {left : Int} {n : Nat} (_h0 : 0 ≤ left) (h : ¬ lessN left n < 0) : (n : Int) ≤ left ∧ lessN left n = left - n := by
  unfold lessN at h ⊢
  by_cases hc : left - n < 0
  · rw [if_pos hc] at h; omega
  · rw [if_neg hc]; omega
theorem lessN_neg {left : Int} {n : Nat} (h : lessN left n < 0) : left < (n : Int) := by
  unfold lessN at h
  by_cases hc : left - n < 0
  · omega
  · rw [if_neg hc] at h; omega
def TResponse.size (x : TResponse) : Nat := x.body.length + x.policy.length

theorem drop_cons {α : Type} {l : List α} {k : Nat} {d : α} (h : l[k]? = some d) : l.drop k = d :: l.drop (k + 1) := by
  obtain ⟨h1, h2⟩ := List.getElem?_eq_some_iff.1 h
  rw [List.drop_eq_getElem_cons h1, h2]
theorem drop_out {α : Type} {l : List α} {k : Nat} (h : ¬ k < l.length) : l.drop k = [] := List.drop_eq_nil_of_le (by omega)

def lower (c : UInt8) : Bool := decide (97 ≤ c.toNat) && decide (c.toNat ≤ 122)
def digit (c : UInt8) : Bool := decide (48 ≤ c.toNat) && decide (c.toNat ≤ 57)
def isName (s : Str) : Bool := s.all lower && inR s.length 1 8
def valueByte (c : UInt8) : Bool := lower c || digit c || decide (c.toNat = 47)
def isValue (s : Str) : Bool := s.all valueByte && inR s.length 1 20
def TAddr.is (a : TAddr) : Bool := isName a.host && isName a.path
def TRequest.is (r : TRequest) : Bool := inR r.kind 1 5 && (r.to.is && (isName r.frm && (decide (r.digest = []) || isValue r.digest)))
def TAddr.size (a : TAddr) : Nat := a.host.length + a.path.length
def TRequest.size (r : TRequest) : Nat := r.to.size + r.frm.length + r.digest.length

-- sums of sizes
def lsum {α : Type} (f : α → Nat) (l : List α) : Nat := (l.map f).sum
def lsz {α : Type} (f : α → Nat) (l : List α) : Nat := l.length + lsum f l
theorem lsum_cons {α : Type} {f : α → Nat} {x : α} {l : List α} : lsum f (x :: l) = f x + lsum f l := by simp [lsum]
theorem lsum_nil {α : Type} {f : α → Nat} : lsum f ([] : List α) = 0 := rfl
theorem lessN_sub {l : Int} {n m : Nat} (h : 0 ≤ l - n) : lessN (l - n) m = lessN l (n + m) := by
  unfold lessN
  rw [show l - (n : Int) - m = l - ((n + m : Nat) : Int) from by omega]
theorem lessN_add_lt {l : Int} {n m : Nat} (h : l < (n : Int)) : lessN l (n + m) = -1 := by
  unfold lessN
  rw [if_pos (by omega)]
theorem lessN_zero {l : Int} (h : 0 ≤ l) : lessN l 0 = l := by unfold lessN; rw [if_neg (by omega)]; omega
theorem lsum_le {α : Type} {f : α → Nat} {l : List α} {x : α} (h : x ∈ l) : f x ≤ lsum f l := by
  induction l with
  | nil => cases h
  | cons y l ih =>
    rw [lsum_cons]
    rcases List.mem_cons.1 h with rfl | h
    · omega
    · have := ih h; omega

theorem fill_step {α : Type} {l : List α} {k : Nat} {x z : α} (hk : l[k]? = some x) : (l.take k ++ List.replicate (l.length - k) z).set k x = l.take (k + 1) ++ List.replicate (l.length - (k + 1)) z := by
  obtain ⟨h1, h2⟩ := List.getElem?_eq_some_iff.1 hk
  have hl : (l.take k).length = k := by simp; omega
  rw [List.set_append_right _ _ (by omega), hl, Nat.sub_self]
  obtain ⟨m, hm⟩ : ∃ m, l.length - k = m + 1 := ⟨l.length - k - 1, by omega⟩
  rw [hm, List.replicate_succ, List.set_cons_zero, show l.length - (k + 1) = m from by omega, List.take_add_one, hk]
  simp

def TLine.size (x : TLine) : Nat := x.text.length
def TEntry.size (x : TEntry) : Nat := x.top.length + x.to.size + x.response.size
def TCache.size (x : TCache) : Nat := lsz TEntry.size x.entries
def strsz (l : List Str) : Nat := lsz List.length l
def TPolicy.size (x : TPolicy) : Nat := strsz x.scripts + strsz x.styles + strsz x.images + x.nonce.length

def idxF {α : Type} (p : α → Bool) : List α → Nat → Int
  | [], _ => -1
  | x :: l, k => if p x then (k : Int) else idxF p l (k + 1)

def isPassive (l : List TLine) : Bool := l.all fun x => decide (x.op ≠ 1) && decide (x.op ≠ 2)
def TPolicy.inl (p : TPolicy) (nonce : Str) : Bool := !p.set || (decide (p.nonce ≠ []) && decide (p.nonce = nonce))

def hosts (l : List Str) : Bool := l.all isName && decide (l.length ≤ 4)
def TPolicy.is (p : TPolicy) : Bool :=
  if p.set then hosts p.scripts && (hosts p.styles && (hosts p.images && (decide (p.nonce = []) || isValue p.nonce)))
  else decide (p.scripts = []) && (decide (p.styles = []) && (decide (p.images = []) && decide (p.nonce = [])))
def TPolicy.allows (p : TPolicy) (kind : Int) (host : Str) : Bool :=
  if p.set then (if kind = 2 ∨ kind = 5 then decide (host ∈ p.scripts) else if kind = 3 then decide (host ∈ p.styles) else if kind = 4 then decide (host ∈ p.images) else false) else true
theorem idxF_any {α : Type} {p : α → Bool} : ∀ (l : List α) (k : Nat), decide (0 ≤ idxF p l k) = l.any p
  | [], k => by simp [idxF]
  | x :: l, k => by
    unfold idxF
    by_cases h : p x = true
    · simp [h]
    · rw [if_neg h, idxF_any l (k + 1)]; simp [h]
theorem any_mem {v : Str} {l : List Str} : l.any (fun x => decide (v = x)) = decide (v ∈ l) := by
  induction l with
  | nil => simp
  | cons x l ih => simp [ih]
theorem any_not_all {α : Type} {p : α → Bool} {l : List α} : (!l.any fun x => !p x) = l.all p := by
  induction l with
  | nil => simp
  | cons x l ih => simp [ih]
theorem dec_le4 {n : Nat} : decide ((n : Int) ≤ 4) = decide (n ≤ 4) := by apply decide_eq_decide.2; omega

def freshN (now : Int) (l : List TEntry) : Nat := l.countP fun e => decide (now ≤ e.until_)
theorem freshN_yes {now : Int} {e : TEntry} {l : List TEntry} (h : now ≤ e.until_) : freshN now (e :: l) = freshN now l + 1 := by simp [freshN, h]
theorem freshN_no {now : Int} {e : TEntry} {l : List TEntry} (h : ¬ now ≤ e.until_) : freshN now (e :: l) = freshN now l := by simp [freshN, h]
def TCache.fresh (c : TCache) (now : Int) : Nat := freshN now c.entries
def hit (top : Str) (a : TAddr) (now : Int) (e : TEntry) : Bool := decide (e.top = top) && (decide (e.to = a) && decide (now ≤ e.until_))
def lookIn (top : Str) (a : TAddr) (now : Int) (l : List TEntry) : TResponse × Bool := match l.find? (hit top a now) with
  | some e => (e.response, true)
  | none => (notFound, false)
theorem lookIn_yes {top : Str} {a : TAddr} {now : Int} {e : TEntry} {l : List TEntry} (h : hit top a now e = true) : lookIn top a now (e :: l) = (e.response, true) := by simp [lookIn, h]
theorem lookIn_no {top : Str} {a : TAddr} {now : Int} {e : TEntry} {l : List TEntry} (h : hit top a now e = false) : lookIn top a now (e :: l) = lookIn top a now l := by simp [lookIn, h]
theorem lookIn_nil {top : Str} {a : TAddr} {now : Int} : lookIn top a now [] = (notFound, false) := rfl
theorem idxF_none {α : Type} {p : α → Bool} : ∀ {l : List α} {k : Nat}, idxF p l k < 0 → l.find? p = none
  | [], _, _ => rfl
  | x :: l, k, h => by
    unfold idxF at h
    by_cases hp : p x = true
    · rw [if_pos hp] at h; omega
    · rw [if_neg hp] at h; simp [hp, idxF_none h]
theorem idxF_some {α : Type} {p : α → Bool} : ∀ {l : List α} {k : Nat}, ¬ idxF p l k < 0 → ∃ j d, idxF p l k = ((k + j : Nat) : Int) ∧ l[j]? = some d ∧ l.find? p = some d
  | [], k, h => by simp [idxF] at h
  | x :: l, k, h => by
    unfold idxF at h ⊢
    by_cases hp : p x = true
    · rw [if_pos hp]; exact ⟨0, x, by simp, by simp, by simp [hp]⟩
    · rw [if_neg hp] at h ⊢
      obtain ⟨j, d, h1, h2, h3⟩ := idxF_some h
      exact ⟨j + 1, d, by rw [h1]; congr 1; omega, by simpa using h2, by simp [hp, h3]⟩

def modZ (n m : Int) : Int := if 1 ≤ m ∧ m ≤ 1000000000000 then n % m else 0
theorem modZ_out {n m : Int} (h : m < 1 ∨ 1000000000000 < m) : modZ n m = 0 := by unfold modZ; rw [if_neg (by omega)]
theorem modZ_bd {n m : Int} (h : 1 ≤ m) : 0 ≤ modZ n m ∧ modZ n m < m := by
  unfold modZ
  split
  · exact ⟨Int.emod_nonneg _ (by omega), Int.emod_lt_of_pos _ (by omega)⟩
  · omega
theorem tmod_or (n : Int) {m : Int} (h : 1 ≤ m) : (n.tmod m = n % m ∨ n.tmod m = n % m - m) ∧ 0 ≤ n % m ∧ n % m < m := by
  refine ⟨?_, Int.emod_nonneg _ (by omega), Int.emod_lt_of_pos _ (by omega)⟩
  rw [Int.tmod_eq_emod]
  split <;> omega
theorem tmod_neg {n m : Int} (h : 1 ≤ m) (hn : n.tmod m < 0) : n.tmod m + m = n % m := by
  have := tmod_or n h
  omega
theorem tmod_nn {n m : Int} (h : 1 ≤ m) (hn : ¬ n.tmod m < 0) : n.tmod m = n % m := by
  have := tmod_or n h
  omega
theorem mod_twice (n : Int) {m : Int} (h : 1 ≤ m) : (n.tmod m + m).tmod m = n % m := by
  obtain ⟨h1, h2, h3⟩ := tmod_or n h
  rw [Int.tmod_eq_emod_of_nonneg (by omega)]
  rcases h1 with h1 | h1
  · rw [h1, Int.add_emod_right, Int.emod_emod_of_dvd _ (Int.dvd_refl m)]
  · rw [h1, Int.sub_add_cancel, Int.emod_emod_of_dvd _ (Int.dvd_refl m)]
def hashStep (d v : Int) : Int := (d * 1000003 + modZ v 2147483647 + 13).tmod 2147483647
theorem hashStep_bd {d v : Int} (h : 0 ≤ d) : 0 ≤ hashStep d v ∧ hashStep d v < 2147483647 := by
  have h1 := modZ_bd (n := v) (m := 2147483647) (by decide)
  unfold hashStep
  exact ⟨Int.tmod_nonneg _ (by omega), Int.tmod_lt_of_pos _ (by decide)⟩
def hash (l : List Int) : Int := l.foldl hashStep 11
def bytesInts (s : Str) : List Int := (s.length : Int) :: s.map fun c => (c.toNat : Int)
def digestN (s : Str) : Int := hash (151 :: bytesInts s)
theorem take_map_step {s : Str} {k : Nat} {d : UInt8} (h : s[k]? = some d) : (s.take k).map (fun c => (c.toNat : Int)) ++ [(d.toNat : Int)] = (s.take (k + 1)).map (fun c => (c.toNat : Int)) := by
  rw [List.take_add_one, h]; simp

theorem lsz_map {α β : Type} {f : β → Nat} {g : α → β} {l : List α} : lsz f (l.map g) = lsz (fun x => f (g x)) l := by simp [lsz, lsum, Function.comp_def]
def TAttr.size (x : TAttr) : Nat := x.name.length + x.value.length
def TToken.size (x : TToken) : Nat := x.name.length + lsz TAttr.size x.attrs + x.text.length
def TTokenizer.size (x : TTokenizer) : Nat := x.rest.length
def TNode.size (x : TNode) : Nat := x.name.length + x.text.length + lsz TAttr.size x.attrs
def TBuilder.size (x : TBuilder) : Nat := lsz TNode.size x.nodes + x.opn.length
def TSlot.size (x : TSlot) : Nat := x.to.size + x.digest.length + x.body.length
def TModule.size (x : TModule) : Nat := x.to.size + x.body.length
def TPage.size (x : TPage) : Nat := x.addr.size + x.policy.size + x.tok.size + lsz TToken.size x.queue + x.builder.size + lsz TSlot.size x.slots + lsz TModule.size x.mods + lsz TAddr.size x.entries + lsz TAddr.size x.ran + strsz x.log
def TRule.size (x : TRule) : Nat := x.name.length
def TSheet.size (x : TSheet) : Nat := lsz TRule.size x.rules
def TFile.size (x : TFile) : Nat := x.path.length + x.response.size
def TServer.size (x : TServer) : Nat := x.host.length + lsz TFile.size x.files
def TSent.size (x : TSent) : Nat := x.top.length + x.to.size
def TNet.size (x : TNet) : Nat := lsz TServer.size x.servers + x.cache.size + lsz TSent.size x.log

theorem fill_map {α β : Type} {f : α → β} {l s : List α} {k : Nat} {z : β} {d x : α} (hd : l[k]? = some d) (hs : s.map f = (l.take k).map f ++ List.replicate (l.length - k) z) (hx : f x = f d) :
    (s.set k x).map f = (l.take (k + 1)).map f ++ List.replicate (l.length - (k + 1)) z := by
  have h := fill_step (l := l.map f) (k := k) (x := f d) (z := z) (by simp [hd])
  rw [List.map_set, hx, hs, List.map_take, List.map_take]
  simpa using h

def eqWith {α : Type} (p : α → α → Bool) : List α → List α → Bool
  | [], [] => true
  | x :: l, y :: m => p x y && eqWith p l m
  | _, _ => false
theorem eqWith_len {α : Type} {p : α → α → Bool} : ∀ {l m : List α}, l.length ≠ m.length → eqWith p l m = false
  | [], [], h => absurd rfl h
  | [], _ :: _, _ => rfl
  | _ :: _, [], _ => rfl
  | x :: l, y :: m, h => by simp [eqWith, eqWith_len (p := p) (l := l) (m := m) (by simpa using h)]
theorem eqWith_map {α β : Type} [DecidableEq β] {f : α → β} : ∀ {l m : List α}, eqWith (fun x y => decide (f x = f y)) l m = decide (l.map f = m.map f)
  | [], [] => by simp [eqWith]
  | [], _ :: _ => by simp [eqWith]
  | _ :: _, [] => by simp [eqWith]
  | x :: l, y :: m => by simp [eqWith, eqWith_map (f := f) (l := l) (m := m)]
theorem lsz_cons {α : Type} {f : α → Nat} {x : α} {l : List α} : lsz f (x :: l) = 1 + f x + lsz f l := by simp only [lsz, lsum_cons, List.length_cons]; omega
theorem lsz_nil {α : Type} {f : α → Nat} : lsz f ([] : List α) = 0 := rfl
def fmtAttrs : Str → List TAttr → Str
  | s, [] => s
  | s, a :: l => fmtAttrs (s ++ [32] ++ a.name ++ [61] ++ a.value) l
def fmtTok (t : TToken) : Str := if t.kind = 1 then fmtAttrs ([60] ++ t.name) t.attrs ++ [62] else if t.kind = 2 then [60, 47] ++ t.name ++ [62] else if t.kind = 3 then t.text else []

end Go.Sw
