/- Plain laws on servers, caches, nets, policies and digests, for the laws over draws. No program in sight; no conditions. -/
import Derived.Test.YtdpifpainiiblaaGreatDoorLibZ
set_option linter.all false
namespace Go.Sw
open Go Go.RowKit

/-! The first element that passes is changed, or a new one is added. -/
def up {α : Type} (p : α → Bool) (f : α → α) (z : α) : List α → List α
  | [] => [f z]
  | x :: l => if p x = true then f x :: l else x :: up p f z l
section
variable {α : Type} {p q : α → Bool} {f : α → α} {z : α}
theorem up_idx : ∀ (l : List α) (k : Nat), up p f z l = if idxF p l k < 0 then l ++ [f z] else l.modify ((idxF p l k).toNat - k) f
  | [], k => by simp [up, idxF]
  | x :: l, k => by
    by_cases h : p x = true
    · have h1 : idxF p (x :: l) k = (k : Int) := by simp [idxF, h]
      rw [h1, if_neg (by omega)]
      simp [up, h]
    · have h1 : idxF p (x :: l) k = idxF p l (k + 1) := by simp [idxF, h]
      have h2 := up_idx l (k + 1)
      rw [h1]
      unfold up
      rw [if_neg h, h2]
      by_cases h3 : idxF p l (k + 1) < 0
      · rw [if_pos h3, if_pos h3]; rfl
      · obtain ⟨j, d, h4, _, _⟩ := idxF_some h3
        rw [if_neg h3, if_neg h3, h4]
        rw [show ((k + 1 + j : Nat) : Int).toNat - k = j + 1 from by omega, show ((k + 1 + j : Nat) : Int).toNat - (k + 1) = j from by omega, List.modify_succ_cons]
theorem up_find_same (hp : ∀ x, p x = true → p (f x) = true) (hz : p (f z) = true) : ∀ l, (up p f z l).find? p = some (f ((l.find? p).getD z))
  | [] => by simp [up, hz]
  | x :: l => by
    by_cases h : p x = true
    · simp [up, h, hp x h]
    · simp [up, h, up_find_same hp hz l]
theorem up_find_other (hq : ∀ x, p x = true → q (f x) = false ∧ q x = false) (hz : q (f z) = false) : ∀ l, (up p f z l).find? q = l.find? q
  | [] => by simp [up, hz]
  | x :: l => by
    by_cases h : p x = true
    · simp [up, h, (hq x h).1, (hq x h).2]
    · by_cases h2 : q x = true
      · simp [up, h, h2]
      · simp [up, h, h2, up_find_other hq hz l]
theorem up_mem : ∀ {l : List α} {d : α}, d ∈ up p f z l → d ∈ l ∨ d = f ((l.find? p).getD z)
  | [], d, h => by simpa [up] using h
  | x :: l, d, h => by
    by_cases hx : p x = true
    · simp only [up, if_pos hx, List.mem_cons] at h
      rcases h with h | h
      · right; simp [hx, h]
      · left; simp [h]
    · simp only [up, if_neg hx, List.mem_cons] at h
      rcases h with h | h
      · left; simp [h]
      · rcases up_mem h with h | h
        · left; simp [h]
        · right; simp [hx, h]
theorem up_self : ∀ {l : List α}, f ((l.find? p).getD z) ∈ up p f z l
  | [] => by simp [up]
  | x :: l => by
    by_cases hx : p x = true
    · simp [up, hx]
    · have := up_self (l := l)
      simp [up, hx, this]
theorem up_keys {κ : Type} [DecidableEq κ] {key : α → κ} {k0 : κ} (hp : ∀ x, p x = decide (key x = k0)) (hf : ∀ x, p x = true → key (f x) = key x) (hz : key (f z) = k0) : ∀ l : List α, (up p f z l).map key = if k0 ∈ l.map key then l.map key else l.map key ++ [k0]
  | [] => by simp [up, hz]
  | x :: l => by
    have ih := up_keys hp hf hz l
    by_cases hx : p x = true
    · have h1 : key x = k0 := by simpa [hp] using hx
      simp [up, hx, hf x hx, h1]
    · have h1 : ¬ key x = k0 := by simpa [hp] using hx
      have h2 : ¬ k0 = key x := fun h => h1 h.symm
      simp only [up, if_neg hx, List.map_cons, ih, List.mem_cons, h2, false_or]
      split <;> simp
theorem up_len : ∀ l : List α, (up p f z l).length ≤ l.length + 1
  | [] => by simp [up]
  | x :: l => by
    have := up_len l
    unfold up; split <;> simp <;> omega
theorem up_size {g : α → Nat} {m : Nat} (hf : ∀ x, g (f x) ≤ g x + m) : ∀ l : List α, lsz g (up p f z l) ≤ lsz g l + 1 + g z + m
  | [] => by have := hf z; simp [up, lsz, lsum]; omega
  | x :: l => by
    have ih := up_size hf l
    have h0 := hf x
    unfold up; split
    · rw [lsz_cons, lsz_cons]; omega
    · rw [lsz_cons, lsz_cons]; omega
end
theorem modify_end {α : Type} {f : α → α} {z : α} : ∀ l : List α, (l ++ [z]).modify l.length f = l ++ [f z]
  | [] => by simp
  | x :: l => by simp [modify_end l]

/-! Unique by a key. -/
theorem uniqF_iff {α κ : Type} [DecidableEq κ] {good : α → Bool} {key : α → κ} : ∀ {l pre : List α}, uniqF good (fun d d2 => decide (key d2 = key d)) pre l = true ↔ (∀ d ∈ l, good d = true) ∧ (l.map key).Nodup ∧ ∀ d ∈ l, key d ∉ pre.map key
  | [], pre => by simp [uniqF]
  | x :: l, pre => by
    have ih := uniqF_iff (good := good) (key := key) (l := l) (pre := pre ++ [x])
    rw [uniqF, Bool.and_eq_true, Bool.and_eq_true, ih]
    simp only [Bool.not_eq_true', List.any_eq_false, decide_eq_true_eq, List.mem_cons, List.map_cons, List.nodup_cons, List.map_append, List.map_nil, List.mem_append, List.mem_map, List.not_mem_nil, or_false, not_or, not_exists, not_and, forall_eq_or_imp]
    constructor
    · rintro ⟨h1, h2, h3, h4, h5⟩
      exact ⟨⟨h1, h3⟩, ⟨fun d hd he => (h5 d hd).2 he, h4⟩, h2, fun d hd => (h5 d hd).1⟩
    · rintro ⟨⟨h1, h3⟩, ⟨h6, h4⟩, h2, h5⟩
      exact ⟨h1, h2, h3, h4, fun d hd => ⟨h5 d hd, fun he => h6 d hd he⟩⟩
theorem nodup_key {α κ : Type} {key : α → κ} : ∀ {l : List α}, (l.map key).Nodup → ∀ {x y : α}, x ∈ l → y ∈ l → key x = key y → x = y
  | [], _, _, _, h, _, _ => by cases h
  | z :: l, h, x, y, hx, hy, he => by
    simp only [List.map_cons, List.nodup_cons, List.mem_map, not_exists, not_and] at h
    rcases List.mem_cons.1 hx with h8 | h8
    · rcases List.mem_cons.1 hy with h9 | h9
      · exact h8.trans h9.symm
      · exact absurd (h8 ▸ he).symm (h.1 y h9)
    · rcases List.mem_cons.1 hy with h9 | h9
      · exact absurd (h9 ▸ he) (h.1 x h8)
      · exact nodup_key h.2 h8 h9 he

/-! Files put on servers. -/
theorem putIn_up (l : List TFile) (path : Str) (x : TResponse) : putIn l path x = up (onPath path) (fun f => ⟨f.path, x⟩) ⟨path, x⟩ l := by
  unfold putIn
  rw [up_idx l 0]
  by_cases h : idxF (onPath path) l 0 < 0
  · rw [if_pos h, if_neg (by omega)]
  · rw [if_neg h, if_pos (by omega)]; rfl
theorem putAll_up (l : List TServer) (a : TAddr) (x : TResponse) : putAll l a x = up (onHost a.host) (fun s => putOn s a.path x) ⟨a.host, []⟩ l := by
  unfold putAll withHost hostIx
  rw [up_idx l 0]
  by_cases h : idxF (onHost a.host) l 0 < 0
  · rw [if_pos h, if_pos h, if_pos h, modify_end]
  · rw [if_neg h, if_neg h, if_neg h]; rfl
theorem fileOf_put (s : TServer) (path : Str) (x : TResponse) : (putOn s path x).fileOf path = x := by
  unfold TServer.fileOf putOn
  simp only [putIn_up]
  have := up_find_same (p := onPath path) (f := fun f => ⟨f.path, x⟩) (z := ⟨path, x⟩) (by simp [onPath]) (by simp [onPath]) s.files
  rw [show (fun f : TFile => decide (f.path = path)) = onPath path from rfl, this]
theorem fileOf_other (s : TServer) {path b : Str} (x : TResponse) (h : b ≠ path) : (putOn s path x).fileOf b = s.fileOf b := by
  unfold TServer.fileOf putOn
  simp only [putIn_up]
  rw [up_find_other (q := fun f : TFile => decide (f.path = b)) (by intro y hy; simp only [onPath, decide_eq_true_eq] at hy; simp only [decide_eq_false_iff_not, hy]; exact ⟨fun e => h e.symm, fun e => h e.symm⟩) (by simp only [decide_eq_false_iff_not]; exact fun e => h e.symm)]
theorem answer_put (l : List TServer) (a : TAddr) (x : TResponse) : answerTo (putAll l a x) a = x := by
  unfold answerTo
  rw [putAll_up, show (fun s : TServer => decide (s.host = a.host)) = onHost a.host from rfl, up_find_same (p := onHost a.host) (f := fun s => putOn s a.path x) (fun s hs => hs) (by simp [onHost, putOn])]
  exact fileOf_put _ _ _
theorem answer_other (l : List TServer) {a b : TAddr} (x : TResponse) (h : b ≠ a) : answerTo (putAll l a x) b = answerTo l b := by
  unfold answerTo
  rw [putAll_up]
  by_cases hh : b.host = a.host
  · have hp : b.path ≠ a.path := fun e => h (TAddr.ext hh e)
    rw [hh, show (fun s : TServer => decide (s.host = a.host)) = onHost a.host from rfl, up_find_same (p := onHost a.host) (f := fun s => putOn s a.path x) (fun s hs => hs) (by simp [onHost, putOn])]
    cases hf : l.find? (onHost a.host) with
    | none => simp only [Option.getD_none]; rw [fileOf_other _ _ hp]; rfl
    | some s => simp only [Option.getD_some]; exact fileOf_other _ _ hp
  · rw [up_find_other (q := fun s : TServer => decide (s.host = b.host)) (by intro y hy; simp only [onHost, decide_eq_true_eq] at hy; simp only [putOn, decide_eq_false_iff_not, hy]; exact ⟨fun e : a.host = b.host => hh e.symm, fun e : a.host = b.host => hh e.symm⟩) (decide_eq_false (fun e : a.host = b.host => hh e.symm))]
theorem serversOk_iff (l : List TServer) : serversOk l = true ↔ (∀ s ∈ l, serverOk s = true) ∧ (l.map TServer.host).Nodup ∧ l.length ≤ 4 := by
  unfold serversOk
  rw [Bool.and_eq_true, uniqF_iff (key := TServer.host)]
  simp only [decide_eq_true_eq, List.map_nil, List.not_mem_nil, not_false_eq_true, implies_true, and_true, and_assoc]
theorem up_at {α : Type} {p : α → Bool} {f : α → α} {z : α} : ∀ (l : List α), (up p f z l)[if idxF p l 0 < 0 then l.length else (idxF p l 0).toNat]? = some (f ((l.find? p).getD z)) := by
  intro l
  rw [up_idx l 0]
  by_cases h : idxF p l 0 < 0
  · rw [if_pos h, if_pos h, idxF_none h]; simp
  · obtain ⟨j, d, h1, h2, h3⟩ := idxF_some h
    rw [if_neg h, if_neg h, h1, h3, modify_of_get (by simpa using h2)]
    have hj : j < l.length := (List.getElem?_eq_some_iff.1 h2).1
    simp [hj]
theorem put_good {l : List TServer} {a : TAddr} {x : TResponse} (h : putIs l a x = true) : serverOk (putOn ((l.find? (onHost a.host)).getD ⟨a.host, []⟩) a.path x) = true ∧ (putAll l a x).length ≤ 4 := by
  simp only [putIs, Bool.and_eq_true, decide_eq_true_eq] at h
  refine ⟨?_, h.1⟩
  have h2 := h.2
  rw [putAll_up, show hostIx l a.host = if idxF (onHost a.host) l 0 < 0 then l.length else (idxF (onHost a.host) l 0).toNat from rfl, up_at] at h2
  simpa using h2
theorem nodup_end {α : Type} {l : List α} {x : α} (h : l.Nodup) (hx : x ∉ l) : (l ++ [x]).Nodup := by
  rw [List.nodup_append]
  exact ⟨h, by simp, fun a ha b hb he => by
    obtain rfl : b = x := by simpa using hb
    exact hx (he ▸ ha)⟩
theorem put_servers {l : List TServer} {a : TAddr} {x : TResponse} (h : putIs l a x = true) (hl : serversOk l = true) : serversOk (putFile l a x) = true := by
  rw [putFile_yes h]
  obtain ⟨h1, h2⟩ := put_good h
  rw [serversOk_iff] at hl ⊢
  refine ⟨fun s hs => ?_, ?_, h2⟩
  · rw [putAll_up] at hs
    rcases up_mem hs with hs | rfl
    · exact hl.1 s hs
    · exact h1
  · rw [putAll_up, up_keys (p := onHost a.host) (f := fun s => putOn s a.path x) (z := ⟨a.host, []⟩) (key := TServer.host) (k0 := a.host) (fun s => rfl) (fun s _ => rfl) rfl]
    split
    · exact hl.2.1
    · exact nodup_end hl.2.1 (by assumption)
theorem put_answer {l : List TServer} {a : TAddr} {x : TResponse} (h : putIs l a x = true) : answerTo (putFile l a x) a = x := by rw [putFile_yes h, answer_put]
theorem put_answer_other {l : List TServer} {a b : TAddr} {x : TResponse} (h : b ≠ a) : answerTo (putFile l a x) b = answerTo l b := by
  unfold putFile; split
  · exact answer_other l x h
  · rfl
theorem putOn_size (s : TServer) (path : Str) (x : TResponse) : (putOn s path x).size ≤ s.size + (1 + path.length + x.size + x.size) := by
  have h1 : lsz TFile.size (putOn s path x).files ≤ lsz TFile.size s.files + 1 + TFile.size ⟨path, x⟩ + x.size := by
    show lsz TFile.size (putIn s.files path x) ≤ _
    rw [putIn_up]
    exact up_size (fun f => by simp only [TFile.size]; omega) s.files
  have h2 : TFile.size ⟨path, x⟩ = path.length + x.size := rfl
  have h3 : (putOn s path x).size = s.host.length + lsz TFile.size (putOn s path x).files := rfl
  have h4 : s.size = s.host.length + lsz TFile.size s.files := rfl
  omega
theorem putFile_size (l : List TServer) (a : TAddr) (x : TResponse) : lsz TServer.size (putFile l a x) ≤ lsz TServer.size l + (2 + a.size + 2 * x.size) := by
  have hsz : a.size = a.host.length + a.path.length := rfl
  unfold putFile; split
  · rw [putAll_up]
    have h1 := up_size (p := onHost a.host) (f := fun s => putOn s a.path x) (z := ⟨a.host, []⟩) (g := TServer.size) (fun s => putOn_size s a.path x) l
    have h2 : TServer.size ⟨a.host, []⟩ = a.host.length := by simp [TServer.size, lsz, lsum]
    omega
  · omega

theorem putFile_size_of {X L : List TServer} {a : TAddr} {x : TResponse} (h : X = putFile L a x) : lsz TServer.size X ≤ lsz TServer.size L + (2 + a.size + 2 * x.size) := h ▸ putFile_size L a x

/-! Entries of caches. -/
theorem putEntry_up (c : TCache) (top : Str) (a : TAddr) (e : TEntry) : (putEntry c top a e).entries = up (atF top a) (fun _ => e) e c.entries := by
  unfold putEntry
  rw [up_idx c.entries 0]
  by_cases h : idxF (atF top a) c.entries 0 < 0
  · rw [if_pos h, if_neg (by omega)]
  · obtain ⟨j, d, h1, h2, h3⟩ := idxF_some h
    rw [if_neg h, if_pos (by omega), h1, modify_of_get (by simpa using h2)]
    simp
def ekey (e : TEntry) : Str × TAddr := (e.top, e.to)
theorem cacheOk_iff (c : TCache) : cacheOk c = true ↔ (∀ e ∈ c.entries, entryOk e = true) ∧ (c.entries.map ekey).Nodup ∧ c.entries.length ≤ 100 := by
  unfold cacheOk
  have h : sameEntry = fun d d2 : TEntry => decide (ekey d2 = ekey d) := by
    funext d d2
    simp only [sameEntry, ekey, Prod.mk.injEq]
    by_cases h1 : d2.top = d.top <;> by_cases h2 : d2.to = d.to <;> simp [h1, h2]
  rw [Bool.and_eq_true, h, uniqF_iff (key := ekey)]
  simp only [decide_eq_true_eq, List.map_nil, List.not_mem_nil, not_false_eq_true, implies_true, and_true, and_assoc]
section
variable {c : TCache} {top other : Str} {a : TAddr} {x : TResponse} {now t : Int} {e : TEntry}
theorem find_up_hit {p q : TEntry → Bool} (hq : ∀ d, q d = true → p d = true) (he : q e = true) : ∀ l : List TEntry, (up p (fun _ => e) e l).find? q = some e
  | [] => by simp [up, he]
  | d :: l => by
    by_cases h : p d = true
    · simp [up, h, he]
    · have h2 : ¬ q d = true := fun h3 => h (hq d h3)
      simp [up, h, h2, find_up_hit hq he l]
theorem store_look (he : e.top = top ∧ e.to = a) (ht : t ≤ e.until_) : lookIn top a t (putEntry c top a e).entries = (e.response, true) := by
  rw [putEntry_up]
  unfold lookIn
  rw [find_up_hit (q := hit top a t) (fun d hd => by simp only [hit, Bool.and_eq_true] at hd; simp only [atF, Bool.and_eq_true]; exact ⟨hd.1, hd.2.1⟩) (by simp [hit, he.1, he.2, ht])]
theorem store_late (hc : cacheOk (putEntry c top a e) = true) (he : e.top = top ∧ e.to = a) (ht : e.until_ < t) : (lookIn top a t (putEntry c top a e).entries).2 = false := by
  unfold lookIn
  rw [show (putEntry c top a e).entries.find? (hit top a t) = none from ?_]
  rw [List.find?_eq_none]
  intro d hd hq
  simp only [hit, Bool.and_eq_true, decide_eq_true_eq] at hq
  have hmem : e ∈ (putEntry c top a e).entries := mem_putEntry
  have := nodup_key ((cacheOk_iff _).1 hc).2.1 hd hmem (by simp [ekey, hq.1, hq.2.1, he.1, he.2])
  subst this
  omega
theorem store_other (he : e.top = top) (ho : other ≠ top) : lookIn other a t (putEntry c top a e).entries = lookIn other a t c.entries := by
  unfold lookIn
  rw [putEntry_up, up_find_other (q := hit other a t) (fun d hd => by
    simp only [atF, Bool.and_eq_true, decide_eq_true_eq] at hd
    have ht : ¬ top = other := fun h => ho h.symm
    simp [hit, he, hd.1, ht]) (by
    have ht : ¬ top = other := fun h => ho h.symm
    simp [hit, he, ht])]
theorem forget_look : (lookIn top a t (c.forget top).entries).2 = false := by
  unfold lookIn
  rw [show (c.forget top).entries.find? (hit top a t) = none from ?_]
  rw [List.find?_eq_none]
  intro d hd hq
  simp only [TCache.forget, List.mem_filter, Bool.not_eq_true', decide_eq_false_iff_not] at hd
  simp only [hit, Bool.and_eq_true, decide_eq_true_eq] at hq
  exact hd.2 hq.1
theorem count_filter_lt {p q : TEntry → Bool} {l : List TEntry} (he : e ∈ l) (hp : p e = true) (hq : q e = false) : (l.filter q).countP p < l.countP p := by
  induction l with
  | nil => cases he
  | cons d l ih =>
    rcases List.mem_cons.1 he with rfl | he
    · have : (l.filter q).countP p ≤ l.countP p := by rw [List.countP_filter]; exact List.countP_mono_left (fun x _ hx => by simp at hx; exact hx.1)
      rw [List.filter_cons, hq]
      simp [hp]; omega
    · have := ih he
      rw [List.filter_cons]
      by_cases hd : q d = true
      · rw [if_pos hd]; simp only [List.countP_cons]; omega
      · rw [if_neg hd, List.countP_cons]; omega
theorem forget_fresh (he : e.top = top) (ht : now ≤ e.until_) : (TCache.forget (putEntry c top a e) top).fresh now < (putEntry c top a e).fresh now := by
  unfold TCache.fresh freshN TCache.forget
  exact count_filter_lt (e := e) mem_putEntry (by simpa using ht) (by simp [he])
theorem store_fresh (ht : now ≤ e.until_) : 1 ≤ (putEntry c top a e).fresh now := by
  unfold TCache.fresh freshN
  exact List.countP_pos_iff.2 ⟨e, mem_putEntry, by simpa using ht⟩
theorem store_ne (h : storeEntry c top a x now ≠ c) : storeIs c top a x now = true := by
  cases h9 : storeIs c top a x now with
  | true => rfl
  | false => exact absurd (storeEntry_no h9) h
theorem store_cache (h : storeIs c top a x now = true) : cacheOk (storeEntry c top a x now) = true := by
  rw [storeEntry_yes h]
  simp only [storeIs, Bool.and_eq_true] at h
  exact h.2.2.2
theorem isv_age (h : x.isv = true) : 0 ≤ x.age ∧ x.age ≤ 1000 := by
  simp only [TResponse.isv, Bool.and_eq_true, inR_true] at h
  exact h.2.2.2.1
theorem store_now (h : storeIs c top a x now = true) : 0 ≤ now ∧ now ≤ 999999999000 := by
  simp only [storeIs, Bool.and_eq_true, inR_true] at h
  exact h.2.1
theorem storeEntry_size (c : TCache) (top : Str) (a : TAddr) (x : TResponse) (now : Int) : (storeEntry c top a x now).size ≤ c.size + (2 + 2 * (top.length + a.size + x.size)) := by
  unfold storeEntry; split
  · show lsz TEntry.size (putEntry c top a (newEntry top a x now)).entries ≤ lsz TEntry.size c.entries + _
    rw [putEntry_up]
    have := up_size (p := atF top a) (f := fun _ => newEntry top a x now) (z := newEntry top a x now) (g := TEntry.size) (m := TEntry.size (newEntry top a x now)) (fun d => by omega) c.entries
    have h2 : TEntry.size (newEntry top a x now) = top.length + a.size + x.size := rfl
    omega
  · omega
end

theorem storeEntry_size_of {X c : TCache} {top : Str} {a : TAddr} {x : TResponse} {now : Int} (h : X = storeEntry c top a x now) : X.size ≤ c.size + (2 + 2 * (top.length + a.size + x.size)) := h ▸ storeEntry_size c top a x now

theorem cache_facts {c d : TCache} {top other : Str} {a : TAddr} {x : TResponse} {now : Int} (hd : d = storeEntry c top a x now) (hne : ¬ d = c) (ht : top ≠ other) :
    (0 ≤ x.age ∧ x.age ≤ 1000 ∧ 0 ≤ now ∧ now ≤ 999999999000) ∧ lookIn top a (now + x.age) d.entries = (x, true) ∧ (lookIn top a (now + x.age + 1) d.entries).2 = false ∧ lookIn other a now d.entries = lookIn other a now c.entries ∧ (lookIn top a now (d.forget top).entries).2 = false ∧ cacheOk d = true ∧ 1 ≤ d.fresh now ∧ (d.forget top).fresh now < d.fresh now := by
  have hs : storeIs c top a x now = true := store_ne (by rw [← hd]; exact hne)
  have h1 := isv_age (storeIs_isv hs)
  have h2 := store_now hs
  have h3 := store_cache hs
  have e : storeEntry c top a x now = putEntry c top a (newEntry top a x now) := storeEntry_yes hs
  rw [e] at h3
  subst hd
  rw [e]
  refine ⟨⟨h1.1, h1.2, h2.1, h2.2⟩, store_look ⟨rfl, rfl⟩ (Int.le_refl _), store_late h3 ⟨rfl, rfl⟩ (show now + x.age < now + x.age + 1 by omega), store_other rfl (fun h => ht h.symm), forget_look, h3, store_fresh (show now ≤ now + x.age by omega), forget_fresh rfl (show now ≤ now + x.age by omega)⟩

/-! Nets. -/
section
variable {n : TNet} {top : Str} {a : TAddr} {x : TResponse} {guess g2 : Bool}
theorem keep_look (x : TResponse) (hx : x.isv = true) (hm : (lookIn top a n.now n.cache.entries).2 = false) : fetchR (keepAnswer n top a x) top a = (if a.is = true then (if storeIs n.cache top a x n.now = true ∧ x.status = 200 then x else answerTo n.servers a) else notFound) := by
  unfold fetchR
  split
  · by_cases hk : keepIs n top a x = true
    · rw [keep_yes hk]
      have hst : x.status = 200 := by simp only [keepIs, Bool.and_eq_true, decide_eq_true_eq] at hk; exact hk.2.2
      by_cases hs : storeIs n.cache top a x n.now = true
      · rw [storeEntry_yes hs]
        have h9 := store_look (c := n.cache) (e := newEntry top a x n.now) ⟨rfl, rfl⟩ (show n.now ≤ n.now + x.age from by have := isv_age hx; omega)
        simp only [show (newEntry top a x n.now).top = top from rfl, show (newEntry top a x n.now).to = a from rfl] at h9
        simp only [h9]
        rw [if_pos trivial, if_pos ⟨hs, hst⟩]; rfl
      · rw [storeEntry_no (by simpa using hs)]
        simp [hm, hs]
    · rw [keep_no (by simpa using hk)]
      have : ¬ x.status = 200 := by simpa [keepIs, hm, hx] using hk
      simp [hm, this]
  · rfl
theorem keepAnswer_isv (h : keepIs n top a x = true) : x.isv = true := by
  simp only [keepIs, Bool.and_eq_true] at h
  exact h.2.1
theorem keep_same (hm : (lookIn top a n.now n.cache.entries).2 = true) : keepAnswer n top a x = n := keep_no (by simp [keepIs, hm])
theorem keep_now : (keepAnswer n top a x).now = n.now := by unfold keepAnswer; split <;> rfl
theorem keep_servers : (keepAnswer n top a x).servers = n.servers := by unfold keepAnswer; split <;> rfl
theorem keep_log : (keepAnswer n top a x).log = n.log := by unfold keepAnswer; split <;> rfl
theorem logged_now : (logged n top a guess).now = n.now := by unfold logged; split <;> rfl
theorem logged_cache : (logged n top a guess).cache = n.cache := by unfold logged; split <;> rfl
theorem logged_servers : (logged n top a guess).servers = n.servers := by unfold logged; split <;> rfl
theorem logged_len : (logged n top a guess).log.length ≤ n.log.length + 1 := by unfold logged; split <;> simp
/-- Kept, the answer of a's server is found again. -/
theorem keep_again (ha : a.is = true) (hm : (lookIn top a n.now n.cache.entries).2 = false) : fetchR (keepAnswer n top a (answerTo n.servers a)) top a = answerTo n.servers a := by
  by_cases hk : keepIs n top a (answerTo n.servers a) = true
  · rw [keep_look _ (keepAnswer_isv hk) hm, if_pos ha]; split <;> rfl
  · rw [keep_no (by simpa using hk)]
    unfold fetchR
    rw [if_pos ha, if_neg (by simp [hm])]
theorem fetch_again : fetchR (fetchN n top a guess) top a = fetchR n top a := by
  unfold fetchN
  by_cases h : (a.is && !(lookIn top a n.now n.cache.entries).2) = true
  · rw [if_pos h]
    simp only [Bool.and_eq_true, Bool.not_eq_true'] at h
    have h0 : fetchR n top a = answerTo n.servers a := by unfold fetchR; rw [if_pos h.1, if_neg (by simp [h.2])]
    split
    · rw [h0]; unfold fetchR; rw [if_pos h.1, logged_now, logged_cache, if_neg (by simp [h.2]), logged_servers]
    · have := keep_again (n := logged n top a guess) (top := top) h.1 (by rw [logged_now, logged_cache]; exact h.2)
      rw [logged_servers] at this
      rw [this, h0]
  · rw [if_neg h]
theorem fetch_kept (ha : a.is = true) : fetchR (keepAnswer n top a (fetchR n top a)) top a = fetchR n top a := by
  cases hm : (lookIn top a n.now n.cache.entries).2 with
  | true => rw [keep_same hm]
  | false =>
    have h0 : fetchR n top a = answerTo n.servers a := by unfold fetchR; rw [if_pos ha, if_neg (by simp [hm])]
    rw [h0]; exact keep_again ha hm
theorem fetch_guess : (fetchN n top a true).cache = n.cache := by
  unfold fetchN; split
  · rw [if_pos rfl, logged_cache]
  · rfl
theorem fetch_log : (fetchN n top a guess).log.length ≤ n.log.length + 1 := by
  unfold fetchN; split
  · split
    · exact logged_len
    · rw [keep_log]; exact logged_len
  · omega
end
/-! Policies. -/
theorem name_no {x : Str} {b : UInt8} (hb : b.toNat < 97) (h : isName x = true) : b ∉ x := fun hx => by
  simp only [isName, Bool.and_eq_true] at h
  have := List.all_eq_true.1 h.1 _ hx
  simp only [lower, Bool.and_eq_true, decide_eq_true_eq] at this
  omega
theorem split_words : ∀ {l : List Str} {w : Str}, (32 : UInt8) ∉ w → l.all isName = true → splitC 32 (wordsText w l) = w :: l
  | [], w, hw, _ => by rw [wordsText_nil, splitC_none hw]
  | x :: l, w, hw, h => by
    simp only [List.all_cons, Bool.and_eq_true] at h
    have ih := split_words (w := x) (name_no (by decide) h.1) h.2
    have e : wordsText w (x :: l) = w ++ 32 :: wordsText x l := by
      unfold wordsText; rw [joinS_cons]; simp
    rw [e, splitC_app hw, ih]
theorem polS_fmt {q : TPolicy} (h : (q.is && q.set) = true) : polS (fmtPolicy q) = q ∧ 3 ≤ (splitC 59 (fmtPolicy q)).length := by
  have hs : q.set = true := by simp only [Bool.and_eq_true] at h; exact h.2
  have hi : q.is = true := by simp only [Bool.and_eq_true] at h; exact h.1
  simp only [TPolicy.is, hs, if_true, hosts, Bool.and_eq_true, Bool.or_eq_true, decide_eq_true_eq] at hi
  obtain ⟨⟨h1, _⟩, ⟨h2, _⟩, ⟨h3, _⟩, h4⟩ := hi
  have a1 := split_words (w := [115, 99, 114, 105, 112, 116]) (by decide) h1
  have a2 := split_words (w := [115, 116, 121, 108, 101]) (by decide) h2
  have a3 := split_words (w := [105, 109, 103]) (by decide) h3
  unfold polS
  rw [fmt_parts h]
  obtain ⟨set, sc, st, im, no⟩ := q
  simp only at hs a1 a2 a3 h4 ⊢
  subst hs
  by_cases hn : no = []
  · subst hn
    refine ⟨?_, by simp⟩
    simp [polOf, a1, a2, a3]
  · rw [if_neg hn]
    refine ⟨?_, by simp⟩
    have e : nonceS (noncePre ++ no) = no := by
      unfold nonceS
      have : 0 < no.length := List.length_pos_iff.2 hn
      rw [if_pos (by simp only [noncePre, List.length_append, List.length_cons, List.length_nil]; omega)]
      simp [noncePre]
    simp [polOf, a1, a2, a3, e]
theorem fmt_ne {q : TPolicy} (h : (q.is && q.set) = true) : fmtPolicy q ≠ [] := fun e => by
  have := (polS_fmt h).2
  rw [e] at this
  simp [splitC] at this
theorem fmt_unset {q : TPolicy} (h : q.set = false) : fmtPolicy q = [] := by unfold fmtPolicy; simp [h]
theorem unset_is {q : TPolicy} (h : q.is = true) (hs : q.set = false) : q = ⟨false, [], [], [], []⟩ := by
  obtain ⟨set, sc, st, im, no⟩ := q
  simp only at hs
  subst hs
  simp only [TPolicy.is, Bool.and_eq_true, decide_eq_true_eq] at h
  simp at h
  simp [h]
theorem pol_round {q : TPolicy} (h : q.is = true) : policyIs (fmtPolicy q) = true ∧ policyOf (fmtPolicy q) = q := by
  cases hs : q.set with
  | false =>
    rw [fmt_unset hs]
    exact ⟨policyIs_nil rfl, by rw [policyOf_no (.inl rfl), unset_is h hs]⟩
  | true =>
    have hq : (q.is && q.set) = true := by simp [h, hs]
    obtain ⟨h1, h2⟩ := polS_fmt hq
    have h3 : policyIs (fmtPolicy q) = true := policyIs_good (by rw [h1]) h2
    exact ⟨h3, by rw [policyOf_good (fmt_ne hq) h3, h1]⟩
theorem pol_back {s : Str} (h : policyIs s = true) : fmtPolicy (policyOf s) = s := by
  by_cases h0 : s = []
  · subst h0; rw [policyOf_no (.inl rfl)]; rfl
  · rw [policyOf_good h0 h]
    simp only [policyIs, Bool.or_eq_true, Bool.and_eq_true, decide_eq_true_eq] at h
    exact (h.resolve_left h0).2
theorem policyOf_size_of {X : TPolicy} {s : Str} (h : X = policyOf s) : X.size ≤ s.length := h ▸ policyOf_size s
theorem mem_both {a b : List Str} {x : Str} : decide (x ∈ inBoth a b) = (decide (x ∈ a) && decide (x ∈ b)) := by
  unfold inBoth
  by_cases h1 : x ∈ a <;> by_cases h2 : x ∈ b <;> simp [h1, h2]
theorem narrow_allows (a b : TPolicy) (k : Int) (h : Str) : (narrow a b).allows k h = (a.allows k h && b.allows k h) := by
  unfold narrow
  cases ha : a.set with
  | false => simp [TPolicy.allows, ha]
  | true =>
    cases hb : b.set with
    | false => simp [TPolicy.allows, hb]
    | true =>
      simp only [if_true, TPolicy.allows, ha, hb]
      split
      · exact mem_both
      · split
        · exact mem_both
        · split
          · exact mem_both
          · rfl
theorem narrow_inl (a b : TPolicy) (n : Str) : (narrow a b).inl n = (a.inl n && b.inl n) := by
  unfold narrow
  cases ha : a.set with
  | false => simp [TPolicy.inl, ha]
  | true =>
    cases hb : b.set with
    | false => simp [TPolicy.inl, hb]
    | true =>
      simp only [if_true, TPolicy.inl, ha, hb]
      by_cases he : a.nonce = b.nonce
      · simp [he]
      · rw [if_neg he]
        by_cases h1 : a.nonce = n
        · have : ¬ b.nonce = n := fun e => he (h1.trans e.symm)
          simp [this]
        · simp [h1]
theorem hosts3_name {x : Str} (h : x ∈ hosts3) : isName x = true := (show ∀ x ∈ hosts3, isName x = true by decide) x h
theorem hosts_of3 {l : List Str} (h1 : l.length ≤ 3) (h2 : ∀ x ∈ l, x ∈ hosts3) : hosts l = true ∧ strsz l ≤ 15 := by
  refine ⟨?_, ?_⟩
  · simp only [hosts, Bool.and_eq_true, decide_eq_true_eq]
    exact ⟨List.all_eq_true.2 fun x hx => hosts3_name (h2 x hx), by omega⟩
  · have key : ∀ l : List Str, (∀ x ∈ l, x ∈ hosts3) → strsz l ≤ 5 * l.length := by
      intro l
      induction l with
      | nil => intro _; simp [strsz, lsz, lsum]
      | cons x l ih =>
        intro h
        have h1 := ih (fun y hy => h y (List.mem_cons_of_mem _ hy))
        have h2 := hosts3_len (h x (by simp))
        simp only [strsz, lsz_cons, List.length_cons] at h1 ⊢; omega
    have := key l h2
    omega
theorem fmtPolicy_len (p : TPolicy) : (fmtPolicy p).length ≤ p.size + 26 := by
  have h1 := wordsText_len [115, 99, 114, 105, 112, 116] p.scripts
  have h2 := wordsText_len [115, 116, 121, 108, 101] p.styles
  have h3 := wordsText_len [105, 109, 103] p.images
  have h4 : p.size = strsz p.scripts + strsz p.styles + strsz p.images + p.nonce.length := rfl
  unfold fmtPolicy; split
  · split
    · simp only [List.length_append, List.length_cons, List.length_nil] at *; omega
    · simp only [List.length_append, List.length_cons, List.length_nil] at *; omega
  · simp

/-! Numbers have texts of their own. -/
def decVal (s : Str) : Nat := s.foldl (fun a c => a * 10 + (c.toNat - 48)) 0
theorem decVal_snoc (s : Str) (c : UInt8) : decVal (s ++ [c]) = decVal s * 10 + (c.toNat - 48) := by simp [decVal]
theorem decVal_dec (u : Nat) : decVal (Lib.decDigits u) = u := by
  induction u using Nat.strongRecOn with
  | _ u ih =>
    rw [Lib.decDigits]
    split
    · rename_i h
      have : (UInt8.ofNat (48 + u)).toNat = 48 + u := by simp; omega
      show 0 * 10 + ((UInt8.ofNat (48 + u)).toNat - 48) = u
      rw [this]; omega
    · rename_i h
      have h9 : (UInt8.ofNat (48 + u % 10)).toNat = 48 + u % 10 := by simp; omega
      rw [decVal_snoc, ih (u / 10) (by omega), h9]; omega
theorem itoa_inj {m n : Int} (hm : 0 ≤ m) (hn : 0 ≤ n) (h : Lib.itoa m = Lib.itoa n) : m = n := by
  unfold Lib.itoa at h
  rw [if_neg (by omega), if_neg (by omega)] at h
  have := congrArg decVal h
  rw [decVal_dec, decVal_dec] at this
  omega
theorem itoa_ne {n : Int} (hn : 0 ≤ n) : Lib.itoa n ≠ [] := fun h => by
  unfold Lib.itoa at h
  rw [if_neg (by omega), Lib.decDigits] at h
  split at h <;> simp at h
theorem digestN_bd (s : Str) : 0 ≤ digestN s ∧ digestN s < 2147483647 := by
  have key : ∀ (l : List Int) (a : Int), 0 ≤ a ∧ a < 2147483647 → 0 ≤ l.foldl hashStep a ∧ l.foldl hashStep a < 2147483647 := by
    intro l
    induction l with
    | nil => intro a h; exact h
    | cons v l ih => intro a h; exact ih _ (hashStep_bd h.1)
  exact key (151 :: bytesInts s) 11 ⟨by decide, by decide⟩
theorem digestN_wf1 (s : Str) : WfI (digestN s + 1) := ⟨by have := digestN_bd s; omega, by have := digestN_bd s; omega⟩
theorem digest_next (s : Str) : checkDigest s (Lib.itoa (digestN s + 1)) = false := by
  have h := digestN_bd s
  have h1 : Lib.itoa (digestN s + 1) ≠ [] := itoa_ne (by omega)
  have h2 : ¬ Lib.itoa (digestN s + 1) = Lib.itoa (digestN s) := fun e => by
    have := itoa_inj (by omega) (by omega) e; omega
  simp [checkDigest, h1, h2]
theorem digest_own (s : Str) : checkDigest s (Lib.itoa (digestN s)) = true := by simp [checkDigest]
theorem resp_isv {k a : Int} {b p : Str} {sh : Bool} (hk : 1 ≤ k ∧ k ≤ 5) (ha : 0 ≤ a ∧ a ≤ 1000) (hb : b.length ≤ 400) (hp : policyIs p = true) : TResponse.isv ⟨200, k, b, a, sh, p⟩ = true := by
  have h1 : inR 200 100 599 = true := by decide
  have h2 : inR k 1 5 = true := inR_true.2 hk
  have h3 : inR a 0 1000 = true := inR_true.2 ha
  have h4 : ((b.length : Nat) : Int) ≤ 400 := by omega
  simp [TResponse.isv, h1, h2, h3, h4, hp]
theorem put_nonempty {l : List TServer} {a : TAddr} {x : TResponse} (hx : x.isv = true) (ha : a.is = true) : 0 < (putFile l a x).length := by
  unfold putFile; split
  · rw [putAll_up]
    cases l with
    | nil => simp [up]
    | cons s l => unfold up; split <;> simp
  · rename_i h
    cases l with
    | nil =>
      exfalso; apply h
      simp only [TAddr.is, Bool.and_eq_true] at ha
      have e : serverOk (putOn ⟨a.host, []⟩ a.path x) = true := by
        simp [serverOk, filesOk, putOn, putIn, idxF, uniqF, fileOk, ha.1, ha.2, hx]
      have h1 : putAll [] a x = [putOn ⟨a.host, []⟩ a.path x] := by rw [putAll_up]; rfl
      have h2 : hostIx [] a.host = 0 := by simp [hostIx, idxF]
      simp [putIs, h1, h2, e]
    | cons s l => simp

theorem put_nonempty_of {X L : List TServer} {a : TAddr} {x : TResponse} (h : X = putFile L a x) (hx : x.isv = true) (ha : a.is = true) : 0 < X.length := h ▸ put_nonempty hx ha

/-! Scripts. -/
theorem join_split (b : UInt8) : ∀ s : Str, joinS (splitC b s) [b] = s
  | [] => by simp [splitC, joinS_one]
  | c :: s => by
    have ih := join_split b s
    cases hs : splitC b s with
    | nil => exact absurd hs (splitC_ne b s)
    | cons x l =>
      rw [hs] at ih
      unfold splitC
      split
      · rename_i hc
        rw [hs, joinS_cons, ih, hc]; rfl
      · rw [hs]
        simp only [List.headD_cons, List.tail_cons]
        cases l with
        | nil => rw [joinS_one] at ih ⊢; rw [ih]
        | cons y l => rw [joinS_cons] at ih ⊢; rw [← ih]; rfl
theorem opOf_pre {s : Str} (h : opOf s ≠ 0) : (opPre (opOf s)).isPrefixOf s = true ∧ 1 ≤ opOf s ∧ opOf s ≤ 5 := by
  unfold opOf at h ⊢
  repeat' split
  all_goals simp_all
theorem line_back {x : Str} (h : lineIs x = true) : lineText (specLine x) = x ∧ lineOk (specLine x) = true := by
  simp only [lineIs, Bool.and_eq_true, decide_eq_true_eq] at h
  obtain ⟨h1, h2, h3⟩ := opOf_pre h.1
  unfold specLine
  rw [if_neg h.1]
  refine ⟨?_, inR_true.2 ⟨h2, h3⟩⟩
  rw [List.isPrefixOf_iff_prefix, List.prefix_iff_eq_append] at h1
  exact h1
theorem script_back {s : Str} (h : scriptIs s = true) : fmtScript (scriptLines s) = s := by
  by_cases h0 : s = []
  · subst h0; rw [scriptLines_nil rfl]; rfl
  · rw [scriptLines_good h0 h]
    simp only [scriptIs, Bool.or_eq_true, Bool.and_eq_true, decide_eq_true_eq] at h
    have ha := (h.resolve_left h0).1
    have e : scriptParts ((splitC 59 s).map specLine) = splitC 59 s := by
      unfold scriptParts
      generalize splitC 59 s = l at ha
      induction l with
      | nil => rfl
      | cons x l ih =>
        simp only [List.all_cons, Bool.and_eq_true] at ha
        obtain ⟨h1, h2⟩ := line_back ha.1
        rw [List.map_cons, List.filter_cons, if_pos h2, List.map_cons, ih ha.2, h1]
    unfold fmtScript
    rw [e, join_split]
theorem script_len (s : Str) : (scriptLines s).length ≤ 6 := by
  unfold scriptLines; split
  · simp
  · split
    · rename_i h0 h
      simp only [scriptIs, Bool.or_eq_true, Bool.and_eq_true, decide_eq_true_eq] at h
      simpa using (h.resolve_left h0).2
    · simp
theorem split_snoc {b : UInt8} {w : Str} (hw : b ∉ w) : ∀ t : Str, splitC b (t ++ [b] ++ w) = splitC b t ++ [w]
  | [] => by simp [splitC, splitC_none hw]
  | c :: t => by
    have ih := split_snoc hw t
    simp only [List.cons_append]
    unfold splitC
    split
    · rw [ih]; rfl
    · rw [ih]
      cases hs : splitC b t with
      | nil => exact absurd hs (splitC_ne b t)
      | cons x l => rfl
/-- The lines that drawn scripts are made of. -/
def lines11 : List Str := [[115, 97, 121, 32, 104, 105], [99, 111, 117, 110, 116, 32, 112], [99, 111, 117, 110, 116, 32, 115, 99, 114, 105, 112, 116], [108, 111, 111, 107, 32, 112], [108, 111, 111, 107, 32, 98], [97, 100, 100, 32, 98], [97, 100, 100, 32, 112], [119, 114, 105, 116, 101, 32, 91, 112, 93, 120, 91, 47, 112, 93], [119, 114, 105, 116, 101, 32, 91, 105, 109, 103, 32, 115, 114, 99, 61, 108, 111, 103, 111, 93], [119, 114, 105, 116, 101, 32, 91, 108, 105, 110, 107, 32, 104, 114, 101, 102, 61, 115, 116, 121, 108, 101, 93], [119, 114, 105, 116, 101, 32, 91, 98, 93]]
theorem lines11_ok : ∀ x ∈ lines11, lineIs x = true ∧ (59 : UInt8) ∉ x ∧ x.length ≤ 25 ∧ x ≠ [] := by decide
structure DrawnScript (t : Str) (n : Nat) : Prop where
  out : (t = [] ∧ n = 0) ∨ (t ≠ [] ∧ (splitC 59 t).all lineIs = true ∧ (splitC 59 t).length = n)
theorem DrawnScript.first {w : Str} (hw : w ∈ lines11) : DrawnScript ([] ++ w) 1 := ⟨.inr ⟨(lines11_ok w hw).2.2.2, by rw [List.nil_append, splitC_none (lines11_ok w hw).2.1]; simp [(lines11_ok w hw).1], by rw [List.nil_append, splitC_none (lines11_ok w hw).2.1]; rfl⟩⟩
theorem DrawnScript.next {t w : Str} {n : Nat} (h : DrawnScript t n) (ht : t ≠ []) (hw : w ∈ lines11) : DrawnScript (t ++ [59] ++ w) (n + 1) := by
  rcases h.out with h | ⟨_, h1, h2⟩
  · exact absurd h.1 ht
  · refine ⟨.inr ⟨by simp, ?_, ?_⟩⟩
    · rw [split_snoc (lines11_ok w hw).2.1, List.all_append, h1]; simp [(lines11_ok w hw).1]
    · rw [split_snoc (lines11_ok w hw).2.1]; simp [h2]
theorem DrawnScript.is {t : Str} {n : Nat} (h : DrawnScript t n) (h0 : 0 < n) (h6 : n ≤ 6) : scriptIs t = true ∧ t ≠ [] ∧ (scriptLines t).length = n := by
  rcases h.out with h | ⟨h1, h2, h3⟩
  · omega
  · have h4 : scriptIs t = true := scriptIs_good h2 (by omega)
    exact ⟨h4, h1, by rw [scriptLines_good h1 h4, List.length_map, h3]⟩

/-! Checks of responses. -/
theorem check_ok {p : TPolicy} {r : TRequest} {x : TResponse} (h : checkResp p r x = 1) : (r.kind = 1 ∨ p.allows r.kind r.to.host = true) ∧ x.status = 200 ∧ fitsKind x.kind r.kind = true ∧ (r.frm ≠ r.to.host → r.kind = 5 → x.shares = true) ∧ (r.digest = [] ∨ r.digest = Lib.itoa (digestN x.body)) := by
  unfold checkResp at h
  split at h
  · omega
  · rename_i h1
    split at h
    · omega
    · rename_i h2
      split at h
      · omega
      · rename_i h3
        split at h
        · omega
        · rename_i h4
          split at h
          · omega
          · rename_i h5
            have h1' : checkReq p r = 1 := Decidable.not_not.1 h1
            have h2' := Decidable.not_not.1 h2
            refine ⟨?_, h2'.2, by simpa using h3, ?_, Decidable.or_iff_not_imp_left.2 (by simpa [checkDigest] using h5)⟩
            · unfold checkReq at h1'
              split at h1'
              · rename_i h9; exact h9.2
              · omega
            · intro a b
              cases hsh : x.shares with
              | true => rfl
              | false => exact absurd ⟨a, hsh, .inl b⟩ h4
theorem check_no (p : TPolicy) (r : TRequest) (x : TResponse) : checkReq p r = 1 ∨ checkResp p r x = 2 := by
  by_cases h : checkReq p r = 1
  · exact .inl h
  · right; unfold checkResp; rw [if_pos h]
theorem check_rg (p : TPolicy) (r : TRequest) (x : TResponse) : verdictName (checkResp p r x) ≠ [] := by
  unfold checkResp
  repeat' split
  all_goals decide
theorem itoa_wf {n : Int} (h : WfI n) : WfS (Lib.itoa n) := by
  have := itoa_len h
  unfold WfS; omega

/-! Nets that are drawn: how great they may be. -/
structure NetAt (n : TNet) (s c l : Nat) : Prop where
  srv : lsz TServer.size n.servers ≤ s
  cch : n.cache.size ≤ c
  log : lsz TSent.size n.log ≤ l
  hst : ∀ x ∈ n.log, x.to.host ∈ hosts3
  now : -1 ≤ n.now ∧ n.now ≤ 999999998001
theorem NetAt.mono {n : TNet} {s c l c' l' : Nat} (h : NetAt n s c l) (hc : c ≤ c') (hl : l ≤ l') : NetAt n s c' l' := ⟨h.srv, Nat.le_trans h.cch hc, Nat.le_trans h.log hl, h.hst, h.now⟩
theorem NetAt.len {n : TNet} {s c l : Nat} (h : NetAt n s c l) : n.log.length ≤ l := by
  have := h.log
  simp only [lsz] at this; omega
theorem answer_size (l : List TServer) (a : TAddr) : (answerTo l a).size ≤ lsz TServer.size l := by
  unfold answerTo
  split
  · rename_i s hs
    have h1 := lsum_le (f := TServer.size) (List.mem_of_find?_eq_some hs)
    have h2 : (s.fileOf a.path).size ≤ s.size := by
      unfold TServer.fileOf
      split
      · rename_i f hf
        have h3 := lsum_le (f := TFile.size) (List.mem_of_find?_eq_some hf)
        simp only [TServer.size, lsz]
        simp only [TFile.size] at h3 ⊢
        omega
      · exact Nat.zero_le _
    simp only [lsz]; omega
  · exact Nat.zero_le _
theorem NetAt.keep {n : TNet} {s c l : Nat} {top : Str} {a : TAddr} {x : TResponse} (h : NetAt n s c l) : NetAt (keepAnswer n top a x) s (c + (2 + 2 * (top.length + a.size + x.size))) l := by
  refine ⟨by rw [keep_servers]; exact h.srv, ?_, by rw [keep_log]; exact h.log, by rw [keep_log]; exact h.hst, by rw [keep_now]; exact h.now⟩
  have h1 := h.cch
  unfold keepAnswer; split
  · have := storeEntry_size n.cache top a x n.now
    show (storeEntry n.cache top a x n.now).size ≤ _
    omega
  · omega
theorem NetAt.logd {n : TNet} {s c l : Nat} {top : Str} {a : TAddr} {g : Bool} (h : NetAt n s c l) (ha : a.host ∈ hosts3) : NetAt (logged n top a g) s c (l + (1 + top.length + a.size)) := by
  refine ⟨by rw [logged_servers]; exact h.srv, by rw [logged_cache]; exact h.cch, ?_, ?_, by rw [logged_now]; exact h.now⟩
  · have h1 := h.log
    unfold logged; split
    · show lsz TSent.size (n.log ++ [⟨top, a, g⟩]) ≤ _
      rw [lsz_app, lsz_one]; simp only [TSent.size]; omega
    · omega
  · unfold logged; split
    · intro x hx
      rcases List.mem_append.1 (show x ∈ n.log ++ [⟨top, a, g⟩] from hx) with h1 | h1
      · exact h.hst x h1
      · obtain rfl := List.mem_singleton.1 h1; exact ha
    · exact h.hst
theorem NetAt.fetch_of {X n : TNet} {s c l : Nat} {top : Str} {a : TAddr} {g : Bool} (hX : X = fetchN n top a g) (h : NetAt n s c l) (ht : top.length ≤ 4) (ha : a.host ∈ hosts3) (hp : a.path.length ≤ 5) : NetAt X s (c + (2 * s + 40)) (l + 20) := by
  subst hX
  have h1 := hosts3_len ha
  have h2 : a.size = a.host.length + a.path.length := rfl
  unfold fetchN; split
  · have h3 := h.logd (top := top) (g := g) ha
    split
    · exact h3.mono (by omega) (by omega)
    · have h4 := answer_size n.servers a
      have h5 := h.srv
      exact (h3.keep (top := top) (a := a) (x := answerTo n.servers a)).mono (by omega) (by omega)
  · exact h.mono (by omega) (by omega)
theorem NetAt.fetch_any {X n : TNet} {s c l : Nat} {top : Str} {a : TAddr} {g : Bool} (hX : X = fetchN n top a g) (h : NetAt n s c l) (ht : top.length ≤ 4) (ha : a.size ≤ 14) : lsz TServer.size X.servers ≤ s ∧ X.cache.size ≤ c + (2 * s + 40) ∧ X.log.length ≤ l + 1 := by
  subst hX
  have h4 := answer_size n.servers a
  have h5 := h.srv
  have h6 := h.cch
  have h7 := h.len
  have h8 := fetch_log (n := n) (top := top) (a := a) (guess := g)
  refine ⟨?_, ?_, by omega⟩
  · unfold fetchN; split
    · split
      · rw [logged_servers]; exact h5
      · rw [keep_servers, logged_servers]; exact h5
    · exact h5
  · unfold fetchN; split
    · split
      · rw [logged_cache]; omega
      · unfold keepAnswer; split
        · have := storeEntry_size (logged n top a g).cache top a (answerTo n.servers a) (logged n top a g).now
          show (storeEntry (logged n top a g).cache top a (answerTo n.servers a) (logged n top a g).now).size ≤ _
          rw [logged_cache] at this ⊢; omega
        · rw [logged_cache]; omega
    · omega

theorem look_size (top : Str) (a : TAddr) (now : Int) (c : TCache) : (lookIn top a now c.entries).1.size ≤ c.size := by
  unfold lookIn
  split
  · rename_i e he
    have h1 := lsum_le (f := TEntry.size) (List.mem_of_find?_eq_some he)
    simp only [TCache.size, lsz]
    simp only [TEntry.size] at h1 ⊢
    omega
  · exact Nat.zero_le _
theorem fetchR_size {n : TNet} {s c l : Nat} {top : Str} {a : TAddr} (h : NetAt n s c l) : (fetchR n top a).size ≤ s + c := by
  have h1 := look_size top a n.now n.cache
  have h2 := answer_size n.servers a
  have h3 := h.srv
  have h4 := h.cch
  unfold fetchR; split
  · split <;> omega
  · exact Nat.zero_le _
theorem fetchR_pol {n : TNet} {s c l : Nat} {top : Str} {a : TAddr} (h : NetAt n s c l) (hs : s ≤ 500000) (hc : c ≤ 500000) : (fetchR n top a).policy.length ≤ 1048576 := by
  have h1 := fetchR_size (top := top) (a := a) h
  simp only [TResponse.size] at h1; omega
theorem notFound_ok (w : World) : Ph.ok w notFound := ⟨⟨by decide, by decide⟩, ⟨by decide, by decide⟩, Nat.zero_le _, ⟨by decide, by decide⟩, trivial, Nat.zero_le _⟩
theorem look_ok {w : World} {c : Sl TEntry} (h : Sl.Ok w c) (top : Str) (a : TAddr) (now : Int) : Ph.ok w (lookIn top a now c.l).1 := by
  unfold lookIn
  split
  · rename_i e he
    exact (h.elems e (List.mem_of_find?_eq_some he)).response
  · exact notFound_ok w
theorem fetchR_ok {w : World} {n : PNet} (h : Ph.ok w n) (top : Str) (a : TAddr) : Ph.ok w (fetchR n.lg top a) := by
  unfold fetchR; split
  · split
    · exact look_ok h.cache.entries top a n.now
    · exact ans_ok h.servers a
  · exact notFound_ok w
theorem NetAt.keep_any {X n : TNet} {s c l : Nat} {top : Str} {a : TAddr} (hX : X = keepAnswer n top a (fetchR n top a)) (h : NetAt n s c l) (ht : top.length ≤ 4) (ha : a.size ≤ 14) : lsz TServer.size X.servers ≤ s ∧ X.cache.size ≤ c + (40 + 2 * (s + c)) ∧ X.log.length ≤ l := by
  subst hX
  have h1 := fetchR_size (top := top) (a := a) h
  have h2 := h.keep (top := top) (a := a) (x := fetchR n top a)
  exact ⟨h2.srv, Nat.le_trans h2.cch (by omega), h2.len⟩
theorem DrawnScript.one {t w : Str} {n k : Nat} (h : DrawnScript t n) (ht : t = []) (hk : k = n + 1) (hw : w ∈ lines11) : DrawnScript (t ++ w) k := by
  subst ht; subst hk
  rcases h.out with h | ⟨h1, _⟩
  · rw [h.2]; exact .first hw
  · exact absurd rfl h1
theorem specLine_size (s : Str) : (specLine s).size ≤ s.length := by
  unfold specLine; split
  · exact Nat.zero_le _
  · simp [TLine.size]
theorem script_size_of {X : List TLine} {s : Str} (h : X = scriptLines s) : lsz TLine.size X ≤ s.length + 1 := by
  subst h
  have h1 := splitC_sum 59 s
  have key : ∀ l : List Str, lsz TLine.size (l.map specLine) ≤ lsum List.length l + l.length := by
    intro l
    induction l with
    | nil => simp [lsz, lsum]
    | cons x l ih =>
      have h2 := specLine_size x
      rw [List.map_cons, lsz_cons, lsum_cons, List.length_cons]; omega
  unfold scriptLines; split
  · simp [lsz, lsum]
  · split
    · exact Nat.le_trans (key _) h1
    · simp [lsz, lsum]

/-! What was sent to whom. -/
def cntTo (L : List TSent) (h : Str) : Nat := (L.filter fun s => decide (s.to.host = h)).length
def sumTo (L : List TSent) (host : Str) : List Str → Nat
  | [] => 0
  | h :: r => (if h = host then 0 else cntTo L h) + sumTo L host r
theorem cnt_of {X : List TSent} {n : TNet} {h : Str} (hX : X = sentTo n h) : X.length = cntTo n.log h ∧ X.length ≤ n.log.length := by
  subst hX; exact ⟨rfl, List.length_filter_le _ _⟩
theorem sumTo_app (L : List TSent) (host d : Str) : ∀ l : List Str, sumTo L host (l ++ [d]) = sumTo L host l + (if d = host then 0 else cntTo L d)
  | [] => by simp [sumTo]
  | x :: l => by simp only [List.cons_append, sumTo, sumTo_app L host d l]; omega
theorem sumTo_step {L : List TSent} {host d : Str} {l : List Str} {k : Nat} (hd : l[k]? = some d) : sumTo L host (l.take (k + 1)) = sumTo L host (l.take k) + (if d = host then 0 else cntTo L d) := by
  rw [List.take_add_one, hd]; exact sumTo_app L host d _
theorem cnt_cons (x : TSent) (L : List TSent) (h : Str) : cntTo (x :: L) h = (if x.to.host = h then 1 else 0) + cntTo L h := by
  unfold cntTo
  rw [List.filter_cons]
  by_cases he : x.to.host = h
  · simp [he]; omega
  · simp [he]
theorem sum_all {host : Str} (hh : host ∈ hosts3) : ∀ {L : List TSent}, (∀ s ∈ L, s.to.host ∈ hosts3) → cntTo L host + sumTo L host hosts3 = L.length
  | [], _ => by simp [hosts3, sumTo, cntTo]
  | x :: L, h => by
    have ih := sum_all hh (L := L) (fun s hs => h s (List.mem_cons_of_mem _ hs))
    have hx := h x (by simp)
    simp only [hosts3, sumTo, cnt_cons, List.length_cons] at ih ⊢
    simp only [hosts3, List.mem_cons, List.not_mem_nil, or_false] at hx hh
    rcases hh with rfl | rfl | rfl <;> rcases hx with e | e | e <;> simp [e] at ih ⊢ <;> omega
theorem any_memA {v : TAddr} {l : List TAddr} : l.any (fun x => decide (v = x)) = decide (v ∈ l) := by
  induction l with
  | nil => simp
  | cons x l ih => simp [ih]
end Go.Sw
