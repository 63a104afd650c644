/- Bounds of marks; more plain laws. No program in sight; no conditions. -/
import Derived.Test.YtdpifpainiiblaaGreatDoorLibJ
set_option linter.all false
namespace Go.Sw

theorem costL_lsz {α : Type} {cost f : α → Nat} {c : Nat} (h : ∀ x, cost x ≤ c * (1 + f x)) (l : List α) : costL cost l ≤ c * lsz f l := costL_le h
theorem costL_mono {α : Type} {cost : α → Nat} : ∀ {l m : List α}, l.Sublist m → costL cost l ≤ costL cost m
  | _, _, .slnil => Nat.le_refl _
  | _, _, .cons x h => by have := costL_mono (cost := cost) h; simp only [costL]; omega
  | _, _, .cons_cons x h => by have := costL_mono (cost := cost) h; simp only [costL]; omega
theorem costL_one {α : Type} (l : List α) : costL (fun _ => 1) l = l.length := by rw [costL_const, Nat.one_mul]

theorem costoPolicy_len (p : TPolicy) : costoPolicy p = p.scripts.length + p.styles.length + p.images.length := by simp only [costoPolicy, costL_one]
theorem costoPolicy_le (p : TPolicy) : costoPolicy p ≤ p.size := by
  rw [costoPolicy_len]; simp only [TPolicy.size, strsz, lsz]; omega
theorem costoPolicy_narrow (a b : TPolicy) : costoPolicy (narrow a b) ≤ costoPolicy a + costoPolicy b := by
  simp only [costoPolicy_len]
  unfold narrow
  split
  · split
    · have h1 := inBoth_len (a := a.scripts) (b := b.scripts); have h2 := inBoth_len (a := a.styles) (b := b.styles); have h3 := inBoth_len (a := a.images) (b := b.images)
      simp only; omega
    · omega
  · omega
theorem costoCache_le (c : TCache) : costoCache c ≤ 10 * c.size := costL_lsz (fun x => by omega) _
theorem costServer_le (s : TServer) : costServer s ≤ 8 * (1 + s.size) := by
  have := costL_lsz (cost := fun _ : TFile => 7) (f := TFile.size) (c := 7) (fun x => by omega) s.files
  simp only [costServer, TServer.size]; omega
theorem costServers_le (l : List TServer) : costL costServer l ≤ 8 * lsz TServer.size l := costL_lsz costServer_le l
theorem costSents_le (l : List TSent) : costL (fun _ => 4) l ≤ 4 * lsz TSent.size l := costL_lsz (fun x => by omega) l
theorem costoNet_le (n : TNet) : costoNet n ≤ 10 * n.size := by
  have h1 := costServers_le n.servers; have h2 := costoCache_le n.cache; have h3 := costSents_le n.log
  simp only [costoNet, TNet.size]; omega

def sentTo (n : TNet) (host : Str) : List TSent := n.log.filter fun s => decide (s.to.host = host)
theorem costSentTo_le (n : TNet) (host : Str) : costL (fun _ => 4) (sentTo n host) ≤ 10 * n.size := by
  have h1 : costL (fun _ => 4) (sentTo n host) ≤ costL (fun _ => 4) n.log := costL_mono List.filter_sublist
  have h3 := costSents_le n.log
  simp only [TNet.size]; omega
theorem filter_yes {α : Type} {p : α → Bool} {l : List α} {k : Nat} {d : α} (hd : l[k]? = some d) (h : p d = true) : (l.take k).filter p ++ [d] = (l.take (k + 1)).filter p := by
  rw [List.take_add_one, hd]; simp [h]
theorem filter_no {α : Type} {p : α → Bool} {l : List α} {k : Nat} {d : α} (hd : l[k]? = some d) (h : ¬ p d = true) : (l.take k).filter p = (l.take (k + 1)).filter p := by
  rw [List.take_add_one, hd]; simp [h]
theorem filter_len {α : Type} {p : α → Bool} {l : List α} {k : Nat} : ((l.take k).filter p).length ≤ l.length := Nat.le_trans (List.length_filter_le _ _) (by simp; omega)

theorem idxF_ge {α : Type} {p : α → Bool} : ∀ {l : List α} {k : Nat}, -1 ≤ idxF p l k
  | [], _ => by simp [idxF]
  | x :: l, k => by
    unfold idxF
    split
    · omega
    · exact idxF_ge
theorem idxF_m1 {α : Type} {p : α → Bool} : ∀ {l : List α} {k : Nat}, idxF p l k = -1 → l.filter (fun x => !p x) = l
  | [], _, _ => rfl
  | x :: l, k, h => by
    unfold idxF at h
    by_cases hp : p x = true
    · rw [if_pos hp] at h; omega
    · rw [if_neg hp] at h
      rw [List.filter_cons, if_pos (by simpa using hp), idxF_m1 h]
theorem idxF_cut {α : Type} {p : α → Bool} : ∀ {l : List α} {k j : Nat}, idxF p l k = ((k + j : Nat) : Int) → (l.take (j + 1)).filter (fun x => !p x) = l.take j
  | [], _, _, h => by simp [idxF] at h; omega
  | x :: l, k, j, h => by
    unfold idxF at h
    by_cases hp : p x = true
    · rw [if_pos hp] at h
      have : j = 0 := by omega
      subst this
      simp [hp]
    · rw [if_neg hp] at h
      have h0 := idxF_ge (p := p) (l := l) (k := k + 1)
      cases j with
      | zero =>
        exfalso
        by_cases hn : idxF p l (k + 1) < 0
        · omega
        · obtain ⟨a, d, ha, _⟩ := idxF_some hn
          omega
      | succ j =>
        have := idxF_cut (l := l) (k := k + 1) (j := j) (by rw [h]; congr 1; omega)
        rw [List.take_succ_cons, List.filter_cons, if_pos (by simpa using hp), this, List.take_succ_cons]
theorem get_of_drop {α : Type} {l m : List α} {k : Nat} {d : α} (h : l.drop k = m.drop k) (hd : m[k]? = some d) : l[k]? = some d := by
  have := congrArg (fun l => l[0]?) h
  simp only [List.getElem?_drop, Nat.add_zero] at this
  rw [this, hd]
theorem take_set_succ {α : Type} {l : List α} {m : Nat} {d : α} (h : m < l.length) : (l.set m d).take (m + 1) = l.take m ++ [d] := by
  rw [List.take_add_one, List.getElem?_set_self h]
  simp [List.take_set_of_le]
theorem drop_next {α : Type} {l m : List α} {k : Nat} (h : l.drop k = m.drop k) : l.drop (k + 1) = m.drop (k + 1) := by
  rw [← List.drop_drop, ← List.drop_drop, h]
def TCache.forget (c : TCache) (top : Str) : TCache := ⟨c.entries.filter fun e => !decide (e.top = top)⟩
theorem costForget_le (c : TCache) (top : Str) : costoCache (c.forget top) ≤ costoCache c := by
  simp only [costoCache, TCache.forget]; exact costL_mono List.filter_sublist

end Go.Sw
