/- Bounds of marks; more plain laws. No program in sight; no conditions. -/
import Derived.Test.YtfjojpmfoingpaaLibJ
set_option linter.all false
namespace Go.Sw

theorem costL_lsz {α : Type} {cost f : α → Nat} {c : Nat} (h : ∀ x, cost x ≤ c * (1 + f x)) (l : List α) : costL cost l ≤ c * lsz f l := costL_le h
theorem costL_mono {α : Type} {cost : α → Nat} : ∀ {l m : List α}, l.Sublist m → costL cost l ≤ costL cost m
  | _, _, .slnil => Nat.le_refl _
  | _, _, .cons x h => by have := costL_mono (cost := cost) h; simp only [costL]; omega
  | _, _, .cons_cons x h => by have := costL_mono (cost := cost) h; simp only [costL]; omega
theorem costL_one {α : Type} (l : List α) : costL (fun _ => 1) l = l.length := by rw [costL_const, Nat.one_mul]

theorem costoPolicy_len (p : TPolicy) : costoPolicy p = p.scripts.length + p.styles.length + p.images.length := by simp only [costoPolicy, costL_one]
theorem costoPolicy_le (p : TPolicy) : costoPolicy p ≤ p.size := by
  rw [costoPolicy_len]; simp only [TPolicy.size, strsz, lsz]; omega
theorem costoPolicy_narrow (a b : TPolicy) : costoPolicy (narrow a b) ≤ costoPolicy a + costoPolicy b := by
  simp only [costoPolicy_len]
  unfold narrow
  split
  · split
    · have h1 := inBoth_len (a := a.scripts) (b := b.scripts); have h2 := inBoth_len (a := a.styles) (b := b.styles); have h3 := inBoth_len (a := a.images) (b := b.images)
      simp only; omega
    · omega
  · omega
theorem costoCache_le (c : TCache) : costoCache c ≤ 10 * c.size := costL_lsz (fun x => by omega) _
theorem costServer_le (s : TServer) : costServer s ≤ 8 * (1 + s.size) := by
  have := costL_lsz (cost := fun _ : TFile => 7) (f := TFile.size) (c := 7) (fun x => by omega) s.files
  simp only [costServer, TServer.size]; omega
theorem costServers_le (l : List TServer) : costL costServer l ≤ 8 * lsz TServer.size l := costL_lsz costServer_le l
theorem costSents_le (l : List TSent) : costL (fun _ => 4) l ≤ 4 * lsz TSent.size l := costL_lsz (fun x => by omega) l
theorem costoNet_le (n : TNet) : costoNet n ≤ 10 * n.size := by
  have h1 := costServers_le n.servers; have h2 := costoCache_le n.cache; have h3 := costSents_le n.log
  simp only [costoNet, TNet.size]; omega

def sentTo (n : TNet) (host : Str) : List TSent := n.log.filter fun s => decide (s.to.host = host)
theorem costSentTo_le (n : TNet) (host : Str) : costL (fun _ => 4) (sentTo n host) ≤ 10 * n.size := by
  have h1 : costL (fun _ => 4) (sentTo n host) ≤ costL (fun _ => 4) n.log := costL_mono List.filter_sublist
  have h3 := costSents_le n.log
  simp only [TNet.size]; omega
theorem filter_yes {α : Type} {p : α → Bool} {l : List α} {k : Nat} {d : α} (hd : l[k]? = some d) (h : p d = true) : (l.take k).filter p ++ [d] = (l.take (k + 1)).filter p := by
  rw [List.take_add_one, hd]; simp [h]
theorem filter_no {α : Type} {p : α → Bool} {l : List α} {k : Nat} {d : α} (hd : l[k]? = some d) (h : ¬ p d = true) : (l.take k).filter p = (l.take (k + 1)).filter p := by
  rw [List.take_add_one, hd]; simp [h]
theorem filter_len {α : Type} {p : α → Bool} {l : List α} {k : Nat} : ((l.take k).filter p).length ≤ l.length := Nat.le_trans (List.length_filter_le _ _) (by simp; omega)

end Go.Sw
