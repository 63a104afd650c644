/- More plain laws: decimal numerals; the shelf's contracts of numbers at own data; a table of the library's kept. General laws; no conditions. -/
import Derived.Test.YtdpifpainiiblaaGreatDoorLibY
import Derived.Lib.ItoaMem
import Derived.Sort.Grow
set_option linter.all false
namespace Go.Sw
open Go Go.RowKit

/-! Numerals. -/
def dig0 (u : Nat) : Str := if u = 0 then [] else Lib.decDigits u
theorem dig0_zero : dig0 0 = [] := rfl
theorem dig0_pos {u : Nat} (h : u ≠ 0) : dig0 u = Lib.decDigits u := by unfold dig0; rw [if_neg h]
theorem dig0_step {u : Nat} (h : u ≠ 0) : dig0 u = dig0 (u / 10) ++ [UInt8.ofNat (48 + u % 10)] := by
  rw [dig0_pos h]
  rw [Lib.decDigits]
  split
  · rename_i h10
    rw [Nat.div_eq_of_lt h10, dig0_zero, Nat.mod_eq_of_lt h10]; rfl
  · rename_i h10
    rw [dig0_pos (show u / 10 ≠ 0 by omega)]
theorem dig0_len (u : Nat) : (dig0 u).length ≤ u / 10 + 1 := by
  induction u using Nat.strongRecOn with
  | _ u ih =>
    by_cases h : u = 0
    · subst h; simp [dig0_zero]
    · rw [dig0_step h]
      have := ih (u / 10) (by omega)
      simp only [List.length_append, List.length_singleton]
      by_cases h10 : u / 10 = 0
      · rw [h10, dig0_zero] at *; simp
      · omega
theorem dig0_ne {u : Nat} (h : u ≠ 0) : 1 ≤ (dig0 u).length := by rw [dig0_step h]; simp
theorem natAbs_tdiv10 (x : Int) : (x.tdiv 10).natAbs = x.natAbs / 10 := by rw [Int.natAbs_tdiv]; rfl
theorem tmod10_abs (x : Int) : (x.tmod 10).natAbs = x.natAbs % 10 := by rw [Int.natAbs_tmod]; rfl
theorem itoa_zero : Lib.itoa 0 = [48] := by
  unfold Lib.itoa; rw [if_neg (by omega)]; rw [Lib.decDigits]; rfl
theorem itoa_pos {n : Int} (h0 : n ≠ 0) (h : ¬ n < 0) : Lib.itoa n = dig0 n.natAbs := by
  unfold Lib.itoa; rw [if_neg h, dig0_pos (by omega), show n.toNat = n.natAbs by omega]
theorem itoa_neg' {n : Int} (h : n < 0) : Lib.itoa n = [45] ++ dig0 n.natAbs := by
  unfold Lib.itoa; rw [if_pos h, dig0_pos (by omega)]; rfl
theorem quo_abs {x : Int} (h1 : -9223372036854775808 ≤ x) (h2 : x ≤ 9223372036854775807) : IntKind.i64.wrap (x.tdiv 10) = x.tdiv 10 := by
  apply wrap_in
  have := natAbs_tdiv10 x
  omega
theorem itoa_len {n : Int} (h : WfI n) : (Lib.itoa n).length ≤ 1000000000000000000 := by
  have h1 := h.lo; have h2 := h.hi
  by_cases h0 : n = 0
  · rw [h0, itoa_zero]; simp
  · by_cases hn : n < 0
    · rw [itoa_neg' hn]
      have := dig0_len n.natAbs
      simp only [List.length_append, List.length_singleton]; omega
    · rw [itoa_pos h0 hn]
      have := dig0_len n.natAbs
      omega

theorem below_grow (w : World) (k : Nat) (os : Array Obj) : Below w.heap.size w (Sort.grow (w.drewN k) os) := by
  refine ⟨rfl, rfl, rfl, ?_, fun b hb => ?_⟩
  · show w.heap.size ≤ (w.heap ++ os).size
    simp
  · show (w.heap ++ os)[b]? = _
    rw [Array.getElem?_append_left hb]

abbrev Tab10 (P : Program) (w : World) : Prop := Lib.TabIs P w "internal/strconv.uint64pow10" .u64 Lib.pow10Tab
theorem tab_below {P : Program} {w w' : World} {name : String} {k : IntKind} {zs : List Int} (hb : Below w.heap.size w w') (h : Lib.TabIs P w name k zs) : Lib.TabIs P w' name k zs := by
  unfold Lib.TabIs World.var? at h ⊢
  cases hg : P.globalNamed name with
  | none => rw [hg] at h; cases h
  | some g =>
    rw [hg] at h
    simp only [Option.bind_some] at h ⊢
    have hlt : g < w.heap.size := by
      rcases Nat.lt_or_ge g w.heap.size with h' | h'
      · exact h'
      · rw [Array.getElem?_eq_none h'] at h; cases h
    rw [hb.block g hlt]; exact h
theorem Sat.tab {P : Program} {w0 w : World} {C : List Chunk} {name : String} {k : IntKind} {zs : List Int} (hs : Sat N0 w0 w C) (h : Lib.TabIs P w0 name k zs) : Lib.TabIs P w name k zs := tab_below hs.below h

theorem itoa_calls {P : Program} {f : FuncId}
    (hS : ∀ (n : Int), -9223372036854775808 ≤ n → n ≤ 9223372036854775807 → ∀ w : World, Lib.TabIs P w "internal/strconv.uint64pow10" .u64 Lib.pow10Tab → Calls P f #[.int .i64 n] w fun e w' => e = .returned (.string ⟨(Lib.itoa n).toArray⟩) ∧ ∃ k os, w' = Sort.grow (w.drewN k) os)
    (n : Int) (w : World) (h : WfI n) (ht : Tab10 P w) : Calls P f [I n].toArray w (RetP w (S (Lib.itoa n))) := by
  refine Calls.mono (hS n h.lo h.hi w ht) ?_
  rintro e w' ⟨rfl, k, os, rfl⟩
  exact ⟨rfl, below_grow w k os⟩

/-! A file put: what the walk meets, and what it comes to. -/
theorem modify_of_get {α : Type} {f : α → α} : ∀ {l : List α} {k : Nat} {d : α}, l[k]? = some d → l.modify k f = l.set k (f d)
  | [], _, _, h => by simp at h
  | y :: l, 0, d, h => by
    obtain rfl : y = d := by simpa using h
    simp
  | y :: l, k + 1, d, h => by
    have := modify_of_get (f := f) (l := l) (k := k) (by simpa using h)
    simp [this]
theorem idxF_mapf {α β : Type} {p : β → Bool} {f : α → β} : ∀ {l : List α} {n : Nat}, idxF p (l.map f) n = idxF (fun x => p (f x)) l n
  | [], _ => rfl
  | x :: l, n => by simp only [List.map_cons, idxF, idxF_mapf (l := l)]
section
variable {L : List TServer} {l1 : List PServer} {a : TAddr} {x : TResponse} {j j2 : Nat} {d u : PServer} {d2 : TFile} {s : TServer} {host path : Str}
theorem put_all (hw : l1.map PServer.lg = withHost L a.host) (hi : hostIx L a.host = j) (hd : l1[j]? = some d) (hu : PServer.lg u = putOn d.lg a.path x) : (l1.set j u).map PServer.lg = putAll L a x := by
  unfold putAll
  rw [← hw, hi, modify_of_get (d := d.lg) (by rw [List.getElem?_map, hd]; rfl), ← hu, List.map_set]
theorem put_is (hall : l1.map PServer.lg = putAll L a x) (hi : hostIx L a.host = j) (hg : l1[j]? = some u) : putIs L a x = (decide (l1.length ≤ 4) && serverOk u.lg) := by
  unfold putIs; rw [← hall, hi, List.length_map, List.getElem?_map, hg]; rfl
theorem putOn_found (hj : idxF (onPath path) s.files 0 = (j2 : Int)) (hd : s.files[j2]? = some d2) : putOn s path x = ⟨s.host, s.files.set j2 ⟨d2.path, x⟩⟩ := by
  unfold putOn putIn
  rw [hj, if_pos (by omega)]
  simp only [Int.toNat_natCast]
  rw [modify_of_get hd]
theorem putOn_new (hj : idxF (onPath path) s.files 0 < 0) : putOn s path x = ⟨s.host, s.files ++ [⟨path, x⟩]⟩ := by
  unfold putOn putIn; rw [if_neg (by omega)]
theorem host_hit (hj : idxF (onHost host) L 0 = (j : Int)) : withHost L host = L ∧ hostIx L host = j := by
  unfold withHost hostIx; rw [hj, if_neg (by omega), if_neg (by omega)]; exact ⟨rfl, by simp⟩
theorem host_new (hj : idxF (onHost host) L 0 < 0) : withHost L host = L ++ [⟨host, []⟩] ∧ hostIx L host = L.length := by
  unfold withHost hostIx; rw [if_pos hj, if_pos hj]; exact ⟨rfl, rfl⟩
theorem idx_host {l : List PServer} : idxF (onHost host) (l.map PServer.lg) 0 = idxF (fun s : PServer => decide (s.host = host)) l 0 := by rw [idxF_mapf]; rfl
theorem putFile_yes (h : putIs L a x = true) : putFile L a x = putAll L a x := by unfold putFile; rw [if_pos h]
theorem putFile_no (h : putIs L a x = false) : putFile L a x = L := by unfold putFile; rw [h]; rfl
end
theorem get_last {α : Type} {l m : List α} {x : α} {n : Nat} (hl : m = l ++ [x]) (hn : l.length = n) : m[n]? = some x := by subst hn; subst hl; simp
theorem get_map {α β : Type} {f : α → β} {l m : List α} {k : Nat} {d : α} (h : m.map f = l.map f) (hd : l[k]? = some d) : ∃ e, m[k]? = some e ∧ f e = f d := by
  have h1 : (m.map f)[k]? = some (f d) := by rw [h, List.getElem?_map, hd]; rfl
  rw [List.getElem?_map, Option.map_eq_some_iff] at h1
  exact h1
theorem srv_pol {s : TServer} (h : s.size ≤ 1048576) : ∀ f ∈ s.files, f.response.policy.length ≤ 1048576 := fun f hf => by
  have := lsum_le (f := TFile.size) hf
  simp only [TServer.size, lsz, TFile.size, TResponse.size] at h this; omega
theorem srvs_pol {L : List TServer} {s : TServer} (h : lsz TServer.size L ≤ 1048576) (hs : s ∈ L) : ∀ f ∈ s.files, f.response.policy.length ≤ 1048576 := by
  have := lsum_le (f := TServer.size) hs
  simp only [lsz] at h
  exact srv_pol (by omega)
theorem putOn_pol {s : TServer} {path : Str} {x : TResponse} (h : ∀ f ∈ s.files, f.response.policy.length ≤ 1048576) (hx : x.policy.length ≤ 1048576) : ∀ f ∈ (putOn s path x).files, f.response.policy.length ≤ 1048576 := fun f hf => by
  unfold putOn putIn at hf
  simp only at hf
  split at hf
  · rename_i hp
    obtain ⟨j, d, hj, hd, _⟩ := idxF_some (p := onPath path) (l := s.files) (k := 0) (show ¬ _ < 0 by omega)
    rw [Nat.zero_add] at hj
    rw [hj, Int.toNat_natCast, modify_of_get hd] at hf
    rcases List.mem_or_eq_of_mem_set hf with h1 | rfl
    · exact h f h1
    · exact hx
  · rcases List.mem_append.1 hf with h1 | h1
    · exact h f h1
    · obtain rfl := List.mem_singleton.1 h1
      exact hx
theorem costL_modify {α : Type} {cost : α → Nat} {f : α → α} {c : Nat} (h : ∀ d, cost (f d) ≤ cost d + c) : ∀ {l : List α} {k : Nat}, costL cost (l.modify k f) ≤ costL cost l + c
  | [], k => by cases k <;> simp [costL]
  | y :: l, 0 => by have := h y; simp only [List.modify_zero_cons, costL]; omega
  | y :: l, k + 1 => by have := costL_modify h (l := l) (k := k); simp only [List.modify_succ_cons, costL]; omega
theorem costPut_le (l : List TServer) (a : TAddr) (x : TResponse) : costL costServer (putFile l a x) ≤ costL costServer l + 8 := by
  unfold putFile
  split
  · unfold putAll
    have h1 : costL costServer (withHost l a.host) ≤ costL costServer l + 1 := by
      unfold withHost
      split
      · rw [costL_append]; simp [costL, costServer]
      · omega
    have h2 := costL_modify (cost := costServer) (f := fun s => putOn s a.path x) (c := 7) (fun d => by
      simp only [costServer, putOn, putIn, costL_const]
      split
      · simp
      · simp only [List.length_append, List.length_singleton]; omega) (l := withHost l a.host) (k := hostIx l a.host)
    omega
  · omega

/-! Digests, responses checked, nets. -/
theorem digestN_wf (s : Str) : WfI (digestN s) := by
  have key : ∀ (l : List Int) (a : Int), 0 ≤ a ∧ a < 2147483647 → 0 ≤ l.foldl hashStep a ∧ l.foldl hashStep a < 2147483647 := by
    intro l
    induction l with
    | nil => intro a h; exact h
    | cons v l ih => intro a h; exact ih _ (hashStep_bd h.1)
  have := key (151 :: bytesInts s) 11 ⟨by decide, by decide⟩
  exact ⟨by show _ ≤ hash (151 :: bytesInts s); unfold hash; omega, by show hash (151 :: bytesInts s) ≤ _; unfold hash; omega⟩
def checkDigest (body value : Str) : Bool := decide (value = []) || decide (value = Lib.itoa (digestN body))
def checkResp (p : TPolicy) (r : TRequest) (x : TResponse) : Int :=
  if checkReq p r ≠ 1 then 2 else if ¬ (x.isv = true ∧ x.status = 200) then 3 else if fitsKind x.kind r.kind = false then 4
  else if r.frm ≠ r.to.host ∧ x.shares = false ∧ (r.kind = 5 ∨ r.digest ≠ []) then 5 else if checkDigest x.body r.digest = false then 6 else 1
theorem checkReq_or (p : TPolicy) (r : TRequest) : checkReq p r = 1 ∨ checkReq p r = 2 := by unfold checkReq; split <;> simp
def netOk (n : TNet) : Bool := serversOk n.servers && (cacheOk n.cache && (decide (n.log.length ≤ 400) && inR n.now 0 999999998000))
def waitNet (n : TNet) (t : Int) : TNet := if (inR t 0 1000 && (netOk n && inR (n.now + t) 0 999999998000)) = true then ⟨n.servers, n.cache, n.log, n.now + t⟩ else n
def keepIs (n : TNet) (top : Str) (a : TAddr) (x : TResponse) : Bool := !(lookIn top a n.now n.cache.entries).2 && (x.isv && decide (x.status = 200))
def keepAnswer (n : TNet) (top : Str) (a : TAddr) (x : TResponse) : TNet := if keepIs n top a x = true then ⟨n.servers, storeEntry n.cache top a x n.now, n.log, n.now⟩ else n
def fetchR (n : TNet) (top : Str) (a : TAddr) : TResponse := if a.is = true then (if (lookIn top a n.now n.cache.entries).2 = true then (lookIn top a n.now n.cache.entries).1 else answerTo n.servers a) else notFound
def logged (n : TNet) (top : Str) (a : TAddr) (guess : Bool) : TNet := if n.log.length < 400 then ⟨n.servers, n.cache, n.log ++ [⟨top, a, guess⟩], n.now⟩ else n
def fetchN (n : TNet) (top : Str) (a : TAddr) (guess : Bool) : TNet :=
  if (a.is && !(lookIn top a n.now n.cache.entries).2) = true then (if guess = true then logged n top a guess else keepAnswer (logged n top a guess) top a (answerTo n.servers a)) else n
theorem costWait_le (n : TNet) (t : Int) : costoNet (waitNet n t) ≤ costoNet n := by unfold waitNet; split <;> simp [costoNet]
theorem costKeep_le (n : TNet) (top : Str) (a : TAddr) (x : TResponse) : costoNet (keepAnswer n top a x) ≤ costoNet n + 20 := by
  unfold keepAnswer
  split
  · have := costStore_le n.cache top a x n.now
    simp only [costoNet]; omega
  · omega
theorem costFetch_le (n : TNet) (top : Str) (a : TAddr) (guess : Bool) : costoNet (fetchN n top a guess) ≤ costoNet n + 24 := by
  have hl : costoNet (logged n top a guess) ≤ costoNet n + 4 := by
    unfold logged
    split
    · simp only [costoNet, costL_const, List.length_append, List.length_singleton]; omega
    · omega
  unfold fetchN
  split
  · split
    · omega
    · have := costKeep_le (logged n top a guess) top a (answerTo n.servers a); omega
  · omega

/-! Nets: what the walks meet. -/
theorem fin2cc {M : Nat → Prop} {P : Program} {fn : Func} {E : Ending → World → Prop} {e : Env} {w w0 : World} {C : List Chunk} {n t u k l b d : Nat} {T TB U UB : TypeId} {cs ds : List Value} (hr : fn.results = #[.cell t T, .cell u U]) (hT : Agg P T k) (hU : Agg P U l) (hv : get? e t = some (bp b 0)) (hv' : get? e u = some (bp d 0)) (hs : Sat M w0 w C) (hm : box b TB cs ∈ C) (hm' : box d UB ds ∈ C) (hk : cs.length = k) (hl : ds.length = l) (h : E (.returned (.tuple #[.agg cs.toArray, .agg ds.toArray])) w) : At n (bodyPost P fn E) .ret e w := fun a ha => by
  have h1 := ha.get t _ hv
  have h2 := ha.get u _ hv'
  refine bodyPost_ret (v := .tuple #[.agg cs.toArray, .agg ds.toArray]) ?_ ha.defers h
  have e1 : (loadVar T ⟨b, 0, none⟩).run P w = .ok (.agg cs.toArray) w := hT.load hk (hs.box_cells hm)
  have e2 : (loadVar U ⟨d, 0, none⟩).run P w = .ok (.agg ds.toArray) w := hU.load hl (hs.box_cells hm')
  have h1' : a.tmps[t]?.getD undef = bp b 0 := by simpa using h1
  have h2' : a.tmps[u]?.getD undef = bp d 0 := by simpa using h2
  simp [results, hr, h1', h2', asAddr, e1, e2]
theorem ans_ok {w : World} {l : Sl PServer} (h : Ph.ok w l) (a : TAddr) : Ph.ok w (answerTo (l.l.map PServer.lg) a) := by
  have hn : Ph.ok w notFound := ⟨⟨by decide, by decide⟩, ⟨by decide, by decide⟩, Nat.zero_le _, ⟨by decide, by decide⟩, trivial, Nat.zero_le _⟩
  unfold answerTo
  rw [find_map]
  cases hf : l.l.find? (fun x => decide ((PServer.lg x).host = a.host)) with
  | none => exact hn
  | some s =>
    simp only [Option.map_some]
    have hs : Ph.ok w s := Sl.Ok.elems h s (List.mem_of_find?_eq_some hf)
    unfold TServer.fileOf
    cases hg : (PServer.lg s).files.find? (fun f => decide (f.path = a.path)) with
    | none => exact hn
    | some f =>
      have : Ph.ok w f := Sl.Ok.elems hs.files f (List.mem_of_find?_eq_some hg)
      exact this.response
theorem ans_pol {L : List TServer} (h : lsz TServer.size L ≤ 1048576) (a : TAddr) : (answerTo L a).policy.length ≤ 1048576 := by
  unfold answerTo
  cases hf : L.find? (fun s => decide (s.host = a.host)) with
  | none => exact Nat.zero_le _
  | some s =>
    have hs := srvs_pol h (List.mem_of_find?_eq_some hf)
    simp only
    unfold TServer.fileOf
    cases hg : s.files.find? (fun f => decide (f.path = a.path)) with
    | none => exact Nat.zero_le _
    | some f => exact hs f (List.mem_of_find?_eq_some hg)
theorem waitNet_W {n : TNet} {t : Int} (B : Bool) (h : (inR t 0 1000 && (netOk n && netOk ⟨n.servers, n.cache, n.log, IntKind.i64.wrap (n.now + t)⟩)) = B) : waitNet n t = if B = true then ⟨n.servers, n.cache, n.log, IntKind.i64.wrap (n.now + t)⟩ else n := by
  subst h
  unfold waitNet
  cases h1 : inR t 0 1000 with
  | false => simp
  | true =>
    cases h2 : netOk n with
    | false => simp
    | true =>
      rw [inR_true] at h1
      have h3 := h2
      simp only [netOk, Bool.and_eq_true, inR_true] at h3
      have hw : IntKind.i64.wrap (n.now + t) = n.now + t := wrap_in (by omega)
      rw [hw]
      have e : netOk ⟨n.servers, n.cache, n.log, n.now + t⟩ = inR (n.now + t) 0 999999998000 := by
        simp only [netOk, Bool.and_eq_true] at h2 ⊢
        simp [h2.1, h2.2.1, h2.2.2.1]
      rw [e]
theorem keep_yes {n : TNet} {top : Str} {a : TAddr} {x : TResponse} (h : keepIs n top a x = true) : keepAnswer n top a x = ⟨n.servers, storeEntry n.cache top a x n.now, n.log, n.now⟩ := by unfold keepAnswer; rw [if_pos h]
theorem keep_no {n : TNet} {top : Str} {a : TAddr} {x : TResponse} (h : keepIs n top a x = false) : keepAnswer n top a x = n := by unfold keepAnswer; rw [h]; rfl

end Go.Sw
