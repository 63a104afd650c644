/- Walks: what each function of the program returns, for every input. Printed by gen.py. -/
import Derived.Test.YtppjnohcfljmoaaGreatDoorW1
set_option linter.all false
namespace Go.Sw
open Go Go.RowKit Go.Proofs

theorem c_impl_StoreEntry (c : PCache) (top : Str) (a : TAddr) (y : TResponse) (now : Int) (w : World) (h_c : Ph.ok w c) (h_top : Ph.ok w top) (h_a : Ph.ok w a) (h_y : Ph.ok w y) (h_now : Ph.ok w now) (hbc : c.lg.size ≤ 1048576) (hpy : y.policy.length ≤ 1048576) (hm_ : ∃ m, w.cell? ⟨1, 0, none⟩ = some (.int .i64 m)) : Calls Tryz.prog 130 [.agg #[Sl.v c.entries], S top, .agg #[S a.host, S a.path], .agg #[I y.status, I y.kind, S y.body, I y.age, Bo y.shares, S y.policy], I now].toArray w (Ret w (fun v w' => ∃ x : PCache, v = .agg (Ph.enc x).toArray ∧ x.lg = storeEntry c.lg top a y now ∧ Fresh w x w')) := by
 refine enterN 62 Tryz.func130 rfl rfl rfl ?_
 have hs := Sat.start w
 refine WC.seq ?_
 refine WL.r Q0 (Yr.box hs Q0 Q0) ?_
 clear hs; rintro _ w ⟨b1, rfl, hb, hs⟩; clear hb
 refine WL.r Q0 (Yr.box hs Q0 Q0) ?_
 clear hs; rintro _ w ⟨b2, rfl, hb, hs⟩; clear hb
 refine WL.r Q0 (Yr.box hs Q0 Q0) ?_
 clear hs; rintro _ w ⟨b3, rfl, hb, hs⟩; clear hb
 refine WL.r Q0 (Yr.alloc hs zt36) ?_
 clear hs; rintro _ w ⟨b4, rfl, hb, hs⟩; clear hb
 refine WL.next ?_
 refine WC.seq ?_
 refine WL.p Q0 (Yl.loadAB agg36 Q0 hs Q1 Q0 Q0) ?_
 refine WL.call hs Q0 (Yc.func Q0 fn142) (c_impl_copyCache _ _ (Ph.old h_c hs) Q10) ?_
 have hs0 := hs; clear hs; intro v w hb hR hs; clear hs
 obtain ⟨x5, rfl, hx5, hf5⟩ := hR
 obtain ⟨F5, hs⟩ := hf5.sat hs0 hb; clear hs0 hf5
 refine WL.r Q0 (Yr.alloc hs zt36) ?_
 clear hs; rintro _ w ⟨b6, rfl, hb, hs⟩; clear hb
 refine WL.s (Yr.storeB hs Q0 Q0 Q0 Q5 Q3 Q0 (by exact szf36)) ?_
 clear hs; rintro _ w hs
 refine WL.next ?_
 refine WC.seq ?_
 refine Qm ?_
 refine WL.p Q0 (Yl.loadAB agg45 Q0 hs Q1 Q0 Q0) ?_
 refine WL.p Q0 (Yl.loadAB agg41 Q0 hs Q1 Q0 Q0) ?_
 refine Qm ?_
 refine WL.p Q0 (Yl.fieldAddr fa41_3 Q0) ?_
 refine WL.p Q0 (Yl.loadB sca3 Q0 hs Q1 Q0) ?_
 refine WL.p Q0 (Yl.addw Q0 Q0) ?_
 refine WL.p Q0 (Yl.build bt180 Q0 Q4) ?_
 refine WL.r Q0 (Yr.alloc hs zt180) ?_
 clear hs; rintro _ w ⟨b7, rfl, hb, hs⟩; clear hb
 refine WL.s (Yr.storeB hs Q0 Q0 Q0 Q5 Q3 Q0 (by exact szf180)) ?_
 clear hs; rintro _ w hs
 refine WL.next ?_
 refine WC.seq' ?_
 refine WC.seq ?_
 refine WL.p Q0 (Yl.loadAB agg36 Q0 hs Q1 Q0 Q0) ?_
 refine Qm ?_
 refine WL.p Q0 (Yl.loadAB agg45 Q0 hs Q1 Q0 Q0) ?_
 refine WL.callp hs Q0 (Yc.func Q0 fn157) (c_impl_entryAt _ _ _ _ (Ph.old h_c hs)) ?_
 clear hs; intro w hs
 refine Qa ?_
 refine WL.next ?_
 refine WC.seq ?_
 refine Qm ?_
 refine WL.p Q0 (Yl.geq Q0 Q0) ?_
 refine WL.next ?_
 refine WC.condS Q0 (fun h1 => ?_) (fun h1 => ?_)
 ·
  replace h1 := of_decide_eq_true h1
  obtain ⟨j, d, hj, hd, hf⟩ := idxF_some (p := atF top a) (l := c.entries.l) (k := 0) (show ¬ idxF (atF top a) c.entries.l 0 < 0 from Int.not_lt.2 h1)
  rw [Nat.zero_add] at hj
  have hxe : x5.entries.l = c.entries.l := congrArg TCache.entries hx5
  have hdx : x5.entries.l[j]? = some d := by rw [hxe]; exact hd
  have hklt : j < x5.entries.l.length := (List.getElem?_eq_some_iff.1 hdx).1
  refine WC.region ?_
  refine WL.p Q0 (Yl.fieldAddr fa36_0 Q0) ?_
  refine WL.p Q0 (Yl.loadB sca34 Q0 hs Q1 Q0) ?_
  refine Qm ?_
  refine WL.p Q0 (Yl.loadAB agg180 Q0 hs Q1 Q0 Q0) ?_
  refine WL.p Q0 (Yl.indexAddr slt34 Q0 Q0 (hs.okow (x := x5) (F := F5) Q1).entries (by exact hj) (hdx)) ?_
  obtain ⟨K8, hfl8, hs⟩ := PCache.split (hs.sel (D := [ow x5 F5]) Q2)
  try simp only [List.cons_append, List.nil_append] at hs
  refine WL.s (Yr.storeE (u := (newEntryW top a y now)) (k := j) (hs.flat (x := ((newEntryW top a y now) : TEntry)) (by exact ⟨h_top, Flat.any h_a, Flat.any h_y, (show WfI _ from wfI_wrap _)⟩)) Q2 Q0 Q0 Q0 (by exact hklt) ⟨_, by rfl, by rfl⟩ szf180) ?_
  clear hs; rintro _ w ⟨F8, hs⟩
  obtain ⟨s8, hv8, hl8, hs⟩ := restore hs
  replace hs := PCache.join ⟨s8⟩ (hs.sel (D := [ow s8 F8]) Q2)
  try simp only [List.cons_append, List.nil_append] at hs
  have he8 : Ph.enc (⟨s8⟩ : PCache) = Ph.enc x5 := by show [s8.v] = [x5.entries.v]; rw [hv8]
  refine WL.nil ?_
  refine At.then_ ?_
  refine WC.seq' ?_
  refine WC.seq ?_
  refine WL.p Q0 (Yl.fieldAddr fa41_3 Q0) ?_
  refine WL.p Q0 (Yl.loadB sca3 Q0 hs Q1 Q0) ?_
  refine WL.p Q0 (Yl.eqi Q0 Q0) ?_
  refine Qm ?_
  refine WL.split (d := 44) Q0 (fun h2 => ?_) (fun h2 => ?_)
  ·
   replace h2 := of_decide_eq_true h2
   refine WL.skip (d := 44) Q0 Q0 Q0 Q0 ?_
   refine WL.skip (d := 44) Q0 Q0 Q0 Q0 ?_
   refine WL.skip (d := 44) Q0 Q0 Q0 Q0 ?_
   refine WL.p Q0 (Yl.pickT Q0 Q0) ?_
   refine Qm ?_
   refine WL.skip (d := 49) Q0 Q0 Q0 Q0 ?_
   refine WL.skip (d := 49) Q0 Q0 Q0 Q0 ?_
   refine WL.skip (d := 49) Q0 Q0 Q0 Q0 ?_
   refine WL.p Q0 (Yl.pickT Q0 Q0) ?_
   refine Qm ?_
   refine WL.skip (d := 54) Q0 Q0 Q0 Q0 ?_
   refine WL.skip (d := 54) Q0 Q0 Q0 Q0 ?_
   refine WL.skip (d := 54) Q0 Q0 Q0 Q0 ?_
   refine WL.p Q0 (Yl.pickT Q0 Q0) ?_
   refine WL.next ?_
   refine WC.condT Q0 ?_
   refine WC.seq ?_
   refine WL.p Q0 (Yl.loadAB agg36 Q0 hs Q1 Q0 Q0) ?_
   refine WL.call hs Q0 (Yc.func Q0 fn142) (c_impl_copyCache _ _ (Ph.old h_c hs) Q10) ?_
   have hs0 := hs; clear hs; intro v w hb hR hs; clear hs
   obtain ⟨x9, rfl, hx9, hf9⟩ := hR
   obtain ⟨F9, hs⟩ := hf9.sat hs0 hb; clear hs0 hf9
   refine WL.s (Yr.storeB hs Q0 Q0 Q0 Q5 Q3 Q0 (by exact szf36)) ?_
   clear hs; rintro _ w hs
   refine WL.next ?_
   refine WC.ret ?_
   refine At.thenret ?_
   refine fin1c rfl agg36 Q0 hs Q1 Q0 ?_
   refine Ret.mk hs ?_
   try rw [hpe] at h2
   have hb9 : storeIs c.lg top a y now = false := by
    clear hs
    cases h9 : storeIs c.lg top a y now with
    | false => rfl
    | true =>
     exfalso
     have h8 := storeIs_isv h9
     rw [storeIs_W] at h9
     try simp only [← inR_true] at *
     try simp only [← inR_false] at *
     simp_all [storeIs]
   exact ⟨x9, rfl, hx9.trans (storeEntry_no hb9).symm, hs.fresh Q1⟩
  ·
   replace h2 := of_decide_eq_false h2
   refine WL.run (d := 44) Q0 Q0 ?_
   refine Qm ?_
   refine WL.run (d := 44) Q0 Q0 ?_
   refine WL.callp hs Q0 (Yc.func Q0 fn90) (c_impl_InRange _ _ _ _) ?_
   clear hs; intro w hs
   refine WL.run (d := 44) Q0 Q0 ?_
   refine WL.p Q0 (Yl.not Q0) ?_
   refine WL.p Q0 (Yl.pickF Q0 Q0) ?_
   refine Qm ?_
   refine WL.split (d := 49) Q0 (fun h3 => ?_) (fun h3 => ?_)
   ·
    replace h3 := not_eq_true h3
    replace h3 := inR_false.1 h3
    refine WL.skip (d := 49) Q0 Q0 Q0 Q0 ?_
    refine WL.skip (d := 49) Q0 Q0 Q0 Q0 ?_
    refine WL.skip (d := 49) Q0 Q0 Q0 Q0 ?_
    refine WL.p Q0 (Yl.pickT Q0 Q0) ?_
    refine Qm ?_
    refine WL.skip (d := 54) Q0 Q0 Q0 Q0 ?_
    refine WL.skip (d := 54) Q0 Q0 Q0 Q0 ?_
    refine WL.skip (d := 54) Q0 Q0 Q0 Q0 ?_
    refine WL.p Q0 (Yl.pickT Q0 Q0) ?_
    refine WL.next ?_
    refine WC.condT Q0 ?_
    refine WC.seq ?_
    refine WL.p Q0 (Yl.loadAB agg36 Q0 hs Q1 Q0 Q0) ?_
    refine WL.call hs Q0 (Yc.func Q0 fn142) (c_impl_copyCache _ _ (Ph.old h_c hs) Q10) ?_
    have hs0 := hs; clear hs; intro v w hb hR hs; clear hs
    obtain ⟨x10, rfl, hx10, hf10⟩ := hR
    obtain ⟨F10, hs⟩ := hf10.sat hs0 hb; clear hs0 hf10
    refine WL.s (Yr.storeB hs Q0 Q0 Q0 Q5 Q3 Q0 (by exact szf36)) ?_
    clear hs; rintro _ w hs
    refine WL.next ?_
    refine WC.ret ?_
    refine At.thenret ?_
    refine fin1c rfl agg36 Q0 hs Q1 Q0 ?_
    refine Ret.mk hs ?_
    try rw [hpe] at h3
    have hb9 : storeIs c.lg top a y now = false := by
     clear hs
     cases h9 : storeIs c.lg top a y now with
     | false => rfl
     | true =>
      exfalso
      have h8 := storeIs_isv h9
      rw [storeIs_W] at h9
      try simp only [← inR_true] at *
      try simp only [← inR_false] at *
      simp_all [storeIs]
    exact ⟨x10, rfl, hx10.trans (storeEntry_no hb9).symm, hs.fresh Q1⟩
   ·
    replace h3 := not_eq_false h3
    replace h3 := inR_true.1 h3
    refine WL.run (d := 49) Q0 Q0 ?_
    refine WL.p Q0 (Yl.loadAB agg36 Q0 hs Q1 Q0 Q0) ?_
    refine WL.run (d := 49) Q0 Q0 ?_
    refine WL.callp hs Q0 (Yc.func Q0 fn89) (c_impl_IsCache _ _ (Ph.old h_c hs) (by exact cache_pol hbc) (by first | assumption | exact Sat.cellm hs (by assumption))) ?_
    clear hs; intro w hs
    refine WL.run (d := 49) Q0 Q0 ?_
    refine WL.p Q0 (Yl.not Q0) ?_
    refine WL.p Q0 (Yl.pickF Q0 Q0) ?_
    refine Qm ?_
    refine WL.split (d := 54) Q0 (fun h4 => ?_) (fun h4 => ?_)
    ·
     replace h4 := not_eq_true h4
     refine WL.skip (d := 54) Q0 Q0 Q0 Q0 ?_
     refine WL.skip (d := 54) Q0 Q0 Q0 Q0 ?_
     refine WL.skip (d := 54) Q0 Q0 Q0 Q0 ?_
     refine WL.p Q0 (Yl.pickT Q0 Q0) ?_
     refine WL.next ?_
     refine WC.condT Q0 ?_
     refine WC.seq ?_
     refine WL.p Q0 (Yl.loadAB agg36 Q0 hs Q1 Q0 Q0) ?_
     refine WL.call hs Q0 (Yc.func Q0 fn142) (c_impl_copyCache _ _ (Ph.old h_c hs) Q10) ?_
     have hs0 := hs; clear hs; intro v w hb hR hs; clear hs
     obtain ⟨x11, rfl, hx11, hf11⟩ := hR
     obtain ⟨F11, hs⟩ := hf11.sat hs0 hb; clear hs0 hf11
     refine WL.s (Yr.storeB hs Q0 Q0 Q0 Q5 Q3 Q0 (by exact szf36)) ?_
     clear hs; rintro _ w hs
     refine WL.next ?_
     refine WC.ret ?_
     refine At.thenret ?_
     refine fin1c rfl agg36 Q0 hs Q1 Q0 ?_
     refine Ret.mk hs ?_
     try rw [hpe] at h4
     have hb9 : storeIs c.lg top a y now = false := by
      clear hs
      cases h9 : storeIs c.lg top a y now with
      | false => rfl
      | true =>
       exfalso
       have h8 := storeIs_isv h9
       rw [storeIs_W] at h9
       try simp only [← inR_true] at *
       try simp only [← inR_false] at *
       simp_all [storeIs]
     exact ⟨x11, rfl, hx11.trans (storeEntry_no hb9).symm, hs.fresh Q1⟩
    ·
     replace h4 := not_eq_false h4
     refine WL.run (d := 54) Q0 Q0 ?_
     refine WL.p Q0 (Yl.loadAB agg36 Q0 hs Q1 Q0 Q0) ?_
     refine WL.run (d := 54) Q0 Q0 ?_
     have hpe : PCache.lg (⟨s8⟩ : PCache) = putEntry c.lg top a (newEntryW top a y now) := by
      rw [putEntry_set (c := c.lg) hj]
      simp only [PCache.lg, hl8, hxe]
     refine WL.callp hs Q0 (Yc.func Q0 fn89) (calls_conv (congrArg (fun z => ([z] : List Value).toArray) (show (.agg #[Sl.v (⟨s8⟩ : PCache).entries] : Value) = .agg #[Sl.v x5.entries] from congrArg (fun l => Value.agg l.toArray) he8)) (c_impl_IsCache (⟨s8⟩ : PCache) _ (hs.okow (x := (⟨s8⟩ : PCache)) (F := F8) Q1) (by show ∀ e ∈ (PCache.lg _).entries, _; rw [hpe]; exact put_pol hbc hpy) (by first | assumption | exact Sat.cellm hs (by assumption)))) ?_
     clear hs; intro w hs
     refine WL.run (d := 54) Q0 Q0 ?_
     refine WL.p Q0 (Yl.not Q0) ?_
     refine WL.p Q0 (Yl.pickF Q0 Q0) ?_
     refine WL.next ?_
     refine WC.condS Q0 (fun h5 => ?_) (fun h5 => ?_)
     ·
      replace h5 := not_eq_true h5
      refine WC.seq ?_
      refine WL.p Q0 (Yl.loadAB agg36 Q0 hs Q1 Q0 Q0) ?_
      refine WL.call hs Q0 (Yc.func Q0 fn142) (c_impl_copyCache _ _ (Ph.old h_c hs) Q10) ?_
      have hs0 := hs; clear hs; intro v w hb hR hs; clear hs
      obtain ⟨x12, rfl, hx12, hf12⟩ := hR
      obtain ⟨F12, hs⟩ := hf12.sat hs0 hb; clear hs0 hf12
      refine WL.s (Yr.storeB hs Q0 Q0 Q0 Q5 Q3 Q0 (by exact szf36)) ?_
      clear hs; rintro _ w hs
      refine WL.next ?_
      refine WC.ret ?_
      refine At.thenret ?_
      refine fin1c rfl agg36 Q0 hs Q1 Q0 ?_
      refine Ret.mk hs ?_
      try rw [hpe] at h5
      have hb9 : storeIs c.lg top a y now = false := by
       clear hs
       cases h9 : storeIs c.lg top a y now with
       | false => rfl
       | true =>
        exfalso
        have h8 := storeIs_isv h9
        rw [storeIs_W] at h9
        try simp only [← inR_true] at *
        try simp only [← inR_false] at *
        simp_all [storeIs]
      exact ⟨x12, rfl, hx12.trans (storeEntry_no hb9).symm, hs.fresh Q1⟩
     ·
      replace h5 := not_eq_false h5
      refine WC.skipn ?_
      refine WC.seq ?_
      refine WL.p Q0 (Yl.loadAB agg36 Q0 hs Q1 Q0 Q0) ?_
      refine WL.s (Yr.storeB hs Q0 Q0 Q0 Q5 Q3 Q0 (by exact szf36)) ?_
      clear hs; rintro _ w hs
      refine WL.next ?_
      refine WC.ret ?_
      refine fin1c rfl agg36 Q0 hs Q1 Q0 ?_
      refine Ret.mk hs ?_
      try rw [hpe] at h5
      have hb9 : storeIs c.lg top a y now = true := by
       clear hs
       try simp only [← inR_true] at *
       try simp only [← inR_false] at *
       rw [storeIs_W]
       simp_all [storeIs]
      exact ⟨(⟨s8⟩ : PCache), by rw [he8]; try rfl, hpe.trans (storeEntry_yesW hb9).symm, hs.fresh Q1⟩
 ·
  replace h1 := of_decide_eq_false h1
  refine WC.region ?_
  refine WL.p Q0 (Yl.fieldAddr fa36_0 Q0) ?_
  refine WL.p Q0 (Yl.loadB sca34 Q0 hs Q1 Q0) ?_
  refine WL.p Q0 (Yl.loadAB agg180 Q0 hs Q1 Q0 Q0) ?_
  refine WL.r Q0 (Yr.buildSlice hs sll34 Q0 Q0 Q0 Q4 Q0) ?_
  clear hs; rintro _ w ⟨b13, rfl, hb, hs⟩; clear hb
  obtain ⟨K14_0, hfl14, hs⟩ := PCache.split (hs.sel (D := [ow x5 F5]) Q2)
  try simp only [List.cons_append, List.nil_append] at hs
  refine WL.r Q0 (Yr.append (s := x5.entries) (F := K14_0) hs elt34 Q2 Q0 Q0 rfl (xs := [(newEntryW top a y now)]) (hs.box_cells Q1) (by intro x hx; obtain rfl := List.mem_singleton.1 hx; exact ⟨h_top, Flat.any h_a, Flat.any h_y, (show WfI _ from wfI_wrap _)⟩) (by have hxe9 : x5.entries.l = c.entries.l := congrArg TCache.entries hx5; rw [hxe9]; simp only [TCache.size, lsz] at hbc; simp; unfold maxLen; omega) (by have hxe9 : x5.entries.l = c.entries.l := congrArg TCache.entries hx5; rw [hxe9]; simp only [TCache.size, lsz] at hbc; simp; omega)) ?_
  clear hs; rintro _ w ⟨s15, F15, rfl, hl15, hs⟩
  refine WL.p Q0 (Yl.fieldAddr fa36_0 Q0) ?_
  refine WL.s (Yr.storeB hs Q0 Q0 Q0 Q5 Q3 Q0 (by exact szf34)) ?_
  clear hs; rintro _ w hs
  refine WL.nil ?_
  refine At.then_ ?_
  refine WC.seq' ?_
  refine WC.seq ?_
  refine WL.p Q0 (Yl.fieldAddr fa41_3 Q0) ?_
  refine WL.p Q0 (Yl.loadB sca3 Q0 hs Q1 Q0) ?_
  refine WL.p Q0 (Yl.eqi Q0 Q0) ?_
  refine Qm ?_
  refine WL.split (d := 44) Q0 (fun h2 => ?_) (fun h2 => ?_)
  ·
   replace h2 := of_decide_eq_true h2
   refine WL.skip (d := 44) Q0 Q0 Q0 Q0 ?_
   refine WL.skip (d := 44) Q0 Q0 Q0 Q0 ?_
   refine WL.skip (d := 44) Q0 Q0 Q0 Q0 ?_
   refine WL.p Q0 (Yl.pickT Q0 Q0) ?_
   refine Qm ?_
   refine WL.skip (d := 49) Q0 Q0 Q0 Q0 ?_
   refine WL.skip (d := 49) Q0 Q0 Q0 Q0 ?_
   refine WL.skip (d := 49) Q0 Q0 Q0 Q0 ?_
   refine WL.p Q0 (Yl.pickT Q0 Q0) ?_
   refine Qm ?_
   refine WL.skip (d := 54) Q0 Q0 Q0 Q0 ?_
   refine WL.skip (d := 54) Q0 Q0 Q0 Q0 ?_
   refine WL.skip (d := 54) Q0 Q0 Q0 Q0 ?_
   refine WL.p Q0 (Yl.pickT Q0 Q0) ?_
   refine WL.next ?_
   refine WC.condT Q0 ?_
   refine WC.seq ?_
   refine WL.p Q0 (Yl.loadAB agg36 Q0 hs Q1 Q0 Q0) ?_
   refine WL.call hs Q0 (Yc.func Q0 fn142) (c_impl_copyCache _ _ (Ph.old h_c hs) Q10) ?_
   have hs0 := hs; clear hs; intro v w hb hR hs; clear hs
   obtain ⟨x16, rfl, hx16, hf16⟩ := hR
   obtain ⟨F16, hs⟩ := hf16.sat hs0 hb; clear hs0 hf16
   refine WL.s (Yr.storeB hs Q0 Q0 Q0 Q5 Q3 Q0 (by exact szf36)) ?_
   clear hs; rintro _ w hs
   refine WL.next ?_
   refine WC.ret ?_
   refine At.thenret ?_
   refine fin1c rfl agg36 Q0 hs Q1 Q0 ?_
   refine Ret.mk hs ?_
   try rw [hpe] at h2
   have hb9 : storeIs c.lg top a y now = false := by
    clear hs
    cases h9 : storeIs c.lg top a y now with
    | false => rfl
    | true =>
     exfalso
     have h8 := storeIs_isv h9
     rw [storeIs_W] at h9
     try simp only [← inR_true] at *
     try simp only [← inR_false] at *
     simp_all [storeIs]
   exact ⟨x16, rfl, hx16.trans (storeEntry_no hb9).symm, hs.fresh Q1⟩
  ·
   replace h2 := of_decide_eq_false h2
   refine WL.run (d := 44) Q0 Q0 ?_
   refine Qm ?_
   refine WL.run (d := 44) Q0 Q0 ?_
   refine WL.callp hs Q0 (Yc.func Q0 fn90) (c_impl_InRange _ _ _ _) ?_
   clear hs; intro w hs
   refine WL.run (d := 44) Q0 Q0 ?_
   refine WL.p Q0 (Yl.not Q0) ?_
   refine WL.p Q0 (Yl.pickF Q0 Q0) ?_
   refine Qm ?_
   refine WL.split (d := 49) Q0 (fun h3 => ?_) (fun h3 => ?_)
   ·
    replace h3 := not_eq_true h3
    replace h3 := inR_false.1 h3
    refine WL.skip (d := 49) Q0 Q0 Q0 Q0 ?_
    refine WL.skip (d := 49) Q0 Q0 Q0 Q0 ?_
    refine WL.skip (d := 49) Q0 Q0 Q0 Q0 ?_
    refine WL.p Q0 (Yl.pickT Q0 Q0) ?_
    refine Qm ?_
    refine WL.skip (d := 54) Q0 Q0 Q0 Q0 ?_
    refine WL.skip (d := 54) Q0 Q0 Q0 Q0 ?_
    refine WL.skip (d := 54) Q0 Q0 Q0 Q0 ?_
    refine WL.p Q0 (Yl.pickT Q0 Q0) ?_
    refine WL.next ?_
    refine WC.condT Q0 ?_
    refine WC.seq ?_
    refine WL.p Q0 (Yl.loadAB agg36 Q0 hs Q1 Q0 Q0) ?_
    refine WL.call hs Q0 (Yc.func Q0 fn142) (c_impl_copyCache _ _ (Ph.old h_c hs) Q10) ?_
    have hs0 := hs; clear hs; intro v w hb hR hs; clear hs
    obtain ⟨x17, rfl, hx17, hf17⟩ := hR
    obtain ⟨F17, hs⟩ := hf17.sat hs0 hb; clear hs0 hf17
    refine WL.s (Yr.storeB hs Q0 Q0 Q0 Q5 Q3 Q0 (by exact szf36)) ?_
    clear hs; rintro _ w hs
    refine WL.next ?_
    refine WC.ret ?_
    refine At.thenret ?_
    refine fin1c rfl agg36 Q0 hs Q1 Q0 ?_
    refine Ret.mk hs ?_
    try rw [hpe] at h3
    have hb9 : storeIs c.lg top a y now = false := by
     clear hs
     cases h9 : storeIs c.lg top a y now with
     | false => rfl
     | true =>
      exfalso
      have h8 := storeIs_isv h9
      rw [storeIs_W] at h9
      try simp only [← inR_true] at *
      try simp only [← inR_false] at *
      simp_all [storeIs]
    exact ⟨x17, rfl, hx17.trans (storeEntry_no hb9).symm, hs.fresh Q1⟩
   ·
    replace h3 := not_eq_false h3
    replace h3 := inR_true.1 h3
    refine WL.run (d := 49) Q0 Q0 ?_
    refine WL.p Q0 (Yl.loadAB agg36 Q0 hs Q1 Q0 Q0) ?_
    refine WL.run (d := 49) Q0 Q0 ?_
    refine WL.callp hs Q0 (Yc.func Q0 fn89) (c_impl_IsCache _ _ (Ph.old h_c hs) (by exact cache_pol hbc) (by first | assumption | exact Sat.cellm hs (by assumption))) ?_
    clear hs; intro w hs
    refine WL.run (d := 49) Q0 Q0 ?_
    refine WL.p Q0 (Yl.not Q0) ?_
    refine WL.p Q0 (Yl.pickF Q0 Q0) ?_
    refine Qm ?_
    refine WL.split (d := 54) Q0 (fun h4 => ?_) (fun h4 => ?_)
    ·
     replace h4 := not_eq_true h4
     refine WL.skip (d := 54) Q0 Q0 Q0 Q0 ?_
     refine WL.skip (d := 54) Q0 Q0 Q0 Q0 ?_
     refine WL.skip (d := 54) Q0 Q0 Q0 Q0 ?_
     refine WL.p Q0 (Yl.pickT Q0 Q0) ?_
     refine WL.next ?_
     refine WC.condT Q0 ?_
     refine WC.seq ?_
     refine WL.p Q0 (Yl.loadAB agg36 Q0 hs Q1 Q0 Q0) ?_
     refine WL.call hs Q0 (Yc.func Q0 fn142) (c_impl_copyCache _ _ (Ph.old h_c hs) Q10) ?_
     have hs0 := hs; clear hs; intro v w hb hR hs; clear hs
     obtain ⟨x18, rfl, hx18, hf18⟩ := hR
     obtain ⟨F18, hs⟩ := hf18.sat hs0 hb; clear hs0 hf18
     refine WL.s (Yr.storeB hs Q0 Q0 Q0 Q5 Q3 Q0 (by exact szf36)) ?_
     clear hs; rintro _ w hs
     refine WL.next ?_
     refine WC.ret ?_
     refine At.thenret ?_
     refine fin1c rfl agg36 Q0 hs Q1 Q0 ?_
     refine Ret.mk hs ?_
     try rw [hpe] at h4
     have hb9 : storeIs c.lg top a y now = false := by
      clear hs
      cases h9 : storeIs c.lg top a y now with
      | false => rfl
      | true =>
       exfalso
       have h8 := storeIs_isv h9
       rw [storeIs_W] at h9
       try simp only [← inR_true] at *
       try simp only [← inR_false] at *
       simp_all [storeIs]
     exact ⟨x18, rfl, hx18.trans (storeEntry_no hb9).symm, hs.fresh Q1⟩
    ·
     replace h4 := not_eq_false h4
     refine WL.run (d := 54) Q0 Q0 ?_
     refine WL.p Q0 (Yl.loadAB agg36 Q0 hs Q1 Q0 Q0) ?_
     refine WL.run (d := 54) Q0 Q0 ?_
     have hxe : x5.entries.l = c.entries.l := congrArg TCache.entries hx5
     have hpe : PCache.lg ⟨s15⟩ = putEntry c.lg top a (newEntryW top a y now) := by
      rw [putEntry_app (c := c.lg) (Int.not_le.1 h1)]
      simp only [PCache.lg, hl15, hxe]
     refine WL.callp hs Q0 (Yc.func Q0 fn89) (c_impl_IsCache (⟨s15⟩ : PCache) _ ⟨(hs.okow (x := s15) (F := F15) Q1)⟩ (by show ∀ e ∈ (PCache.lg _).entries, _; rw [hpe]; exact put_pol hbc hpy) (by first | assumption | exact Sat.cellm hs (by assumption))) ?_
     clear hs; intro w hs
     refine WL.run (d := 54) Q0 Q0 ?_
     refine WL.p Q0 (Yl.not Q0) ?_
     refine WL.p Q0 (Yl.pickF Q0 Q0) ?_
     refine WL.next ?_
     refine WC.condS Q0 (fun h5 => ?_) (fun h5 => ?_)
     ·
      replace h5 := not_eq_true h5
      refine WC.seq ?_
      refine WL.p Q0 (Yl.loadAB agg36 Q0 hs Q1 Q0 Q0) ?_
      refine WL.call hs Q0 (Yc.func Q0 fn142) (c_impl_copyCache _ _ (Ph.old h_c hs) Q10) ?_
      have hs0 := hs; clear hs; intro v w hb hR hs; clear hs
      obtain ⟨x19, rfl, hx19, hf19⟩ := hR
      obtain ⟨F19, hs⟩ := hf19.sat hs0 hb; clear hs0 hf19
      refine WL.s (Yr.storeB hs Q0 Q0 Q0 Q5 Q3 Q0 (by exact szf36)) ?_
      clear hs; rintro _ w hs
      refine WL.next ?_
      refine WC.ret ?_
      refine At.thenret ?_
      refine fin1c rfl agg36 Q0 hs Q1 Q0 ?_
      refine Ret.mk hs ?_
      try rw [hpe] at h5
      have hb9 : storeIs c.lg top a y now = false := by
       clear hs
       cases h9 : storeIs c.lg top a y now with
       | false => rfl
       | true =>
        exfalso
        have h8 := storeIs_isv h9
        rw [storeIs_W] at h9
        try simp only [← inR_true] at *
        try simp only [← inR_false] at *
        simp_all [storeIs]
      exact ⟨x19, rfl, hx19.trans (storeEntry_no hb9).symm, hs.fresh Q1⟩
     ·
      replace h5 := not_eq_false h5
      refine WC.skipn ?_
      refine WC.seq ?_
      refine WL.p Q0 (Yl.loadAB agg36 Q0 hs Q1 Q0 Q0) ?_
      refine WL.s (Yr.storeB hs Q0 Q0 Q0 Q5 Q3 Q0 (by exact szf36)) ?_
      clear hs; rintro _ w hs
      refine WL.next ?_
      refine WC.ret ?_
      refine fin1c rfl agg36 Q0 hs Q1 Q0 ?_
      refine Ret.mk hs ?_
      try rw [hpe] at h5
      have hb9 : storeIs c.lg top a y now = true := by
       clear hs
       try simp only [← inR_true] at *
       try simp only [← inR_false] at *
       rw [storeIs_W]
       simp_all [storeIs]
      exact ⟨⟨s15⟩, rfl, hpe.trans (storeEntry_yesW hb9).symm, (PCache.join ⟨s15⟩ (hs.only (D := [ow s15 F15]) Q2)).fresh List.mem_cons_self⟩

theorem c_impl_KeepAnswer (n : PNet) (top : Str) (a : TAddr) (y : TResponse) (w : World) (h_n : Ph.ok w n) (h_top : Ph.ok w top) (h_a : Ph.ok w a) (h_y : Ph.ok w y) (hbs : lsz TServer.size n.lg.servers ≤ 1048576) (hbc : n.lg.cache.size ≤ 1048576) (hbl : n.log.l.length ≤ 1048577) (hpy : y.policy.length ≤ 1048576) (hm_ : ∃ m, w.cell? ⟨1, 0, none⟩ = some (.int .i64 m)) : Calls Tryz.prog 57 [.agg #[Sl.v n.servers, Sl.v n.cache.entries, Sl.v n.log, I n.now], S top, .agg #[S a.host, S a.path], .agg #[I y.status, I y.kind, S y.body, I y.age, Bo y.shares, S y.policy]].toArray w (Ret w (fun v w' => ∃ x : PNet, v = .agg (Ph.enc x).toArray ∧ x.lg = keepAnswer n.lg top a y ∧ Fresh w x w')) := by
 refine enterN 45 Tryz.func57 rfl rfl rfl ?_
 have hs := Sat.start w
 refine WC.seq ?_
 refine WL.r Q0 (Yr.box hs Q0 Q0) ?_
 clear hs; rintro _ w ⟨b1, rfl, hb, hs⟩; clear hb
 refine WL.r Q0 (Yr.box hs Q0 Q0) ?_
 clear hs; rintro _ w ⟨b2, rfl, hb, hs⟩; clear hb
 refine WL.r Q0 (Yr.box hs Q0 Q0) ?_
 clear hs; rintro _ w ⟨b3, rfl, hb, hs⟩; clear hb
 refine WL.r Q0 (Yr.alloc hs zt39) ?_
 clear hs; rintro _ w ⟨b4, rfl, hb, hs⟩; clear hb
 refine WL.next ?_
 refine WC.seq ?_
 refine WL.p Q0 (Yl.loadAB agg39 Q0 hs Q1 Q0 Q0) ?_
 refine WL.call hs Q0 (Yc.func Q0 fn71) (c_impl_copyNet _ _ (Ph.old h_n hs) (by exact hbs) (by exact hbc) (by exact hbl)) ?_
 have hs0 := hs; clear hs; intro v w hb hR hs; clear hs
 obtain ⟨x5, rfl, hx5, hf5⟩ := hR
 obtain ⟨F5, hs⟩ := hf5.sat hs0 hb; clear hs0 hf5
 refine WL.r Q0 (Yr.alloc hs zt39) ?_
 clear hs; rintro _ w ⟨b6, rfl, hb, hs⟩; clear hb
 refine WL.s (Yr.storeB hs Q0 Q0 Q0 Q5 Q3 Q0 (by exact szf39)) ?_
 clear hs; rintro _ w hs
 refine WL.next ?_
 refine WC.seq ?_
 refine WL.p Q0 (Yl.fieldAddr fa39_1 Q0) ?_
 refine WL.p Q0 (Yl.loadAB agg36 Q0 hs Q1 Q0 Q0) ?_
 refine Qm ?_
 refine WL.p Q0 (Yl.loadAB agg45 Q0 hs Q1 Q0 Q0) ?_
 refine WL.p Q0 (Yl.fieldAddr fa39_3 Q0) ?_
 refine WL.p Q0 (Yl.loadB sca3 Q0 hs Q1 Q0) ?_
 refine WL.callp hs Q0 (Yc.func Q0 fn74) (c_impl_LookUp _ _ _ _ _ ⟨(Ph.old h_n.cache.entries hs)⟩) ?_
 clear hs; intro w hs
 refine Qm ?_
 refine WL.p Q0 (Yl.extract Q0 Q0) ?_
 refine WL.p Q0 (Yl.extract Q0 Q0) ?_
 refine WL.r Q0 (Yr.alloc hs zt41) ?_
 clear hs; rintro _ w ⟨b7, rfl, hb, hs⟩; clear hb
 refine WL.s (Yr.storeB hs Q0 Q0 Q0 Q5 Q3 Q0 (by exact szf41)) ?_
 clear hs; rintro _ w hs
 refine Qa ?_
 refine WL.next ?_
 refine WC.seq' ?_
 refine WC.seq ?_
 refine WL.p Q0 (Yl.loadAB agg41 Q0 hs Q1 Q0 Q0) ?_
 refine WL.callp hs Q0 (Yc.func Q0 fn98) (c_impl_IsResponse _ _ (Ph.old h_y hs) (by exact hpy) (by first | assumption | exact Sat.cellm hs (by assumption))) ?_
 clear hs; intro w hs
 refine Qm ?_
 refine WL.split (d := 26) Q0 (fun h1 => ?_) (fun h1 => ?_)
 ·
  refine WL.run (d := 26) Q0 Q0 ?_
  refine WL.p Q0 (Yl.fieldAddr fa41_0 Q0) ?_
  refine WL.run (d := 26) Q0 Q0 ?_
  refine WL.p Q0 (Yl.loadB sca3 Q0 hs Q1 Q0) ?_
  refine WL.run (d := 26) Q0 Q0 ?_
  refine WL.p Q0 (Yl.eqi Q0 Q0) ?_
  refine WL.p Q0 (Yl.pickT Q0 Q0) ?_
  refine Qm ?_
  refine WL.split (d := 31) Q0 (fun h2 => ?_) (fun h2 => ?_)
  ·
   replace h2 := of_decide_eq_true h2
   refine WL.run (d := 31) Q0 Q0 ?_
   refine Qm ?_
   refine WL.run (d := 31) Q0 Q0 ?_
   refine WL.p Q0 (Yl.not Q0) ?_
   refine WL.p Q0 (Yl.pickT Q0 Q0) ?_
   refine WL.next ?_
   refine WC.condS Q0 (fun h3 => ?_) (fun h3 => ?_)
   ·
    replace h3 := not_eq_true h3
    refine WC.region ?_
    refine WL.p Q0 (Yl.fieldAddr fa39_1 Q0) ?_
    refine WL.p Q0 (Yl.loadAB agg36 Q0 hs Q1 Q0 Q0) ?_
    refine Qm ?_
    refine WL.p Q0 (Yl.loadAB agg45 Q0 hs Q1 Q0 Q0) ?_
    refine WL.p Q0 (Yl.loadAB agg41 Q0 hs Q1 Q0 Q0) ?_
    refine WL.p Q0 (Yl.fieldAddr fa39_3 Q0) ?_
    refine WL.p Q0 (Yl.loadB sca3 Q0 hs Q1 Q0) ?_
    refine WL.call hs Q0 (Yc.func Q0 fn130) (c_impl_StoreEntry _ _ _ _ _ _ ⟨(hs.okow (x := x5) (F := F5) Q1).cache.entries⟩ (Ph.old h_top hs) (Ph.old h_a hs) (Ph.old h_y hs) (Ph.old h_n.now hs) (by first | exact hbc | exact Nat.le_trans (Nat.le_of_eq (congrArg (fun z => z.cache.size) hx5)) hbc) (by exact hpy) (by first | assumption | exact Sat.cellm hs (by assumption))) ?_
    have hs0 := hs; clear hs; intro v w hb hR hs; clear hs
    obtain ⟨x8, rfl, hx8, hf8⟩ := hR
    obtain ⟨F8, hs⟩ := hf8.sat hs0 hb; clear hs0 hf8
    refine WL.p Q0 (Yl.fieldAddr fa39_1 Q0) ?_
    refine WL.s (Yr.storeB hs Q0 Q0 Q0 Q5 Q3 Q0 (by exact szf36)) ?_
    clear hs; rintro _ w hs
    refine WL.nil ?_
    refine At.then_ ?_
    refine WC.seq ?_
    refine WL.p Q0 (Yl.loadAB agg39 Q0 hs Q1 Q0 Q0) ?_
    refine WL.s (Yr.storeB hs Q0 Q0 Q0 Q5 Q3 Q0 (by exact szf39)) ?_
    clear hs; rintro _ w hs
    refine WL.next ?_
    refine WC.ret ?_
    refine fin1c rfl agg39 Q0 hs Q1 Q0 ?_
    obtain ⟨K9_0, K9_1, K9_2, hfl9, hs⟩ := PNet.split (hs.sel (D := [ow x5 F5]) Q2)
    try simp only [List.cons_append, List.nil_append] at hs
    refine Ret.mk hs ?_
    refine ⟨(⟨x5.servers, x8, x5.log, x5.now⟩ : PNet), rfl, ?_, ?_⟩
    · have e1_ := congrArg TNet.servers hx5; have e2_ := congrArg TNet.cache hx5; have e3_ := congrArg TNet.log hx5; have e4_ := congrArg TNet.now hx5
      have hb9 : keepIs n.lg top a y = true := by
       clear hs
       simp_all [keepIs, PNet.lg, PCache.lg]
      show (⟨x5.lg.servers, x8.lg, x5.lg.log, x5.lg.now⟩ : TNet) = _
      rw [keep_yes hb9, e1_, e3_, e4_]
      exact congrArg (fun c => (⟨n.lg.servers, c, n.lg.log, n.lg.now⟩ : TNet)) (hx8.trans (congrArg (fun c => storeEntry c top a y n.now) e2_))
    · exact (PNet.join (⟨x5.servers, x8, x5.log, x5.now⟩ : PNet) (hs.only (D := [ow x5.servers K9_0, ow x8 F8, ow x5.log K9_2]) Q2) (by first | exact (Flat.any hfl9.1) | exact (show WfI (x5.now) from ⟨by omega, by omega⟩) | assumption | trivial)).fresh List.mem_cons_self
   ·
    replace h3 := not_eq_false h3
    refine WC.skipn ?_
    refine WC.seq ?_
    refine WL.p Q0 (Yl.loadAB agg39 Q0 hs Q1 Q0 Q0) ?_
    refine WL.s (Yr.storeB hs Q0 Q0 Q0 Q5 Q3 Q0 (by exact szf39)) ?_
    clear hs; rintro _ w hs
    refine WL.next ?_
    refine WC.ret ?_
    refine fin1c rfl agg39 Q0 hs Q1 Q0 ?_
    refine Ret.mk hs ?_
    have hb9 : keepIs n.lg top a y = false := by
     clear hs
     simp_all [keepIs, PNet.lg, PCache.lg]
    exact ⟨x5, rfl, hx5.trans (keep_no hb9).symm, hs.fresh Q1⟩
  ·
   replace h2 := of_decide_eq_false h2
   refine WL.skip (d := 31) Q0 Q0 Q0 Q0 ?_
   refine WL.skip (d := 31) Q0 Q0 Q0 Q0 ?_
   refine WL.p Q0 (Yl.pickF Q0 Q0) ?_
   refine WL.next ?_
   refine WC.condF Q0 ?_
   refine WC.skipn ?_
   refine WC.seq ?_
   refine WL.p Q0 (Yl.loadAB agg39 Q0 hs Q1 Q0 Q0) ?_
   refine WL.s (Yr.storeB hs Q0 Q0 Q0 Q5 Q3 Q0 (by exact szf39)) ?_
   clear hs; rintro _ w hs
   refine WL.next ?_
   refine WC.ret ?_
   refine fin1c rfl agg39 Q0 hs Q1 Q0 ?_
   refine Ret.mk hs ?_
   have hb9 : keepIs n.lg top a y = false := by
    clear hs
    simp_all [keepIs, PNet.lg, PCache.lg]
   exact ⟨x5, rfl, hx5.trans (keep_no hb9).symm, hs.fresh Q1⟩
 ·
  refine WL.skip (d := 26) Q0 Q0 Q0 Q0 ?_
  refine WL.skip (d := 26) Q0 Q0 Q0 Q0 ?_
  refine WL.skip (d := 26) Q0 Q0 Q0 Q0 ?_
  refine WL.p Q0 (Yl.pickF Q0 Q0) ?_
  refine Qm ?_
  refine WL.skip (d := 31) Q0 Q0 Q0 Q0 ?_
  refine WL.skip (d := 31) Q0 Q0 Q0 Q0 ?_
  refine WL.p Q0 (Yl.pickF Q0 Q0) ?_
  refine WL.next ?_
  refine WC.condF Q0 ?_
  refine WC.skipn ?_
  refine WC.seq ?_
  refine WL.p Q0 (Yl.loadAB agg39 Q0 hs Q1 Q0 Q0) ?_
  refine WL.s (Yr.storeB hs Q0 Q0 Q0 Q5 Q3 Q0 (by exact szf39)) ?_
  clear hs; rintro _ w hs
  refine WL.next ?_
  refine WC.ret ?_
  refine fin1c rfl agg39 Q0 hs Q1 Q0 ?_
  refine Ret.mk hs ?_
  have hb9 : keepIs n.lg top a y = false := by
   clear hs
   simp_all [keepIs, PNet.lg, PCache.lg]
  exact ⟨x5, rfl, hx5.trans (keep_no hb9).symm, hs.fresh Q1⟩

theorem c_slices_IndexFunc___impl_Server_impl_Server_ (s : (Sl PServer)) (f : FuncId) (us_f : List Value) (p_f : PServer → Bool) (w : World) (h_s : Ph.ok w s)  (hfn_f : FN Tryz.prog f) (hf_f : ∀ x ∈ s.l, ∀ w', Below w.heap.size w w' → Calls Tryz.prog f (([.agg (Ph.enc x).toArray] : List Value) ++ us_f).toArray w' (RetP w' (Bo (p_f x)))) : Calls Tryz.prog 182 [Sl.v s, .func (.func f) #[] us_f.toArray].toArray w (RetP w (I (idxF (p_f) s.l 0))) := by
 have hw := h_s.lt
 refine enterN 19 Tryz.func182 rfl rfl rfl ?_
 have hs := Sat.start w
 refine WC.seq ?_
 refine Qa ?_
 refine WL.next ?_
 refine WC.seq' ?_
 refine WC.seq ?_
 refine Qm ?_
 refine WL.p Q0 (Yl.len_sl slu33 Q0) ?_
 refine Qm ?_
 refine WL.next ?_
 refine WC.block ?_
 refine WC.loopC (ι := Nat) (fun k => s.l.length - k) (fun k => [(8, I (k : Int))]) (fun _ => []) (fun k => idxF (p_f) s.l 0 = idxF (p_f) (s.l.drop k) k) [(0, _), (1, _), (6, _), (7, _)] 0 (hs) ⟨by rfl, by rfl, by rfl, by rfl, trivial⟩ ⟨by rfl, trivial⟩ ?_ ?_
 ·
  simp
 clear hs; rintro k w hJ hs
 simp only [List.nil_append] at hs
 refine WC.seq ?_
 refine WL.p Q0 (Yl.lss Q0 Q0) ?_
 refine WL.next ?_
 refine WC.seq' ?_
 refine WC.condS Q0 (fun h1 => ?_) (fun h1 => ?_)
 ·
  replace h1 := of_decide_eq_true h1
  obtain ⟨d, hd⟩ := exists_get (l := s.l) (k := k) Q7
  rw [drop_cons hd] at hJ
  refine WC.skipn ?_
  refine WC.seq' ?_
  refine WC.block ?_
  refine WC.seq ?_
  refine Qm ?_
  refine Qa ?_
  refine WL.next ?_
  refine WC.seq ?_
  refine Qm ?_
  refine Qm ?_
  refine Qm ?_
  refine WL.p Q0 (Yl.indexAddr slt33 Q0 Q0 (Ph.old h_s hs) Q0 (hd)) ?_
  refine WL.p Q0 (Yl.loadA agg185 Q0 (Sl.Ok.at_ (Ph.old h_s hs) (by assumption)).2 Q0) ?_
  refine WL.callp hs Q0 (Yc.value Q0 Q0 hfn_f Q0) (hf_f _ (List.mem_of_getElem? (by assumption)) _ hs.below) ?_
  clear hs; intro w hs
  refine WL.next ?_
  refine WC.condS Q0 (fun h2 => ?_) (fun h2 => ?_)
  ·
   refine WC.seq ?_
   refine Qm ?_
   refine Qa ?_
   refine WL.next ?_
   refine WC.ret ?_
   refine At.blockret ?_
   refine At.thenret ?_
   refine At.thenret ?_
   refine At.blockret ?_
   refine At.thenret ?_
   refine fin1' rfl Q0 ?_
   refine RetP.mk hs ?_
   rw [hJ]; simp_all [idxF]
  ·
   refine WC.skip ?_
   refine At.blocknormal ?_
   refine At.then_ ?_
   refine WC.region ?_
   refine WL.p Q0 (Yl.add Q0 Q0 Q7) ?_
   refine Qm ?_
   refine WL.nil ?_
   refine At.roundC (k + 1) (hs.only Q2) ⟨by rfl, by rfl, by rfl, by rfl, trivial⟩ ⟨by rfl, trivial⟩ ?_ ?_
   ·
    omega
   ·
    rw [hJ]; simp_all [idxF]
 ·
  replace h1 := of_decide_eq_false h1
  rw [drop_out (l := s.l) Q7] at hJ
  refine WC.exit ?_
  refine At.thenexit ?_
  refine At.thenexit ?_
  refine At.blockexit ?_
  refine At.then_ ?_
  refine WC.seq ?_
  refine Qa ?_
  refine WL.next ?_
  refine WC.ret ?_
  refine fin1' rfl Q0 ?_
  refine RetP.mk hs ?_
  rw [hJ]; simp_all [idxF]

theorem c_impl_serverAt_1 (s : PServer) (host : Str) (b1 : Nat) (w : World) (h_s : Ph.ok w s)  (hc1 : CellsAt w b1 0 [S host]) : Calls Tryz.prog 183 [.agg #[S s.host, Sl.v s.files], bp b1 0].toArray w (RetP w (Bo (decide (s.host = host)))) := by
 refine enterN 8 Tryz.func183 rfl rfl rfl ?_
 have hs := Sat.start w
 refine WC.seq ?_
 refine WL.r Q0 (Yr.box hs Q0 Q0) ?_
 clear hs; rintro _ w ⟨b1, rfl, hb, hs⟩; clear hb
 refine Qa ?_
 refine WL.next ?_
 refine WC.seq ?_
 refine WL.p Q0 (Yl.fieldAddr fa185_0 Q0) ?_
 refine WL.p Q0 (Yl.loadB sca9 Q0 hs Q1 Q0) ?_
 refine WL.p Q0 (Yl.loadC0 sca9 Q0 (hc1.ext hs.below) Q0) ?_
 refine WL.p Q0 (Yl.eqs Q0 Q0) ?_
 refine Qa ?_
 refine WL.next ?_
 refine WC.ret ?_
 refine fin1' rfl Q0 ?_
 refine RetP.mk hs ?_
 rfl

theorem c_impl_serverAt (l : (Sl PServer)) (host : Str) (w : World) (h_l : Ph.ok w l)  : Calls Tryz.prog 145 [Sl.v l, S host].toArray w (RetP w (I (idxF (fun s : PServer => decide (s.host = host)) l.l 0))) := by
 have hw := h_l.lt
 refine enterN 8 Tryz.func145 rfl rfl rfl ?_
 have hs := Sat.start w
 refine WC.seq ?_
 refine WL.r Q0 (Yr.box hs Q0 Q0) ?_
 clear hs; rintro _ w ⟨b1, rfl, hb, hs⟩; clear hb
 refine Qa ?_
 refine WL.next ?_
 refine WC.seq ?_
 refine Qm ?_
 refine WL.p Q0 (Yl.makeFunc Q0 Q0) ?_
 refine WL.callp hs Q0 (Yc.func Q0 fn182) (c_slices_IndexFunc___impl_Server_impl_Server_ _ 183 _ (fun s : PServer => decide (s.host = host)) _ (Ph.old h_l hs) fn183 (fun x hx w1 hb1 => c_impl_serverAt_1 x _ _ w1 (Ph.ext hb1 ((Ph.old h_l hs).elems x hx)) ((hs.ext hb1).box_cells Q1))) ?_
 clear hs; intro w hs
 refine Qa ?_
 refine WL.next ?_
 refine WC.ret ?_
 refine fin1' rfl Q0 ?_
 refine RetP.mk hs ?_
 rfl

theorem c_slices_IndexFunc___impl_File_impl_File_ (s : (Sl TFile)) (f : FuncId) (us_f : List Value) (p_f : TFile → Bool) (w : World) (h_s : Ph.ok w s)  (hfn_f : FN Tryz.prog f) (hf_f : ∀ x ∈ s.l, ∀ w', Below w.heap.size w w' → Calls Tryz.prog f (([.agg (Ph.enc x).toArray] : List Value) ++ us_f).toArray w' (RetP w' (Bo (p_f x)))) : Calls Tryz.prog 184 [Sl.v s, .func (.func f) #[] us_f.toArray].toArray w (RetP w (I (idxF (p_f) s.l 0))) := by
 have hw := h_s.lt
 refine enterN 19 Tryz.func184 rfl rfl rfl ?_
 have hs := Sat.start w
 refine WC.seq ?_
 refine Qa ?_
 refine WL.next ?_
 refine WC.seq' ?_
 refine WC.seq ?_
 refine Qm ?_
 refine WL.p Q0 (Yl.len_sl slu183 Q0) ?_
 refine Qm ?_
 refine WL.next ?_
 refine WC.block ?_
 refine WC.loopC (ι := Nat) (fun k => s.l.length - k) (fun k => [(8, I (k : Int))]) (fun _ => []) (fun k => idxF (p_f) s.l 0 = idxF (p_f) (s.l.drop k) k) [(0, _), (1, _), (6, _), (7, _)] 0 (hs) ⟨by rfl, by rfl, by rfl, by rfl, trivial⟩ ⟨by rfl, trivial⟩ ?_ ?_
 ·
  simp
 clear hs; rintro k w hJ hs
 simp only [List.nil_append] at hs
 refine WC.seq ?_
 refine WL.p Q0 (Yl.lss Q0 Q0) ?_
 refine WL.next ?_
 refine WC.seq' ?_
 refine WC.condS Q0 (fun h1 => ?_) (fun h1 => ?_)
 ·
  replace h1 := of_decide_eq_true h1
  obtain ⟨d, hd⟩ := exists_get (l := s.l) (k := k) Q7
  rw [drop_cons hd] at hJ
  refine WC.skipn ?_
  refine WC.seq' ?_
  refine WC.block ?_
  refine WC.seq ?_
  refine Qm ?_
  refine Qa ?_
  refine WL.next ?_
  refine WC.seq ?_
  refine Qm ?_
  refine Qm ?_
  refine Qm ?_
  refine WL.p Q0 (Yl.indexAddr slt183 Q0 Q0 (Ph.old h_s hs) Q0 (hd)) ?_
  refine WL.p Q0 (Yl.loadA agg187 Q0 (Sl.Ok.at_ (Ph.old h_s hs) (by assumption)).2 Q0) ?_
  refine WL.callp hs Q0 (Yc.value Q0 Q0 hfn_f Q0) (hf_f _ (List.mem_of_getElem? (by assumption)) _ hs.below) ?_
  clear hs; intro w hs
  refine WL.next ?_
  refine WC.condS Q0 (fun h2 => ?_) (fun h2 => ?_)
  ·
   refine WC.seq ?_
   refine Qm ?_
   refine Qa ?_
   refine WL.next ?_
   refine WC.ret ?_
   refine At.blockret ?_
   refine At.thenret ?_
   refine At.thenret ?_
   refine At.blockret ?_
   refine At.thenret ?_
   refine fin1' rfl Q0 ?_
   refine RetP.mk hs ?_
   rw [hJ]; simp_all [idxF]
  ·
   refine WC.skip ?_
   refine At.blocknormal ?_
   refine At.then_ ?_
   refine WC.region ?_
   refine WL.p Q0 (Yl.add Q0 Q0 Q7) ?_
   refine Qm ?_
   refine WL.nil ?_
   refine At.roundC (k + 1) (hs.only Q2) ⟨by rfl, by rfl, by rfl, by rfl, trivial⟩ ⟨by rfl, trivial⟩ ?_ ?_
   ·
    omega
   ·
    rw [hJ]; simp_all [idxF]
 ·
  replace h1 := of_decide_eq_false h1
  rw [drop_out (l := s.l) Q7] at hJ
  refine WC.exit ?_
  refine At.thenexit ?_
  refine At.thenexit ?_
  refine At.blockexit ?_
  refine At.then_ ?_
  refine WC.seq ?_
  refine Qa ?_
  refine WL.next ?_
  refine WC.ret ?_
  refine fin1' rfl Q0 ?_
  refine RetP.mk hs ?_
  rw [hJ]; simp_all [idxF]

theorem c_impl_fileAt_1 (f : TFile) (path : Str) (b1 : Nat) (w : World)   (hc1 : CellsAt w b1 0 [S path]) : Calls Tryz.prog 185 [.agg #[S f.path, I f.response.status, I f.response.kind, S f.response.body, I f.response.age, Bo f.response.shares, S f.response.policy], bp b1 0].toArray w (RetP w (Bo (decide (f.path = path)))) := by
 refine enterN 8 Tryz.func185 rfl rfl rfl ?_
 have hs := Sat.start w
 refine WC.seq ?_
 refine WL.r Q0 (Yr.box hs Q0 Q0) ?_
 clear hs; rintro _ w ⟨b1, rfl, hb, hs⟩; clear hb
 refine Qa ?_
 refine WL.next ?_
 refine WC.seq ?_
 refine WL.p Q0 (Yl.fieldAddr fa187_0 Q0) ?_
 refine WL.p Q0 (Yl.loadB sca9 Q0 hs Q1 Q0) ?_
 refine WL.p Q0 (Yl.loadC0 sca9 Q0 (hc1.ext hs.below) Q0) ?_
 refine WL.p Q0 (Yl.eqs Q0 Q0) ?_
 refine Qa ?_
 refine WL.next ?_
 refine WC.ret ?_
 refine fin1' rfl Q0 ?_
 refine RetP.mk hs ?_
 rfl

theorem c_impl_fileAt (s : PServer) (path : Str) (w : World) (h_s : Ph.ok w s)  : Calls Tryz.prog 146 [.agg #[S s.host, Sl.v s.files], S path].toArray w (RetP w (I (idxF (fun f : TFile => decide (f.path = path)) s.files.l 0))) := by
 have hw := h_s.files.lt
 refine enterN 9 Tryz.func146 rfl rfl rfl ?_
 have hs := Sat.start w
 refine WC.seq ?_
 refine WL.r Q0 (Yr.box hs Q0 Q0) ?_
 clear hs; rintro _ w ⟨b1, rfl, hb, hs⟩; clear hb
 refine WL.r Q0 (Yr.box hs Q0 Q0) ?_
 clear hs; rintro _ w ⟨b2, rfl, hb, hs⟩; clear hb
 refine Qa ?_
 refine WL.next ?_
 refine WC.seq ?_
 refine WL.p Q0 (Yl.fieldAddr fa185_1 Q0) ?_
 refine WL.p Q0 (Yl.loadB sca183 Q0 hs Q1 Q0) ?_
 refine WL.p Q0 (Yl.makeFunc Q0 Q0) ?_
 refine WL.callp hs Q0 (Yc.func Q0 fn184) (c_slices_IndexFunc___impl_File_impl_File_ _ 185 _ (fun f : TFile => decide (f.path = path)) _ (Ph.old h_s.files hs) fn185 (fun x hx w1 hb1 => c_impl_fileAt_1 x _ _ w1 ((hs.ext hb1).box_cells Q1))) ?_
 clear hs; intro w hs
 refine Qa ?_
 refine WL.next ?_
 refine WC.ret ?_
 refine fin1' rfl Q0 ?_
 refine RetP.mk hs ?_
 rfl

theorem c_impl_AnswerTo (l : (Sl PServer)) (a : TAddr) (w : World) (h_l : Ph.ok w l) (h_a : Ph.ok w a)  : Calls Tryz.prog 75 [Sl.v l, .agg #[S a.host, S a.path]].toArray w (RetP w (.agg (Ph.enc (answerTo (l.l.map PServer.lg) a)).toArray)) := by
 have hw := h_l.lt
 refine enterN 33 Tryz.func75 rfl rfl rfl ?_
 have hs := Sat.start w
 refine WC.seq ?_
 refine WL.r Q0 (Yr.box hs Q0 Q0) ?_
 clear hs; rintro _ w ⟨b1, rfl, hb, hs⟩; clear hb
 refine WL.r Q0 (Yr.alloc hs zt41) ?_
 clear hs; rintro _ w ⟨b2, rfl, hb, hs⟩; clear hb
 refine WL.next ?_
 refine WC.seq ?_
 refine Qm ?_
 refine WL.p Q0 (Yl.fieldAddr fa45_0 Q0) ?_
 refine WL.p Q0 (Yl.loadB sca9 Q0 hs Q1 Q0) ?_
 refine WL.callp hs Q0 (Yc.func Q0 fn145) (c_impl_serverAt _ _ _ (Ph.old h_l hs)) ?_
 clear hs; intro w hs
 refine Qa ?_
 refine WL.next ?_
 refine WC.seq' ?_
 refine WC.seq ?_
 refine Qm ?_
 refine WL.p Q0 (Yl.lss Q0 Q0) ?_
 refine WL.next ?_
 refine WC.condS Q0 (fun h1 => ?_) (fun h1 => ?_)
 ·
  replace h1 := of_decide_eq_true h1
  refine WC.seq ?_
  refine WL.callp hs Q0 (Yc.func Q0 fn73) (c_impl_NotFound _) ?_
  clear hs; intro w hs
  refine WL.s (Yr.storeB hs Q0 Q0 Q0 Q5 Q3 Q0 (by exact szf41)) ?_
  clear hs; rintro _ w hs
  refine WL.next ?_
  refine WC.ret ?_
  refine At.thenret ?_
  refine fin1c rfl agg41 Q0 hs Q1 Q0 ?_
  refine RetP.mk hs ?_
  have e : answerTo (l.l.map PServer.lg) a = notFound := by simp only [answerTo, find_map, idxF_none h1]; rfl
  rw [e]; rfl
 ·
  replace h1 := of_decide_eq_false h1
  obtain ⟨j, d, hj, hd, hf⟩ := idxF_some h1
  rw [Nat.zero_add] at hj
  refine WC.skipn ?_
  refine WC.quietn mixed Q6 hs ?_
  refine WQ.p Q0 (fun w hs => Yl.move Q0) ?_
  refine WQ.p Q0 (fun w hs => Yl.move Q0) ?_
  refine WQ.p Q0 (fun w hs => Yl.indexAddr slt33 Q0 Q0 (Ph.old h_l hs) (by first | exact hj | exact hj2) (hd)) ?_
  refine WQ.p Q0 (fun w hs => Yl.loadA agg185 Q0 (Sl.Ok.at_ (Ph.old h_l hs) (by assumption)).2 Q0) ?_
  refine WQ.p Q0 (fun w hs => Yl.fieldAddr fa45_1 Q0) ?_
  refine WQ.p Q0 (fun w hs => Yl.loadB sca9 Q0 hs Q1 Q0) ?_
  refine WQ.callp Q0 (fun w => Yc.func Q0 fn146) (fun w hs => (c_impl_fileAt _ _ _ (Ph.old (Sl.Ok.elem h_l hd) hs))) (fun _ _ hs hb => hs.ext hb) ?_
  refine WQ.p Q0 (fun w hs => Yl.assign Q0) ?_
  refine WQ.next ?_
  clear hs; intro w hs
  refine WC.seq' ?_
  refine WC.seq ?_
  refine Qm ?_
  refine WL.p Q0 (Yl.lss Q0 Q0) ?_
  refine WL.next ?_
  refine WC.condS Q0 (fun h2 => ?_) (fun h2 => ?_)
  ·
   replace h2 := of_decide_eq_true h2
   refine WC.seq ?_
   refine WL.callp hs Q0 (Yc.func Q0 fn73) (c_impl_NotFound _) ?_
   clear hs; intro w hs
   refine WL.s (Yr.storeB hs Q0 Q0 Q0 Q5 Q3 Q0 (by exact szf41)) ?_
   clear hs; rintro _ w hs
   refine WL.next ?_
   refine WC.ret ?_
   refine At.thenret ?_
   refine fin1c rfl agg41 Q0 hs Q1 Q0 ?_
   refine RetP.mk hs ?_
   have e : answerTo (l.l.map PServer.lg) a = notFound := by simp only [answerTo, find_map, hf, Option.map_some, TServer.fileOf, idxF_none h2]
   rw [e]; rfl
  ·
   replace h2 := of_decide_eq_false h2
   obtain ⟨j2, d2, hj2, hd2, hf2⟩ := idxF_some h2
   rw [Nat.zero_add] at hj2
   refine WC.skipn ?_
   refine WC.seq ?_
   refine Qm ?_
   refine Qm ?_
   refine WL.p Q0 (Yl.indexAddr slt33 Q0 Q0 (Ph.old h_l hs) (by first | exact hj | exact hj2) (hd)) ?_
   refine WL.p Q0 (Yl.fieldAddr fa185_1 Q0) ?_
   refine WL.p Q0 (Yl.loadC sca183 Q0 (Sl.Ok.at_ (Ph.old h_l hs) (by assumption)).2 Q0) ?_
   refine Qm ?_
   refine WL.p Q0 (Yl.indexAddr slt183 Q0 Q0 (Ph.old (Sl.Ok.elem h_l hd).files hs) (by first | exact hj | exact hj2) (hd2)) ?_
   refine WL.p Q0 (Yl.fieldAddr fa187_1 Q0) ?_
   refine WL.p Q0 (Yl.loadAC agg41 Q0 (Sl.Ok.at_ (Ph.old (Sl.Ok.elem h_l hd).files hs) (by assumption)).2 Q0 Q0) ?_
   refine WL.s (Yr.storeB hs Q0 Q0 Q0 Q5 Q3 Q0 (by exact szf41)) ?_
   clear hs; rintro _ w hs
   refine WL.next ?_
   refine WC.ret ?_
   refine fin1c rfl agg41 Q0 hs Q1 Q0 ?_
   refine RetP.mk hs ?_
   have e : answerTo (l.l.map PServer.lg) a = d2.response := by simp only [answerTo, find_map, hf, Option.map_some, TServer.fileOf, hf2]
   rw [e]; rfl

theorem c_impl_FetchNow (n : PNet) (top : Str) (a : TAddr) (guess : Bool) (w : World) (h_n : Ph.ok w n) (h_top : Ph.ok w top) (h_a : Ph.ok w a) (h_guess : Ph.ok w guess) (hbs : lsz TServer.size n.lg.servers ≤ 1048576) (hbc : n.lg.cache.size ≤ 1048576) (hbl : n.log.l.length ≤ 1048577) (hm_ : ∃ m, w.cell? ⟨1, 0, none⟩ = some (.int .i64 m)) : Calls Tryz.prog 16 [.agg #[Sl.v n.servers, Sl.v n.cache.entries, Sl.v n.log, I n.now], S top, .agg #[S a.host, S a.path], Bo guess].toArray w (Ret w (fun v w' => ∃ x : PNet, v = .tuple #[.agg (Ph.enc x).toArray, .agg (Ph.enc (fetchR n.lg top a)).toArray] ∧ x.lg = fetchN n.lg top a guess ∧ Fresh w x w')) := by
 refine enterN 60 Tryz.func16 rfl rfl rfl ?_
 have hs := Sat.start w
 refine WC.seq ?_
 refine WL.r Q0 (Yr.box hs Q0 Q0) ?_
 clear hs; rintro _ w ⟨b1, rfl, hb, hs⟩; clear hb
 refine WL.r Q0 (Yr.box hs Q0 Q0) ?_
 clear hs; rintro _ w ⟨b2, rfl, hb, hs⟩; clear hb
 refine WL.r Q0 (Yr.alloc hs zt39) ?_
 clear hs; rintro _ w ⟨b3, rfl, hb, hs⟩; clear hb
 refine WL.r Q0 (Yr.alloc hs zt41) ?_
 clear hs; rintro _ w ⟨b4, rfl, hb, hs⟩; clear hb
 refine WL.next ?_
 refine WC.seq ?_
 refine WL.p Q0 (Yl.loadAB agg39 Q0 hs Q1 Q0 Q0) ?_
 refine WL.call hs Q0 (Yc.func Q0 fn71) (c_impl_copyNet _ _ (Ph.old h_n hs) (by exact hbs) (by exact hbc) (by exact hbl)) ?_
 have hs0 := hs; clear hs; intro v w hb hR hs; clear hs
 obtain ⟨x5, rfl, hx5, hf5⟩ := hR
 obtain ⟨F5, hs⟩ := hf5.sat hs0 hb; clear hs0 hf5
 refine WL.r Q0 (Yr.alloc hs zt39) ?_
 clear hs; rintro _ w ⟨b6, rfl, hb, hs⟩; clear hb
 refine WL.s (Yr.storeB hs Q0 Q0 Q0 Q5 Q3 Q0 (by exact szf39)) ?_
 clear hs; rintro _ w hs
 refine WL.next ?_
 refine WC.seq' ?_
 refine WC.seq ?_
 refine WL.p Q0 (Yl.loadAB agg45 Q0 hs Q1 Q0 Q0) ?_
 refine WL.callp hs Q0 (Yc.func Q0 fn72) (c_impl_IsAddr _ _ (Ph.old h_a hs)) ?_
 clear hs; intro w hs
 refine WL.p Q0 (Yl.not Q0) ?_
 refine WL.next ?_
 refine WC.condS Q0 (fun h1 => ?_) (fun h1 => ?_)
 ·
  replace h1 := not_eq_true h1
  refine WC.anynX (K := [box b3 _ _, box b4 _ _]) mixed hs Q2 ?_
  clear hs; intro w hs
  refine WA.p (i := 0) Q0 Q6 Q6 Q6 Q0 (hs.only Q2) (fun w hs => Yl.loadAB agg39 Q0 hs Q1 Q0 Q0) ?_
  refine WA.callp2 (i := 1) hs (fun _ hs => hs.only Q2) Q6 Q0 Q0 (Yc.func Q0 fn73) (c_impl_NotFound _) ?_
  clear hs; intro w hs
  refine WA.s (i := 2) Q6 Q0 (Yr.storeB hs Q0 Q0 Q0 Q5 Q3 Q0 (by exact szf39)) (by rintro _ w hs; exact hs.only Q2) ?_
  clear hs; rintro _ w hs
  refine WA.s (i := 3) Q6 Q0 (Yr.storeB hs Q0 Q0 Q0 Q5 Q3 Q0 (by exact szf41)) (by rintro _ w hs; exact hs.only Q2) ?_
  clear hs; rintro _ w hs
  refine WA.donen Q6 ?_
  refine WC.ret ?_
  refine At.thenret ?_
  refine fin2cc rfl agg39 agg41 Q0 Q0 hs Q1 Q1 Q0 Q0 ?_
  refine Ret.mk hs ?_
  have hr9 : fetchR n.lg top a = notFound := by
   clear hs
   simp_all [fetchR, PNet.lg, PCache.lg]
  have hq9 : fetchN n.lg top a guess = n.lg := by
   clear hs
   unfold fetchN
   simp_all [PNet.lg, PCache.lg]
  exact ⟨x5, (by rw [hr9]; rfl), hx5.trans hq9.symm, hs.fresh Q1⟩
 ·
  replace h1 := not_eq_false h1
  refine WC.skipn ?_
  refine WC.seq' ?_
  refine WC.seq ?_
  refine WL.p Q0 (Yl.fieldAddr fa39_1 Q0) ?_
  refine WL.p Q0 (Yl.loadAB agg36 Q0 hs Q1 Q0 Q0) ?_
  refine Qm ?_
  refine WL.p Q0 (Yl.loadAB agg45 Q0 hs Q1 Q0 Q0) ?_
  refine WL.p Q0 (Yl.fieldAddr fa39_3 Q0) ?_
  refine WL.p Q0 (Yl.loadB sca3 Q0 hs Q1 Q0) ?_
  refine WL.callp hs Q0 (Yc.func Q0 fn74) (c_impl_LookUp _ _ _ _ _ ⟨(Ph.old h_n.cache.entries hs)⟩) ?_
  clear hs; intro w hs
  refine Qm ?_
  refine WL.p Q0 (Yl.extract Q0 Q0) ?_
  refine WL.p Q0 (Yl.extract Q0 Q0) ?_
  refine WL.r Q0 (Yr.alloc hs zt41) ?_
  clear hs; rintro _ w ⟨b7, rfl, hb, hs⟩; clear hb
  refine WL.s (Yr.storeB hs Q0 Q0 Q0 Q5 Q3 Q0 (by exact szf41)) ?_
  clear hs; rintro _ w hs
  refine Qa ?_
  refine WL.next ?_
  refine WC.seq ?_
  refine Qm ?_
  refine WL.next ?_
  refine WC.condS Q0 (fun h2 => ?_) (fun h2 => ?_)
  ·
   refine WC.anynX (K := [box b3 _ _, box b4 _ _]) mixed hs Q2 ?_
   clear hs; intro w hs
   refine WA.p (i := 0) Q0 Q6 Q6 Q6 Q0 (hs.only Q2) (fun w hs => Yl.loadAB agg39 Q0 hs Q1 Q0 Q0) ?_
   refine WA.p (i := 1) Q0 Q6 Q6 Q6 Q0 (hs.only Q2) (fun w hs => Yl.loadAB agg41 Q0 hs Q1 Q0 Q0) ?_
   refine WA.s (i := 2) Q6 Q0 (Yr.storeB hs Q0 Q0 Q0 Q5 Q3 Q0 (by exact szf39)) (by rintro _ w hs; exact hs.only Q2) ?_
   clear hs; rintro _ w hs
   refine WA.s (i := 3) Q6 Q0 (Yr.storeB hs Q0 Q0 Q0 Q5 Q3 Q0 (by exact szf41)) (by rintro _ w hs; exact hs.only Q2) ?_
   clear hs; rintro _ w hs
   refine WA.donen Q6 ?_
   refine WC.ret ?_
   refine At.thenret ?_
   refine fin2cc rfl agg39 agg41 Q0 Q0 hs Q1 Q1 Q0 Q0 ?_
   refine Ret.mk hs ?_
   have hr9 : fetchR n.lg top a = (lookIn top a n.lg.now n.lg.cache.entries).1 := by
    clear hs
    simp_all [fetchR, PNet.lg, PCache.lg]
   have hq9 : fetchN n.lg top a guess = n.lg := by
    clear hs
    unfold fetchN
    simp_all [PNet.lg, PCache.lg]
   exact ⟨x5, (by rw [hr9]; rfl), hx5.trans hq9.symm, hs.fresh Q1⟩
  ·
   refine WC.skipn ?_
   refine WC.seq ?_
   refine WL.p Q0 (Yl.fieldAddr fa39_0 Q0) ?_
   refine WL.p Q0 (Yl.loadB sca33 Q0 hs Q1 Q0) ?_
   refine WL.p Q0 (Yl.loadAB agg45 Q0 hs Q1 Q0 Q0) ?_
   refine WL.callp hs Q0 (Yc.func Q0 fn75) (c_impl_AnswerTo _ _ _ (Ph.old h_n.servers hs) (Ph.old h_a hs)) ?_
   clear hs; intro w hs
   refine WL.r Q0 (Yr.alloc hs zt41) ?_
   clear hs; rintro _ w ⟨b8, rfl, hb, hs⟩; clear hb
   refine WL.s (Yr.storeB hs Q0 Q0 Q0 Q5 Q3 Q0 (by exact szf41)) ?_
   clear hs; rintro _ w hs
   refine WL.next ?_
   refine WC.seq' ?_
   refine WC.seq ?_
   refine WL.p Q0 (Yl.fieldAddr fa39_2 Q0) ?_
   refine WL.p Q0 (Yl.loadB sca37 Q0 hs Q1 Q0) ?_
   refine WL.p Q0 (Yl.len_sl slu37 Q0) ?_
   refine WL.p Q0 (Yl.lss Q0 Q0) ?_
   refine WL.next ?_
   refine WC.condS Q0 (fun h3 => ?_) (fun h3 => ?_)
   ·
    replace h3 := of_decide_eq_true h3
    refine WC.region ?_
    refine WL.p Q0 (Yl.fieldAddr fa39_2 Q0) ?_
    refine WL.p Q0 (Yl.loadB sca37 Q0 hs Q1 Q0) ?_
    refine Qm ?_
    refine WL.p Q0 (Yl.loadAB agg45 Q0 hs Q1 Q0 Q0) ?_
    refine Qm ?_
    refine WL.p Q0 (Yl.build bt123 Q0 Q4) ?_
    refine WL.r Q0 (Yr.buildSlice hs sll37 Q0 Q0 Q0 Q4 Q0) ?_
    clear hs; rintro _ w ⟨b9, rfl, hb, hs⟩; clear hb
    obtain ⟨K10_0, K10_1, K10_2, hfl10, hs⟩ := PNet.split (hs.sel (D := [ow x5 F5]) Q2)
    try simp only [List.cons_append, List.nil_append] at hs
    refine WL.r Q0 (Yr.append (s := x5.log) (F := K10_2) hs elt37 Q2 Q0 Q0 rfl (xs := [(⟨top, a, guess⟩ : TSent)]) (hs.box_cells Q1) (by intro x hx; obtain rfl := List.mem_singleton.1 hx; exact ⟨h_top, Flat.any h_a, trivial⟩) (by have e9 := congrArg (fun z => z.log.length) hx5; simp only [PNet.lg] at e9; simp only [List.length_singleton]; unfold maxLen; omega) (by have e9 := congrArg (fun z => z.log.length) hx5; simp only [PNet.lg] at e9; simp only [List.length_singleton]; omega)) ?_
    clear hs; rintro _ w ⟨s11, F11, rfl, hl11, hs⟩
    refine WL.p Q0 (Yl.fieldAddr fa39_2 Q0) ?_
    refine WL.s (Yr.storeB hs Q0 Q0 Q0 Q5 Q3 Q0 (by exact szf37)) ?_
    clear hs; rintro _ w hs
    refine WL.nil ?_
    refine At.then_ ?_
    refine WC.seq' ?_
    refine WC.seq ?_
    refine Qm ?_
    refine WL.p Q0 (Yl.not Q0) ?_
    refine WL.next ?_
    refine WC.condS Q0 (fun h4 => ?_) (fun h4 => ?_)
    ·
     replace h4 := not_eq_true h4
     refine WC.region ?_
     refine WL.p Q0 (Yl.loadAB agg39 Q0 hs Q1 Q0 Q0) ?_
     refine Qm ?_
     refine WL.p Q0 (Yl.loadAB agg45 Q0 hs Q1 Q0 Q0) ?_
     refine WL.p Q0 (Yl.loadAB agg41 Q0 hs Q1 Q0 Q0) ?_
     refine WL.call hs Q0 (Yc.func Q0 fn57) (c_impl_KeepAnswer (⟨x5.servers, (⟨x5.cache.entries⟩ : PCache), s11, x5.now⟩ : PNet) _ _ _ _ ⟨(hs.okow (x := x5.servers) (F := K10_0) Q1), ⟨(hs.okow (x := x5.cache) (F := K10_1) Q1).entries⟩, (hs.okow (x := s11) (F := F11) Q1), (Flat.any hfl10.1)⟩ (Ph.old h_top hs) (Ph.old h_a hs) (Flat.any (ans_ok h_n.servers _)) (by exact Nat.le_trans (Nat.le_of_eq (congrArg (fun z => lsz TServer.size z.servers) hx5)) hbs) (by exact Nat.le_trans (Nat.le_of_eq (congrArg (fun z => z.cache.size) hx5)) hbc) (by have e9 := congrArg (fun z => z.log.length) hx5; simp only [PNet.lg] at e9; first | omega | (simp only [hl11, List.length_append, List.length_singleton]; omega)) (by exact ans_pol hbs _) (by first | assumption | exact Sat.cellm hs (by assumption))) ?_
     have hs0 := hs; clear hs; intro v w hb hR hs; clear hs
     obtain ⟨x12, rfl, hx12, hf12⟩ := hR
     obtain ⟨F12, hs⟩ := hf12.sat hs0 hb; clear hs0 hf12
     refine WL.s (Yr.storeB hs Q0 Q0 Q0 Q5 Q3 Q0 (by exact szf39)) ?_
     clear hs; rintro _ w hs
     refine WL.nil ?_
     refine At.then_ ?_
     refine WC.anynX (K := [box b3 _ _, box b4 _ _]) mixed hs Q2 ?_
     clear hs; intro w hs
     refine WA.p (i := 0) Q0 Q6 Q6 Q6 Q0 (hs.only Q2) (fun w hs => Yl.loadAB agg39 Q0 hs Q1 Q0 Q0) ?_
     refine WA.p (i := 1) Q0 Q6 Q6 Q6 Q0 (hs.only Q2) (fun w hs => Yl.loadAB agg41 Q0 hs Q1 Q0 Q0) ?_
     refine WA.s (i := 2) Q6 Q0 (Yr.storeB hs Q0 Q0 Q0 Q5 Q3 Q0 (by exact szf39)) (by rintro _ w hs; exact hs.only Q2) ?_
     clear hs; rintro _ w hs
     refine WA.s (i := 3) Q6 Q0 (Yr.storeB hs Q0 Q0 Q0 Q5 Q3 Q0 (by exact szf41)) (by rintro _ w hs; exact hs.only Q2) ?_
     clear hs; rintro _ w hs
     refine WA.donen Q6 ?_
     refine WC.ret ?_
     refine fin2cc rfl agg39 agg41 Q0 Q0 hs Q1 Q1 Q0 Q0 ?_
     refine Ret.mk hs ?_
     have hr9 : fetchR n.lg top a = answerTo n.lg.servers a := by
      clear hs
      simp_all [fetchR, PNet.lg, PCache.lg]
     have e1_ := congrArg TNet.servers hx5; have e2_ := congrArg TNet.cache hx5; have e3_ := congrArg TNet.log hx5; have e4_ := congrArg TNet.now hx5
     have e9_ := congrArg List.length e3_
     simp only [PNet.lg] at e9_
     have hlg9 : logged n.lg top a guess = ⟨n.lg.servers, n.lg.cache, n.lg.log ++ [⟨top, a, guess⟩], n.lg.now⟩ := by unfold logged; rw [if_pos (show n.log.l.length < 400 by omega)]
     have hq9 : fetchN n.lg top a guess = keepAnswer (logged n.lg top a guess) top a (answerTo n.lg.servers a) := by
      clear hs
      unfold fetchN
      simp_all [PNet.lg, PCache.lg]
     have hA9 : (⟨x5.lg.servers, x5.lg.cache, s11.l, x5.lg.now⟩ : TNet) = logged n.lg top a guess := by rw [hlg9, e1_, e2_, hl11, e4_, show x5.log.l = n.lg.log from e3_]
     exact ⟨x12, (by rw [hr9]; rfl), hx12.trans ((congrArg (fun z => keepAnswer z top a (answerTo n.lg.servers a)) hA9).trans hq9.symm), hs.fresh Q1⟩
    ·
     replace h4 := not_eq_false h4
     refine WC.skipn ?_
     refine WC.anynX (K := [box b3 _ _, box b4 _ _]) mixed hs Q2 ?_
     clear hs; intro w hs
     refine WA.p (i := 0) Q0 Q6 Q6 Q6 Q0 (hs.only Q2) (fun w hs => Yl.loadAB agg39 Q0 hs Q1 Q0 Q0) ?_
     refine WA.p (i := 1) Q0 Q6 Q6 Q6 Q0 (hs.only Q2) (fun w hs => Yl.loadAB agg41 Q0 hs Q1 Q0 Q0) ?_
     refine WA.s (i := 2) Q6 Q0 (Yr.storeB hs Q0 Q0 Q0 Q5 Q3 Q0 (by exact szf39)) (by rintro _ w hs; exact hs.only Q2) ?_
     clear hs; rintro _ w hs
     refine WA.s (i := 3) Q6 Q0 (Yr.storeB hs Q0 Q0 Q0 Q5 Q3 Q0 (by exact szf41)) (by rintro _ w hs; exact hs.only Q2) ?_
     clear hs; rintro _ w hs
     refine WA.donen Q6 ?_
     refine WC.ret ?_
     refine fin2cc rfl agg39 agg41 Q0 Q0 hs Q1 Q1 Q0 Q0 ?_
     refine Ret.mk hs ?_
     have hr9 : fetchR n.lg top a = answerTo n.lg.servers a := by
      clear hs
      simp_all [fetchR, PNet.lg, PCache.lg]
     have e1_ := congrArg TNet.servers hx5; have e2_ := congrArg TNet.cache hx5; have e3_ := congrArg TNet.log hx5; have e4_ := congrArg TNet.now hx5
     have e9_ := congrArg List.length e3_
     simp only [PNet.lg] at e9_
     have hlg9 : logged n.lg top a guess = ⟨n.lg.servers, n.lg.cache, n.lg.log ++ [⟨top, a, guess⟩], n.lg.now⟩ := by unfold logged; rw [if_pos (show n.log.l.length < 400 by omega)]
     have hq9 : fetchN n.lg top a guess = logged n.lg top a guess := by
      clear hs
      unfold fetchN
      simp_all [PNet.lg, PCache.lg]
     have hA9 : (⟨x5.lg.servers, x5.lg.cache, s11.l, x5.lg.now⟩ : TNet) = logged n.lg top a guess := by rw [hlg9, e1_, e2_, hl11, e4_, show x5.log.l = n.lg.log from e3_]
     refine ⟨(⟨x5.servers, x5.cache, s11, x5.now⟩ : PNet), (by rw [hr9]; rfl), ?_, ?_⟩
     · exact hA9.trans hq9.symm
     · exact (PNet.join (⟨x5.servers, x5.cache, s11, x5.now⟩ : PNet) (hs.only (D := [ow x5.servers K10_0, ow x5.cache K10_1, ow s11 F11]) Q2) (by first | exact (Flat.any hfl10.1) | exact (show WfI (x5.now) from ⟨by omega, by omega⟩) | assumption | trivial)).fresh List.mem_cons_self
   ·
    replace h3 := of_decide_eq_false h3
    refine WC.skipn ?_
    refine WC.seq' ?_
    refine WC.seq ?_
    refine Qm ?_
    refine WL.p Q0 (Yl.not Q0) ?_
    refine WL.next ?_
    refine WC.condS Q0 (fun h4 => ?_) (fun h4 => ?_)
    ·
     replace h4 := not_eq_true h4
     refine WC.region ?_
     refine WL.p Q0 (Yl.loadAB agg39 Q0 hs Q1 Q0 Q0) ?_
     refine Qm ?_
     refine WL.p Q0 (Yl.loadAB agg45 Q0 hs Q1 Q0 Q0) ?_
     refine WL.p Q0 (Yl.loadAB agg41 Q0 hs Q1 Q0 Q0) ?_
     refine WL.call hs Q0 (Yc.func Q0 fn57) (c_impl_KeepAnswer _ _ _ _ _ (hs.okow (x := x5) (F := F5) Q1) (Ph.old h_top hs) (Ph.old h_a hs) (Flat.any (ans_ok h_n.servers _)) (by exact Nat.le_trans (Nat.le_of_eq (congrArg (fun z => lsz TServer.size z.servers) hx5)) hbs) (by exact Nat.le_trans (Nat.le_of_eq (congrArg (fun z => z.cache.size) hx5)) hbc) (by have e9 := congrArg (fun z => z.log.length) hx5; simp only [PNet.lg] at e9; first | omega | (simp only [List.length_append, List.length_singleton]; omega)) (by exact ans_pol hbs _) (by first | assumption | exact Sat.cellm hs (by assumption))) ?_
     have hs0 := hs; clear hs; intro v w hb hR hs; clear hs
     obtain ⟨x13, rfl, hx13, hf13⟩ := hR
     obtain ⟨F13, hs⟩ := hf13.sat hs0 hb; clear hs0 hf13
     refine WL.s (Yr.storeB hs Q0 Q0 Q0 Q5 Q3 Q0 (by exact szf39)) ?_
     clear hs; rintro _ w hs
     refine WL.nil ?_
     refine At.then_ ?_
     refine WC.anynX (K := [box b3 _ _, box b4 _ _]) mixed hs Q2 ?_
     clear hs; intro w hs
     refine WA.p (i := 0) Q0 Q6 Q6 Q6 Q0 (hs.only Q2) (fun w hs => Yl.loadAB agg39 Q0 hs Q1 Q0 Q0) ?_
     refine WA.p (i := 1) Q0 Q6 Q6 Q6 Q0 (hs.only Q2) (fun w hs => Yl.loadAB agg41 Q0 hs Q1 Q0 Q0) ?_
     refine WA.s (i := 2) Q6 Q0 (Yr.storeB hs Q0 Q0 Q0 Q5 Q3 Q0 (by exact szf39)) (by rintro _ w hs; exact hs.only Q2) ?_
     clear hs; rintro _ w hs
     refine WA.s (i := 3) Q6 Q0 (Yr.storeB hs Q0 Q0 Q0 Q5 Q3 Q0 (by exact szf41)) (by rintro _ w hs; exact hs.only Q2) ?_
     clear hs; rintro _ w hs
     refine WA.donen Q6 ?_
     refine WC.ret ?_
     refine fin2cc rfl agg39 agg41 Q0 Q0 hs Q1 Q1 Q0 Q0 ?_
     refine Ret.mk hs ?_
     have hr9 : fetchR n.lg top a = answerTo n.lg.servers a := by
      clear hs
      simp_all [fetchR, PNet.lg, PCache.lg]
     have e1_ := congrArg TNet.servers hx5; have e2_ := congrArg TNet.cache hx5; have e3_ := congrArg TNet.log hx5; have e4_ := congrArg TNet.now hx5
     have e9_ := congrArg List.length e3_
     simp only [PNet.lg] at e9_
     have hlg9 : logged n.lg top a guess = n.lg := by unfold logged; rw [if_neg (show ¬ n.log.l.length < 400 by omega)]
     have hq9 : fetchN n.lg top a guess = keepAnswer (logged n.lg top a guess) top a (answerTo n.lg.servers a) := by
      clear hs
      unfold fetchN
      simp_all [PNet.lg, PCache.lg]
     have hA9 : x5.lg = logged n.lg top a guess := by rw [hlg9]; exact hx5
     exact ⟨x13, (by rw [hr9]; rfl), hx13.trans ((congrArg (fun z => keepAnswer z top a (answerTo n.lg.servers a)) hA9).trans hq9.symm), hs.fresh Q1⟩
    ·
     replace h4 := not_eq_false h4
     refine WC.skipn ?_
     refine WC.anynX (K := [box b3 _ _, box b4 _ _]) mixed hs Q2 ?_
     clear hs; intro w hs
     refine WA.p (i := 0) Q0 Q6 Q6 Q6 Q0 (hs.only Q2) (fun w hs => Yl.loadAB agg39 Q0 hs Q1 Q0 Q0) ?_
     refine WA.p (i := 1) Q0 Q6 Q6 Q6 Q0 (hs.only Q2) (fun w hs => Yl.loadAB agg41 Q0 hs Q1 Q0 Q0) ?_
     refine WA.s (i := 2) Q6 Q0 (Yr.storeB hs Q0 Q0 Q0 Q5 Q3 Q0 (by exact szf39)) (by rintro _ w hs; exact hs.only Q2) ?_
     clear hs; rintro _ w hs
     refine WA.s (i := 3) Q6 Q0 (Yr.storeB hs Q0 Q0 Q0 Q5 Q3 Q0 (by exact szf41)) (by rintro _ w hs; exact hs.only Q2) ?_
     clear hs; rintro _ w hs
     refine WA.donen Q6 ?_
     refine WC.ret ?_
     refine fin2cc rfl agg39 agg41 Q0 Q0 hs Q1 Q1 Q0 Q0 ?_
     refine Ret.mk hs ?_
     have hr9 : fetchR n.lg top a = answerTo n.lg.servers a := by
      clear hs
      simp_all [fetchR, PNet.lg, PCache.lg]
     have e1_ := congrArg TNet.servers hx5; have e2_ := congrArg TNet.cache hx5; have e3_ := congrArg TNet.log hx5; have e4_ := congrArg TNet.now hx5
     have e9_ := congrArg List.length e3_
     simp only [PNet.lg] at e9_
     have hlg9 : logged n.lg top a guess = n.lg := by unfold logged; rw [if_neg (show ¬ n.log.l.length < 400 by omega)]
     have hq9 : fetchN n.lg top a guess = logged n.lg top a guess := by
      clear hs
      unfold fetchN
      simp_all [PNet.lg, PCache.lg]
     have hA9 : x5.lg = logged n.lg top a guess := by rw [hlg9]; exact hx5
     exact ⟨x5, (by rw [hr9]; rfl), hA9.trans hq9.symm, hs.fresh Q1⟩

theorem c_laws_eqResponse (a : TResponse) (b : TResponse) (w : World)   : Calls Tryz.prog 18 [.agg #[I a.status, I a.kind, S a.body, I a.age, Bo a.shares, S a.policy], .agg #[I b.status, I b.kind, S b.body, I b.age, Bo b.shares, S b.policy]].toArray w (RetP w (Bo (decide (a = b)))) := by
 refine enterN 35 Tryz.func18 rfl rfl rfl ?_
 have hs := Sat.start w
 refine WC.seq ?_
 refine WL.r Q0 (Yr.box hs Q0 Q0) ?_
 clear hs; rintro _ w ⟨b1, rfl, hb, hs⟩; clear hb
 refine WL.r Q0 (Yr.box hs Q0 Q0) ?_
 clear hs; rintro _ w ⟨b2, rfl, hb, hs⟩; clear hb
 refine Qa ?_
 refine WL.next ?_
 refine WC.seq' ?_
 refine WC.seq ?_
 refine WL.p Q0 (Yl.fieldAddr fa41_0 Q0) ?_
 refine WL.p Q0 (Yl.loadB sca3 Q0 hs Q1 Q0) ?_
 refine WL.p Q0 (Yl.fieldAddr fa41_0 Q0) ?_
 refine WL.p Q0 (Yl.loadB sca3 Q0 hs Q1 Q0) ?_
 refine WL.p Q0 (Yl.nei Q0 Q0) ?_
 refine WL.next ?_
 refine WC.condS Q0 (fun h1 => ?_) (fun h1 => ?_)
 ·
  replace h1 := not_eq_true h1
  replace h1 := of_decide_eq_false h1
  refine WC.seq ?_
  refine Qa ?_
  refine WL.next ?_
  refine WC.ret ?_
  refine At.thenret ?_
  refine fin1' rfl Q0 ?_
  refine RetP.mk hs ?_
  simp_all [TResponse.ext_iff]
 ·
  replace h1 := not_eq_false h1
  replace h1 := of_decide_eq_true h1
  refine WC.skipn ?_
  refine WC.seq' ?_
  refine WC.seq ?_
  refine WL.p Q0 (Yl.fieldAddr fa41_1 Q0) ?_
  refine WL.p Q0 (Yl.loadB sca3 Q0 hs Q1 Q0) ?_
  refine WL.p Q0 (Yl.fieldAddr fa41_1 Q0) ?_
  refine WL.p Q0 (Yl.loadB sca3 Q0 hs Q1 Q0) ?_
  refine WL.p Q0 (Yl.nei Q0 Q0) ?_
  refine WL.next ?_
  refine WC.condS Q0 (fun h2 => ?_) (fun h2 => ?_)
  ·
   replace h2 := not_eq_true h2
   replace h2 := of_decide_eq_false h2
   refine WC.seq ?_
   refine Qa ?_
   refine WL.next ?_
   refine WC.ret ?_
   refine At.thenret ?_
   refine fin1' rfl Q0 ?_
   refine RetP.mk hs ?_
   simp_all [TResponse.ext_iff]
  ·
   replace h2 := not_eq_false h2
   replace h2 := of_decide_eq_true h2
   refine WC.skipn ?_
   refine WC.seq' ?_
   refine WC.seq ?_
   refine WL.p Q0 (Yl.fieldAddr fa41_2 Q0) ?_
   refine WL.p Q0 (Yl.loadB sca9 Q0 hs Q1 Q0) ?_
   refine WL.p Q0 (Yl.fieldAddr fa41_2 Q0) ?_
   refine WL.p Q0 (Yl.loadB sca9 Q0 hs Q1 Q0) ?_
   refine WL.p Q0 (Yl.nes Q0 Q0) ?_
   refine WL.next ?_
   refine WC.condS Q0 (fun h3 => ?_) (fun h3 => ?_)
   ·
    replace h3 := not_eq_true h3
    replace h3 := of_decide_eq_false h3
    refine WC.seq ?_
    refine Qa ?_
    refine WL.next ?_
    refine WC.ret ?_
    refine At.thenret ?_
    refine fin1' rfl Q0 ?_
    refine RetP.mk hs ?_
    simp_all [TResponse.ext_iff]
   ·
    replace h3 := not_eq_false h3
    replace h3 := of_decide_eq_true h3
    refine WC.skipn ?_
    refine WC.seq' ?_
    refine WC.seq ?_
    refine WL.p Q0 (Yl.fieldAddr fa41_3 Q0) ?_
    refine WL.p Q0 (Yl.loadB sca3 Q0 hs Q1 Q0) ?_
    refine WL.p Q0 (Yl.fieldAddr fa41_3 Q0) ?_
    refine WL.p Q0 (Yl.loadB sca3 Q0 hs Q1 Q0) ?_
    refine WL.p Q0 (Yl.nei Q0 Q0) ?_
    refine WL.next ?_
    refine WC.condS Q0 (fun h4 => ?_) (fun h4 => ?_)
    ·
     replace h4 := not_eq_true h4
     replace h4 := of_decide_eq_false h4
     refine WC.seq ?_
     refine Qa ?_
     refine WL.next ?_
     refine WC.ret ?_
     refine At.thenret ?_
     refine fin1' rfl Q0 ?_
     refine RetP.mk hs ?_
     simp_all [TResponse.ext_iff]
    ·
     replace h4 := not_eq_false h4
     replace h4 := of_decide_eq_true h4
     refine WC.skipn ?_
     refine WC.seq' ?_
     refine WC.seq ?_
     refine WL.p Q0 (Yl.fieldAddr fa41_4 Q0) ?_
     refine WL.p Q0 (Yl.loadB sca4 Q0 hs Q1 Q0) ?_
     refine WL.p Q0 (Yl.fieldAddr fa41_4 Q0) ?_
     refine WL.p Q0 (Yl.loadB sca4 Q0 hs Q1 Q0) ?_
     refine WL.p Q0 (Yl.neb bool4 Q0 Q0) ?_
     refine WL.next ?_
     refine WC.condS Q0 (fun h5 => ?_) (fun h5 => ?_)
     ·
      replace h5 := not_eq_true h5
      replace h5 := beq_false h5
      refine WC.seq ?_
      refine Qa ?_
      refine WL.next ?_
      refine WC.ret ?_
      refine At.thenret ?_
      refine fin1' rfl Q0 ?_
      refine RetP.mk hs ?_
      simp_all [TResponse.ext_iff]
     ·
      replace h5 := not_eq_false h5
      replace h5 := beq_true h5
      refine WC.skipn ?_
      refine WC.seq' ?_
      refine WC.seq ?_
      refine WL.p Q0 (Yl.fieldAddr fa41_5 Q0) ?_
      refine WL.p Q0 (Yl.loadB sca9 Q0 hs Q1 Q0) ?_
      refine WL.p Q0 (Yl.fieldAddr fa41_5 Q0) ?_
      refine WL.p Q0 (Yl.loadB sca9 Q0 hs Q1 Q0) ?_
      refine WL.p Q0 (Yl.nes Q0 Q0) ?_
      refine WL.next ?_
      refine WC.condS Q0 (fun h6 => ?_) (fun h6 => ?_)
      ·
       replace h6 := not_eq_true h6
       replace h6 := of_decide_eq_false h6
       refine WC.seq ?_
       refine Qa ?_
       refine WL.next ?_
       refine WC.ret ?_
       refine At.thenret ?_
       refine fin1' rfl Q0 ?_
       refine RetP.mk hs ?_
       simp_all [TResponse.ext_iff]
      ·
       replace h6 := not_eq_false h6
       replace h6 := of_decide_eq_true h6
       refine WC.skipn ?_
       refine WC.seq ?_
       refine Qa ?_
       refine WL.next ?_
       refine WC.ret ?_
       refine fin1' rfl Q0 ?_
       refine RetP.mk hs ?_
       simp_all [TResponse.ext_iff]

theorem c_laws_eqFile (a : TFile) (b : TFile) (w : World)   : Calls Tryz.prog 215 [.agg #[S a.path, I a.response.status, I a.response.kind, S a.response.body, I a.response.age, Bo a.response.shares, S a.response.policy], .agg #[S b.path, I b.response.status, I b.response.kind, S b.response.body, I b.response.age, Bo b.response.shares, S b.response.policy]].toArray w (RetP w (Bo (decide (a = b)))) := by
 refine enterN 16 Tryz.func215 rfl rfl rfl ?_
 have hs := Sat.start w
 refine WC.seq ?_
 refine WL.r Q0 (Yr.box hs Q0 Q0) ?_
 clear hs; rintro _ w ⟨b1, rfl, hb, hs⟩; clear hb
 refine WL.r Q0 (Yr.box hs Q0 Q0) ?_
 clear hs; rintro _ w ⟨b2, rfl, hb, hs⟩; clear hb
 refine Qa ?_
 refine WL.next ?_
 refine WC.seq' ?_
 refine WC.seq ?_
 refine WL.p Q0 (Yl.fieldAddr fa187_0 Q0) ?_
 refine WL.p Q0 (Yl.loadB sca9 Q0 hs Q1 Q0) ?_
 refine WL.p Q0 (Yl.fieldAddr fa187_0 Q0) ?_
 refine WL.p Q0 (Yl.loadB sca9 Q0 hs Q1 Q0) ?_
 refine WL.p Q0 (Yl.nes Q0 Q0) ?_
 refine WL.next ?_
 refine WC.condS Q0 (fun h1 => ?_) (fun h1 => ?_)
 ·
  replace h1 := not_eq_true h1
  replace h1 := of_decide_eq_false h1
  refine WC.seq ?_
  refine Qa ?_
  refine WL.next ?_
  refine WC.ret ?_
  refine At.thenret ?_
  refine fin1' rfl Q0 ?_
  refine RetP.mk hs ?_
  simp_all [TFile.ext_iff]
 ·
  replace h1 := not_eq_false h1
  replace h1 := of_decide_eq_true h1
  refine WC.skipn ?_
  refine WC.seq' ?_
  refine WC.seq ?_
  refine WL.p Q0 (Yl.fieldAddr fa187_1 Q0) ?_
  refine WL.p Q0 (Yl.loadAB agg41 Q0 hs Q1 Q0 Q0) ?_
  refine WL.p Q0 (Yl.fieldAddr fa187_1 Q0) ?_
  refine WL.p Q0 (Yl.loadAB agg41 Q0 hs Q1 Q0 Q0) ?_
  refine WL.callp hs Q0 (Yc.func Q0 fn18) (c_laws_eqResponse _ _ _) ?_
  clear hs; intro w hs
  refine WL.p Q0 (Yl.not Q0) ?_
  refine WL.next ?_
  refine WC.condS Q0 (fun h2 => ?_) (fun h2 => ?_)
  ·
   replace h2 := not_eq_true h2
   replace h2 := of_decide_eq_false h2
   refine WC.seq ?_
   refine Qa ?_
   refine WL.next ?_
   refine WC.ret ?_
   refine At.thenret ?_
   refine fin1' rfl Q0 ?_
   refine RetP.mk hs ?_
   simp_all [TFile.ext_iff]
  ·
   replace h2 := not_eq_false h2
   replace h2 := of_decide_eq_true h2
   refine WC.skipn ?_
   refine WC.seq ?_
   refine Qa ?_
   refine WL.next ?_
   refine WC.ret ?_
   refine fin1' rfl Q0 ?_
   refine RetP.mk hs ?_
   simp_all [TFile.ext_iff]

theorem c_laws_eqFileS (a : (Sl TFile)) (b : (Sl TFile)) (w : World) (h_a : Ph.ok w a) (h_b : Ph.ok w b)  : Calls Tryz.prog 186 [Sl.v a, Sl.v b].toArray w (RetP w (Bo (decide (a.l = b.l)))) := by
 have hw := h_a.lt
 refine enterN 27 Tryz.func186 rfl rfl rfl ?_
 have hs := Sat.start w
 refine WC.seq ?_
 refine Qa ?_
 refine WL.next ?_
 refine WC.seq' ?_
 refine WC.seq ?_
 refine Qm ?_
 refine WL.p Q0 (Yl.len_sl slu183 Q0) ?_
 refine Qm ?_
 refine WL.p Q0 (Yl.len_sl slu183 Q0) ?_
 refine WL.p Q0 (Yl.nei Q0 Q0) ?_
 refine WL.next ?_
 refine WC.condS Q0 (fun h1 => ?_) (fun h1 => ?_)
 ·
  replace h1 := not_eq_true h1
  replace h1 := of_decide_eq_false h1
  refine WC.seq ?_
  refine Qa ?_
  refine WL.next ?_
  refine WC.ret ?_
  refine At.thenret ?_
  refine fin1' rfl Q0 ?_
  refine RetP.mk hs ?_
  have hne : ¬ a.l = b.l := by
   intro h
   have h2 := congrArg List.length h
   try simp at h2
   omega
  simp only [hne, decide_false]
 ·
  replace h1 := not_eq_false h1
  replace h1 := of_decide_eq_true h1
  refine WC.skipn ?_
  refine WC.seq' ?_
  refine WC.seq ?_
  refine Qa ?_
  refine WL.next ?_
  refine WC.block ?_
  refine WC.loopC (ι := Nat) (fun k => a.l.length - k) (fun k => [(5, I (k : Int))]) (fun _ => []) (fun k => decide (a.l = b.l) = decide (a.l.drop k = b.l.drop k)) [(0, _), (1, _), (6, _), (7, _), (8, _), (9, _), (10, _)] 0 (hs) ⟨by rfl, by rfl, by rfl, by rfl, by rfl, by rfl, by rfl, trivial⟩ ⟨by rfl, trivial⟩ ?_ ?_
  ·
   simp
  clear hs; rintro k w hJ hs
  simp only [List.nil_append] at hs
  refine WC.seq' ?_
  refine WC.seq ?_
  refine Qm ?_
  refine Qm ?_
  refine WL.p Q0 (Yl.len_sl slu183 Q0) ?_
  refine WL.p Q0 (Yl.lss Q0 Q0) ?_
  refine WL.next ?_
  refine WC.condS Q0 (fun h2 => ?_) (fun h2 => ?_)
  ·
   replace h2 := of_decide_eq_true h2
   obtain ⟨d, hd⟩ := exists_get (l := a.l) (k := k) Q7
   obtain ⟨d2, hd2⟩ := exists_get (l := b.l) (k := k) Q7
   rw [drop_cons hd, drop_cons hd2] at hJ
   refine WC.skipn ?_
   refine WC.seq' ?_
   refine WC.block ?_
   refine WC.quietn mixed Q6 hs ?_
   refine WQ.p Q0 (fun w hs => Yl.move Q0) ?_
   refine WQ.p Q0 (fun w hs => Yl.move Q0) ?_
   refine WQ.p Q0 (fun w hs => Yl.indexAddr slt183 Q0 Q0 (Ph.old h_a hs) Q0 (hd)) ?_
   refine WQ.p Q0 (fun w hs => Yl.loadA agg187 Q0 (Sl.Ok.at_ (Ph.old h_a hs) (by assumption)).2 Q0) ?_
   refine WQ.p Q0 (fun w hs => Yl.move Q0) ?_
   refine WQ.p Q0 (fun w hs => Yl.move Q0) ?_
   refine WQ.p Q0 (fun w hs => Yl.indexAddr slt183 Q0 Q0 (Ph.old h_b hs) Q0 (hd2)) ?_
   refine WQ.p Q0 (fun w hs => Yl.loadA agg187 Q0 (Sl.Ok.at_ (Ph.old h_b hs) (by assumption)).2 Q0) ?_
   refine WQ.callp Q0 (fun w => Yc.func Q0 fn215) (fun w hs => (c_laws_eqFile _ _ _)) (fun _ _ hs hb => hs.ext hb) ?_
   refine WQ.p Q0 (fun w hs => Yl.not Q0) ?_
   refine WQ.next ?_
   clear hs; intro w hs
   refine WC.condS Q0 (fun h3 => ?_) (fun h3 => ?_)
   ·
    replace h3 := not_eq_true h3
    replace h3 := of_decide_eq_false h3
    refine WC.seq ?_
    refine Qa ?_
    refine WL.next ?_
    refine WC.ret ?_
    refine At.blockret ?_
    refine At.thenret ?_
    refine At.thenret ?_
    refine At.blockret ?_
    refine At.thenret ?_
    refine fin1' rfl Q0 ?_
    refine RetP.mk hs ?_
    rw [hJ]; simp_all
   ·
    replace h3 := not_eq_false h3
    replace h3 := of_decide_eq_true h3
    refine WC.skip ?_
    refine At.blocknormal ?_
    refine At.then_ ?_
    refine WC.region ?_
    refine Qm ?_
    refine WL.p Q0 (Yl.add Q0 Q0 Q7) ?_
    refine Qa ?_
    refine WL.nil ?_
    refine At.roundC (k + 1) (hs.only Q2) ⟨by rfl, by rfl, by rfl, by rfl, by rfl, by rfl, by rfl, trivial⟩ ⟨by rfl, trivial⟩ ?_ ?_
    ·
     omega
    ·
     rw [hJ]; simp_all
  ·
   replace h2 := of_decide_eq_false h2
   rw [drop_out (l := a.l) Q7, drop_out (l := b.l) Q7] at hJ
   refine WC.exit ?_
   refine At.thenexit ?_
   refine At.thenexit ?_
   refine At.blockexit ?_
   refine At.then_ ?_
   refine WC.seq ?_
   refine Qa ?_
   refine WL.next ?_
   refine WC.ret ?_
   refine fin1' rfl Q0 ?_
   refine RetP.mk hs ?_
   rw [hJ]; simp_all

theorem c_laws_eqServer (a : PServer) (b : PServer) (w : World) (h_a : Ph.ok w a) (h_b : Ph.ok w b)  : Calls Tryz.prog 147 [.agg #[S a.host, Sl.v a.files], .agg #[S b.host, Sl.v b.files]].toArray w (RetP w (Bo (decide (a.lg = b.lg)))) := by
 refine enterN 16 Tryz.func147 rfl rfl rfl ?_
 have hs := Sat.start w
 refine WC.seq ?_
 refine WL.r Q0 (Yr.box hs Q0 Q0) ?_
 clear hs; rintro _ w ⟨b1, rfl, hb, hs⟩; clear hb
 refine WL.r Q0 (Yr.box hs Q0 Q0) ?_
 clear hs; rintro _ w ⟨b2, rfl, hb, hs⟩; clear hb
 refine Qa ?_
 refine WL.next ?_
 refine WC.seq' ?_
 refine WC.seq ?_
 refine WL.p Q0 (Yl.fieldAddr fa185_0 Q0) ?_
 refine WL.p Q0 (Yl.loadB sca9 Q0 hs Q1 Q0) ?_
 refine WL.p Q0 (Yl.fieldAddr fa185_0 Q0) ?_
 refine WL.p Q0 (Yl.loadB sca9 Q0 hs Q1 Q0) ?_
 refine WL.p Q0 (Yl.nes Q0 Q0) ?_
 refine WL.next ?_
 refine WC.condS Q0 (fun h1 => ?_) (fun h1 => ?_)
 ·
  replace h1 := not_eq_true h1
  replace h1 := of_decide_eq_false h1
  refine WC.seq ?_
  refine Qa ?_
  refine WL.next ?_
  refine WC.ret ?_
  refine At.thenret ?_
  refine fin1' rfl Q0 ?_
  refine RetP.mk hs ?_
  simp_all [TServer.ext_iff]
 ·
  replace h1 := not_eq_false h1
  replace h1 := of_decide_eq_true h1
  refine WC.skipn ?_
  refine WC.seq' ?_
  refine WC.seq ?_
  refine WL.p Q0 (Yl.fieldAddr fa185_1 Q0) ?_
  refine WL.p Q0 (Yl.loadB sca183 Q0 hs Q1 Q0) ?_
  refine WL.p Q0 (Yl.fieldAddr fa185_1 Q0) ?_
  refine WL.p Q0 (Yl.loadB sca183 Q0 hs Q1 Q0) ?_
  refine WL.callp hs Q0 (Yc.func Q0 fn186) (c_laws_eqFileS _ _ _ (Ph.old h_a.files hs) (Ph.old h_b.files hs)) ?_
  clear hs; intro w hs
  refine WL.p Q0 (Yl.not Q0) ?_
  refine WL.next ?_
  refine WC.condS Q0 (fun h2 => ?_) (fun h2 => ?_)
  ·
   replace h2 := not_eq_true h2
   replace h2 := of_decide_eq_false h2
   refine WC.seq ?_
   refine Qa ?_
   refine WL.next ?_
   refine WC.ret ?_
   refine At.thenret ?_
   refine fin1' rfl Q0 ?_
   refine RetP.mk hs ?_
   simp_all [TServer.ext_iff]
  ·
   replace h2 := not_eq_false h2
   replace h2 := of_decide_eq_true h2
   refine WC.skipn ?_
   refine WC.seq ?_
   refine Qa ?_
   refine WL.next ?_
   refine WC.ret ?_
   refine fin1' rfl Q0 ?_
   refine RetP.mk hs ?_
   simp_all [TServer.ext_iff]

theorem c_laws_eqServerS (a : (Sl PServer)) (b : (Sl PServer)) (w : World) (h_a : Ph.ok w a) (h_b : Ph.ok w b)  : Calls Tryz.prog 76 [Sl.v a, Sl.v b].toArray w (RetP w (Bo (decide ((a.l).map PServer.lg = (b.l).map PServer.lg)))) := by
 have hw := h_a.lt
 refine enterN 27 Tryz.func76 rfl rfl rfl ?_
 have hs := Sat.start w
 refine WC.seq ?_
 refine Qa ?_
 refine WL.next ?_
 refine WC.seq' ?_
 refine WC.seq ?_
 refine Qm ?_
 refine WL.p Q0 (Yl.len_sl slu33 Q0) ?_
 refine Qm ?_
 refine WL.p Q0 (Yl.len_sl slu33 Q0) ?_
 refine WL.p Q0 (Yl.nei Q0 Q0) ?_
 refine WL.next ?_
 refine WC.condS Q0 (fun h1 => ?_) (fun h1 => ?_)
 ·
  replace h1 := not_eq_true h1
  replace h1 := of_decide_eq_false h1
  refine WC.seq ?_
  refine Qa ?_
  refine WL.next ?_
  refine WC.ret ?_
  refine At.thenret ?_
  refine fin1' rfl Q0 ?_
  refine RetP.mk hs ?_
  have hne : ¬ (a.l).map PServer.lg = (b.l).map PServer.lg := by
   intro h
   have h2 := congrArg List.length h
   try simp at h2
   omega
  simp only [hne, decide_false]
 ·
  replace h1 := not_eq_false h1
  replace h1 := of_decide_eq_true h1
  refine WC.skipn ?_
  refine WC.seq' ?_
  refine WC.seq ?_
  refine Qa ?_
  refine WL.next ?_
  refine WC.block ?_
  refine WC.loopC (ι := Nat) (fun k => a.l.length - k) (fun k => [(5, I (k : Int))]) (fun _ => []) (fun k => decide ((a.l).map PServer.lg = (b.l).map PServer.lg) = decide ((a.l.drop k).map PServer.lg = (b.l.drop k).map PServer.lg)) [(0, _), (1, _), (6, _), (7, _), (8, _), (9, _), (10, _)] 0 (hs) ⟨by rfl, by rfl, by rfl, by rfl, by rfl, by rfl, by rfl, trivial⟩ ⟨by rfl, trivial⟩ ?_ ?_
  ·
   simp
  clear hs; rintro k w hJ hs
  simp only [List.nil_append] at hs
  refine WC.seq' ?_
  refine WC.seq ?_
  refine Qm ?_
  refine Qm ?_
  refine WL.p Q0 (Yl.len_sl slu33 Q0) ?_
  refine WL.p Q0 (Yl.lss Q0 Q0) ?_
  refine WL.next ?_
  refine WC.condS Q0 (fun h2 => ?_) (fun h2 => ?_)
  ·
   replace h2 := of_decide_eq_true h2
   obtain ⟨d, hd⟩ := exists_get (l := a.l) (k := k) Q7
   obtain ⟨d2, hd2⟩ := exists_get (l := b.l) (k := k) Q7
   rw [drop_cons hd, drop_cons hd2] at hJ
   refine WC.skipn ?_
   refine WC.seq' ?_
   refine WC.block ?_
   refine WC.quietn mixed Q6 hs ?_
   refine WQ.p Q0 (fun w hs => Yl.move Q0) ?_
   refine WQ.p Q0 (fun w hs => Yl.move Q0) ?_
   refine WQ.p Q0 (fun w hs => Yl.indexAddr slt33 Q0 Q0 (Ph.old h_a hs) Q0 (hd)) ?_
   refine WQ.p Q0 (fun w hs => Yl.loadA agg185 Q0 (Sl.Ok.at_ (Ph.old h_a hs) (by assumption)).2 Q0) ?_
   refine WQ.p Q0 (fun w hs => Yl.move Q0) ?_
   refine WQ.p Q0 (fun w hs => Yl.move Q0) ?_
   refine WQ.p Q0 (fun w hs => Yl.indexAddr slt33 Q0 Q0 (Ph.old h_b hs) Q0 (hd2)) ?_
   refine WQ.p Q0 (fun w hs => Yl.loadA agg185 Q0 (Sl.Ok.at_ (Ph.old h_b hs) (by assumption)).2 Q0) ?_
   refine WQ.callp Q0 (fun w => Yc.func Q0 fn147) (fun w hs => (c_laws_eqServer _ _ _ (Ph.old (Sl.Ok.elem h_a hd) hs) (Ph.old (Sl.Ok.elem h_b hd2) hs))) (fun _ _ hs hb => hs.ext hb) ?_
   refine WQ.p Q0 (fun w hs => Yl.not Q0) ?_
   refine WQ.next ?_
   clear hs; intro w hs
   refine WC.condS Q0 (fun h3 => ?_) (fun h3 => ?_)
   ·
    replace h3 := not_eq_true h3
    replace h3 := of_decide_eq_false h3
    refine WC.seq ?_
    refine Qa ?_
    refine WL.next ?_
    refine WC.ret ?_
    refine At.blockret ?_
    refine At.thenret ?_
    refine At.thenret ?_
    refine At.blockret ?_
    refine At.thenret ?_
    refine fin1' rfl Q0 ?_
    refine RetP.mk hs ?_
    rw [hJ]; simp_all
   ·
    replace h3 := not_eq_false h3
    replace h3 := of_decide_eq_true h3
    refine WC.skip ?_
    refine At.blocknormal ?_
    refine At.then_ ?_
    refine WC.region ?_
    refine Qm ?_
    refine WL.p Q0 (Yl.add Q0 Q0 Q7) ?_
    refine Qa ?_
    refine WL.nil ?_
    refine At.roundC (k + 1) (hs.only Q2) ⟨by rfl, by rfl, by rfl, by rfl, by rfl, by rfl, by rfl, trivial⟩ ⟨by rfl, trivial⟩ ?_ ?_
    ·
     omega
    ·
     rw [hJ]; simp_all
  ·
   replace h2 := of_decide_eq_false h2
   rw [drop_out (l := a.l) Q7, drop_out (l := b.l) Q7] at hJ
   refine WC.exit ?_
   refine At.thenexit ?_
   refine At.thenexit ?_
   refine At.blockexit ?_
   refine At.then_ ?_
   refine WC.seq ?_
   refine Qa ?_
   refine WL.next ?_
   refine WC.ret ?_
   refine fin1' rfl Q0 ?_
   refine RetP.mk hs ?_
   rw [hJ]; simp_all

theorem c_laws_eqAddr (a : TAddr) (b : TAddr) (w : World)   : Calls Tryz.prog 188 [.agg #[S a.host, S a.path], .agg #[S b.host, S b.path]].toArray w (RetP w (Bo (decide (a = b)))) := by
 refine enterN 15 Tryz.func188 rfl rfl rfl ?_
 have hs := Sat.start w
 refine WC.seq ?_
 refine WL.r Q0 (Yr.box hs Q0 Q0) ?_
 clear hs; rintro _ w ⟨b1, rfl, hb, hs⟩; clear hb
 refine WL.r Q0 (Yr.box hs Q0 Q0) ?_
 clear hs; rintro _ w ⟨b2, rfl, hb, hs⟩; clear hb
 refine Qa ?_
 refine WL.next ?_
 refine WC.seq' ?_
 refine WC.seq ?_
 refine WL.p Q0 (Yl.fieldAddr fa45_0 Q0) ?_
 refine WL.p Q0 (Yl.loadB sca9 Q0 hs Q1 Q0) ?_
 refine WL.p Q0 (Yl.fieldAddr fa45_0 Q0) ?_
 refine WL.p Q0 (Yl.loadB sca9 Q0 hs Q1 Q0) ?_
 refine WL.p Q0 (Yl.nes Q0 Q0) ?_
 refine WL.next ?_
 refine WC.condS Q0 (fun h1 => ?_) (fun h1 => ?_)
 ·
  replace h1 := not_eq_true h1
  replace h1 := of_decide_eq_false h1
  refine WC.seq ?_
  refine Qa ?_
  refine WL.next ?_
  refine WC.ret ?_
  refine At.thenret ?_
  refine fin1' rfl Q0 ?_
  refine RetP.mk hs ?_
  simp_all [TAddr.ext_iff]
 ·
  replace h1 := not_eq_false h1
  replace h1 := of_decide_eq_true h1
  refine WC.skipn ?_
  refine WC.seq' ?_
  refine WC.seq ?_
  refine WL.p Q0 (Yl.fieldAddr fa45_1 Q0) ?_
  refine WL.p Q0 (Yl.loadB sca9 Q0 hs Q1 Q0) ?_
  refine WL.p Q0 (Yl.fieldAddr fa45_1 Q0) ?_
  refine WL.p Q0 (Yl.loadB sca9 Q0 hs Q1 Q0) ?_
  refine WL.p Q0 (Yl.nes Q0 Q0) ?_
  refine WL.next ?_
  refine WC.condS Q0 (fun h2 => ?_) (fun h2 => ?_)
  ·
   replace h2 := not_eq_true h2
   replace h2 := of_decide_eq_false h2
   refine WC.seq ?_
   refine Qa ?_
   refine WL.next ?_
   refine WC.ret ?_
   refine At.thenret ?_
   refine fin1' rfl Q0 ?_
   refine RetP.mk hs ?_
   simp_all [TAddr.ext_iff]
  ·
   replace h2 := not_eq_false h2
   replace h2 := of_decide_eq_true h2
   refine WC.skipn ?_
   refine WC.seq ?_
   refine Qa ?_
   refine WL.next ?_
   refine WC.ret ?_
   refine fin1' rfl Q0 ?_
   refine RetP.mk hs ?_
   simp_all [TAddr.ext_iff]

theorem c_laws_eqEntry (a : TEntry) (b : TEntry) (w : World)   : Calls Tryz.prog 187 [.agg #[S a.top, S a.to.host, S a.to.path, I a.response.status, I a.response.kind, S a.response.body, I a.response.age, Bo a.response.shares, S a.response.policy, I a.until_], .agg #[S b.top, S b.to.host, S b.to.path, I b.response.status, I b.response.kind, S b.response.body, I b.response.age, Bo b.response.shares, S b.response.policy, I b.until_]].toArray w (RetP w (Bo (decide (a = b)))) := by
 refine enterN 27 Tryz.func187 rfl rfl rfl ?_
 have hs := Sat.start w
 refine WC.seq ?_
 refine WL.r Q0 (Yr.box hs Q0 Q0) ?_
 clear hs; rintro _ w ⟨b1, rfl, hb, hs⟩; clear hb
 refine WL.r Q0 (Yr.box hs Q0 Q0) ?_
 clear hs; rintro _ w ⟨b2, rfl, hb, hs⟩; clear hb
 refine Qa ?_
 refine WL.next ?_
 refine WC.seq' ?_
 refine WC.seq ?_
 refine WL.p Q0 (Yl.fieldAddr fa180_0 Q0) ?_
 refine WL.p Q0 (Yl.loadB sca9 Q0 hs Q1 Q0) ?_
 refine WL.p Q0 (Yl.fieldAddr fa180_0 Q0) ?_
 refine WL.p Q0 (Yl.loadB sca9 Q0 hs Q1 Q0) ?_
 refine WL.p Q0 (Yl.nes Q0 Q0) ?_
 refine WL.next ?_
 refine WC.condS Q0 (fun h1 => ?_) (fun h1 => ?_)
 ·
  replace h1 := not_eq_true h1
  replace h1 := of_decide_eq_false h1
  refine WC.seq ?_
  refine Qa ?_
  refine WL.next ?_
  refine WC.ret ?_
  refine At.thenret ?_
  refine fin1' rfl Q0 ?_
  refine RetP.mk hs ?_
  simp_all [TEntry.ext_iff]
 ·
  replace h1 := not_eq_false h1
  replace h1 := of_decide_eq_true h1
  refine WC.skipn ?_
  refine WC.seq' ?_
  refine WC.seq ?_
  refine WL.p Q0 (Yl.fieldAddr fa180_1 Q0) ?_
  refine WL.p Q0 (Yl.loadAB agg45 Q0 hs Q1 Q0 Q0) ?_
  refine WL.p Q0 (Yl.fieldAddr fa180_1 Q0) ?_
  refine WL.p Q0 (Yl.loadAB agg45 Q0 hs Q1 Q0 Q0) ?_
  refine WL.callp hs Q0 (Yc.func Q0 fn188) (c_laws_eqAddr _ _ _) ?_
  clear hs; intro w hs
  refine WL.p Q0 (Yl.not Q0) ?_
  refine WL.next ?_
  refine WC.condS Q0 (fun h2 => ?_) (fun h2 => ?_)
  ·
   replace h2 := not_eq_true h2
   replace h2 := of_decide_eq_false h2
   refine WC.seq ?_
   refine Qa ?_
   refine WL.next ?_
   refine WC.ret ?_
   refine At.thenret ?_
   refine fin1' rfl Q0 ?_
   refine RetP.mk hs ?_
   simp_all [TEntry.ext_iff]
  ·
   replace h2 := not_eq_false h2
   replace h2 := of_decide_eq_true h2
   refine WC.skipn ?_
   refine WC.seq' ?_
   refine WC.seq ?_
   refine WL.p Q0 (Yl.fieldAddr fa180_2 Q0) ?_
   refine WL.p Q0 (Yl.loadAB agg41 Q0 hs Q1 Q0 Q0) ?_
   refine WL.p Q0 (Yl.fieldAddr fa180_2 Q0) ?_
   refine WL.p Q0 (Yl.loadAB agg41 Q0 hs Q1 Q0 Q0) ?_
   refine WL.callp hs Q0 (Yc.func Q0 fn18) (c_laws_eqResponse _ _ _) ?_
   clear hs; intro w hs
   refine WL.p Q0 (Yl.not Q0) ?_
   refine WL.next ?_
   refine WC.condS Q0 (fun h3 => ?_) (fun h3 => ?_)
   ·
    replace h3 := not_eq_true h3
    replace h3 := of_decide_eq_false h3
    refine WC.seq ?_
    refine Qa ?_
    refine WL.next ?_
    refine WC.ret ?_
    refine At.thenret ?_
    refine fin1' rfl Q0 ?_
    refine RetP.mk hs ?_
    simp_all [TEntry.ext_iff]
   ·
    replace h3 := not_eq_false h3
    replace h3 := of_decide_eq_true h3
    refine WC.skipn ?_
    refine WC.seq' ?_
    refine WC.seq ?_
    refine WL.p Q0 (Yl.fieldAddr fa180_3 Q0) ?_
    refine WL.p Q0 (Yl.loadB sca3 Q0 hs Q1 Q0) ?_
    refine WL.p Q0 (Yl.fieldAddr fa180_3 Q0) ?_
    refine WL.p Q0 (Yl.loadB sca3 Q0 hs Q1 Q0) ?_
    refine WL.p Q0 (Yl.nei Q0 Q0) ?_
    refine WL.next ?_
    refine WC.condS Q0 (fun h4 => ?_) (fun h4 => ?_)
    ·
     replace h4 := not_eq_true h4
     replace h4 := of_decide_eq_false h4
     refine WC.seq ?_
     refine Qa ?_
     refine WL.next ?_
     refine WC.ret ?_
     refine At.thenret ?_
     refine fin1' rfl Q0 ?_
     refine RetP.mk hs ?_
     simp_all [TEntry.ext_iff]
    ·
     replace h4 := not_eq_false h4
     replace h4 := of_decide_eq_true h4
     refine WC.skipn ?_
     refine WC.seq ?_
     refine Qa ?_
     refine WL.next ?_
     refine WC.ret ?_
     refine fin1' rfl Q0 ?_
     refine RetP.mk hs ?_
     simp_all [TEntry.ext_iff]

theorem c_laws_eqEntryS (a : (Sl TEntry)) (b : (Sl TEntry)) (w : World) (h_a : Ph.ok w a) (h_b : Ph.ok w b)  : Calls Tryz.prog 148 [Sl.v a, Sl.v b].toArray w (RetP w (Bo (decide (a.l = b.l)))) := by
 have hw := h_a.lt
 refine enterN 27 Tryz.func148 rfl rfl rfl ?_
 have hs := Sat.start w
 refine WC.seq ?_
 refine Qa ?_
 refine WL.next ?_
 refine WC.seq' ?_
 refine WC.seq ?_
 refine Qm ?_
 refine WL.p Q0 (Yl.len_sl slu34 Q0) ?_
 refine Qm ?_
 refine WL.p Q0 (Yl.len_sl slu34 Q0) ?_
 refine WL.p Q0 (Yl.nei Q0 Q0) ?_
 refine WL.next ?_
 refine WC.condS Q0 (fun h1 => ?_) (fun h1 => ?_)
 ·
  replace h1 := not_eq_true h1
  replace h1 := of_decide_eq_false h1
  refine WC.seq ?_
  refine Qa ?_
  refine WL.next ?_
  refine WC.ret ?_
  refine At.thenret ?_
  refine fin1' rfl Q0 ?_
  refine RetP.mk hs ?_
  have hne : ¬ a.l = b.l := by
   intro h
   have h2 := congrArg List.length h
   try simp at h2
   omega
  simp only [hne, decide_false]
 ·
  replace h1 := not_eq_false h1
  replace h1 := of_decide_eq_true h1
  refine WC.skipn ?_
  refine WC.seq' ?_
  refine WC.seq ?_
  refine Qa ?_
  refine WL.next ?_
  refine WC.block ?_
  refine WC.loopC (ι := Nat) (fun k => a.l.length - k) (fun k => [(5, I (k : Int))]) (fun _ => []) (fun k => decide (a.l = b.l) = decide (a.l.drop k = b.l.drop k)) [(0, _), (1, _), (6, _), (7, _), (8, _), (9, _), (10, _)] 0 (hs) ⟨by rfl, by rfl, by rfl, by rfl, by rfl, by rfl, by rfl, trivial⟩ ⟨by rfl, trivial⟩ ?_ ?_
  ·
   simp
  clear hs; rintro k w hJ hs
  simp only [List.nil_append] at hs
  refine WC.seq' ?_
  refine WC.seq ?_
  refine Qm ?_
  refine Qm ?_
  refine WL.p Q0 (Yl.len_sl slu34 Q0) ?_
  refine WL.p Q0 (Yl.lss Q0 Q0) ?_
  refine WL.next ?_
  refine WC.condS Q0 (fun h2 => ?_) (fun h2 => ?_)
  ·
   replace h2 := of_decide_eq_true h2
   obtain ⟨d, hd⟩ := exists_get (l := a.l) (k := k) Q7
   obtain ⟨d2, hd2⟩ := exists_get (l := b.l) (k := k) Q7
   rw [drop_cons hd, drop_cons hd2] at hJ
   refine WC.skipn ?_
   refine WC.seq' ?_
   refine WC.block ?_
   refine WC.quietn mixed Q6 hs ?_
   refine WQ.p Q0 (fun w hs => Yl.move Q0) ?_
   refine WQ.p Q0 (fun w hs => Yl.move Q0) ?_
   refine WQ.p Q0 (fun w hs => Yl.indexAddr slt34 Q0 Q0 (Ph.old h_a hs) Q0 (hd)) ?_
   refine WQ.p Q0 (fun w hs => Yl.loadA agg180 Q0 (Sl.Ok.at_ (Ph.old h_a hs) (by assumption)).2 Q0) ?_
   refine WQ.p Q0 (fun w hs => Yl.move Q0) ?_
   refine WQ.p Q0 (fun w hs => Yl.move Q0) ?_
   refine WQ.p Q0 (fun w hs => Yl.indexAddr slt34 Q0 Q0 (Ph.old h_b hs) Q0 (hd2)) ?_
   refine WQ.p Q0 (fun w hs => Yl.loadA agg180 Q0 (Sl.Ok.at_ (Ph.old h_b hs) (by assumption)).2 Q0) ?_
   refine WQ.callp Q0 (fun w => Yc.func Q0 fn187) (fun w hs => (c_laws_eqEntry _ _ _)) (fun _ _ hs hb => hs.ext hb) ?_
   refine WQ.p Q0 (fun w hs => Yl.not Q0) ?_
   refine WQ.next ?_
   clear hs; intro w hs
   refine WC.condS Q0 (fun h3 => ?_) (fun h3 => ?_)
   ·
    replace h3 := not_eq_true h3
    replace h3 := of_decide_eq_false h3
    refine WC.seq ?_
    refine Qa ?_
    refine WL.next ?_
    refine WC.ret ?_
    refine At.blockret ?_
    refine At.thenret ?_
    refine At.thenret ?_
    refine At.blockret ?_
    refine At.thenret ?_
    refine fin1' rfl Q0 ?_
    refine RetP.mk hs ?_
    rw [hJ]; simp_all
   ·
    replace h3 := not_eq_false h3
    replace h3 := of_decide_eq_true h3
    refine WC.skip ?_
    refine At.blocknormal ?_
    refine At.then_ ?_
    refine WC.region ?_
    refine Qm ?_
    refine WL.p Q0 (Yl.add Q0 Q0 Q7) ?_
    refine Qa ?_
    refine WL.nil ?_
    refine At.roundC (k + 1) (hs.only Q2) ⟨by rfl, by rfl, by rfl, by rfl, by rfl, by rfl, by rfl, trivial⟩ ⟨by rfl, trivial⟩ ?_ ?_
    ·
     omega
    ·
     rw [hJ]; simp_all
  ·
   replace h2 := of_decide_eq_false h2
   rw [drop_out (l := a.l) Q7, drop_out (l := b.l) Q7] at hJ
   refine WC.exit ?_
   refine At.thenexit ?_
   refine At.thenexit ?_
   refine At.blockexit ?_
   refine At.then_ ?_
   refine WC.seq ?_
   refine Qa ?_
   refine WL.next ?_
   refine WC.ret ?_
   refine fin1' rfl Q0 ?_
   refine RetP.mk hs ?_
   rw [hJ]; simp_all

theorem c_laws_eqCache (a : PCache) (b : PCache) (w : World) (h_a : Ph.ok w a) (h_b : Ph.ok w b)  : Calls Tryz.prog 77 [.agg #[Sl.v a.entries], .agg #[Sl.v b.entries]].toArray w (RetP w (Bo (decide (a.lg = b.lg)))) := by
 refine enterN 11 Tryz.func77 rfl rfl rfl ?_
 have hs := Sat.start w
 refine WC.seq ?_
 refine WL.r Q0 (Yr.box hs Q0 Q0) ?_
 clear hs; rintro _ w ⟨b1, rfl, hb, hs⟩; clear hb
 refine WL.r Q0 (Yr.box hs Q0 Q0) ?_
 clear hs; rintro _ w ⟨b2, rfl, hb, hs⟩; clear hb
 refine Qa ?_
 refine WL.next ?_
 refine WC.seq' ?_
 refine WC.seq ?_
 refine WL.p Q0 (Yl.fieldAddr fa36_0 Q0) ?_
 refine WL.p Q0 (Yl.loadB sca34 Q0 hs Q1 Q0) ?_
 refine WL.p Q0 (Yl.fieldAddr fa36_0 Q0) ?_
 refine WL.p Q0 (Yl.loadB sca34 Q0 hs Q1 Q0) ?_
 refine WL.callp hs Q0 (Yc.func Q0 fn148) (c_laws_eqEntryS _ _ _ (Ph.old h_a.entries hs) (Ph.old h_b.entries hs)) ?_
 clear hs; intro w hs
 refine WL.p Q0 (Yl.not Q0) ?_
 refine WL.next ?_
 refine WC.condS Q0 (fun h1 => ?_) (fun h1 => ?_)
 ·
  replace h1 := not_eq_true h1
  replace h1 := of_decide_eq_false h1
  refine WC.seq ?_
  refine Qa ?_
  refine WL.next ?_
  refine WC.ret ?_
  refine At.thenret ?_
  refine fin1' rfl Q0 ?_
  refine RetP.mk hs ?_
  simp_all [TCache.ext_iff]
 ·
  replace h1 := not_eq_false h1
  replace h1 := of_decide_eq_true h1
  refine WC.skipn ?_
  refine WC.seq ?_
  refine Qa ?_
  refine WL.next ?_
  refine WC.ret ?_
  refine fin1' rfl Q0 ?_
  refine RetP.mk hs ?_
  simp_all [TCache.ext_iff]

theorem c_laws_eqSent (a : TSent) (b : TSent) (w : World)   : Calls Tryz.prog 149 [.agg #[S a.top, S a.to.host, S a.to.path, Bo a.guess], .agg #[S b.top, S b.to.host, S b.to.path, Bo b.guess]].toArray w (RetP w (Bo (decide (a = b)))) := by
 refine enterN 21 Tryz.func149 rfl rfl rfl ?_
 have hs := Sat.start w
 refine WC.seq ?_
 refine WL.r Q0 (Yr.box hs Q0 Q0) ?_
 clear hs; rintro _ w ⟨b1, rfl, hb, hs⟩; clear hb
 refine WL.r Q0 (Yr.box hs Q0 Q0) ?_
 clear hs; rintro _ w ⟨b2, rfl, hb, hs⟩; clear hb
 refine Qa ?_
 refine WL.next ?_
 refine WC.seq' ?_
 refine WC.seq ?_
 refine WL.p Q0 (Yl.fieldAddr fa123_0 Q0) ?_
 refine WL.p Q0 (Yl.loadB sca9 Q0 hs Q1 Q0) ?_
 refine WL.p Q0 (Yl.fieldAddr fa123_0 Q0) ?_
 refine WL.p Q0 (Yl.loadB sca9 Q0 hs Q1 Q0) ?_
 refine WL.p Q0 (Yl.nes Q0 Q0) ?_
 refine WL.next ?_
 refine WC.condS Q0 (fun h1 => ?_) (fun h1 => ?_)
 ·
  replace h1 := not_eq_true h1
  replace h1 := of_decide_eq_false h1
  refine WC.seq ?_
  refine Qa ?_
  refine WL.next ?_
  refine WC.ret ?_
  refine At.thenret ?_
  refine fin1' rfl Q0 ?_
  refine RetP.mk hs ?_
  simp_all [TSent.ext_iff]
 ·
  replace h1 := not_eq_false h1
  replace h1 := of_decide_eq_true h1
  refine WC.skipn ?_
  refine WC.seq' ?_
  refine WC.seq ?_
  refine WL.p Q0 (Yl.fieldAddr fa123_1 Q0) ?_
  refine WL.p Q0 (Yl.loadAB agg45 Q0 hs Q1 Q0 Q0) ?_
  refine WL.p Q0 (Yl.fieldAddr fa123_1 Q0) ?_
  refine WL.p Q0 (Yl.loadAB agg45 Q0 hs Q1 Q0 Q0) ?_
  refine WL.callp hs Q0 (Yc.func Q0 fn188) (c_laws_eqAddr _ _ _) ?_
  clear hs; intro w hs
  refine WL.p Q0 (Yl.not Q0) ?_
  refine WL.next ?_
  refine WC.condS Q0 (fun h2 => ?_) (fun h2 => ?_)
  ·
   replace h2 := not_eq_true h2
   replace h2 := of_decide_eq_false h2
   refine WC.seq ?_
   refine Qa ?_
   refine WL.next ?_
   refine WC.ret ?_
   refine At.thenret ?_
   refine fin1' rfl Q0 ?_
   refine RetP.mk hs ?_
   simp_all [TSent.ext_iff]
  ·
   replace h2 := not_eq_false h2
   replace h2 := of_decide_eq_true h2
   refine WC.skipn ?_
   refine WC.seq' ?_
   refine WC.seq ?_
   refine WL.p Q0 (Yl.fieldAddr fa123_2 Q0) ?_
   refine WL.p Q0 (Yl.loadB sca4 Q0 hs Q1 Q0) ?_
   refine WL.p Q0 (Yl.fieldAddr fa123_2 Q0) ?_
   refine WL.p Q0 (Yl.loadB sca4 Q0 hs Q1 Q0) ?_
   refine WL.p Q0 (Yl.neb bool4 Q0 Q0) ?_
   refine WL.next ?_
   refine WC.condS Q0 (fun h3 => ?_) (fun h3 => ?_)
   ·
    replace h3 := not_eq_true h3
    replace h3 := beq_false h3
    refine WC.seq ?_
    refine Qa ?_
    refine WL.next ?_
    refine WC.ret ?_
    refine At.thenret ?_
    refine fin1' rfl Q0 ?_
    refine RetP.mk hs ?_
    simp_all [TSent.ext_iff]
   ·
    replace h3 := not_eq_false h3
    replace h3 := beq_true h3
    refine WC.skipn ?_
    refine WC.seq ?_
    refine Qa ?_
    refine WL.next ?_
    refine WC.ret ?_
    refine fin1' rfl Q0 ?_
    refine RetP.mk hs ?_
    simp_all [TSent.ext_iff]

theorem c_laws_eqSentS (a : (Sl TSent)) (b : (Sl TSent)) (w : World) (h_a : Ph.ok w a) (h_b : Ph.ok w b)  : Calls Tryz.prog 78 [Sl.v a, Sl.v b].toArray w (RetP w (Bo (decide (a.l = b.l)))) := by
 have hw := h_a.lt
 refine enterN 27 Tryz.func78 rfl rfl rfl ?_
 have hs := Sat.start w
 refine WC.seq ?_
 refine Qa ?_
 refine WL.next ?_
 refine WC.seq' ?_
 refine WC.seq ?_
 refine Qm ?_
 refine WL.p Q0 (Yl.len_sl slu37 Q0) ?_
 refine Qm ?_
 refine WL.p Q0 (Yl.len_sl slu37 Q0) ?_
 refine WL.p Q0 (Yl.nei Q0 Q0) ?_
 refine WL.next ?_
 refine WC.condS Q0 (fun h1 => ?_) (fun h1 => ?_)
 ·
  replace h1 := not_eq_true h1
  replace h1 := of_decide_eq_false h1
  refine WC.seq ?_
  refine Qa ?_
  refine WL.next ?_
  refine WC.ret ?_
  refine At.thenret ?_
  refine fin1' rfl Q0 ?_
  refine RetP.mk hs ?_
  have hne : ¬ a.l = b.l := by
   intro h
   have h2 := congrArg List.length h
   try simp at h2
   omega
  simp only [hne, decide_false]
 ·
  replace h1 := not_eq_false h1
  replace h1 := of_decide_eq_true h1
  refine WC.skipn ?_
  refine WC.seq' ?_
  refine WC.seq ?_
  refine Qa ?_
  refine WL.next ?_
  refine WC.block ?_
  refine WC.loopC (ι := Nat) (fun k => a.l.length - k) (fun k => [(5, I (k : Int))]) (fun _ => []) (fun k => decide (a.l = b.l) = decide (a.l.drop k = b.l.drop k)) [(0, _), (1, _), (6, _), (7, _), (8, _), (9, _), (10, _)] 0 (hs) ⟨by rfl, by rfl, by rfl, by rfl, by rfl, by rfl, by rfl, trivial⟩ ⟨by rfl, trivial⟩ ?_ ?_
  ·
   simp
  clear hs; rintro k w hJ hs
  simp only [List.nil_append] at hs
  refine WC.seq' ?_
  refine WC.seq ?_
  refine Qm ?_
  refine Qm ?_
  refine WL.p Q0 (Yl.len_sl slu37 Q0) ?_
  refine WL.p Q0 (Yl.lss Q0 Q0) ?_
  refine WL.next ?_
  refine WC.condS Q0 (fun h2 => ?_) (fun h2 => ?_)
  ·
   replace h2 := of_decide_eq_true h2
   obtain ⟨d, hd⟩ := exists_get (l := a.l) (k := k) Q7
   obtain ⟨d2, hd2⟩ := exists_get (l := b.l) (k := k) Q7
   rw [drop_cons hd, drop_cons hd2] at hJ
   refine WC.skipn ?_
   refine WC.seq' ?_
   refine WC.block ?_
   refine WC.quietn mixed Q6 hs ?_
   refine WQ.p Q0 (fun w hs => Yl.move Q0) ?_
   refine WQ.p Q0 (fun w hs => Yl.move Q0) ?_
   refine WQ.p Q0 (fun w hs => Yl.indexAddr slt37 Q0 Q0 (Ph.old h_a hs) Q0 (hd)) ?_
   refine WQ.p Q0 (fun w hs => Yl.loadA agg123 Q0 (Sl.Ok.at_ (Ph.old h_a hs) (by assumption)).2 Q0) ?_
   refine WQ.p Q0 (fun w hs => Yl.move Q0) ?_
   refine WQ.p Q0 (fun w hs => Yl.move Q0) ?_
   refine WQ.p Q0 (fun w hs => Yl.indexAddr slt37 Q0 Q0 (Ph.old h_b hs) Q0 (hd2)) ?_
   refine WQ.p Q0 (fun w hs => Yl.loadA agg123 Q0 (Sl.Ok.at_ (Ph.old h_b hs) (by assumption)).2 Q0) ?_
   refine WQ.callp Q0 (fun w => Yc.func Q0 fn149) (fun w hs => (c_laws_eqSent _ _ _)) (fun _ _ hs hb => hs.ext hb) ?_
   refine WQ.p Q0 (fun w hs => Yl.not Q0) ?_
   refine WQ.next ?_
   clear hs; intro w hs
   refine WC.condS Q0 (fun h3 => ?_) (fun h3 => ?_)
   ·
    replace h3 := not_eq_true h3
    replace h3 := of_decide_eq_false h3
    refine WC.seq ?_
    refine Qa ?_
    refine WL.next ?_
    refine WC.ret ?_
    refine At.blockret ?_
    refine At.thenret ?_
    refine At.thenret ?_
    refine At.blockret ?_
    refine At.thenret ?_
    refine fin1' rfl Q0 ?_
    refine RetP.mk hs ?_
    rw [hJ]; simp_all
   ·
    replace h3 := not_eq_false h3
    replace h3 := of_decide_eq_true h3
    refine WC.skip ?_
    refine At.blocknormal ?_
    refine At.then_ ?_
    refine WC.region ?_
    refine Qm ?_
    refine WL.p Q0 (Yl.add Q0 Q0 Q7) ?_
    refine Qa ?_
    refine WL.nil ?_
    refine At.roundC (k + 1) (hs.only Q2) ⟨by rfl, by rfl, by rfl, by rfl, by rfl, by rfl, by rfl, trivial⟩ ⟨by rfl, trivial⟩ ?_ ?_
    ·
     omega
    ·
     rw [hJ]; simp_all
  ·
   replace h2 := of_decide_eq_false h2
   rw [drop_out (l := a.l) Q7, drop_out (l := b.l) Q7] at hJ
   refine WC.exit ?_
   refine At.thenexit ?_
   refine At.thenexit ?_
   refine At.blockexit ?_
   refine At.then_ ?_
   refine WC.seq ?_
   refine Qa ?_
   refine WL.next ?_
   refine WC.ret ?_
   refine fin1' rfl Q0 ?_
   refine RetP.mk hs ?_
   rw [hJ]; simp_all

theorem c_laws_eqNet (a : PNet) (b : PNet) (w : World) (h_a : Ph.ok w a) (h_b : Ph.ok w b)  : Calls Tryz.prog 17 [.agg #[Sl.v a.servers, Sl.v a.cache.entries, Sl.v a.log, I a.now], .agg #[Sl.v b.servers, Sl.v b.cache.entries, Sl.v b.log, I b.now]].toArray w (RetP w (Bo (decide (a.lg = b.lg)))) := by
 refine enterN 28 Tryz.func17 rfl rfl rfl ?_
 have hs := Sat.start w
 refine WC.seq ?_
 refine WL.r Q0 (Yr.box hs Q0 Q0) ?_
 clear hs; rintro _ w ⟨b1, rfl, hb, hs⟩; clear hb
 refine WL.r Q0 (Yr.box hs Q0 Q0) ?_
 clear hs; rintro _ w ⟨b2, rfl, hb, hs⟩; clear hb
 refine Qa ?_
 refine WL.next ?_
 refine WC.seq' ?_
 refine WC.seq ?_
 refine WL.p Q0 (Yl.fieldAddr fa39_0 Q0) ?_
 refine WL.p Q0 (Yl.loadB sca33 Q0 hs Q1 Q0) ?_
 refine WL.p Q0 (Yl.fieldAddr fa39_0 Q0) ?_
 refine WL.p Q0 (Yl.loadB sca33 Q0 hs Q1 Q0) ?_
 refine WL.callp hs Q0 (Yc.func Q0 fn76) (c_laws_eqServerS _ _ _ (Ph.old h_a.servers hs) (Ph.old h_b.servers hs)) ?_
 clear hs; intro w hs
 refine WL.p Q0 (Yl.not Q0) ?_
 refine WL.next ?_
 refine WC.condS Q0 (fun h1 => ?_) (fun h1 => ?_)
 ·
  replace h1 := not_eq_true h1
  replace h1 := of_decide_eq_false h1
  refine WC.seq ?_
  refine Qa ?_
  refine WL.next ?_
  refine WC.ret ?_
  refine At.thenret ?_
  refine fin1' rfl Q0 ?_
  refine RetP.mk hs ?_
  simp_all [TNet.ext_iff]
 ·
  replace h1 := not_eq_false h1
  replace h1 := of_decide_eq_true h1
  refine WC.skipn ?_
  refine WC.seq' ?_
  refine WC.seq ?_
  refine WL.p Q0 (Yl.fieldAddr fa39_1 Q0) ?_
  refine WL.p Q0 (Yl.loadAB agg36 Q0 hs Q1 Q0 Q0) ?_
  refine WL.p Q0 (Yl.fieldAddr fa39_1 Q0) ?_
  refine WL.p Q0 (Yl.loadAB agg36 Q0 hs Q1 Q0 Q0) ?_
  refine WL.callp hs Q0 (Yc.func Q0 fn77) (c_laws_eqCache _ _ _ ⟨(Ph.old h_a.cache.entries hs)⟩ ⟨(Ph.old h_b.cache.entries hs)⟩) ?_
  clear hs; intro w hs
  refine WL.p Q0 (Yl.not Q0) ?_
  refine WL.next ?_
  refine WC.condS Q0 (fun h2 => ?_) (fun h2 => ?_)
  ·
   replace h2 := not_eq_true h2
   replace h2 := of_decide_eq_false h2
   refine WC.seq ?_
   refine Qa ?_
   refine WL.next ?_
   refine WC.ret ?_
   refine At.thenret ?_
   refine fin1' rfl Q0 ?_
   refine RetP.mk hs ?_
   simp_all [TNet.ext_iff]
  ·
   replace h2 := not_eq_false h2
   replace h2 := of_decide_eq_true h2
   refine WC.skipn ?_
   refine WC.seq' ?_
   refine WC.seq ?_
   refine WL.p Q0 (Yl.fieldAddr fa39_2 Q0) ?_
   refine WL.p Q0 (Yl.loadB sca37 Q0 hs Q1 Q0) ?_
   refine WL.p Q0 (Yl.fieldAddr fa39_2 Q0) ?_
   refine WL.p Q0 (Yl.loadB sca37 Q0 hs Q1 Q0) ?_
   refine WL.callp hs Q0 (Yc.func Q0 fn78) (c_laws_eqSentS _ _ _ (Ph.old h_a.log hs) (Ph.old h_b.log hs)) ?_
   clear hs; intro w hs
   refine WL.p Q0 (Yl.not Q0) ?_
   refine WL.next ?_
   refine WC.condS Q0 (fun h3 => ?_) (fun h3 => ?_)
   ·
    replace h3 := not_eq_true h3
    replace h3 := of_decide_eq_false h3
    refine WC.seq ?_
    refine Qa ?_
    refine WL.next ?_
    refine WC.ret ?_
    refine At.thenret ?_
    refine fin1' rfl Q0 ?_
    refine RetP.mk hs ?_
    simp_all [TNet.ext_iff]
   ·
    replace h3 := not_eq_false h3
    replace h3 := of_decide_eq_true h3
    refine WC.skipn ?_
    refine WC.seq' ?_
    refine WC.seq ?_
    refine WL.p Q0 (Yl.fieldAddr fa39_3 Q0) ?_
    refine WL.p Q0 (Yl.loadB sca3 Q0 hs Q1 Q0) ?_
    refine WL.p Q0 (Yl.fieldAddr fa39_3 Q0) ?_
    refine WL.p Q0 (Yl.loadB sca3 Q0 hs Q1 Q0) ?_
    refine WL.p Q0 (Yl.nei Q0 Q0) ?_
    refine WL.next ?_
    refine WC.condS Q0 (fun h4 => ?_) (fun h4 => ?_)
    ·
     replace h4 := not_eq_true h4
     replace h4 := of_decide_eq_false h4
     refine WC.seq ?_
     refine Qa ?_
     refine WL.next ?_
     refine WC.ret ?_
     refine At.thenret ?_
     refine fin1' rfl Q0 ?_
     refine RetP.mk hs ?_
     simp_all [TNet.ext_iff]
    ·
     replace h4 := not_eq_false h4
     replace h4 := of_decide_eq_true h4
     refine WC.skipn ?_
     refine WC.seq ?_
     refine Qa ?_
     refine WL.next ?_
     refine WC.ret ?_
     refine fin1' rfl Q0 ?_
     refine RetP.mk hs ?_
     simp_all [TNet.ext_iff]

theorem c_laws_markText (k : Int) (w : World)  (hk : k ≤ 1000000000) : Calls Tryz.prog 128 [I k].toArray w (RetP w (S (mkT k))) := by
 refine enterN 20 Tryz.func128 rfl rfl rfl ?_
 have hs := Sat.start w
 refine WC.seq ?_
 refine Qa ?_
 refine WL.next ?_
 refine WC.seq' ?_
 refine WC.seq ?_
 refine Qm ?_
 refine WL.p Q0 (Yl.leq Q0 Q0) ?_
 refine WL.next ?_
 refine WC.condS Q0 (fun h1 => ?_) (fun h1 => ?_)
 ·
  replace h1 := of_decide_eq_true h1
  refine WC.seq ?_
  refine Qa ?_
  refine WL.next ?_
  refine WC.ret ?_
  refine At.thenret ?_
  refine fin1' rfl Q0 ?_
  refine RetP.mk hs ?_
  rw [mkT_out Q7]
 ·
  replace h1 := of_decide_eq_false h1
  refine WC.skipn ?_
  refine WC.seq ?_
  refine Qa ?_
  refine WL.next ?_
  refine WC.seq' ?_
  refine WC.block ?_
  refine WC.loopC (ι := Nat × Str) (fun ⟨n, o⟩ => n) (fun ⟨n, o⟩ => [(0, I (n : Int)), (3, S o)]) (fun _ => []) (fun ⟨n, o⟩ => digs k.toNat [] = digs n o ∧ o.length + n ≤ 1000000000) [(2, _), (4, _), (5, _)] (k.toNat, []) (hs) ⟨by rfl, by rfl, by rfl, trivial⟩ ⟨by exact congrArg (fun z => some (I z)) Q7, by rfl, trivial⟩ ?_ ?_
  ·
   exact ⟨rfl, by simp; omega⟩
  clear hs; rintro ⟨n, o⟩ w ⟨hJ1, hJ2⟩ hs
  simp only [List.nil_append] at hs
  refine WC.seq' ?_
  refine WC.seq ?_
  refine Qm ?_
  refine WL.p Q0 (Yl.gtr Q0 Q0) ?_
  refine WL.next ?_
  refine WC.condS Q0 (fun h2 => ?_) (fun h2 => ?_)
  ·
   replace h2 := of_decide_eq_true h2
   refine WC.skipn ?_
   refine WC.block ?_
   refine WC.seq ?_
   refine Qm ?_
   refine WL.p Q0 (Yl.remw Q0 Q0 (by decide)) ?_
   refine WL.p Q0 (Yl.add Q0 Q0 (by first | (rw [tmod10]; omega) | (simp; omega))) ?_
   refine WL.p Q0 (Yl.intByte (c := UInt8.ofNat (48 + n % 10)) Q6 u8t5 Q0 (by rw [digit_nat, tmod10]; omega)) ?_
   refine WL.r Q0 (Yr.buildSlice hs sll211 Q0 Q0 Q0 Q4 Q0) ?_
   clear hs; rintro _ w ⟨b1, rfl, hb, hs⟩; clear hb
   refine WL.p Q0 (Yl.bytesStr (l := [UInt8.ofNat (48 + n % 10)]) slu211 u8t5 str9 Q0 (hs.box_cells Q1) Q0 Q0) ?_
   refine Qm ?_
   refine WL.p Q0 (Yl.cat Q0 Q0 (by first | (rw [tmod10]; omega) | (simp; omega))) ?_
   refine Qa ?_
   refine WL.next ?_
   refine WC.region ?_
   refine Qm ?_
   refine WL.p Q0 (Yl.quow Q0 Q0 (by decide)) ?_
   refine Qa ?_
   refine WL.nil ?_
   refine At.blocknormal ?_
   refine At.roundC (n / 10, UInt8.ofNat (48 + n % 10) :: o) (hs.only Q2) ⟨by rfl, by rfl, by rfl, trivial⟩ ⟨by exact congrArg (fun z => some (I z)) (quo10 Q7), by rfl, trivial⟩ ?_ ?_
   ·
    show n / 10 < n
    omega
   ·
    exact ⟨by rw [hJ1, digs_step Q7], by simp; omega⟩
  ·
   replace h2 := of_decide_eq_false h2
   refine WC.exit ?_
   refine At.thenexit ?_
   refine At.thenexit ?_
   refine At.blockexit ?_
   refine At.then_ ?_
   refine WC.seq ?_
   refine Qm ?_
   refine WL.p Q0 (Yl.cat Q0 Q0 (by first | (rw [tmod10]; omega) | (simp; omega))) ?_
   refine Qa ?_
   refine WL.next ?_
   refine WC.ret ?_
   refine fin1' rfl Q0 ?_
   refine RetP.mk hs ?_
   rw [mkT_in Q7, hJ1, show n = 0 from by omega, digs_zero]; rfl

theorem c_laws_markFileS (a : (Sl TFile)) (k : Int) (w : World) (F : List Nat) (hF : Own.own w a F) (hn : F.Nodup)  (hk0 : 0 ≤ k) (hk : k + ((costL (fun _ => 7) (a.l) : Nat) : Int) ≤ 100000000) : Calls Tryz.prog 150 [Sl.v a, I k].toArray w (RetM w a F (I (k + ((costL (fun _ => 7) (a.l) : Nat) : Int))) (fun a' => a'.l = mkL mkFile (fun _ => 7) k (a.l))) := by
 have hw := (Own.ok hF : Sl.Ok w a).lt
 have hk2 := hk
 rw [costL_const] at hk2
 refine enterN 73 Tryz.func150 rfl rfl rfl ?_
 have hs := Sat.markStart hF hn
 refine WC.seq ?_
 refine Qa ?_
 refine WL.next ?_
 refine WC.seq' ?_
 refine WC.seq ?_
 refine Qa ?_
 refine WL.next ?_
 refine WC.block ?_
 refine WC.loopC (ι := Nat × Sl TFile × List Nat × List TFile) (fun ⟨n, s, F1, p⟩ => a.l.length - n) (fun ⟨n, s, F1, p⟩ => [(5, I (n : Int)), (1, I (k + ((7 * n : Nat) : Int))), (0, s.v)]) (fun ⟨n, s, F1, p⟩ => [ow s F1]) (fun ⟨n, s, F1, p⟩ => n ≤ a.l.length ∧ s.v = a.v ∧ p.length = n ∧ s.l = p ++ a.l.drop n ∧ p = mkL mkFile (fun _ => 7) k (a.l.take n)) [(4, _)] (0, a, F, []) (hs.sel (D := [ow a F]) Q2) ⟨by rfl, trivial⟩ ⟨by rfl, by exact congrArg (fun z => some (I z)) Q7, by rfl, trivial⟩ ?_ ?_
 ·
  exact ⟨Nat.zero_le _, rfl, rfl, by simp, by simp [mkL]⟩
 clear hs; rintro ⟨n, s, F1, p⟩ w ⟨hJ1, hJ2, hJ3, hJ4, hJ5⟩ hs
 simp only [List.cons_append, List.nil_append] at hs
 refine WC.seq' ?_
 refine WC.seq ?_
 refine Qm ?_
 refine Qm ?_
 refine WL.p Q0 (Yl.len_sl slu183 Q0) ?_
 refine WL.p Q0 (Yl.lss Q0 Q0) ?_
 refine WL.next ?_
 refine WC.condS Q0 (fun h1 => ?_) (fun h1 => ?_)
 ·
  replace h1 := of_decide_eq_true h1
  have hsl : s.l.length = a.l.length := by rw [hJ4]; simp [hJ3]; omega
  obtain ⟨d, hd0⟩ := exists_get (l := a.l) (k := n) Q7
  have hd : s.l[n]? = some d := by rw [hJ4]; exact step_get hJ3 hd0
  have hkl : n < s.l.length := by omega
  refine WC.skipn ?_
  refine WC.seq' ?_
  refine WC.block ?_
  refine WC.seq ?_
  refine Qm ?_
  refine Qm ?_
  refine Qm ?_
  refine WL.callp hs Q0 (Yc.func Q0 fn128) (c_laws_markText _ _ Q7) ?_
  clear hs; intro w hs
  refine WL.p Q0 (Yl.indexAddr slt183 Q0 Q0 (hs.okow (x := s) (F := F1) Q1) Q0 (hd)) ?_
  refine WL.p Q0 (Yl.fieldAddr fa187_0 Q0) ?_
  refine WL.s (Yr.storeP (s := s) (F := F1) (d := d) (u := (⟨(mkT (k + ((7 * n : Nat) : Int))), d.response⟩ : TFile)) (k := n) (j := 0) hs Q2 Q0 Q0 Q0 hd ⟨_, by rfl, by rfl⟩ Q3 (by exact own_part_flat ⟨(by first | exact (show WfS ((mkT (k + ((7 * n : Nat) : Int)))) from mkT_len Q7) | assumption | (refine Ph.old ?_ hs; assumption)), (Sl.Ok.elem (hs.okow (x := s) (F := F1) Q1) hd).response⟩) Q0 (by exact szf9)) ?_
  clear hs; rintro _ w ⟨s1, _, rfl, hv1, hl1, hg1, hs⟩
  refine WL.next ?_
  refine WC.seq ?_
  refine Qm ?_
  refine WL.p Q0 (Yl.add Q0 Q0 Q7) ?_
  refine Qa ?_
  refine WL.next ?_
  refine WC.seq ?_
  refine Qm ?_
  refine Qm ?_
  refine Qm ?_
  refine WL.p Q0 (Yl.indexAddrV slt183 Q0 hv1 Q0 (hs.okow (x := s1) (F := F1) Q1) Q0 (hg1)) ?_
  refine WL.p Q0 (Yl.fieldAddr fa187_1 Q0) ?_
  refine WL.p Q0 (Yl.fieldAddr2 fa41_0 Q0) ?_
  refine WL.s (Yr.storeP (s := s1) (F := F1) (d := (⟨(mkT (k + ((7 * n : Nat) : Int))), d.response⟩ : TFile)) (u := (⟨(mkT (k + ((7 * n : Nat) : Int))), ⟨((k + ((7 * n : Nat) : Int)) + 1), d.response.kind, d.response.body, d.response.age, d.response.shares, d.response.policy⟩⟩ : TFile)) (k := n) (j := 1) hs Q2 Q0 Q0 Q0 hg1 ⟨_, by rfl, by rfl⟩ Q3 (by exact own_part_flat ⟨(Sl.Ok.elem (hs.okow (x := s1) (F := F1) Q1) hg1).path, ⟨(by exact (show WfI (((k + ((7 * n : Nat) : Int)) + 1)) from ⟨by omega, by omega⟩)), (Sl.Ok.elem (hs.okow (x := s1) (F := F1) Q1) hg1).response.kind, (Sl.Ok.elem (hs.okow (x := s1) (F := F1) Q1) hg1).response.body, (Sl.Ok.elem (hs.okow (x := s1) (F := F1) Q1) hg1).response.age, (Sl.Ok.elem (hs.okow (x := s1) (F := F1) Q1) hg1).response.shares, (Sl.Ok.elem (hs.okow (x := s1) (F := F1) Q1) hg1).response.policy⟩⟩) Q0 (by exact szf3)) ?_
  clear hs; rintro _ w ⟨s2, _, rfl, hv2, hl2, hg2, hs⟩
  refine WL.next ?_
  refine WC.seq ?_
  refine Qm ?_
  refine WL.p Q0 (Yl.add Q0 Q0 Q7) ?_
  refine Qa ?_
  refine WL.next ?_
  refine WC.seq ?_
  refine Qm ?_
  refine Qm ?_
  refine Qm ?_
  refine WL.p Q0 (Yl.indexAddrV slt183 Q0 (hv2.trans hv1) Q0 (hs.okow (x := s2) (F := F1) Q1) Q0 (hg2)) ?_
  refine WL.p Q0 (Yl.fieldAddr fa187_1 Q0) ?_
  refine WL.p Q0 (Yl.fieldAddr2 fa41_1 Q0) ?_
  refine WL.s (Yr.storeP (s := s2) (F := F1) (d := (⟨(mkT (k + ((7 * n : Nat) : Int))), ⟨((k + ((7 * n : Nat) : Int)) + 1), d.response.kind, d.response.body, d.response.age, d.response.shares, d.response.policy⟩⟩ : TFile)) (u := (⟨(mkT (k + ((7 * n : Nat) : Int))), ⟨((k + ((7 * n : Nat) : Int)) + 1), (((k + ((7 * n : Nat) : Int)) + 1) + 1), d.response.body, d.response.age, d.response.shares, d.response.policy⟩⟩ : TFile)) (k := n) (j := 2) hs Q2 Q0 Q0 Q0 hg2 ⟨_, by rfl, by rfl⟩ Q3 (by exact own_part_flat ⟨(Sl.Ok.elem (hs.okow (x := s2) (F := F1) Q1) hg2).path, ⟨(Sl.Ok.elem (hs.okow (x := s2) (F := F1) Q1) hg2).response.status, (by exact (show WfI ((((k + ((7 * n : Nat) : Int)) + 1) + 1)) from ⟨by omega, by omega⟩)), (Sl.Ok.elem (hs.okow (x := s2) (F := F1) Q1) hg2).response.body, (Sl.Ok.elem (hs.okow (x := s2) (F := F1) Q1) hg2).response.age, (Sl.Ok.elem (hs.okow (x := s2) (F := F1) Q1) hg2).response.shares, (Sl.Ok.elem (hs.okow (x := s2) (F := F1) Q1) hg2).response.policy⟩⟩) Q0 (by exact szf3)) ?_
  clear hs; rintro _ w ⟨s3, _, rfl, hv3, hl3, hg3, hs⟩
  refine WL.next ?_
  refine WC.seq ?_
  refine Qm ?_
  refine WL.p Q0 (Yl.add Q0 Q0 Q7) ?_
  refine Qa ?_
  refine WL.next ?_
  refine WC.seq ?_
  refine Qm ?_
  refine Qm ?_
  refine Qm ?_
  refine WL.callp hs Q0 (Yc.func Q0 fn128) (c_laws_markText _ _ Q7) ?_
  clear hs; intro w hs
  refine WL.p Q0 (Yl.indexAddrV slt183 Q0 (hv3.trans (hv2.trans hv1)) Q0 (hs.okow (x := s3) (F := F1) Q1) Q0 (hg3)) ?_
  refine WL.p Q0 (Yl.fieldAddr fa187_1 Q0) ?_
  refine WL.p Q0 (Yl.fieldAddr2 fa41_2 Q0) ?_
  refine WL.s (Yr.storeP (s := s3) (F := F1) (d := (⟨(mkT (k + ((7 * n : Nat) : Int))), ⟨((k + ((7 * n : Nat) : Int)) + 1), (((k + ((7 * n : Nat) : Int)) + 1) + 1), d.response.body, d.response.age, d.response.shares, d.response.policy⟩⟩ : TFile)) (u := (⟨(mkT (k + ((7 * n : Nat) : Int))), ⟨((k + ((7 * n : Nat) : Int)) + 1), (((k + ((7 * n : Nat) : Int)) + 1) + 1), (mkT ((((k + ((7 * n : Nat) : Int)) + 1) + 1) + 1)), d.response.age, d.response.shares, d.response.policy⟩⟩ : TFile)) (k := n) (j := 3) hs Q2 Q0 Q0 Q0 hg3 ⟨_, by rfl, by rfl⟩ Q3 (by exact own_part_flat ⟨(Sl.Ok.elem (hs.okow (x := s3) (F := F1) Q1) hg3).path, ⟨(Sl.Ok.elem (hs.okow (x := s3) (F := F1) Q1) hg3).response.status, (Sl.Ok.elem (hs.okow (x := s3) (F := F1) Q1) hg3).response.kind, (by first | exact (show WfS ((mkT ((((k + ((7 * n : Nat) : Int)) + 1) + 1) + 1))) from mkT_len Q7) | assumption | (refine Ph.old ?_ hs; assumption)), (Sl.Ok.elem (hs.okow (x := s3) (F := F1) Q1) hg3).response.age, (Sl.Ok.elem (hs.okow (x := s3) (F := F1) Q1) hg3).response.shares, (Sl.Ok.elem (hs.okow (x := s3) (F := F1) Q1) hg3).response.policy⟩⟩) Q0 (by exact szf9)) ?_
  clear hs; rintro _ w ⟨s4, _, rfl, hv4, hl4, hg4, hs⟩
  refine WL.next ?_
  refine WC.seq ?_
  refine Qm ?_
  refine WL.p Q0 (Yl.add Q0 Q0 Q7) ?_
  refine Qa ?_
  refine WL.next ?_
  refine WC.seq ?_
  refine Qm ?_
  refine Qm ?_
  refine Qm ?_
  refine WL.p Q0 (Yl.indexAddrV slt183 Q0 (hv4.trans (hv3.trans (hv2.trans hv1))) Q0 (hs.okow (x := s4) (F := F1) Q1) Q0 (hg4)) ?_
  refine WL.p Q0 (Yl.fieldAddr fa187_1 Q0) ?_
  refine WL.p Q0 (Yl.fieldAddr2 fa41_3 Q0) ?_
  refine WL.s (Yr.storeP (s := s4) (F := F1) (d := (⟨(mkT (k + ((7 * n : Nat) : Int))), ⟨((k + ((7 * n : Nat) : Int)) + 1), (((k + ((7 * n : Nat) : Int)) + 1) + 1), (mkT ((((k + ((7 * n : Nat) : Int)) + 1) + 1) + 1)), d.response.age, d.response.shares, d.response.policy⟩⟩ : TFile)) (u := (⟨(mkT (k + ((7 * n : Nat) : Int))), ⟨((k + ((7 * n : Nat) : Int)) + 1), (((k + ((7 * n : Nat) : Int)) + 1) + 1), (mkT ((((k + ((7 * n : Nat) : Int)) + 1) + 1) + 1)), (((((k + ((7 * n : Nat) : Int)) + 1) + 1) + 1) + 1), d.response.shares, d.response.policy⟩⟩ : TFile)) (k := n) (j := 4) hs Q2 Q0 Q0 Q0 hg4 ⟨_, by rfl, by rfl⟩ Q3 (by exact own_part_flat ⟨(Sl.Ok.elem (hs.okow (x := s4) (F := F1) Q1) hg4).path, ⟨(Sl.Ok.elem (hs.okow (x := s4) (F := F1) Q1) hg4).response.status, (Sl.Ok.elem (hs.okow (x := s4) (F := F1) Q1) hg4).response.kind, (Sl.Ok.elem (hs.okow (x := s4) (F := F1) Q1) hg4).response.body, (by exact (show WfI ((((((k + ((7 * n : Nat) : Int)) + 1) + 1) + 1) + 1)) from ⟨by omega, by omega⟩)), (Sl.Ok.elem (hs.okow (x := s4) (F := F1) Q1) hg4).response.shares, (Sl.Ok.elem (hs.okow (x := s4) (F := F1) Q1) hg4).response.policy⟩⟩) Q0 (by exact szf3)) ?_
  clear hs; rintro _ w ⟨s5, _, rfl, hv5, hl5, hg5, hs⟩
  refine WL.next ?_
  refine WC.seq ?_
  refine Qm ?_
  refine WL.p Q0 (Yl.add Q0 Q0 Q7) ?_
  refine Qa ?_
  refine WL.next ?_
  refine WC.seq ?_
  refine Qm ?_
  refine Qm ?_
  refine Qm ?_
  refine WL.p Q0 (Yl.remw Q0 Q0 (by decide)) ?_
  refine WL.p Q0 (Yl.eqi Q0 Q0) ?_
  refine WL.p Q0 (Yl.indexAddrV slt183 Q0 (hv5.trans (hv4.trans (hv3.trans (hv2.trans hv1)))) Q0 (hs.okow (x := s5) (F := F1) Q1) Q0 (hg5)) ?_
  refine WL.p Q0 (Yl.fieldAddr fa187_1 Q0) ?_
  refine WL.p Q0 (Yl.fieldAddr2 fa41_4 Q0) ?_
  refine WL.s (Yr.storeP (s := s5) (F := F1) (d := (⟨(mkT (k + ((7 * n : Nat) : Int))), ⟨((k + ((7 * n : Nat) : Int)) + 1), (((k + ((7 * n : Nat) : Int)) + 1) + 1), (mkT ((((k + ((7 * n : Nat) : Int)) + 1) + 1) + 1)), (((((k + ((7 * n : Nat) : Int)) + 1) + 1) + 1) + 1), d.response.shares, d.response.policy⟩⟩ : TFile)) (u := (⟨(mkT (k + ((7 * n : Nat) : Int))), ⟨((k + ((7 * n : Nat) : Int)) + 1), (((k + ((7 * n : Nat) : Int)) + 1) + 1), (mkT ((((k + ((7 * n : Nat) : Int)) + 1) + 1) + 1)), (((((k + ((7 * n : Nat) : Int)) + 1) + 1) + 1) + 1), (decide ((Int.tmod ((((((k + ((7 * n : Nat) : Int)) + 1) + 1) + 1) + 1) + 1) 3) = 0)), d.response.policy⟩⟩ : TFile)) (k := n) (j := 5) hs Q2 Q0 Q0 Q0 hg5 ⟨_, by rfl, by rfl⟩ Q3 (by exact own_part_flat ⟨(Sl.Ok.elem (hs.okow (x := s5) (F := F1) Q1) hg5).path, ⟨(Sl.Ok.elem (hs.okow (x := s5) (F := F1) Q1) hg5).response.status, (Sl.Ok.elem (hs.okow (x := s5) (F := F1) Q1) hg5).response.kind, (Sl.Ok.elem (hs.okow (x := s5) (F := F1) Q1) hg5).response.body, (Sl.Ok.elem (hs.okow (x := s5) (F := F1) Q1) hg5).response.age, (by trivial), (Sl.Ok.elem (hs.okow (x := s5) (F := F1) Q1) hg5).response.policy⟩⟩) Q0 (by exact szf4)) ?_
  clear hs; rintro _ w ⟨s6, _, rfl, hv6, hl6, hg6, hs⟩
  refine WL.next ?_
  refine WC.seq ?_
  refine Qm ?_
  refine WL.p Q0 (Yl.add Q0 Q0 Q7) ?_
  refine Qa ?_
  refine WL.next ?_
  refine WC.seq ?_
  refine Qm ?_
  refine Qm ?_
  refine Qm ?_
  refine WL.callp hs Q0 (Yc.func Q0 fn128) (c_laws_markText _ _ Q7) ?_
  clear hs; intro w hs
  refine WL.p Q0 (Yl.indexAddrV slt183 Q0 (hv6.trans (hv5.trans (hv4.trans (hv3.trans (hv2.trans hv1))))) Q0 (hs.okow (x := s6) (F := F1) Q1) Q0 (hg6)) ?_
  refine WL.p Q0 (Yl.fieldAddr fa187_1 Q0) ?_
  refine WL.p Q0 (Yl.fieldAddr2 fa41_5 Q0) ?_
  refine WL.s (Yr.storeP (s := s6) (F := F1) (d := (⟨(mkT (k + ((7 * n : Nat) : Int))), ⟨((k + ((7 * n : Nat) : Int)) + 1), (((k + ((7 * n : Nat) : Int)) + 1) + 1), (mkT ((((k + ((7 * n : Nat) : Int)) + 1) + 1) + 1)), (((((k + ((7 * n : Nat) : Int)) + 1) + 1) + 1) + 1), (decide ((Int.tmod ((((((k + ((7 * n : Nat) : Int)) + 1) + 1) + 1) + 1) + 1) 3) = 0)), d.response.policy⟩⟩ : TFile)) (u := (⟨(mkT (k + ((7 * n : Nat) : Int))), ⟨((k + ((7 * n : Nat) : Int)) + 1), (((k + ((7 * n : Nat) : Int)) + 1) + 1), (mkT ((((k + ((7 * n : Nat) : Int)) + 1) + 1) + 1)), (((((k + ((7 * n : Nat) : Int)) + 1) + 1) + 1) + 1), (decide ((Int.tmod ((((((k + ((7 * n : Nat) : Int)) + 1) + 1) + 1) + 1) + 1) 3) = 0)), (mkT (((((((k + ((7 * n : Nat) : Int)) + 1) + 1) + 1) + 1) + 1) + 1))⟩⟩ : TFile)) (k := n) (j := 6) hs Q2 Q0 Q0 Q0 hg6 ⟨_, by rfl, by rfl⟩ Q3 (by exact own_part_flat ⟨(Sl.Ok.elem (hs.okow (x := s6) (F := F1) Q1) hg6).path, ⟨(Sl.Ok.elem (hs.okow (x := s6) (F := F1) Q1) hg6).response.status, (Sl.Ok.elem (hs.okow (x := s6) (F := F1) Q1) hg6).response.kind, (Sl.Ok.elem (hs.okow (x := s6) (F := F1) Q1) hg6).response.body, (Sl.Ok.elem (hs.okow (x := s6) (F := F1) Q1) hg6).response.age, (Sl.Ok.elem (hs.okow (x := s6) (F := F1) Q1) hg6).response.shares, (by first | exact (show WfS ((mkT (((((((k + ((7 * n : Nat) : Int)) + 1) + 1) + 1) + 1) + 1) + 1))) from mkT_len Q7) | assumption | (refine Ph.old ?_ hs; assumption))⟩⟩) Q0 (by exact szf9)) ?_
  clear hs; rintro _ w ⟨s7, _, rfl, hv7, hl7, hg7, hs⟩
  refine WL.next ?_
  refine WC.region ?_
  refine Qm ?_
  refine WL.p Q0 (Yl.add Q0 Q0 Q7) ?_
  refine Qa ?_
  refine WL.nil ?_
  refine At.blocknormal ?_
  refine At.then_ ?_
  refine WC.region ?_
  refine Qm ?_
  refine WL.p Q0 (Yl.add Q0 Q0 Q7) ?_
  refine Qa ?_
  refine WL.nil ?_
  refine At.roundC (n + 1, s7, F1, p ++ [(⟨(mkT (k + ((7 * n : Nat) : Int))), ⟨((k + ((7 * n : Nat) : Int)) + 1), (((k + ((7 * n : Nat) : Int)) + 1) + 1), (mkT ((((k + ((7 * n : Nat) : Int)) + 1) + 1) + 1)), (((((k + ((7 * n : Nat) : Int)) + 1) + 1) + 1) + 1), (decide ((Int.tmod ((((((k + ((7 * n : Nat) : Int)) + 1) + 1) + 1) + 1) + 1) 3) = 0)), (mkT (((((((k + ((7 * n : Nat) : Int)) + 1) + 1) + 1) + 1) + 1) + 1))⟩⟩ : TFile)]) (hs.only Q2) ⟨by rfl, trivial⟩ ⟨by rfl, by exact congrArg (fun z => some (I z)) Q7, by exact congrArg some (hv7.trans (hv6.trans (hv5.trans (hv4.trans (hv3.trans (hv2.trans hv1)))))).symm, trivial⟩ ?_ ?_
  ·
   show a.l.length - (n + 1) < a.l.length - n
   omega
  ·
   refine ⟨by omega, (hv7.trans (hv6.trans (hv5.trans (hv4.trans (hv3.trans (hv2.trans hv1)))))).trans hJ2, by simp [hJ3], ?_, ?_⟩
   · rw [hl7, hl6, hl5, hl4, hl3, hl2, hl1]; simp only [List.set_set]; rw [hJ4]; exact step_set hJ3 Q7
   · rw [mkL_step hd0, hJ5, costL_take_const Q7]; rfl
 ·
  replace h1 := of_decide_eq_false h1
  refine WC.exit ?_
  refine At.thenexit ?_
  refine At.thenexit ?_
  refine At.blockexit ?_
  refine At.then_ ?_
  refine WC.seq ?_
  refine Qm ?_
  refine Qa ?_
  refine WL.next ?_
  refine WC.ret ?_
  refine fin1' rfl Q0 ?_
  have hsl : s.l.length = a.l.length := by rw [hJ4]; simp [hJ3]; omega
  have hn2 : n = a.l.length := by omega
  subst hn2
  rw [costL_const]
  refine RetM.cast (congrArg I Q7) ?_
  exact RetM.of hs Q1 (Sl.v_enc hJ2) (by rw [hJ4, List.drop_length, List.append_nil, hJ5, List.take_length])

theorem c_laws_markServerS (a : (Sl PServer)) (k : Int) (w : World) (F : List Nat) (hF : Own.own w a F) (hn : F.Nodup)  (hk0 : 0 ≤ k) (hk : k + ((costL costServer (a.l.map PServer.lg) : Nat) : Int) ≤ 100000000) : Calls Tryz.prog 79 [Sl.v a, I k].toArray w (RetM w a F (I (k + ((costL costServer (a.l.map PServer.lg) : Nat) : Int))) (fun a' => a'.l.map PServer.lg = mkL mkServer costServer k (a.l.map PServer.lg))) := by
 have hw := (Own.ok hF : Sl.Ok w a).lt
 refine enterN 28 Tryz.func79 rfl rfl rfl ?_
 have hs := Sat.markStart hF hn
 refine WC.seq ?_
 refine Qa ?_
 refine WL.next ?_
 refine WC.seq' ?_
 refine WC.seq ?_
 refine Qa ?_
 refine WL.next ?_
 refine WC.block ?_
 refine WC.loopC (ι := Nat × Sl PServer × List Nat × List PServer) (fun ⟨n, s, F1, p⟩ => a.l.length - n) (fun ⟨n, s, F1, p⟩ => [(5, I (n : Int)), (1, I (k + ((costL costServer ((a.l.map PServer.lg).take n) : Nat) : Int))), (0, s.v)]) (fun ⟨n, s, F1, p⟩ => [ow s F1]) (fun ⟨n, s, F1, p⟩ => n ≤ a.l.length ∧ s.v = a.v ∧ p.length = n ∧ s.l = p ++ a.l.drop n ∧ p.map PServer.lg = mkL mkServer costServer k ((a.l.map PServer.lg).take n)) [(4, _)] (0, a, F, []) (hs.sel (D := [ow a F]) Q2) ⟨by rfl, trivial⟩ ⟨by rfl, by exact congrArg (fun z => some (I z)) (by simp [costL]), by rfl, trivial⟩ ?_ ?_
 ·
  exact ⟨Nat.zero_le _, rfl, rfl, by simp, by simp [mkL]⟩
 clear hs; rintro ⟨n, s, F1, p⟩ w ⟨hJ1, hJ2, hJ3, hJ4, hJ5⟩ hs
 simp only [List.cons_append, List.nil_append] at hs
 refine WC.seq' ?_
 refine WC.seq ?_
 refine Qm ?_
 refine Qm ?_
 refine WL.p Q0 (Yl.len_sl slu33 Q0) ?_
 refine WL.p Q0 (Yl.lss Q0 Q0) ?_
 refine WL.next ?_
 refine WC.condS Q0 (fun h1 => ?_) (fun h1 => ?_)
 ·
  replace h1 := of_decide_eq_true h1
  have hsl : s.l.length = a.l.length := by rw [hJ4]; simp [hJ3]; omega
  obtain ⟨d, hd0⟩ := exists_get (l := a.l) (k := n) Q7
  have hd : s.l[n]? = some d := by rw [hJ4]; exact step_get hJ3 hd0
  have hkl : n < s.l.length := by omega
  have hm0 : (a.l.map PServer.lg)[n]? = some d.lg := by rw [List.getElem?_map, hd0]; rfl
  have hsp := costL_split (cost := costServer) hm0
  simp only [costServer, PServer.lg] at hsp
  refine WC.skipn ?_
  refine WC.seq' ?_
  refine WC.block ?_
  refine WC.seq ?_
  refine Qm ?_
  refine Qm ?_
  refine Qm ?_
  refine WL.callp hs Q0 (Yc.func Q0 fn128) (c_laws_markText _ _ Q7) ?_
  clear hs; intro w hs
  refine WL.p Q0 (Yl.indexAddr slt33 Q0 Q0 (hs.okow (x := s) (F := F1) Q1) Q0 (hd)) ?_
  refine WL.p Q0 (Yl.fieldAddr fa185_0 Q0) ?_
  refine WL.s (Yr.storeP (s := s) (F := F1) (d := d) (u := (⟨(mkT (k + ((costL costServer ((a.l.map PServer.lg).take n) : Nat) : Int))), d.files⟩ : PServer)) (k := n) (j := 0) hs Q2 Q0 Q0 Q0 hd ⟨_, by rfl, by rfl⟩ Q3 (by exact PServer.part (by first | exact (show WfS ((mkT (k + ((costL costServer ((a.l.map PServer.lg).take n) : Nat) : Int)))) from mkT_len Q7) | assumption | (refine Ph.old ?_ hs; assumption)) rfl) Q0 (by exact szf9)) ?_
  clear hs; rintro _ w ⟨s1, _, rfl, hv1, hl1, hg1, hs⟩
  refine WL.next ?_
  refine WC.seq ?_
  refine Qm ?_
  refine WL.p Q0 (Yl.add Q0 Q0 Q7) ?_
  refine Qa ?_
  refine WL.next ?_
  refine WC.region ?_
  refine Qm ?_
  refine Qm ?_
  refine WL.p Q0 (Yl.indexAddrV slt33 Q0 hv1 Q0 (hs.okow (x := s1) (F := F1) Q1) Q0 (hg1)) ?_
  refine WL.p Q0 (Yl.fieldAddr fa185_1 Q0) ?_
  refine WL.p Q0 (Yl.loadC sca183 Q0 (Sl.Ok.at_ (hs.okow (x := s1) (F := F1) Q1) (by assumption)).2 Q0) ?_
  refine Qm ?_
  obtain ⟨G2, B2, hs⟩ := Sat.lend (hs.sel (D := [ow s1 F1]) Q2) hg1
  obtain ⟨K2, hfl2, hs⟩ := PServer.split hs
  refine WL.callm (a := d.files) (F := K2) hs Q2 Q0 (Yc.func Q0 fn150) (c_laws_markFileS d.files _ _ K2 (own_of hs Q1) (nodup_of hs Q1) (by first | assumption | omega | (simp only [PToken.lg, PNode.lg, PBuilder.lg, PSheet.lg, PPolicy.lg, PServer.lg, PCache.lg, PNet.lg, PPage.lg] at *; omega)) (by first | assumption | omega | (simp only [PToken.lg, PNode.lg, PBuilder.lg, PSheet.lg, PPolicy.lg, PServer.lg, PCache.lg, PNet.lg, PPage.lg] at *; omega))) ?_
  clear hs; intro a2 A2 w he2 hq2 hs
  replace hs := PServer.join (⟨(mkT (k + ((costL costServer ((a.l.map PServer.lg).take n) : Nat) : Int))), a2⟩ : PServer) (hs.sel (D := [ow a2 A2]) Q2) (Flat.any hfl2.1)
  obtain ⟨s2, F2, hv2, hl2, hg2, hs⟩ := Sat.back (s := s1) (k := n) (d := (⟨(mkT (k + ((costL costServer ((a.l.map PServer.lg).take n) : Nat) : Int))), d.files⟩ : PServer)) (hs.sel (D := [ow (⟨(mkT (k + ((costL costServer ((a.l.map PServer.lg).take n) : Nat) : Int))), a2⟩ : PServer) A2, hl s1 n G2]) Q2) hg1 (by show [S (⟨(mkT (k + ((costL costServer ((a.l.map PServer.lg).take n) : Nat) : Int))), a2⟩ : PServer).host, Sl.v a2] = [S (⟨(mkT (k + ((costL costServer ((a.l.map PServer.lg).take n) : Nat) : Int))), d.files⟩ : PServer).host, Sl.v d.files]; rw [show Sl.v a2 = Sl.v d.files from Sl.enc_v he2])
  try simp only [List.cons_append, List.nil_append] at hs
  refine Qa ?_
  refine WL.nil ?_
  refine At.blocknormal ?_
  refine At.then_ ?_
  refine WC.region ?_
  refine Qm ?_
  refine WL.p Q0 (Yl.add Q0 Q0 Q7) ?_
  refine Qa ?_
  refine WL.nil ?_
  refine At.roundC (n + 1, s2, F2, p ++ [(⟨(mkT (k + ((costL costServer ((a.l.map PServer.lg).take n) : Nat) : Int))), a2⟩ : PServer)]) (hs.only Q2) ⟨by rfl, trivial⟩ ⟨by rfl, by exact congrArg (fun z => some (I z)) (by rw [costL_step hm0]; simp only [costServer, PServer.lg]; omega), by exact congrArg some (hv2.trans hv1).symm, trivial⟩ ?_ ?_
  ·
   show a.l.length - (n + 1) < a.l.length - n
   omega
  ·
   refine ⟨by omega, (hv2.trans hv1).trans hJ2, by simp [hJ3], ?_, ?_⟩
   · rw [hl2, hl1]; simp only [List.set_set]; rw [hJ4]; exact step_set hJ3 Q7
   · rw [mkL_step hm0, List.map_append, hJ5]; congr 1; simp only [List.map_cons, List.map_nil, List.cons.injEq, and_true]; simp only [mkServer, PServer.lg, hq2]
 ·
  replace h1 := of_decide_eq_false h1
  refine WC.exit ?_
  refine At.thenexit ?_
  refine At.thenexit ?_
  refine At.blockexit ?_
  refine At.then_ ?_
  refine WC.seq ?_
  refine Qm ?_
  refine Qa ?_
  refine WL.next ?_
  refine WC.ret ?_
  refine fin1' rfl Q0 ?_
  have hsl : s.l.length = a.l.length := by rw [hJ4]; simp [hJ3]; omega
  have hn2 : n = a.l.length := by omega
  subst hn2
  refine RetM.cast (congrArg I (by rw [List.take_of_length_le (by simp)])) ?_
  exact RetM.of hs Q1 (Sl.v_enc hJ2) (by rw [hJ4, List.drop_length, List.append_nil, hJ5, List.take_of_length_le (by simp)])

theorem c_laws_markEntryS (a : (Sl TEntry)) (k : Int) (w : World) (F : List Nat) (hF : Own.own w a F) (hn : F.Nodup)  (hk0 : 0 ≤ k) (hk : k + ((costL (fun _ => 10) (a.l) : Nat) : Int) ≤ 100000000) : Calls Tryz.prog 151 [Sl.v a, I k].toArray w (RetM w a F (I (k + ((costL (fun _ => 10) (a.l) : Nat) : Int))) (fun a' => a'.l = mkL mkEntry (fun _ => 10) k (a.l))) := by
 have hw := (Own.ok hF : Sl.Ok w a).lt
 have hk2 := hk
 rw [costL_const] at hk2
 refine enterN 98 Tryz.func151 rfl rfl rfl ?_
 have hs := Sat.markStart hF hn
 refine WC.seq ?_
 refine Qa ?_
 refine WL.next ?_
 refine WC.seq' ?_
 refine WC.seq ?_
 refine Qa ?_
 refine WL.next ?_
 refine WC.block ?_
 refine WC.loopC (ι := Nat × Sl TEntry × List Nat × List TEntry) (fun ⟨n, s, F1, p⟩ => a.l.length - n) (fun ⟨n, s, F1, p⟩ => [(5, I (n : Int)), (1, I (k + ((10 * n : Nat) : Int))), (0, s.v)]) (fun ⟨n, s, F1, p⟩ => [ow s F1]) (fun ⟨n, s, F1, p⟩ => n ≤ a.l.length ∧ s.v = a.v ∧ p.length = n ∧ s.l = p ++ a.l.drop n ∧ p = mkL mkEntry (fun _ => 10) k (a.l.take n)) [(4, _)] (0, a, F, []) (hs.sel (D := [ow a F]) Q2) ⟨by rfl, trivial⟩ ⟨by rfl, by exact congrArg (fun z => some (I z)) Q7, by rfl, trivial⟩ ?_ ?_
 ·
  exact ⟨Nat.zero_le _, rfl, rfl, by simp, by simp [mkL]⟩
 clear hs; rintro ⟨n, s, F1, p⟩ w ⟨hJ1, hJ2, hJ3, hJ4, hJ5⟩ hs
 simp only [List.cons_append, List.nil_append] at hs
 refine WC.seq' ?_
 refine WC.seq ?_
 refine Qm ?_
 refine Qm ?_
 refine WL.p Q0 (Yl.len_sl slu34 Q0) ?_
 refine WL.p Q0 (Yl.lss Q0 Q0) ?_
 refine WL.next ?_
 refine WC.condS Q0 (fun h1 => ?_) (fun h1 => ?_)
 ·
  replace h1 := of_decide_eq_true h1
  have hsl : s.l.length = a.l.length := by rw [hJ4]; simp [hJ3]; omega
  obtain ⟨d, hd0⟩ := exists_get (l := a.l) (k := n) Q7
  have hd : s.l[n]? = some d := by rw [hJ4]; exact step_get hJ3 hd0
  have hkl : n < s.l.length := by omega
  refine WC.skipn ?_
  refine WC.seq' ?_
  refine WC.block ?_
  refine WC.seq ?_
  refine Qm ?_
  refine Qm ?_
  refine Qm ?_
  refine WL.callp hs Q0 (Yc.func Q0 fn128) (c_laws_markText _ _ Q7) ?_
  clear hs; intro w hs
  refine WL.p Q0 (Yl.indexAddr slt34 Q0 Q0 (hs.okow (x := s) (F := F1) Q1) Q0 (hd)) ?_
  refine WL.p Q0 (Yl.fieldAddr fa180_0 Q0) ?_
  refine WL.s (Yr.storeP (s := s) (F := F1) (d := d) (u := (⟨(mkT (k + ((10 * n : Nat) : Int))), d.to, d.response, d.until_⟩ : TEntry)) (k := n) (j := 0) hs Q2 Q0 Q0 Q0 hd ⟨_, by rfl, by rfl⟩ Q3 (by exact own_part_flat ⟨(by first | exact (show WfS ((mkT (k + ((10 * n : Nat) : Int)))) from mkT_len Q7) | assumption | (refine Ph.old ?_ hs; assumption)), (Sl.Ok.elem (hs.okow (x := s) (F := F1) Q1) hd).to, (Sl.Ok.elem (hs.okow (x := s) (F := F1) Q1) hd).response, (Sl.Ok.elem (hs.okow (x := s) (F := F1) Q1) hd).until_⟩) Q0 (by exact szf9)) ?_
  clear hs; rintro _ w ⟨s1, _, rfl, hv1, hl1, hg1, hs⟩
  refine WL.next ?_
  refine WC.seq ?_
  refine Qm ?_
  refine WL.p Q0 (Yl.add Q0 Q0 Q7) ?_
  refine Qa ?_
  refine WL.next ?_
  refine WC.seq ?_
  refine Qm ?_
  refine Qm ?_
  refine Qm ?_
  refine WL.callp hs Q0 (Yc.func Q0 fn128) (c_laws_markText _ _ Q7) ?_
  clear hs; intro w hs
  refine WL.p Q0 (Yl.indexAddrV slt34 Q0 hv1 Q0 (hs.okow (x := s1) (F := F1) Q1) Q0 (hg1)) ?_
  refine WL.p Q0 (Yl.fieldAddr fa180_1 Q0) ?_
  refine WL.p Q0 (Yl.fieldAddr2 fa45_0 Q0) ?_
  refine WL.s (Yr.storeP (s := s1) (F := F1) (d := (⟨(mkT (k + ((10 * n : Nat) : Int))), d.to, d.response, d.until_⟩ : TEntry)) (u := (⟨(mkT (k + ((10 * n : Nat) : Int))), ⟨(mkT ((k + ((10 * n : Nat) : Int)) + 1)), d.to.path⟩, d.response, d.until_⟩ : TEntry)) (k := n) (j := 1) hs Q2 Q0 Q0 Q0 hg1 ⟨_, by rfl, by rfl⟩ Q3 (by exact own_part_flat ⟨(Sl.Ok.elem (hs.okow (x := s1) (F := F1) Q1) hg1).top, ⟨(by first | exact (show WfS ((mkT ((k + ((10 * n : Nat) : Int)) + 1))) from mkT_len Q7) | assumption | (refine Ph.old ?_ hs; assumption)), (Sl.Ok.elem (hs.okow (x := s1) (F := F1) Q1) hg1).to.path⟩, (Sl.Ok.elem (hs.okow (x := s1) (F := F1) Q1) hg1).response, (Sl.Ok.elem (hs.okow (x := s1) (F := F1) Q1) hg1).until_⟩) Q0 (by exact szf9)) ?_
  clear hs; rintro _ w ⟨s2, _, rfl, hv2, hl2, hg2, hs⟩
  refine WL.next ?_
  refine WC.seq ?_
  refine Qm ?_
  refine WL.p Q0 (Yl.add Q0 Q0 Q7) ?_
  refine Qa ?_
  refine WL.next ?_
  refine WC.seq ?_
  refine Qm ?_
  refine Qm ?_
  refine Qm ?_
  refine WL.callp hs Q0 (Yc.func Q0 fn128) (c_laws_markText _ _ Q7) ?_
  clear hs; intro w hs
  refine WL.p Q0 (Yl.indexAddrV slt34 Q0 (hv2.trans hv1) Q0 (hs.okow (x := s2) (F := F1) Q1) Q0 (hg2)) ?_
  refine WL.p Q0 (Yl.fieldAddr fa180_1 Q0) ?_
  refine WL.p Q0 (Yl.fieldAddr2 fa45_1 Q0) ?_
  refine WL.s (Yr.storeP (s := s2) (F := F1) (d := (⟨(mkT (k + ((10 * n : Nat) : Int))), ⟨(mkT ((k + ((10 * n : Nat) : Int)) + 1)), d.to.path⟩, d.response, d.until_⟩ : TEntry)) (u := (⟨(mkT (k + ((10 * n : Nat) : Int))), ⟨(mkT ((k + ((10 * n : Nat) : Int)) + 1)), (mkT (((k + ((10 * n : Nat) : Int)) + 1) + 1))⟩, d.response, d.until_⟩ : TEntry)) (k := n) (j := 2) hs Q2 Q0 Q0 Q0 hg2 ⟨_, by rfl, by rfl⟩ Q3 (by exact own_part_flat ⟨(Sl.Ok.elem (hs.okow (x := s2) (F := F1) Q1) hg2).top, ⟨(Sl.Ok.elem (hs.okow (x := s2) (F := F1) Q1) hg2).to.host, (by first | exact (show WfS ((mkT (((k + ((10 * n : Nat) : Int)) + 1) + 1))) from mkT_len Q7) | assumption | (refine Ph.old ?_ hs; assumption))⟩, (Sl.Ok.elem (hs.okow (x := s2) (F := F1) Q1) hg2).response, (Sl.Ok.elem (hs.okow (x := s2) (F := F1) Q1) hg2).until_⟩) Q0 (by exact szf9)) ?_
  clear hs; rintro _ w ⟨s3, _, rfl, hv3, hl3, hg3, hs⟩
  refine WL.next ?_
  refine WC.seq ?_
  refine Qm ?_
  refine WL.p Q0 (Yl.add Q0 Q0 Q7) ?_
  refine Qa ?_
  refine WL.next ?_
  refine WC.seq ?_
  refine Qm ?_
  refine Qm ?_
  refine Qm ?_
  refine WL.p Q0 (Yl.indexAddrV slt34 Q0 (hv3.trans (hv2.trans hv1)) Q0 (hs.okow (x := s3) (F := F1) Q1) Q0 (hg3)) ?_
  refine WL.p Q0 (Yl.fieldAddr fa180_2 Q0) ?_
  refine WL.p Q0 (Yl.fieldAddr2 fa41_0 Q0) ?_
  refine WL.s (Yr.storeP (s := s3) (F := F1) (d := (⟨(mkT (k + ((10 * n : Nat) : Int))), ⟨(mkT ((k + ((10 * n : Nat) : Int)) + 1)), (mkT (((k + ((10 * n : Nat) : Int)) + 1) + 1))⟩, d.response, d.until_⟩ : TEntry)) (u := (⟨(mkT (k + ((10 * n : Nat) : Int))), ⟨(mkT ((k + ((10 * n : Nat) : Int)) + 1)), (mkT (((k + ((10 * n : Nat) : Int)) + 1) + 1))⟩, ⟨((((k + ((10 * n : Nat) : Int)) + 1) + 1) + 1), d.response.kind, d.response.body, d.response.age, d.response.shares, d.response.policy⟩, d.until_⟩ : TEntry)) (k := n) (j := 3) hs Q2 Q0 Q0 Q0 hg3 ⟨_, by rfl, by rfl⟩ Q3 (by exact own_part_flat ⟨(Sl.Ok.elem (hs.okow (x := s3) (F := F1) Q1) hg3).top, (Sl.Ok.elem (hs.okow (x := s3) (F := F1) Q1) hg3).to, ⟨(by exact (show WfI (((((k + ((10 * n : Nat) : Int)) + 1) + 1) + 1)) from ⟨by omega, by omega⟩)), (Sl.Ok.elem (hs.okow (x := s3) (F := F1) Q1) hg3).response.kind, (Sl.Ok.elem (hs.okow (x := s3) (F := F1) Q1) hg3).response.body, (Sl.Ok.elem (hs.okow (x := s3) (F := F1) Q1) hg3).response.age, (Sl.Ok.elem (hs.okow (x := s3) (F := F1) Q1) hg3).response.shares, (Sl.Ok.elem (hs.okow (x := s3) (F := F1) Q1) hg3).response.policy⟩, (Sl.Ok.elem (hs.okow (x := s3) (F := F1) Q1) hg3).until_⟩) Q0 (by exact szf3)) ?_
  clear hs; rintro _ w ⟨s4, _, rfl, hv4, hl4, hg4, hs⟩
  refine WL.next ?_
  refine WC.seq ?_
  refine Qm ?_
  refine WL.p Q0 (Yl.add Q0 Q0 Q7) ?_
  refine Qa ?_
  refine WL.next ?_
  refine WC.seq ?_
  refine Qm ?_
  refine Qm ?_
  refine Qm ?_
  refine WL.p Q0 (Yl.indexAddrV slt34 Q0 (hv4.trans (hv3.trans (hv2.trans hv1))) Q0 (hs.okow (x := s4) (F := F1) Q1) Q0 (hg4)) ?_
  refine WL.p Q0 (Yl.fieldAddr fa180_2 Q0) ?_
  refine WL.p Q0 (Yl.fieldAddr2 fa41_1 Q0) ?_
  refine WL.s (Yr.storeP (s := s4) (F := F1) (d := (⟨(mkT (k + ((10 * n : Nat) : Int))), ⟨(mkT ((k + ((10 * n : Nat) : Int)) + 1)), (mkT (((k + ((10 * n : Nat) : Int)) + 1) + 1))⟩, ⟨((((k + ((10 * n : Nat) : Int)) + 1) + 1) + 1), d.response.kind, d.response.body, d.response.age, d.response.shares, d.response.policy⟩, d.until_⟩ : TEntry)) (u := (⟨(mkT (k + ((10 * n : Nat) : Int))), ⟨(mkT ((k + ((10 * n : Nat) : Int)) + 1)), (mkT (((k + ((10 * n : Nat) : Int)) + 1) + 1))⟩, ⟨((((k + ((10 * n : Nat) : Int)) + 1) + 1) + 1), (((((k + ((10 * n : Nat) : Int)) + 1) + 1) + 1) + 1), d.response.body, d.response.age, d.response.shares, d.response.policy⟩, d.until_⟩ : TEntry)) (k := n) (j := 4) hs Q2 Q0 Q0 Q0 hg4 ⟨_, by rfl, by rfl⟩ Q3 (by exact own_part_flat ⟨(Sl.Ok.elem (hs.okow (x := s4) (F := F1) Q1) hg4).top, (Sl.Ok.elem (hs.okow (x := s4) (F := F1) Q1) hg4).to, ⟨(Sl.Ok.elem (hs.okow (x := s4) (F := F1) Q1) hg4).response.status, (by exact (show WfI ((((((k + ((10 * n : Nat) : Int)) + 1) + 1) + 1) + 1)) from ⟨by omega, by omega⟩)), (Sl.Ok.elem (hs.okow (x := s4) (F := F1) Q1) hg4).response.body, (Sl.Ok.elem (hs.okow (x := s4) (F := F1) Q1) hg4).response.age, (Sl.Ok.elem (hs.okow (x := s4) (F := F1) Q1) hg4).response.shares, (Sl.Ok.elem (hs.okow (x := s4) (F := F1) Q1) hg4).response.policy⟩, (Sl.Ok.elem (hs.okow (x := s4) (F := F1) Q1) hg4).until_⟩) Q0 (by exact szf3)) ?_
  clear hs; rintro _ w ⟨s5, _, rfl, hv5, hl5, hg5, hs⟩
  refine WL.next ?_
  refine WC.seq ?_
  refine Qm ?_
  refine WL.p Q0 (Yl.add Q0 Q0 Q7) ?_
  refine Qa ?_
  refine WL.next ?_
  refine WC.seq ?_
  refine Qm ?_
  refine Qm ?_
  refine Qm ?_
  refine WL.callp hs Q0 (Yc.func Q0 fn128) (c_laws_markText _ _ Q7) ?_
  clear hs; intro w hs
  refine WL.p Q0 (Yl.indexAddrV slt34 Q0 (hv5.trans (hv4.trans (hv3.trans (hv2.trans hv1)))) Q0 (hs.okow (x := s5) (F := F1) Q1) Q0 (hg5)) ?_
  refine WL.p Q0 (Yl.fieldAddr fa180_2 Q0) ?_
  refine WL.p Q0 (Yl.fieldAddr2 fa41_2 Q0) ?_
  refine WL.s (Yr.storeP (s := s5) (F := F1) (d := (⟨(mkT (k + ((10 * n : Nat) : Int))), ⟨(mkT ((k + ((10 * n : Nat) : Int)) + 1)), (mkT (((k + ((10 * n : Nat) : Int)) + 1) + 1))⟩, ⟨((((k + ((10 * n : Nat) : Int)) + 1) + 1) + 1), (((((k + ((10 * n : Nat) : Int)) + 1) + 1) + 1) + 1), d.response.body, d.response.age, d.response.shares, d.response.policy⟩, d.until_⟩ : TEntry)) (u := (⟨(mkT (k + ((10 * n : Nat) : Int))), ⟨(mkT ((k + ((10 * n : Nat) : Int)) + 1)), (mkT (((k + ((10 * n : Nat) : Int)) + 1) + 1))⟩, ⟨((((k + ((10 * n : Nat) : Int)) + 1) + 1) + 1), (((((k + ((10 * n : Nat) : Int)) + 1) + 1) + 1) + 1), (mkT ((((((k + ((10 * n : Nat) : Int)) + 1) + 1) + 1) + 1) + 1)), d.response.age, d.response.shares, d.response.policy⟩, d.until_⟩ : TEntry)) (k := n) (j := 5) hs Q2 Q0 Q0 Q0 hg5 ⟨_, by rfl, by rfl⟩ Q3 (by exact own_part_flat ⟨(Sl.Ok.elem (hs.okow (x := s5) (F := F1) Q1) hg5).top, (Sl.Ok.elem (hs.okow (x := s5) (F := F1) Q1) hg5).to, ⟨(Sl.Ok.elem (hs.okow (x := s5) (F := F1) Q1) hg5).response.status, (Sl.Ok.elem (hs.okow (x := s5) (F := F1) Q1) hg5).response.kind, (by first | exact (show WfS ((mkT ((((((k + ((10 * n : Nat) : Int)) + 1) + 1) + 1) + 1) + 1))) from mkT_len Q7) | assumption | (refine Ph.old ?_ hs; assumption)), (Sl.Ok.elem (hs.okow (x := s5) (F := F1) Q1) hg5).response.age, (Sl.Ok.elem (hs.okow (x := s5) (F := F1) Q1) hg5).response.shares, (Sl.Ok.elem (hs.okow (x := s5) (F := F1) Q1) hg5).response.policy⟩, (Sl.Ok.elem (hs.okow (x := s5) (F := F1) Q1) hg5).until_⟩) Q0 (by exact szf9)) ?_
  clear hs; rintro _ w ⟨s6, _, rfl, hv6, hl6, hg6, hs⟩
  refine WL.next ?_
  refine WC.seq ?_
  refine Qm ?_
  refine WL.p Q0 (Yl.add Q0 Q0 Q7) ?_
  refine Qa ?_
  refine WL.next ?_
  refine WC.seq ?_
  refine Qm ?_
  refine Qm ?_
  refine Qm ?_
  refine WL.p Q0 (Yl.indexAddrV slt34 Q0 (hv6.trans (hv5.trans (hv4.trans (hv3.trans (hv2.trans hv1))))) Q0 (hs.okow (x := s6) (F := F1) Q1) Q0 (hg6)) ?_
  refine WL.p Q0 (Yl.fieldAddr fa180_2 Q0) ?_
  refine WL.p Q0 (Yl.fieldAddr2 fa41_3 Q0) ?_
  refine WL.s (Yr.storeP (s := s6) (F := F1) (d := (⟨(mkT (k + ((10 * n : Nat) : Int))), ⟨(mkT ((k + ((10 * n : Nat) : Int)) + 1)), (mkT (((k + ((10 * n : Nat) : Int)) + 1) + 1))⟩, ⟨((((k + ((10 * n : Nat) : Int)) + 1) + 1) + 1), (((((k + ((10 * n : Nat) : Int)) + 1) + 1) + 1) + 1), (mkT ((((((k + ((10 * n : Nat) : Int)) + 1) + 1) + 1) + 1) + 1)), d.response.age, d.response.shares, d.response.policy⟩, d.until_⟩ : TEntry)) (u := (⟨(mkT (k + ((10 * n : Nat) : Int))), ⟨(mkT ((k + ((10 * n : Nat) : Int)) + 1)), (mkT (((k + ((10 * n : Nat) : Int)) + 1) + 1))⟩, ⟨((((k + ((10 * n : Nat) : Int)) + 1) + 1) + 1), (((((k + ((10 * n : Nat) : Int)) + 1) + 1) + 1) + 1), (mkT ((((((k + ((10 * n : Nat) : Int)) + 1) + 1) + 1) + 1) + 1)), (((((((k + ((10 * n : Nat) : Int)) + 1) + 1) + 1) + 1) + 1) + 1), d.response.shares, d.response.policy⟩, d.until_⟩ : TEntry)) (k := n) (j := 6) hs Q2 Q0 Q0 Q0 hg6 ⟨_, by rfl, by rfl⟩ Q3 (by exact own_part_flat ⟨(Sl.Ok.elem (hs.okow (x := s6) (F := F1) Q1) hg6).top, (Sl.Ok.elem (hs.okow (x := s6) (F := F1) Q1) hg6).to, ⟨(Sl.Ok.elem (hs.okow (x := s6) (F := F1) Q1) hg6).response.status, (Sl.Ok.elem (hs.okow (x := s6) (F := F1) Q1) hg6).response.kind, (Sl.Ok.elem (hs.okow (x := s6) (F := F1) Q1) hg6).response.body, (by exact (show WfI ((((((((k + ((10 * n : Nat) : Int)) + 1) + 1) + 1) + 1) + 1) + 1)) from ⟨by omega, by omega⟩)), (Sl.Ok.elem (hs.okow (x := s6) (F := F1) Q1) hg6).response.shares, (Sl.Ok.elem (hs.okow (x := s6) (F := F1) Q1) hg6).response.policy⟩, (Sl.Ok.elem (hs.okow (x := s6) (F := F1) Q1) hg6).until_⟩) Q0 (by exact szf3)) ?_
  clear hs; rintro _ w ⟨s7, _, rfl, hv7, hl7, hg7, hs⟩
  refine WL.next ?_
  refine WC.seq ?_
  refine Qm ?_
  refine WL.p Q0 (Yl.add Q0 Q0 Q7) ?_
  refine Qa ?_
  refine WL.next ?_
  refine WC.seq ?_
  refine Qm ?_
  refine Qm ?_
  refine Qm ?_
  refine WL.p Q0 (Yl.remw Q0 Q0 (by decide)) ?_
  refine WL.p Q0 (Yl.eqi Q0 Q0) ?_
  refine WL.p Q0 (Yl.indexAddrV slt34 Q0 (hv7.trans (hv6.trans (hv5.trans (hv4.trans (hv3.trans (hv2.trans hv1)))))) Q0 (hs.okow (x := s7) (F := F1) Q1) Q0 (hg7)) ?_
  refine WL.p Q0 (Yl.fieldAddr fa180_2 Q0) ?_
  refine WL.p Q0 (Yl.fieldAddr2 fa41_4 Q0) ?_
  refine WL.s (Yr.storeP (s := s7) (F := F1) (d := (⟨(mkT (k + ((10 * n : Nat) : Int))), ⟨(mkT ((k + ((10 * n : Nat) : Int)) + 1)), (mkT (((k + ((10 * n : Nat) : Int)) + 1) + 1))⟩, ⟨((((k + ((10 * n : Nat) : Int)) + 1) + 1) + 1), (((((k + ((10 * n : Nat) : Int)) + 1) + 1) + 1) + 1), (mkT ((((((k + ((10 * n : Nat) : Int)) + 1) + 1) + 1) + 1) + 1)), (((((((k + ((10 * n : Nat) : Int)) + 1) + 1) + 1) + 1) + 1) + 1), d.response.shares, d.response.policy⟩, d.until_⟩ : TEntry)) (u := (⟨(mkT (k + ((10 * n : Nat) : Int))), ⟨(mkT ((k + ((10 * n : Nat) : Int)) + 1)), (mkT (((k + ((10 * n : Nat) : Int)) + 1) + 1))⟩, ⟨((((k + ((10 * n : Nat) : Int)) + 1) + 1) + 1), (((((k + ((10 * n : Nat) : Int)) + 1) + 1) + 1) + 1), (mkT ((((((k + ((10 * n : Nat) : Int)) + 1) + 1) + 1) + 1) + 1)), (((((((k + ((10 * n : Nat) : Int)) + 1) + 1) + 1) + 1) + 1) + 1), (decide ((Int.tmod ((((((((k + ((10 * n : Nat) : Int)) + 1) + 1) + 1) + 1) + 1) + 1) + 1) 3) = 0)), d.response.policy⟩, d.until_⟩ : TEntry)) (k := n) (j := 7) hs Q2 Q0 Q0 Q0 hg7 ⟨_, by rfl, by rfl⟩ Q3 (by exact own_part_flat ⟨(Sl.Ok.elem (hs.okow (x := s7) (F := F1) Q1) hg7).top, (Sl.Ok.elem (hs.okow (x := s7) (F := F1) Q1) hg7).to, ⟨(Sl.Ok.elem (hs.okow (x := s7) (F := F1) Q1) hg7).response.status, (Sl.Ok.elem (hs.okow (x := s7) (F := F1) Q1) hg7).response.kind, (Sl.Ok.elem (hs.okow (x := s7) (F := F1) Q1) hg7).response.body, (Sl.Ok.elem (hs.okow (x := s7) (F := F1) Q1) hg7).response.age, (by trivial), (Sl.Ok.elem (hs.okow (x := s7) (F := F1) Q1) hg7).response.policy⟩, (Sl.Ok.elem (hs.okow (x := s7) (F := F1) Q1) hg7).until_⟩) Q0 (by exact szf4)) ?_
  clear hs; rintro _ w ⟨s8, _, rfl, hv8, hl8, hg8, hs⟩
  refine WL.next ?_
  refine WC.seq ?_
  refine Qm ?_
  refine WL.p Q0 (Yl.add Q0 Q0 Q7) ?_
  refine Qa ?_
  refine WL.next ?_
  refine WC.seq ?_
  refine Qm ?_
  refine Qm ?_
  refine Qm ?_
  refine WL.callp hs Q0 (Yc.func Q0 fn128) (c_laws_markText _ _ Q7) ?_
  clear hs; intro w hs
  refine WL.p Q0 (Yl.indexAddrV slt34 Q0 (hv8.trans (hv7.trans (hv6.trans (hv5.trans (hv4.trans (hv3.trans (hv2.trans hv1))))))) Q0 (hs.okow (x := s8) (F := F1) Q1) Q0 (hg8)) ?_
  refine WL.p Q0 (Yl.fieldAddr fa180_2 Q0) ?_
  refine WL.p Q0 (Yl.fieldAddr2 fa41_5 Q0) ?_
  refine WL.s (Yr.storeP (s := s8) (F := F1) (d := (⟨(mkT (k + ((10 * n : Nat) : Int))), ⟨(mkT ((k + ((10 * n : Nat) : Int)) + 1)), (mkT (((k + ((10 * n : Nat) : Int)) + 1) + 1))⟩, ⟨((((k + ((10 * n : Nat) : Int)) + 1) + 1) + 1), (((((k + ((10 * n : Nat) : Int)) + 1) + 1) + 1) + 1), (mkT ((((((k + ((10 * n : Nat) : Int)) + 1) + 1) + 1) + 1) + 1)), (((((((k + ((10 * n : Nat) : Int)) + 1) + 1) + 1) + 1) + 1) + 1), (decide ((Int.tmod ((((((((k + ((10 * n : Nat) : Int)) + 1) + 1) + 1) + 1) + 1) + 1) + 1) 3) = 0)), d.response.policy⟩, d.until_⟩ : TEntry)) (u := (⟨(mkT (k + ((10 * n : Nat) : Int))), ⟨(mkT ((k + ((10 * n : Nat) : Int)) + 1)), (mkT (((k + ((10 * n : Nat) : Int)) + 1) + 1))⟩, ⟨((((k + ((10 * n : Nat) : Int)) + 1) + 1) + 1), (((((k + ((10 * n : Nat) : Int)) + 1) + 1) + 1) + 1), (mkT ((((((k + ((10 * n : Nat) : Int)) + 1) + 1) + 1) + 1) + 1)), (((((((k + ((10 * n : Nat) : Int)) + 1) + 1) + 1) + 1) + 1) + 1), (decide ((Int.tmod ((((((((k + ((10 * n : Nat) : Int)) + 1) + 1) + 1) + 1) + 1) + 1) + 1) 3) = 0)), (mkT (((((((((k + ((10 * n : Nat) : Int)) + 1) + 1) + 1) + 1) + 1) + 1) + 1) + 1))⟩, d.until_⟩ : TEntry)) (k := n) (j := 8) hs Q2 Q0 Q0 Q0 hg8 ⟨_, by rfl, by rfl⟩ Q3 (by exact own_part_flat ⟨(Sl.Ok.elem (hs.okow (x := s8) (F := F1) Q1) hg8).top, (Sl.Ok.elem (hs.okow (x := s8) (F := F1) Q1) hg8).to, ⟨(Sl.Ok.elem (hs.okow (x := s8) (F := F1) Q1) hg8).response.status, (Sl.Ok.elem (hs.okow (x := s8) (F := F1) Q1) hg8).response.kind, (Sl.Ok.elem (hs.okow (x := s8) (F := F1) Q1) hg8).response.body, (Sl.Ok.elem (hs.okow (x := s8) (F := F1) Q1) hg8).response.age, (Sl.Ok.elem (hs.okow (x := s8) (F := F1) Q1) hg8).response.shares, (by first | exact (show WfS ((mkT (((((((((k + ((10 * n : Nat) : Int)) + 1) + 1) + 1) + 1) + 1) + 1) + 1) + 1))) from mkT_len Q7) | assumption | (refine Ph.old ?_ hs; assumption))⟩, (Sl.Ok.elem (hs.okow (x := s8) (F := F1) Q1) hg8).until_⟩) Q0 (by exact szf9)) ?_
  clear hs; rintro _ w ⟨s9, _, rfl, hv9, hl9, hg9, hs⟩
  refine WL.next ?_
  refine WC.seq ?_
  refine Qm ?_
  refine WL.p Q0 (Yl.add Q0 Q0 Q7) ?_
  refine Qa ?_
  refine WL.next ?_
  refine WC.seq ?_
  refine Qm ?_
  refine Qm ?_
  refine Qm ?_
  refine WL.p Q0 (Yl.indexAddrV slt34 Q0 (hv9.trans (hv8.trans (hv7.trans (hv6.trans (hv5.trans (hv4.trans (hv3.trans (hv2.trans hv1)))))))) Q0 (hs.okow (x := s9) (F := F1) Q1) Q0 (hg9)) ?_
  refine WL.p Q0 (Yl.fieldAddr fa180_3 Q0) ?_
  refine WL.s (Yr.storeP (s := s9) (F := F1) (d := (⟨(mkT (k + ((10 * n : Nat) : Int))), ⟨(mkT ((k + ((10 * n : Nat) : Int)) + 1)), (mkT (((k + ((10 * n : Nat) : Int)) + 1) + 1))⟩, ⟨((((k + ((10 * n : Nat) : Int)) + 1) + 1) + 1), (((((k + ((10 * n : Nat) : Int)) + 1) + 1) + 1) + 1), (mkT ((((((k + ((10 * n : Nat) : Int)) + 1) + 1) + 1) + 1) + 1)), (((((((k + ((10 * n : Nat) : Int)) + 1) + 1) + 1) + 1) + 1) + 1), (decide ((Int.tmod ((((((((k + ((10 * n : Nat) : Int)) + 1) + 1) + 1) + 1) + 1) + 1) + 1) 3) = 0)), (mkT (((((((((k + ((10 * n : Nat) : Int)) + 1) + 1) + 1) + 1) + 1) + 1) + 1) + 1))⟩, d.until_⟩ : TEntry)) (u := (⟨(mkT (k + ((10 * n : Nat) : Int))), ⟨(mkT ((k + ((10 * n : Nat) : Int)) + 1)), (mkT (((k + ((10 * n : Nat) : Int)) + 1) + 1))⟩, ⟨((((k + ((10 * n : Nat) : Int)) + 1) + 1) + 1), (((((k + ((10 * n : Nat) : Int)) + 1) + 1) + 1) + 1), (mkT ((((((k + ((10 * n : Nat) : Int)) + 1) + 1) + 1) + 1) + 1)), (((((((k + ((10 * n : Nat) : Int)) + 1) + 1) + 1) + 1) + 1) + 1), (decide ((Int.tmod ((((((((k + ((10 * n : Nat) : Int)) + 1) + 1) + 1) + 1) + 1) + 1) + 1) 3) = 0)), (mkT (((((((((k + ((10 * n : Nat) : Int)) + 1) + 1) + 1) + 1) + 1) + 1) + 1) + 1))⟩, ((((((((((k + ((10 * n : Nat) : Int)) + 1) + 1) + 1) + 1) + 1) + 1) + 1) + 1) + 1)⟩ : TEntry)) (k := n) (j := 9) hs Q2 Q0 Q0 Q0 hg9 ⟨_, by rfl, by rfl⟩ Q3 (by exact own_part_flat ⟨(Sl.Ok.elem (hs.okow (x := s9) (F := F1) Q1) hg9).top, (Sl.Ok.elem (hs.okow (x := s9) (F := F1) Q1) hg9).to, (Sl.Ok.elem (hs.okow (x := s9) (F := F1) Q1) hg9).response, (by exact (show WfI (((((((((((k + ((10 * n : Nat) : Int)) + 1) + 1) + 1) + 1) + 1) + 1) + 1) + 1) + 1)) from ⟨by omega, by omega⟩))⟩) Q0 (by exact szf3)) ?_
  clear hs; rintro _ w ⟨s10, _, rfl, hv10, hl10, hg10, hs⟩
  refine WL.next ?_
  refine WC.region ?_
  refine Qm ?_
  refine WL.p Q0 (Yl.add Q0 Q0 Q7) ?_
  refine Qa ?_
  refine WL.nil ?_
  refine At.blocknormal ?_
  refine At.then_ ?_
  refine WC.region ?_
  refine Qm ?_
  refine WL.p Q0 (Yl.add Q0 Q0 Q7) ?_
  refine Qa ?_
  refine WL.nil ?_
  refine At.roundC (n + 1, s10, F1, p ++ [(⟨(mkT (k + ((10 * n : Nat) : Int))), ⟨(mkT ((k + ((10 * n : Nat) : Int)) + 1)), (mkT (((k + ((10 * n : Nat) : Int)) + 1) + 1))⟩, ⟨((((k + ((10 * n : Nat) : Int)) + 1) + 1) + 1), (((((k + ((10 * n : Nat) : Int)) + 1) + 1) + 1) + 1), (mkT ((((((k + ((10 * n : Nat) : Int)) + 1) + 1) + 1) + 1) + 1)), (((((((k + ((10 * n : Nat) : Int)) + 1) + 1) + 1) + 1) + 1) + 1), (decide ((Int.tmod ((((((((k + ((10 * n : Nat) : Int)) + 1) + 1) + 1) + 1) + 1) + 1) + 1) 3) = 0)), (mkT (((((((((k + ((10 * n : Nat) : Int)) + 1) + 1) + 1) + 1) + 1) + 1) + 1) + 1))⟩, ((((((((((k + ((10 * n : Nat) : Int)) + 1) + 1) + 1) + 1) + 1) + 1) + 1) + 1) + 1)⟩ : TEntry)]) (hs.only Q2) ⟨by rfl, trivial⟩ ⟨by rfl, by exact congrArg (fun z => some (I z)) Q7, by exact congrArg some (hv10.trans (hv9.trans (hv8.trans (hv7.trans (hv6.trans (hv5.trans (hv4.trans (hv3.trans (hv2.trans hv1))))))))).symm, trivial⟩ ?_ ?_
  ·
   show a.l.length - (n + 1) < a.l.length - n
   omega
  ·
   refine ⟨by omega, (hv10.trans (hv9.trans (hv8.trans (hv7.trans (hv6.trans (hv5.trans (hv4.trans (hv3.trans (hv2.trans hv1))))))))).trans hJ2, by simp [hJ3], ?_, ?_⟩
   · rw [hl10, hl9, hl8, hl7, hl6, hl5, hl4, hl3, hl2, hl1]; simp only [List.set_set]; rw [hJ4]; exact step_set hJ3 Q7
   · rw [mkL_step hd0, hJ5, costL_take_const Q7]; rfl
 ·
  replace h1 := of_decide_eq_false h1
  refine WC.exit ?_
  refine At.thenexit ?_
  refine At.thenexit ?_
  refine At.blockexit ?_
  refine At.then_ ?_
  refine WC.seq ?_
  refine Qm ?_
  refine Qa ?_
  refine WL.next ?_
  refine WC.ret ?_
  refine fin1' rfl Q0 ?_
  have hsl : s.l.length = a.l.length := by rw [hJ4]; simp [hJ3]; omega
  have hn2 : n = a.l.length := by omega
  subst hn2
  rw [costL_const]
  refine RetM.cast (congrArg I Q7) ?_
  exact RetM.of hs Q1 (Sl.v_enc hJ2) (by rw [hJ4, List.drop_length, List.append_nil, hJ5, List.take_length])

theorem c_laws_markCache (a : PCache) (k : Int) (w : World) (F : List Nat) (hF : Own.own w a F) (hn : F.Nodup)  (hk0 : 0 ≤ k) (hk : k + ((costoCache a.lg : Nat) : Int) ≤ 100000000) : Calls Tryz.prog 80 [.agg #[Sl.v a.entries], I k].toArray w (RetM w a F (I (k + ((costoCache a.lg : Nat) : Int))) (fun a' => a'.lg = mkoCache k a.lg)) := by
 have hk2 := hk
 simp only [costoCache, costoCache, PToken.lg, PNode.lg, PBuilder.lg, PSheet.lg, PPolicy.lg, PServer.lg, PCache.lg, PNet.lg, PPage.lg] at hk2
 refine enterN 10 Tryz.func80 rfl rfl rfl ?_
 have hs := Sat.markStart hF hn
 obtain ⟨G0, hfl, hs⟩ := PCache.split hs
 refine WC.seq ?_
 refine WL.r Q0 (Yr.box hs Q0 Q0) ?_
 clear hs; rintro _ w ⟨b1, rfl, hb, hs⟩; clear hb
 refine Qa ?_
 refine WL.next ?_
 refine WC.seq ?_
 refine WL.p Q0 (Yl.fieldAddr fa36_0 Q0) ?_
 refine WL.p Q0 (Yl.loadB sca34 Q0 hs Q1 Q0) ?_
 refine Qm ?_
 refine WL.callm (a := a.entries) (F := G0) hs Q2 Q0 (Yc.func Q0 fn151) (c_laws_markEntryS a.entries _ _ G0 (own_of hs Q1) (nodup_of hs Q1) Q11 Q11) ?_
 clear hs; intro a2 F2 w he2 hq2 hs
 refine Qa ?_
 refine WL.next ?_
 refine WC.seq ?_
 refine Qm ?_
 refine Qa ?_
 refine WL.next ?_
 refine WC.ret ?_
 refine fin1' rfl Q0 ?_
 refine RetM.cast (congrArg I (by first | rfl | (simp only [costoCache, costoCache, PToken.lg, PNode.lg, PBuilder.lg, PSheet.lg, PPolicy.lg, PServer.lg, PCache.lg, PNet.lg, PPage.lg]; omega))) ?_
 exact RetM.of (a' := ⟨a2⟩) (PCache.join ⟨a2⟩ (hs.only (D := [ow a2 F2]) Q2) ) List.mem_cons_self (by show [Sl.v a2] = [Sl.v a.entries]; rw [show Sl.v a2 = Sl.v a.entries from Sl.enc_v he2]) (by simp only [PCache.lg, mkoCache]; rw [show a2.l = _ from hq2])

theorem c_laws_markSentS (a : (Sl TSent)) (k : Int) (w : World) (F : List Nat) (hF : Own.own w a F) (hn : F.Nodup)  (hk0 : 0 ≤ k) (hk : k + ((costL (fun _ => 4) (a.l) : Nat) : Int) ≤ 100000000) : Calls Tryz.prog 81 [Sl.v a, I k].toArray w (RetM w a F (I (k + ((costL (fun _ => 4) (a.l) : Nat) : Int))) (fun a' => a'.l = mkL mkSent (fun _ => 4) k (a.l))) := by
 have hw := (Own.ok hF : Sl.Ok w a).lt
 have hk2 := hk
 rw [costL_const] at hk2
 refine enterN 48 Tryz.func81 rfl rfl rfl ?_
 have hs := Sat.markStart hF hn
 refine WC.seq ?_
 refine Qa ?_
 refine WL.next ?_
 refine WC.seq' ?_
 refine WC.seq ?_
 refine Qa ?_
 refine WL.next ?_
 refine WC.block ?_
 refine WC.loopC (ι := Nat × Sl TSent × List Nat × List TSent) (fun ⟨n, s, F1, p⟩ => a.l.length - n) (fun ⟨n, s, F1, p⟩ => [(5, I (n : Int)), (1, I (k + ((4 * n : Nat) : Int))), (0, s.v)]) (fun ⟨n, s, F1, p⟩ => [ow s F1]) (fun ⟨n, s, F1, p⟩ => n ≤ a.l.length ∧ s.v = a.v ∧ p.length = n ∧ s.l = p ++ a.l.drop n ∧ p = mkL mkSent (fun _ => 4) k (a.l.take n)) [(4, _)] (0, a, F, []) (hs.sel (D := [ow a F]) Q2) ⟨by rfl, trivial⟩ ⟨by rfl, by exact congrArg (fun z => some (I z)) Q7, by rfl, trivial⟩ ?_ ?_
 ·
  exact ⟨Nat.zero_le _, rfl, rfl, by simp, by simp [mkL]⟩
 clear hs; rintro ⟨n, s, F1, p⟩ w ⟨hJ1, hJ2, hJ3, hJ4, hJ5⟩ hs
 simp only [List.cons_append, List.nil_append] at hs
 refine WC.seq' ?_
 refine WC.seq ?_
 refine Qm ?_
 refine Qm ?_
 refine WL.p Q0 (Yl.len_sl slu37 Q0) ?_
 refine WL.p Q0 (Yl.lss Q0 Q0) ?_
 refine WL.next ?_
 refine WC.condS Q0 (fun h1 => ?_) (fun h1 => ?_)
 ·
  replace h1 := of_decide_eq_true h1
  have hsl : s.l.length = a.l.length := by rw [hJ4]; simp [hJ3]; omega
  obtain ⟨d, hd0⟩ := exists_get (l := a.l) (k := n) Q7
  have hd : s.l[n]? = some d := by rw [hJ4]; exact step_get hJ3 hd0
  have hkl : n < s.l.length := by omega
  refine WC.skipn ?_
  refine WC.seq' ?_
  refine WC.block ?_
  refine WC.seq ?_
  refine Qm ?_
  refine Qm ?_
  refine Qm ?_
  refine WL.callp hs Q0 (Yc.func Q0 fn128) (c_laws_markText _ _ Q7) ?_
  clear hs; intro w hs
  refine WL.p Q0 (Yl.indexAddr slt37 Q0 Q0 (hs.okow (x := s) (F := F1) Q1) Q0 (hd)) ?_
  refine WL.p Q0 (Yl.fieldAddr fa123_0 Q0) ?_
  refine WL.s (Yr.storeP (s := s) (F := F1) (d := d) (u := (⟨(mkT (k + ((4 * n : Nat) : Int))), d.to, d.guess⟩ : TSent)) (k := n) (j := 0) hs Q2 Q0 Q0 Q0 hd ⟨_, by rfl, by rfl⟩ Q3 (by exact own_part_flat ⟨(by first | exact (show WfS ((mkT (k + ((4 * n : Nat) : Int)))) from mkT_len Q7) | assumption | (refine Ph.old ?_ hs; assumption)), (Sl.Ok.elem (hs.okow (x := s) (F := F1) Q1) hd).to, (Sl.Ok.elem (hs.okow (x := s) (F := F1) Q1) hd).guess⟩) Q0 (by exact szf9)) ?_
  clear hs; rintro _ w ⟨s1, _, rfl, hv1, hl1, hg1, hs⟩
  refine WL.next ?_
  refine WC.seq ?_
  refine Qm ?_
  refine WL.p Q0 (Yl.add Q0 Q0 Q7) ?_
  refine Qa ?_
  refine WL.next ?_
  refine WC.seq ?_
  refine Qm ?_
  refine Qm ?_
  refine Qm ?_
  refine WL.callp hs Q0 (Yc.func Q0 fn128) (c_laws_markText _ _ Q7) ?_
  clear hs; intro w hs
  refine WL.p Q0 (Yl.indexAddrV slt37 Q0 hv1 Q0 (hs.okow (x := s1) (F := F1) Q1) Q0 (hg1)) ?_
  refine WL.p Q0 (Yl.fieldAddr fa123_1 Q0) ?_
  refine WL.p Q0 (Yl.fieldAddr2 fa45_0 Q0) ?_
  refine WL.s (Yr.storeP (s := s1) (F := F1) (d := (⟨(mkT (k + ((4 * n : Nat) : Int))), d.to, d.guess⟩ : TSent)) (u := (⟨(mkT (k + ((4 * n : Nat) : Int))), ⟨(mkT ((k + ((4 * n : Nat) : Int)) + 1)), d.to.path⟩, d.guess⟩ : TSent)) (k := n) (j := 1) hs Q2 Q0 Q0 Q0 hg1 ⟨_, by rfl, by rfl⟩ Q3 (by exact own_part_flat ⟨(Sl.Ok.elem (hs.okow (x := s1) (F := F1) Q1) hg1).top, ⟨(by first | exact (show WfS ((mkT ((k + ((4 * n : Nat) : Int)) + 1))) from mkT_len Q7) | assumption | (refine Ph.old ?_ hs; assumption)), (Sl.Ok.elem (hs.okow (x := s1) (F := F1) Q1) hg1).to.path⟩, (Sl.Ok.elem (hs.okow (x := s1) (F := F1) Q1) hg1).guess⟩) Q0 (by exact szf9)) ?_
  clear hs; rintro _ w ⟨s2, _, rfl, hv2, hl2, hg2, hs⟩
  refine WL.next ?_
  refine WC.seq ?_
  refine Qm ?_
  refine WL.p Q0 (Yl.add Q0 Q0 Q7) ?_
  refine Qa ?_
  refine WL.next ?_
  refine WC.seq ?_
  refine Qm ?_
  refine Qm ?_
  refine Qm ?_
  refine WL.callp hs Q0 (Yc.func Q0 fn128) (c_laws_markText _ _ Q7) ?_
  clear hs; intro w hs
  refine WL.p Q0 (Yl.indexAddrV slt37 Q0 (hv2.trans hv1) Q0 (hs.okow (x := s2) (F := F1) Q1) Q0 (hg2)) ?_
  refine WL.p Q0 (Yl.fieldAddr fa123_1 Q0) ?_
  refine WL.p Q0 (Yl.fieldAddr2 fa45_1 Q0) ?_
  refine WL.s (Yr.storeP (s := s2) (F := F1) (d := (⟨(mkT (k + ((4 * n : Nat) : Int))), ⟨(mkT ((k + ((4 * n : Nat) : Int)) + 1)), d.to.path⟩, d.guess⟩ : TSent)) (u := (⟨(mkT (k + ((4 * n : Nat) : Int))), ⟨(mkT ((k + ((4 * n : Nat) : Int)) + 1)), (mkT (((k + ((4 * n : Nat) : Int)) + 1) + 1))⟩, d.guess⟩ : TSent)) (k := n) (j := 2) hs Q2 Q0 Q0 Q0 hg2 ⟨_, by rfl, by rfl⟩ Q3 (by exact own_part_flat ⟨(Sl.Ok.elem (hs.okow (x := s2) (F := F1) Q1) hg2).top, ⟨(Sl.Ok.elem (hs.okow (x := s2) (F := F1) Q1) hg2).to.host, (by first | exact (show WfS ((mkT (((k + ((4 * n : Nat) : Int)) + 1) + 1))) from mkT_len Q7) | assumption | (refine Ph.old ?_ hs; assumption))⟩, (Sl.Ok.elem (hs.okow (x := s2) (F := F1) Q1) hg2).guess⟩) Q0 (by exact szf9)) ?_
  clear hs; rintro _ w ⟨s3, _, rfl, hv3, hl3, hg3, hs⟩
  refine WL.next ?_
  refine WC.seq ?_
  refine Qm ?_
  refine WL.p Q0 (Yl.add Q0 Q0 Q7) ?_
  refine Qa ?_
  refine WL.next ?_
  refine WC.seq ?_
  refine Qm ?_
  refine Qm ?_
  refine Qm ?_
  refine WL.p Q0 (Yl.remw Q0 Q0 (by decide)) ?_
  refine WL.p Q0 (Yl.eqi Q0 Q0) ?_
  refine WL.p Q0 (Yl.indexAddrV slt37 Q0 (hv3.trans (hv2.trans hv1)) Q0 (hs.okow (x := s3) (F := F1) Q1) Q0 (hg3)) ?_
  refine WL.p Q0 (Yl.fieldAddr fa123_2 Q0) ?_
  refine WL.s (Yr.storeP (s := s3) (F := F1) (d := (⟨(mkT (k + ((4 * n : Nat) : Int))), ⟨(mkT ((k + ((4 * n : Nat) : Int)) + 1)), (mkT (((k + ((4 * n : Nat) : Int)) + 1) + 1))⟩, d.guess⟩ : TSent)) (u := (⟨(mkT (k + ((4 * n : Nat) : Int))), ⟨(mkT ((k + ((4 * n : Nat) : Int)) + 1)), (mkT (((k + ((4 * n : Nat) : Int)) + 1) + 1))⟩, (decide ((Int.tmod ((((k + ((4 * n : Nat) : Int)) + 1) + 1) + 1) 3) = 0))⟩ : TSent)) (k := n) (j := 3) hs Q2 Q0 Q0 Q0 hg3 ⟨_, by rfl, by rfl⟩ Q3 (by exact own_part_flat ⟨(Sl.Ok.elem (hs.okow (x := s3) (F := F1) Q1) hg3).top, (Sl.Ok.elem (hs.okow (x := s3) (F := F1) Q1) hg3).to, (by trivial)⟩) Q0 (by exact szf4)) ?_
  clear hs; rintro _ w ⟨s4, _, rfl, hv4, hl4, hg4, hs⟩
  refine WL.next ?_
  refine WC.region ?_
  refine Qm ?_
  refine WL.p Q0 (Yl.add Q0 Q0 Q7) ?_
  refine Qa ?_
  refine WL.nil ?_
  refine At.blocknormal ?_
  refine At.then_ ?_
  refine WC.region ?_
  refine Qm ?_
  refine WL.p Q0 (Yl.add Q0 Q0 Q7) ?_
  refine Qa ?_
  refine WL.nil ?_
  refine At.roundC (n + 1, s4, F1, p ++ [(⟨(mkT (k + ((4 * n : Nat) : Int))), ⟨(mkT ((k + ((4 * n : Nat) : Int)) + 1)), (mkT (((k + ((4 * n : Nat) : Int)) + 1) + 1))⟩, (decide ((Int.tmod ((((k + ((4 * n : Nat) : Int)) + 1) + 1) + 1) 3) = 0))⟩ : TSent)]) (hs.only Q2) ⟨by rfl, trivial⟩ ⟨by rfl, by exact congrArg (fun z => some (I z)) Q7, by exact congrArg some (hv4.trans (hv3.trans (hv2.trans hv1))).symm, trivial⟩ ?_ ?_
  ·
   show a.l.length - (n + 1) < a.l.length - n
   omega
  ·
   refine ⟨by omega, (hv4.trans (hv3.trans (hv2.trans hv1))).trans hJ2, by simp [hJ3], ?_, ?_⟩
   · rw [hl4, hl3, hl2, hl1]; simp only [List.set_set]; rw [hJ4]; exact step_set hJ3 Q7
   · rw [mkL_step hd0, hJ5, costL_take_const Q7]; rfl
 ·
  replace h1 := of_decide_eq_false h1
  refine WC.exit ?_
  refine At.thenexit ?_
  refine At.thenexit ?_
  refine At.blockexit ?_
  refine At.then_ ?_
  refine WC.seq ?_
  refine Qm ?_
  refine Qa ?_
  refine WL.next ?_
  refine WC.ret ?_
  refine fin1' rfl Q0 ?_
  have hsl : s.l.length = a.l.length := by rw [hJ4]; simp [hJ3]; omega
  have hn2 : n = a.l.length := by omega
  subst hn2
  rw [costL_const]
  refine RetM.cast (congrArg I Q7) ?_
  exact RetM.of hs Q1 (Sl.v_enc hJ2) (by rw [hJ4, List.drop_length, List.append_nil, hJ5, List.take_length])

theorem c_laws_markNet (a : PNet) (k : Int) (w : World) (F : List Nat) (hF : Own.own w a F) (hn : F.Nodup)  (hk0 : 0 ≤ k) (hk : k + ((costoNet a.lg : Nat) : Int) ≤ 100000000) : Calls Tryz.prog 19 [.agg #[Sl.v a.servers, Sl.v a.cache.entries, Sl.v a.log, I a.now], I k].toArray w (RetM w a F (I (k + ((costoNet a.lg : Nat) : Int))) (fun a' => a'.lg = mkoNet k a.lg)) := by
 have hk2 := hk
 simp only [costoNet, costoCache, PToken.lg, PNode.lg, PBuilder.lg, PSheet.lg, PPolicy.lg, PServer.lg, PCache.lg, PNet.lg, PPage.lg] at hk2
 refine enterN 18 Tryz.func19 rfl rfl rfl ?_
 have hs := Sat.markStart hF hn
 obtain ⟨G0, G1, G2, hfl, hs⟩ := PNet.split hs
 refine WC.seq ?_
 refine WL.r Q0 (Yr.box hs Q0 Q0) ?_
 clear hs; rintro _ w ⟨b1, rfl, hb, hs⟩; clear hb
 refine Qa ?_
 refine WL.next ?_
 refine WC.seq ?_
 refine WL.p Q0 (Yl.fieldAddr fa39_0 Q0) ?_
 refine WL.p Q0 (Yl.loadB sca33 Q0 hs Q1 Q0) ?_
 refine Qm ?_
 refine WL.callm (a := a.servers) (F := G0) hs Q2 Q0 (Yc.func Q0 fn79) (c_laws_markServerS a.servers _ _ G0 (own_of hs Q1) (nodup_of hs Q1) Q11 Q11) ?_
 clear hs; intro a2 F2 w he2 hq2 hs
 refine Qa ?_
 refine WL.next ?_
 refine WC.seq ?_
 refine WL.p Q0 (Yl.fieldAddr fa39_1 Q0) ?_
 refine WL.p Q0 (Yl.loadAB agg36 Q0 hs Q1 Q0 Q0) ?_
 refine Qm ?_
 refine WL.callm (a := a.cache) (F := G1) hs Q2 Q0 (Yc.func Q0 fn80) (c_laws_markCache a.cache _ _ G1 (own_of hs Q1) (nodup_of hs Q1) Q11 Q11) ?_
 clear hs; intro a3 F3 w he3 hq3 hs
 refine Qa ?_
 refine WL.next ?_
 refine WC.seq ?_
 refine WL.p Q0 (Yl.fieldAddr fa39_2 Q0) ?_
 refine WL.p Q0 (Yl.loadB sca37 Q0 hs Q1 Q0) ?_
 refine Qm ?_
 refine WL.callm (a := a.log) (F := G2) hs Q2 Q0 (Yc.func Q0 fn81) (c_laws_markSentS a.log _ _ G2 (own_of hs Q1) (nodup_of hs Q1) Q11 Q11) ?_
 clear hs; intro a4 F4 w he4 hq4 hs
 refine Qa ?_
 refine WL.next ?_
 refine WC.seq ?_
 refine Qm ?_
 refine Qa ?_
 refine WL.next ?_
 refine WC.ret ?_
 refine fin1' rfl Q0 ?_
 refine RetM.cast (congrArg I (by first | rfl | (simp only [costoNet, costoCache, PToken.lg, PNode.lg, PBuilder.lg, PSheet.lg, PPolicy.lg, PServer.lg, PCache.lg, PNet.lg, PPage.lg]; omega))) ?_
 exact RetM.of (a' := ⟨a2, a3, a4, a.now⟩) (PNet.join ⟨a2, a3, a4, a.now⟩ (hs.only (D := [ow a2 F2, ow a3 F3, ow a4 F4]) Q2) (Flat.any hfl.1)) List.mem_cons_self (by show [Sl.v a2, Sl.v a3.entries, Sl.v a4, I a.now] = [Sl.v a.servers, Sl.v a.cache.entries, Sl.v a.log, I a.now]; rw [show Sl.v a2 = Sl.v a.servers from Sl.enc_v he2, show Sl.v a3.entries = Sl.v a.cache.entries from List.head_eq_of_cons_eq he3, show Sl.v a4 = Sl.v a.log from Sl.enc_v he4]) (by simp only [PNet.lg, mkoNet]; rw [show (a2.l.map PServer.lg) = _ from hq2, show a3.lg = _ from hq3, show a4.l = _ from hq4])

theorem c_laws_heldFileS (a : (Sl TFile)) (k : Int) (v : List TFile) (w : World) (h_a : Ph.ok w a) (hk0 : 0 ≤ k) (hk : k + ((costL (fun _ => 7) (v) : Nat) : Int) ≤ 100000000) (hm : a.l = mkL mkFile (fun _ => 7) k v) : Calls Tryz.prog 152 [Sl.v a, I k].toArray w (RetP w (I (k + ((costL (fun _ => 7) (v) : Nat) : Int)))) := by
 have hw := h_a.lt
 have hc : a.l.length = v.length := by rw [hm, mkL_length]
 have hk2 := hk
 rw [costL_const] at hk2
 refine enterN 87 Tryz.func152 rfl rfl rfl ?_
 have hs := Sat.start w
 refine WC.seq ?_
 refine Qa ?_
 refine WL.next ?_
 refine WC.seq' ?_
 refine WC.seq ?_
 refine Qa ?_
 refine WL.next ?_
 refine WC.block ?_
 refine WC.loopC (ι := Nat) (fun n => a.l.length - n) (fun n => [(5, I (n : Int)), (1, I (k + ((7 * n : Nat) : Int)))]) (fun _ => []) (fun n => n ≤ a.l.length) [(0, _)] 0 (hs) ⟨by rfl, trivial⟩ ⟨by rfl, by exact congrArg (fun z => some (I z)) Q7, trivial⟩ ?_ ?_
 ·
  exact Nat.zero_le _
 clear hs; rintro n w hJ1 hs
 simp only [List.nil_append] at hs
 refine WC.seq' ?_
 refine WC.seq ?_
 refine Qm ?_
 refine Qm ?_
 refine WL.p Q0 (Yl.len_sl slu183 Q0) ?_
 refine WL.p Q0 (Yl.lss Q0 Q0) ?_
 refine WL.next ?_
 refine WC.condS Q0 (fun h1 => ?_) (fun h1 => ?_)
 ·
  replace h1 := of_decide_eq_true h1
  obtain ⟨y, hy⟩ := exists_get (l := v) (k := n) Q7
  have hd : a.l[n]? = some (mkFile (k + ((7 * n : Nat) : Int)) y) := by rw [hm, mkL_get hy, costL_take_const Q7]
  refine WC.skipn ?_
  refine WC.seq' ?_
  refine WC.block ?_
  refine WC.seq' ?_
  refine WC.quietn mixed Q6 hs ?_
  refine WQ.p Q0 (fun w hs => Yl.move Q0) ?_
  refine WQ.p Q0 (fun w hs => Yl.move Q0) ?_
  refine WQ.p Q0 (fun w hs => Yl.indexAddr slt183 Q0 Q0 (Ph.old h_a hs) Q0 (hd)) ?_
  refine WQ.p Q0 (fun w hs => Yl.fieldAddr fa187_0 Q0) ?_
  refine WQ.p Q0 (fun w hs => Yl.loadC sca9 Q0 (Sl.Ok.at_ (Ph.old h_a hs) (by assumption)).2 Q0) ?_
  refine WQ.p Q0 (fun w hs => Yl.move Q0) ?_
  refine WQ.callp Q0 (fun w => Yc.func Q0 fn128) (fun w hs => (c_laws_markText _ _ Q7)) (fun _ _ hs hb => hs.ext hb) ?_
  refine WQ.p Q0 (fun w hs => Yl.nes Q0 Q0) ?_
  refine WQ.next ?_
  clear hs; intro w hs
  refine WC.condS Q0 (fun h2 => ?_) (fun h2 => ?_)
  ·
   replace h2 := not_eq_true h2
   replace h2 := of_decide_eq_false h2
   refine WC.seq ?_
   refine Qa ?_
   refine WL.next ?_
   refine WC.ret ?_
   refine At.thenret ?_
   refine At.blockret ?_
   refine At.thenret ?_
   refine At.thenret ?_
   refine At.blockret ?_
   refine At.thenret ?_
   refine fin1' rfl Q0 ?_
   refine RetP.mk hs ?_
   first
    | exact absurd rfl h2
    | (exfalso; omega)
    | (rw [costL_const]; exact congrArg I Q7)
  ·
   replace h2 := not_eq_false h2
   replace h2 := of_decide_eq_true h2
   refine WC.skipn ?_
   refine WC.seq ?_
   refine Qm ?_
   refine WL.p Q0 (Yl.add Q0 Q0 Q7) ?_
   refine Qa ?_
   refine WL.next ?_
   refine WC.seq' ?_
   refine WC.seq ?_
   refine Qm ?_
   refine Qm ?_
   refine WL.p Q0 (Yl.indexAddr slt183 Q0 Q0 (Ph.old h_a hs) Q0 (hd)) ?_
   refine WL.p Q0 (Yl.fieldAddr fa187_1 Q0) ?_
   refine WL.p Q0 (Yl.fieldAddr2 fa41_0 Q0) ?_
   refine WL.p Q0 (Yl.loadC sca3 Q0 (Sl.Ok.at_ (Ph.old h_a hs) (by assumption)).2 Q0) ?_
   refine Qm ?_
   refine WL.p Q0 (Yl.nei Q0 Q0) ?_
   refine WL.next ?_
   refine WC.condS Q0 (fun h3 => ?_) (fun h3 => ?_)
   ·
    replace h3 := not_eq_true h3
    replace h3 := of_decide_eq_false h3
    refine WC.seq ?_
    refine Qa ?_
    refine WL.next ?_
    refine WC.ret ?_
    refine At.thenret ?_
    refine At.blockret ?_
    refine At.thenret ?_
    refine At.thenret ?_
    refine At.blockret ?_
    refine At.thenret ?_
    refine fin1' rfl Q0 ?_
    refine RetP.mk hs ?_
    first
     | exact absurd rfl h3
     | (exfalso; omega)
     | (rw [costL_const]; exact congrArg I Q7)
   ·
    replace h3 := not_eq_false h3
    replace h3 := of_decide_eq_true h3
    refine WC.skipn ?_
    refine WC.seq ?_
    refine Qm ?_
    refine WL.p Q0 (Yl.add Q0 Q0 Q7) ?_
    refine Qa ?_
    refine WL.next ?_
    refine WC.seq' ?_
    refine WC.seq ?_
    refine Qm ?_
    refine Qm ?_
    refine WL.p Q0 (Yl.indexAddr slt183 Q0 Q0 (Ph.old h_a hs) Q0 (hd)) ?_
    refine WL.p Q0 (Yl.fieldAddr fa187_1 Q0) ?_
    refine WL.p Q0 (Yl.fieldAddr2 fa41_1 Q0) ?_
    refine WL.p Q0 (Yl.loadC sca3 Q0 (Sl.Ok.at_ (Ph.old h_a hs) (by assumption)).2 Q0) ?_
    refine Qm ?_
    refine WL.p Q0 (Yl.nei Q0 Q0) ?_
    refine WL.next ?_
    refine WC.condS Q0 (fun h4 => ?_) (fun h4 => ?_)
    ·
     replace h4 := not_eq_true h4
     replace h4 := of_decide_eq_false h4
     refine WC.seq ?_
     refine Qa ?_
     refine WL.next ?_
     refine WC.ret ?_
     refine At.thenret ?_
     refine At.blockret ?_
     refine At.thenret ?_
     refine At.thenret ?_
     refine At.blockret ?_
     refine At.thenret ?_
     refine fin1' rfl Q0 ?_
     refine RetP.mk hs ?_
     first
      | exact absurd rfl h4
      | (exfalso; omega)
      | (rw [costL_const]; exact congrArg I Q7)
    ·
     replace h4 := not_eq_false h4
     replace h4 := of_decide_eq_true h4
     refine WC.skipn ?_
     refine WC.seq ?_
     refine Qm ?_
     refine WL.p Q0 (Yl.add Q0 Q0 Q7) ?_
     refine Qa ?_
     refine WL.next ?_
     refine WC.seq' ?_
     refine WC.quietn mixed Q6 hs ?_
     refine WQ.p Q0 (fun w hs => Yl.move Q0) ?_
     refine WQ.p Q0 (fun w hs => Yl.move Q0) ?_
     refine WQ.p Q0 (fun w hs => Yl.indexAddr slt183 Q0 Q0 (Ph.old h_a hs) Q0 (hd)) ?_
     refine WQ.p Q0 (fun w hs => Yl.fieldAddr fa187_1 Q0) ?_
     refine WQ.p Q0 (fun w hs => Yl.fieldAddr2 fa41_2 Q0) ?_
     refine WQ.p Q0 (fun w hs => Yl.loadC sca9 Q0 (Sl.Ok.at_ (Ph.old h_a hs) (by assumption)).2 Q0) ?_
     refine WQ.p Q0 (fun w hs => Yl.move Q0) ?_
     refine WQ.callp Q0 (fun w => Yc.func Q0 fn128) (fun w hs => (c_laws_markText _ _ Q7)) (fun _ _ hs hb => hs.ext hb) ?_
     refine WQ.p Q0 (fun w hs => Yl.nes Q0 Q0) ?_
     refine WQ.next ?_
     clear hs; intro w hs
     refine WC.condS Q0 (fun h5 => ?_) (fun h5 => ?_)
     ·
      replace h5 := not_eq_true h5
      replace h5 := of_decide_eq_false h5
      refine WC.seq ?_
      refine Qa ?_
      refine WL.next ?_
      refine WC.ret ?_
      refine At.thenret ?_
      refine At.blockret ?_
      refine At.thenret ?_
      refine At.thenret ?_
      refine At.blockret ?_
      refine At.thenret ?_
      refine fin1' rfl Q0 ?_
      refine RetP.mk hs ?_
      first
       | exact absurd rfl h5
       | (exfalso; omega)
       | (rw [costL_const]; exact congrArg I Q7)
     ·
      replace h5 := not_eq_false h5
      replace h5 := of_decide_eq_true h5
      refine WC.skipn ?_
      refine WC.seq ?_
      refine Qm ?_
      refine WL.p Q0 (Yl.add Q0 Q0 Q7) ?_
      refine Qa ?_
      refine WL.next ?_
      refine WC.seq' ?_
      refine WC.seq ?_
      refine Qm ?_
      refine Qm ?_
      refine WL.p Q0 (Yl.indexAddr slt183 Q0 Q0 (Ph.old h_a hs) Q0 (hd)) ?_
      refine WL.p Q0 (Yl.fieldAddr fa187_1 Q0) ?_
      refine WL.p Q0 (Yl.fieldAddr2 fa41_3 Q0) ?_
      refine WL.p Q0 (Yl.loadC sca3 Q0 (Sl.Ok.at_ (Ph.old h_a hs) (by assumption)).2 Q0) ?_
      refine Qm ?_
      refine WL.p Q0 (Yl.nei Q0 Q0) ?_
      refine WL.next ?_
      refine WC.condS Q0 (fun h6 => ?_) (fun h6 => ?_)
      ·
       replace h6 := not_eq_true h6
       replace h6 := of_decide_eq_false h6
       refine WC.seq ?_
       refine Qa ?_
       refine WL.next ?_
       refine WC.ret ?_
       refine At.thenret ?_
       refine At.blockret ?_
       refine At.thenret ?_
       refine At.thenret ?_
       refine At.blockret ?_
       refine At.thenret ?_
       refine fin1' rfl Q0 ?_
       refine RetP.mk hs ?_
       first
        | exact absurd rfl h6
        | (exfalso; omega)
        | (rw [costL_const]; exact congrArg I Q7)
      ·
       replace h6 := not_eq_false h6
       replace h6 := of_decide_eq_true h6
       refine WC.skipn ?_
       refine WC.seq ?_
       refine Qm ?_
       refine WL.p Q0 (Yl.add Q0 Q0 Q7) ?_
       refine Qa ?_
       refine WL.next ?_
       refine WC.seq' ?_
       refine WC.seq ?_
       refine Qm ?_
       refine Qm ?_
       refine WL.p Q0 (Yl.indexAddr slt183 Q0 Q0 (Ph.old h_a hs) Q0 (hd)) ?_
       refine WL.p Q0 (Yl.fieldAddr fa187_1 Q0) ?_
       refine WL.p Q0 (Yl.fieldAddr2 fa41_4 Q0) ?_
       refine WL.p Q0 (Yl.loadC sca4 Q0 (Sl.Ok.at_ (Ph.old h_a hs) (by assumption)).2 Q0) ?_
       refine Qm ?_
       refine WL.p Q0 (Yl.remw Q0 Q0 (by decide)) ?_
       refine WL.p Q0 (Yl.eqi Q0 Q0) ?_
       refine WL.p Q0 (Yl.neb bool4 Q0 Q0) ?_
       refine WL.next ?_
       refine WC.condS Q0 (fun h7 => ?_) (fun h7 => ?_)
       ·
        replace h7 := not_eq_true h7
        replace h7 := beq_false h7
        refine WC.seq ?_
        refine Qa ?_
        refine WL.next ?_
        refine WC.ret ?_
        refine At.thenret ?_
        refine At.blockret ?_
        refine At.thenret ?_
        refine At.thenret ?_
        refine At.blockret ?_
        refine At.thenret ?_
        refine fin1' rfl Q0 ?_
        refine RetP.mk hs ?_
        first
         | exact absurd rfl h7
         | (exfalso; omega)
         | (rw [costL_const]; exact congrArg I Q7)
       ·
        replace h7 := not_eq_false h7
        replace h7 := beq_true h7
        refine WC.skipn ?_
        refine WC.seq ?_
        refine Qm ?_
        refine WL.p Q0 (Yl.add Q0 Q0 Q7) ?_
        refine Qa ?_
        refine WL.next ?_
        refine WC.seq' ?_
        refine WC.quietn mixed Q6 hs ?_
        refine WQ.p Q0 (fun w hs => Yl.move Q0) ?_
        refine WQ.p Q0 (fun w hs => Yl.move Q0) ?_
        refine WQ.p Q0 (fun w hs => Yl.indexAddr slt183 Q0 Q0 (Ph.old h_a hs) Q0 (hd)) ?_
        refine WQ.p Q0 (fun w hs => Yl.fieldAddr fa187_1 Q0) ?_
        refine WQ.p Q0 (fun w hs => Yl.fieldAddr2 fa41_5 Q0) ?_
        refine WQ.p Q0 (fun w hs => Yl.loadC sca9 Q0 (Sl.Ok.at_ (Ph.old h_a hs) (by assumption)).2 Q0) ?_
        refine WQ.p Q0 (fun w hs => Yl.move Q0) ?_
        refine WQ.callp Q0 (fun w => Yc.func Q0 fn128) (fun w hs => (c_laws_markText _ _ Q7)) (fun _ _ hs hb => hs.ext hb) ?_
        refine WQ.p Q0 (fun w hs => Yl.nes Q0 Q0) ?_
        refine WQ.next ?_
        clear hs; intro w hs
        refine WC.condS Q0 (fun h8 => ?_) (fun h8 => ?_)
        ·
         replace h8 := not_eq_true h8
         replace h8 := of_decide_eq_false h8
         refine WC.seq ?_
         refine Qa ?_
         refine WL.next ?_
         refine WC.ret ?_
         refine At.thenret ?_
         refine At.blockret ?_
         refine At.thenret ?_
         refine At.thenret ?_
         refine At.blockret ?_
         refine At.thenret ?_
         refine fin1' rfl Q0 ?_
         refine RetP.mk hs ?_
         first
          | exact absurd rfl h8
          | (exfalso; omega)
          | (rw [costL_const]; exact congrArg I Q7)
        ·
         replace h8 := not_eq_false h8
         replace h8 := of_decide_eq_true h8
         refine WC.skipn ?_
         refine WC.region ?_
         refine Qm ?_
         refine WL.p Q0 (Yl.add Q0 Q0 Q7) ?_
         refine Qa ?_
         refine WL.nil ?_
         refine At.blocknormal ?_
         refine At.then_ ?_
         refine WC.region ?_
         refine Qm ?_
         refine WL.p Q0 (Yl.add Q0 Q0 Q7) ?_
         refine Qa ?_
         refine WL.nil ?_
         refine At.roundC (n + 1) (hs.only Q2) ⟨by rfl, trivial⟩ ⟨by rfl, by exact congrArg (fun z => some (I z)) Q7, trivial⟩ ?_ ?_
         ·
          omega
         ·
          omega
 ·
  replace h1 := of_decide_eq_false h1
  refine WC.exit ?_
  refine At.thenexit ?_
  refine At.thenexit ?_
  refine At.blockexit ?_
  refine At.then_ ?_
  refine WC.seq ?_
  refine Qm ?_
  refine Qa ?_
  refine WL.next ?_
  refine WC.ret ?_
  refine fin1' rfl Q0 ?_
  refine RetP.mk hs ?_
  first
   | exact absurd rfl h1
   | (exfalso; omega)
   | (rw [costL_const]; exact congrArg I Q7)

theorem c_laws_heldServerS (a : (Sl PServer)) (k : Int) (v : List TServer) (w : World) (h_a : Ph.ok w a) (hk0 : 0 ≤ k) (hk : k + ((costL costServer (v) : Nat) : Int) ≤ 100000000) (hm : a.l.map PServer.lg = mkL mkServer costServer k v) : Calls Tryz.prog 82 [Sl.v a, I k].toArray w (RetP w (I (k + ((costL costServer (v) : Nat) : Int)))) := by
 have hw := h_a.lt
 have hc : a.l.length = v.length := by have := congrArg List.length hm; simpa [mkL_length] using this
 refine enterN 32 Tryz.func82 rfl rfl rfl ?_
 have hs := Sat.start w
 refine WC.seq ?_
 refine Qa ?_
 refine WL.next ?_
 refine WC.seq' ?_
 refine WC.seq ?_
 refine Qa ?_
 refine WL.next ?_
 refine WC.block ?_
 refine WC.loopC (ι := Nat) (fun n => a.l.length - n) (fun n => [(5, I (n : Int)), (1, I (k + ((costL costServer (v.take n) : Nat) : Int)))]) (fun _ => []) (fun n => n ≤ a.l.length) [(0, _)] 0 (hs) ⟨by rfl, trivial⟩ ⟨by rfl, by exact congrArg (fun z => some (I z)) (by simp [costL]), trivial⟩ ?_ ?_
 ·
  exact Nat.zero_le _
 clear hs; rintro n w hJ1 hs
 simp only [List.nil_append] at hs
 refine WC.seq' ?_
 refine WC.seq ?_
 refine Qm ?_
 refine Qm ?_
 refine WL.p Q0 (Yl.len_sl slu33 Q0) ?_
 refine WL.p Q0 (Yl.lss Q0 Q0) ?_
 refine WL.next ?_
 refine WC.condS Q0 (fun h1 => ?_) (fun h1 => ?_)
 ·
  replace h1 := of_decide_eq_true h1
  obtain ⟨d, hd⟩ := exists_get (l := a.l) (k := n) Q7
  obtain ⟨y, hy⟩ := exists_get (l := v) (k := n) Q7
  have hm0 : (a.l.map PServer.lg)[n]? = some d.lg := by rw [List.getElem?_map, hd]; rfl
  have hdy : d.lg = mkServer (k + ((costL costServer (v.take n) : Nat) : Int)) y := by rw [hm, mkL_get hy] at hm0; exact (Option.some.inj hm0).symm
  have hsp := costL_split (cost := costServer) hy
  simp only [costServer] at hsp
  refine WC.skipn ?_
  refine WC.seq' ?_
  refine WC.block ?_
  refine WC.seq' ?_
  refine WC.quietn mixed Q6 hs ?_
  refine WQ.p Q0 (fun w hs => Yl.move Q0) ?_
  refine WQ.p Q0 (fun w hs => Yl.move Q0) ?_
  refine WQ.p Q0 (fun w hs => Yl.indexAddr slt33 Q0 Q0 (Ph.old h_a hs) Q0 (hd)) ?_
  refine WQ.p Q0 (fun w hs => Yl.fieldAddr fa185_0 Q0) ?_
  refine WQ.p Q0 (fun w hs => Yl.loadC sca9 Q0 (Sl.Ok.at_ (Ph.old h_a hs) (by assumption)).2 Q0) ?_
  refine WQ.p Q0 (fun w hs => Yl.move Q0) ?_
  refine WQ.callp Q0 (fun w => Yc.func Q0 fn128) (fun w hs => (c_laws_markText _ _ Q7)) (fun _ _ hs hb => hs.ext hb) ?_
  refine WQ.p Q0 (fun w hs => Yl.nes Q0 Q0) ?_
  refine WQ.next ?_
  clear hs; intro w hs
  refine WC.condS Q0 (fun h2 => ?_) (fun h2 => ?_)
  ·
   replace h2 := not_eq_true h2
   replace h2 := of_decide_eq_false h2
   refine WC.seq ?_
   refine Qa ?_
   refine WL.next ?_
   refine WC.ret ?_
   refine At.thenret ?_
   refine At.blockret ?_
   refine At.thenret ?_
   refine At.thenret ?_
   refine At.blockret ?_
   refine At.thenret ?_
   refine fin1' rfl Q0 ?_
   refine RetP.mk hs ?_
   first
    | exact absurd rfl h2
    | exact absurd (congrArg TServer.host hdy) h2
    | (exfalso; omega)
    | exact congrArg I (by rw [List.take_of_length_le Q7])
  ·
   replace h2 := not_eq_false h2
   replace h2 := of_decide_eq_true h2
   refine WC.skipn ?_
   refine WC.seq ?_
   refine Qm ?_
   refine WL.p Q0 (Yl.add Q0 Q0 Q7) ?_
   refine Qa ?_
   refine WL.next ?_
   refine WC.seq ?_
   refine Qm ?_
   refine Qm ?_
   refine WL.p Q0 (Yl.indexAddr slt33 Q0 Q0 (Ph.old h_a hs) Q0 (hd)) ?_
   refine WL.p Q0 (Yl.fieldAddr fa185_1 Q0) ?_
   refine WL.p Q0 (Yl.loadC sca183 Q0 (Sl.Ok.at_ (Ph.old h_a hs) (by assumption)).2 Q0) ?_
   refine Qm ?_
   refine WL.callp hs Q0 (Yc.func Q0 fn152) (c_laws_heldFileS _ _ y.files _ (Ph.old (Sl.Ok.elem h_a hd).files hs) Q10 Q10 (by exact congrArg TServer.files hdy)) ?_
   clear hs; intro w hs
   refine Qa ?_
   refine WL.next ?_
   refine WC.seq ?_
   refine Qm ?_
   refine WL.p Q0 (Yl.lss Q0 Q0) ?_
   refine WL.next ?_
   refine WC.condS Q0 (fun h3 => ?_) (fun h3 => ?_)
   ·
    replace h3 := of_decide_eq_true h3
    refine WC.seq ?_
    refine Qa ?_
    refine WL.next ?_
    refine WC.ret ?_
    refine At.blockret ?_
    refine At.thenret ?_
    refine At.thenret ?_
    refine At.blockret ?_
    refine At.thenret ?_
    refine fin1' rfl Q0 ?_
    refine RetP.mk hs ?_
    first
     | exact absurd rfl h3
     | exact absurd (congrArg TServer.host hdy) h3
     | (exfalso; omega)
     | exact congrArg I (by rw [List.take_of_length_le Q7])
   ·
    replace h3 := of_decide_eq_false h3
    refine WC.skip ?_
    refine At.blocknormal ?_
    refine At.then_ ?_
    refine WC.region ?_
    refine Qm ?_
    refine WL.p Q0 (Yl.add Q0 Q0 Q7) ?_
    refine Qa ?_
    refine WL.nil ?_
    refine At.roundC (n + 1) (hs.only Q2) ⟨by rfl, trivial⟩ ⟨by rfl, by exact congrArg (fun z => some (I z)) (by rw [costL_step hy]; simp only [costServer]; omega), trivial⟩ ?_ ?_
    ·
     omega
    ·
     omega
 ·
  replace h1 := of_decide_eq_false h1
  refine WC.exit ?_
  refine At.thenexit ?_
  refine At.thenexit ?_
  refine At.blockexit ?_
  refine At.then_ ?_
  refine WC.seq ?_
  refine Qm ?_
  refine Qa ?_
  refine WL.next ?_
  refine WC.ret ?_
  refine fin1' rfl Q0 ?_
  refine RetP.mk hs ?_
  first
   | exact absurd rfl h1
   | exact absurd (congrArg TServer.host hdy) h1
   | (exfalso; omega)
   | exact congrArg I (by rw [List.take_of_length_le Q7])

theorem c_laws_heldEntryS (a : (Sl TEntry)) (k : Int) (v : List TEntry) (w : World) (h_a : Ph.ok w a) (hk0 : 0 ≤ k) (hk : k + ((costL (fun _ => 10) (v) : Nat) : Int) ≤ 100000000) (hm : a.l = mkL mkEntry (fun _ => 10) k v) : Calls Tryz.prog 153 [Sl.v a, I k].toArray w (RetP w (I (k + ((costL (fun _ => 10) (v) : Nat) : Int)))) := by
 have hw := h_a.lt
 have hc : a.l.length = v.length := by rw [hm, mkL_length]
 have hk2 := hk
 rw [costL_const] at hk2
 refine enterN 118 Tryz.func153 rfl rfl rfl ?_
 have hs := Sat.start w
 refine WC.seq ?_
 refine Qa ?_
 refine WL.next ?_
 refine WC.seq' ?_
 refine WC.seq ?_
 refine Qa ?_
 refine WL.next ?_
 refine WC.block ?_
 refine WC.loopC (ι := Nat) (fun n => a.l.length - n) (fun n => [(5, I (n : Int)), (1, I (k + ((10 * n : Nat) : Int)))]) (fun _ => []) (fun n => n ≤ a.l.length) [(0, _)] 0 (hs) ⟨by rfl, trivial⟩ ⟨by rfl, by exact congrArg (fun z => some (I z)) Q7, trivial⟩ ?_ ?_
 ·
  exact Nat.zero_le _
 clear hs; rintro n w hJ1 hs
 simp only [List.nil_append] at hs
 refine WC.seq' ?_
 refine WC.seq ?_
 refine Qm ?_
 refine Qm ?_
 refine WL.p Q0 (Yl.len_sl slu34 Q0) ?_
 refine WL.p Q0 (Yl.lss Q0 Q0) ?_
 refine WL.next ?_
 refine WC.condS Q0 (fun h1 => ?_) (fun h1 => ?_)
 ·
  replace h1 := of_decide_eq_true h1
  obtain ⟨y, hy⟩ := exists_get (l := v) (k := n) Q7
  have hd : a.l[n]? = some (mkEntry (k + ((10 * n : Nat) : Int)) y) := by rw [hm, mkL_get hy, costL_take_const Q7]
  refine WC.skipn ?_
  refine WC.seq' ?_
  refine WC.block ?_
  refine WC.seq' ?_
  refine WC.quietn mixed Q6 hs ?_
  refine WQ.p Q0 (fun w hs => Yl.move Q0) ?_
  refine WQ.p Q0 (fun w hs => Yl.move Q0) ?_
  refine WQ.p Q0 (fun w hs => Yl.indexAddr slt34 Q0 Q0 (Ph.old h_a hs) Q0 (hd)) ?_
  refine WQ.p Q0 (fun w hs => Yl.fieldAddr fa180_0 Q0) ?_
  refine WQ.p Q0 (fun w hs => Yl.loadC sca9 Q0 (Sl.Ok.at_ (Ph.old h_a hs) (by assumption)).2 Q0) ?_
  refine WQ.p Q0 (fun w hs => Yl.move Q0) ?_
  refine WQ.callp Q0 (fun w => Yc.func Q0 fn128) (fun w hs => (c_laws_markText _ _ Q7)) (fun _ _ hs hb => hs.ext hb) ?_
  refine WQ.p Q0 (fun w hs => Yl.nes Q0 Q0) ?_
  refine WQ.next ?_
  clear hs; intro w hs
  refine WC.condS Q0 (fun h2 => ?_) (fun h2 => ?_)
  ·
   replace h2 := not_eq_true h2
   replace h2 := of_decide_eq_false h2
   refine WC.seq ?_
   refine Qa ?_
   refine WL.next ?_
   refine WC.ret ?_
   refine At.thenret ?_
   refine At.blockret ?_
   refine At.thenret ?_
   refine At.thenret ?_
   refine At.blockret ?_
   refine At.thenret ?_
   refine fin1' rfl Q0 ?_
   refine RetP.mk hs ?_
   first
    | exact absurd rfl h2
    | (exfalso; omega)
    | (rw [costL_const]; exact congrArg I Q7)
  ·
   replace h2 := not_eq_false h2
   replace h2 := of_decide_eq_true h2
   refine WC.skipn ?_
   refine WC.seq ?_
   refine Qm ?_
   refine WL.p Q0 (Yl.add Q0 Q0 Q7) ?_
   refine Qa ?_
   refine WL.next ?_
   refine WC.seq' ?_
   refine WC.quietn mixed Q6 hs ?_
   refine WQ.p Q0 (fun w hs => Yl.move Q0) ?_
   refine WQ.p Q0 (fun w hs => Yl.move Q0) ?_
   refine WQ.p Q0 (fun w hs => Yl.indexAddr slt34 Q0 Q0 (Ph.old h_a hs) Q0 (hd)) ?_
   refine WQ.p Q0 (fun w hs => Yl.fieldAddr fa180_1 Q0) ?_
   refine WQ.p Q0 (fun w hs => Yl.fieldAddr2 fa45_0 Q0) ?_
   refine WQ.p Q0 (fun w hs => Yl.loadC sca9 Q0 (Sl.Ok.at_ (Ph.old h_a hs) (by assumption)).2 Q0) ?_
   refine WQ.p Q0 (fun w hs => Yl.move Q0) ?_
   refine WQ.callp Q0 (fun w => Yc.func Q0 fn128) (fun w hs => (c_laws_markText _ _ Q7)) (fun _ _ hs hb => hs.ext hb) ?_
   refine WQ.p Q0 (fun w hs => Yl.nes Q0 Q0) ?_
   refine WQ.next ?_
   clear hs; intro w hs
   refine WC.condS Q0 (fun h3 => ?_) (fun h3 => ?_)
   ·
    replace h3 := not_eq_true h3
    replace h3 := of_decide_eq_false h3
    refine WC.seq ?_
    refine Qa ?_
    refine WL.next ?_
    refine WC.ret ?_
    refine At.thenret ?_
    refine At.blockret ?_
    refine At.thenret ?_
    refine At.thenret ?_
    refine At.blockret ?_
    refine At.thenret ?_
    refine fin1' rfl Q0 ?_
    refine RetP.mk hs ?_
    first
     | exact absurd rfl h3
     | (exfalso; omega)
     | (rw [costL_const]; exact congrArg I Q7)
   ·
    replace h3 := not_eq_false h3
    replace h3 := of_decide_eq_true h3
    refine WC.skipn ?_
    refine WC.seq ?_
    refine Qm ?_
    refine WL.p Q0 (Yl.add Q0 Q0 Q7) ?_
    refine Qa ?_
    refine WL.next ?_
    refine WC.seq' ?_
    refine WC.quietn mixed Q6 hs ?_
    refine WQ.p Q0 (fun w hs => Yl.move Q0) ?_
    refine WQ.p Q0 (fun w hs => Yl.move Q0) ?_
    refine WQ.p Q0 (fun w hs => Yl.indexAddr slt34 Q0 Q0 (Ph.old h_a hs) Q0 (hd)) ?_
    refine WQ.p Q0 (fun w hs => Yl.fieldAddr fa180_1 Q0) ?_
    refine WQ.p Q0 (fun w hs => Yl.fieldAddr2 fa45_1 Q0) ?_
    refine WQ.p Q0 (fun w hs => Yl.loadC sca9 Q0 (Sl.Ok.at_ (Ph.old h_a hs) (by assumption)).2 Q0) ?_
    refine WQ.p Q0 (fun w hs => Yl.move Q0) ?_
    refine WQ.callp Q0 (fun w => Yc.func Q0 fn128) (fun w hs => (c_laws_markText _ _ Q7)) (fun _ _ hs hb => hs.ext hb) ?_
    refine WQ.p Q0 (fun w hs => Yl.nes Q0 Q0) ?_
    refine WQ.next ?_
    clear hs; intro w hs
    refine WC.condS Q0 (fun h4 => ?_) (fun h4 => ?_)
    ·
     replace h4 := not_eq_true h4
     replace h4 := of_decide_eq_false h4
     refine WC.seq ?_
     refine Qa ?_
     refine WL.next ?_
     refine WC.ret ?_
     refine At.thenret ?_
     refine At.blockret ?_
     refine At.thenret ?_
     refine At.thenret ?_
     refine At.blockret ?_
     refine At.thenret ?_
     refine fin1' rfl Q0 ?_
     refine RetP.mk hs ?_
     first
      | exact absurd rfl h4
      | (exfalso; omega)
      | (rw [costL_const]; exact congrArg I Q7)
    ·
     replace h4 := not_eq_false h4
     replace h4 := of_decide_eq_true h4
     refine WC.skipn ?_
     refine WC.seq ?_
     refine Qm ?_
     refine WL.p Q0 (Yl.add Q0 Q0 Q7) ?_
     refine Qa ?_
     refine WL.next ?_
     refine WC.seq' ?_
     refine WC.seq ?_
     refine Qm ?_
     refine Qm ?_
     refine WL.p Q0 (Yl.indexAddr slt34 Q0 Q0 (Ph.old h_a hs) Q0 (hd)) ?_
     refine WL.p Q0 (Yl.fieldAddr fa180_2 Q0) ?_
     refine WL.p Q0 (Yl.fieldAddr2 fa41_0 Q0) ?_
     refine WL.p Q0 (Yl.loadC sca3 Q0 (Sl.Ok.at_ (Ph.old h_a hs) (by assumption)).2 Q0) ?_
     refine Qm ?_
     refine WL.p Q0 (Yl.nei Q0 Q0) ?_
     refine WL.next ?_
     refine WC.condS Q0 (fun h5 => ?_) (fun h5 => ?_)
     ·
      replace h5 := not_eq_true h5
      replace h5 := of_decide_eq_false h5
      refine WC.seq ?_
      refine Qa ?_
      refine WL.next ?_
      refine WC.ret ?_
      refine At.thenret ?_
      refine At.blockret ?_
      refine At.thenret ?_
      refine At.thenret ?_
      refine At.blockret ?_
      refine At.thenret ?_
      refine fin1' rfl Q0 ?_
      refine RetP.mk hs ?_
      first
       | exact absurd rfl h5
       | (exfalso; omega)
       | (rw [costL_const]; exact congrArg I Q7)
     ·
      replace h5 := not_eq_false h5
      replace h5 := of_decide_eq_true h5
      refine WC.skipn ?_
      refine WC.seq ?_
      refine Qm ?_
      refine WL.p Q0 (Yl.add Q0 Q0 Q7) ?_
      refine Qa ?_
      refine WL.next ?_
      refine WC.seq' ?_
      refine WC.seq ?_
      refine Qm ?_
      refine Qm ?_
      refine WL.p Q0 (Yl.indexAddr slt34 Q0 Q0 (Ph.old h_a hs) Q0 (hd)) ?_
      refine WL.p Q0 (Yl.fieldAddr fa180_2 Q0) ?_
      refine WL.p Q0 (Yl.fieldAddr2 fa41_1 Q0) ?_
      refine WL.p Q0 (Yl.loadC sca3 Q0 (Sl.Ok.at_ (Ph.old h_a hs) (by assumption)).2 Q0) ?_
      refine Qm ?_
      refine WL.p Q0 (Yl.nei Q0 Q0) ?_
      refine WL.next ?_
      refine WC.condS Q0 (fun h6 => ?_) (fun h6 => ?_)
      ·
       replace h6 := not_eq_true h6
       replace h6 := of_decide_eq_false h6
       refine WC.seq ?_
       refine Qa ?_
       refine WL.next ?_
       refine WC.ret ?_
       refine At.thenret ?_
       refine At.blockret ?_
       refine At.thenret ?_
       refine At.thenret ?_
       refine At.blockret ?_
       refine At.thenret ?_
       refine fin1' rfl Q0 ?_
       refine RetP.mk hs ?_
       first
        | exact absurd rfl h6
        | (exfalso; omega)
        | (rw [costL_const]; exact congrArg I Q7)
      ·
       replace h6 := not_eq_false h6
       replace h6 := of_decide_eq_true h6
       refine WC.skipn ?_
       refine WC.seq ?_
       refine Qm ?_
       refine WL.p Q0 (Yl.add Q0 Q0 Q7) ?_
       refine Qa ?_
       refine WL.next ?_
       refine WC.seq' ?_
       refine WC.quietn mixed Q6 hs ?_
       refine WQ.p Q0 (fun w hs => Yl.move Q0) ?_
       refine WQ.p Q0 (fun w hs => Yl.move Q0) ?_
       refine WQ.p Q0 (fun w hs => Yl.indexAddr slt34 Q0 Q0 (Ph.old h_a hs) Q0 (hd)) ?_
       refine WQ.p Q0 (fun w hs => Yl.fieldAddr fa180_2 Q0) ?_
       refine WQ.p Q0 (fun w hs => Yl.fieldAddr2 fa41_2 Q0) ?_
       refine WQ.p Q0 (fun w hs => Yl.loadC sca9 Q0 (Sl.Ok.at_ (Ph.old h_a hs) (by assumption)).2 Q0) ?_
       refine WQ.p Q0 (fun w hs => Yl.move Q0) ?_
       refine WQ.callp Q0 (fun w => Yc.func Q0 fn128) (fun w hs => (c_laws_markText _ _ Q7)) (fun _ _ hs hb => hs.ext hb) ?_
       refine WQ.p Q0 (fun w hs => Yl.nes Q0 Q0) ?_
       refine WQ.next ?_
       clear hs; intro w hs
       refine WC.condS Q0 (fun h7 => ?_) (fun h7 => ?_)
       ·
        replace h7 := not_eq_true h7
        replace h7 := of_decide_eq_false h7
        refine WC.seq ?_
        refine Qa ?_
        refine WL.next ?_
        refine WC.ret ?_
        refine At.thenret ?_
        refine At.blockret ?_
        refine At.thenret ?_
        refine At.thenret ?_
        refine At.blockret ?_
        refine At.thenret ?_
        refine fin1' rfl Q0 ?_
        refine RetP.mk hs ?_
        first
         | exact absurd rfl h7
         | (exfalso; omega)
         | (rw [costL_const]; exact congrArg I Q7)
       ·
        replace h7 := not_eq_false h7
        replace h7 := of_decide_eq_true h7
        refine WC.skipn ?_
        refine WC.seq ?_
        refine Qm ?_
        refine WL.p Q0 (Yl.add Q0 Q0 Q7) ?_
        refine Qa ?_
        refine WL.next ?_
        refine WC.seq' ?_
        refine WC.seq ?_
        refine Qm ?_
        refine Qm ?_
        refine WL.p Q0 (Yl.indexAddr slt34 Q0 Q0 (Ph.old h_a hs) Q0 (hd)) ?_
        refine WL.p Q0 (Yl.fieldAddr fa180_2 Q0) ?_
        refine WL.p Q0 (Yl.fieldAddr2 fa41_3 Q0) ?_
        refine WL.p Q0 (Yl.loadC sca3 Q0 (Sl.Ok.at_ (Ph.old h_a hs) (by assumption)).2 Q0) ?_
        refine Qm ?_
        refine WL.p Q0 (Yl.nei Q0 Q0) ?_
        refine WL.next ?_
        refine WC.condS Q0 (fun h8 => ?_) (fun h8 => ?_)
        ·
         replace h8 := not_eq_true h8
         replace h8 := of_decide_eq_false h8
         refine WC.seq ?_
         refine Qa ?_
         refine WL.next ?_
         refine WC.ret ?_
         refine At.thenret ?_
         refine At.blockret ?_
         refine At.thenret ?_
         refine At.thenret ?_
         refine At.blockret ?_
         refine At.thenret ?_
         refine fin1' rfl Q0 ?_
         refine RetP.mk hs ?_
         first
          | exact absurd rfl h8
          | (exfalso; omega)
          | (rw [costL_const]; exact congrArg I Q7)
        ·
         replace h8 := not_eq_false h8
         replace h8 := of_decide_eq_true h8
         refine WC.skipn ?_
         refine WC.seq ?_
         refine Qm ?_
         refine WL.p Q0 (Yl.add Q0 Q0 Q7) ?_
         refine Qa ?_
         refine WL.next ?_
         refine WC.seq' ?_
         refine WC.seq ?_
         refine Qm ?_
         refine Qm ?_
         refine WL.p Q0 (Yl.indexAddr slt34 Q0 Q0 (Ph.old h_a hs) Q0 (hd)) ?_
         refine WL.p Q0 (Yl.fieldAddr fa180_2 Q0) ?_
         refine WL.p Q0 (Yl.fieldAddr2 fa41_4 Q0) ?_
         refine WL.p Q0 (Yl.loadC sca4 Q0 (Sl.Ok.at_ (Ph.old h_a hs) (by assumption)).2 Q0) ?_
         refine Qm ?_
         refine WL.p Q0 (Yl.remw Q0 Q0 (by decide)) ?_
         refine WL.p Q0 (Yl.eqi Q0 Q0) ?_
         refine WL.p Q0 (Yl.neb bool4 Q0 Q0) ?_
         refine WL.next ?_
         refine WC.condS Q0 (fun h9 => ?_) (fun h9 => ?_)
         ·
          replace h9 := not_eq_true h9
          replace h9 := beq_false h9
          refine WC.seq ?_
          refine Qa ?_
          refine WL.next ?_
          refine WC.ret ?_
          refine At.thenret ?_
          refine At.blockret ?_
          refine At.thenret ?_
          refine At.thenret ?_
          refine At.blockret ?_
          refine At.thenret ?_
          refine fin1' rfl Q0 ?_
          refine RetP.mk hs ?_
          first
           | exact absurd rfl h9
           | (exfalso; omega)
           | (rw [costL_const]; exact congrArg I Q7)
         ·
          replace h9 := not_eq_false h9
          replace h9 := beq_true h9
          refine WC.skipn ?_
          refine WC.seq ?_
          refine Qm ?_
          refine WL.p Q0 (Yl.add Q0 Q0 Q7) ?_
          refine Qa ?_
          refine WL.next ?_
          refine WC.seq' ?_
          refine WC.quietn mixed Q6 hs ?_
          refine WQ.p Q0 (fun w hs => Yl.move Q0) ?_
          refine WQ.p Q0 (fun w hs => Yl.move Q0) ?_
          refine WQ.p Q0 (fun w hs => Yl.indexAddr slt34 Q0 Q0 (Ph.old h_a hs) Q0 (hd)) ?_
          refine WQ.p Q0 (fun w hs => Yl.fieldAddr fa180_2 Q0) ?_
          refine WQ.p Q0 (fun w hs => Yl.fieldAddr2 fa41_5 Q0) ?_
          refine WQ.p Q0 (fun w hs => Yl.loadC sca9 Q0 (Sl.Ok.at_ (Ph.old h_a hs) (by assumption)).2 Q0) ?_
          refine WQ.p Q0 (fun w hs => Yl.move Q0) ?_
          refine WQ.callp Q0 (fun w => Yc.func Q0 fn128) (fun w hs => (c_laws_markText _ _ Q7)) (fun _ _ hs hb => hs.ext hb) ?_
          refine WQ.p Q0 (fun w hs => Yl.nes Q0 Q0) ?_
          refine WQ.next ?_
          clear hs; intro w hs
          refine WC.condS Q0 (fun h10 => ?_) (fun h10 => ?_)
          ·
           replace h10 := not_eq_true h10
           replace h10 := of_decide_eq_false h10
           refine WC.seq ?_
           refine Qa ?_
           refine WL.next ?_
           refine WC.ret ?_
           refine At.thenret ?_
           refine At.blockret ?_
           refine At.thenret ?_
           refine At.thenret ?_
           refine At.blockret ?_
           refine At.thenret ?_
           refine fin1' rfl Q0 ?_
           refine RetP.mk hs ?_
           first
            | exact absurd rfl h10
            | (exfalso; omega)
            | (rw [costL_const]; exact congrArg I Q7)
          ·
           replace h10 := not_eq_false h10
           replace h10 := of_decide_eq_true h10
           refine WC.skipn ?_
           refine WC.seq ?_
           refine Qm ?_
           refine WL.p Q0 (Yl.add Q0 Q0 Q7) ?_
           refine Qa ?_
           refine WL.next ?_
           refine WC.seq' ?_
           refine WC.seq ?_
           refine Qm ?_
           refine Qm ?_
           refine WL.p Q0 (Yl.indexAddr slt34 Q0 Q0 (Ph.old h_a hs) Q0 (hd)) ?_
           refine WL.p Q0 (Yl.fieldAddr fa180_3 Q0) ?_
           refine WL.p Q0 (Yl.loadC sca3 Q0 (Sl.Ok.at_ (Ph.old h_a hs) (by assumption)).2 Q0) ?_
           refine Qm ?_
           refine WL.p Q0 (Yl.nei Q0 Q0) ?_
           refine WL.next ?_
           refine WC.condS Q0 (fun h11 => ?_) (fun h11 => ?_)
           ·
            replace h11 := not_eq_true h11
            replace h11 := of_decide_eq_false h11
            refine WC.seq ?_
            refine Qa ?_
            refine WL.next ?_
            refine WC.ret ?_
            refine At.thenret ?_
            refine At.blockret ?_
            refine At.thenret ?_
            refine At.thenret ?_
            refine At.blockret ?_
            refine At.thenret ?_
            refine fin1' rfl Q0 ?_
            refine RetP.mk hs ?_
            first
             | exact absurd rfl h11
             | (exfalso; omega)
             | (rw [costL_const]; exact congrArg I Q7)
           ·
            replace h11 := not_eq_false h11
            replace h11 := of_decide_eq_true h11
            refine WC.skipn ?_
            refine WC.region ?_
            refine Qm ?_
            refine WL.p Q0 (Yl.add Q0 Q0 Q7) ?_
            refine Qa ?_
            refine WL.nil ?_
            refine At.blocknormal ?_
            refine At.then_ ?_
            refine WC.region ?_
            refine Qm ?_
            refine WL.p Q0 (Yl.add Q0 Q0 Q7) ?_
            refine Qa ?_
            refine WL.nil ?_
            refine At.roundC (n + 1) (hs.only Q2) ⟨by rfl, trivial⟩ ⟨by rfl, by exact congrArg (fun z => some (I z)) Q7, trivial⟩ ?_ ?_
            ·
             omega
            ·
             omega
 ·
  replace h1 := of_decide_eq_false h1
  refine WC.exit ?_
  refine At.thenexit ?_
  refine At.thenexit ?_
  refine At.blockexit ?_
  refine At.then_ ?_
  refine WC.seq ?_
  refine Qm ?_
  refine Qa ?_
  refine WL.next ?_
  refine WC.ret ?_
  refine fin1' rfl Q0 ?_
  refine RetP.mk hs ?_
  first
   | exact absurd rfl h1
   | (exfalso; omega)
   | (rw [costL_const]; exact congrArg I Q7)

theorem c_laws_heldCache (a : PCache) (k : Int) (v : TCache) (w : World) (h_a : Ph.ok w a) (hk0 : 0 ≤ k) (hk : k + ((costoCache v : Nat) : Int) ≤ 100000000) (hm : a.lg = mkoCache k v) : Calls Tryz.prog 83 [.agg #[Sl.v a.entries], I k].toArray w (RetP w (I (k + ((costoCache v : Nat) : Int)))) := by
 have hk2 := hk
 simp only [costoCache, costoCache] at hk2
 refine enterN 12 Tryz.func83 rfl rfl rfl ?_
 have hs := Sat.start w
 refine WC.seq ?_
 refine WL.r Q0 (Yr.box hs Q0 Q0) ?_
 clear hs; rintro _ w ⟨b1, rfl, hb, hs⟩; clear hb
 refine Qa ?_
 refine WL.next ?_
 refine WC.seq ?_
 refine WL.p Q0 (Yl.fieldAddr fa36_0 Q0) ?_
 refine WL.p Q0 (Yl.loadB sca34 Q0 hs Q1 Q0) ?_
 refine Qm ?_
 refine WL.callp hs Q0 (Yc.func Q0 fn153) (c_laws_heldEntryS _ _ v.entries _ (Ph.old h_a.entries hs) Q12 Q12 (by exact congrArg TCache.entries hm)) ?_
 clear hs; intro w hs
 refine Qa ?_
 refine WL.next ?_
 refine WC.seq' ?_
 refine WC.seq ?_
 refine Qm ?_
 refine WL.p Q0 (Yl.lss Q0 Q0) ?_
 refine WL.next ?_
 refine WC.condS Q0 (fun h1 => ?_) (fun h1 => ?_)
 ·
  replace h1 := of_decide_eq_true h1
  refine WC.seq ?_
  refine Qa ?_
  refine WL.next ?_
  refine WC.ret ?_
  refine At.thenret ?_
  refine fin1' rfl Q0 ?_
  refine RetP.mk hs ?_
  first
   | (exfalso; omega)
   | rfl
   | exact congrArg I (by simp only [costoCache, costoCache]; omega)
 ·
  replace h1 := of_decide_eq_false h1
  refine WC.skipn ?_
  refine WC.seq ?_
  refine Qm ?_
  refine Qa ?_
  refine WL.next ?_
  refine WC.ret ?_
  refine fin1' rfl Q0 ?_
  refine RetP.mk hs ?_
  first
   | (exfalso; omega)
   | rfl
   | exact congrArg I (by simp only [costoCache, costoCache]; omega)

theorem c_laws_heldSentS (a : (Sl TSent)) (k : Int) (v : List TSent) (w : World) (h_a : Ph.ok w a) (hk0 : 0 ≤ k) (hk : k + ((costL (fun _ => 4) (v) : Nat) : Int) ≤ 100000000) (hm : a.l = mkL mkSent (fun _ => 4) k v) : Calls Tryz.prog 84 [Sl.v a, I k].toArray w (RetP w (I (k + ((costL (fun _ => 4) (v) : Nat) : Int)))) := by
 have hw := h_a.lt
 have hc : a.l.length = v.length := by rw [hm, mkL_length]
 have hk2 := hk
 rw [costL_const] at hk2
 refine enterN 56 Tryz.func84 rfl rfl rfl ?_
 have hs := Sat.start w
 refine WC.seq ?_
 refine Qa ?_
 refine WL.next ?_
 refine WC.seq' ?_
 refine WC.seq ?_
 refine Qa ?_
 refine WL.next ?_
 refine WC.block ?_
 refine WC.loopC (ι := Nat) (fun n => a.l.length - n) (fun n => [(5, I (n : Int)), (1, I (k + ((4 * n : Nat) : Int)))]) (fun _ => []) (fun n => n ≤ a.l.length) [(0, _)] 0 (hs) ⟨by rfl, trivial⟩ ⟨by rfl, by exact congrArg (fun z => some (I z)) Q7, trivial⟩ ?_ ?_
 ·
  exact Nat.zero_le _
 clear hs; rintro n w hJ1 hs
 simp only [List.nil_append] at hs
 refine WC.seq' ?_
 refine WC.seq ?_
 refine Qm ?_
 refine Qm ?_
 refine WL.p Q0 (Yl.len_sl slu37 Q0) ?_
 refine WL.p Q0 (Yl.lss Q0 Q0) ?_
 refine WL.next ?_
 refine WC.condS Q0 (fun h1 => ?_) (fun h1 => ?_)
 ·
  replace h1 := of_decide_eq_true h1
  obtain ⟨y, hy⟩ := exists_get (l := v) (k := n) Q7
  have hd : a.l[n]? = some (mkSent (k + ((4 * n : Nat) : Int)) y) := by rw [hm, mkL_get hy, costL_take_const Q7]
  refine WC.skipn ?_
  refine WC.seq' ?_
  refine WC.block ?_
  refine WC.seq' ?_
  refine WC.quietn mixed Q6 hs ?_
  refine WQ.p Q0 (fun w hs => Yl.move Q0) ?_
  refine WQ.p Q0 (fun w hs => Yl.move Q0) ?_
  refine WQ.p Q0 (fun w hs => Yl.indexAddr slt37 Q0 Q0 (Ph.old h_a hs) Q0 (hd)) ?_
  refine WQ.p Q0 (fun w hs => Yl.fieldAddr fa123_0 Q0) ?_
  refine WQ.p Q0 (fun w hs => Yl.loadC sca9 Q0 (Sl.Ok.at_ (Ph.old h_a hs) (by assumption)).2 Q0) ?_
  refine WQ.p Q0 (fun w hs => Yl.move Q0) ?_
  refine WQ.callp Q0 (fun w => Yc.func Q0 fn128) (fun w hs => (c_laws_markText _ _ Q7)) (fun _ _ hs hb => hs.ext hb) ?_
  refine WQ.p Q0 (fun w hs => Yl.nes Q0 Q0) ?_
  refine WQ.next ?_
  clear hs; intro w hs
  refine WC.condS Q0 (fun h2 => ?_) (fun h2 => ?_)
  ·
   replace h2 := not_eq_true h2
   replace h2 := of_decide_eq_false h2
   refine WC.seq ?_
   refine Qa ?_
   refine WL.next ?_
   refine WC.ret ?_
   refine At.thenret ?_
   refine At.blockret ?_
   refine At.thenret ?_
   refine At.thenret ?_
   refine At.blockret ?_
   refine At.thenret ?_
   refine fin1' rfl Q0 ?_
   refine RetP.mk hs ?_
   first
    | exact absurd rfl h2
    | (exfalso; omega)
    | (rw [costL_const]; exact congrArg I Q7)
  ·
   replace h2 := not_eq_false h2
   replace h2 := of_decide_eq_true h2
   refine WC.skipn ?_
   refine WC.seq ?_
   refine Qm ?_
   refine WL.p Q0 (Yl.add Q0 Q0 Q7) ?_
   refine Qa ?_
   refine WL.next ?_
   refine WC.seq' ?_
   refine WC.quietn mixed Q6 hs ?_
   refine WQ.p Q0 (fun w hs => Yl.move Q0) ?_
   refine WQ.p Q0 (fun w hs => Yl.move Q0) ?_
   refine WQ.p Q0 (fun w hs => Yl.indexAddr slt37 Q0 Q0 (Ph.old h_a hs) Q0 (hd)) ?_
   refine WQ.p Q0 (fun w hs => Yl.fieldAddr fa123_1 Q0) ?_
   refine WQ.p Q0 (fun w hs => Yl.fieldAddr2 fa45_0 Q0) ?_
   refine WQ.p Q0 (fun w hs => Yl.loadC sca9 Q0 (Sl.Ok.at_ (Ph.old h_a hs) (by assumption)).2 Q0) ?_
   refine WQ.p Q0 (fun w hs => Yl.move Q0) ?_
   refine WQ.callp Q0 (fun w => Yc.func Q0 fn128) (fun w hs => (c_laws_markText _ _ Q7)) (fun _ _ hs hb => hs.ext hb) ?_
   refine WQ.p Q0 (fun w hs => Yl.nes Q0 Q0) ?_
   refine WQ.next ?_
   clear hs; intro w hs
   refine WC.condS Q0 (fun h3 => ?_) (fun h3 => ?_)
   ·
    replace h3 := not_eq_true h3
    replace h3 := of_decide_eq_false h3
    refine WC.seq ?_
    refine Qa ?_
    refine WL.next ?_
    refine WC.ret ?_
    refine At.thenret ?_
    refine At.blockret ?_
    refine At.thenret ?_
    refine At.thenret ?_
    refine At.blockret ?_
    refine At.thenret ?_
    refine fin1' rfl Q0 ?_
    refine RetP.mk hs ?_
    first
     | exact absurd rfl h3
     | (exfalso; omega)
     | (rw [costL_const]; exact congrArg I Q7)
   ·
    replace h3 := not_eq_false h3
    replace h3 := of_decide_eq_true h3
    refine WC.skipn ?_
    refine WC.seq ?_
    refine Qm ?_
    refine WL.p Q0 (Yl.add Q0 Q0 Q7) ?_
    refine Qa ?_
    refine WL.next ?_
    refine WC.seq' ?_
    refine WC.quietn mixed Q6 hs ?_
    refine WQ.p Q0 (fun w hs => Yl.move Q0) ?_
    refine WQ.p Q0 (fun w hs => Yl.move Q0) ?_
    refine WQ.p Q0 (fun w hs => Yl.indexAddr slt37 Q0 Q0 (Ph.old h_a hs) Q0 (hd)) ?_
    refine WQ.p Q0 (fun w hs => Yl.fieldAddr fa123_1 Q0) ?_
    refine WQ.p Q0 (fun w hs => Yl.fieldAddr2 fa45_1 Q0) ?_
    refine WQ.p Q0 (fun w hs => Yl.loadC sca9 Q0 (Sl.Ok.at_ (Ph.old h_a hs) (by assumption)).2 Q0) ?_
    refine WQ.p Q0 (fun w hs => Yl.move Q0) ?_
    refine WQ.callp Q0 (fun w => Yc.func Q0 fn128) (fun w hs => (c_laws_markText _ _ Q7)) (fun _ _ hs hb => hs.ext hb) ?_
    refine WQ.p Q0 (fun w hs => Yl.nes Q0 Q0) ?_
    refine WQ.next ?_
    clear hs; intro w hs
    refine WC.condS Q0 (fun h4 => ?_) (fun h4 => ?_)
    ·
     replace h4 := not_eq_true h4
     replace h4 := of_decide_eq_false h4
     refine WC.seq ?_
     refine Qa ?_
     refine WL.next ?_
     refine WC.ret ?_
     refine At.thenret ?_
     refine At.blockret ?_
     refine At.thenret ?_
     refine At.thenret ?_
     refine At.blockret ?_
     refine At.thenret ?_
     refine fin1' rfl Q0 ?_
     refine RetP.mk hs ?_
     first
      | exact absurd rfl h4
      | (exfalso; omega)
      | (rw [costL_const]; exact congrArg I Q7)
    ·
     replace h4 := not_eq_false h4
     replace h4 := of_decide_eq_true h4
     refine WC.skipn ?_
     refine WC.seq ?_
     refine Qm ?_
     refine WL.p Q0 (Yl.add Q0 Q0 Q7) ?_
     refine Qa ?_
     refine WL.next ?_
     refine WC.seq' ?_
     refine WC.seq ?_
     refine Qm ?_
     refine Qm ?_
     refine WL.p Q0 (Yl.indexAddr slt37 Q0 Q0 (Ph.old h_a hs) Q0 (hd)) ?_
     refine WL.p Q0 (Yl.fieldAddr fa123_2 Q0) ?_
     refine WL.p Q0 (Yl.loadC sca4 Q0 (Sl.Ok.at_ (Ph.old h_a hs) (by assumption)).2 Q0) ?_
     refine Qm ?_
     refine WL.p Q0 (Yl.remw Q0 Q0 (by decide)) ?_
     refine WL.p Q0 (Yl.eqi Q0 Q0) ?_
     refine WL.p Q0 (Yl.neb bool4 Q0 Q0) ?_
     refine WL.next ?_
     refine WC.condS Q0 (fun h5 => ?_) (fun h5 => ?_)
     ·
      replace h5 := not_eq_true h5
      replace h5 := beq_false h5
      refine WC.seq ?_
      refine Qa ?_
      refine WL.next ?_
      refine WC.ret ?_
      refine At.thenret ?_
      refine At.blockret ?_
      refine At.thenret ?_
      refine At.thenret ?_
      refine At.blockret ?_
      refine At.thenret ?_
      refine fin1' rfl Q0 ?_
      refine RetP.mk hs ?_
      first
       | exact absurd rfl h5
       | (exfalso; omega)
       | (rw [costL_const]; exact congrArg I Q7)
     ·
      replace h5 := not_eq_false h5
      replace h5 := beq_true h5
      refine WC.skipn ?_
      refine WC.region ?_
      refine Qm ?_
      refine WL.p Q0 (Yl.add Q0 Q0 Q7) ?_
      refine Qa ?_
      refine WL.nil ?_
      refine At.blocknormal ?_
      refine At.then_ ?_
      refine WC.region ?_
      refine Qm ?_
      refine WL.p Q0 (Yl.add Q0 Q0 Q7) ?_
      refine Qa ?_
      refine WL.nil ?_
      refine At.roundC (n + 1) (hs.only Q2) ⟨by rfl, trivial⟩ ⟨by rfl, by exact congrArg (fun z => some (I z)) Q7, trivial⟩ ?_ ?_
      ·
       omega
      ·
       omega
 ·
  replace h1 := of_decide_eq_false h1
  refine WC.exit ?_
  refine At.thenexit ?_
  refine At.thenexit ?_
  refine At.blockexit ?_
  refine At.then_ ?_
  refine WC.seq ?_
  refine Qm ?_
  refine Qa ?_
  refine WL.next ?_
  refine WC.ret ?_
  refine fin1' rfl Q0 ?_
  refine RetP.mk hs ?_
  first
   | exact absurd rfl h1
   | (exfalso; omega)
   | (rw [costL_const]; exact congrArg I Q7)

theorem c_laws_heldNet (a : PNet) (k : Int) (v : TNet) (w : World) (h_a : Ph.ok w a) (hk0 : 0 ≤ k) (hk : k + ((costoNet v : Nat) : Int) ≤ 100000000) (hm : a.lg = mkoNet k v) : Calls Tryz.prog 20 [.agg #[Sl.v a.servers, Sl.v a.cache.entries, Sl.v a.log, I a.now], I k].toArray w (RetP w (I (k + ((costoNet v : Nat) : Int)))) := by
 have hk2 := hk
 simp only [costoNet, costoCache] at hk2
 refine enterN 24 Tryz.func20 rfl rfl rfl ?_
 have hs := Sat.start w
 refine WC.seq ?_
 refine WL.r Q0 (Yr.box hs Q0 Q0) ?_
 clear hs; rintro _ w ⟨b1, rfl, hb, hs⟩; clear hb
 refine Qa ?_
 refine WL.next ?_
 refine WC.seq ?_
 refine WL.p Q0 (Yl.fieldAddr fa39_0 Q0) ?_
 refine WL.p Q0 (Yl.loadB sca33 Q0 hs Q1 Q0) ?_
 refine Qm ?_
 refine WL.callp hs Q0 (Yc.func Q0 fn82) (c_laws_heldServerS _ _ v.servers _ (Ph.old h_a.servers hs) Q12 Q12 (by exact congrArg TNet.servers hm)) ?_
 clear hs; intro w hs
 refine Qa ?_
 refine WL.next ?_
 refine WC.seq' ?_
 refine WC.seq ?_
 refine Qm ?_
 refine WL.p Q0 (Yl.lss Q0 Q0) ?_
 refine WL.next ?_
 refine WC.condS Q0 (fun h1 => ?_) (fun h1 => ?_)
 ·
  replace h1 := of_decide_eq_true h1
  refine WC.seq ?_
  refine Qa ?_
  refine WL.next ?_
  refine WC.ret ?_
  refine At.thenret ?_
  refine fin1' rfl Q0 ?_
  refine RetP.mk hs ?_
  first
   | (exfalso; omega)
   | rfl
   | exact congrArg I (by simp only [costoNet, costoCache]; omega)
 ·
  replace h1 := of_decide_eq_false h1
  refine WC.skipn ?_
  refine WC.seq ?_
  refine WL.p Q0 (Yl.fieldAddr fa39_1 Q0) ?_
  refine WL.p Q0 (Yl.loadAB agg36 Q0 hs Q1 Q0 Q0) ?_
  refine Qm ?_
  refine WL.callp hs Q0 (Yc.func Q0 fn83) (c_laws_heldCache _ _ v.cache _ ⟨(Ph.old h_a.cache.entries hs)⟩ Q12 Q12 (by exact congrArg TNet.cache hm)) ?_
  clear hs; intro w hs
  refine Qa ?_
  refine WL.next ?_
  refine WC.seq' ?_
  refine WC.seq ?_
  refine Qm ?_
  refine WL.p Q0 (Yl.lss Q0 Q0) ?_
  refine WL.next ?_
  refine WC.condS Q0 (fun h2 => ?_) (fun h2 => ?_)
  ·
   replace h2 := of_decide_eq_true h2
   refine WC.seq ?_
   refine Qa ?_
   refine WL.next ?_
   refine WC.ret ?_
   refine At.thenret ?_
   refine fin1' rfl Q0 ?_
   refine RetP.mk hs ?_
   first
    | (exfalso; omega)
    | rfl
    | exact congrArg I (by simp only [costoNet, costoCache]; omega)
  ·
   replace h2 := of_decide_eq_false h2
   refine WC.skipn ?_
   refine WC.seq ?_
   refine WL.p Q0 (Yl.fieldAddr fa39_2 Q0) ?_
   refine WL.p Q0 (Yl.loadB sca37 Q0 hs Q1 Q0) ?_
   refine Qm ?_
   refine WL.callp hs Q0 (Yc.func Q0 fn84) (c_laws_heldSentS _ _ v.log _ (Ph.old h_a.log hs) Q12 Q12 (by exact congrArg TNet.log hm)) ?_
   clear hs; intro w hs
   refine Qa ?_
   refine WL.next ?_
   refine WC.seq' ?_
   refine WC.seq ?_
   refine Qm ?_
   refine WL.p Q0 (Yl.lss Q0 Q0) ?_
   refine WL.next ?_
   refine WC.condS Q0 (fun h3 => ?_) (fun h3 => ?_)
   ·
    replace h3 := of_decide_eq_true h3
    refine WC.seq ?_
    refine Qa ?_
    refine WL.next ?_
    refine WC.ret ?_
    refine At.thenret ?_
    refine fin1' rfl Q0 ?_
    refine RetP.mk hs ?_
    first
     | (exfalso; omega)
     | rfl
     | exact congrArg I (by simp only [costoNet, costoCache]; omega)
   ·
    replace h3 := of_decide_eq_false h3
    refine WC.skipn ?_
    refine WC.seq ?_
    refine Qm ?_
    refine Qa ?_
    refine WL.next ?_
    refine WC.ret ?_
    refine fin1' rfl Q0 ?_
    refine RetP.mk hs ?_
    first
     | (exfalso; omega)
     | rfl
     | exact congrArg I (by simp only [costoNet, costoCache]; omega)

end Go.Sw
