/- Walks: what each function of the program returns, for every input. Printed by gen.py. -/
import Derived.Test.YtpnmdcomdakdmaaGreatDoorW0
set_option linter.all false
namespace Go.Sw
open Go Go.RowKit Go.Proofs

theorem c_spec_StoreEntry (c : PCache) (top : Str) (a : TAddr) (y : TResponse) (now : Int) (w : World) (h_c : Ph.ok w c) (h_top : Ph.ok w top) (h_a : Ph.ok w a) (h_y : Ph.ok w y) (h_now : Ph.ok w now) (hbc : c.lg.size ≤ 1048576) (hpy : y.policy.length ≤ 1048576) : Calls Tryz.prog 211 [.agg #[Sl.v c.entries], S top, .agg #[S a.host, S a.path], .agg #[I y.status, I y.kind, S y.body, I y.age, Bo y.shares, S y.policy], I now].toArray w (Ret w (fun v w' => ∃ x : PCache, v = .agg (Ph.enc x).toArray ∧ x.lg = storeEntry c.lg top a y now ∧ Fresh w x w')) := by
 refine enterN 66 Tryz.func211 rfl rfl rfl ?_
 have hs := Sat.start w
 refine WC.seq ?_
 refine WL.r Q0 (Yr.box hs Q0 Q0) ?_
 clear hs; rintro _ w ⟨b1, rfl, hb, hs⟩; clear hb
 refine WL.r Q0 (Yr.box hs Q0 Q0) ?_
 clear hs; rintro _ w ⟨b2, rfl, hb, hs⟩; clear hb
 refine WL.r Q0 (Yr.box hs Q0 Q0) ?_
 clear hs; rintro _ w ⟨b3, rfl, hb, hs⟩; clear hb
 refine WL.r Q0 (Yr.alloc hs zt27) ?_
 clear hs; rintro _ w ⟨b4, rfl, hb, hs⟩; clear hb
 refine WL.next ?_
 refine WC.seq ?_
 refine WL.p Q0 (Yl.loadAB agg27 Q0 hs Q1 Q0 Q0) ?_
 refine WL.call hs Q0 (Yc.func Q0 fn187) (c_spec_l13Copy _ _ (Ph.old h_c hs) Q10) ?_
 have hs0 := hs; clear hs; intro v w hb hR hs; clear hs
 obtain ⟨x5, rfl, hx5, hf5⟩ := hR
 obtain ⟨F5, hs⟩ := hf5.sat hs0 hb; clear hs0 hf5
 refine WL.r Q0 (Yr.alloc hs zt27) ?_
 clear hs; rintro _ w ⟨b6, rfl, hb, hs⟩; clear hb
 refine WL.s (Yr.storeB hs Q0 Q0 Q0 Q5 Q3 Q0 (by exact szf27)) ?_
 clear hs; rintro _ w hs
 refine WL.next ?_
 refine WC.seq' ?_
 refine WC.seq ?_
 refine WL.p Q0 (Yl.fieldAddr fa72_3 Q0) ?_
 refine WL.p Q0 (Yl.loadB sca3 Q0 hs Q1 Q0) ?_
 refine WL.p Q0 (Yl.eqi Q0 Q0) ?_
 refine Qm ?_
 refine WL.split (d := 19) Q0 (fun h1 => ?_) (fun h1 => ?_)
 ·
  replace h1 := of_decide_eq_true h1
  refine WL.skip (d := 19) Q0 Q0 Q0 Q0 ?_
  refine WL.skip (d := 19) Q0 Q0 Q0 Q0 ?_
  refine WL.skip (d := 19) Q0 Q0 Q0 Q0 ?_
  refine WL.p Q0 (Yl.pickT Q0 Q0) ?_
  refine Qm ?_
  refine WL.skip (d := 24) Q0 Q0 Q0 Q0 ?_
  refine WL.skip (d := 24) Q0 Q0 Q0 Q0 ?_
  refine WL.skip (d := 24) Q0 Q0 Q0 Q0 ?_
  refine WL.p Q0 (Yl.pickT Q0 Q0) ?_
  refine Qm ?_
  refine WL.skip (d := 29) Q0 Q0 Q0 Q0 ?_
  refine WL.skip (d := 29) Q0 Q0 Q0 Q0 ?_
  refine WL.skip (d := 29) Q0 Q0 Q0 Q0 ?_
  refine WL.p Q0 (Yl.pickT Q0 Q0) ?_
  refine WL.next ?_
  refine WC.condT Q0 ?_
  refine WC.seq ?_
  refine WL.p Q0 (Yl.loadAB agg27 Q0 hs Q1 Q0 Q0) ?_
  refine WL.s (Yr.storeB hs Q0 Q0 Q0 Q5 Q3 Q0 (by exact szf27)) ?_
  clear hs; rintro _ w hs
  refine WL.next ?_
  refine WC.ret ?_
  refine At.thenret ?_
  refine fin1c rfl agg27 Q0 hs Q1 Q0 ?_
  refine Ret.mk hs ?_
  try rw [hpe] at h1
  have hb9 : storeIs c.lg top a y now = false := by
   clear hs
   cases h9 : storeIs c.lg top a y now with
   | false => rfl
   | true =>
    exfalso
    have h8 := storeIs_isv h9
    try simp only [← inR_true] at *
    try simp only [← inR_false] at *
    simp_all [storeIs]
  exact ⟨x5, rfl, hx5.trans (storeEntry_no hb9).symm, hs.fresh Q1⟩
 ·
  replace h1 := of_decide_eq_false h1
  refine WL.run (d := 19) Q0 Q0 ?_
  refine Qm ?_
  refine WL.run (d := 19) Q0 Q0 ?_
  refine WL.callp hs Q0 (Yc.func Q0 fn95) (c_spec_l1In _ _ _ _) ?_
  clear hs; intro w hs
  refine WL.run (d := 19) Q0 Q0 ?_
  refine WL.p Q0 (Yl.not Q0) ?_
  refine WL.p Q0 (Yl.pickF Q0 Q0) ?_
  refine Qm ?_
  refine WL.split (d := 24) Q0 (fun h2 => ?_) (fun h2 => ?_)
  ·
   replace h2 := not_eq_true h2
   replace h2 := inR_false.1 h2
   refine WL.skip (d := 24) Q0 Q0 Q0 Q0 ?_
   refine WL.skip (d := 24) Q0 Q0 Q0 Q0 ?_
   refine WL.skip (d := 24) Q0 Q0 Q0 Q0 ?_
   refine WL.p Q0 (Yl.pickT Q0 Q0) ?_
   refine Qm ?_
   refine WL.skip (d := 29) Q0 Q0 Q0 Q0 ?_
   refine WL.skip (d := 29) Q0 Q0 Q0 Q0 ?_
   refine WL.skip (d := 29) Q0 Q0 Q0 Q0 ?_
   refine WL.p Q0 (Yl.pickT Q0 Q0) ?_
   refine WL.next ?_
   refine WC.condT Q0 ?_
   refine WC.seq ?_
   refine WL.p Q0 (Yl.loadAB agg27 Q0 hs Q1 Q0 Q0) ?_
   refine WL.s (Yr.storeB hs Q0 Q0 Q0 Q5 Q3 Q0 (by exact szf27)) ?_
   clear hs; rintro _ w hs
   refine WL.next ?_
   refine WC.ret ?_
   refine At.thenret ?_
   refine fin1c rfl agg27 Q0 hs Q1 Q0 ?_
   refine Ret.mk hs ?_
   try rw [hpe] at h2
   have hb9 : storeIs c.lg top a y now = false := by
    clear hs
    cases h9 : storeIs c.lg top a y now with
    | false => rfl
    | true =>
     exfalso
     have h8 := storeIs_isv h9
     try simp only [← inR_true] at *
     try simp only [← inR_false] at *
     simp_all [storeIs]
   exact ⟨x5, rfl, hx5.trans (storeEntry_no hb9).symm, hs.fresh Q1⟩
  ·
   replace h2 := not_eq_false h2
   replace h2 := inR_true.1 h2
   refine WL.run (d := 24) Q0 Q0 ?_
   refine WL.p Q0 (Yl.loadAB agg72 Q0 hs Q1 Q0 Q0) ?_
   refine WL.run (d := 24) Q0 Q0 ?_
   refine WL.callp hs Q0 (Yc.func Q0 fn163) (c_spec_IsResponse _ _ (Ph.old h_y hs) Q10) ?_
   clear hs; intro w hs
   refine WL.run (d := 24) Q0 Q0 ?_
   refine WL.p Q0 (Yl.not Q0) ?_
   refine WL.p Q0 (Yl.pickF Q0 Q0) ?_
   refine Qm ?_
   refine WL.split (d := 29) Q0 (fun h3 => ?_) (fun h3 => ?_)
   ·
    replace h3 := not_eq_true h3
    refine WL.skip (d := 29) Q0 Q0 Q0 Q0 ?_
    refine WL.skip (d := 29) Q0 Q0 Q0 Q0 ?_
    refine WL.skip (d := 29) Q0 Q0 Q0 Q0 ?_
    refine WL.p Q0 (Yl.pickT Q0 Q0) ?_
    refine WL.next ?_
    refine WC.condT Q0 ?_
    refine WC.seq ?_
    refine WL.p Q0 (Yl.loadAB agg27 Q0 hs Q1 Q0 Q0) ?_
    refine WL.s (Yr.storeB hs Q0 Q0 Q0 Q5 Q3 Q0 (by exact szf27)) ?_
    clear hs; rintro _ w hs
    refine WL.next ?_
    refine WC.ret ?_
    refine At.thenret ?_
    refine fin1c rfl agg27 Q0 hs Q1 Q0 ?_
    refine Ret.mk hs ?_
    try rw [hpe] at h3
    have hb9 : storeIs c.lg top a y now = false := by
     clear hs
     cases h9 : storeIs c.lg top a y now with
     | false => rfl
     | true =>
      exfalso
      have h8 := storeIs_isv h9
      try simp only [← inR_true] at *
      try simp only [← inR_false] at *
      simp_all [storeIs]
    exact ⟨x5, rfl, hx5.trans (storeEntry_no hb9).symm, hs.fresh Q1⟩
   ·
    replace h3 := not_eq_false h3
    refine WL.run (d := 29) Q0 Q0 ?_
    refine WL.p Q0 (Yl.loadAB agg27 Q0 hs Q1 Q0 Q0) ?_
    refine WL.run (d := 29) Q0 Q0 ?_
    refine WL.callp hs Q0 (Yc.func Q0 fn99) (c_spec_IsCache _ _ (Ph.old h_c hs) (by exact cache_pol hbc)) ?_
    clear hs; intro w hs
    refine WL.run (d := 29) Q0 Q0 ?_
    refine WL.p Q0 (Yl.not Q0) ?_
    refine WL.p Q0 (Yl.pickF Q0 Q0) ?_
    refine WL.next ?_
    refine WC.condS Q0 (fun h4 => ?_) (fun h4 => ?_)
    ·
     replace h4 := not_eq_true h4
     refine WC.seq ?_
     refine WL.p Q0 (Yl.loadAB agg27 Q0 hs Q1 Q0 Q0) ?_
     refine WL.s (Yr.storeB hs Q0 Q0 Q0 Q5 Q3 Q0 (by exact szf27)) ?_
     clear hs; rintro _ w hs
     refine WL.next ?_
     refine WC.ret ?_
     refine At.thenret ?_
     refine fin1c rfl agg27 Q0 hs Q1 Q0 ?_
     refine Ret.mk hs ?_
     try rw [hpe] at h4
     have hb9 : storeIs c.lg top a y now = false := by
      clear hs
      cases h9 : storeIs c.lg top a y now with
      | false => rfl
      | true =>
       exfalso
       have h8 := storeIs_isv h9
       try simp only [← inR_true] at *
       try simp only [← inR_false] at *
       simp_all [storeIs]
     exact ⟨x5, rfl, hx5.trans (storeEntry_no hb9).symm, hs.fresh Q1⟩
    ·
     replace h4 := not_eq_false h4
     refine WC.skipn ?_
     refine WC.seq ?_
     refine Qm ?_
     refine WL.p Q0 (Yl.loadAB agg39 Q0 hs Q1 Q0 Q0) ?_
     refine WL.p Q0 (Yl.loadAB agg72 Q0 hs Q1 Q0 Q0) ?_
     refine Qm ?_
     refine WL.p Q0 (Yl.fieldAddr fa72_3 Q0) ?_
     refine WL.p Q0 (Yl.loadB sca3 Q0 hs Q1 Q0) ?_
     refine WL.p Q0 (Yl.add Q0 Q0 (by have := h_y.age.1; have := h_y.age.2; simp only [TResponse.isv, Bool.and_eq_true, inR_true] at h3; omega)) ?_
     refine WL.p Q0 (Yl.build bt173 Q0 Q4) ?_
     refine WL.r Q0 (Yr.alloc hs zt173) ?_
     clear hs; rintro _ w ⟨b7, rfl, hb, hs⟩; clear hb
     refine WL.s (Yr.storeB hs Q0 Q0 Q0 Q5 Q3 Q0 (by exact szf173)) ?_
     clear hs; rintro _ w hs
     refine WL.next ?_
     refine WC.seq' ?_
     refine WC.seq ?_
     refine WL.p Q0 (Yl.loadAB agg27 Q0 hs Q1 Q0 Q0) ?_
     refine Qm ?_
     refine WL.p Q0 (Yl.loadAB agg39 Q0 hs Q1 Q0 Q0) ?_
     refine WL.callp hs Q0 (Yc.func Q0 fn193) (c_spec_l13Find _ _ _ _ (Ph.old h_c hs)) ?_
     clear hs; intro w hs
     refine Qa ?_
     refine WL.next ?_
     refine WC.seq ?_
     refine Qm ?_
     refine WL.p Q0 (Yl.geq Q0 Q0) ?_
     refine WL.next ?_
     refine WC.condS Q0 (fun h5 => ?_) (fun h5 => ?_)
     ·
      replace h5 := of_decide_eq_true h5
      obtain ⟨j, d, hj, hd, hf⟩ := idxF_some (p := atF top a) (l := c.entries.l) (k := 0) (show ¬ idxF (atF top a) c.entries.l 0 < 0 from Int.not_lt.2 h5)
      rw [Nat.zero_add] at hj
      have hxe : x5.entries.l = c.entries.l := congrArg TCache.entries hx5
      have hdx : x5.entries.l[j]? = some d := by rw [hxe]; exact hd
      have hklt : j < x5.entries.l.length := (List.getElem?_eq_some_iff.1 hdx).1
      refine WC.region ?_
      refine WL.p Q0 (Yl.fieldAddr fa27_0 Q0) ?_
      refine WL.p Q0 (Yl.loadB sca25 Q0 hs Q1 Q0) ?_
      refine Qm ?_
      refine WL.p Q0 (Yl.loadAB agg173 Q0 hs Q1 Q0 Q0) ?_
      refine WL.p Q0 (Yl.indexAddr slt25 Q0 Q0 (hs.okow (x := x5) (F := F5) Q1).entries (by exact hj) (hdx)) ?_
      obtain ⟨K8, hfl8, hs⟩ := PCache.split (hs.sel (D := [ow x5 F5]) Q2)
      try simp only [List.cons_append, List.nil_append] at hs
      refine WL.s (Yr.storeE (u := (newEntry top a y now)) (k := j) (hs.flat (x := ((newEntry top a y now) : TEntry)) (by exact ⟨h_top, Flat.any h_a, Flat.any h_y, (show WfI _ from by have h9 := h3; simp only [TResponse.isv, Bool.and_eq_true, inR_true] at h9; show WfI (now + y.age); exact ⟨by omega, by omega⟩)⟩)) Q2 Q0 Q0 Q0 (by exact hklt) ⟨_, by rfl, by rfl⟩ szf173) ?_
      clear hs; rintro _ w ⟨F8, hs⟩
      obtain ⟨s8, hv8, hl8, hs⟩ := restore hs
      replace hs := PCache.join ⟨s8⟩ (hs.sel (D := [ow s8 F8]) Q2)
      try simp only [List.cons_append, List.nil_append] at hs
      have he8 : Ph.enc (⟨s8⟩ : PCache) = Ph.enc x5 := by show [s8.v] = [x5.entries.v]; rw [hv8]
      refine WL.nil ?_
      refine At.then_ ?_
      refine WC.seq' ?_
      refine WC.seq ?_
      refine WL.p Q0 (Yl.loadAB agg27 Q0 hs Q1 Q0 Q0) ?_
      have hpe : PCache.lg (⟨s8⟩ : PCache) = putEntry c.lg top a (newEntry top a y now) := by
       rw [putEntry_set (c := c.lg) hj]
       simp only [PCache.lg, hl8, hxe]
      refine WL.callp hs Q0 (Yc.func Q0 fn99) (calls_conv (congrArg (fun z => ([z] : List Value).toArray) (show (.agg #[Sl.v (⟨s8⟩ : PCache).entries] : Value) = .agg #[Sl.v x5.entries] from congrArg (fun l => Value.agg l.toArray) he8)) (c_spec_IsCache (⟨s8⟩ : PCache) _ (hs.okow (x := (⟨s8⟩ : PCache)) (F := F8) Q1) (by show ∀ e ∈ (PCache.lg _).entries, _; rw [hpe]; exact put_pol hbc hpy))) ?_
      clear hs; intro w hs
      refine WL.p Q0 (Yl.not Q0) ?_
      refine WL.next ?_
      refine WC.condS Q0 (fun h6 => ?_) (fun h6 => ?_)
      ·
       replace h6 := not_eq_true h6
       refine WC.seq ?_
       refine WL.p Q0 (Yl.loadAB agg27 Q0 hs Q1 Q0 Q0) ?_
       refine WL.call hs Q0 (Yc.func Q0 fn187) (c_spec_l13Copy _ _ (Ph.old h_c hs) Q10) ?_
       have hs0 := hs; clear hs; intro v w hb hR hs; clear hs
       obtain ⟨x9, rfl, hx9, hf9⟩ := hR
       obtain ⟨F9, hs⟩ := hf9.sat hs0 hb; clear hs0 hf9
       refine WL.s (Yr.storeB hs Q0 Q0 Q0 Q5 Q3 Q0 (by exact szf27)) ?_
       clear hs; rintro _ w hs
       refine WL.next ?_
       refine WC.ret ?_
       refine At.thenret ?_
       refine fin1c rfl agg27 Q0 hs Q1 Q0 ?_
       refine Ret.mk hs ?_
       try rw [hpe] at h6
       have hb9 : storeIs c.lg top a y now = false := by
        clear hs
        cases h9 : storeIs c.lg top a y now with
        | false => rfl
        | true =>
         exfalso
         have h8 := storeIs_isv h9
         try simp only [← inR_true] at *
         try simp only [← inR_false] at *
         simp_all [storeIs]
       exact ⟨x9, rfl, hx9.trans (storeEntry_no hb9).symm, hs.fresh Q1⟩
      ·
       replace h6 := not_eq_false h6
       refine WC.skipn ?_
       refine WC.seq ?_
       refine WL.p Q0 (Yl.loadAB agg27 Q0 hs Q1 Q0 Q0) ?_
       refine WL.s (Yr.storeB hs Q0 Q0 Q0 Q5 Q3 Q0 (by exact szf27)) ?_
       clear hs; rintro _ w hs
       refine WL.next ?_
       refine WC.ret ?_
       refine fin1c rfl agg27 Q0 hs Q1 Q0 ?_
       refine Ret.mk hs ?_
       try rw [hpe] at h6
       have hb9 : storeIs c.lg top a y now = true := by
        clear hs
        try simp only [← inR_true] at *
        try simp only [← inR_false] at *
        simp_all [storeIs]
       exact ⟨(⟨s8⟩ : PCache), by rw [he8]; try rfl, hpe.trans (storeEntry_yes hb9).symm, hs.fresh Q1⟩
     ·
      replace h5 := of_decide_eq_false h5
      refine WC.region ?_
      refine WL.p Q0 (Yl.fieldAddr fa27_0 Q0) ?_
      refine WL.p Q0 (Yl.loadB sca25 Q0 hs Q1 Q0) ?_
      refine WL.p Q0 (Yl.loadAB agg173 Q0 hs Q1 Q0 Q0) ?_
      refine WL.r Q0 (Yr.buildSlice hs sll25 Q0 Q0 Q0 Q4 Q0) ?_
      clear hs; rintro _ w ⟨b10, rfl, hb, hs⟩; clear hb
      obtain ⟨K11_0, hfl11, hs⟩ := PCache.split (hs.sel (D := [ow x5 F5]) Q2)
      try simp only [List.cons_append, List.nil_append] at hs
      refine WL.r Q0 (Yr.append (s := x5.entries) (F := K11_0) hs elt25 Q2 Q0 Q0 rfl (xs := [(newEntry top a y now)]) (hs.box_cells Q1) (by intro x hx; obtain rfl := List.mem_singleton.1 hx; exact ⟨h_top, Flat.any h_a, Flat.any h_y, (show WfI _ from by have h9 := h3; simp only [TResponse.isv, Bool.and_eq_true, inR_true] at h9; show WfI (now + y.age); exact ⟨by omega, by omega⟩)⟩) (by have hxe9 : x5.entries.l = c.entries.l := congrArg TCache.entries hx5; rw [hxe9]; simp only [TCache.size, lsz] at hbc; simp; unfold maxLen; omega) (by have hxe9 : x5.entries.l = c.entries.l := congrArg TCache.entries hx5; rw [hxe9]; simp only [TCache.size, lsz] at hbc; simp; omega)) ?_
      clear hs; rintro _ w ⟨s12, F12, rfl, hl12, hs⟩
      refine WL.p Q0 (Yl.fieldAddr fa27_0 Q0) ?_
      refine WL.s (Yr.storeB hs Q0 Q0 Q0 Q5 Q3 Q0 (by exact szf25)) ?_
      clear hs; rintro _ w hs
      refine WL.nil ?_
      refine At.then_ ?_
      refine WC.seq' ?_
      refine WC.seq ?_
      refine WL.p Q0 (Yl.loadAB agg27 Q0 hs Q1 Q0 Q0) ?_
      have hxe : x5.entries.l = c.entries.l := congrArg TCache.entries hx5
      have hpe : PCache.lg ⟨s12⟩ = putEntry c.lg top a (newEntry top a y now) := by
       rw [putEntry_app (c := c.lg) (Int.not_le.1 h5)]
       simp only [PCache.lg, hl12, hxe]
      refine WL.callp hs Q0 (Yc.func Q0 fn99) (c_spec_IsCache (⟨s12⟩ : PCache) _ ⟨(hs.okow (x := s12) (F := F12) Q1)⟩ (by show ∀ e ∈ (PCache.lg _).entries, _; rw [hpe]; exact put_pol hbc hpy)) ?_
      clear hs; intro w hs
      refine WL.p Q0 (Yl.not Q0) ?_
      refine WL.next ?_
      refine WC.condS Q0 (fun h6 => ?_) (fun h6 => ?_)
      ·
       replace h6 := not_eq_true h6
       refine WC.seq ?_
       refine WL.p Q0 (Yl.loadAB agg27 Q0 hs Q1 Q0 Q0) ?_
       refine WL.call hs Q0 (Yc.func Q0 fn187) (c_spec_l13Copy _ _ (Ph.old h_c hs) Q10) ?_
       have hs0 := hs; clear hs; intro v w hb hR hs; clear hs
       obtain ⟨x13, rfl, hx13, hf13⟩ := hR
       obtain ⟨F13, hs⟩ := hf13.sat hs0 hb; clear hs0 hf13
       refine WL.s (Yr.storeB hs Q0 Q0 Q0 Q5 Q3 Q0 (by exact szf27)) ?_
       clear hs; rintro _ w hs
       refine WL.next ?_
       refine WC.ret ?_
       refine At.thenret ?_
       refine fin1c rfl agg27 Q0 hs Q1 Q0 ?_
       refine Ret.mk hs ?_
       try rw [hpe] at h6
       have hb9 : storeIs c.lg top a y now = false := by
        clear hs
        cases h9 : storeIs c.lg top a y now with
        | false => rfl
        | true =>
         exfalso
         have h8 := storeIs_isv h9
         try simp only [← inR_true] at *
         try simp only [← inR_false] at *
         simp_all [storeIs]
       exact ⟨x13, rfl, hx13.trans (storeEntry_no hb9).symm, hs.fresh Q1⟩
      ·
       replace h6 := not_eq_false h6
       refine WC.skipn ?_
       refine WC.seq ?_
       refine WL.p Q0 (Yl.loadAB agg27 Q0 hs Q1 Q0 Q0) ?_
       refine WL.s (Yr.storeB hs Q0 Q0 Q0 Q5 Q3 Q0 (by exact szf27)) ?_
       clear hs; rintro _ w hs
       refine WL.next ?_
       refine WC.ret ?_
       refine fin1c rfl agg27 Q0 hs Q1 Q0 ?_
       refine Ret.mk hs ?_
       try rw [hpe] at h6
       have hb9 : storeIs c.lg top a y now = true := by
        clear hs
        try simp only [← inR_true] at *
        try simp only [← inR_false] at *
        simp_all [storeIs]
       exact ⟨⟨s12⟩, rfl, hpe.trans (storeEntry_yes hb9).symm, (PCache.join ⟨s12⟩ (hs.only (D := [ow s12 F12]) Q2)).fresh List.mem_cons_self⟩

theorem c_spec_KeepAnswer (n : PNet) (top : Str) (a : TAddr) (y : TResponse) (w : World) (h_n : Ph.ok w n) (h_top : Ph.ok w top) (h_a : Ph.ok w a) (h_y : Ph.ok w y) (hbs : lsz TServer.size n.lg.servers ≤ 1048576) (hbc : n.lg.cache.size ≤ 1048576) (hbl : n.log.l.length ≤ 1048577) (hpy : y.policy.length ≤ 1048576) : Calls Tryz.prog 128 [.agg #[Sl.v n.servers, Sl.v n.cache.entries, Sl.v n.log, I n.now], S top, .agg #[S a.host, S a.path], .agg #[I y.status, I y.kind, S y.body, I y.age, Bo y.shares, S y.policy]].toArray w (Ret w (fun v w' => ∃ x : PNet, v = .agg (Ph.enc x).toArray ∧ x.lg = keepAnswer n.lg top a y ∧ Fresh w x w')) := by
 refine enterN 45 Tryz.func128 rfl rfl rfl ?_
 have hs := Sat.start w
 refine WC.seq ?_
 refine WL.r Q0 (Yr.box hs Q0 Q0) ?_
 clear hs; rintro _ w ⟨b1, rfl, hb, hs⟩; clear hb
 refine WL.r Q0 (Yr.box hs Q0 Q0) ?_
 clear hs; rintro _ w ⟨b2, rfl, hb, hs⟩; clear hb
 refine WL.r Q0 (Yr.box hs Q0 Q0) ?_
 clear hs; rintro _ w ⟨b3, rfl, hb, hs⟩; clear hb
 refine WL.r Q0 (Yr.alloc hs zt30) ?_
 clear hs; rintro _ w ⟨b4, rfl, hb, hs⟩; clear hb
 refine WL.next ?_
 refine WC.seq ?_
 refine WL.p Q0 (Yl.loadAB agg30 Q0 hs Q1 Q0 Q0) ?_
 refine WL.call hs Q0 (Yc.func Q0 fn94) (c_spec_l14Copy _ _ (Ph.old h_n hs) (by exact hbs) (by exact hbc) (by exact hbl)) ?_
 have hs0 := hs; clear hs; intro v w hb hR hs; clear hs
 obtain ⟨x5, rfl, hx5, hf5⟩ := hR
 obtain ⟨F5, hs⟩ := hf5.sat hs0 hb; clear hs0 hf5
 refine WL.r Q0 (Yr.alloc hs zt30) ?_
 clear hs; rintro _ w ⟨b6, rfl, hb, hs⟩; clear hb
 refine WL.s (Yr.storeB hs Q0 Q0 Q0 Q5 Q3 Q0 (by exact szf30)) ?_
 clear hs; rintro _ w hs
 refine WL.next ?_
 refine WC.seq' ?_
 refine WC.seq ?_
 refine WL.p Q0 (Yl.fieldAddr fa30_1 Q0) ?_
 refine WL.p Q0 (Yl.loadAB agg27 Q0 hs Q1 Q0 Q0) ?_
 refine Qm ?_
 refine WL.p Q0 (Yl.loadAB agg39 Q0 hs Q1 Q0 Q0) ?_
 refine WL.p Q0 (Yl.fieldAddr fa30_3 Q0) ?_
 refine WL.p Q0 (Yl.loadB sca3 Q0 hs Q1 Q0) ?_
 refine WL.callp hs Q0 (Yc.func Q0 fn126) (c_spec_LookUp _ _ _ _ _ ⟨(Ph.old h_n.cache.entries hs)⟩) ?_
 clear hs; intro w hs
 refine Qm ?_
 refine WL.p Q0 (Yl.extract Q0 Q0) ?_
 refine WL.p Q0 (Yl.extract Q0 Q0) ?_
 refine WL.r Q0 (Yr.alloc hs zt72) ?_
 clear hs; rintro _ w ⟨b7, rfl, hb, hs⟩; clear hb
 refine WL.s (Yr.storeB hs Q0 Q0 Q0 Q5 Q3 Q0 (by exact szf72)) ?_
 clear hs; rintro _ w hs
 refine Qa ?_
 refine WL.next ?_
 refine WC.seq ?_
 refine Qm ?_
 refine WL.p Q0 (Yl.not Q0) ?_
 refine Qm ?_
 refine WL.split (d := 26) Q0 (fun h1 => ?_) (fun h1 => ?_)
 ·
  replace h1 := not_eq_true h1
  refine WL.run (d := 26) Q0 Q0 ?_
  refine WL.p Q0 (Yl.loadAB agg72 Q0 hs Q1 Q0 Q0) ?_
  refine WL.run (d := 26) Q0 Q0 ?_
  refine WL.callp hs Q0 (Yc.func Q0 fn163) (c_spec_IsResponse _ _ (Ph.old h_y hs) (by exact hpy)) ?_
  clear hs; intro w hs
  refine WL.p Q0 (Yl.pickT Q0 Q0) ?_
  refine Qm ?_
  refine WL.split (d := 30) Q0 (fun h2 => ?_) (fun h2 => ?_)
  ·
   refine WL.run (d := 30) Q0 Q0 ?_
   refine WL.p Q0 (Yl.fieldAddr fa72_0 Q0) ?_
   refine WL.run (d := 30) Q0 Q0 ?_
   refine WL.p Q0 (Yl.loadB sca3 Q0 hs Q1 Q0) ?_
   refine WL.run (d := 30) Q0 Q0 ?_
   refine WL.p Q0 (Yl.eqi Q0 Q0) ?_
   refine WL.p Q0 (Yl.pickT Q0 Q0) ?_
   refine WL.next ?_
   refine WC.condS Q0 (fun h3 => ?_) (fun h3 => ?_)
   ·
    replace h3 := of_decide_eq_true h3
    refine WC.region ?_
    refine WL.p Q0 (Yl.fieldAddr fa30_1 Q0) ?_
    refine WL.p Q0 (Yl.loadAB agg27 Q0 hs Q1 Q0 Q0) ?_
    refine Qm ?_
    refine WL.p Q0 (Yl.loadAB agg39 Q0 hs Q1 Q0 Q0) ?_
    refine WL.p Q0 (Yl.loadAB agg72 Q0 hs Q1 Q0 Q0) ?_
    refine WL.p Q0 (Yl.fieldAddr fa30_3 Q0) ?_
    refine WL.p Q0 (Yl.loadB sca3 Q0 hs Q1 Q0) ?_
    refine WL.call hs Q0 (Yc.func Q0 fn211) (c_spec_StoreEntry _ _ _ _ _ _ ⟨(Ph.old h_n.cache.entries hs)⟩ (Ph.old h_top hs) (Ph.old h_a hs) (Ph.old h_y hs) (Ph.old h_n.now hs) (by first | exact hbc | exact Nat.le_trans (Nat.le_of_eq (congrArg (fun z => z.cache.size) hx5)) hbc) (by exact hpy)) ?_
    have hs0 := hs; clear hs; intro v w hb hR hs; clear hs
    obtain ⟨x8, rfl, hx8, hf8⟩ := hR
    obtain ⟨F8, hs⟩ := hf8.sat hs0 hb; clear hs0 hf8
    refine WL.p Q0 (Yl.fieldAddr fa30_1 Q0) ?_
    refine WL.s (Yr.storeB hs Q0 Q0 Q0 Q5 Q3 Q0 (by exact szf27)) ?_
    clear hs; rintro _ w hs
    refine WL.nil ?_
    refine At.then_ ?_
    refine WC.seq ?_
    refine WL.p Q0 (Yl.loadAB agg30 Q0 hs Q1 Q0 Q0) ?_
    refine WL.s (Yr.storeB hs Q0 Q0 Q0 Q5 Q3 Q0 (by exact szf30)) ?_
    clear hs; rintro _ w hs
    refine WL.next ?_
    refine WC.ret ?_
    refine fin1c rfl agg30 Q0 hs Q1 Q0 ?_
    obtain ⟨K9_0, K9_1, K9_2, hfl9, hs⟩ := PNet.split (hs.sel (D := [ow x5 F5]) Q2)
    try simp only [List.cons_append, List.nil_append] at hs
    refine Ret.mk hs ?_
    refine ⟨(⟨x5.servers, x8, x5.log, x5.now⟩ : PNet), rfl, ?_, ?_⟩
    · have e1_ := congrArg TNet.servers hx5; have e2_ := congrArg TNet.cache hx5; have e3_ := congrArg TNet.log hx5; have e4_ := congrArg TNet.now hx5
      have hb9 : keepIs n.lg top a y = true := by
       clear hs
       simp_all [keepIs, PNet.lg, PCache.lg]
      show (⟨x5.lg.servers, x8.lg, x5.lg.log, x5.lg.now⟩ : TNet) = _
      rw [keep_yes hb9, e1_, e3_, e4_]
      exact congrArg (fun c => (⟨n.lg.servers, c, n.lg.log, n.lg.now⟩ : TNet)) hx8
    · exact (PNet.join (⟨x5.servers, x8, x5.log, x5.now⟩ : PNet) (hs.only (D := [ow x5.servers K9_0, ow x8 F8, ow x5.log K9_2]) Q2) (by first | exact (Flat.any hfl9.1) | exact (show WfI (x5.now) from ⟨by omega, by omega⟩) | assumption | trivial)).fresh List.mem_cons_self
   ·
    replace h3 := of_decide_eq_false h3
    refine WC.skipn ?_
    refine WC.seq ?_
    refine WL.p Q0 (Yl.loadAB agg30 Q0 hs Q1 Q0 Q0) ?_
    refine WL.s (Yr.storeB hs Q0 Q0 Q0 Q5 Q3 Q0 (by exact szf30)) ?_
    clear hs; rintro _ w hs
    refine WL.next ?_
    refine WC.ret ?_
    refine fin1c rfl agg30 Q0 hs Q1 Q0 ?_
    refine Ret.mk hs ?_
    have hb9 : keepIs n.lg top a y = false := by
     clear hs
     simp_all [keepIs, PNet.lg, PCache.lg]
    exact ⟨x5, rfl, hx5.trans (keep_no hb9).symm, hs.fresh Q1⟩
  ·
   refine WL.skip (d := 30) Q0 Q0 Q0 Q0 ?_
   refine WL.skip (d := 30) Q0 Q0 Q0 Q0 ?_
   refine WL.skip (d := 30) Q0 Q0 Q0 Q0 ?_
   refine WL.p Q0 (Yl.pickF Q0 Q0) ?_
   refine WL.next ?_
   refine WC.condF Q0 ?_
   refine WC.skipn ?_
   refine WC.seq ?_
   refine WL.p Q0 (Yl.loadAB agg30 Q0 hs Q1 Q0 Q0) ?_
   refine WL.s (Yr.storeB hs Q0 Q0 Q0 Q5 Q3 Q0 (by exact szf30)) ?_
   clear hs; rintro _ w hs
   refine WL.next ?_
   refine WC.ret ?_
   refine fin1c rfl agg30 Q0 hs Q1 Q0 ?_
   refine Ret.mk hs ?_
   have hb9 : keepIs n.lg top a y = false := by
    clear hs
    simp_all [keepIs, PNet.lg, PCache.lg]
   exact ⟨x5, rfl, hx5.trans (keep_no hb9).symm, hs.fresh Q1⟩
 ·
  replace h1 := not_eq_false h1
  refine WL.skip (d := 26) Q0 Q0 Q0 Q0 ?_
  refine WL.skip (d := 26) Q0 Q0 Q0 Q0 ?_
  refine WL.p Q0 (Yl.pickF Q0 Q0) ?_
  refine Qm ?_
  refine WL.skip (d := 30) Q0 Q0 Q0 Q0 ?_
  refine WL.skip (d := 30) Q0 Q0 Q0 Q0 ?_
  refine WL.skip (d := 30) Q0 Q0 Q0 Q0 ?_
  refine WL.p Q0 (Yl.pickF Q0 Q0) ?_
  refine WL.next ?_
  refine WC.condF Q0 ?_
  refine WC.skipn ?_
  refine WC.seq ?_
  refine WL.p Q0 (Yl.loadAB agg30 Q0 hs Q1 Q0 Q0) ?_
  refine WL.s (Yr.storeB hs Q0 Q0 Q0 Q5 Q3 Q0 (by exact szf30)) ?_
  clear hs; rintro _ w hs
  refine WL.next ?_
  refine WC.ret ?_
  refine fin1c rfl agg30 Q0 hs Q1 Q0 ?_
  refine Ret.mk hs ?_
  have hb9 : keepIs n.lg top a y = false := by
   clear hs
   simp_all [keepIs, PNet.lg, PCache.lg]
  exact ⟨x5, rfl, hx5.trans (keep_no hb9).symm, hs.fresh Q1⟩

theorem c_spec_FetchNow (n : PNet) (top : Str) (a : TAddr) (guess : Bool) (w : World) (h_n : Ph.ok w n) (h_top : Ph.ok w top) (h_a : Ph.ok w a) (h_guess : Ph.ok w guess) (hbs : lsz TServer.size n.lg.servers ≤ 1048576) (hbc : n.lg.cache.size ≤ 1048576) (hbl : n.log.l.length ≤ 1048577) : Calls Tryz.prog 36 [.agg #[Sl.v n.servers, Sl.v n.cache.entries, Sl.v n.log, I n.now], S top, .agg #[S a.host, S a.path], Bo guess].toArray w (Ret w (fun v w' => ∃ x : PNet, v = .tuple #[.agg (Ph.enc x).toArray, .agg (Ph.enc (fetchR n.lg top a)).toArray] ∧ x.lg = fetchN n.lg top a guess ∧ Fresh w x w')) := by
 refine enterN 60 Tryz.func36 rfl rfl rfl ?_
 have hs := Sat.start w
 refine WC.seq ?_
 refine WL.r Q0 (Yr.box hs Q0 Q0) ?_
 clear hs; rintro _ w ⟨b1, rfl, hb, hs⟩; clear hb
 refine WL.r Q0 (Yr.box hs Q0 Q0) ?_
 clear hs; rintro _ w ⟨b2, rfl, hb, hs⟩; clear hb
 refine WL.r Q0 (Yr.alloc hs zt30) ?_
 clear hs; rintro _ w ⟨b3, rfl, hb, hs⟩; clear hb
 refine WL.r Q0 (Yr.alloc hs zt72) ?_
 clear hs; rintro _ w ⟨b4, rfl, hb, hs⟩; clear hb
 refine WL.next ?_
 refine WC.seq ?_
 refine WL.p Q0 (Yl.loadAB agg30 Q0 hs Q1 Q0 Q0) ?_
 refine WL.call hs Q0 (Yc.func Q0 fn94) (c_spec_l14Copy _ _ (Ph.old h_n hs) (by exact hbs) (by exact hbc) (by exact hbl)) ?_
 have hs0 := hs; clear hs; intro v w hb hR hs; clear hs
 obtain ⟨x5, rfl, hx5, hf5⟩ := hR
 obtain ⟨F5, hs⟩ := hf5.sat hs0 hb; clear hs0 hf5
 refine WL.r Q0 (Yr.alloc hs zt30) ?_
 clear hs; rintro _ w ⟨b6, rfl, hb, hs⟩; clear hb
 refine WL.s (Yr.storeB hs Q0 Q0 Q0 Q5 Q3 Q0 (by exact szf30)) ?_
 clear hs; rintro _ w hs
 refine WL.next ?_
 refine WC.seq' ?_
 refine WC.seq ?_
 refine WL.p Q0 (Yl.loadAB agg39 Q0 hs Q1 Q0 Q0) ?_
 refine WL.callp hs Q0 (Yc.func Q0 fn40) (c_spec_IsAddr _ _ (Ph.old h_a hs)) ?_
 clear hs; intro w hs
 refine WL.p Q0 (Yl.not Q0) ?_
 refine WL.next ?_
 refine WC.condS Q0 (fun h1 => ?_) (fun h1 => ?_)
 ·
  replace h1 := not_eq_true h1
  refine WC.anynX (K := [box b3 _ _, box b4 _ _]) mixed hs Q2 ?_
  clear hs; intro w hs
  refine WA.p (i := 0) Q0 Q6 Q6 Q6 Q0 (hs.only Q2) (fun w hs => Yl.loadAB agg30 Q0 hs Q1 Q0 Q0) ?_
  refine WA.callp2 (i := 1) hs (fun _ hs => hs.only Q2) Q6 Q0 Q0 (Yc.func Q0 fn125) (c_spec_NotFound _) ?_
  clear hs; intro w hs
  refine WA.s (i := 2) Q6 Q0 (Yr.storeB hs Q0 Q0 Q0 Q5 Q3 Q0 (by exact szf30)) (by rintro _ w hs; exact hs.only Q2) ?_
  clear hs; rintro _ w hs
  refine WA.s (i := 3) Q6 Q0 (Yr.storeB hs Q0 Q0 Q0 Q5 Q3 Q0 (by exact szf72)) (by rintro _ w hs; exact hs.only Q2) ?_
  clear hs; rintro _ w hs
  refine WA.donen Q6 ?_
  refine WC.ret ?_
  refine At.thenret ?_
  refine fin2cc rfl agg30 agg72 Q0 Q0 hs Q1 Q1 Q0 Q0 ?_
  refine Ret.mk hs ?_
  have hr9 : fetchR n.lg top a = notFound := by
   clear hs
   simp_all [fetchR, PNet.lg, PCache.lg]
  have hq9 : fetchN n.lg top a guess = n.lg := by
   clear hs
   unfold fetchN
   simp_all [PNet.lg, PCache.lg]
  exact ⟨x5, (by rw [hr9]; rfl), hx5.trans hq9.symm, hs.fresh Q1⟩
 ·
  replace h1 := not_eq_false h1
  refine WC.skipn ?_
  refine WC.seq' ?_
  refine WC.seq ?_
  refine WL.p Q0 (Yl.fieldAddr fa30_1 Q0) ?_
  refine WL.p Q0 (Yl.loadAB agg27 Q0 hs Q1 Q0 Q0) ?_
  refine Qm ?_
  refine WL.p Q0 (Yl.loadAB agg39 Q0 hs Q1 Q0 Q0) ?_
  refine WL.p Q0 (Yl.fieldAddr fa30_3 Q0) ?_
  refine WL.p Q0 (Yl.loadB sca3 Q0 hs Q1 Q0) ?_
  refine WL.callp hs Q0 (Yc.func Q0 fn126) (c_spec_LookUp _ _ _ _ _ ⟨(Ph.old h_n.cache.entries hs)⟩) ?_
  clear hs; intro w hs
  refine Qm ?_
  refine WL.p Q0 (Yl.extract Q0 Q0) ?_
  refine WL.p Q0 (Yl.extract Q0 Q0) ?_
  refine WL.r Q0 (Yr.alloc hs zt72) ?_
  clear hs; rintro _ w ⟨b7, rfl, hb, hs⟩; clear hb
  refine WL.s (Yr.storeB hs Q0 Q0 Q0 Q5 Q3 Q0 (by exact szf72)) ?_
  clear hs; rintro _ w hs
  refine Qa ?_
  refine WL.next ?_
  refine WC.seq ?_
  refine Qm ?_
  refine WL.next ?_
  refine WC.condS Q0 (fun h2 => ?_) (fun h2 => ?_)
  ·
   refine WC.anynX (K := [box b3 _ _, box b4 _ _]) mixed hs Q2 ?_
   clear hs; intro w hs
   refine WA.p (i := 0) Q0 Q6 Q6 Q6 Q0 (hs.only Q2) (fun w hs => Yl.loadAB agg30 Q0 hs Q1 Q0 Q0) ?_
   refine WA.p (i := 1) Q0 Q6 Q6 Q6 Q0 (hs.only Q2) (fun w hs => Yl.loadAB agg72 Q0 hs Q1 Q0 Q0) ?_
   refine WA.s (i := 2) Q6 Q0 (Yr.storeB hs Q0 Q0 Q0 Q5 Q3 Q0 (by exact szf30)) (by rintro _ w hs; exact hs.only Q2) ?_
   clear hs; rintro _ w hs
   refine WA.s (i := 3) Q6 Q0 (Yr.storeB hs Q0 Q0 Q0 Q5 Q3 Q0 (by exact szf72)) (by rintro _ w hs; exact hs.only Q2) ?_
   clear hs; rintro _ w hs
   refine WA.donen Q6 ?_
   refine WC.ret ?_
   refine At.thenret ?_
   refine fin2cc rfl agg30 agg72 Q0 Q0 hs Q1 Q1 Q0 Q0 ?_
   refine Ret.mk hs ?_
   have hr9 : fetchR n.lg top a = (lookIn top a n.lg.now n.lg.cache.entries).1 := by
    clear hs
    simp_all [fetchR, PNet.lg, PCache.lg]
   have hq9 : fetchN n.lg top a guess = n.lg := by
    clear hs
    unfold fetchN
    simp_all [PNet.lg, PCache.lg]
   exact ⟨x5, (by rw [hr9]; rfl), hx5.trans hq9.symm, hs.fresh Q1⟩
  ·
   refine WC.skipn ?_
   refine WC.seq ?_
   refine WL.p Q0 (Yl.fieldAddr fa30_0 Q0) ?_
   refine WL.p Q0 (Yl.loadB sca24 Q0 hs Q1 Q0) ?_
   refine WL.p Q0 (Yl.loadAB agg39 Q0 hs Q1 Q0 Q0) ?_
   refine WL.callp hs Q0 (Yc.func Q0 fn127) (c_spec_AnswerTo _ _ _ (Ph.old h_n.servers hs) (Ph.old h_a hs)) ?_
   clear hs; intro w hs
   refine WL.r Q0 (Yr.alloc hs zt72) ?_
   clear hs; rintro _ w ⟨b8, rfl, hb, hs⟩; clear hb
   refine WL.s (Yr.storeB hs Q0 Q0 Q0 Q5 Q3 Q0 (by exact szf72)) ?_
   clear hs; rintro _ w hs
   refine WL.next ?_
   refine WC.seq' ?_
   refine WC.seq ?_
   refine WL.p Q0 (Yl.fieldAddr fa30_2 Q0) ?_
   refine WL.p Q0 (Yl.loadB sca28 Q0 hs Q1 Q0) ?_
   refine WL.p Q0 (Yl.len_sl slu28 Q0) ?_
   refine WL.p Q0 (Yl.lss Q0 Q0) ?_
   refine WL.next ?_
   refine WC.condS Q0 (fun h3 => ?_) (fun h3 => ?_)
   ·
    replace h3 := of_decide_eq_true h3
    refine WC.region ?_
    refine WL.p Q0 (Yl.fieldAddr fa30_2 Q0) ?_
    refine WL.p Q0 (Yl.loadB sca28 Q0 hs Q1 Q0) ?_
    refine Qm ?_
    refine WL.p Q0 (Yl.loadAB agg39 Q0 hs Q1 Q0 Q0) ?_
    refine Qm ?_
    refine WL.p Q0 (Yl.build bt41 Q0 Q4) ?_
    refine WL.r Q0 (Yr.buildSlice hs sll28 Q0 Q0 Q0 Q4 Q0) ?_
    clear hs; rintro _ w ⟨b9, rfl, hb, hs⟩; clear hb
    obtain ⟨K10_0, K10_1, K10_2, hfl10, hs⟩ := PNet.split (hs.sel (D := [ow x5 F5]) Q2)
    try simp only [List.cons_append, List.nil_append] at hs
    refine WL.r Q0 (Yr.append (s := x5.log) (F := K10_2) hs elt28 Q2 Q0 Q0 rfl (xs := [(⟨top, a, guess⟩ : TSent)]) (hs.box_cells Q1) (by intro x hx; obtain rfl := List.mem_singleton.1 hx; exact ⟨h_top, Flat.any h_a, trivial⟩) (by have e9 := congrArg (fun z => z.log.length) hx5; simp only [PNet.lg] at e9; simp only [List.length_singleton]; unfold maxLen; omega) (by have e9 := congrArg (fun z => z.log.length) hx5; simp only [PNet.lg] at e9; simp only [List.length_singleton]; omega)) ?_
    clear hs; rintro _ w ⟨s11, F11, rfl, hl11, hs⟩
    refine WL.p Q0 (Yl.fieldAddr fa30_2 Q0) ?_
    refine WL.s (Yr.storeB hs Q0 Q0 Q0 Q5 Q3 Q0 (by exact szf28)) ?_
    clear hs; rintro _ w hs
    refine WL.nil ?_
    refine At.then_ ?_
    refine WC.seq' ?_
    refine WC.seq ?_
    refine Qm ?_
    refine WL.p Q0 (Yl.not Q0) ?_
    refine WL.next ?_
    refine WC.condS Q0 (fun h4 => ?_) (fun h4 => ?_)
    ·
     replace h4 := not_eq_true h4
     refine WC.region ?_
     refine WL.p Q0 (Yl.loadAB agg30 Q0 hs Q1 Q0 Q0) ?_
     refine Qm ?_
     refine WL.p Q0 (Yl.loadAB agg39 Q0 hs Q1 Q0 Q0) ?_
     refine WL.p Q0 (Yl.loadAB agg72 Q0 hs Q1 Q0 Q0) ?_
     refine WL.call hs Q0 (Yc.func Q0 fn128) (c_spec_KeepAnswer (⟨x5.servers, (⟨x5.cache.entries⟩ : PCache), s11, x5.now⟩ : PNet) _ _ _ _ ⟨(hs.okow (x := x5.servers) (F := K10_0) Q1), ⟨(hs.okow (x := x5.cache) (F := K10_1) Q1).entries⟩, (hs.okow (x := s11) (F := F11) Q1), (Flat.any hfl10.1)⟩ (Ph.old h_top hs) (Ph.old h_a hs) (Flat.any (ans_ok h_n.servers _)) (by exact Nat.le_trans (Nat.le_of_eq (congrArg (fun z => lsz TServer.size z.servers) hx5)) hbs) (by exact Nat.le_trans (Nat.le_of_eq (congrArg (fun z => z.cache.size) hx5)) hbc) (by have e9 := congrArg (fun z => z.log.length) hx5; simp only [PNet.lg] at e9; first | omega | (simp only [hl11, List.length_append, List.length_singleton]; omega)) (by exact ans_pol hbs _)) ?_
     have hs0 := hs; clear hs; intro v w hb hR hs; clear hs
     obtain ⟨x12, rfl, hx12, hf12⟩ := hR
     obtain ⟨F12, hs⟩ := hf12.sat hs0 hb; clear hs0 hf12
     refine WL.s (Yr.storeB hs Q0 Q0 Q0 Q5 Q3 Q0 (by exact szf30)) ?_
     clear hs; rintro _ w hs
     refine WL.nil ?_
     refine At.then_ ?_
     refine WC.anynX (K := [box b3 _ _, box b4 _ _]) mixed hs Q2 ?_
     clear hs; intro w hs
     refine WA.p (i := 0) Q0 Q6 Q6 Q6 Q0 (hs.only Q2) (fun w hs => Yl.loadAB agg30 Q0 hs Q1 Q0 Q0) ?_
     refine WA.p (i := 1) Q0 Q6 Q6 Q6 Q0 (hs.only Q2) (fun w hs => Yl.loadAB agg72 Q0 hs Q1 Q0 Q0) ?_
     refine WA.s (i := 2) Q6 Q0 (Yr.storeB hs Q0 Q0 Q0 Q5 Q3 Q0 (by exact szf30)) (by rintro _ w hs; exact hs.only Q2) ?_
     clear hs; rintro _ w hs
     refine WA.s (i := 3) Q6 Q0 (Yr.storeB hs Q0 Q0 Q0 Q5 Q3 Q0 (by exact szf72)) (by rintro _ w hs; exact hs.only Q2) ?_
     clear hs; rintro _ w hs
     refine WA.donen Q6 ?_
     refine WC.ret ?_
     refine fin2cc rfl agg30 agg72 Q0 Q0 hs Q1 Q1 Q0 Q0 ?_
     refine Ret.mk hs ?_
     have hr9 : fetchR n.lg top a = answerTo n.lg.servers a := by
      clear hs
      simp_all [fetchR, PNet.lg, PCache.lg]
     have e1_ := congrArg TNet.servers hx5; have e2_ := congrArg TNet.cache hx5; have e3_ := congrArg TNet.log hx5; have e4_ := congrArg TNet.now hx5
     have e9_ := congrArg List.length e3_
     simp only [PNet.lg] at e9_
     have hlg9 : logged n.lg top a guess = ⟨n.lg.servers, n.lg.cache, n.lg.log ++ [⟨top, a, guess⟩], n.lg.now⟩ := by unfold logged; rw [if_pos (show n.log.l.length < 400 by omega)]
     have hq9 : fetchN n.lg top a guess = keepAnswer (logged n.lg top a guess) top a (answerTo n.lg.servers a) := by
      clear hs
      unfold fetchN
      simp_all [PNet.lg, PCache.lg]
     have hA9 : (⟨x5.lg.servers, x5.lg.cache, s11.l, x5.lg.now⟩ : TNet) = logged n.lg top a guess := by rw [hlg9, e1_, e2_, hl11, e4_, show x5.log.l = n.lg.log from e3_]
     exact ⟨x12, (by rw [hr9]; rfl), hx12.trans ((congrArg (fun z => keepAnswer z top a (answerTo n.lg.servers a)) hA9).trans hq9.symm), hs.fresh Q1⟩
    ·
     replace h4 := not_eq_false h4
     refine WC.skipn ?_
     refine WC.anynX (K := [box b3 _ _, box b4 _ _]) mixed hs Q2 ?_
     clear hs; intro w hs
     refine WA.p (i := 0) Q0 Q6 Q6 Q6 Q0 (hs.only Q2) (fun w hs => Yl.loadAB agg30 Q0 hs Q1 Q0 Q0) ?_
     refine WA.p (i := 1) Q0 Q6 Q6 Q6 Q0 (hs.only Q2) (fun w hs => Yl.loadAB agg72 Q0 hs Q1 Q0 Q0) ?_
     refine WA.s (i := 2) Q6 Q0 (Yr.storeB hs Q0 Q0 Q0 Q5 Q3 Q0 (by exact szf30)) (by rintro _ w hs; exact hs.only Q2) ?_
     clear hs; rintro _ w hs
     refine WA.s (i := 3) Q6 Q0 (Yr.storeB hs Q0 Q0 Q0 Q5 Q3 Q0 (by exact szf72)) (by rintro _ w hs; exact hs.only Q2) ?_
     clear hs; rintro _ w hs
     refine WA.donen Q6 ?_
     refine WC.ret ?_
     refine fin2cc rfl agg30 agg72 Q0 Q0 hs Q1 Q1 Q0 Q0 ?_
     refine Ret.mk hs ?_
     have hr9 : fetchR n.lg top a = answerTo n.lg.servers a := by
      clear hs
      simp_all [fetchR, PNet.lg, PCache.lg]
     have e1_ := congrArg TNet.servers hx5; have e2_ := congrArg TNet.cache hx5; have e3_ := congrArg TNet.log hx5; have e4_ := congrArg TNet.now hx5
     have e9_ := congrArg List.length e3_
     simp only [PNet.lg] at e9_
     have hlg9 : logged n.lg top a guess = ⟨n.lg.servers, n.lg.cache, n.lg.log ++ [⟨top, a, guess⟩], n.lg.now⟩ := by unfold logged; rw [if_pos (show n.log.l.length < 400 by omega)]
     have hq9 : fetchN n.lg top a guess = logged n.lg top a guess := by
      clear hs
      unfold fetchN
      simp_all [PNet.lg, PCache.lg]
     have hA9 : (⟨x5.lg.servers, x5.lg.cache, s11.l, x5.lg.now⟩ : TNet) = logged n.lg top a guess := by rw [hlg9, e1_, e2_, hl11, e4_, show x5.log.l = n.lg.log from e3_]
     refine ⟨(⟨x5.servers, x5.cache, s11, x5.now⟩ : PNet), (by rw [hr9]; rfl), ?_, ?_⟩
     · exact hA9.trans hq9.symm
     · exact (PNet.join (⟨x5.servers, x5.cache, s11, x5.now⟩ : PNet) (hs.only (D := [ow x5.servers K10_0, ow x5.cache K10_1, ow s11 F11]) Q2) (by first | exact (Flat.any hfl10.1) | exact (show WfI (x5.now) from ⟨by omega, by omega⟩) | assumption | trivial)).fresh List.mem_cons_self
   ·
    replace h3 := of_decide_eq_false h3
    refine WC.skipn ?_
    refine WC.seq' ?_
    refine WC.seq ?_
    refine Qm ?_
    refine WL.p Q0 (Yl.not Q0) ?_
    refine WL.next ?_
    refine WC.condS Q0 (fun h4 => ?_) (fun h4 => ?_)
    ·
     replace h4 := not_eq_true h4
     refine WC.region ?_
     refine WL.p Q0 (Yl.loadAB agg30 Q0 hs Q1 Q0 Q0) ?_
     refine Qm ?_
     refine WL.p Q0 (Yl.loadAB agg39 Q0 hs Q1 Q0 Q0) ?_
     refine WL.p Q0 (Yl.loadAB agg72 Q0 hs Q1 Q0 Q0) ?_
     refine WL.call hs Q0 (Yc.func Q0 fn128) (c_spec_KeepAnswer _ _ _ _ _ (hs.okow (x := x5) (F := F5) Q1) (Ph.old h_top hs) (Ph.old h_a hs) (Flat.any (ans_ok h_n.servers _)) (by exact Nat.le_trans (Nat.le_of_eq (congrArg (fun z => lsz TServer.size z.servers) hx5)) hbs) (by exact Nat.le_trans (Nat.le_of_eq (congrArg (fun z => z.cache.size) hx5)) hbc) (by have e9 := congrArg (fun z => z.log.length) hx5; simp only [PNet.lg] at e9; first | omega | (simp only [List.length_append, List.length_singleton]; omega)) (by exact ans_pol hbs _)) ?_
     have hs0 := hs; clear hs; intro v w hb hR hs; clear hs
     obtain ⟨x13, rfl, hx13, hf13⟩ := hR
     obtain ⟨F13, hs⟩ := hf13.sat hs0 hb; clear hs0 hf13
     refine WL.s (Yr.storeB hs Q0 Q0 Q0 Q5 Q3 Q0 (by exact szf30)) ?_
     clear hs; rintro _ w hs
     refine WL.nil ?_
     refine At.then_ ?_
     refine WC.anynX (K := [box b3 _ _, box b4 _ _]) mixed hs Q2 ?_
     clear hs; intro w hs
     refine WA.p (i := 0) Q0 Q6 Q6 Q6 Q0 (hs.only Q2) (fun w hs => Yl.loadAB agg30 Q0 hs Q1 Q0 Q0) ?_
     refine WA.p (i := 1) Q0 Q6 Q6 Q6 Q0 (hs.only Q2) (fun w hs => Yl.loadAB agg72 Q0 hs Q1 Q0 Q0) ?_
     refine WA.s (i := 2) Q6 Q0 (Yr.storeB hs Q0 Q0 Q0 Q5 Q3 Q0 (by exact szf30)) (by rintro _ w hs; exact hs.only Q2) ?_
     clear hs; rintro _ w hs
     refine WA.s (i := 3) Q6 Q0 (Yr.storeB hs Q0 Q0 Q0 Q5 Q3 Q0 (by exact szf72)) (by rintro _ w hs; exact hs.only Q2) ?_
     clear hs; rintro _ w hs
     refine WA.donen Q6 ?_
     refine WC.ret ?_
     refine fin2cc rfl agg30 agg72 Q0 Q0 hs Q1 Q1 Q0 Q0 ?_
     refine Ret.mk hs ?_
     have hr9 : fetchR n.lg top a = answerTo n.lg.servers a := by
      clear hs
      simp_all [fetchR, PNet.lg, PCache.lg]
     have e1_ := congrArg TNet.servers hx5; have e2_ := congrArg TNet.cache hx5; have e3_ := congrArg TNet.log hx5; have e4_ := congrArg TNet.now hx5
     have e9_ := congrArg List.length e3_
     simp only [PNet.lg] at e9_
     have hlg9 : logged n.lg top a guess = n.lg := by unfold logged; rw [if_neg (show ¬ n.log.l.length < 400 by omega)]
     have hq9 : fetchN n.lg top a guess = keepAnswer (logged n.lg top a guess) top a (answerTo n.lg.servers a) := by
      clear hs
      unfold fetchN
      simp_all [PNet.lg, PCache.lg]
     have hA9 : x5.lg = logged n.lg top a guess := by rw [hlg9]; exact hx5
     exact ⟨x13, (by rw [hr9]; rfl), hx13.trans ((congrArg (fun z => keepAnswer z top a (answerTo n.lg.servers a)) hA9).trans hq9.symm), hs.fresh Q1⟩
    ·
     replace h4 := not_eq_false h4
     refine WC.skipn ?_
     refine WC.anynX (K := [box b3 _ _, box b4 _ _]) mixed hs Q2 ?_
     clear hs; intro w hs
     refine WA.p (i := 0) Q0 Q6 Q6 Q6 Q0 (hs.only Q2) (fun w hs => Yl.loadAB agg30 Q0 hs Q1 Q0 Q0) ?_
     refine WA.p (i := 1) Q0 Q6 Q6 Q6 Q0 (hs.only Q2) (fun w hs => Yl.loadAB agg72 Q0 hs Q1 Q0 Q0) ?_
     refine WA.s (i := 2) Q6 Q0 (Yr.storeB hs Q0 Q0 Q0 Q5 Q3 Q0 (by exact szf30)) (by rintro _ w hs; exact hs.only Q2) ?_
     clear hs; rintro _ w hs
     refine WA.s (i := 3) Q6 Q0 (Yr.storeB hs Q0 Q0 Q0 Q5 Q3 Q0 (by exact szf72)) (by rintro _ w hs; exact hs.only Q2) ?_
     clear hs; rintro _ w hs
     refine WA.donen Q6 ?_
     refine WC.ret ?_
     refine fin2cc rfl agg30 agg72 Q0 Q0 hs Q1 Q1 Q0 Q0 ?_
     refine Ret.mk hs ?_
     have hr9 : fetchR n.lg top a = answerTo n.lg.servers a := by
      clear hs
      simp_all [fetchR, PNet.lg, PCache.lg]
     have e1_ := congrArg TNet.servers hx5; have e2_ := congrArg TNet.cache hx5; have e3_ := congrArg TNet.log hx5; have e4_ := congrArg TNet.now hx5
     have e9_ := congrArg List.length e3_
     simp only [PNet.lg] at e9_
     have hlg9 : logged n.lg top a guess = n.lg := by unfold logged; rw [if_neg (show ¬ n.log.l.length < 400 by omega)]
     have hq9 : fetchN n.lg top a guess = logged n.lg top a guess := by
      clear hs
      unfold fetchN
      simp_all [PNet.lg, PCache.lg]
     have hA9 : x5.lg = logged n.lg top a guess := by rw [hlg9]; exact hx5
     exact ⟨x5, (by rw [hr9]; rfl), hA9.trans hq9.symm, hs.fresh Q1⟩

theorem c_spec_l1Once (c : Nat) (b_ : Sl UInt8) (n : Int) (w : World)   (h_c : CurAt 205 b_ c w) (hb_c : CurB w b_ c) : Calls Tryz.prog 100 [bp c 0, I n].toArray w (RetD 205 b_ c w (fun v w' => ∃ (x : Bool), v = Bo x ∧ (True) ∧ (True) ∧ True)) := by
 refine enterN 9 Tryz.func100 rfl rfl rfl ?_
 have hs := Sat.startC h_c
 refine WC.seq ?_
 refine Qa ?_
 refine WL.next ?_
 refine WC.seq ?_
 refine Qm ?_
 refine Qm ?_
 refine WL.calld hs (T := 205) (b := b_) (c := c) Q2 Q0 (Yc.func Q0 fn118) (c_spec_l1Below c b_ _ _ (hs.cur Q1) (Apart.now hb_c hs)) ?_
 clear hs; intro v w ho hR hs
 obtain ⟨x1, rfl, hokx1, hx1, hf1⟩ := hR
 clear ho hf1
 refine WL.p Q0 (Yl.eqi Q0 Q0) ?_
 refine Qa ?_
 refine WL.next ?_
 refine WC.ret ?_
 refine fin1' rfl Q0 ?_
 refine RetD.mk hs Q1 ?_
 refine ⟨_, rfl, trivial, ?_, ?_⟩
 ·
  trivial
 ·
  trivial

theorem c_spec_l1Str (c : Nat) (b_ : Sl UInt8) (list : (Sl Str)) (w : World) (h_list : Apart w list c) (hne : 0 < list.l.length) (h_c : CurAt 205 b_ c w) (hb_c : CurB w b_ c) : Calls Tryz.prog 102 [bp c 0, Sl.v list].toArray w (RetD 205 b_ c w (fun v w' => ∃ (x : Str), v = S x ∧ (Ph.ok w' x) ∧ (x ∈ list.l) ∧ True)) := by
 have hw := h_list.ok.lt
 refine enterN 12 Tryz.func102 rfl rfl rfl ?_
 have hs := Sat.startC h_c
 refine WC.seq ?_
 refine Qa ?_
 refine WL.next ?_
 refine WC.seq ?_
 refine Qm ?_
 refine Qm ?_
 refine Qm ?_
 refine WL.p Q0 (Yl.len_sl slu34 Q0) ?_
 refine WL.calld hs (T := 205) (b := b_) (c := c) Q2 Q0 (Yc.func Q0 fn118) (c_spec_l1Below c b_ _ _ (hs.cur Q1) (Apart.now hb_c hs)) ?_
 clear hs; intro v w ho hR hs
 obtain ⟨x1, rfl, hokx1, hx1, hf1⟩ := hR
 clear ho hf1
 have hb9 := hx1.2.2 Q7
 obtain ⟨d9, hd9⟩ := exists_get (l := list.l) (k := (x1).toNat) Q7
 refine WL.p Q0 (Yl.indexAddr (k := (x1).toNat) slt34 Q0 Q0 (Apart.now h_list hs).ok Q7 (hd9)) ?_
 refine WL.p Q0 (Yl.loadC0 sca9 Q0 (Sl.Ok.at_ (Apart.now h_list hs).ok (hd9)).2 Q0) ?_
 refine Qa ?_
 refine WL.next ?_
 refine WC.ret ?_
 refine fin1' rfl Q0 ?_
 refine RetD.mk hs Q1 ?_
 refine ⟨_, rfl, (by first | exact (Apart.now h_list hs).ok.elem hd9 | trivial | assumption | exact Flat.any (by assumption) | exact ⟨by omega, by omega⟩ | (show WfS _; unfold WfS; omega) | (show WfS _; unfold WfS; simp only [List.length_append, List.length_cons, List.length_nil] at *; omega) | (refine Ph.old ?_ hs; assumption)), ?_, ?_⟩
 ·
  exact List.mem_of_getElem? hd9
 ·
  trivial

theorem c_spec_l4Host (c : Nat) (b_ : Sl UInt8) (w : World)   (h_c : CurAt 205 b_ c w) (hb_c : CurB w b_ c) : Calls Tryz.prog 85 [bp c 0].toArray w (RetD 205 b_ c w (fun v w' => ∃ (x : Str), v = S x ∧ (Ph.ok w' x) ∧ (x ∈ hosts3) ∧ True)) := by
 refine enterN 6 Tryz.func85 rfl rfl rfl ?_
 have hs := Sat.startC h_c
 refine WC.seq ?_
 refine Qa ?_
 refine WL.next ?_
 refine WC.seq ?_
 refine Qm ?_
 refine WL.r Q0 (Yr.buildSlice hs sll34 Q0 Q0 Q0 Q4 Q0) ?_
 clear hs; rintro _ w ⟨b1, rfl, hb, hs⟩; clear hb
 replace hs := Sat.boxow (l := ([([104, 111, 109, 101] : Str), ([99, 100, 110] : Str), ([101, 118, 105, 108] : Str), ([104, 111, 109, 101] : Str)] : List Str)) (hs.sel (D := [box b1 _ _]) Q2) rfl rfl (by decide) (ownL_mk_flat (lit_str Q0))
 try simp only [List.cons_append, List.nil_append] at hs
 refine WL.calld hs (T := 205) (b := b_) (c := c) Q2 Q0 (Yc.func Q0 fn102) (c_spec_l1Str c b_ (⟨[([104, 111, 109, 101] : Str), ([99, 100, 110] : Str), ([101, 118, 105, 108] : Str), ([104, 111, 109, 101] : Str)], some ⟨b1, 0, none⟩, 4⟩ : Sl Str) _ (Apart.own (s := (⟨[([104, 111, 109, 101] : Str), ([99, 100, 110] : Str), ([101, 118, 105, 108] : Str), ([104, 111, 109, 101] : Str)], some ⟨b1, 0, none⟩, 4⟩ : Sl Str)) (F := [b1]) hs Q2) (by exact Nat.succ_pos _) (hs.cur Q1) (Apart.now hb_c hs)) ?_
 clear hs; intro v w ho hR hs
 obtain ⟨x2, rfl, hokx2, hx2, hf2⟩ := hR
 clear ho hf2
 replace hx2 : x2 ∈ ([([104, 111, 109, 101] : Str), ([99, 100, 110] : Str), ([101, 118, 105, 108] : Str), ([104, 111, 109, 101] : Str)] : List Str) := hx2
 have hn2 := mem_len 4 hx2 Q0
 refine Qa ?_
 refine WL.next ?_
 refine WC.ret ?_
 refine fin1' rfl Q0 ?_
 refine RetD.mk hs Q1 ?_
 refine ⟨_, rfl, (by first | exact (Flat.any hokx2) | trivial | assumption | exact Flat.any (by assumption) | exact ⟨by omega, by omega⟩ | (show WfS _; unfold WfS; omega) | (show WfS _; unfold WfS; simp only [List.length_append, List.length_cons, List.length_nil] at *; omega) | (refine Ph.old ?_ hs; assumption)), ?_, ?_⟩
 ·
  exact (show ∀ y ∈ ([[104, 111, 109, 101], [99, 100, 110], [101, 118, 105, 108], [104, 111, 109, 101]] : List Str), y ∈ hosts3 by decide) _ (by assumption)
 ·
  trivial

theorem c_spec_l4Path (c : Nat) (b_ : Sl UInt8) (w : World)   (h_c : CurAt 205 b_ c w) (hb_c : CurB w b_ c) : Calls Tryz.prog 240 [bp c 0].toArray w (RetD 205 b_ c w (fun v w' => ∃ (x : Str), v = S x ∧ (Ph.ok w' x) ∧ (x.length ≤ 5) ∧ True)) := by
 refine enterN 6 Tryz.func240 rfl rfl rfl ?_
 have hs := Sat.startC h_c
 refine WC.seq ?_
 refine Qa ?_
 refine WL.next ?_
 refine WC.seq ?_
 refine Qm ?_
 refine WL.r Q0 (Yr.buildSlice hs sll34 Q0 Q0 Q0 Q4 Q0) ?_
 clear hs; rintro _ w ⟨b1, rfl, hb, hs⟩; clear hb
 replace hs := Sat.boxow (l := ([([105, 110, 100, 101, 120] : Str), ([97, 112, 112] : Str), ([115, 116, 121, 108, 101] : Str), ([108, 105, 98] : Str), ([108, 111, 103, 111] : Str), ([110, 101, 120, 116] : Str), ([117, 116, 105, 108] : Str)] : List Str)) (hs.sel (D := [box b1 _ _]) Q2) rfl rfl (by decide) (ownL_mk_flat (lit_str Q0))
 try simp only [List.cons_append, List.nil_append] at hs
 refine WL.calld hs (T := 205) (b := b_) (c := c) Q2 Q0 (Yc.func Q0 fn102) (c_spec_l1Str c b_ (⟨[([105, 110, 100, 101, 120] : Str), ([97, 112, 112] : Str), ([115, 116, 121, 108, 101] : Str), ([108, 105, 98] : Str), ([108, 111, 103, 111] : Str), ([110, 101, 120, 116] : Str), ([117, 116, 105, 108] : Str)], some ⟨b1, 0, none⟩, 7⟩ : Sl Str) _ (Apart.own (s := (⟨[([105, 110, 100, 101, 120] : Str), ([97, 112, 112] : Str), ([115, 116, 121, 108, 101] : Str), ([108, 105, 98] : Str), ([108, 111, 103, 111] : Str), ([110, 101, 120, 116] : Str), ([117, 116, 105, 108] : Str)], some ⟨b1, 0, none⟩, 7⟩ : Sl Str)) (F := [b1]) hs Q2) (by exact Nat.succ_pos _) (hs.cur Q1) (Apart.now hb_c hs)) ?_
 clear hs; intro v w ho hR hs
 obtain ⟨x2, rfl, hokx2, hx2, hf2⟩ := hR
 clear ho hf2
 replace hx2 : x2 ∈ ([([105, 110, 100, 101, 120] : Str), ([97, 112, 112] : Str), ([115, 116, 121, 108, 101] : Str), ([108, 105, 98] : Str), ([108, 111, 103, 111] : Str), ([110, 101, 120, 116] : Str), ([117, 116, 105, 108] : Str)] : List Str) := hx2
 have hn2 := mem_len 5 hx2 Q0
 refine Qa ?_
 refine WL.next ?_
 refine WC.ret ?_
 refine fin1' rfl Q0 ?_
 refine RetD.mk hs Q1 ?_
 refine ⟨_, rfl, (by first | exact (Flat.any hokx2) | trivial | assumption | exact Flat.any (by assumption) | exact ⟨by omega, by omega⟩ | (show WfS _; unfold WfS; omega) | (show WfS _; unfold WfS; simp only [List.length_append, List.length_cons, List.length_nil] at *; omega) | (refine Ph.old ?_ hs; assumption)), ?_, ?_⟩
 ·
  repeat' apply And.intro
  all_goals (try dsimp only)
  all_goals first | trivial | assumption | omega | ((try simp only [List.length_append, List.length_cons, List.length_nil, lsz_app, lsz_one, lsz_cons, lsz_nil, TAddr.size, TResponse.size, TRequest.size, TPolicy.size, TEntry.size, TCache.size, strsz, TLine.size, TSent.size, TServer.size, TFile.size, List.map_append, List.map_cons, List.map_nil, PServer.lg, PPolicy.lg, PCache.lg] at *); first | omega | assumption)
 ·
  trivial

theorem c_spec_l4Addr (c : Nat) (b_ : Sl UInt8) (w : World)   (h_c : CurAt 205 b_ c w) (hb_c : CurB w b_ c) : Calls Tryz.prog 176 [bp c 0].toArray w (RetD 205 b_ c w (fun v w' => ∃ (x : TAddr), v = .agg (Ph.enc x).toArray ∧ (Ph.ok w' x) ∧ (x.host ∈ hosts3 ∧ x.path.length ≤ 5) ∧ True)) := by
 refine enterN 10 Tryz.func176 rfl rfl rfl ?_
 have hs := Sat.startC h_c
 refine WC.seq ?_
 refine WL.r Q0 (Yr.alloc hs zt39) ?_
 clear hs; rintro _ w ⟨b1, rfl, hb, hs⟩; clear hb
 refine WL.next ?_
 refine WC.seq ?_
 refine Qm ?_
 refine WL.calld hs (T := 205) (b := b_) (c := c) Q2 Q0 (Yc.func Q0 fn85) (c_spec_l4Host c b_ _ (hs.cur Q1) (Apart.now hb_c hs)) ?_
 clear hs; intro v w ho hR hs
 obtain ⟨x2, rfl, hokx2, hx2, hf2⟩ := hR
 clear ho hf2
 have hn2 := hosts3_len hx2
 refine Qa ?_
 refine WL.next ?_
 refine WC.seq ?_
 refine Qm ?_
 refine Qm ?_
 refine WL.calld hs (T := 205) (b := b_) (c := c) Q2 Q0 (Yc.func Q0 fn240) (c_spec_l4Path c b_ _ (hs.cur Q1) (Apart.now hb_c hs)) ?_
 clear hs; intro v w ho hR hs
 obtain ⟨x3, rfl, hokx3, hx3, hf3⟩ := hR
 clear ho hf3
 refine WL.p Q0 (Yl.build bt39 Q0 Q4) ?_
 refine WL.s (Yr.storeB hs Q0 Q0 Q0 Q5 Q3 Q0 (by exact szf39)) ?_
 clear hs; rintro _ w hs
 refine WL.next ?_
 refine WC.ret ?_
 refine fin1c rfl agg39 Q0 hs Q1 Q0 ?_
 refine RetD.mk hs Q1 ?_
 refine ⟨(⟨x2, x3⟩ : TAddr), rfl, ⟨(by first | exact (Flat.any hokx2) | trivial | assumption | exact Flat.any (by assumption) | exact ⟨by omega, by omega⟩ | (show WfS _; unfold WfS; omega) | (show WfS _; unfold WfS; simp only [List.length_append, List.length_cons, List.length_nil] at *; omega) | (refine Ph.old ?_ hs; assumption)), (by first | exact (Flat.any hokx3) | trivial | assumption | exact Flat.any (by assumption) | exact ⟨by omega, by omega⟩ | (show WfS _; unfold WfS; omega) | (show WfS _; unfold WfS; simp only [List.length_append, List.length_cons, List.length_nil] at *; omega) | (refine Ph.old ?_ hs; assumption))⟩, ?_, ?_⟩
 ·
  exact ⟨by assumption, by assumption⟩
 ·
  trivial

theorem c_spec_l9Hosts (c : Nat) (b_ : Sl UInt8) (w : World)   (h_c : CurAt 205 b_ c w) (hb_c : CurB w b_ c) : Calls Tryz.prog 227 [bp c 0].toArray w (RetD 205 b_ c w (fun v w' => ∃ (l : Sl Str), v = l.v ∧ (True) ∧ (l.l.length ≤ 3 ∧ ∀ x ∈ l.l, x ∈ hosts3) ∧ Fresh w l w')) := by
 refine enterN 21 Tryz.func227 rfl rfl rfl ?_
 have hs := Sat.startC h_c
 refine WC.seq ?_
 refine Qa ?_
 refine WL.next ?_
 refine WC.seq ?_
 refine WL.r Q0 (Yr.buildSlice hs sll34 Q0 Q0 Q0 Q4 Q0) ?_
 clear hs; rintro _ w ⟨b1, rfl, hb, hs⟩; clear hb
 refine Qa ?_
 refine WL.next ?_
 refine WC.seq' ?_
 refine WC.seq ?_
 refine WL.r Q0 (Yr.buildSlice hs sll34 Q0 Q0 Q0 Q4 Q0) ?_
 clear hs; rintro _ w ⟨b2, rfl, hb, hs⟩; clear hb
 replace hs := Sat.boxow (l := ([([104, 111, 109, 101] : Str), ([99, 100, 110] : Str), ([101, 118, 105, 108] : Str)] : List Str)) (hs.sel (D := [box b2 _ _]) Q2) rfl rfl (by decide) (ownL_mk_flat (lit_str Q0))
 try simp only [List.cons_append, List.nil_append] at hs
 refine WL.p Q0 (Yl.len_sl slu34 Q0) ?_
 refine Qm ?_
 refine WL.next ?_
 refine WC.block ?_
 replace hs := Sat.boxow (l := ([] : List Str)) (hs.sel (D := [box b1 _ _]) Q2) rfl rfl (by simp) (ownL_mk_flat (by simp))
 try simp only [List.cons_append, List.nil_append] at hs
 refine WC.loopC (ι := Nat × Sl Str × List Nat) (fun ⟨k, s, F⟩ => 3 - k) (fun ⟨k, s, F⟩ => [(9, I (k : Int)), (3, s.v)]) (fun ⟨k, s, F⟩ => [ow s F]) (fun ⟨k, s, F⟩ => k ≤ 3 ∧ s.l.length ≤ k ∧ ∀ x ∈ s.l, x ∈ hosts3) [(0, _), (2, _), (7, _), (8, _)] (0, ⟨[], some ⟨b1, 0, none⟩, 0⟩, [b1]) (hs.sel (D := [ow (⟨[], some ⟨b1, 0, none⟩, 0⟩ : Sl Str) [b1]]) Q2) ⟨by rfl, by rfl, by rfl, by rfl, trivial⟩ ⟨by rfl, by rfl, trivial⟩ ?_ ?_
 ·
  exact ⟨by omega, by simp, by simp⟩
 clear hs; rintro ⟨k, s, F⟩ w ⟨hJ1, hJ2, hJ3⟩ hs
 simp only [List.cons_append, List.nil_append] at hs
 refine WC.seq ?_
 refine WL.p Q0 (Yl.lss Q0 Q0) ?_
 refine WL.next ?_
 refine WC.seq' ?_
 refine WC.condS Q0 (fun h1 => ?_) (fun h1 => ?_)
 ·
  replace h1 := of_decide_eq_true h1
  replace h1 : (k : Int) < 3 := h1
  obtain ⟨d, hd⟩ := exists_get (l := ([([104, 111, 109, 101] : Str), ([99, 100, 110] : Str), ([101, 118, 105, 108] : Str)] : List Str)) (k := k) (by simp; omega)
  have hd2 : d ∈ hosts3 := List.mem_of_getElem? hd
  refine WC.skipn ?_
  refine WC.seq' ?_
  refine WC.block ?_
  refine WC.seq ?_
  refine WL.p Q0 (Yl.indexAddr slt34 Q0 Q0 (hs.okow (x := (⟨[([104, 111, 109, 101] : Str), ([99, 100, 110] : Str), ([101, 118, 105, 108] : Str)], some ⟨b2, 0, none⟩, 3⟩ : Sl Str)) (F := [b2]) Q1) Q0 (hd)) ?_
  refine WL.p Q0 (Yl.loadC0 sca9 Q0 (Sl.Ok.at_ (hs.okow (x := (⟨[([104, 111, 109, 101] : Str), ([99, 100, 110] : Str), ([101, 118, 105, 108] : Str)], some ⟨b2, 0, none⟩, 3⟩ : Sl Str)) (F := [b2]) Q1) (by assumption)).2 Q0) ?_
  refine Qa ?_
  refine WL.next ?_
  refine WC.seq ?_
  refine Qm ?_
  refine WL.calld hs (T := 205) (b := b_) (c := c) Q2 Q0 (Yc.func Q0 fn100) (c_spec_l1Once c b_ _ _ (hs.cur Q1) (Apart.now hb_c hs)) ?_
  clear hs; intro v w ho hR hs
  obtain ⟨x3, rfl, _, hx3, hf3⟩ := hR
  clear ho hf3
  refine WL.next ?_
  refine WC.condS Q0 (fun h2 => ?_) (fun h2 => ?_)
  ·
   refine WC.region ?_
   refine Qm ?_
   refine Qm ?_
   refine WL.r Q0 (Yr.buildSlice hs sll34 Q0 Q0 Q0 Q4 Q0) ?_
   clear hs; rintro _ w ⟨b4, rfl, hb, hs⟩; clear hb
   refine WL.r Q0 (Yr.append (s := s) (F := F) hs elt34 Q2 Q0 Q0 rfl (xs := [d]) (hs.box_cells Q1) (by intro x hx; obtain rfl := List.mem_singleton.1 hx; show WfS _; unfold WfS; have := hosts3_len hd2; omega) (by unfold maxLen; simp; omega) (by simp; omega)) ?_
   clear hs; rintro _ w ⟨s5, F5, rfl, hl5, hs⟩
   refine Qa ?_
   refine WL.nil ?_
   refine At.blocknormal ?_
   refine At.then_ ?_
   refine WC.region ?_
   refine WL.p Q0 (Yl.add Q0 Q0 Q7) ?_
   refine Qm ?_
   refine WL.nil ?_
   refine At.roundC (k + 1, s5, F5) (hs.only Q2) ⟨by rfl, by rfl, by rfl, by rfl, trivial⟩ ⟨by rfl, by rfl, trivial⟩ ?_ ?_
   ·
    show 3 - (k + 1) < 3 - k
    omega
   ·
    refine ⟨by omega, by rw [hl5]; simp; omega, ?_⟩
    rw [hl5]; intro x hx; rcases List.mem_append.1 hx with h | h
    · exact hJ3 x h
    · obtain rfl := List.mem_singleton.1 h; exact hd2
  ·
   refine WC.skip ?_
   refine At.blocknormal ?_
   refine At.then_ ?_
   refine WC.region ?_
   refine WL.p Q0 (Yl.add Q0 Q0 Q7) ?_
   refine Qm ?_
   refine WL.nil ?_
   refine At.roundC (k + 1, s, F) (hs.only Q2) ⟨by rfl, by rfl, by rfl, by rfl, trivial⟩ ⟨by rfl, by rfl, trivial⟩ ?_ ?_
   ·
    show 3 - (k + 1) < 3 - k
    omega
   ·
    exact ⟨by omega, by omega, hJ3⟩
 ·
  replace h1 := of_decide_eq_false h1
  refine WC.exit ?_
  refine At.thenexit ?_
  refine At.thenexit ?_
  refine At.blockexit ?_
  refine At.then_ ?_
  refine WC.seq ?_
  refine Qm ?_
  refine Qa ?_
  refine WL.next ?_
  refine WC.ret ?_
  refine fin1' rfl Q0 ?_
  refine RetD.mk hs Q1 ?_
  refine ⟨s, rfl, trivial, ?_, ?_⟩
  ·
   exact ⟨by omega, hJ3⟩
  ·
   exact hs.freshD (x := s) (F := F) Q2

theorem c_spec_l9Policy (c : Nat) (b_ : Sl UInt8) (w : World)   (h_c : CurAt 205 b_ c w) (hb_c : CurB w b_ c) : Calls Tryz.prog 156 [bp c 0].toArray w (RetD 205 b_ c w (fun v w' => ∃ (p : PPolicy), v = .agg (Ph.enc p).toArray ∧ (True) ∧ (p.lg.is = true ∧ p.lg.size ≤ 50) ∧ Fresh w p w')) := by
 refine enterN 18 Tryz.func156 rfl rfl rfl ?_
 have hs := Sat.startC h_c
 refine WC.seq ?_
 refine WL.r Q0 (Yr.alloc hs zt108) ?_
 clear hs; rintro _ w ⟨b1, rfl, hb, hs⟩; clear hb
 refine WL.next ?_
 refine WC.seq' ?_
 refine WC.seq ?_
 refine Qm ?_
 refine WL.calld hs (T := 205) (b := b_) (c := c) Q2 Q0 (Yc.func Q0 fn100) (c_spec_l1Once c b_ _ _ (hs.cur Q1) (Apart.now hb_c hs)) ?_
 clear hs; intro v w ho hR hs
 obtain ⟨x2, rfl, _, hx2, hf2⟩ := hR
 clear ho hf2
 refine WL.next ?_
 refine WC.condS Q0 (fun h1 => ?_) (fun h1 => ?_)
 ·
  refine WC.seq ?_
  refine WL.p Q0 (Yl.build bt108 Q0 Q4) ?_
  refine WL.s (Yr.storeB hs Q0 Q0 Q0 Q5 Q3 Q0 (by exact szf108)) ?_
  clear hs; rintro _ w hs
  refine WL.next ?_
  refine WC.ret ?_
  refine At.thenret ?_
  refine fin1c rfl agg108 Q0 hs Q1 Q0 ?_
  replace hs := Sat.nilsl (α := Str) hs
  replace hs := Sat.nilsl (α := Str) hs
  replace hs := Sat.nilsl (α := Str) hs
  obtain ⟨Fj3, hs⟩ : ∃ F, Sat _ _ _ (ow (⟨false, ⟨[], none, 0⟩, ⟨[], none, 0⟩, ⟨[], none, 0⟩, ([] : Str)⟩ : PPolicy) F :: _) := ⟨_, PPolicy.join (⟨false, ⟨[], none, 0⟩, ⟨[], none, 0⟩, ⟨[], none, 0⟩, ([] : Str)⟩ : PPolicy) (hs.sel (D := [ow (⟨[], none, 0⟩ : (Sl Str)) [], ow (⟨[], none, 0⟩ : (Sl Str)) [], ow (⟨[], none, 0⟩ : (Sl Str)) []]) Q2) (by first | exact trivial | trivial | assumption | exact Flat.any (by assumption) | exact ⟨by omega, by omega⟩ | (show WfS _; unfold WfS; omega) | (show WfS _; unfold WfS; simp only [List.length_append, List.length_cons, List.length_nil] at *; omega) | (refine Ph.old ?_ hs; assumption)) (by first | exact (show WfS [] from Nat.zero_le _) | trivial | assumption | exact Flat.any (by assumption) | exact ⟨by omega, by omega⟩ | (show WfS _; unfold WfS; omega) | (show WfS _; unfold WfS; simp only [List.length_append, List.length_cons, List.length_nil] at *; omega) | (refine Ph.old ?_ hs; assumption))⟩
  try simp only [List.cons_append, List.nil_append] at hs
  refine RetD.mk hs Q1 ?_
  refine ⟨(⟨false, ⟨[], none, 0⟩, ⟨[], none, 0⟩, ⟨[], none, 0⟩, ([] : Str)⟩ : PPolicy), rfl, trivial, ?_, ?_⟩
  ·
   refine ⟨by rfl, ?_⟩
   simp [PPolicy.lg, TPolicy.size, strsz, lsz, lsum]
  ·
   exact hs.freshD (x := (⟨false, ⟨[], none, 0⟩, ⟨[], none, 0⟩, ⟨[], none, 0⟩, ([] : Str)⟩ : PPolicy)) (F := Fj3) Q2
 ·
  refine WC.skipn ?_
  refine WC.seq ?_
  refine Qm ?_
  refine WL.calld hs (T := 205) (b := b_) (c := c) Q2 Q0 (Yc.func Q0 fn227) (c_spec_l9Hosts c b_ _ (hs.cur Q1) (Apart.now hb_c hs)) ?_
  clear hs; intro v w ho hR hs
  obtain ⟨x4, rfl, _, hx4, hf4⟩ := hR
  obtain ⟨F4, hs⟩ := hs.addF ho hf4
  clear ho hf4
  refine Qm ?_
  refine WL.calld hs (T := 205) (b := b_) (c := c) Q2 Q0 (Yc.func Q0 fn227) (c_spec_l9Hosts c b_ _ (hs.cur Q1) (Apart.now hb_c hs)) ?_
  clear hs; intro v w ho hR hs
  obtain ⟨x5, rfl, _, hx5, hf5⟩ := hR
  obtain ⟨F5, hs⟩ := hs.addF ho hf5
  clear ho hf5
  refine Qm ?_
  refine WL.calld hs (T := 205) (b := b_) (c := c) Q2 Q0 (Yc.func Q0 fn227) (c_spec_l9Hosts c b_ _ (hs.cur Q1) (Apart.now hb_c hs)) ?_
  clear hs; intro v w ho hR hs
  obtain ⟨x6, rfl, _, hx6, hf6⟩ := hR
  obtain ⟨F6, hs⟩ := hs.addF ho hf6
  clear ho hf6
  refine WL.p Q0 (Yl.build bt108 Q0 Q4) ?_
  refine WL.r Q0 (Yr.alloc hs zt108) ?_
  clear hs; rintro _ w ⟨b7, rfl, hb, hs⟩; clear hb
  refine WL.s (Yr.storeB hs Q0 Q0 Q0 Q5 Q3 Q0 (by exact szf108)) ?_
  clear hs; rintro _ w hs
  refine WL.next ?_
  refine WC.seq' ?_
  refine WC.seq ?_
  refine Qm ?_
  refine WL.calld hs (T := 205) (b := b_) (c := c) Q2 Q0 (Yc.func Q0 fn100) (c_spec_l1Once c b_ _ _ (hs.cur Q1) (Apart.now hb_c hs)) ?_
  clear hs; intro v w ho hR hs
  obtain ⟨x8, rfl, _, hx8, hf8⟩ := hR
  clear ho hf8
  refine WL.next ?_
  refine WC.condS Q0 (fun h2 => ?_) (fun h2 => ?_)
  ·
   refine WC.region ?_
   refine WL.p Q0 (Yl.fieldAddr fa108_4 Q0) ?_
   refine WL.s (Yr.storeB hs Q0 Q0 Q0 Q5 Q3 Q0 (by exact szf9)) ?_
   clear hs; rintro _ w hs
   refine WL.nil ?_
   refine At.then_ ?_
   refine WC.seq ?_
   refine WL.p Q0 (Yl.loadAB agg108 Q0 hs Q1 Q0 Q0) ?_
   refine WL.s (Yr.storeB hs Q0 Q0 Q0 Q5 Q3 Q0 (by exact szf108)) ?_
   clear hs; rintro _ w hs
   refine WL.next ?_
   refine WC.ret ?_
   refine fin1c rfl agg108 Q0 hs Q1 Q0 ?_
   obtain ⟨Fj9, hs⟩ : ∃ F, Sat _ _ _ (ow (⟨true, x4, x5, x6, ([110, 55] : Str)⟩ : PPolicy) F :: _) := ⟨_, PPolicy.join (⟨true, x4, x5, x6, ([110, 55] : Str)⟩ : PPolicy) (hs.sel (D := [ow x4 F4, ow x5 F5, ow x6 F6]) Q2) (by first | exact trivial | trivial | assumption | exact Flat.any (by assumption) | exact ⟨by omega, by omega⟩ | (show WfS _; unfold WfS; omega) | (show WfS _; unfold WfS; simp only [List.length_append, List.length_cons, List.length_nil] at *; omega) | (refine Ph.old ?_ hs; assumption)) (by first | exact (show WfS [110, 55] from (by unfold WfS; simp)) | trivial | assumption | exact Flat.any (by assumption) | exact ⟨by omega, by omega⟩ | (show WfS _; unfold WfS; omega) | (show WfS _; unfold WfS; simp only [List.length_append, List.length_cons, List.length_nil] at *; omega) | (refine Ph.old ?_ hs; assumption))⟩
   try simp only [List.cons_append, List.nil_append] at hs
   refine RetD.mk hs Q1 ?_
   refine ⟨(⟨true, x4, x5, x6, ([110, 55] : Str)⟩ : PPolicy), rfl, trivial, ?_, ?_⟩
   ·
    have g1 := hosts_of3 hx4.1 hx4.2; have g2 := hosts_of3 hx5.1 hx5.2; have g3 := hosts_of3 hx6.1 hx6.2
    refine ⟨?_, ?_⟩
    · simp [PPolicy.lg, TPolicy.is, g1.1, g2.1, g3.1]; try decide
    · simp only [PPolicy.lg, TPolicy.size, List.length_cons, List.length_nil]; omega
   ·
    exact hs.freshD (x := (⟨true, x4, x5, x6, ([110, 55] : Str)⟩ : PPolicy)) (F := Fj9) Q2
  ·
   refine WC.skipn ?_
   refine WC.seq ?_
   refine WL.p Q0 (Yl.loadAB agg108 Q0 hs Q1 Q0 Q0) ?_
   refine WL.s (Yr.storeB hs Q0 Q0 Q0 Q5 Q3 Q0 (by exact szf108)) ?_
   clear hs; rintro _ w hs
   refine WL.next ?_
   refine WC.ret ?_
   refine fin1c rfl agg108 Q0 hs Q1 Q0 ?_
   obtain ⟨Fj10, hs⟩ : ∃ F, Sat _ _ _ (ow (⟨true, x4, x5, x6, ([] : Str)⟩ : PPolicy) F :: _) := ⟨_, PPolicy.join (⟨true, x4, x5, x6, ([] : Str)⟩ : PPolicy) (hs.sel (D := [ow x4 F4, ow x5 F5, ow x6 F6]) Q2) (by first | exact trivial | trivial | assumption | exact Flat.any (by assumption) | exact ⟨by omega, by omega⟩ | (show WfS _; unfold WfS; omega) | (show WfS _; unfold WfS; simp only [List.length_append, List.length_cons, List.length_nil] at *; omega) | (refine Ph.old ?_ hs; assumption)) (by first | exact (show WfS [] from Nat.zero_le _) | trivial | assumption | exact Flat.any (by assumption) | exact ⟨by omega, by omega⟩ | (show WfS _; unfold WfS; omega) | (show WfS _; unfold WfS; simp only [List.length_append, List.length_cons, List.length_nil] at *; omega) | (refine Ph.old ?_ hs; assumption))⟩
   try simp only [List.cons_append, List.nil_append] at hs
   refine RetD.mk hs Q1 ?_
   refine ⟨(⟨true, x4, x5, x6, ([] : Str)⟩ : PPolicy), rfl, trivial, ?_, ?_⟩
   ·
    have g1 := hosts_of3 hx4.1 hx4.2; have g2 := hosts_of3 hx5.1 hx5.2; have g3 := hosts_of3 hx6.1 hx6.2
    refine ⟨?_, ?_⟩
    · simp [PPolicy.lg, TPolicy.is, g1.1, g2.1, g3.1]; try decide
    · simp only [PPolicy.lg, TPolicy.size, List.length_cons, List.length_nil]; omega
   ·
    exact hs.freshD (x := (⟨true, x4, x5, x6, ([] : Str)⟩ : PPolicy)) (F := Fj10) Q2

theorem c_spec_l7Text (c : Nat) (b_ : Sl UInt8) (w : World)   (h_c : CurAt 205 b_ c w) (hb_c : CurB w b_ c) : Calls Tryz.prog 101 [bp c 0].toArray w (RetD 205 b_ c w (fun v w' => ∃ (x : Str), v = S x ∧ (Ph.ok w' x) ∧ (x.length ≤ 30) ∧ True)) := by
 refine enterN 23 Tryz.func101 rfl rfl rfl ?_
 have hs := Sat.startC h_c
 refine WC.seq ?_
 refine Qa ?_
 refine WL.next ?_
 refine WC.seq ?_
 refine Qa ?_
 refine WL.next ?_
 refine WC.seq' ?_
 refine WC.seq ?_
 refine Qm ?_
 refine WL.calld hs (T := 205) (b := b_) (c := c) Q2 Q0 (Yc.func Q0 fn118) (c_spec_l1Below c b_ _ _ (hs.cur Q1) (Apart.now hb_c hs)) ?_
 clear hs; intro v w ho hR hs
 obtain ⟨x1, rfl, hokx1, hx1, hf1⟩ := hR
 clear ho hf1
 replace hx1 : 0 ≤ x1 ∧ x1 < 4 := ⟨hx1.1, hx1.2.2 (by decide)⟩
 refine Qa ?_
 refine WL.next ?_
 refine WC.block ?_
 refine WC.loopC (ι := Int × Str) (fun ⟨m, t⟩ => m.toNat) (fun ⟨m, t⟩ => [(3, S t), (4, I m)]) (fun _ => []) (fun ⟨m, t⟩ => 0 ≤ m ∧ m ≤ 3 ∧ (t.length : Int) ≤ (3 - m) * 10) [(0, _), (2, _)] (_, []) (hs) ⟨by rfl, by rfl, trivial⟩ ⟨by rfl, by rfl, trivial⟩ ?_ ?_
 ·
  refine ⟨by omega, by omega, ?_⟩
  simp only [List.length_nil]; omega
 clear hs; rintro ⟨m, t⟩ w ⟨hJ1, hJ2, hJ3⟩ hs
 simp only [List.nil_append] at hs
 refine WC.seq' ?_
 refine WC.seq ?_
 refine Qm ?_
 refine WL.p Q0 (Yl.gtr Q0 Q0) ?_
 refine WL.next ?_
 refine WC.condS Q0 (fun h1 => ?_) (fun h1 => ?_)
 ·
  replace h1 := of_decide_eq_true h1
  have hwt : t.length ≤ 9223372036854775807 := by omega
  refine WC.skipn ?_
  refine WC.seq' ?_
  refine WC.block ?_
  refine WC.region ?_
  refine Qm ?_
  refine Qm ?_
  refine WL.r Q0 (Yr.buildSlice hs sll34 Q0 Q0 Q0 Q4 Q0) ?_
  clear hs; rintro _ w ⟨b2, rfl, hb, hs⟩; clear hb
  replace hs := Sat.boxow (l := ([([112] : Str), ([98] : Str), ([112, 97, 103, 101] : Str), ([80] : Str), ([] : Str)] : List Str)) (hs.sel (D := [box b2 _ _]) Q2) rfl rfl (by decide) (ownL_mk_flat (lit_str Q0))
  try simp only [List.cons_append, List.nil_append] at hs
  refine WL.calld hs (T := 205) (b := b_) (c := c) Q2 Q0 (Yc.func Q0 fn102) (c_spec_l1Str c b_ (⟨[([112] : Str), ([98] : Str), ([112, 97, 103, 101] : Str), ([80] : Str), ([] : Str)], some ⟨b2, 0, none⟩, 5⟩ : Sl Str) _ (Apart.own (s := (⟨[([112] : Str), ([98] : Str), ([112, 97, 103, 101] : Str), ([80] : Str), ([] : Str)], some ⟨b2, 0, none⟩, 5⟩ : Sl Str)) (F := [b2]) hs Q2) (by exact Nat.succ_pos _) (hs.cur Q1) (Apart.now hb_c hs)) ?_
  clear hs; intro v w ho hR hs
  obtain ⟨x3, rfl, hokx3, hx3, hf3⟩ := hR
  clear ho hf3
  replace hx3 : x3 ∈ ([([112] : Str), ([98] : Str), ([112, 97, 103, 101] : Str), ([80] : Str), ([] : Str)] : List Str) := hx3
  have hn3 := mem_len 4 hx3 Q0
  refine WL.p Q0 (Yl.cat Q0 Q0 (by simp only [List.length_append, List.length_cons, List.length_nil] at *; omega)) ?_
  refine WL.p Q0 (Yl.cat Q0 Q0 (by simp only [List.length_append, List.length_cons, List.length_nil] at *; omega)) ?_
  refine Qm ?_
  refine WL.r Q0 (Yr.buildSlice hs sll34 Q0 Q0 Q0 Q4 Q0) ?_
  clear hs; rintro _ w ⟨b4, rfl, hb, hs⟩; clear hb
  replace hs := Sat.boxow (l := ([([49] : Str), ([55] : Str), ([57, 57, 57] : Str), ([49, 48, 48, 48] : Str), ([48] : Str), ([120] : Str)] : List Str)) (hs.sel (D := [box b4 _ _]) Q2) rfl rfl (by decide) (ownL_mk_flat (lit_str Q0))
  try simp only [List.cons_append, List.nil_append] at hs
  refine WL.calld hs (T := 205) (b := b_) (c := c) Q2 Q0 (Yc.func Q0 fn102) (c_spec_l1Str c b_ (⟨[([49] : Str), ([55] : Str), ([57, 57, 57] : Str), ([49, 48, 48, 48] : Str), ([48] : Str), ([120] : Str)], some ⟨b4, 0, none⟩, 6⟩ : Sl Str) _ (Apart.own (s := (⟨[([49] : Str), ([55] : Str), ([57, 57, 57] : Str), ([49, 48, 48, 48] : Str), ([48] : Str), ([120] : Str)], some ⟨b4, 0, none⟩, 6⟩ : Sl Str)) (F := [b4]) hs Q2) (by exact Nat.succ_pos _) (hs.cur Q1) (Apart.now hb_c hs)) ?_
  clear hs; intro v w ho hR hs
  obtain ⟨x5, rfl, hokx5, hx5, hf5⟩ := hR
  clear ho hf5
  replace hx5 : x5 ∈ ([([49] : Str), ([55] : Str), ([57, 57, 57] : Str), ([49, 48, 48, 48] : Str), ([48] : Str), ([120] : Str)] : List Str) := hx5
  have hn5 := mem_len 4 hx5 Q0
  refine WL.p Q0 (Yl.cat Q0 Q0 (by simp only [List.length_append, List.length_cons, List.length_nil] at *; omega)) ?_
  refine WL.p Q0 (Yl.cat Q0 Q0 (by simp only [List.length_append, List.length_cons, List.length_nil] at *; omega)) ?_
  refine Qa ?_
  refine WL.nil ?_
  refine At.blocknormal ?_
  refine At.then_ ?_
  refine WC.region ?_
  refine Qm ?_
  refine WL.p Q0 (Yl.sub_ Q0 Q0 Q7) ?_
  refine Qa ?_
  refine WL.nil ?_
  refine At.roundC (_, _) (hs.only Q2) ⟨by rfl, by rfl, trivial⟩ ⟨by rfl, by rfl, trivial⟩ ?_ ?_
  ·
   show (m - 1).toNat < m.toNat
   omega
  ·
   refine ⟨by omega, by omega, ?_⟩
   simp only [List.length_append, List.length_cons, List.length_nil] at *; omega
 ·
  replace h1 := of_decide_eq_false h1
  refine WC.exit ?_
  refine At.thenexit ?_
  refine At.thenexit ?_
  refine At.blockexit ?_
  refine At.then_ ?_
  refine WC.seq ?_
  refine Qm ?_
  refine Qa ?_
  refine WL.next ?_
  refine WC.ret ?_
  refine fin1' rfl Q0 ?_
  refine RetD.mk hs Q1 ?_
  refine ⟨_, rfl, (by first | exact (show WfS t from by unfold WfS; omega) | trivial | assumption | exact Flat.any (by assumption) | exact ⟨by omega, by omega⟩ | (show WfS _; unfold WfS; omega) | (show WfS _; unfold WfS; simp only [List.length_append, List.length_cons, List.length_nil] at *; omega) | (refine Ph.old ?_ hs; assumption)), ?_, ?_⟩
  ·
   repeat' apply And.intro
   all_goals (try dsimp only)
   all_goals first | trivial | assumption | omega | ((try simp only [List.length_append, List.length_cons, List.length_nil, lsz_app, lsz_one, lsz_cons, lsz_nil, TAddr.size, TResponse.size, TRequest.size, TPolicy.size, TEntry.size, TCache.size, strsz, TLine.size, TSent.size, TServer.size, TFile.size, List.map_append, List.map_cons, List.map_nil, PServer.lg, PPolicy.lg, PCache.lg] at *); first | omega | assumption)
  ·
   trivial

theorem c_spec_l8Text (c : Nat) (b_ : Sl UInt8) (most : Int) (w : World)  (hm : 1 ≤ most ∧ most ≤ 5) (h_c : CurAt 205 b_ c w) (hb_c : CurB w b_ c) : Calls Tryz.prog 214 [bp c 0, I most].toArray w (RetD 205 b_ c w (fun v w' => ∃ (x : Str), v = S x ∧ (Ph.ok w' x) ∧ (x.length ≤ 26 * most.toNat ∧ scriptIs x = true ∧ x ≠ [] ∧ 0 < (scriptLines x).length) ∧ True)) := by
 refine enterN 25 Tryz.func214 rfl rfl rfl ?_
 have hs := Sat.startC h_c
 refine WC.seq ?_
 refine Qa ?_
 refine WL.next ?_
 refine WC.seq ?_
 refine Qa ?_
 refine WL.next ?_
 refine WC.seq' ?_
 refine WC.seq ?_
 refine Qm ?_
 refine Qm ?_
 refine WL.calld hs (T := 205) (b := b_) (c := c) Q2 Q0 (Yc.func Q0 fn118) (c_spec_l1Below c b_ _ _ (hs.cur Q1) (Apart.now hb_c hs)) ?_
 clear hs; intro v w ho hR hs
 obtain ⟨x1, rfl, hokx1, hx1, hf1⟩ := hR
 clear ho hf1
 refine WL.p Q0 (Yl.add Q0 Q0 Q7) ?_
 refine Qa ?_
 refine WL.next ?_
 refine WC.block ?_
 refine WC.loopC (ι := Int × Str) (fun ⟨m, t⟩ => m.toNat) (fun ⟨m, t⟩ => [(5, S t), (6, I m)]) (fun _ => []) (fun ⟨m, t⟩ => 0 ≤ m ∧ m ≤ 1 + x1 ∧ (t.length : Int) ≤ (1 + x1 - m) * 26 ∧ DrawnScript t (1 + x1 - m).toNat) [(0, _), (1, _), (4, _)] (_, []) (hs) ⟨by rfl, by rfl, by rfl, trivial⟩ ⟨by rfl, by rfl, trivial⟩ ?_ ?_
 ·
  refine ⟨by omega, by omega, ?_, ?_⟩
  · simp only [List.length_nil]; omega
  · rw [show (1 + x1 - (1 + x1)).toNat = 0 from by omega]; exact ⟨.inl ⟨rfl, rfl⟩⟩
 clear hs; rintro ⟨m, t⟩ w ⟨hJ1, hJ2, hJ3, hJ4⟩ hs
 simp only [List.nil_append] at hs
 refine WC.seq' ?_
 refine WC.seq ?_
 refine Qm ?_
 refine WL.p Q0 (Yl.gtr Q0 Q0) ?_
 refine WL.next ?_
 refine WC.condS Q0 (fun h1 => ?_) (fun h1 => ?_)
 ·
  replace h1 := of_decide_eq_true h1
  have hwt : t.length ≤ 9223372036854775807 := by omega
  refine WC.skipn ?_
  refine WC.seq' ?_
  refine WC.block ?_
  refine WC.seq' ?_
  refine WC.seq ?_
  refine Qm ?_
  refine WL.p Q0 (Yl.nes Q0 Q0) ?_
  refine WL.next ?_
  refine WC.condS Q0 (fun h2 => ?_) (fun h2 => ?_)
  ·
   replace h2 := not_eq_true h2
   replace h2 := of_decide_eq_false h2
   refine WC.region ?_
   refine Qm ?_
   refine WL.p Q0 (Yl.cat Q0 Q0 (by simp only [List.length_append, List.length_cons, List.length_nil] at *; omega)) ?_
   refine Qa ?_
   refine WL.nil ?_
   refine At.then_ ?_
   refine WC.region ?_
   refine Qm ?_
   refine Qm ?_
   refine WL.r Q0 (Yr.buildSlice hs sll34 Q0 Q0 Q0 Q4 Q0) ?_
   clear hs; rintro _ w ⟨b2, rfl, hb, hs⟩; clear hb
   replace hs := Sat.boxow (l := ([([115, 97, 121, 32, 104, 105] : Str), ([99, 111, 117, 110, 116, 32, 112] : Str), ([99, 111, 117, 110, 116, 32, 115, 99, 114, 105, 112, 116] : Str), ([108, 111, 111, 107, 32, 112] : Str), ([108, 111, 111, 107, 32, 98] : Str), ([97, 100, 100, 32, 98] : Str), ([97, 100, 100, 32, 112] : Str), ([119, 114, 105, 116, 101, 32, 91, 112, 93, 120, 91, 47, 112, 93] : Str), ([119, 114, 105, 116, 101, 32, 91, 105, 109, 103, 32, 115, 114, 99, 61, 108, 111, 103, 111, 93] : Str), ([119, 114, 105, 116, 101, 32, 91, 108, 105, 110, 107, 32, 104, 114, 101, 102, 61, 115, 116, 121, 108, 101, 93] : Str), ([119, 114, 105, 116, 101, 32, 91, 98, 93] : Str)] : List Str)) (hs.sel (D := [box b2 _ _]) Q2) rfl rfl (by decide) (ownL_mk_flat (lit_str Q0))
   try simp only [List.cons_append, List.nil_append] at hs
   refine WL.calld hs (T := 205) (b := b_) (c := c) Q2 Q0 (Yc.func Q0 fn102) (c_spec_l1Str c b_ (⟨[([115, 97, 121, 32, 104, 105] : Str), ([99, 111, 117, 110, 116, 32, 112] : Str), ([99, 111, 117, 110, 116, 32, 115, 99, 114, 105, 112, 116] : Str), ([108, 111, 111, 107, 32, 112] : Str), ([108, 111, 111, 107, 32, 98] : Str), ([97, 100, 100, 32, 98] : Str), ([97, 100, 100, 32, 112] : Str), ([119, 114, 105, 116, 101, 32, 91, 112, 93, 120, 91, 47, 112, 93] : Str), ([119, 114, 105, 116, 101, 32, 91, 105, 109, 103, 32, 115, 114, 99, 61, 108, 111, 103, 111, 93] : Str), ([119, 114, 105, 116, 101, 32, 91, 108, 105, 110, 107, 32, 104, 114, 101, 102, 61, 115, 116, 121, 108, 101, 93] : Str), ([119, 114, 105, 116, 101, 32, 91, 98, 93] : Str)], some ⟨b2, 0, none⟩, 11⟩ : Sl Str) _ (Apart.own (s := (⟨[([115, 97, 121, 32, 104, 105] : Str), ([99, 111, 117, 110, 116, 32, 112] : Str), ([99, 111, 117, 110, 116, 32, 115, 99, 114, 105, 112, 116] : Str), ([108, 111, 111, 107, 32, 112] : Str), ([108, 111, 111, 107, 32, 98] : Str), ([97, 100, 100, 32, 98] : Str), ([97, 100, 100, 32, 112] : Str), ([119, 114, 105, 116, 101, 32, 91, 112, 93, 120, 91, 47, 112, 93] : Str), ([119, 114, 105, 116, 101, 32, 91, 105, 109, 103, 32, 115, 114, 99, 61, 108, 111, 103, 111, 93] : Str), ([119, 114, 105, 116, 101, 32, 91, 108, 105, 110, 107, 32, 104, 114, 101, 102, 61, 115, 116, 121, 108, 101, 93] : Str), ([119, 114, 105, 116, 101, 32, 91, 98, 93] : Str)], some ⟨b2, 0, none⟩, 11⟩ : Sl Str)) (F := [b2]) hs Q2) (by exact Nat.succ_pos _) (hs.cur Q1) (Apart.now hb_c hs)) ?_
   clear hs; intro v w ho hR hs
   obtain ⟨x3, rfl, hokx3, hx3, hf3⟩ := hR
   clear ho hf3
   replace hx3 : x3 ∈ ([([115, 97, 121, 32, 104, 105] : Str), ([99, 111, 117, 110, 116, 32, 112] : Str), ([99, 111, 117, 110, 116, 32, 115, 99, 114, 105, 112, 116] : Str), ([108, 111, 111, 107, 32, 112] : Str), ([108, 111, 111, 107, 32, 98] : Str), ([97, 100, 100, 32, 98] : Str), ([97, 100, 100, 32, 112] : Str), ([119, 114, 105, 116, 101, 32, 91, 112, 93, 120, 91, 47, 112, 93] : Str), ([119, 114, 105, 116, 101, 32, 91, 105, 109, 103, 32, 115, 114, 99, 61, 108, 111, 103, 111, 93] : Str), ([119, 114, 105, 116, 101, 32, 91, 108, 105, 110, 107, 32, 104, 114, 101, 102, 61, 115, 116, 121, 108, 101, 93] : Str), ([119, 114, 105, 116, 101, 32, 91, 98, 93] : Str)] : List Str) := hx3
   have hn3 := mem_len 23 hx3 Q0
   refine WL.p Q0 (Yl.cat Q0 Q0 (by simp only [List.length_append, List.length_cons, List.length_nil] at *; omega)) ?_
   refine Qa ?_
   refine WL.nil ?_
   refine At.blocknormal ?_
   refine At.then_ ?_
   refine WC.region ?_
   refine Qm ?_
   refine WL.p Q0 (Yl.sub_ Q0 Q0 Q7) ?_
   refine Qa ?_
   refine WL.nil ?_
   refine At.roundC (_, _) (hs.only Q2) ⟨by rfl, by rfl, by rfl, trivial⟩ ⟨by rfl, by rfl, trivial⟩ ?_ ?_
   ·
    show (m - 1).toNat < m.toNat
    omega
   ·
    refine ⟨by omega, by omega, ?_, ?_⟩
    · simp only [List.length_append, List.length_cons, List.length_nil] at *; omega
    · rw [show (1 + x1 - (m - 1)).toNat = (1 + x1 - m).toNat + 1 from by omega]; exact hJ4.next (by assumption) (show _ ∈ lines11 from hx3)
  ·
   replace h2 := not_eq_false h2
   replace h2 := of_decide_eq_true h2
   refine WC.skipn ?_
   refine WC.region ?_
   refine Qm ?_
   refine Qm ?_
   refine WL.r Q0 (Yr.buildSlice hs sll34 Q0 Q0 Q0 Q4 Q0) ?_
   clear hs; rintro _ w ⟨b4, rfl, hb, hs⟩; clear hb
   replace hs := Sat.boxow (l := ([([115, 97, 121, 32, 104, 105] : Str), ([99, 111, 117, 110, 116, 32, 112] : Str), ([99, 111, 117, 110, 116, 32, 115, 99, 114, 105, 112, 116] : Str), ([108, 111, 111, 107, 32, 112] : Str), ([108, 111, 111, 107, 32, 98] : Str), ([97, 100, 100, 32, 98] : Str), ([97, 100, 100, 32, 112] : Str), ([119, 114, 105, 116, 101, 32, 91, 112, 93, 120, 91, 47, 112, 93] : Str), ([119, 114, 105, 116, 101, 32, 91, 105, 109, 103, 32, 115, 114, 99, 61, 108, 111, 103, 111, 93] : Str), ([119, 114, 105, 116, 101, 32, 91, 108, 105, 110, 107, 32, 104, 114, 101, 102, 61, 115, 116, 121, 108, 101, 93] : Str), ([119, 114, 105, 116, 101, 32, 91, 98, 93] : Str)] : List Str)) (hs.sel (D := [box b4 _ _]) Q2) rfl rfl (by decide) (ownL_mk_flat (lit_str Q0))
   try simp only [List.cons_append, List.nil_append] at hs
   refine WL.calld hs (T := 205) (b := b_) (c := c) Q2 Q0 (Yc.func Q0 fn102) (c_spec_l1Str c b_ (⟨[([115, 97, 121, 32, 104, 105] : Str), ([99, 111, 117, 110, 116, 32, 112] : Str), ([99, 111, 117, 110, 116, 32, 115, 99, 114, 105, 112, 116] : Str), ([108, 111, 111, 107, 32, 112] : Str), ([108, 111, 111, 107, 32, 98] : Str), ([97, 100, 100, 32, 98] : Str), ([97, 100, 100, 32, 112] : Str), ([119, 114, 105, 116, 101, 32, 91, 112, 93, 120, 91, 47, 112, 93] : Str), ([119, 114, 105, 116, 101, 32, 91, 105, 109, 103, 32, 115, 114, 99, 61, 108, 111, 103, 111, 93] : Str), ([119, 114, 105, 116, 101, 32, 91, 108, 105, 110, 107, 32, 104, 114, 101, 102, 61, 115, 116, 121, 108, 101, 93] : Str), ([119, 114, 105, 116, 101, 32, 91, 98, 93] : Str)], some ⟨b4, 0, none⟩, 11⟩ : Sl Str) _ (Apart.own (s := (⟨[([115, 97, 121, 32, 104, 105] : Str), ([99, 111, 117, 110, 116, 32, 112] : Str), ([99, 111, 117, 110, 116, 32, 115, 99, 114, 105, 112, 116] : Str), ([108, 111, 111, 107, 32, 112] : Str), ([108, 111, 111, 107, 32, 98] : Str), ([97, 100, 100, 32, 98] : Str), ([97, 100, 100, 32, 112] : Str), ([119, 114, 105, 116, 101, 32, 91, 112, 93, 120, 91, 47, 112, 93] : Str), ([119, 114, 105, 116, 101, 32, 91, 105, 109, 103, 32, 115, 114, 99, 61, 108, 111, 103, 111, 93] : Str), ([119, 114, 105, 116, 101, 32, 91, 108, 105, 110, 107, 32, 104, 114, 101, 102, 61, 115, 116, 121, 108, 101, 93] : Str), ([119, 114, 105, 116, 101, 32, 91, 98, 93] : Str)], some ⟨b4, 0, none⟩, 11⟩ : Sl Str)) (F := [b4]) hs Q2) (by exact Nat.succ_pos _) (hs.cur Q1) (Apart.now hb_c hs)) ?_
   clear hs; intro v w ho hR hs
   obtain ⟨x5, rfl, hokx5, hx5, hf5⟩ := hR
   clear ho hf5
   replace hx5 : x5 ∈ ([([115, 97, 121, 32, 104, 105] : Str), ([99, 111, 117, 110, 116, 32, 112] : Str), ([99, 111, 117, 110, 116, 32, 115, 99, 114, 105, 112, 116] : Str), ([108, 111, 111, 107, 32, 112] : Str), ([108, 111, 111, 107, 32, 98] : Str), ([97, 100, 100, 32, 98] : Str), ([97, 100, 100, 32, 112] : Str), ([119, 114, 105, 116, 101, 32, 91, 112, 93, 120, 91, 47, 112, 93] : Str), ([119, 114, 105, 116, 101, 32, 91, 105, 109, 103, 32, 115, 114, 99, 61, 108, 111, 103, 111, 93] : Str), ([119, 114, 105, 116, 101, 32, 91, 108, 105, 110, 107, 32, 104, 114, 101, 102, 61, 115, 116, 121, 108, 101, 93] : Str), ([119, 114, 105, 116, 101, 32, 91, 98, 93] : Str)] : List Str) := hx5
   have hn5 := mem_len 23 hx5 Q0
   refine WL.p Q0 (Yl.cat Q0 Q0 (by simp only [List.length_append, List.length_cons, List.length_nil] at *; omega)) ?_
   refine Qa ?_
   refine WL.nil ?_
   refine At.blocknormal ?_
   refine At.then_ ?_
   refine WC.region ?_
   refine Qm ?_
   refine WL.p Q0 (Yl.sub_ Q0 Q0 Q7) ?_
   refine Qa ?_
   refine WL.nil ?_
   refine At.roundC (_, _) (hs.only Q2) ⟨by rfl, by rfl, by rfl, trivial⟩ ⟨by rfl, by rfl, trivial⟩ ?_ ?_
   ·
    show (m - 1).toNat < m.toNat
    omega
   ·
    refine ⟨by omega, by omega, ?_, ?_⟩
    · simp only [List.length_append, List.length_cons, List.length_nil] at *; omega
    · exact hJ4.one (by assumption) Q7 (show _ ∈ lines11 from hx5)
 ·
  replace h1 := of_decide_eq_false h1
  refine WC.exit ?_
  refine At.thenexit ?_
  refine At.thenexit ?_
  refine At.blockexit ?_
  refine At.then_ ?_
  refine WC.seq ?_
  refine Qm ?_
  refine Qa ?_
  refine WL.next ?_
  refine WC.ret ?_
  refine fin1' rfl Q0 ?_
  refine RetD.mk hs Q1 ?_
  refine ⟨_, rfl, (by first | exact (show WfS t from by unfold WfS; omega) | trivial | assumption | exact Flat.any (by assumption) | exact ⟨by omega, by omega⟩ | (show WfS _; unfold WfS; omega) | (show WfS _; unfold WfS; simp only [List.length_append, List.length_cons, List.length_nil] at *; omega) | (refine Ph.old ?_ hs; assumption)), ?_, ?_⟩
  ·
   have h9 := hJ4.is Q7 Q7
   exact ⟨by omega, h9.1, h9.2.1, by rw [h9.2.2]; omega⟩
  ·
   trivial

theorem c_spec_l5Tag (c : Nat) (b_ : Sl UInt8) (w : World)   (h_c : CurAt 205 b_ c w) (hb_c : CurB w b_ c) : Calls Tryz.prog 324 [bp c 0].toArray w (RetD 205 b_ c w (fun v w' => ∃ (x : Str), v = S x ∧ (Ph.ok w' x) ∧ (x.length ≤ 40) ∧ True)) := by
 refine enterN 48 Tryz.func324 rfl rfl rfl ?_
 have hs := Sat.startC h_c
 refine WC.seq ?_
 refine Qa ?_
 refine WL.next ?_
 refine WC.seq' ?_
 refine WC.seq ?_
 refine Qm ?_
 refine WL.calld hs (T := 205) (b := b_) (c := c) Q2 Q0 (Yc.func Q0 fn118) (c_spec_l1Below c b_ _ _ (hs.cur Q1) (Apart.now hb_c hs)) ?_
 clear hs; intro v w ho hR hs
 obtain ⟨x1, rfl, hokx1, hx1, hf1⟩ := hR
 clear ho hf1
 replace hx1 : 0 ≤ x1 ∧ x1 < 8 := ⟨hx1.1, hx1.2.2 (by decide)⟩
 refine WL.next ?_
 refine WC.block ?_
 refine WC.seq ?_
 refine WL.p Q0 (Yl.eqi Q0 Q0) ?_
 refine Qa ?_
 refine WL.next ?_
 refine WC.condS Q0 (fun h1 => ?_) (fun h1 => ?_)
 ·
  replace h1 := of_decide_eq_true h1
  refine WC.seq ?_
  refine Qm ?_
  refine WL.r Q0 (Yr.buildSlice hs sll34 Q0 Q0 Q0 Q4 Q0) ?_
  clear hs; rintro _ w ⟨b2, rfl, hb, hs⟩; clear hb
  replace hs := Sat.boxow (l := ([([112] : Str), ([98] : Str), ([115, 99, 114, 105, 112, 116] : Str), ([112, 97, 103, 101] : Str)] : List Str)) (hs.sel (D := [box b2 _ _]) Q2) rfl rfl (by decide) (ownL_mk_flat (lit_str Q0))
  try simp only [List.cons_append, List.nil_append] at hs
  refine WL.calld hs (T := 205) (b := b_) (c := c) Q2 Q0 (Yc.func Q0 fn102) (c_spec_l1Str c b_ (⟨[([112] : Str), ([98] : Str), ([115, 99, 114, 105, 112, 116] : Str), ([112, 97, 103, 101] : Str)], some ⟨b2, 0, none⟩, 4⟩ : Sl Str) _ (Apart.own (s := (⟨[([112] : Str), ([98] : Str), ([115, 99, 114, 105, 112, 116] : Str), ([112, 97, 103, 101] : Str)], some ⟨b2, 0, none⟩, 4⟩ : Sl Str)) (F := [b2]) hs Q2) (by exact Nat.succ_pos _) (hs.cur Q1) (Apart.now hb_c hs)) ?_
  clear hs; intro v w ho hR hs
  obtain ⟨x3, rfl, hokx3, hx3, hf3⟩ := hR
  clear ho hf3
  replace hx3 : x3 ∈ ([([112] : Str), ([98] : Str), ([115, 99, 114, 105, 112, 116] : Str), ([112, 97, 103, 101] : Str)] : List Str) := hx3
  have hn3 := mem_len 6 hx3 Q0
  refine WL.p Q0 (Yl.cat Q0 Q0 (by simp only [List.length_append, List.length_cons, List.length_nil] at *; omega)) ?_
  refine Qa ?_
  refine WL.next ?_
  refine WC.ret ?_
  refine At.blockret ?_
  refine At.thenret ?_
  refine fin1' rfl Q0 ?_
  refine RetD.mk hs Q1 ?_
  refine ⟨_, rfl, (by first | trivial | assumption | exact Flat.any (by assumption) | exact ⟨by omega, by omega⟩ | (show WfS _; unfold WfS; omega) | (show WfS _; unfold WfS; simp only [List.length_append, List.length_cons, List.length_nil] at *; omega) | (refine Ph.old ?_ hs; assumption)), ?_, ?_⟩
  ·
   repeat' apply And.intro
   all_goals (try dsimp only)
   all_goals first | trivial | assumption | omega | ((try simp only [List.length_append, List.length_cons, List.length_nil, lsz_app, lsz_one, lsz_cons, lsz_nil, TAddr.size, TResponse.size, TRequest.size, TPolicy.size, TEntry.size, TCache.size, strsz, TLine.size, TSent.size, TServer.size, TFile.size, List.map_append, List.map_cons, List.map_nil, PServer.lg, PPolicy.lg, PCache.lg] at *); first | omega | assumption)
  ·
   trivial
 ·
  replace h1 := of_decide_eq_false h1
  refine WC.seq ?_
  refine WL.p Q0 (Yl.eqi Q0 Q0) ?_
  refine Qa ?_
  refine WL.next ?_
  refine WC.condS Q0 (fun h2 => ?_) (fun h2 => ?_)
  ·
   replace h2 := of_decide_eq_true h2
   refine WC.seq ?_
   refine Qm ?_
   refine WL.r Q0 (Yr.buildSlice hs sll34 Q0 Q0 Q0 Q4 Q0) ?_
   clear hs; rintro _ w ⟨b4, rfl, hb, hs⟩; clear hb
   replace hs := Sat.boxow (l := ([([97, 112, 112] : Str), ([99, 100, 110, 47, 108, 105, 98] : Str), ([108, 105, 98] : Str), ([101, 118, 105, 108, 47, 97, 112, 112] : Str)] : List Str)) (hs.sel (D := [box b4 _ _]) Q2) rfl rfl (by decide) (ownL_mk_flat (lit_str Q0))
   try simp only [List.cons_append, List.nil_append] at hs
   refine WL.calld hs (T := 205) (b := b_) (c := c) Q2 Q0 (Yc.func Q0 fn102) (c_spec_l1Str c b_ (⟨[([97, 112, 112] : Str), ([99, 100, 110, 47, 108, 105, 98] : Str), ([108, 105, 98] : Str), ([101, 118, 105, 108, 47, 97, 112, 112] : Str)], some ⟨b4, 0, none⟩, 4⟩ : Sl Str) _ (Apart.own (s := (⟨[([97, 112, 112] : Str), ([99, 100, 110, 47, 108, 105, 98] : Str), ([108, 105, 98] : Str), ([101, 118, 105, 108, 47, 97, 112, 112] : Str)], some ⟨b4, 0, none⟩, 4⟩ : Sl Str)) (F := [b4]) hs Q2) (by exact Nat.succ_pos _) (hs.cur Q1) (Apart.now hb_c hs)) ?_
   clear hs; intro v w ho hR hs
   obtain ⟨x5, rfl, hokx5, hx5, hf5⟩ := hR
   clear ho hf5
   replace hx5 : x5 ∈ ([([97, 112, 112] : Str), ([99, 100, 110, 47, 108, 105, 98] : Str), ([108, 105, 98] : Str), ([101, 118, 105, 108, 47, 97, 112, 112] : Str)] : List Str) := hx5
   have hn5 := mem_len 8 hx5 Q0
   refine WL.p Q0 (Yl.cat Q0 Q0 (by simp only [List.length_append, List.length_cons, List.length_nil] at *; omega)) ?_
   refine Qa ?_
   refine WL.next ?_
   refine WC.ret ?_
   refine At.blockret ?_
   refine At.thenret ?_
   refine fin1' rfl Q0 ?_
   refine RetD.mk hs Q1 ?_
   refine ⟨_, rfl, (by first | trivial | assumption | exact Flat.any (by assumption) | exact ⟨by omega, by omega⟩ | (show WfS _; unfold WfS; omega) | (show WfS _; unfold WfS; simp only [List.length_append, List.length_cons, List.length_nil] at *; omega) | (refine Ph.old ?_ hs; assumption)), ?_, ?_⟩
   ·
    repeat' apply And.intro
    all_goals (try dsimp only)
    all_goals first | trivial | assumption | omega | ((try simp only [List.length_append, List.length_cons, List.length_nil, lsz_app, lsz_one, lsz_cons, lsz_nil, TAddr.size, TResponse.size, TRequest.size, TPolicy.size, TEntry.size, TCache.size, strsz, TLine.size, TSent.size, TServer.size, TFile.size, List.map_append, List.map_cons, List.map_nil, PServer.lg, PPolicy.lg, PCache.lg] at *); first | omega | assumption)
   ·
    trivial
  ·
   replace h2 := of_decide_eq_false h2
   refine WC.seq ?_
   refine WL.p Q0 (Yl.eqi Q0 Q0) ?_
   refine Qa ?_
   refine WL.next ?_
   refine WC.condS Q0 (fun h3 => ?_) (fun h3 => ?_)
   ·
    replace h3 := of_decide_eq_true h3
    refine WC.seq ?_
    refine Qm ?_
    refine WL.r Q0 (Yr.buildSlice hs sll34 Q0 Q0 Q0 Q4 Q0) ?_
    clear hs; rintro _ w ⟨b6, rfl, hb, hs⟩; clear hb
    replace hs := Sat.boxow (l := ([([97, 112, 112] : Str), ([117, 116, 105, 108] : Str)] : List Str)) (hs.sel (D := [box b6 _ _]) Q2) rfl rfl (by decide) (ownL_mk_flat (lit_str Q0))
    try simp only [List.cons_append, List.nil_append] at hs
    refine WL.calld hs (T := 205) (b := b_) (c := c) Q2 Q0 (Yc.func Q0 fn102) (c_spec_l1Str c b_ (⟨[([97, 112, 112] : Str), ([117, 116, 105, 108] : Str)], some ⟨b6, 0, none⟩, 2⟩ : Sl Str) _ (Apart.own (s := (⟨[([97, 112, 112] : Str), ([117, 116, 105, 108] : Str)], some ⟨b6, 0, none⟩, 2⟩ : Sl Str)) (F := [b6]) hs Q2) (by exact Nat.succ_pos _) (hs.cur Q1) (Apart.now hb_c hs)) ?_
    clear hs; intro v w ho hR hs
    obtain ⟨x7, rfl, hokx7, hx7, hf7⟩ := hR
    clear ho hf7
    replace hx7 : x7 ∈ ([([97, 112, 112] : Str), ([117, 116, 105, 108] : Str)] : List Str) := hx7
    have hn7 := mem_len 4 hx7 Q0
    refine WL.p Q0 (Yl.cat Q0 Q0 (by simp only [List.length_append, List.length_cons, List.length_nil] at *; omega)) ?_
    refine WL.p Q0 (Yl.cat Q0 Q0 (by simp only [List.length_append, List.length_cons, List.length_nil] at *; omega)) ?_
    refine Qm ?_
    refine WL.r Q0 (Yr.buildSlice hs sll34 Q0 Q0 Q0 Q4 Q0) ?_
    clear hs; rintro _ w ⟨b8, rfl, hb, hs⟩; clear hb
    replace hs := Sat.boxow (l := ([([100, 101, 102, 101, 114] : Str), ([109, 111, 100, 117, 108, 101] : Str)] : List Str)) (hs.sel (D := [box b8 _ _]) Q2) rfl rfl (by decide) (ownL_mk_flat (lit_str Q0))
    try simp only [List.cons_append, List.nil_append] at hs
    refine WL.calld hs (T := 205) (b := b_) (c := c) Q2 Q0 (Yc.func Q0 fn102) (c_spec_l1Str c b_ (⟨[([100, 101, 102, 101, 114] : Str), ([109, 111, 100, 117, 108, 101] : Str)], some ⟨b8, 0, none⟩, 2⟩ : Sl Str) _ (Apart.own (s := (⟨[([100, 101, 102, 101, 114] : Str), ([109, 111, 100, 117, 108, 101] : Str)], some ⟨b8, 0, none⟩, 2⟩ : Sl Str)) (F := [b8]) hs Q2) (by exact Nat.succ_pos _) (hs.cur Q1) (Apart.now hb_c hs)) ?_
    clear hs; intro v w ho hR hs
    obtain ⟨x9, rfl, hokx9, hx9, hf9⟩ := hR
    clear ho hf9
    replace hx9 : x9 ∈ ([([100, 101, 102, 101, 114] : Str), ([109, 111, 100, 117, 108, 101] : Str)] : List Str) := hx9
    have hn9 := mem_len 6 hx9 Q0
    refine WL.p Q0 (Yl.cat Q0 Q0 (by simp only [List.length_append, List.length_cons, List.length_nil] at *; omega)) ?_
    refine Qa ?_
    refine WL.next ?_
    refine WC.ret ?_
    refine At.blockret ?_
    refine At.thenret ?_
    refine fin1' rfl Q0 ?_
    refine RetD.mk hs Q1 ?_
    refine ⟨_, rfl, (by first | trivial | assumption | exact Flat.any (by assumption) | exact ⟨by omega, by omega⟩ | (show WfS _; unfold WfS; omega) | (show WfS _; unfold WfS; simp only [List.length_append, List.length_cons, List.length_nil] at *; omega) | (refine Ph.old ?_ hs; assumption)), ?_, ?_⟩
    ·
     repeat' apply And.intro
     all_goals (try dsimp only)
     all_goals first | trivial | assumption | omega | ((try simp only [List.length_append, List.length_cons, List.length_nil, lsz_app, lsz_one, lsz_cons, lsz_nil, TAddr.size, TResponse.size, TRequest.size, TPolicy.size, TEntry.size, TCache.size, strsz, TLine.size, TSent.size, TServer.size, TFile.size, List.map_append, List.map_cons, List.map_nil, PServer.lg, PPolicy.lg, PCache.lg] at *); first | omega | assumption)
    ·
     trivial
   ·
    replace h3 := of_decide_eq_false h3
    refine WC.seq ?_
    refine WL.p Q0 (Yl.eqi Q0 Q0) ?_
    refine Qa ?_
    refine WL.next ?_
    refine WC.condS Q0 (fun h4 => ?_) (fun h4 => ?_)
    ·
     replace h4 := of_decide_eq_true h4
     refine WC.seq ?_
     refine Qm ?_
     refine WL.r Q0 (Yr.buildSlice hs sll34 Q0 Q0 Q0 Q4 Q0) ?_
     clear hs; rintro _ w ⟨b10, rfl, hb, hs⟩; clear hb
     replace hs := Sat.boxow (l := ([([108, 111, 103, 111] : Str), ([99, 100, 110, 47, 108, 111, 103, 111] : Str)] : List Str)) (hs.sel (D := [box b10 _ _]) Q2) rfl rfl (by decide) (ownL_mk_flat (lit_str Q0))
     try simp only [List.cons_append, List.nil_append] at hs
     refine WL.calld hs (T := 205) (b := b_) (c := c) Q2 Q0 (Yc.func Q0 fn102) (c_spec_l1Str c b_ (⟨[([108, 111, 103, 111] : Str), ([99, 100, 110, 47, 108, 111, 103, 111] : Str)], some ⟨b10, 0, none⟩, 2⟩ : Sl Str) _ (Apart.own (s := (⟨[([108, 111, 103, 111] : Str), ([99, 100, 110, 47, 108, 111, 103, 111] : Str)], some ⟨b10, 0, none⟩, 2⟩ : Sl Str)) (F := [b10]) hs Q2) (by exact Nat.succ_pos _) (hs.cur Q1) (Apart.now hb_c hs)) ?_
     clear hs; intro v w ho hR hs
     obtain ⟨x11, rfl, hokx11, hx11, hf11⟩ := hR
     clear ho hf11
     replace hx11 : x11 ∈ ([([108, 111, 103, 111] : Str), ([99, 100, 110, 47, 108, 111, 103, 111] : Str)] : List Str) := hx11
     have hn11 := mem_len 8 hx11 Q0
     refine WL.p Q0 (Yl.cat Q0 Q0 (by simp only [List.length_append, List.length_cons, List.length_nil] at *; omega)) ?_
     refine Qa ?_
     refine WL.next ?_
     refine WC.ret ?_
     refine At.blockret ?_
     refine At.thenret ?_
     refine fin1' rfl Q0 ?_
     refine RetD.mk hs Q1 ?_
     refine ⟨_, rfl, (by first | trivial | assumption | exact Flat.any (by assumption) | exact ⟨by omega, by omega⟩ | (show WfS _; unfold WfS; omega) | (show WfS _; unfold WfS; simp only [List.length_append, List.length_cons, List.length_nil] at *; omega) | (refine Ph.old ?_ hs; assumption)), ?_, ?_⟩
     ·
      repeat' apply And.intro
      all_goals (try dsimp only)
      all_goals first | trivial | assumption | omega | ((try simp only [List.length_append, List.length_cons, List.length_nil, lsz_app, lsz_one, lsz_cons, lsz_nil, TAddr.size, TResponse.size, TRequest.size, TPolicy.size, TEntry.size, TCache.size, strsz, TLine.size, TSent.size, TServer.size, TFile.size, List.map_append, List.map_cons, List.map_nil, PServer.lg, PPolicy.lg, PCache.lg] at *); first | omega | assumption)
     ·
      trivial
    ·
     replace h4 := of_decide_eq_false h4
     refine WC.seq ?_
     refine WL.p Q0 (Yl.eqi Q0 Q0) ?_
     refine Qa ?_
     refine WL.next ?_
     refine WC.condS Q0 (fun h5 => ?_) (fun h5 => ?_)
     ·
      replace h5 := of_decide_eq_true h5
      refine WC.seq ?_
      refine Qm ?_
      refine WL.r Q0 (Yr.buildSlice hs sll34 Q0 Q0 Q0 Q4 Q0) ?_
      clear hs; rintro _ w ⟨b12, rfl, hb, hs⟩; clear hb
      replace hs := Sat.boxow (l := ([([115, 116, 121, 108, 101] : Str), ([99, 100, 110, 47, 115, 116, 121, 108, 101] : Str)] : List Str)) (hs.sel (D := [box b12 _ _]) Q2) rfl rfl (by decide) (ownL_mk_flat (lit_str Q0))
      try simp only [List.cons_append, List.nil_append] at hs
      refine WL.calld hs (T := 205) (b := b_) (c := c) Q2 Q0 (Yc.func Q0 fn102) (c_spec_l1Str c b_ (⟨[([115, 116, 121, 108, 101] : Str), ([99, 100, 110, 47, 115, 116, 121, 108, 101] : Str)], some ⟨b12, 0, none⟩, 2⟩ : Sl Str) _ (Apart.own (s := (⟨[([115, 116, 121, 108, 101] : Str), ([99, 100, 110, 47, 115, 116, 121, 108, 101] : Str)], some ⟨b12, 0, none⟩, 2⟩ : Sl Str)) (F := [b12]) hs Q2) (by exact Nat.succ_pos _) (hs.cur Q1) (Apart.now hb_c hs)) ?_
      clear hs; intro v w ho hR hs
      obtain ⟨x13, rfl, hokx13, hx13, hf13⟩ := hR
      clear ho hf13
      replace hx13 : x13 ∈ ([([115, 116, 121, 108, 101] : Str), ([99, 100, 110, 47, 115, 116, 121, 108, 101] : Str)] : List Str) := hx13
      have hn13 := mem_len 9 hx13 Q0
      refine WL.p Q0 (Yl.cat Q0 Q0 (by simp only [List.length_append, List.length_cons, List.length_nil] at *; omega)) ?_
      refine Qa ?_
      refine WL.next ?_
      refine WC.ret ?_
      refine At.blockret ?_
      refine At.thenret ?_
      refine fin1' rfl Q0 ?_
      refine RetD.mk hs Q1 ?_
      refine ⟨_, rfl, (by first | trivial | assumption | exact Flat.any (by assumption) | exact ⟨by omega, by omega⟩ | (show WfS _; unfold WfS; omega) | (show WfS _; unfold WfS; simp only [List.length_append, List.length_cons, List.length_nil] at *; omega) | (refine Ph.old ?_ hs; assumption)), ?_, ?_⟩
      ·
       repeat' apply And.intro
       all_goals (try dsimp only)
       all_goals first | trivial | assumption | omega | ((try simp only [List.length_append, List.length_cons, List.length_nil, lsz_app, lsz_one, lsz_cons, lsz_nil, TAddr.size, TResponse.size, TRequest.size, TPolicy.size, TEntry.size, TCache.size, strsz, TLine.size, TSent.size, TServer.size, TFile.size, List.map_append, List.map_cons, List.map_nil, PServer.lg, PPolicy.lg, PCache.lg] at *); first | omega | assumption)
      ·
       trivial
     ·
      replace h5 := of_decide_eq_false h5
      refine WC.seq ?_
      refine WL.p Q0 (Yl.eqi Q0 Q0) ?_
      refine Qa ?_
      refine WL.next ?_
      refine WC.condS Q0 (fun h6 => ?_) (fun h6 => ?_)
      ·
       replace h6 := of_decide_eq_true h6
       refine WC.seq ?_
       refine Qm ?_
       refine WL.r Q0 (Yr.buildSlice hs sll34 Q0 Q0 Q0 Q4 Q0) ?_
       clear hs; rintro _ w ⟨b14, rfl, hb, hs⟩; clear hb
       replace hs := Sat.boxow (l := ([([112, 32, 97, 61, 98] : Str), ([] : Str), ([80] : Str), ([112, 32, 97] : Str), ([112, 32, 97, 61] : Str), ([112, 32, 32, 97, 61, 98] : Str), ([112, 32, 97, 61, 98, 32, 97, 61, 99] : Str), ([112, 32, 97, 61, 98, 32, 98, 61, 99, 32, 99, 61, 100, 32, 100, 61, 101, 32, 101, 61, 102] : Str), ([47] : Str), ([112, 32, 97, 61, 98, 61, 99] : Str)] : List Str)) (hs.sel (D := [box b14 _ _]) Q2) rfl rfl (by decide) (ownL_mk_flat (lit_str Q0))
       try simp only [List.cons_append, List.nil_append] at hs
       refine WL.calld hs (T := 205) (b := b_) (c := c) Q2 Q0 (Yc.func Q0 fn102) (c_spec_l1Str c b_ (⟨[([112, 32, 97, 61, 98] : Str), ([] : Str), ([80] : Str), ([112, 32, 97] : Str), ([112, 32, 97, 61] : Str), ([112, 32, 32, 97, 61, 98] : Str), ([112, 32, 97, 61, 98, 32, 97, 61, 99] : Str), ([112, 32, 97, 61, 98, 32, 98, 61, 99, 32, 99, 61, 100, 32, 100, 61, 101, 32, 101, 61, 102] : Str), ([47] : Str), ([112, 32, 97, 61, 98, 61, 99] : Str)], some ⟨b14, 0, none⟩, 10⟩ : Sl Str) _ (Apart.own (s := (⟨[([112, 32, 97, 61, 98] : Str), ([] : Str), ([80] : Str), ([112, 32, 97] : Str), ([112, 32, 97, 61] : Str), ([112, 32, 32, 97, 61, 98] : Str), ([112, 32, 97, 61, 98, 32, 97, 61, 99] : Str), ([112, 32, 97, 61, 98, 32, 98, 61, 99, 32, 99, 61, 100, 32, 100, 61, 101, 32, 101, 61, 102] : Str), ([47] : Str), ([112, 32, 97, 61, 98, 61, 99] : Str)], some ⟨b14, 0, none⟩, 10⟩ : Sl Str)) (F := [b14]) hs Q2) (by exact Nat.succ_pos _) (hs.cur Q1) (Apart.now hb_c hs)) ?_
       clear hs; intro v w ho hR hs
       obtain ⟨x15, rfl, hokx15, hx15, hf15⟩ := hR
       clear ho hf15
       replace hx15 : x15 ∈ ([([112, 32, 97, 61, 98] : Str), ([] : Str), ([80] : Str), ([112, 32, 97] : Str), ([112, 32, 97, 61] : Str), ([112, 32, 32, 97, 61, 98] : Str), ([112, 32, 97, 61, 98, 32, 97, 61, 99] : Str), ([112, 32, 97, 61, 98, 32, 98, 61, 99, 32, 99, 61, 100, 32, 100, 61, 101, 32, 101, 61, 102] : Str), ([47] : Str), ([112, 32, 97, 61, 98, 61, 99] : Str)] : List Str) := hx15
       have hn15 := mem_len 21 hx15 Q0
       refine Qa ?_
       refine WL.next ?_
       refine WC.ret ?_
       refine At.blockret ?_
       refine At.thenret ?_
       refine fin1' rfl Q0 ?_
       refine RetD.mk hs Q1 ?_
       refine ⟨_, rfl, (by first | exact (Flat.any hokx15) | trivial | assumption | exact Flat.any (by assumption) | exact ⟨by omega, by omega⟩ | (show WfS _; unfold WfS; omega) | (show WfS _; unfold WfS; simp only [List.length_append, List.length_cons, List.length_nil] at *; omega) | (refine Ph.old ?_ hs; assumption)), ?_, ?_⟩
       ·
        repeat' apply And.intro
        all_goals (try dsimp only)
        all_goals first | trivial | assumption | omega | ((try simp only [List.length_append, List.length_cons, List.length_nil, lsz_app, lsz_one, lsz_cons, lsz_nil, TAddr.size, TResponse.size, TRequest.size, TPolicy.size, TEntry.size, TCache.size, strsz, TLine.size, TSent.size, TServer.size, TFile.size, List.map_append, List.map_cons, List.map_nil, PServer.lg, PPolicy.lg, PCache.lg] at *); first | omega | assumption)
       ·
        trivial
      ·
       replace h6 := of_decide_eq_false h6
       refine WC.skip ?_
       refine At.blocknormal ?_
       refine At.then_ ?_
       refine WC.seq ?_
       refine Qm ?_
       refine WL.r Q0 (Yr.buildSlice hs sll34 Q0 Q0 Q0 Q4 Q0) ?_
       clear hs; rintro _ w ⟨b16, rfl, hb, hs⟩; clear hb
       replace hs := Sat.boxow (l := ([([112] : Str), ([98] : Str), ([112, 97, 103, 101] : Str), ([115, 99, 114, 105, 112, 116] : Str)] : List Str)) (hs.sel (D := [box b16 _ _]) Q2) rfl rfl (by decide) (ownL_mk_flat (lit_str Q0))
       try simp only [List.cons_append, List.nil_append] at hs
       refine WL.calld hs (T := 205) (b := b_) (c := c) Q2 Q0 (Yc.func Q0 fn102) (c_spec_l1Str c b_ (⟨[([112] : Str), ([98] : Str), ([112, 97, 103, 101] : Str), ([115, 99, 114, 105, 112, 116] : Str)], some ⟨b16, 0, none⟩, 4⟩ : Sl Str) _ (Apart.own (s := (⟨[([112] : Str), ([98] : Str), ([112, 97, 103, 101] : Str), ([115, 99, 114, 105, 112, 116] : Str)], some ⟨b16, 0, none⟩, 4⟩ : Sl Str)) (F := [b16]) hs Q2) (by exact Nat.succ_pos _) (hs.cur Q1) (Apart.now hb_c hs)) ?_
       clear hs; intro v w ho hR hs
       obtain ⟨x17, rfl, hokx17, hx17, hf17⟩ := hR
       clear ho hf17
       replace hx17 : x17 ∈ ([([112] : Str), ([98] : Str), ([112, 97, 103, 101] : Str), ([115, 99, 114, 105, 112, 116] : Str)] : List Str) := hx17
       have hn17 := mem_len 6 hx17 Q0
       refine Qa ?_
       refine WL.next ?_
       refine WC.ret ?_
       refine fin1' rfl Q0 ?_
       refine RetD.mk hs Q1 ?_
       refine ⟨_, rfl, (by first | exact (Flat.any hokx17) | trivial | assumption | exact Flat.any (by assumption) | exact ⟨by omega, by omega⟩ | (show WfS _; unfold WfS; omega) | (show WfS _; unfold WfS; simp only [List.length_append, List.length_cons, List.length_nil] at *; omega) | (refine Ph.old ?_ hs; assumption)), ?_, ?_⟩
       ·
        repeat' apply And.intro
        all_goals (try dsimp only)
        all_goals first | trivial | assumption | omega | ((try simp only [List.length_append, List.length_cons, List.length_nil, lsz_app, lsz_one, lsz_cons, lsz_nil, TAddr.size, TResponse.size, TRequest.size, TPolicy.size, TEntry.size, TCache.size, strsz, TLine.size, TSent.size, TServer.size, TFile.size, List.map_append, List.map_cons, List.map_nil, PServer.lg, PPolicy.lg, PCache.lg] at *); first | omega | assumption)
       ·
        trivial

theorem c_spec_l5Page (c : Nat) (b_ : Sl UInt8) (most : Int) (w : World)  (hm : 0 ≤ most ∧ most ≤ 10) (h_c : CurAt 205 b_ c w) (hb_c : CurB w b_ c) : Calls Tryz.prog 269 [bp c 0, I most].toArray w (RetD 205 b_ c w (fun v w' => ∃ (x : Str), v = S x ∧ (Ph.ok w' x) ∧ (x.length ≤ 44 * (most.toNat + 1)) ∧ True)) := by
 refine enterN 36 Tryz.func269 rfl rfl rfl ?_
 have hs := Sat.startC h_c
 refine WC.seq ?_
 refine Qa ?_
 refine WL.next ?_
 refine WC.seq ?_
 refine Qa ?_
 refine WL.next ?_
 refine WC.seq' ?_
 refine WC.seq ?_
 refine Qm ?_
 refine Qm ?_
 refine WL.p Q0 (Yl.add Q0 Q0 Q7) ?_
 refine WL.calld hs (T := 205) (b := b_) (c := c) Q2 Q0 (Yc.func Q0 fn118) (c_spec_l1Below c b_ _ _ (hs.cur Q1) (Apart.now hb_c hs)) ?_
 clear hs; intro v w ho hR hs
 obtain ⟨x1, rfl, hokx1, hx1, hf1⟩ := hR
 clear ho hf1
 refine Qa ?_
 refine WL.next ?_
 refine WC.block ?_
 refine WC.loopC (ι := Int × Str) (fun ⟨m, t⟩ => m.toNat) (fun ⟨m, t⟩ => [(5, S t), (6, I m)]) (fun _ => []) (fun ⟨m, t⟩ => 0 ≤ m ∧ m ≤ most ∧ (t.length : Int) ≤ (most - m) * 42) [(0, _), (1, _), (4, _)] (_, []) (hs) ⟨by rfl, by rfl, by rfl, trivial⟩ ⟨by rfl, by rfl, trivial⟩ ?_ ?_
 ·
  refine ⟨by omega, by omega, ?_⟩
  simp only [List.length_nil]; omega
 clear hs; rintro ⟨m, t⟩ w ⟨hJ1, hJ2, hJ3⟩ hs
 simp only [List.nil_append] at hs
 refine WC.seq' ?_
 refine WC.seq ?_
 refine Qm ?_
 refine WL.p Q0 (Yl.gtr Q0 Q0) ?_
 refine WL.next ?_
 refine WC.condS Q0 (fun h1 => ?_) (fun h1 => ?_)
 ·
  replace h1 := of_decide_eq_true h1
  have hwt : t.length ≤ 9223372036854775807 := by omega
  refine WC.skipn ?_
  refine WC.seq' ?_
  refine WC.block ?_
  refine WC.seq ?_
  refine Qm ?_
  refine WL.calld hs (T := 205) (b := b_) (c := c) Q2 Q0 (Yc.func Q0 fn100) (c_spec_l1Once c b_ _ _ (hs.cur Q1) (Apart.now hb_c hs)) ?_
  clear hs; intro v w ho hR hs
  obtain ⟨x2, rfl, _, hx2, hf2⟩ := hR
  clear ho hf2
  refine WL.next ?_
  refine WC.condS Q0 (fun h2 => ?_) (fun h2 => ?_)
  ·
   refine WC.region ?_
   refine Qm ?_
   refine Qm ?_
   refine WL.r Q0 (Yr.buildSlice hs sll34 Q0 Q0 Q0 Q4 Q0) ?_
   clear hs; rintro _ w ⟨b3, rfl, hb, hs⟩; clear hb
   replace hs := Sat.boxow (l := ([([104, 105] : Str), ([97, 32, 98] : Str), ([99, 111, 117, 110, 116] : Str), ([120, 62, 121] : Str), ([] : Str)] : List Str)) (hs.sel (D := [box b3 _ _]) Q2) rfl rfl (by decide) (ownL_mk_flat (lit_str Q0))
   try simp only [List.cons_append, List.nil_append] at hs
   refine WL.calld hs (T := 205) (b := b_) (c := c) Q2 Q0 (Yc.func Q0 fn102) (c_spec_l1Str c b_ (⟨[([104, 105] : Str), ([97, 32, 98] : Str), ([99, 111, 117, 110, 116] : Str), ([120, 62, 121] : Str), ([] : Str)], some ⟨b3, 0, none⟩, 5⟩ : Sl Str) _ (Apart.own (s := (⟨[([104, 105] : Str), ([97, 32, 98] : Str), ([99, 111, 117, 110, 116] : Str), ([120, 62, 121] : Str), ([] : Str)], some ⟨b3, 0, none⟩, 5⟩ : Sl Str)) (F := [b3]) hs Q2) (by exact Nat.succ_pos _) (hs.cur Q1) (Apart.now hb_c hs)) ?_
   clear hs; intro v w ho hR hs
   obtain ⟨x4, rfl, hokx4, hx4, hf4⟩ := hR
   clear ho hf4
   replace hx4 : x4 ∈ ([([104, 105] : Str), ([97, 32, 98] : Str), ([99, 111, 117, 110, 116] : Str), ([120, 62, 121] : Str), ([] : Str)] : List Str) := hx4
   have hn4 := mem_len 5 hx4 Q0
   refine WL.p Q0 (Yl.cat Q0 Q0 (by simp only [List.length_append, List.length_cons, List.length_nil] at *; omega)) ?_
   refine Qa ?_
   refine WL.nil ?_
   refine At.blocknormal ?_
   refine At.then_ ?_
   refine WC.region ?_
   refine Qm ?_
   refine WL.p Q0 (Yl.sub_ Q0 Q0 Q7) ?_
   refine Qa ?_
   refine WL.nil ?_
   refine At.roundC (_, _) (hs.only Q2) ⟨by rfl, by rfl, by rfl, trivial⟩ ⟨by rfl, by rfl, trivial⟩ ?_ ?_
   ·
    show (m - 1).toNat < m.toNat
    omega
   ·
    refine ⟨by omega, by omega, ?_⟩
    simp only [List.length_append, List.length_cons, List.length_nil] at *; omega
  ·
   refine WC.region ?_
   refine Qm ?_
   refine WL.p Q0 (Yl.cat Q0 Q0 (by simp only [List.length_append, List.length_cons, List.length_nil] at *; omega)) ?_
   refine Qm ?_
   refine WL.calld hs (T := 205) (b := b_) (c := c) Q2 Q0 (Yc.func Q0 fn324) (c_spec_l5Tag c b_ _ (hs.cur Q1) (Apart.now hb_c hs)) ?_
   clear hs; intro v w ho hR hs
   obtain ⟨x5, rfl, hokx5, hx5, hf5⟩ := hR
   clear ho hf5
   refine WL.p Q0 (Yl.cat Q0 Q0 (by simp only [List.length_append, List.length_cons, List.length_nil] at *; omega)) ?_
   refine WL.p Q0 (Yl.cat Q0 Q0 (by simp only [List.length_append, List.length_cons, List.length_nil] at *; omega)) ?_
   refine Qa ?_
   refine WL.nil ?_
   refine At.blocknormal ?_
   refine At.then_ ?_
   refine WC.region ?_
   refine Qm ?_
   refine WL.p Q0 (Yl.sub_ Q0 Q0 Q7) ?_
   refine Qa ?_
   refine WL.nil ?_
   refine At.roundC (_, _) (hs.only Q2) ⟨by rfl, by rfl, by rfl, trivial⟩ ⟨by rfl, by rfl, trivial⟩ ?_ ?_
   ·
    show (m - 1).toNat < m.toNat
    omega
   ·
    refine ⟨by omega, by omega, ?_⟩
    simp only [List.length_append, List.length_cons, List.length_nil] at *; omega
 ·
  replace h1 := of_decide_eq_false h1
  refine WC.exit ?_
  refine At.thenexit ?_
  refine At.thenexit ?_
  refine At.blockexit ?_
  refine At.then_ ?_
  refine WC.seq' ?_
  refine WC.seq ?_
  refine Qm ?_
  refine WL.calld hs (T := 205) (b := b_) (c := c) Q2 Q0 (Yc.func Q0 fn100) (c_spec_l1Once c b_ _ _ (hs.cur Q1) (Apart.now hb_c hs)) ?_
  clear hs; intro v w ho hR hs
  obtain ⟨x6, rfl, _, hx6, hf6⟩ := hR
  clear ho hf6
  refine WL.next ?_
  refine WC.condS Q0 (fun h2 => ?_) (fun h2 => ?_)
  ·
   refine WC.region ?_
   refine Qm ?_
   refine Qm ?_
   refine WL.r Q0 (Yr.buildSlice hs sll34 Q0 Q0 Q0 Q4 Q0) ?_
   clear hs; rintro _ w ⟨b7, rfl, hb, hs⟩; clear hb
   replace hs := Sat.boxow (l := ([([60, 112] : Str), ([60] : Str), ([101, 110, 100] : Str)] : List Str)) (hs.sel (D := [box b7 _ _]) Q2) rfl rfl (by decide) (ownL_mk_flat (lit_str Q0))
   try simp only [List.cons_append, List.nil_append] at hs
   refine WL.calld hs (T := 205) (b := b_) (c := c) Q2 Q0 (Yc.func Q0 fn102) (c_spec_l1Str c b_ (⟨[([60, 112] : Str), ([60] : Str), ([101, 110, 100] : Str)], some ⟨b7, 0, none⟩, 3⟩ : Sl Str) _ (Apart.own (s := (⟨[([60, 112] : Str), ([60] : Str), ([101, 110, 100] : Str)], some ⟨b7, 0, none⟩, 3⟩ : Sl Str)) (F := [b7]) hs Q2) (by exact Nat.succ_pos _) (hs.cur Q1) (Apart.now hb_c hs)) ?_
   clear hs; intro v w ho hR hs
   obtain ⟨x8, rfl, hokx8, hx8, hf8⟩ := hR
   clear ho hf8
   replace hx8 : x8 ∈ ([([60, 112] : Str), ([60] : Str), ([101, 110, 100] : Str)] : List Str) := hx8
   have hn8 := mem_len 3 hx8 Q0
   refine WL.p Q0 (Yl.cat Q0 Q0 (by simp only [List.length_append, List.length_cons, List.length_nil] at *; omega)) ?_
   refine Qa ?_
   refine WL.nil ?_
   refine At.then_ ?_
   refine WC.seq ?_
   refine Qm ?_
   refine Qa ?_
   refine WL.next ?_
   refine WC.ret ?_
   refine fin1' rfl Q0 ?_
   refine RetD.mk hs Q1 ?_
   refine ⟨_, rfl, (by first | trivial | assumption | exact Flat.any (by assumption) | exact ⟨by omega, by omega⟩ | (show WfS _; unfold WfS; omega) | (show WfS _; unfold WfS; simp only [List.length_append, List.length_cons, List.length_nil] at *; omega) | (refine Ph.old ?_ hs; assumption)), ?_, ?_⟩
   ·
    repeat' apply And.intro
    all_goals (try dsimp only)
    all_goals first | trivial | assumption | omega | ((try simp only [List.length_append, List.length_cons, List.length_nil, lsz_app, lsz_one, lsz_cons, lsz_nil, TAddr.size, TResponse.size, TRequest.size, TPolicy.size, TEntry.size, TCache.size, strsz, TLine.size, TSent.size, TServer.size, TFile.size, List.map_append, List.map_cons, List.map_nil, PServer.lg, PPolicy.lg, PCache.lg] at *); first | omega | assumption)
   ·
    trivial
  ·
   refine WC.skipn ?_
   refine WC.seq ?_
   refine Qm ?_
   refine Qa ?_
   refine WL.next ?_
   refine WC.ret ?_
   refine fin1' rfl Q0 ?_
   refine RetD.mk hs Q1 ?_
   refine ⟨_, rfl, (by first | exact (show WfS t from by unfold WfS; omega) | trivial | assumption | exact Flat.any (by assumption) | exact ⟨by omega, by omega⟩ | (show WfS _; unfold WfS; omega) | (show WfS _; unfold WfS; simp only [List.length_append, List.length_cons, List.length_nil] at *; omega) | (refine Ph.old ?_ hs; assumption)), ?_, ?_⟩
   ·
    repeat' apply And.intro
    all_goals (try dsimp only)
    all_goals first | trivial | assumption | omega | ((try simp only [List.length_append, List.length_cons, List.length_nil, lsz_app, lsz_one, lsz_cons, lsz_nil, TAddr.size, TResponse.size, TRequest.size, TPolicy.size, TEntry.size, TCache.size, strsz, TLine.size, TSent.size, TServer.size, TFile.size, List.map_append, List.map_cons, List.map_nil, PServer.lg, PPolicy.lg, PCache.lg] at *); first | omega | assumption)
   ·
    trivial

theorem c_spec_l10Body (c : Nat) (b_ : Sl UInt8) (kind : Int) (w : World)   (h_c : CurAt 205 b_ c w) (hb_c : CurB w b_ c) : Calls Tryz.prog 229 [bp c 0, I kind].toArray w (RetD 205 b_ c w (fun v w' => ∃ (x : Str), v = S x ∧ (Ph.ok w' x) ∧ (x.length ≤ 400) ∧ True)) := by
 refine enterN 27 Tryz.func229 rfl rfl rfl ?_
 have hs := Sat.startC h_c
 refine WC.seq ?_
 refine Qa ?_
 refine WL.next ?_
 refine WC.seq' ?_
 refine WC.seq ?_
 refine Qm ?_
 refine WL.next ?_
 refine WC.block ?_
 refine WC.seq ?_
 refine WL.p Q0 (Yl.eqi Q0 Q0) ?_
 refine Qa ?_
 refine WL.next ?_
 refine WC.condS Q0 (fun h1 => ?_) (fun h1 => ?_)
 ·
  replace h1 := of_decide_eq_true h1
  refine WC.seq ?_
  refine Qm ?_
  refine WL.calld hs (T := 205) (b := b_) (c := c) Q2 Q0 (Yc.func Q0 fn214) (c_spec_l8Text c b_ _ _ Q10 (hs.cur Q1) (Apart.now hb_c hs)) ?_
  clear hs; intro v w ho hR hs
  obtain ⟨x1, rfl, hokx1, hx1, hf1⟩ := hR
  clear ho hf1
  refine Qa ?_
  refine WL.next ?_
  refine WC.ret ?_
  refine At.blockret ?_
  refine At.thenret ?_
  refine fin1' rfl Q0 ?_
  refine RetD.mk hs Q1 ?_
  refine ⟨_, rfl, (by first | exact (Flat.any hokx1) | trivial | assumption | exact Flat.any (by assumption) | exact ⟨by omega, by omega⟩ | (show WfS _; unfold WfS; omega) | (show WfS _; unfold WfS; simp only [List.length_append, List.length_cons, List.length_nil] at *; omega) | (refine Ph.old ?_ hs; assumption)), ?_, ?_⟩
  ·
   repeat' apply And.intro
   all_goals (try dsimp only)
   all_goals first | trivial | assumption | omega | ((try simp only [List.length_append, List.length_cons, List.length_nil, lsz_app, lsz_one, lsz_cons, lsz_nil, TAddr.size, TResponse.size, TRequest.size, TPolicy.size, TEntry.size, TCache.size, strsz, TLine.size, TSent.size, TServer.size, TFile.size, List.map_append, List.map_cons, List.map_nil, PServer.lg, PPolicy.lg, PCache.lg] at *); first | omega | assumption)
  ·
   trivial
 ·
  replace h1 := of_decide_eq_false h1
  refine WC.seq ?_
  refine WL.p Q0 (Yl.eqi Q0 Q0) ?_
  refine Qa ?_
  refine WL.next ?_
  refine WC.condS Q0 (fun h2 => ?_) (fun h2 => ?_)
  ·
   replace h2 := of_decide_eq_true h2
   refine WC.seq ?_
   refine Qm ?_
   refine WL.calld hs (T := 205) (b := b_) (c := c) Q2 Q0 (Yc.func Q0 fn101) (c_spec_l7Text c b_ _ (hs.cur Q1) (Apart.now hb_c hs)) ?_
   clear hs; intro v w ho hR hs
   obtain ⟨x2, rfl, hokx2, hx2, hf2⟩ := hR
   clear ho hf2
   refine Qa ?_
   refine WL.next ?_
   refine WC.ret ?_
   refine At.blockret ?_
   refine At.thenret ?_
   refine fin1' rfl Q0 ?_
   refine RetD.mk hs Q1 ?_
   refine ⟨_, rfl, (by first | exact (Flat.any hokx2) | trivial | assumption | exact Flat.any (by assumption) | exact ⟨by omega, by omega⟩ | (show WfS _; unfold WfS; omega) | (show WfS _; unfold WfS; simp only [List.length_append, List.length_cons, List.length_nil] at *; omega) | (refine Ph.old ?_ hs; assumption)), ?_, ?_⟩
   ·
    repeat' apply And.intro
    all_goals (try dsimp only)
    all_goals first | trivial | assumption | omega | ((try simp only [List.length_append, List.length_cons, List.length_nil, lsz_app, lsz_one, lsz_cons, lsz_nil, TAddr.size, TResponse.size, TRequest.size, TPolicy.size, TEntry.size, TCache.size, strsz, TLine.size, TSent.size, TServer.size, TFile.size, List.map_append, List.map_cons, List.map_nil, PServer.lg, PPolicy.lg, PCache.lg] at *); first | omega | assumption)
   ·
    trivial
  ·
   replace h2 := of_decide_eq_false h2
   refine WC.seq ?_
   refine WL.p Q0 (Yl.eqi Q0 Q0) ?_
   refine Qa ?_
   refine WL.next ?_
   refine WC.condS Q0 (fun h3 => ?_) (fun h3 => ?_)
   ·
    replace h3 := of_decide_eq_true h3
    refine WC.seq ?_
    refine Qm ?_
    refine WL.r Q0 (Yr.buildSlice hs sll34 Q0 Q0 Q0 Q4 Q0) ?_
    clear hs; rintro _ w ⟨b3, rfl, hb, hs⟩; clear hb
    replace hs := Sat.boxow (l := ([([] : Str), ([105, 109, 112, 111, 114, 116, 32, 117, 116, 105, 108, 59] : Str), ([105, 109, 112, 111, 114, 116, 32, 108, 105, 98, 59] : Str), ([105, 109, 112, 111, 114, 116, 32, 99, 100, 110, 47, 108, 105, 98, 59] : Str), ([105, 109, 112, 111, 114, 116, 32, 97, 112, 112, 59, 105, 109, 112, 111, 114, 116, 32, 117, 116, 105, 108, 59] : Str)] : List Str)) (hs.sel (D := [box b3 _ _]) Q2) rfl rfl (by decide) (ownL_mk_flat (lit_str Q0))
    try simp only [List.cons_append, List.nil_append] at hs
    refine WL.calld hs (T := 205) (b := b_) (c := c) Q2 Q0 (Yc.func Q0 fn102) (c_spec_l1Str c b_ (⟨[([] : Str), ([105, 109, 112, 111, 114, 116, 32, 117, 116, 105, 108, 59] : Str), ([105, 109, 112, 111, 114, 116, 32, 108, 105, 98, 59] : Str), ([105, 109, 112, 111, 114, 116, 32, 99, 100, 110, 47, 108, 105, 98, 59] : Str), ([105, 109, 112, 111, 114, 116, 32, 97, 112, 112, 59, 105, 109, 112, 111, 114, 116, 32, 117, 116, 105, 108, 59] : Str)], some ⟨b3, 0, none⟩, 5⟩ : Sl Str) _ (Apart.own (s := (⟨[([] : Str), ([105, 109, 112, 111, 114, 116, 32, 117, 116, 105, 108, 59] : Str), ([105, 109, 112, 111, 114, 116, 32, 108, 105, 98, 59] : Str), ([105, 109, 112, 111, 114, 116, 32, 99, 100, 110, 47, 108, 105, 98, 59] : Str), ([105, 109, 112, 111, 114, 116, 32, 97, 112, 112, 59, 105, 109, 112, 111, 114, 116, 32, 117, 116, 105, 108, 59] : Str)], some ⟨b3, 0, none⟩, 5⟩ : Sl Str)) (F := [b3]) hs Q2) (by exact Nat.succ_pos _) (hs.cur Q1) (Apart.now hb_c hs)) ?_
    clear hs; intro v w ho hR hs
    obtain ⟨x4, rfl, hokx4, hx4, hf4⟩ := hR
    clear ho hf4
    replace hx4 : x4 ∈ ([([] : Str), ([105, 109, 112, 111, 114, 116, 32, 117, 116, 105, 108, 59] : Str), ([105, 109, 112, 111, 114, 116, 32, 108, 105, 98, 59] : Str), ([105, 109, 112, 111, 114, 116, 32, 99, 100, 110, 47, 108, 105, 98, 59] : Str), ([105, 109, 112, 111, 114, 116, 32, 97, 112, 112, 59, 105, 109, 112, 111, 114, 116, 32, 117, 116, 105, 108, 59] : Str)] : List Str) := hx4
    have hn4 := mem_len 23 hx4 Q0
    refine Qm ?_
    refine WL.r Q0 (Yr.buildSlice hs sll34 Q0 Q0 Q0 Q4 Q0) ?_
    clear hs; rintro _ w ⟨b5, rfl, hb, hs⟩; clear hb
    replace hs := Sat.boxow (l := ([([115, 97, 121, 32, 109] : Str), ([99, 111, 117, 110, 116, 32, 112] : Str), ([97, 100, 100, 32, 98] : Str), ([108, 111, 111, 107, 32, 112] : Str)] : List Str)) (hs.sel (D := [box b5 _ _]) Q2) rfl rfl (by decide) (ownL_mk_flat (lit_str Q0))
    try simp only [List.cons_append, List.nil_append] at hs
    refine WL.calld hs (T := 205) (b := b_) (c := c) Q2 Q0 (Yc.func Q0 fn102) (c_spec_l1Str c b_ (⟨[([115, 97, 121, 32, 109] : Str), ([99, 111, 117, 110, 116, 32, 112] : Str), ([97, 100, 100, 32, 98] : Str), ([108, 111, 111, 107, 32, 112] : Str)], some ⟨b5, 0, none⟩, 4⟩ : Sl Str) _ (Apart.own (s := (⟨[([115, 97, 121, 32, 109] : Str), ([99, 111, 117, 110, 116, 32, 112] : Str), ([97, 100, 100, 32, 98] : Str), ([108, 111, 111, 107, 32, 112] : Str)], some ⟨b5, 0, none⟩, 4⟩ : Sl Str)) (F := [b5]) hs Q2) (by exact Nat.succ_pos _) (hs.cur Q1) (Apart.now hb_c hs)) ?_
    clear hs; intro v w ho hR hs
    obtain ⟨x6, rfl, hokx6, hx6, hf6⟩ := hR
    clear ho hf6
    replace hx6 : x6 ∈ ([([115, 97, 121, 32, 109] : Str), ([99, 111, 117, 110, 116, 32, 112] : Str), ([97, 100, 100, 32, 98] : Str), ([108, 111, 111, 107, 32, 112] : Str)] : List Str) := hx6
    have hn6 := mem_len 7 hx6 Q0
    refine WL.p Q0 (Yl.cat Q0 Q0 (by simp only [List.length_append, List.length_cons, List.length_nil] at *; omega)) ?_
    refine Qa ?_
    refine WL.next ?_
    refine WC.ret ?_
    refine At.blockret ?_
    refine At.thenret ?_
    refine fin1' rfl Q0 ?_
    refine RetD.mk hs Q1 ?_
    refine ⟨_, rfl, (by first | trivial | assumption | exact Flat.any (by assumption) | exact ⟨by omega, by omega⟩ | (show WfS _; unfold WfS; omega) | (show WfS _; unfold WfS; simp only [List.length_append, List.length_cons, List.length_nil] at *; omega) | (refine Ph.old ?_ hs; assumption)), ?_, ?_⟩
    ·
     repeat' apply And.intro
     all_goals (try dsimp only)
     all_goals first | trivial | assumption | omega | ((try simp only [List.length_append, List.length_cons, List.length_nil, lsz_app, lsz_one, lsz_cons, lsz_nil, TAddr.size, TResponse.size, TRequest.size, TPolicy.size, TEntry.size, TCache.size, strsz, TLine.size, TSent.size, TServer.size, TFile.size, List.map_append, List.map_cons, List.map_nil, PServer.lg, PPolicy.lg, PCache.lg] at *); first | omega | assumption)
    ·
     trivial
   ·
    replace h3 := of_decide_eq_false h3
    refine WC.seq ?_
    refine WL.p Q0 (Yl.eqi Q0 Q0) ?_
    refine Qa ?_
    refine WL.next ?_
    refine WC.condS Q0 (fun h4 => ?_) (fun h4 => ?_)
    ·
     replace h4 := of_decide_eq_true h4
     refine WC.seq ?_
     refine Qa ?_
     refine WL.next ?_
     refine WC.ret ?_
     refine At.blockret ?_
     refine At.thenret ?_
     refine fin1' rfl Q0 ?_
     refine RetD.mk hs Q1 ?_
     refine ⟨_, rfl, (by first | exact (show WfS [112, 105, 120, 101, 108, 115] from (by unfold WfS; simp)) | trivial | assumption | exact Flat.any (by assumption) | exact ⟨by omega, by omega⟩ | (show WfS _; unfold WfS; omega) | (show WfS _; unfold WfS; simp only [List.length_append, List.length_cons, List.length_nil] at *; omega) | (refine Ph.old ?_ hs; assumption)), ?_, ?_⟩
     ·
      repeat' apply And.intro
      all_goals (try dsimp only)
      all_goals first | trivial | assumption | omega | ((try simp only [List.length_append, List.length_cons, List.length_nil, lsz_app, lsz_one, lsz_cons, lsz_nil, TAddr.size, TResponse.size, TRequest.size, TPolicy.size, TEntry.size, TCache.size, strsz, TLine.size, TSent.size, TServer.size, TFile.size, List.map_append, List.map_cons, List.map_nil, PServer.lg, PPolicy.lg, PCache.lg] at *); first | omega | assumption)
     ·
      trivial
    ·
     replace h4 := of_decide_eq_false h4
     refine WC.skip ?_
     refine At.blocknormal ?_
     refine At.then_ ?_
     refine WC.seq ?_
     refine Qm ?_
     refine WL.calld hs (T := 205) (b := b_) (c := c) Q2 Q0 (Yc.func Q0 fn269) (c_spec_l5Page c b_ _ _ Q10 (hs.cur Q1) (Apart.now hb_c hs)) ?_
     clear hs; intro v w ho hR hs
     obtain ⟨x7, rfl, hokx7, hx7, hf7⟩ := hR
     clear ho hf7
     refine Qa ?_
     refine WL.next ?_
     refine WC.ret ?_
     refine fin1' rfl Q0 ?_
     refine RetD.mk hs Q1 ?_
     refine ⟨_, rfl, (by first | exact (Flat.any hokx7) | trivial | assumption | exact Flat.any (by assumption) | exact ⟨by omega, by omega⟩ | (show WfS _; unfold WfS; omega) | (show WfS _; unfold WfS; simp only [List.length_append, List.length_cons, List.length_nil] at *; omega) | (refine Ph.old ?_ hs; assumption)), ?_, ?_⟩
     ·
      repeat' apply And.intro
      all_goals (try dsimp only)
      all_goals first | trivial | assumption | omega | ((try simp only [List.length_append, List.length_cons, List.length_nil, lsz_app, lsz_one, lsz_cons, lsz_nil, TAddr.size, TResponse.size, TRequest.size, TPolicy.size, TEntry.size, TCache.size, strsz, TLine.size, TSent.size, TServer.size, TFile.size, List.map_append, List.map_cons, List.map_nil, PServer.lg, PPolicy.lg, PCache.lg] at *); first | omega | assumption)
     ·
      trivial

theorem c_spec_l10Response (c : Nat) (b_ : Sl UInt8) (kind : Int) (w : World) (h_kind : Ph.ok w kind)  (h_c : CurAt 205 b_ c w) (hb_c : CurB w b_ c) : Calls Tryz.prog 158 [bp c 0, I kind].toArray w (RetD 205 b_ c w (fun v w' => ∃ (x : TResponse), v = .agg (Ph.enc x).toArray ∧ (Ph.ok w' x) ∧ (x.size ≤ 600 ∧ (1 ≤ kind → kind ≤ 5 → x.isv = true)) ∧ True)) := by
 refine enterN 23 Tryz.func158 rfl rfl rfl ?_
 have hs := Sat.startC h_c
 refine WC.seq ?_
 refine WL.r Q0 (Yr.alloc hs zt72) ?_
 clear hs; rintro _ w ⟨b1, rfl, hb, hs⟩; clear hb
 refine WL.next ?_
 refine WC.seq ?_
 refine Qm ?_
 refine Qm ?_
 refine Qm ?_
 refine WL.calld hs (T := 205) (b := b_) (c := c) Q2 Q0 (Yc.func Q0 fn229) (c_spec_l10Body c b_ _ _ (hs.cur Q1) (Apart.now hb_c hs)) ?_
 clear hs; intro v w ho hR hs
 obtain ⟨x2, rfl, hokx2, hx2, hf2⟩ := hR
 clear ho hf2
 refine Qm ?_
 refine WL.r Q0 (Yr.buildSlice hs sll62 Q0 Q0 Q0 Q4 Q0) ?_
 clear hs; rintro _ w ⟨b3, rfl, hb, hs⟩; clear hb
 replace hs := Sat.boxow (l := ([0, 5, 50] : List Int)) (hs.sel (D := [box b3 _ _]) Q2) rfl rfl (by decide) (ownL_mk_flat (lit_int Q0))
 try simp only [List.cons_append, List.nil_append] at hs
 refine WL.calld hs (T := 205) (b := b_) (c := c) Q2 Q0 (Yc.func Q0 fn88) (c_spec_l1Int c b_ (⟨[0, 5, 50], some ⟨b3, 0, none⟩, 3⟩ : Sl Int) _ (Apart.own (s := (⟨[0, 5, 50], some ⟨b3, 0, none⟩, 3⟩ : Sl Int)) (F := [b3]) hs Q2) (by exact Nat.succ_pos _) (hs.cur Q1) (Apart.now hb_c hs)) ?_
 clear hs; intro v w ho hR hs
 obtain ⟨x4, rfl, hokx4, hx4, hf4⟩ := hR
 clear ho hf4
 replace hx4 : x4 ∈ ([0, 5, 50] : List Int) := hx4
 have hn4 := mem_int (0) (50) hx4 Q0
 refine Qm ?_
 refine WL.calld hs (T := 205) (b := b_) (c := c) Q2 Q0 (Yc.func Q0 fn100) (c_spec_l1Once c b_ _ _ (hs.cur Q1) (Apart.now hb_c hs)) ?_
 clear hs; intro v w ho hR hs
 obtain ⟨x5, rfl, _, hx5, hf5⟩ := hR
 clear ho hf5
 refine WL.p Q0 (Yl.build bt72 Q0 Q4) ?_
 refine WL.r Q0 (Yr.alloc hs zt72) ?_
 clear hs; rintro _ w ⟨b6, rfl, hb, hs⟩; clear hb
 refine WL.s (Yr.storeB hs Q0 Q0 Q0 Q5 Q3 Q0 (by exact szf72)) ?_
 clear hs; rintro _ w hs
 refine WL.next ?_
 refine WC.seq' ?_
 refine WC.seq ?_
 refine Qm ?_
 refine WL.p Q0 (Yl.eqi Q0 Q0) ?_
 refine WL.next ?_
 refine WC.condS Q0 (fun h1 => ?_) (fun h1 => ?_)
 ·
  replace h1 := of_decide_eq_true h1
  refine WC.region ?_
  refine Qm ?_
  refine WL.calld hs (T := 205) (b := b_) (c := c) Q2 Q0 (Yc.func Q0 fn156) (c_spec_l9Policy c b_ _ (hs.cur Q1) (Apart.now hb_c hs)) ?_
  clear hs; intro v w ho hR hs
  obtain ⟨x7, rfl, _, hx7, hf7⟩ := hR
  obtain ⟨F7, hs⟩ := hs.addF ho hf7
  clear ho hf7
  refine WL.callp hs Q0 (Yc.func Q0 fn230) (c_spec_FormatPolicy _ _ (hs.okow (x := x7) (F := F7) Q1) Q7) ?_
  clear hs; intro w hs
  refine WL.p Q0 (Yl.fieldAddr fa72_5 Q0) ?_
  refine WL.s (Yr.storeB hs Q0 Q0 Q0 Q5 Q3 Q0 (by exact szf9)) ?_
  clear hs; rintro _ w hs
  refine WL.nil ?_
  refine At.then_ ?_
  refine WC.seq ?_
  refine WL.p Q0 (Yl.loadAB agg72 Q0 hs Q1 Q0 Q0) ?_
  refine WL.s (Yr.storeB hs Q0 Q0 Q0 Q5 Q3 Q0 (by exact szf72)) ?_
  clear hs; rintro _ w hs
  refine WL.next ?_
  refine WC.ret ?_
  refine fin1c rfl agg72 Q0 hs Q1 Q0 ?_
  have g1 := fmtPolicy_len x7.lg; have g2 := hx7.2; have g3 := (pol_round hx7.1).1
  refine RetD.mk hs Q1 ?_
  refine ⟨(⟨200, kind, x2, x4, x5, (fmtPolicy x7.lg)⟩ : TResponse), rfl, ⟨(by first | exact (show WfI 200 from ⟨by omega, by omega⟩) | trivial | assumption | exact Flat.any (by assumption) | exact ⟨by omega, by omega⟩ | (show WfS _; unfold WfS; omega) | (show WfS _; unfold WfS; simp only [List.length_append, List.length_cons, List.length_nil] at *; omega) | (refine Ph.old ?_ hs; assumption)), (by first | exact (Flat.any h_kind) | trivial | assumption | exact Flat.any (by assumption) | exact ⟨by omega, by omega⟩ | (show WfS _; unfold WfS; omega) | (show WfS _; unfold WfS; simp only [List.length_append, List.length_cons, List.length_nil] at *; omega) | (refine Ph.old ?_ hs; assumption)), (by first | exact (Flat.any hokx2) | trivial | assumption | exact Flat.any (by assumption) | exact ⟨by omega, by omega⟩ | (show WfS _; unfold WfS; omega) | (show WfS _; unfold WfS; simp only [List.length_append, List.length_cons, List.length_nil] at *; omega) | (refine Ph.old ?_ hs; assumption)), (by first | exact (Flat.any hokx4) | trivial | assumption | exact Flat.any (by assumption) | exact ⟨by omega, by omega⟩ | (show WfS _; unfold WfS; omega) | (show WfS _; unfold WfS; simp only [List.length_append, List.length_cons, List.length_nil] at *; omega) | (refine Ph.old ?_ hs; assumption)), (by first | trivial | assumption | exact Flat.any (by assumption) | exact ⟨by omega, by omega⟩ | (show WfS _; unfold WfS; omega) | (show WfS _; unfold WfS; simp only [List.length_append, List.length_cons, List.length_nil] at *; omega) | (refine Ph.old ?_ hs; assumption)), (by first | exact (show WfS _ from by unfold WfS; omega) | trivial | assumption | exact Flat.any (by assumption) | exact ⟨by omega, by omega⟩ | (show WfS _; unfold WfS; omega) | (show WfS _; unfold WfS; simp only [List.length_append, List.length_cons, List.length_nil] at *; omega) | (refine Ph.old ?_ hs; assumption))⟩, ?_, ?_⟩
  ·
   refine ⟨?_, fun hk1 hk2 => resp_isv ⟨hk1, hk2⟩ Q7 Q7 g3⟩
   simp only [TResponse.size, List.length_nil]; omega
  ·
   trivial
 ·
  replace h1 := of_decide_eq_false h1
  refine WC.skipn ?_
  refine WC.seq ?_
  refine WL.p Q0 (Yl.loadAB agg72 Q0 hs Q1 Q0 Q0) ?_
  refine WL.s (Yr.storeB hs Q0 Q0 Q0 Q5 Q3 Q0 (by exact szf72)) ?_
  clear hs; rintro _ w hs
  refine WL.next ?_
  refine WC.ret ?_
  refine fin1c rfl agg72 Q0 hs Q1 Q0 ?_
  refine RetD.mk hs Q1 ?_
  refine ⟨(⟨200, kind, x2, x4, x5, ([] : Str)⟩ : TResponse), rfl, ⟨(by first | exact (show WfI 200 from ⟨by omega, by omega⟩) | trivial | assumption | exact Flat.any (by assumption) | exact ⟨by omega, by omega⟩ | (show WfS _; unfold WfS; omega) | (show WfS _; unfold WfS; simp only [List.length_append, List.length_cons, List.length_nil] at *; omega) | (refine Ph.old ?_ hs; assumption)), (by first | exact (Flat.any h_kind) | trivial | assumption | exact Flat.any (by assumption) | exact ⟨by omega, by omega⟩ | (show WfS _; unfold WfS; omega) | (show WfS _; unfold WfS; simp only [List.length_append, List.length_cons, List.length_nil] at *; omega) | (refine Ph.old ?_ hs; assumption)), (by first | exact (Flat.any hokx2) | trivial | assumption | exact Flat.any (by assumption) | exact ⟨by omega, by omega⟩ | (show WfS _; unfold WfS; omega) | (show WfS _; unfold WfS; simp only [List.length_append, List.length_cons, List.length_nil] at *; omega) | (refine Ph.old ?_ hs; assumption)), (by first | exact (Flat.any hokx4) | trivial | assumption | exact Flat.any (by assumption) | exact ⟨by omega, by omega⟩ | (show WfS _; unfold WfS; omega) | (show WfS _; unfold WfS; simp only [List.length_append, List.length_cons, List.length_nil] at *; omega) | (refine Ph.old ?_ hs; assumption)), (by first | trivial | assumption | exact Flat.any (by assumption) | exact ⟨by omega, by omega⟩ | (show WfS _; unfold WfS; omega) | (show WfS _; unfold WfS; simp only [List.length_append, List.length_cons, List.length_nil] at *; omega) | (refine Ph.old ?_ hs; assumption)), (by first | exact (show WfS [] from Nat.zero_le _) | trivial | assumption | exact Flat.any (by assumption) | exact ⟨by omega, by omega⟩ | (show WfS _; unfold WfS; omega) | (show WfS _; unfold WfS; simp only [List.length_append, List.length_cons, List.length_nil] at *; omega) | (refine Ph.old ?_ hs; assumption))⟩, ?_, ?_⟩
  ·
   refine ⟨?_, fun hk1 hk2 => resp_isv ⟨hk1, hk2⟩ Q7 Q7 (policyIs_nil rfl)⟩
   simp only [TResponse.size, List.length_nil]; omega
  ·
   trivial

theorem c_spec_IsServer (s : PServer) (w : World) (h_s : Ph.ok w s) (hp : ∀ f ∈ s.files.l, f.response.policy.length ≤ 1048576) : Calls Tryz.prog 191 [.agg #[S s.host, Sl.v s.files]].toArray w (RetP w (Bo (serverOk s.lg))) := by
 have hw := h_s.files.lt
 refine enterN 57 Tryz.func191 rfl rfl rfl ?_
 have hs := Sat.start w
 refine WC.seq ?_
 refine WL.r Q0 (Yr.box hs Q0 Q0) ?_
 clear hs; rintro _ w ⟨b1, rfl, hb, hs⟩; clear hb
 refine Qa ?_
 refine WL.next ?_
 refine WC.seq' ?_
 refine WC.seq ?_
 refine Qa ?_
 refine WL.next ?_
 refine WC.block ?_
 refine WC.loopC (ι := Nat) (fun k => s.files.l.length - k) (fun k => [(3, I (k : Int))]) (fun _ => []) (fun k => uniqF fileOk sameFile [] s.files.l = uniqF fileOk sameFile (s.files.l.take k) (s.files.l.drop k)) [(0, _), (1, _)] 0 (hs) ⟨by rfl, by rfl, trivial⟩ ⟨by rfl, trivial⟩ ?_ ?_
 ·
  simp
 clear hs; rintro k w hJ hs
 simp only [List.nil_append] at hs
 refine WC.seq' ?_
 refine WC.seq ?_
 refine Qm ?_
 refine WL.p Q0 (Yl.fieldAddr fa216_1 Q0) ?_
 refine WL.p Q0 (Yl.loadB sca214 Q0 hs Q1 Q0) ?_
 refine WL.p Q0 (Yl.len_sl slu214 Q0) ?_
 refine WL.p Q0 (Yl.lss Q0 Q0) ?_
 refine WL.next ?_
 refine WC.condS Q0 (fun h1 => ?_) (fun h1 => ?_)
 ·
  replace h1 := of_decide_eq_true h1
  obtain ⟨d, hd⟩ := exists_get (l := s.files.l) (k := k) Q7
  rw [uniq_step hd] at hJ
  have hpd : d.response.policy.length ≤ 1048576 := hp d (List.mem_of_getElem? hd)
  refine WC.skipn ?_
  refine WC.seq' ?_
  refine WC.block ?_
  refine WC.seq' ?_
  refine WC.seq ?_
  refine WL.p Q0 (Yl.fieldAddr fa216_1 Q0) ?_
  refine WL.p Q0 (Yl.loadB sca214 Q0 hs Q1 Q0) ?_
  refine Qm ?_
  refine WL.p Q0 (Yl.indexAddr slt214 Q0 Q0 (Ph.old h_s.files hs) Q0 (hd)) ?_
  refine WL.p Q0 (Yl.fieldAddr fa219_0 Q0) ?_
  refine WL.p Q0 (Yl.loadC sca9 Q0 (Sl.Ok.at_ (Ph.old h_s.files hs) (by assumption)).2 Q0) ?_
  refine WL.callp hs Q0 (Yc.func Q0 fn110) (c_spec_IsName _ _ (Ph.old (Sl.Ok.elem h_s.files hd).path hs)) ?_
  clear hs; intro w hs
  refine WL.p Q0 (Yl.not Q0) ?_
  refine Qm ?_
  refine WL.split (d := 20) Q0 (fun h2 => ?_) (fun h2 => ?_)
  ·
   replace h2 := not_eq_true h2
   refine WL.skip (d := 20) Q0 Q0 Q0 Q0 ?_
   refine WL.skip (d := 20) Q0 Q0 Q0 Q0 ?_
   refine WL.skip (d := 20) Q0 Q0 Q0 Q0 ?_
   refine WL.skip (d := 20) Q0 Q0 Q0 Q0 ?_
   refine WL.skip (d := 20) Q0 Q0 Q0 Q0 ?_
   refine WL.skip (d := 20) Q0 Q0 Q0 Q0 ?_
   refine WL.skip (d := 20) Q0 Q0 Q0 Q0 ?_
   refine WL.skip (d := 20) Q0 Q0 Q0 Q0 ?_
   refine WL.p Q0 (Yl.pickT Q0 Q0) ?_
   refine WL.next ?_
   refine WC.condT Q0 ?_
   refine WC.seq ?_
   refine Qa ?_
   refine WL.next ?_
   refine WC.ret ?_
   refine At.thenret ?_
   refine At.blockret ?_
   refine At.thenret ?_
   refine At.thenret ?_
   refine At.blockret ?_
   refine At.thenret ?_
   refine fin1' rfl Q0 ?_
   refine RetP.mk hs ?_
   simp only [serverOk, filesOk]
   simp_all [fileOk, sameFile]
   try omega
  ·
   replace h2 := not_eq_false h2
   refine WL.run (d := 20) Q0 Q0 ?_
   refine WL.p Q0 (Yl.fieldAddr fa216_1 Q0) ?_
   refine WL.run (d := 20) Q0 Q0 ?_
   refine WL.p Q0 (Yl.loadB sca214 Q0 hs Q1 Q0) ?_
   refine WL.run (d := 20) Q0 Q0 ?_
   refine Qm ?_
   refine WL.run (d := 20) Q0 Q0 ?_
   refine WL.p Q0 (Yl.indexAddr slt214 Q0 Q0 (Ph.old h_s.files hs) Q0 (hd)) ?_
   refine WL.run (d := 20) Q0 Q0 ?_
   refine WL.p Q0 (Yl.fieldAddr fa219_1 Q0) ?_
   refine WL.run (d := 20) Q0 Q0 ?_
   refine WL.p Q0 (Yl.loadAC agg72 Q0 (Sl.Ok.at_ (Ph.old h_s.files hs) (by assumption)).2 Q0 Q0) ?_
   refine WL.run (d := 20) Q0 Q0 ?_
   refine WL.callp hs Q0 (Yc.func Q0 fn163) (c_spec_IsResponse _ _ ⟨(Ph.old (Sl.Ok.elem h_s.files hd).response.status hs), (Ph.old (Sl.Ok.elem h_s.files hd).response.kind hs), (Ph.old (Sl.Ok.elem h_s.files hd).response.body hs), (Ph.old (Sl.Ok.elem h_s.files hd).response.age hs), (Ph.old (Sl.Ok.elem h_s.files hd).response.shares hs), (Ph.old (Sl.Ok.elem h_s.files hd).response.policy hs)⟩ (by first | assumption | omega)) ?_
   clear hs; intro w hs
   refine WL.run (d := 20) Q0 Q0 ?_
   refine WL.p Q0 (Yl.not Q0) ?_
   refine WL.p Q0 (Yl.pickF Q0 Q0) ?_
   refine WL.next ?_
   refine WC.condS Q0 (fun h3 => ?_) (fun h3 => ?_)
   ·
    replace h3 := not_eq_true h3
    refine WC.seq ?_
    refine Qa ?_
    refine WL.next ?_
    refine WC.ret ?_
    refine At.thenret ?_
    refine At.blockret ?_
    refine At.thenret ?_
    refine At.thenret ?_
    refine At.blockret ?_
    refine At.thenret ?_
    refine fin1' rfl Q0 ?_
    refine RetP.mk hs ?_
    simp only [serverOk, filesOk]
    simp_all [fileOk, sameFile]
    try omega
   ·
    replace h3 := not_eq_false h3
    refine WC.skipn ?_
    refine WC.seq ?_
    refine Qa ?_
    refine WL.next ?_
    refine WC.block ?_
    refine WC.loopC (ι := Nat) (fun m => k - m) (fun m => [(4, I (m : Int))]) (fun _ => []) (fun m => (s.files.l.take k).any (sameFile d) = ((s.files.l.take k).drop m).any (sameFile d)) [(0, _), (1, _), (3, _), (9, _), (29, _)] 0 (hs) ⟨by rfl, by rfl, by rfl, by rfl, by rfl, trivial⟩ ⟨by rfl, trivial⟩ ?_ ?_
    ·
     simp
    clear hs; rintro m w hJ2 hs
    simp only [List.nil_append] at hs
    refine WC.seq' ?_
    refine WC.seq ?_
    refine Qm ?_
    refine Qm ?_
    refine WL.p Q0 (Yl.lss Q0 Q0) ?_
    refine WL.next ?_
    refine WC.condS Q0 (fun h4 => ?_) (fun h4 => ?_)
    ·
     replace h4 := of_decide_eq_true h4
     obtain ⟨d2, hd2⟩ := exists_get (l := s.files.l) (k := m) Q7
     have hd3 : (s.files.l.take k)[m]? = some d2 := by rw [List.getElem?_take_of_lt Q7]; exact hd2
     rw [drop_cons hd3, List.any_cons] at hJ2
     refine WC.skipn ?_
     refine WC.seq' ?_
     refine WC.block ?_
     refine WC.quietn mixed Q6 hs ?_
     refine WQ.p Q0 (fun w hs => Yl.fieldAddr fa216_1 Q0) ?_
     refine WQ.p Q0 (fun w hs => Yl.loadB sca214 Q0 hs Q1 Q0) ?_
     refine WQ.p Q0 (fun w hs => Yl.move Q0) ?_
     refine WQ.p Q0 (fun w hs => Yl.indexAddr slt214 Q0 Q0 (Ph.old h_s.files hs) Q0 (hd2)) ?_
     refine WQ.p Q0 (fun w hs => Yl.fieldAddr fa219_0 Q0) ?_
     refine WQ.p Q0 (fun w hs => Yl.loadC sca9 Q0 (Sl.Ok.at_ (Ph.old h_s.files hs) (by assumption)).2 Q0) ?_
     refine WQ.p Q0 (fun w hs => Yl.fieldAddr fa216_1 Q0) ?_
     refine WQ.p Q0 (fun w hs => Yl.loadB sca214 Q0 hs Q1 Q0) ?_
     refine WQ.p Q0 (fun w hs => Yl.move Q0) ?_
     refine WQ.p Q0 (fun w hs => Yl.indexAddr slt214 Q0 Q0 (Ph.old h_s.files hs) Q0 (hd)) ?_
     refine WQ.p Q0 (fun w hs => Yl.fieldAddr fa219_0 Q0) ?_
     refine WQ.p Q0 (fun w hs => Yl.loadC sca9 Q0 (Sl.Ok.at_ (Ph.old h_s.files hs) (by assumption)).2 Q0) ?_
     refine WQ.p Q0 (fun w hs => Yl.eqs Q0 Q0) ?_
     refine WQ.next ?_
     clear hs; intro w hs
     refine WC.condS Q0 (fun h5 => ?_) (fun h5 => ?_)
     ·
      replace h5 := of_decide_eq_true h5
      refine WC.seq ?_
      refine Qa ?_
      refine WL.next ?_
      refine WC.ret ?_
      refine At.blockret ?_
      refine At.thenret ?_
      refine At.thenret ?_
      refine At.blockret ?_
      refine At.blockret ?_
      refine At.thenret ?_
      refine At.thenret ?_
      refine At.blockret ?_
      refine At.thenret ?_
      refine fin1' rfl Q0 ?_
      refine RetP.mk hs ?_
      simp only [serverOk, filesOk]
      simp_all [fileOk, sameFile]
      try omega
     ·
      replace h5 := of_decide_eq_false h5
      refine WC.skip ?_
      refine At.blocknormal ?_
      refine At.then_ ?_
      refine WC.region ?_
      refine Qm ?_
      refine WL.p Q0 (Yl.add Q0 Q0 Q7) ?_
      refine Qa ?_
      refine WL.nil ?_
      refine At.roundC (m + 1) (hs.only Q2) ⟨by rfl, by rfl, by rfl, by rfl, by rfl, trivial⟩ ⟨by rfl, trivial⟩ ?_ ?_
      ·
       omega
      ·
       rw [hJ2]; simp_all [sameFile]
    ·
     replace h4 := of_decide_eq_false h4
     rw [drop_out (l := s.files.l.take k) (by simp; omega), List.any_nil] at hJ2
     refine WC.exit ?_
     refine At.thenexit ?_
     refine At.thenexit ?_
     refine At.blockexit ?_
     refine At.blocknormal ?_
     refine At.then_ ?_
     refine WC.region ?_
     refine Qm ?_
     refine WL.p Q0 (Yl.add Q0 Q0 Q7) ?_
     refine Qa ?_
     refine WL.nil ?_
     refine At.roundC (k + 1) (hs.only Q2) ⟨by rfl, by rfl, trivial⟩ ⟨by rfl, trivial⟩ ?_ ?_
     ·
      omega
     ·
      rw [hJ]; simp_all [fileOk]
 ·
  replace h1 := of_decide_eq_false h1
  rw [uniq_end (l := s.files.l) Q7] at hJ
  refine WC.exit ?_
  refine At.thenexit ?_
  refine At.thenexit ?_
  refine At.blockexit ?_
  refine At.then_ ?_
  refine WC.seq ?_
  refine WL.p Q0 (Yl.fieldAddr fa216_0 Q0) ?_
  refine WL.p Q0 (Yl.loadB sca9 Q0 hs Q1 Q0) ?_
  refine WL.callp hs Q0 (Yc.func Q0 fn110) (c_spec_IsName _ _ (Ph.old h_s.host hs)) ?_
  clear hs; intro w hs
  refine Qm ?_
  refine WL.split (d := 51) Q0 (fun h2 => ?_) (fun h2 => ?_)
  ·
   refine WL.run (d := 51) Q0 Q0 ?_
   refine WL.p Q0 (Yl.fieldAddr fa216_1 Q0) ?_
   refine WL.run (d := 51) Q0 Q0 ?_
   refine WL.p Q0 (Yl.loadB sca214 Q0 hs Q1 Q0) ?_
   refine WL.run (d := 51) Q0 Q0 ?_
   refine WL.p Q0 (Yl.len_sl slu214 Q0) ?_
   refine WL.run (d := 51) Q0 Q0 ?_
   refine WL.p Q0 (Yl.leq Q0 Q0) ?_
   refine WL.p Q0 (Yl.pickT Q0 Q0) ?_
   refine Qa ?_
   refine WL.next ?_
   refine WC.ret ?_
   refine fin1' rfl Q0 ?_
   refine RetP.mk hs ?_
   simp only [serverOk, filesOk]
   simp_all [fileOk, sameFile]
   try omega
  ·
   refine WL.skip (d := 51) Q0 Q0 Q0 Q0 ?_
   refine WL.skip (d := 51) Q0 Q0 Q0 Q0 ?_
   refine WL.skip (d := 51) Q0 Q0 Q0 Q0 ?_
   refine WL.skip (d := 51) Q0 Q0 Q0 Q0 ?_
   refine WL.p Q0 (Yl.pickF Q0 Q0) ?_
   refine Qa ?_
   refine WL.next ?_
   refine WC.ret ?_
   refine fin1' rfl Q0 ?_
   refine RetP.mk hs ?_
   simp only [serverOk, filesOk]
   simp_all [fileOk, sameFile]
   try omega

theorem c_spec_PutFile (l : (Sl PServer)) (a : TAddr) (y : TResponse) (w : World) (h_l : Ph.ok w l) (h_a : Ph.ok w a) (h_y : Ph.ok w y) (hbz : lsz TServer.size (l.l.map PServer.lg) ≤ 1048576) (hpy : y.policy.length ≤ 1048576) : Calls Tryz.prog 291 [Sl.v l, .agg #[S a.host, S a.path], .agg #[I y.status, I y.kind, S y.body, I y.age, Bo y.shares, S y.policy]].toArray w (Ret w (fun v w' => ∃ x : Sl PServer, v = .tuple #[x.v, Bo (putIs (l.l.map PServer.lg) a y)] ∧ x.l.map PServer.lg = putFile (l.l.map PServer.lg) a y ∧ Fresh w x w')) := by
 have hw := h_l.lt
 have hlz : l.l.length ≤ 1048576 := by simp only [lsz, List.length_map] at hbz; omega
 refine enterN 74 Tryz.func291 rfl rfl rfl ?_
 have hs := Sat.start w
 refine WC.seq ?_
 refine WL.r Q0 (Yr.box hs Q0 Q0) ?_
 clear hs; rintro _ w ⟨b1, rfl, hb, hs⟩; clear hb
 refine WL.r Q0 (Yr.box hs Q0 Q0) ?_
 clear hs; rintro _ w ⟨b2, rfl, hb, hs⟩; clear hb
 refine Qa ?_
 refine Qa ?_
 refine WL.next ?_
 refine WC.seq ?_
 refine Qm ?_
 refine WL.call hs Q0 (Yc.func Q0 fn186) (c_spec_l12Copy _ _ (Ph.old h_l hs) (by exact hbz)) ?_
 have hs0 := hs; clear hs; intro v w hb hR hs; clear hs
 obtain ⟨x3, rfl, hx3, hf3⟩ := hR
 obtain ⟨F3, hs⟩ := hf3.sat hs0 hb; clear hs0 hf3
 have hle3 := Sl.Ok.le (hs.okow (x := x3) (F := F3) Q1)
 refine Qa ?_
 refine WL.next ?_
 refine WC.seq ?_
 refine Qm ?_
 refine WL.p Q0 (Yl.fieldAddr fa39_0 Q0) ?_
 refine WL.p Q0 (Yl.loadB sca9 Q0 hs Q1 Q0) ?_
 refine WL.callp hs Q0 (Yc.func Q0 fn192) (c_spec_l12Server _ _ _ (Ph.old h_l hs)) ?_
 clear hs; intro w hs
 refine Qa ?_
 refine WL.next ?_
 refine WC.seq' ?_
 refine WC.seq ?_
 refine Qm ?_
 refine WL.p Q0 (Yl.lss Q0 Q0) ?_
 refine WL.next ?_
 refine WC.condS Q0 (fun h1 => ?_) (fun h1 => ?_)
 ·
  replace h1 := of_decide_eq_true h1
  have hlx : x3.l.length = l.l.length := by have h9 := congrArg List.length hx3; simpa using h9
  have hDp : ∀ f ∈ (PServer.lg (⟨a.host, ⟨[], none, 0⟩⟩ : PServer)).files, f.response.policy.length ≤ 1048576 := fun f hf => by cases hf
  have hdf : (⟨a.host, ⟨[], none, 0⟩⟩ : PServer).files.l.length ≤ 1048576 := Nat.zero_le _
  refine WC.seq ?_
  refine Qm ?_
  refine WL.p Q0 (Yl.len_sl slu24 Q0) ?_
  refine Qa ?_
  refine WL.next ?_
  refine WC.region ?_
  refine Qm ?_
  refine WL.p Q0 (Yl.fieldAddr fa39_0 Q0) ?_
  refine WL.p Q0 (Yl.loadB sca9 Q0 hs Q1 Q0) ?_
  refine WL.p Q0 (Yl.build bt216 Q0 Q4) ?_
  refine WL.r Q0 (Yr.buildSlice hs sll24 Q0 Q0 Q0 Q4 Q0) ?_
  clear hs; rintro _ w ⟨b4, rfl, hb, hs⟩; clear hb
  replace hs := Sat.nilsl (α := TFile) hs
  replace hs := PServer.join (⟨a.host, ⟨[], none, 0⟩⟩ : PServer) (hs.sel (D := [ow (⟨[], none, 0⟩ : (Sl TFile)) []]) Q2) (by first | exact (Ph.old h_a.host hs) | (refine Ph.old ?_ hs; assumption))
  try simp only [List.cons_append, List.nil_append] at hs
  refine WL.r Q0 (Yr.appendE (s := x3) (F := F3) (u := (⟨a.host, ⟨[], none, 0⟩⟩ : PServer)) (G := []) hs elt24 Q2 Q0 Q0 (hs.box_cells Q1) (by first | (rw [hlx]; unfold maxLen; omega) | (simp only [List.length_nil, List.length_singleton]; unfold maxLen; omega) | (simp; unfold maxLen; omega)) (by first | (rw [hlx]; omega) | omega | (simp only [List.length_nil, List.length_singleton]; omega) | (simp; omega))) ?_
  clear hs; rintro _ w ⟨s5, F5, rfl, hl5, hs⟩
  refine Qa ?_
  refine WL.nil ?_
  refine At.then_ ?_
  refine WC.seq' ?_
  refine WC.quietn mixed Q6 hs ?_
  refine WQ.p Q0 (fun w hs => Yl.move Q0) ?_
  refine WQ.p Q0 (fun w hs => Yl.move Q0) ?_
  refine WQ.p Q0 (fun w hs => Yl.indexAddr slt24 Q0 Q0 (hs.okow (x := s5) (F := F5) Q1) (by first | exact hj2 | exact hj | rfl | exact congrArg (fun n : Nat => (n : Int)) hlx) ((get_last hl5 hlx))) ?_
  refine WQ.p Q0 (fun w hs => Yl.loadA agg216 Q0 (Sl.Ok.at_ (hs.okow (x := s5) (F := F5) Q1) ((get_last hl5 hlx))).2 Q0) ?_
  refine WQ.p Q0 (fun w hs => Yl.fieldAddr fa39_1 Q0) ?_
  refine WQ.p Q0 (fun w hs => Yl.loadB sca9 Q0 hs Q1 Q0) ?_
  refine WQ.callp Q0 (fun w => Yc.func Q0 fn210) (fun w hs => (c_spec_l12File _ _ _ (Sl.Ok.elem (hs.okow (x := s5) (F := F5) Q1) (get_last hl5 hlx)))) (fun _ _ hs hb => hs.ext hb) ?_
  refine WQ.p Q0 (fun w hs => Yl.assign Q0) ?_
  refine WQ.next ?_
  clear hs; intro w hs
  refine WC.seq ?_
  refine Qm ?_
  refine WL.p Q0 (Yl.geq Q0 Q0) ?_
  refine WL.next ?_
  refine WC.condS Q0 (fun h2 => ?_) (fun h2 => ?_)
  ·
   replace h2 := of_decide_eq_true h2
   obtain ⟨j2, d2, hj2, hd2, hf2⟩ := idxF_some (Int.not_lt.2 h2)
   rw [Nat.zero_add] at hj2
   refine WC.anyX (K := [ow s5 F5]) mixed hs Q2 ?_
   clear hs; intro w hs
   refine WA.p (i := 0) Q0 Q6 Q6 Q6 Q0 (hs.only Q2) (fun w hs => Yl.move Q0) ?_
   refine WA.p (i := 1) Q0 Q6 Q6 Q6 Q0 (hs.only Q2) (fun w hs => Yl.move Q0) ?_
   have hadr500 := (Sl.Ok.at_ (hs.okow (x := s5) (F := F5) Q1) ((get_last hl5 hlx))).1
   refine WA.p (i := 2) Q0 Q6 Q6 Q6 Q0 (hs.only Q2) (fun w hs => Yl.indexAddrA slt24 Q0 Q0 hadr500 (by first | exact hj2 | exact hj | rfl | exact congrArg (fun n : Nat => (n : Int)) hlx) ((get_last hl5 hlx))) ?_
   refine WA.p (i := 3) Q0 Q6 Q6 Q6 Q0 (hs.only Q2) (fun w hs => Yl.fieldAddr fa216_1 Q0) ?_
   refine WA.p (i := 5) Q0 Q6 Q6 Q6 Q0 (hs.only Q2) (fun w hs => Yl.move Q0) ?_
   refine WA.p (i := 6) Q0 Q6 Q6 Q6 Q0 (hs.only Q2) (fun w hs => Yl.loadAB agg72 Q0 hs Q1 Q0 Q0) ?_
   refine WA.r (i := 4) Q6 Q0 Q0 (Yl.yr (Yl.loadC sca214 Q0 (Sl.Ok.at_ (hs.okow (x := s5) (F := F5) Q1) ((get_last hl5 hlx))).2 Q0)) (by rintro _ _ ⟨rfl, rfl⟩; exact hs.only Q2) ?_
   rintro _ _ ⟨rfl, rfl⟩
   have hadr501 := (Sl.Ok.at_ (Sl.Ok.elem (hs.okow (x := s5) (F := F5) Q1) (get_last hl5 hlx)).files (hd2)).1
   refine WA.p (i := 7) Q0 Q6 Q6 Q6 Q0 (hs.only Q2) (fun w hs => Yl.indexAddrA slt214 Q0 Q0 hadr501 (by first | exact hj2 | exact hj | rfl | exact congrArg (fun n : Nat => (n : Int)) hlx) (hd2)) ?_
   refine WA.p (i := 8) Q0 Q6 Q6 Q6 Q0 (hs.only Q2) (fun w hs => Yl.fieldAddr fa219_1 Q0) ?_
   obtain ⟨G6, B6, hs⟩ := Sat.lend (hs.sel (D := [ow s5 F5]) Q2) (get_last hl5 hlx)
   obtain ⟨K6, hfl6, hs⟩ := PServer.split hs
   try simp only [List.cons_append, List.nil_append] at hs
   have hel6 := Sl.Ok.elem (hs.okow (x := (⟨a.host, ⟨[], none, 0⟩⟩ : PServer).files) (F := K6) Q1) hd2
   refine WA.s (i := 9) Q6 Q0 (Yr.storeP (s := (⟨a.host, ⟨[], none, 0⟩⟩ : PServer).files) (F := K6) (d := d2) (u := (⟨d2.path, y⟩ : TFile)) (k := j2) (j := 1) hs Q2 Q0 Q0 Q0 hd2 ⟨_, by rfl, by rfl⟩ Q3 (by exact own_part_flat ⟨hel6.path, (by first | assumption | exact Flat.any (by assumption) | (refine Ph.old ?_ hs; assumption))⟩) Q0 (by exact szf72)) (by rintro _ w ⟨a6, _, rfl, hw6, hm6, _, hs⟩; exact hs.only Q2) ?_
   clear hs; rintro _ w ⟨a6, _, rfl, hw6, hm6, _, hs⟩
   replace hs := PServer.join (⟨(⟨a.host, ⟨[], none, 0⟩⟩ : PServer).host, a6⟩ : PServer) (hs.sel (D := [ow a6 K6]) Q2) (Flat.any hfl6.1)
   try simp only [List.cons_append, List.nil_append] at hs
   obtain ⟨s6, F6, hv6, hl6, hg6, hs⟩ := Sat.back (s := s5) (k := l.l.length) (d := (⟨a.host, ⟨[], none, 0⟩⟩ : PServer)) (hs.sel (D := [ow (⟨(⟨a.host, ⟨[], none, 0⟩⟩ : PServer).host, a6⟩ : PServer) K6, hl s5 l.l.length G6]) Q2) (get_last hl5 hlx) (by show [S (⟨(⟨a.host, ⟨[], none, 0⟩⟩ : PServer).host, a6⟩ : PServer).host, Sl.v a6] = [S (⟨a.host, ⟨[], none, 0⟩⟩ : PServer).host, Sl.v (⟨a.host, ⟨[], none, 0⟩⟩ : PServer).files]; rw [hw6])
   try simp only [List.cons_append, List.nil_append] at hs
   refine WA.done Q6 ?_
   refine At.then_ ?_
   refine WC.seq' ?_
   refine WC.seq ?_
   refine Qm ?_
   refine WL.p Q0 (Yl.len_sl slu24 Q0) ?_
   refine WL.p Q0 (Yl.gtr Q0 Q0) ?_
   refine Qm ?_
   refine WL.split (d := 63) Q0 (fun h3 => ?_) (fun h3 => ?_)
   ·
    replace h3 := of_decide_eq_true h3
    refine WL.skip (d := 63) Q0 Q0 Q0 Q0 ?_
    refine WL.skip (d := 63) Q0 Q0 Q0 Q0 ?_
    refine WL.skip (d := 63) Q0 Q0 Q0 Q0 ?_
    refine WL.skip (d := 63) Q0 Q0 Q0 Q0 ?_
    refine WL.skip (d := 63) Q0 Q0 Q0 Q0 ?_
    refine WL.skip (d := 63) Q0 Q0 Q0 Q0 ?_
    refine WL.p Q0 (Yl.pickT Q0 Q0) ?_
    refine WL.next ?_
    refine WC.condT Q0 ?_
    refine WC.seq ?_
    refine Qm ?_
    refine WL.call hs Q0 (Yc.func Q0 fn186) (c_spec_l12Copy _ _ (Ph.old h_l hs) (by exact hbz)) ?_
    have hs0 := hs; clear hs; intro v w hb hR hs; clear hs
    obtain ⟨x7, rfl, hx7, hf7⟩ := hR
    obtain ⟨F7, hs⟩ := hf7.sat hs0 hb; clear hs0 hf7
    have hle7 := Sl.Ok.le (hs.okow (x := x7) (F := F7) Q1)
    refine Qa ?_
    refine Qa ?_
    refine WL.next ?_
    refine WC.ret ?_
    refine At.thenret ?_
    refine fin2' rfl Q0 Q0 ?_
    refine Ret.mk hs ?_
    have hjL : idxF (onHost a.host) (l.l.map PServer.lg) 0 < 0 := by rw [idx_host]; exact h1
    have hw9 : s5.l.map PServer.lg = withHost (l.l.map PServer.lg) a.host := by rw [(host_new hjL).1, hl5, List.map_append, hx3]; rfl
    have hi9 : hostIx (l.l.map PServer.lg) a.host = l.l.length := by rw [(host_new hjL).2, List.length_map]
    have hd9 : s5.l[l.l.length]? = some (⟨a.host, ⟨[], none, 0⟩⟩ : PServer) := get_last hl5 hlx
    have hu9 : PServer.lg (⟨(⟨a.host, ⟨[], none, 0⟩⟩ : PServer).host, a6⟩ : PServer) = putOn (PServer.lg (⟨a.host, ⟨[], none, 0⟩⟩ : PServer)) a.path y := by
     rw [putOn_found (s := PServer.lg (⟨a.host, ⟨[], none, 0⟩⟩ : PServer)) hj2 hd2]
     simp only [PServer.lg, hm6]
    have hall9 : s6.l.map PServer.lg = putAll (l.l.map PServer.lg) a y := by rw [hl6]; exact put_all hw9 hi9 hd9 hu9
    have hpi9 := put_is hall9 hi9 hg6
    have hln9 : s6.l.length = s5.l.length := by rw [hl6, List.length_set]
    rw [hln9] at hpi9
    have hb9 : putIs (l.l.map PServer.lg) a y = false := by
     clear hs
     rw [hpi9]
     first
      | (simp_all; done)
      | (simp_all; omega)
      | (rw [Bool.and_eq_false_iff]; left; exact decide_eq_false Q7)
      | (rw [Bool.and_eq_true]; exact ⟨decide_eq_true Q7, by simp_all⟩)
      | (rw [Bool.and_eq_false_iff]; right; simp_all)
    exact ⟨x7, by rw [hb9], hx7.trans (putFile_no hb9).symm, hs.fresh Q1⟩
   ·
    replace h3 := of_decide_eq_false h3
    refine WL.run (d := 63) Q0 Q0 ?_
    refine Qm ?_
    refine WL.run (d := 63) Q0 Q0 ?_
    refine Qm ?_
    refine WL.run (d := 63) Q0 Q0 ?_
    refine WL.p Q0 (Yl.indexAddrV slt24 Q0 hv6 Q0 (hs.okow (x := s6) (F := F6) Q1) (by first | exact hj2 | exact hj | rfl | exact congrArg (fun n : Nat => (n : Int)) hlx) (hg6)) ?_
    refine WL.run (d := 63) Q0 Q0 ?_
    refine WL.p Q0 (Yl.loadA agg216 Q0 (Sl.Ok.at_ (hs.okow (x := s6) (F := F6) Q1) (by assumption)).2 Q0) ?_
    refine WL.run (d := 63) Q0 Q0 ?_
    have hjL : idxF (onHost a.host) (l.l.map PServer.lg) 0 < 0 := by rw [idx_host]; exact h1
    have hw9 : s5.l.map PServer.lg = withHost (l.l.map PServer.lg) a.host := by rw [(host_new hjL).1, hl5, List.map_append, hx3]; rfl
    have hi9 : hostIx (l.l.map PServer.lg) a.host = l.l.length := by rw [(host_new hjL).2, List.length_map]
    have hd9 : s5.l[l.l.length]? = some (⟨a.host, ⟨[], none, 0⟩⟩ : PServer) := get_last hl5 hlx
    have hu9 : PServer.lg (⟨(⟨a.host, ⟨[], none, 0⟩⟩ : PServer).host, a6⟩ : PServer) = putOn (PServer.lg (⟨a.host, ⟨[], none, 0⟩⟩ : PServer)) a.path y := by
     rw [putOn_found (s := PServer.lg (⟨a.host, ⟨[], none, 0⟩⟩ : PServer)) hj2 hd2]
     simp only [PServer.lg, hm6]
    have hall9 : s6.l.map PServer.lg = putAll (l.l.map PServer.lg) a y := by rw [hl6]; exact put_all hw9 hi9 hd9 hu9
    have hpi9 := put_is hall9 hi9 hg6
    have hln9 : s6.l.length = s5.l.length := by rw [hl6, List.length_set]
    rw [hln9] at hpi9
    refine WL.callp hs Q0 (Yc.func Q0 fn191) (c_spec_IsServer _ _ (Sl.Ok.elem (hs.okow (x := s6) (F := F6) Q1) hg6) (by show ∀ f ∈ (PServer.lg _).files, _; rw [hu9]; exact putOn_pol hDp hpy)) ?_
    clear hs; intro w hs
    refine WL.run (d := 63) Q0 Q0 ?_
    refine WL.p Q0 (Yl.not Q0) ?_
    refine WL.p Q0 (Yl.pickF Q0 Q0) ?_
    refine WL.next ?_
    refine WC.condS Q0 (fun h4 => ?_) (fun h4 => ?_)
    ·
     replace h4 := not_eq_true h4
     refine WC.seq ?_
     refine Qm ?_
     refine WL.call hs Q0 (Yc.func Q0 fn186) (c_spec_l12Copy _ _ (Ph.old h_l hs) (by exact hbz)) ?_
     have hs0 := hs; clear hs; intro v w hb hR hs; clear hs
     obtain ⟨x8, rfl, hx8, hf8⟩ := hR
     obtain ⟨F8, hs⟩ := hf8.sat hs0 hb; clear hs0 hf8
     have hle8 := Sl.Ok.le (hs.okow (x := x8) (F := F8) Q1)
     refine Qa ?_
     refine Qa ?_
     refine WL.next ?_
     refine WC.ret ?_
     refine At.thenret ?_
     refine fin2' rfl Q0 Q0 ?_
     refine Ret.mk hs ?_
     have hjL : idxF (onHost a.host) (l.l.map PServer.lg) 0 < 0 := by rw [idx_host]; exact h1
     have hw9 : s5.l.map PServer.lg = withHost (l.l.map PServer.lg) a.host := by rw [(host_new hjL).1, hl5, List.map_append, hx3]; rfl
     have hi9 : hostIx (l.l.map PServer.lg) a.host = l.l.length := by rw [(host_new hjL).2, List.length_map]
     have hd9 : s5.l[l.l.length]? = some (⟨a.host, ⟨[], none, 0⟩⟩ : PServer) := get_last hl5 hlx
     have hu9 : PServer.lg (⟨(⟨a.host, ⟨[], none, 0⟩⟩ : PServer).host, a6⟩ : PServer) = putOn (PServer.lg (⟨a.host, ⟨[], none, 0⟩⟩ : PServer)) a.path y := by
      rw [putOn_found (s := PServer.lg (⟨a.host, ⟨[], none, 0⟩⟩ : PServer)) hj2 hd2]
      simp only [PServer.lg, hm6]
     have hall9 : s6.l.map PServer.lg = putAll (l.l.map PServer.lg) a y := by rw [hl6]; exact put_all hw9 hi9 hd9 hu9
     have hpi9 := put_is hall9 hi9 hg6
     have hln9 : s6.l.length = s5.l.length := by rw [hl6, List.length_set]
     rw [hln9] at hpi9
     have hb9 : putIs (l.l.map PServer.lg) a y = false := by
      clear hs
      rw [hpi9]
      first
       | (simp_all; done)
       | (simp_all; omega)
       | (rw [Bool.and_eq_false_iff]; left; exact decide_eq_false Q7)
       | (rw [Bool.and_eq_true]; exact ⟨decide_eq_true Q7, by simp_all⟩)
       | (rw [Bool.and_eq_false_iff]; right; simp_all)
     exact ⟨x8, by rw [hb9], hx8.trans (putFile_no hb9).symm, hs.fresh Q1⟩
    ·
     replace h4 := not_eq_false h4
     refine WC.skipn ?_
     refine WC.seq ?_
     refine Qm ?_
     refine Qa ?_
     refine Qa ?_
     refine WL.next ?_
     refine WC.ret ?_
     refine fin2' rfl Q0 Q0 ?_
     refine Ret.mk hs ?_
     have hjL : idxF (onHost a.host) (l.l.map PServer.lg) 0 < 0 := by rw [idx_host]; exact h1
     have hw9 : s5.l.map PServer.lg = withHost (l.l.map PServer.lg) a.host := by rw [(host_new hjL).1, hl5, List.map_append, hx3]; rfl
     have hi9 : hostIx (l.l.map PServer.lg) a.host = l.l.length := by rw [(host_new hjL).2, List.length_map]
     have hd9 : s5.l[l.l.length]? = some (⟨a.host, ⟨[], none, 0⟩⟩ : PServer) := get_last hl5 hlx
     have hu9 : PServer.lg (⟨(⟨a.host, ⟨[], none, 0⟩⟩ : PServer).host, a6⟩ : PServer) = putOn (PServer.lg (⟨a.host, ⟨[], none, 0⟩⟩ : PServer)) a.path y := by
      rw [putOn_found (s := PServer.lg (⟨a.host, ⟨[], none, 0⟩⟩ : PServer)) hj2 hd2]
      simp only [PServer.lg, hm6]
     have hall9 : s6.l.map PServer.lg = putAll (l.l.map PServer.lg) a y := by rw [hl6]; exact put_all hw9 hi9 hd9 hu9
     have hpi9 := put_is hall9 hi9 hg6
     have hln9 : s6.l.length = s5.l.length := by rw [hl6, List.length_set]
     rw [hln9] at hpi9
     have hb9 : putIs (l.l.map PServer.lg) a y = true := by
      clear hs
      rw [hpi9]
      first
       | (simp_all; done)
       | (simp_all; omega)
       | (rw [Bool.and_eq_false_iff]; left; exact decide_eq_false Q7)
       | (rw [Bool.and_eq_true]; exact ⟨decide_eq_true Q7, by simp_all⟩)
       | (rw [Bool.and_eq_false_iff]; right; simp_all)
     exact ⟨s6, by rw [hb9]; exact congrArg (fun z => Value.tuple #[z, Bo true]) (hv6).symm, hall9.trans (putFile_yes hb9).symm, hs.fresh Q1⟩
  ·
   replace h2 := of_decide_eq_false h2
   refine WC.anyX (K := [ow s5 F5]) mixed hs Q2 ?_
   clear hs; intro w hs
   refine WA.p (i := 0) Q0 Q6 Q6 Q6 Q0 (hs.only Q2) (fun w hs => Yl.move Q0) ?_
   refine WA.p (i := 1) Q0 Q6 Q6 Q6 Q0 (hs.only Q2) (fun w hs => Yl.move Q0) ?_
   refine WA.p (i := 2) Q0 Q6 Q6 Q6 Q0 (hs.only Q2) (fun w hs => Yl.move Q0) ?_
   refine WA.p (i := 3) Q0 Q6 Q6 Q6 Q0 (hs.only Q2) (fun w hs => Yl.move Q0) ?_
   have hadr800 := (Sl.Ok.at_ (hs.okow (x := s5) (F := F5) Q1) ((get_last hl5 hlx))).1
   refine WA.p (i := 4) Q0 Q6 Q6 Q6 Q0 (hs.only Q2) (fun w hs => Yl.indexAddrA slt24 Q0 Q0 hadr800 (by first | exact hj2 | exact hj | rfl | exact congrArg (fun n : Nat => (n : Int)) hlx) ((get_last hl5 hlx))) ?_
   refine WA.p (i := 5) Q0 Q6 Q6 Q6 Q0 (hs.only Q2) (fun w hs => Yl.fieldAddr fa216_1 Q0) ?_
   refine WA.p (i := 7) Q0 Q6 Q6 Q6 Q0 (hs.only Q2) (fun w hs => Yl.fieldAddr fa39_1 Q0) ?_
   refine WA.p (i := 8) Q0 Q6 Q6 Q6 Q0 (hs.only Q2) (fun w hs => Yl.loadB sca9 Q0 hs Q1 Q0) ?_
   refine WA.p (i := 9) Q0 Q6 Q6 Q6 Q0 (hs.only Q2) (fun w hs => Yl.loadAB agg72 Q0 hs Q1 Q0 Q0) ?_
   refine WA.p (i := 10) Q0 Q6 Q6 Q6 Q0 (hs.only Q2) (fun w hs => Yl.build bt219 Q0 Q4) ?_
   refine WA.dag' [(⟨6, 51, [], (fun _ v cs => v = Sl.v (⟨a.host, ⟨[], none, 0⟩⟩ : PServer).files ∧ cs = [])⟩, []), (⟨11, 56, [], (fun _ v cs => ∃ b, v = .slice (some ⟨b, 0, none⟩) 1 1 ∧ cs = [box b 219 ((Ph.enc ((⟨a.path, y⟩ : TFile))))])⟩, [])] [false, false] [(0, _), (1, _), (2, _), (4, _), (5, _), (6, _), (7, _), (8, _), (9, _), (10, _), (11, _), (12, _), (13, _), (14, _), (15, _), (16, _), (17, _), (18, _), (19, _), (20, _), (21, _), (22, _), (23, _), (24, _), (25, _), (26, _), (27, _), (28, _), (29, _), (30, _), (31, _), (32, _), (33, _), (34, _), (35, _), (45, _), (46, _), (47, _), (48, _), (49, _), (50, _), (52, _), (53, _), (54, _), (55, _)] ⟨by rfl, by rfl, by rfl, by rfl, by rfl, by rfl, by rfl, by rfl, by rfl, by rfl, by rfl, by rfl, by rfl, by rfl, by rfl, by rfl, by rfl, by rfl, by rfl, by rfl, by rfl, by rfl, by rfl, by rfl, by rfl, by rfl, by rfl, by rfl, by rfl, by rfl, by rfl, by rfl, by rfl, by rfl, by rfl, by rfl, by rfl, by rfl, by rfl, by rfl, by rfl, by rfl, by rfl, by rfl, by rfl, trivial⟩ Q0 Q6 Q6 Q6 Q6 Q6 Q6 Q6 Q6 (fun _ hs => hs.only Q2) hs (fuel := 4) ⟨⟨local_const, ?_⟩, ⟨local_const, ?_⟩, trivial⟩ ?_
   ·
    clear hs
    intro w R hs
    simp only [List.cons_append, List.nil_append] at hs
    exact Gives.p' Q0 (Yl.loadC sca214 Q0 (Sl.Ok.at_ (hs.okow (x := s5) (F := F5) Q1) ((get_last hl5 hlx))).2 Q0) ⟨[], ⟨rfl, rfl⟩, hs⟩
   ·
    clear hs
    intro w R hs
    simp only [List.cons_append, List.nil_append] at hs
    exact Gives.rr' Q0 (Yr.buildSlice hs sll214 Q0 Q0 Q0 Q4 Q0) (fun _ _ ⟨b, hv, _, hs1⟩ => ⟨[box b 219 ((Ph.enc ((⟨a.path, y⟩ : TFile))))], ⟨b, hv, rfl⟩, hs1⟩)
   clear hs
   rintro _ _ ⟨rfl, rfl⟩
   rintro _ _ ⟨b10, rfl, rfl⟩
   intro w hs
   simp only [List.cons_append, List.nil_append, cond_true, cond_false] at hs
   obtain ⟨G11, B11, hs⟩ := Sat.lend (hs.sel (D := [ow s5 F5]) Q2) (get_last hl5 hlx)
   obtain ⟨K11, hfl11, hs⟩ := PServer.split hs
   try simp only [List.cons_append, List.nil_append] at hs
   refine WA.r (i := 12) Q6 Q0 Q0 (Yr.append (s := (⟨a.host, ⟨[], none, 0⟩⟩ : PServer).files) (F := K11) hs elt214 Q2 Q0 Q0 rfl (xs := [(⟨a.path, y⟩ : TFile)]) (hs.box_cells Q1) (by intro x hx; obtain rfl := List.mem_singleton.1 hx; exact ⟨Flat.any h_a.path, Flat.any h_y⟩) (by first | (rw [hlx]; unfold maxLen; omega) | (simp only [List.length_nil, List.length_singleton]; unfold maxLen; omega) | (simp; unfold maxLen; omega)) (by first | (rw [hlx]; omega) | omega | (simp only [List.length_nil, List.length_singleton]; omega) | (simp; omega))) (by rintro _ w ⟨s12, F12, rfl, hl12, hs⟩; exact hs.only Q2) ?_
   clear hs; rintro _ w ⟨s12, F12, rfl, hl12, hs⟩
   refine WA.p (i := 13) Q0 Q6 Q6 Q6 Q0 (hs.only Q2) (fun w hs => Yl.indexAddrA slt24 Q0 Q0 hadr800 (by first | exact hj2 | exact hj | rfl | exact congrArg (fun n : Nat => (n : Int)) hlx) ((get_last hl5 hlx))) ?_
   refine WA.p (i := 14) Q0 Q6 Q6 Q6 Q0 (hs.only Q2) (fun w hs => Yl.fieldAddr fa216_1 Q0) ?_
   replace hs := PServer.join (⟨(⟨a.host, ⟨[], none, 0⟩⟩ : PServer).host, s12⟩ : PServer) (hs.sel (D := [ow s12 F12]) Q2) (Flat.any hfl11.1)
   try simp only [List.cons_append, List.nil_append] at hs
   refine WA.s (i := 15) Q6 Q0 (Yr.storeHole (s := s5) (G := G11) (B := F12) (d := (⟨a.host, ⟨[], none, 0⟩⟩ : PServer)) (u := (⟨(⟨a.host, ⟨[], none, 0⟩⟩ : PServer).host, s12⟩ : PServer)) (k := l.l.length) (j := 1) hs Q2 Q0 Q0 Q0 (get_last hl5 hlx) ⟨_, by rfl, by rfl⟩ Q3 Q0 (by exact szf214)) (by rintro _ w ⟨s13, F13, hv13, hl13, hg13, hs⟩; exact hs.only Q2) ?_
   clear hs; rintro _ w ⟨s13, F13, hv13, hl13, hg13, hs⟩
   refine WA.done Q6 ?_
   refine At.then_ ?_
   refine WC.seq' ?_
   refine WC.seq ?_
   refine Qm ?_
   refine WL.p Q0 (Yl.len_sl slu24 Q0) ?_
   refine WL.p Q0 (Yl.gtr Q0 Q0) ?_
   refine Qm ?_
   refine WL.split (d := 63) Q0 (fun h3 => ?_) (fun h3 => ?_)
   ·
    replace h3 := of_decide_eq_true h3
    refine WL.skip (d := 63) Q0 Q0 Q0 Q0 ?_
    refine WL.skip (d := 63) Q0 Q0 Q0 Q0 ?_
    refine WL.skip (d := 63) Q0 Q0 Q0 Q0 ?_
    refine WL.skip (d := 63) Q0 Q0 Q0 Q0 ?_
    refine WL.skip (d := 63) Q0 Q0 Q0 Q0 ?_
    refine WL.skip (d := 63) Q0 Q0 Q0 Q0 ?_
    refine WL.p Q0 (Yl.pickT Q0 Q0) ?_
    refine WL.next ?_
    refine WC.condT Q0 ?_
    refine WC.seq ?_
    refine Qm ?_
    refine WL.call hs Q0 (Yc.func Q0 fn186) (c_spec_l12Copy _ _ (Ph.old h_l hs) (by exact hbz)) ?_
    have hs0 := hs; clear hs; intro v w hb hR hs; clear hs
    obtain ⟨x14, rfl, hx14, hf14⟩ := hR
    obtain ⟨F14, hs⟩ := hf14.sat hs0 hb; clear hs0 hf14
    have hle14 := Sl.Ok.le (hs.okow (x := x14) (F := F14) Q1)
    refine Qa ?_
    refine Qa ?_
    refine WL.next ?_
    refine WC.ret ?_
    refine At.thenret ?_
    refine fin2' rfl Q0 Q0 ?_
    refine Ret.mk hs ?_
    have hjL : idxF (onHost a.host) (l.l.map PServer.lg) 0 < 0 := by rw [idx_host]; exact h1
    have hw9 : s5.l.map PServer.lg = withHost (l.l.map PServer.lg) a.host := by rw [(host_new hjL).1, hl5, List.map_append, hx3]; rfl
    have hi9 : hostIx (l.l.map PServer.lg) a.host = l.l.length := by rw [(host_new hjL).2, List.length_map]
    have hd9 : s5.l[l.l.length]? = some (⟨a.host, ⟨[], none, 0⟩⟩ : PServer) := get_last hl5 hlx
    have hu9 : PServer.lg (⟨(⟨a.host, ⟨[], none, 0⟩⟩ : PServer).host, s12⟩ : PServer) = putOn (PServer.lg (⟨a.host, ⟨[], none, 0⟩⟩ : PServer)) a.path y := by
     rw [putOn_new (s := PServer.lg (⟨a.host, ⟨[], none, 0⟩⟩ : PServer)) (Int.not_le.1 h2)]
     simp only [PServer.lg, hl12]
    have hall9 : s13.l.map PServer.lg = putAll (l.l.map PServer.lg) a y := by rw [hl13]; exact put_all hw9 hi9 hd9 hu9
    have hpi9 := put_is hall9 hi9 hg13
    have hln9 : s13.l.length = s5.l.length := by rw [hl13, List.length_set]
    rw [hln9] at hpi9
    have hb9 : putIs (l.l.map PServer.lg) a y = false := by
     clear hs
     rw [hpi9]
     first
      | (simp_all; done)
      | (simp_all; omega)
      | (rw [Bool.and_eq_false_iff]; left; exact decide_eq_false Q7)
      | (rw [Bool.and_eq_true]; exact ⟨decide_eq_true Q7, by simp_all⟩)
      | (rw [Bool.and_eq_false_iff]; right; simp_all)
    exact ⟨x14, by rw [hb9], hx14.trans (putFile_no hb9).symm, hs.fresh Q1⟩
   ·
    replace h3 := of_decide_eq_false h3
    refine WL.run (d := 63) Q0 Q0 ?_
    refine Qm ?_
    refine WL.run (d := 63) Q0 Q0 ?_
    refine Qm ?_
    refine WL.run (d := 63) Q0 Q0 ?_
    refine WL.p Q0 (Yl.indexAddrV slt24 Q0 hv13 Q0 (hs.okow (x := s13) (F := F13) Q1) (by first | exact hj2 | exact hj | rfl | exact congrArg (fun n : Nat => (n : Int)) hlx) (hg13)) ?_
    refine WL.run (d := 63) Q0 Q0 ?_
    refine WL.p Q0 (Yl.loadA agg216 Q0 (Sl.Ok.at_ (hs.okow (x := s13) (F := F13) Q1) (by assumption)).2 Q0) ?_
    refine WL.run (d := 63) Q0 Q0 ?_
    have hjL : idxF (onHost a.host) (l.l.map PServer.lg) 0 < 0 := by rw [idx_host]; exact h1
    have hw9 : s5.l.map PServer.lg = withHost (l.l.map PServer.lg) a.host := by rw [(host_new hjL).1, hl5, List.map_append, hx3]; rfl
    have hi9 : hostIx (l.l.map PServer.lg) a.host = l.l.length := by rw [(host_new hjL).2, List.length_map]
    have hd9 : s5.l[l.l.length]? = some (⟨a.host, ⟨[], none, 0⟩⟩ : PServer) := get_last hl5 hlx
    have hu9 : PServer.lg (⟨(⟨a.host, ⟨[], none, 0⟩⟩ : PServer).host, s12⟩ : PServer) = putOn (PServer.lg (⟨a.host, ⟨[], none, 0⟩⟩ : PServer)) a.path y := by
     rw [putOn_new (s := PServer.lg (⟨a.host, ⟨[], none, 0⟩⟩ : PServer)) (Int.not_le.1 h2)]
     simp only [PServer.lg, hl12]
    have hall9 : s13.l.map PServer.lg = putAll (l.l.map PServer.lg) a y := by rw [hl13]; exact put_all hw9 hi9 hd9 hu9
    have hpi9 := put_is hall9 hi9 hg13
    have hln9 : s13.l.length = s5.l.length := by rw [hl13, List.length_set]
    rw [hln9] at hpi9
    refine WL.callp hs Q0 (Yc.func Q0 fn191) (c_spec_IsServer _ _ (Sl.Ok.elem (hs.okow (x := s13) (F := F13) Q1) hg13) (by show ∀ f ∈ (PServer.lg _).files, _; rw [hu9]; exact putOn_pol hDp hpy)) ?_
    clear hs; intro w hs
    refine WL.run (d := 63) Q0 Q0 ?_
    refine WL.p Q0 (Yl.not Q0) ?_
    refine WL.p Q0 (Yl.pickF Q0 Q0) ?_
    refine WL.next ?_
    refine WC.condS Q0 (fun h4 => ?_) (fun h4 => ?_)
    ·
     replace h4 := not_eq_true h4
     refine WC.seq ?_
     refine Qm ?_
     refine WL.call hs Q0 (Yc.func Q0 fn186) (c_spec_l12Copy _ _ (Ph.old h_l hs) (by exact hbz)) ?_
     have hs0 := hs; clear hs; intro v w hb hR hs; clear hs
     obtain ⟨x15, rfl, hx15, hf15⟩ := hR
     obtain ⟨F15, hs⟩ := hf15.sat hs0 hb; clear hs0 hf15
     have hle15 := Sl.Ok.le (hs.okow (x := x15) (F := F15) Q1)
     refine Qa ?_
     refine Qa ?_
     refine WL.next ?_
     refine WC.ret ?_
     refine At.thenret ?_
     refine fin2' rfl Q0 Q0 ?_
     refine Ret.mk hs ?_
     have hjL : idxF (onHost a.host) (l.l.map PServer.lg) 0 < 0 := by rw [idx_host]; exact h1
     have hw9 : s5.l.map PServer.lg = withHost (l.l.map PServer.lg) a.host := by rw [(host_new hjL).1, hl5, List.map_append, hx3]; rfl
     have hi9 : hostIx (l.l.map PServer.lg) a.host = l.l.length := by rw [(host_new hjL).2, List.length_map]
     have hd9 : s5.l[l.l.length]? = some (⟨a.host, ⟨[], none, 0⟩⟩ : PServer) := get_last hl5 hlx
     have hu9 : PServer.lg (⟨(⟨a.host, ⟨[], none, 0⟩⟩ : PServer).host, s12⟩ : PServer) = putOn (PServer.lg (⟨a.host, ⟨[], none, 0⟩⟩ : PServer)) a.path y := by
      rw [putOn_new (s := PServer.lg (⟨a.host, ⟨[], none, 0⟩⟩ : PServer)) (Int.not_le.1 h2)]
      simp only [PServer.lg, hl12]
     have hall9 : s13.l.map PServer.lg = putAll (l.l.map PServer.lg) a y := by rw [hl13]; exact put_all hw9 hi9 hd9 hu9
     have hpi9 := put_is hall9 hi9 hg13
     have hln9 : s13.l.length = s5.l.length := by rw [hl13, List.length_set]
     rw [hln9] at hpi9
     have hb9 : putIs (l.l.map PServer.lg) a y = false := by
      clear hs
      rw [hpi9]
      first
       | (simp_all; done)
       | (simp_all; omega)
       | (rw [Bool.and_eq_false_iff]; left; exact decide_eq_false Q7)
       | (rw [Bool.and_eq_true]; exact ⟨decide_eq_true Q7, by simp_all⟩)
       | (rw [Bool.and_eq_false_iff]; right; simp_all)
     exact ⟨x15, by rw [hb9], hx15.trans (putFile_no hb9).symm, hs.fresh Q1⟩
    ·
     replace h4 := not_eq_false h4
     refine WC.skipn ?_
     refine WC.seq ?_
     refine Qm ?_
     refine Qa ?_
     refine Qa ?_
     refine WL.next ?_
     refine WC.ret ?_
     refine fin2' rfl Q0 Q0 ?_
     refine Ret.mk hs ?_
     have hjL : idxF (onHost a.host) (l.l.map PServer.lg) 0 < 0 := by rw [idx_host]; exact h1
     have hw9 : s5.l.map PServer.lg = withHost (l.l.map PServer.lg) a.host := by rw [(host_new hjL).1, hl5, List.map_append, hx3]; rfl
     have hi9 : hostIx (l.l.map PServer.lg) a.host = l.l.length := by rw [(host_new hjL).2, List.length_map]
     have hd9 : s5.l[l.l.length]? = some (⟨a.host, ⟨[], none, 0⟩⟩ : PServer) := get_last hl5 hlx
     have hu9 : PServer.lg (⟨(⟨a.host, ⟨[], none, 0⟩⟩ : PServer).host, s12⟩ : PServer) = putOn (PServer.lg (⟨a.host, ⟨[], none, 0⟩⟩ : PServer)) a.path y := by
      rw [putOn_new (s := PServer.lg (⟨a.host, ⟨[], none, 0⟩⟩ : PServer)) (Int.not_le.1 h2)]
      simp only [PServer.lg, hl12]
     have hall9 : s13.l.map PServer.lg = putAll (l.l.map PServer.lg) a y := by rw [hl13]; exact put_all hw9 hi9 hd9 hu9
     have hpi9 := put_is hall9 hi9 hg13
     have hln9 : s13.l.length = s5.l.length := by rw [hl13, List.length_set]
     rw [hln9] at hpi9
     have hb9 : putIs (l.l.map PServer.lg) a y = true := by
      clear hs
      rw [hpi9]
      first
       | (simp_all; done)
       | (simp_all; omega)
       | (rw [Bool.and_eq_false_iff]; left; exact decide_eq_false Q7)
       | (rw [Bool.and_eq_true]; exact ⟨decide_eq_true Q7, by simp_all⟩)
       | (rw [Bool.and_eq_false_iff]; right; simp_all)
     exact ⟨s13, by rw [hb9]; exact congrArg (fun z => Value.tuple #[z, Bo true]) (hv13).symm, hall9.trans (putFile_yes hb9).symm, hs.fresh Q1⟩
 ·
  replace h1 := of_decide_eq_false h1
  have hlx : x3.l.length = l.l.length := by have h9 := congrArg List.length hx3; simpa using h9
  obtain ⟨j, d, hj, hd, hf⟩ := idxF_some h1
  rw [Nat.zero_add] at hj
  obtain ⟨dx, hdx, hdl⟩ := get_map hx3 hd
  have hDp : ∀ f ∈ (PServer.lg dx).files, f.response.policy.length ≤ 1048576 := by rw [hdl]; exact srvs_pol hbz (List.mem_map.2 ⟨d, List.mem_of_getElem? hd, rfl⟩)
  have hdf : dx.files.l.length ≤ 1048576 := by
   have h9 := lsum_le (f := TServer.size) (List.mem_map.2 ⟨d, List.mem_of_getElem? hd, rfl⟩ : PServer.lg d ∈ l.l.map PServer.lg)
   rw [← hdl] at h9
   simp only [TServer.size, lsz, PServer.lg] at h9 hbz; omega
  refine WC.skipn ?_
  refine WC.seq' ?_
  refine WC.quietn mixed Q6 hs ?_
  refine WQ.p Q0 (fun w hs => Yl.move Q0) ?_
  refine WQ.p Q0 (fun w hs => Yl.move Q0) ?_
  refine WQ.p Q0 (fun w hs => Yl.indexAddr slt24 Q0 Q0 (hs.okow (x := x3) (F := F3) Q1) (by first | exact hj2 | exact hj | rfl | exact congrArg (fun n : Nat => (n : Int)) hlx) (hdx)) ?_
  refine WQ.p Q0 (fun w hs => Yl.loadA agg216 Q0 (Sl.Ok.at_ (hs.okow (x := x3) (F := F3) Q1) (by assumption)).2 Q0) ?_
  refine WQ.p Q0 (fun w hs => Yl.fieldAddr fa39_1 Q0) ?_
  refine WQ.p Q0 (fun w hs => Yl.loadB sca9 Q0 hs Q1 Q0) ?_
  refine WQ.callp Q0 (fun w => Yc.func Q0 fn210) (fun w hs => (c_spec_l12File _ _ _ (Sl.Ok.elem (hs.okow (x := x3) (F := F3) Q1) hdx))) (fun _ _ hs hb => hs.ext hb) ?_
  refine WQ.p Q0 (fun w hs => Yl.assign Q0) ?_
  refine WQ.next ?_
  clear hs; intro w hs
  refine WC.seq ?_
  refine Qm ?_
  refine WL.p Q0 (Yl.geq Q0 Q0) ?_
  refine WL.next ?_
  refine WC.condS Q0 (fun h2 => ?_) (fun h2 => ?_)
  ·
   replace h2 := of_decide_eq_true h2
   obtain ⟨j2, d2, hj2, hd2, hf2⟩ := idxF_some (Int.not_lt.2 h2)
   rw [Nat.zero_add] at hj2
   refine WC.anyX (K := [ow x3 F3]) mixed hs Q2 ?_
   clear hs; intro w hs
   refine WA.p (i := 0) Q0 Q6 Q6 Q6 Q0 (hs.only Q2) (fun w hs => Yl.move Q0) ?_
   refine WA.p (i := 1) Q0 Q6 Q6 Q6 Q0 (hs.only Q2) (fun w hs => Yl.move Q0) ?_
   have hadr1500 := (Sl.Ok.at_ (hs.okow (x := x3) (F := F3) Q1) (hdx)).1
   refine WA.p (i := 2) Q0 Q6 Q6 Q6 Q0 (hs.only Q2) (fun w hs => Yl.indexAddrA slt24 Q0 Q0 hadr1500 (by first | exact hj2 | exact hj | rfl | exact congrArg (fun n : Nat => (n : Int)) hlx) (hdx)) ?_
   refine WA.p (i := 3) Q0 Q6 Q6 Q6 Q0 (hs.only Q2) (fun w hs => Yl.fieldAddr fa216_1 Q0) ?_
   refine WA.p (i := 5) Q0 Q6 Q6 Q6 Q0 (hs.only Q2) (fun w hs => Yl.move Q0) ?_
   refine WA.p (i := 6) Q0 Q6 Q6 Q6 Q0 (hs.only Q2) (fun w hs => Yl.loadAB agg72 Q0 hs Q1 Q0 Q0) ?_
   refine WA.r (i := 4) Q6 Q0 Q0 (Yl.yr (Yl.loadC sca214 Q0 (Sl.Ok.at_ (hs.okow (x := x3) (F := F3) Q1) (by assumption)).2 Q0)) (by rintro _ _ ⟨rfl, rfl⟩; exact hs.only Q2) ?_
   rintro _ _ ⟨rfl, rfl⟩
   have hadr1501 := (Sl.Ok.at_ (Sl.Ok.elem (hs.okow (x := x3) (F := F3) Q1) hdx).files (hd2)).1
   refine WA.p (i := 7) Q0 Q6 Q6 Q6 Q0 (hs.only Q2) (fun w hs => Yl.indexAddrA slt214 Q0 Q0 hadr1501 (by first | exact hj2 | exact hj | rfl | exact congrArg (fun n : Nat => (n : Int)) hlx) (hd2)) ?_
   refine WA.p (i := 8) Q0 Q6 Q6 Q6 Q0 (hs.only Q2) (fun w hs => Yl.fieldAddr fa219_1 Q0) ?_
   obtain ⟨G16, B16, hs⟩ := Sat.lend (hs.sel (D := [ow x3 F3]) Q2) hdx
   obtain ⟨K16, hfl16, hs⟩ := PServer.split hs
   try simp only [List.cons_append, List.nil_append] at hs
   have hel16 := Sl.Ok.elem (hs.okow (x := dx.files) (F := K16) Q1) hd2
   refine WA.s (i := 9) Q6 Q0 (Yr.storeP (s := dx.files) (F := K16) (d := d2) (u := (⟨d2.path, y⟩ : TFile)) (k := j2) (j := 1) hs Q2 Q0 Q0 Q0 hd2 ⟨_, by rfl, by rfl⟩ Q3 (by exact own_part_flat ⟨hel16.path, (by first | assumption | exact Flat.any (by assumption) | (refine Ph.old ?_ hs; assumption))⟩) Q0 (by exact szf72)) (by rintro _ w ⟨a16, _, rfl, hw16, hm16, _, hs⟩; exact hs.only Q2) ?_
   clear hs; rintro _ w ⟨a16, _, rfl, hw16, hm16, _, hs⟩
   replace hs := PServer.join (⟨dx.host, a16⟩ : PServer) (hs.sel (D := [ow a16 K16]) Q2) (Flat.any hfl16.1)
   try simp only [List.cons_append, List.nil_append] at hs
   obtain ⟨s16, F16, hv16, hl16, hg16, hs⟩ := Sat.back (s := x3) (k := j) (d := dx) (hs.sel (D := [ow (⟨dx.host, a16⟩ : PServer) K16, hl x3 j G16]) Q2) hdx (by show [S (⟨dx.host, a16⟩ : PServer).host, Sl.v a16] = [S dx.host, Sl.v dx.files]; rw [hw16])
   try simp only [List.cons_append, List.nil_append] at hs
   refine WA.done Q6 ?_
   refine At.then_ ?_
   refine WC.seq' ?_
   refine WC.seq ?_
   refine Qm ?_
   refine WL.p Q0 (Yl.len_sl slu24 Q0) ?_
   refine WL.p Q0 (Yl.gtr Q0 Q0) ?_
   refine Qm ?_
   refine WL.split (d := 63) Q0 (fun h3 => ?_) (fun h3 => ?_)
   ·
    replace h3 := of_decide_eq_true h3
    refine WL.skip (d := 63) Q0 Q0 Q0 Q0 ?_
    refine WL.skip (d := 63) Q0 Q0 Q0 Q0 ?_
    refine WL.skip (d := 63) Q0 Q0 Q0 Q0 ?_
    refine WL.skip (d := 63) Q0 Q0 Q0 Q0 ?_
    refine WL.skip (d := 63) Q0 Q0 Q0 Q0 ?_
    refine WL.skip (d := 63) Q0 Q0 Q0 Q0 ?_
    refine WL.p Q0 (Yl.pickT Q0 Q0) ?_
    refine WL.next ?_
    refine WC.condT Q0 ?_
    refine WC.seq ?_
    refine Qm ?_
    refine WL.call hs Q0 (Yc.func Q0 fn186) (c_spec_l12Copy _ _ (Ph.old h_l hs) (by exact hbz)) ?_
    have hs0 := hs; clear hs; intro v w hb hR hs; clear hs
    obtain ⟨x17, rfl, hx17, hf17⟩ := hR
    obtain ⟨F17, hs⟩ := hf17.sat hs0 hb; clear hs0 hf17
    have hle17 := Sl.Ok.le (hs.okow (x := x17) (F := F17) Q1)
    refine Qa ?_
    refine Qa ?_
    refine WL.next ?_
    refine WC.ret ?_
    refine At.thenret ?_
    refine fin2' rfl Q0 Q0 ?_
    refine Ret.mk hs ?_
    have hjL : idxF (onHost a.host) (l.l.map PServer.lg) 0 = (j : Int) := by rw [idx_host]; exact hj
    have hw9 : x3.l.map PServer.lg = withHost (l.l.map PServer.lg) a.host := by rw [(host_hit hjL).1]; exact hx3
    have hi9 : hostIx (l.l.map PServer.lg) a.host = j := (host_hit hjL).2
    have hd9 := hdx
    have hu9 : PServer.lg (⟨dx.host, a16⟩ : PServer) = putOn (PServer.lg dx) a.path y := by
     rw [putOn_found (s := PServer.lg dx) hj2 hd2]
     simp only [PServer.lg, hm16]
    have hall9 : s16.l.map PServer.lg = putAll (l.l.map PServer.lg) a y := by rw [hl16]; exact put_all hw9 hi9 hd9 hu9
    have hpi9 := put_is hall9 hi9 hg16
    have hln9 : s16.l.length = x3.l.length := by rw [hl16, List.length_set]
    rw [hln9] at hpi9
    have hb9 : putIs (l.l.map PServer.lg) a y = false := by
     clear hs
     rw [hpi9]
     first
      | (simp_all; done)
      | (simp_all; omega)
      | (rw [Bool.and_eq_false_iff]; left; exact decide_eq_false Q7)
      | (rw [Bool.and_eq_true]; exact ⟨decide_eq_true Q7, by simp_all⟩)
      | (rw [Bool.and_eq_false_iff]; right; simp_all)
    exact ⟨x17, by rw [hb9], hx17.trans (putFile_no hb9).symm, hs.fresh Q1⟩
   ·
    replace h3 := of_decide_eq_false h3
    refine WL.run (d := 63) Q0 Q0 ?_
    refine Qm ?_
    refine WL.run (d := 63) Q0 Q0 ?_
    refine Qm ?_
    refine WL.run (d := 63) Q0 Q0 ?_
    refine WL.p Q0 (Yl.indexAddrV slt24 Q0 hv16 Q0 (hs.okow (x := s16) (F := F16) Q1) (by first | exact hj2 | exact hj | rfl | exact congrArg (fun n : Nat => (n : Int)) hlx) (hg16)) ?_
    refine WL.run (d := 63) Q0 Q0 ?_
    refine WL.p Q0 (Yl.loadA agg216 Q0 (Sl.Ok.at_ (hs.okow (x := s16) (F := F16) Q1) (by assumption)).2 Q0) ?_
    refine WL.run (d := 63) Q0 Q0 ?_
    have hjL : idxF (onHost a.host) (l.l.map PServer.lg) 0 = (j : Int) := by rw [idx_host]; exact hj
    have hw9 : x3.l.map PServer.lg = withHost (l.l.map PServer.lg) a.host := by rw [(host_hit hjL).1]; exact hx3
    have hi9 : hostIx (l.l.map PServer.lg) a.host = j := (host_hit hjL).2
    have hd9 := hdx
    have hu9 : PServer.lg (⟨dx.host, a16⟩ : PServer) = putOn (PServer.lg dx) a.path y := by
     rw [putOn_found (s := PServer.lg dx) hj2 hd2]
     simp only [PServer.lg, hm16]
    have hall9 : s16.l.map PServer.lg = putAll (l.l.map PServer.lg) a y := by rw [hl16]; exact put_all hw9 hi9 hd9 hu9
    have hpi9 := put_is hall9 hi9 hg16
    have hln9 : s16.l.length = x3.l.length := by rw [hl16, List.length_set]
    rw [hln9] at hpi9
    refine WL.callp hs Q0 (Yc.func Q0 fn191) (c_spec_IsServer _ _ (Sl.Ok.elem (hs.okow (x := s16) (F := F16) Q1) hg16) (by show ∀ f ∈ (PServer.lg _).files, _; rw [hu9]; exact putOn_pol hDp hpy)) ?_
    clear hs; intro w hs
    refine WL.run (d := 63) Q0 Q0 ?_
    refine WL.p Q0 (Yl.not Q0) ?_
    refine WL.p Q0 (Yl.pickF Q0 Q0) ?_
    refine WL.next ?_
    refine WC.condS Q0 (fun h4 => ?_) (fun h4 => ?_)
    ·
     replace h4 := not_eq_true h4
     refine WC.seq ?_
     refine Qm ?_
     refine WL.call hs Q0 (Yc.func Q0 fn186) (c_spec_l12Copy _ _ (Ph.old h_l hs) (by exact hbz)) ?_
     have hs0 := hs; clear hs; intro v w hb hR hs; clear hs
     obtain ⟨x18, rfl, hx18, hf18⟩ := hR
     obtain ⟨F18, hs⟩ := hf18.sat hs0 hb; clear hs0 hf18
     have hle18 := Sl.Ok.le (hs.okow (x := x18) (F := F18) Q1)
     refine Qa ?_
     refine Qa ?_
     refine WL.next ?_
     refine WC.ret ?_
     refine At.thenret ?_
     refine fin2' rfl Q0 Q0 ?_
     refine Ret.mk hs ?_
     have hjL : idxF (onHost a.host) (l.l.map PServer.lg) 0 = (j : Int) := by rw [idx_host]; exact hj
     have hw9 : x3.l.map PServer.lg = withHost (l.l.map PServer.lg) a.host := by rw [(host_hit hjL).1]; exact hx3
     have hi9 : hostIx (l.l.map PServer.lg) a.host = j := (host_hit hjL).2
     have hd9 := hdx
     have hu9 : PServer.lg (⟨dx.host, a16⟩ : PServer) = putOn (PServer.lg dx) a.path y := by
      rw [putOn_found (s := PServer.lg dx) hj2 hd2]
      simp only [PServer.lg, hm16]
     have hall9 : s16.l.map PServer.lg = putAll (l.l.map PServer.lg) a y := by rw [hl16]; exact put_all hw9 hi9 hd9 hu9
     have hpi9 := put_is hall9 hi9 hg16
     have hln9 : s16.l.length = x3.l.length := by rw [hl16, List.length_set]
     rw [hln9] at hpi9
     have hb9 : putIs (l.l.map PServer.lg) a y = false := by
      clear hs
      rw [hpi9]
      first
       | (simp_all; done)
       | (simp_all; omega)
       | (rw [Bool.and_eq_false_iff]; left; exact decide_eq_false Q7)
       | (rw [Bool.and_eq_true]; exact ⟨decide_eq_true Q7, by simp_all⟩)
       | (rw [Bool.and_eq_false_iff]; right; simp_all)
     exact ⟨x18, by rw [hb9], hx18.trans (putFile_no hb9).symm, hs.fresh Q1⟩
    ·
     replace h4 := not_eq_false h4
     refine WC.skipn ?_
     refine WC.seq ?_
     refine Qm ?_
     refine Qa ?_
     refine Qa ?_
     refine WL.next ?_
     refine WC.ret ?_
     refine fin2' rfl Q0 Q0 ?_
     refine Ret.mk hs ?_
     have hjL : idxF (onHost a.host) (l.l.map PServer.lg) 0 = (j : Int) := by rw [idx_host]; exact hj
     have hw9 : x3.l.map PServer.lg = withHost (l.l.map PServer.lg) a.host := by rw [(host_hit hjL).1]; exact hx3
     have hi9 : hostIx (l.l.map PServer.lg) a.host = j := (host_hit hjL).2
     have hd9 := hdx
     have hu9 : PServer.lg (⟨dx.host, a16⟩ : PServer) = putOn (PServer.lg dx) a.path y := by
      rw [putOn_found (s := PServer.lg dx) hj2 hd2]
      simp only [PServer.lg, hm16]
     have hall9 : s16.l.map PServer.lg = putAll (l.l.map PServer.lg) a y := by rw [hl16]; exact put_all hw9 hi9 hd9 hu9
     have hpi9 := put_is hall9 hi9 hg16
     have hln9 : s16.l.length = x3.l.length := by rw [hl16, List.length_set]
     rw [hln9] at hpi9
     have hb9 : putIs (l.l.map PServer.lg) a y = true := by
      clear hs
      rw [hpi9]
      first
       | (simp_all; done)
       | (simp_all; omega)
       | (rw [Bool.and_eq_false_iff]; left; exact decide_eq_false Q7)
       | (rw [Bool.and_eq_true]; exact ⟨decide_eq_true Q7, by simp_all⟩)
       | (rw [Bool.and_eq_false_iff]; right; simp_all)
     exact ⟨s16, by rw [hb9]; exact congrArg (fun z => Value.tuple #[z, Bo true]) (hv16).symm, hall9.trans (putFile_yes hb9).symm, hs.fresh Q1⟩
  ·
   replace h2 := of_decide_eq_false h2
   refine WC.anyX (K := [ow x3 F3]) mixed hs Q2 ?_
   clear hs; intro w hs
   refine WA.p (i := 0) Q0 Q6 Q6 Q6 Q0 (hs.only Q2) (fun w hs => Yl.move Q0) ?_
   refine WA.p (i := 1) Q0 Q6 Q6 Q6 Q0 (hs.only Q2) (fun w hs => Yl.move Q0) ?_
   refine WA.p (i := 2) Q0 Q6 Q6 Q6 Q0 (hs.only Q2) (fun w hs => Yl.move Q0) ?_
   refine WA.p (i := 3) Q0 Q6 Q6 Q6 Q0 (hs.only Q2) (fun w hs => Yl.move Q0) ?_
   have hadr1800 := (Sl.Ok.at_ (hs.okow (x := x3) (F := F3) Q1) (hdx)).1
   refine WA.p (i := 4) Q0 Q6 Q6 Q6 Q0 (hs.only Q2) (fun w hs => Yl.indexAddrA slt24 Q0 Q0 hadr1800 (by first | exact hj2 | exact hj | rfl | exact congrArg (fun n : Nat => (n : Int)) hlx) (hdx)) ?_
   refine WA.p (i := 5) Q0 Q6 Q6 Q6 Q0 (hs.only Q2) (fun w hs => Yl.fieldAddr fa216_1 Q0) ?_
   refine WA.p (i := 7) Q0 Q6 Q6 Q6 Q0 (hs.only Q2) (fun w hs => Yl.fieldAddr fa39_1 Q0) ?_
   refine WA.p (i := 8) Q0 Q6 Q6 Q6 Q0 (hs.only Q2) (fun w hs => Yl.loadB sca9 Q0 hs Q1 Q0) ?_
   refine WA.p (i := 9) Q0 Q6 Q6 Q6 Q0 (hs.only Q2) (fun w hs => Yl.loadAB agg72 Q0 hs Q1 Q0 Q0) ?_
   refine WA.p (i := 10) Q0 Q6 Q6 Q6 Q0 (hs.only Q2) (fun w hs => Yl.build bt219 Q0 Q4) ?_
   refine WA.dag' [(⟨6, 51, [], (fun _ v cs => v = Sl.v dx.files ∧ cs = [])⟩, []), (⟨11, 56, [], (fun _ v cs => ∃ b, v = .slice (some ⟨b, 0, none⟩) 1 1 ∧ cs = [box b 219 ((Ph.enc ((⟨a.path, y⟩ : TFile))))])⟩, [])] [false, false] [(0, _), (1, _), (2, _), (4, _), (5, _), (6, _), (7, _), (8, _), (9, _), (10, _), (11, _), (12, _), (13, _), (14, _), (15, _), (16, _), (17, _), (18, _), (27, _), (28, _), (29, _), (30, _), (31, _), (32, _), (33, _), (34, _), (35, _), (45, _), (46, _), (47, _), (48, _), (49, _), (50, _), (52, _), (53, _), (54, _), (55, _)] ⟨by rfl, by rfl, by rfl, by rfl, by rfl, by rfl, by rfl, by rfl, by rfl, by rfl, by rfl, by rfl, by rfl, by rfl, by rfl, by rfl, by rfl, by rfl, by rfl, by rfl, by rfl, by rfl, by rfl, by rfl, by rfl, by rfl, by rfl, by rfl, by rfl, by rfl, by rfl, by rfl, by rfl, by rfl, by rfl, by rfl, by rfl, trivial⟩ Q0 Q6 Q6 Q6 Q6 Q6 Q6 Q6 Q6 (fun _ hs => hs.only Q2) hs (fuel := 4) ⟨⟨local_const, ?_⟩, ⟨local_const, ?_⟩, trivial⟩ ?_
   ·
    clear hs
    intro w R hs
    simp only [List.cons_append, List.nil_append] at hs
    exact Gives.p' Q0 (Yl.loadC sca214 Q0 (Sl.Ok.at_ (hs.okow (x := x3) (F := F3) Q1) (by assumption)).2 Q0) ⟨[], ⟨rfl, rfl⟩, hs⟩
   ·
    clear hs
    intro w R hs
    simp only [List.cons_append, List.nil_append] at hs
    exact Gives.rr' Q0 (Yr.buildSlice hs sll214 Q0 Q0 Q0 Q4 Q0) (fun _ _ ⟨b, hv, _, hs1⟩ => ⟨[box b 219 ((Ph.enc ((⟨a.path, y⟩ : TFile))))], ⟨b, hv, rfl⟩, hs1⟩)
   clear hs
   rintro _ _ ⟨rfl, rfl⟩
   rintro _ _ ⟨b20, rfl, rfl⟩
   intro w hs
   simp only [List.cons_append, List.nil_append, cond_true, cond_false] at hs
   obtain ⟨G21, B21, hs⟩ := Sat.lend (hs.sel (D := [ow x3 F3]) Q2) hdx
   obtain ⟨K21, hfl21, hs⟩ := PServer.split hs
   try simp only [List.cons_append, List.nil_append] at hs
   refine WA.r (i := 12) Q6 Q0 Q0 (Yr.append (s := dx.files) (F := K21) hs elt214 Q2 Q0 Q0 rfl (xs := [(⟨a.path, y⟩ : TFile)]) (hs.box_cells Q1) (by intro x hx; obtain rfl := List.mem_singleton.1 hx; exact ⟨Flat.any h_a.path, Flat.any h_y⟩) (by first | (rw [hlx]; unfold maxLen; omega) | (simp only [List.length_nil, List.length_singleton]; unfold maxLen; omega) | (simp; unfold maxLen; omega)) (by first | (rw [hlx]; omega) | omega | (simp only [List.length_nil, List.length_singleton]; omega) | (simp; omega))) (by rintro _ w ⟨s22, F22, rfl, hl22, hs⟩; exact hs.only Q2) ?_
   clear hs; rintro _ w ⟨s22, F22, rfl, hl22, hs⟩
   refine WA.p (i := 13) Q0 Q6 Q6 Q6 Q0 (hs.only Q2) (fun w hs => Yl.indexAddrA slt24 Q0 Q0 hadr1800 (by first | exact hj2 | exact hj | rfl | exact congrArg (fun n : Nat => (n : Int)) hlx) (hdx)) ?_
   refine WA.p (i := 14) Q0 Q6 Q6 Q6 Q0 (hs.only Q2) (fun w hs => Yl.fieldAddr fa216_1 Q0) ?_
   replace hs := PServer.join (⟨dx.host, s22⟩ : PServer) (hs.sel (D := [ow s22 F22]) Q2) (Flat.any hfl21.1)
   try simp only [List.cons_append, List.nil_append] at hs
   refine WA.s (i := 15) Q6 Q0 (Yr.storeHole (s := x3) (G := G21) (B := F22) (d := dx) (u := (⟨dx.host, s22⟩ : PServer)) (k := j) (j := 1) hs Q2 Q0 Q0 Q0 hdx ⟨_, by rfl, by rfl⟩ Q3 Q0 (by exact szf214)) (by rintro _ w ⟨s23, F23, hv23, hl23, hg23, hs⟩; exact hs.only Q2) ?_
   clear hs; rintro _ w ⟨s23, F23, hv23, hl23, hg23, hs⟩
   refine WA.done Q6 ?_
   refine At.then_ ?_
   refine WC.seq' ?_
   refine WC.seq ?_
   refine Qm ?_
   refine WL.p Q0 (Yl.len_sl slu24 Q0) ?_
   refine WL.p Q0 (Yl.gtr Q0 Q0) ?_
   refine Qm ?_
   refine WL.split (d := 63) Q0 (fun h3 => ?_) (fun h3 => ?_)
   ·
    replace h3 := of_decide_eq_true h3
    refine WL.skip (d := 63) Q0 Q0 Q0 Q0 ?_
    refine WL.skip (d := 63) Q0 Q0 Q0 Q0 ?_
    refine WL.skip (d := 63) Q0 Q0 Q0 Q0 ?_
    refine WL.skip (d := 63) Q0 Q0 Q0 Q0 ?_
    refine WL.skip (d := 63) Q0 Q0 Q0 Q0 ?_
    refine WL.skip (d := 63) Q0 Q0 Q0 Q0 ?_
    refine WL.p Q0 (Yl.pickT Q0 Q0) ?_
    refine WL.next ?_
    refine WC.condT Q0 ?_
    refine WC.seq ?_
    refine Qm ?_
    refine WL.call hs Q0 (Yc.func Q0 fn186) (c_spec_l12Copy _ _ (Ph.old h_l hs) (by exact hbz)) ?_
    have hs0 := hs; clear hs; intro v w hb hR hs; clear hs
    obtain ⟨x24, rfl, hx24, hf24⟩ := hR
    obtain ⟨F24, hs⟩ := hf24.sat hs0 hb; clear hs0 hf24
    have hle24 := Sl.Ok.le (hs.okow (x := x24) (F := F24) Q1)
    refine Qa ?_
    refine Qa ?_
    refine WL.next ?_
    refine WC.ret ?_
    refine At.thenret ?_
    refine fin2' rfl Q0 Q0 ?_
    refine Ret.mk hs ?_
    have hjL : idxF (onHost a.host) (l.l.map PServer.lg) 0 = (j : Int) := by rw [idx_host]; exact hj
    have hw9 : x3.l.map PServer.lg = withHost (l.l.map PServer.lg) a.host := by rw [(host_hit hjL).1]; exact hx3
    have hi9 : hostIx (l.l.map PServer.lg) a.host = j := (host_hit hjL).2
    have hd9 := hdx
    have hu9 : PServer.lg (⟨dx.host, s22⟩ : PServer) = putOn (PServer.lg dx) a.path y := by
     rw [putOn_new (s := PServer.lg dx) (Int.not_le.1 h2)]
     simp only [PServer.lg, hl22]
    have hall9 : s23.l.map PServer.lg = putAll (l.l.map PServer.lg) a y := by rw [hl23]; exact put_all hw9 hi9 hd9 hu9
    have hpi9 := put_is hall9 hi9 hg23
    have hln9 : s23.l.length = x3.l.length := by rw [hl23, List.length_set]
    rw [hln9] at hpi9
    have hb9 : putIs (l.l.map PServer.lg) a y = false := by
     clear hs
     rw [hpi9]
     first
      | (simp_all; done)
      | (simp_all; omega)
      | (rw [Bool.and_eq_false_iff]; left; exact decide_eq_false Q7)
      | (rw [Bool.and_eq_true]; exact ⟨decide_eq_true Q7, by simp_all⟩)
      | (rw [Bool.and_eq_false_iff]; right; simp_all)
    exact ⟨x24, by rw [hb9], hx24.trans (putFile_no hb9).symm, hs.fresh Q1⟩
   ·
    replace h3 := of_decide_eq_false h3
    refine WL.run (d := 63) Q0 Q0 ?_
    refine Qm ?_
    refine WL.run (d := 63) Q0 Q0 ?_
    refine Qm ?_
    refine WL.run (d := 63) Q0 Q0 ?_
    refine WL.p Q0 (Yl.indexAddrV slt24 Q0 hv23 Q0 (hs.okow (x := s23) (F := F23) Q1) (by first | exact hj2 | exact hj | rfl | exact congrArg (fun n : Nat => (n : Int)) hlx) (hg23)) ?_
    refine WL.run (d := 63) Q0 Q0 ?_
    refine WL.p Q0 (Yl.loadA agg216 Q0 (Sl.Ok.at_ (hs.okow (x := s23) (F := F23) Q1) (by assumption)).2 Q0) ?_
    refine WL.run (d := 63) Q0 Q0 ?_
    have hjL : idxF (onHost a.host) (l.l.map PServer.lg) 0 = (j : Int) := by rw [idx_host]; exact hj
    have hw9 : x3.l.map PServer.lg = withHost (l.l.map PServer.lg) a.host := by rw [(host_hit hjL).1]; exact hx3
    have hi9 : hostIx (l.l.map PServer.lg) a.host = j := (host_hit hjL).2
    have hd9 := hdx
    have hu9 : PServer.lg (⟨dx.host, s22⟩ : PServer) = putOn (PServer.lg dx) a.path y := by
     rw [putOn_new (s := PServer.lg dx) (Int.not_le.1 h2)]
     simp only [PServer.lg, hl22]
    have hall9 : s23.l.map PServer.lg = putAll (l.l.map PServer.lg) a y := by rw [hl23]; exact put_all hw9 hi9 hd9 hu9
    have hpi9 := put_is hall9 hi9 hg23
    have hln9 : s23.l.length = x3.l.length := by rw [hl23, List.length_set]
    rw [hln9] at hpi9
    refine WL.callp hs Q0 (Yc.func Q0 fn191) (c_spec_IsServer _ _ (Sl.Ok.elem (hs.okow (x := s23) (F := F23) Q1) hg23) (by show ∀ f ∈ (PServer.lg _).files, _; rw [hu9]; exact putOn_pol hDp hpy)) ?_
    clear hs; intro w hs
    refine WL.run (d := 63) Q0 Q0 ?_
    refine WL.p Q0 (Yl.not Q0) ?_
    refine WL.p Q0 (Yl.pickF Q0 Q0) ?_
    refine WL.next ?_
    refine WC.condS Q0 (fun h4 => ?_) (fun h4 => ?_)
    ·
     replace h4 := not_eq_true h4
     refine WC.seq ?_
     refine Qm ?_
     refine WL.call hs Q0 (Yc.func Q0 fn186) (c_spec_l12Copy _ _ (Ph.old h_l hs) (by exact hbz)) ?_
     have hs0 := hs; clear hs; intro v w hb hR hs; clear hs
     obtain ⟨x25, rfl, hx25, hf25⟩ := hR
     obtain ⟨F25, hs⟩ := hf25.sat hs0 hb; clear hs0 hf25
     have hle25 := Sl.Ok.le (hs.okow (x := x25) (F := F25) Q1)
     refine Qa ?_
     refine Qa ?_
     refine WL.next ?_
     refine WC.ret ?_
     refine At.thenret ?_
     refine fin2' rfl Q0 Q0 ?_
     refine Ret.mk hs ?_
     have hjL : idxF (onHost a.host) (l.l.map PServer.lg) 0 = (j : Int) := by rw [idx_host]; exact hj
     have hw9 : x3.l.map PServer.lg = withHost (l.l.map PServer.lg) a.host := by rw [(host_hit hjL).1]; exact hx3
     have hi9 : hostIx (l.l.map PServer.lg) a.host = j := (host_hit hjL).2
     have hd9 := hdx
     have hu9 : PServer.lg (⟨dx.host, s22⟩ : PServer) = putOn (PServer.lg dx) a.path y := by
      rw [putOn_new (s := PServer.lg dx) (Int.not_le.1 h2)]
      simp only [PServer.lg, hl22]
     have hall9 : s23.l.map PServer.lg = putAll (l.l.map PServer.lg) a y := by rw [hl23]; exact put_all hw9 hi9 hd9 hu9
     have hpi9 := put_is hall9 hi9 hg23
     have hln9 : s23.l.length = x3.l.length := by rw [hl23, List.length_set]
     rw [hln9] at hpi9
     have hb9 : putIs (l.l.map PServer.lg) a y = false := by
      clear hs
      rw [hpi9]
      first
       | (simp_all; done)
       | (simp_all; omega)
       | (rw [Bool.and_eq_false_iff]; left; exact decide_eq_false Q7)
       | (rw [Bool.and_eq_true]; exact ⟨decide_eq_true Q7, by simp_all⟩)
       | (rw [Bool.and_eq_false_iff]; right; simp_all)
     exact ⟨x25, by rw [hb9], hx25.trans (putFile_no hb9).symm, hs.fresh Q1⟩
    ·
     replace h4 := not_eq_false h4
     refine WC.skipn ?_
     refine WC.seq ?_
     refine Qm ?_
     refine Qa ?_
     refine Qa ?_
     refine WL.next ?_
     refine WC.ret ?_
     refine fin2' rfl Q0 Q0 ?_
     refine Ret.mk hs ?_
     have hjL : idxF (onHost a.host) (l.l.map PServer.lg) 0 = (j : Int) := by rw [idx_host]; exact hj
     have hw9 : x3.l.map PServer.lg = withHost (l.l.map PServer.lg) a.host := by rw [(host_hit hjL).1]; exact hx3
     have hi9 : hostIx (l.l.map PServer.lg) a.host = j := (host_hit hjL).2
     have hd9 := hdx
     have hu9 : PServer.lg (⟨dx.host, s22⟩ : PServer) = putOn (PServer.lg dx) a.path y := by
      rw [putOn_new (s := PServer.lg dx) (Int.not_le.1 h2)]
      simp only [PServer.lg, hl22]
     have hall9 : s23.l.map PServer.lg = putAll (l.l.map PServer.lg) a y := by rw [hl23]; exact put_all hw9 hi9 hd9 hu9
     have hpi9 := put_is hall9 hi9 hg23
     have hln9 : s23.l.length = x3.l.length := by rw [hl23, List.length_set]
     rw [hln9] at hpi9
     have hb9 : putIs (l.l.map PServer.lg) a y = true := by
      clear hs
      rw [hpi9]
      first
       | (simp_all; done)
       | (simp_all; omega)
       | (rw [Bool.and_eq_false_iff]; left; exact decide_eq_false Q7)
       | (rw [Bool.and_eq_true]; exact ⟨decide_eq_true Q7, by simp_all⟩)
       | (rw [Bool.and_eq_false_iff]; right; simp_all)
     exact ⟨s23, by rw [hb9]; exact congrArg (fun z => Value.tuple #[z, Bo true]) (hv23).symm, hall9.trans (putFile_yes hb9).symm, hs.fresh Q1⟩

set_option maxRecDepth 20000 in
theorem c_spec_l12Servers (c : Nat) (b_ : Sl UInt8) (w : World)   (h_c : CurAt 205 b_ c w) (hb_c : CurB w b_ c) : Calls Tryz.prog 238 [bp c 0].toArray w (RetD 205 b_ c w (fun v w' => ∃ (l : Sl PServer), v = l.v ∧ (True) ∧ (lsz TServer.size (l.l.map PServer.lg) ≤ 40000 ∧ 0 < l.l.length) ∧ Fresh w l w')) := by
 refine enterN 85 Tryz.func238 rfl rfl rfl ?_
 have hs := Sat.startC h_c
 refine WC.seq ?_
 refine Qa ?_
 refine WL.next ?_
 refine WC.seq ?_
 refine WL.r Q0 (Yr.buildSlice hs sll24 Q0 Q0 Q0 Q4 Q0) ?_
 clear hs; rintro _ w ⟨b1, rfl, hb, hs⟩; clear hb
 refine Qa ?_
 refine WL.next ?_
 refine WC.seq' ?_
 refine WC.seq ?_
 refine WL.r Q0 (Yr.buildSlice hs sll34 Q0 Q0 Q0 Q4 Q0) ?_
 clear hs; rintro _ w ⟨b2, rfl, hb, hs⟩; clear hb
 replace hs := Sat.boxow (l := ([([104, 111, 109, 101] : Str), ([99, 100, 110] : Str), ([101, 118, 105, 108] : Str)] : List Str)) (hs.sel (D := [box b2 _ _]) Q2) rfl rfl (by decide) (ownL_mk_flat (lit_str Q0))
 try simp only [List.cons_append, List.nil_append] at hs
 refine WL.p Q0 (Yl.len_sl slu34 Q0) ?_
 refine Qm ?_
 refine WL.next ?_
 refine WC.block ?_
 replace hs := Sat.boxow (l := ([] : List PServer)) (hs.sel (D := [box b1 _ _]) Q2) rfl rfl (by simp) (show ownL _ [] [] from rfl)
 try simp only [List.cons_append, List.nil_append] at hs
 refine WC.loopC (ι := Nat × Sl PServer × List Nat) (fun ⟨k, s, F⟩ => 3 - k) (fun ⟨k, s, F⟩ => [(12, I (k : Int)), (3, s.v)]) (fun ⟨k, s, F⟩ => [ow s F]) (fun ⟨k, s, F⟩ => k ≤ 3 ∧ lsz TServer.size (s.l.map PServer.lg) ≤ k * 9000) [(0, _), (2, _), (10, _), (11, _)] (0, ⟨[], some ⟨b1, 0, none⟩, 0⟩, [b1]) (hs.sel (D := [ow (⟨[], some ⟨b1, 0, none⟩, 0⟩ : Sl PServer) [b1]]) Q2) ⟨by rfl, by rfl, by rfl, by rfl, trivial⟩ ⟨by rfl, by rfl, trivial⟩ ?_ ?_
 ·
  exact ⟨by omega, by simp [lsz, lsum]⟩
 clear hs; rintro ⟨k, s, F⟩ w ⟨hJ1, hJ2⟩ hs
 simp only [List.cons_append, List.nil_append] at hs
 refine WC.seq ?_
 refine WL.p Q0 (Yl.lss Q0 Q0) ?_
 refine WL.next ?_
 refine WC.seq' ?_
 refine WC.condS Q0 (fun h1 => ?_) (fun h1 => ?_)
 ·
  replace h1 := of_decide_eq_true h1
  replace h1 : (k : Int) < 3 := h1
  obtain ⟨d, hd⟩ := exists_get (l := ([([104, 111, 109, 101] : Str), ([99, 100, 110] : Str), ([101, 118, 105, 108] : Str)] : List Str)) (k := k) (by simp; omega)
  have hdn := mem_len 4 (List.mem_of_getElem? hd) Q0
  refine WC.skipn ?_
  refine WC.seq' ?_
  refine WC.block ?_
  refine WC.seq ?_
  refine WL.p Q0 (Yl.indexAddr slt34 Q0 Q0 (hs.okow (x := (⟨[([104, 111, 109, 101] : Str), ([99, 100, 110] : Str), ([101, 118, 105, 108] : Str)], some ⟨b2, 0, none⟩, 3⟩ : Sl Str)) (F := [b2]) Q1) Q0 (hd)) ?_
  refine WL.p Q0 (Yl.loadC0 sca9 Q0 (Sl.Ok.at_ (hs.okow (x := (⟨[([104, 111, 109, 101] : Str), ([99, 100, 110] : Str), ([101, 118, 105, 108] : Str)], some ⟨b2, 0, none⟩, 3⟩ : Sl Str)) (F := [b2]) Q1) (by assumption)).2 Q0) ?_
  refine Qa ?_
  refine WL.next ?_
  refine WC.seq' ?_
  refine WC.seq ?_
  refine WL.r Q0 (Yr.buildSlice hs sll34 Q0 Q0 Q0 Q4 Q0) ?_
  clear hs; rintro _ w ⟨b3, rfl, hb, hs⟩; clear hb
  replace hs := Sat.boxow (l := ([([97, 112, 112] : Str), ([108, 105, 98] : Str), ([117, 116, 105, 108] : Str)] : List Str)) (hs.sel (D := [box b3 _ _]) Q2) rfl rfl (by decide) (ownL_mk_flat (lit_str Q0))
  try simp only [List.cons_append, List.nil_append] at hs
  refine WL.p Q0 (Yl.len_sl slu34 Q0) ?_
  refine Qm ?_
  refine WL.next ?_
  refine WC.block ?_
  refine WC.loopC (ι := Nat × Sl PServer × List Nat) (fun ⟨j, z, G⟩ => 3 - j) (fun ⟨j, z, G⟩ => [(18, I (j : Int)), (3, z.v)]) (fun ⟨j, z, G⟩ => [ow z G]) (fun ⟨j, z, G⟩ => j ≤ 3 ∧ lsz TServer.size (z.l.map PServer.lg) ≤ k * 9000 + j * 1300) [(0, _), (2, _), (5, _), (10, _), (11, _), (12, _), (13, _), (16, _), (17, _)] (0, s, F) (hs.sel (D := [ow s F]) Q2) ⟨by rfl, by rfl, by rfl, by rfl, by rfl, by rfl, by rfl, by rfl, by rfl, trivial⟩ ⟨by rfl, by rfl, trivial⟩ ?_ ?_
  ·
   show 0 ≤ 3 ∧ lsz TServer.size (s.l.map PServer.lg) ≤ k * 9000 + 0 * 1300
   exact ⟨by omega, by omega⟩
  clear hs; rintro ⟨j, z, G⟩ w ⟨hI1, hI2⟩ hs
  simp only [List.cons_append, List.nil_append] at hs
  refine WC.seq ?_
  refine WL.p Q0 (Yl.lss Q0 Q0) ?_
  refine WL.next ?_
  refine WC.seq' ?_
  refine WC.condS Q0 (fun h2 => ?_) (fun h2 => ?_)
  ·
   replace h2 := of_decide_eq_true h2
   replace h2 : (j : Int) < 3 := h2
   obtain ⟨e, he⟩ := exists_get (l := ([([97, 112, 112] : Str), ([108, 105, 98] : Str), ([117, 116, 105, 108] : Str)] : List Str)) (k := j) (by simp; omega)
   have hen := mem_len 4 (List.mem_of_getElem? he) Q0
   refine WC.skipn ?_
   refine WC.seq' ?_
   refine WC.block ?_
   refine WC.seq ?_
   refine WL.p Q0 (Yl.indexAddr slt34 Q0 Q0 (hs.okow (x := (⟨[([97, 112, 112] : Str), ([108, 105, 98] : Str), ([117, 116, 105, 108] : Str)], some ⟨b3, 0, none⟩, 3⟩ : Sl Str)) (F := [b3]) Q1) Q0 (he)) ?_
   refine WL.p Q0 (Yl.loadC0 sca9 Q0 (Sl.Ok.at_ (hs.okow (x := (⟨[([97, 112, 112] : Str), ([108, 105, 98] : Str), ([117, 116, 105, 108] : Str)], some ⟨b3, 0, none⟩, 3⟩ : Sl Str)) (F := [b3]) Q1) (by assumption)).2 Q0) ?_
   refine Qa ?_
   refine WL.next ?_
   refine WC.seq ?_
   refine Qa ?_
   refine WL.next ?_
   refine WC.seq' ?_
   refine WC.seq ?_
   refine Qm ?_
   refine WL.p Q0 (Yl.nes Q0 Q0) ?_
   refine Qm ?_
   refine WL.split (d := 24) Q0 (fun h3 => ?_) (fun h3 => ?_)
   ·
    replace h3 := not_eq_true h3
    replace h3 := of_decide_eq_false h3
    refine WL.run (d := 24) Q0 Q0 ?_
    refine Qm ?_
    refine WL.run (d := 24) Q0 Q0 ?_
    refine WL.calld hs (T := 205) (b := b_) (c := c) Q2 Q0 (Yc.func Q0 fn100) (c_spec_l1Once c b_ _ _ (hs.cur Q1) (Apart.now hb_c hs)) ?_
    clear hs; intro v w ho hR hs
    obtain ⟨x4, rfl, _, hx4, hf4⟩ := hR
    clear ho hf4
    refine WL.p Q0 (Yl.pickT Q0 Q0) ?_
    refine WL.next ?_
    refine WC.condS Q0 (fun h4 => ?_) (fun h4 => ?_)
    ·
     refine WC.region ?_
     refine Qa ?_
     refine WL.nil ?_
     refine At.then_ ?_
     refine WC.seq ?_
     refine Qm ?_
     refine WL.calld hs (T := 205) (b := b_) (c := c) Q2 Q0 (Yc.func Q0 fn100) (c_spec_l1Once c b_ _ _ (hs.cur Q1) (Apart.now hb_c hs)) ?_
     clear hs; intro v w ho hR hs
     obtain ⟨x5, rfl, _, hx5, hf5⟩ := hR
     clear ho hf5
     refine WL.p Q0 (Yl.not Q0) ?_
     refine WL.next ?_
     refine WC.condS Q0 (fun h5 => ?_) (fun h5 => ?_)
     ·
      replace h5 := not_eq_true h5
      refine WC.region ?_
      refine Qm ?_
      refine Qm ?_
      refine Qm ?_
      refine WL.p Q0 (Yl.build bt39 Q0 Q4) ?_
      refine Qm ?_
      refine Qm ?_
      refine WL.calld hs (T := 205) (b := b_) (c := c) Q2 Q0 (Yc.func Q0 fn158) (c_spec_l10Response c b_ _ _ (show WfI _ from ⟨by omega, by omega⟩) (hs.cur Q1) (Apart.now hb_c hs)) ?_
      clear hs; intro v w ho hR hs
      obtain ⟨x6, rfl, hokx6, hx6, hf6⟩ := hR
      clear ho hf6
      have hn6 := hx6.1
      refine WL.call hs Q0 (Yc.func Q0 fn291) (c_spec_PutFile _ (⟨d, e⟩ : TAddr) _ _ (hs.okow (x := z) (F := G) Q1) ⟨(Sl.Ok.elem (hs.okow (x := (⟨[([104, 111, 109, 101] : Str), ([99, 100, 110] : Str), ([101, 118, 105, 108] : Str)], some ⟨b2, 0, none⟩, 3⟩ : Sl Str)) (F := [b2]) Q1) hd), (Sl.Ok.elem (hs.okow (x := (⟨[([97, 112, 112] : Str), ([108, 105, 98] : Str), ([117, 116, 105, 108] : Str)], some ⟨b3, 0, none⟩, 3⟩ : Sl Str)) (F := [b3]) Q1) he)⟩ (Flat.any hokx6) Q7 (by simp only [TResponse.size] at *; omega)) ?_
      have hs0 := hs; clear hs; intro v w hb hR hs; clear hs
      obtain ⟨x7, rfl, hx7, hf7⟩ := hR
      obtain ⟨F7, hs⟩ := hf7.sat hs0 hb; clear hs0 hf7
      have hz7 := putFile_size_of hx7; simp only [TAddr.size, List.length_cons, List.length_nil] at hz7
      refine Qm ?_
      refine WL.p Q0 (Yl.extract Q0 Q0) ?_
      refine WL.p Q0 (Yl.extract Q0 Q0) ?_
      refine Qa ?_
      refine WL.nil ?_
      refine At.blocknormal ?_
      refine At.then_ ?_
      refine WC.region ?_
      refine WL.p Q0 (Yl.add Q0 Q0 Q7) ?_
      refine Qm ?_
      refine WL.nil ?_
      refine At.roundC (j + 1, x7, F7) (hs.only Q2) ⟨by rfl, by rfl, by rfl, by rfl, by rfl, by rfl, by rfl, by rfl, by rfl, trivial⟩ ⟨by rfl, by rfl, trivial⟩ ?_ ?_
      ·
       show 3 - (j + 1) < 3 - j
       omega
      ·
       show j + 1 ≤ 3 ∧ lsz TServer.size (x7.l.map PServer.lg) ≤ k * 9000 + (j + 1) * 1300
       exact ⟨by omega, by omega⟩
     ·
      replace h5 := not_eq_false h5
      refine WC.skip ?_
      refine At.blocknormal ?_
      refine At.then_ ?_
      refine WC.region ?_
      refine WL.p Q0 (Yl.add Q0 Q0 Q7) ?_
      refine Qm ?_
      refine WL.nil ?_
      refine At.roundC (j + 1, z, G) (hs.only Q2) ⟨by rfl, by rfl, by rfl, by rfl, by rfl, by rfl, by rfl, by rfl, by rfl, trivial⟩ ⟨by rfl, by rfl, trivial⟩ ?_ ?_
      ·
       show 3 - (j + 1) < 3 - j
       omega
      ·
       show j + 1 ≤ 3 ∧ lsz TServer.size (z.l.map PServer.lg) ≤ k * 9000 + (j + 1) * 1300
       exact ⟨by omega, by omega⟩
    ·
     refine WC.skipn ?_
     refine WC.seq ?_
     refine Qm ?_
     refine WL.calld hs (T := 205) (b := b_) (c := c) Q2 Q0 (Yc.func Q0 fn100) (c_spec_l1Once c b_ _ _ (hs.cur Q1) (Apart.now hb_c hs)) ?_
     clear hs; intro v w ho hR hs
     obtain ⟨x8, rfl, _, hx8, hf8⟩ := hR
     clear ho hf8
     refine WL.p Q0 (Yl.not Q0) ?_
     refine WL.next ?_
     refine WC.condS Q0 (fun h5 => ?_) (fun h5 => ?_)
     ·
      replace h5 := not_eq_true h5
      refine WC.region ?_
      refine Qm ?_
      refine Qm ?_
      refine Qm ?_
      refine WL.p Q0 (Yl.build bt39 Q0 Q4) ?_
      refine Qm ?_
      refine Qm ?_
      refine WL.calld hs (T := 205) (b := b_) (c := c) Q2 Q0 (Yc.func Q0 fn158) (c_spec_l10Response c b_ _ _ (show WfI _ from ⟨by omega, by omega⟩) (hs.cur Q1) (Apart.now hb_c hs)) ?_
      clear hs; intro v w ho hR hs
      obtain ⟨x9, rfl, hokx9, hx9, hf9⟩ := hR
      clear ho hf9
      have hn9 := hx9.1
      refine WL.call hs Q0 (Yc.func Q0 fn291) (c_spec_PutFile _ (⟨d, e⟩ : TAddr) _ _ (hs.okow (x := z) (F := G) Q1) ⟨(Sl.Ok.elem (hs.okow (x := (⟨[([104, 111, 109, 101] : Str), ([99, 100, 110] : Str), ([101, 118, 105, 108] : Str)], some ⟨b2, 0, none⟩, 3⟩ : Sl Str)) (F := [b2]) Q1) hd), (Sl.Ok.elem (hs.okow (x := (⟨[([97, 112, 112] : Str), ([108, 105, 98] : Str), ([117, 116, 105, 108] : Str)], some ⟨b3, 0, none⟩, 3⟩ : Sl Str)) (F := [b3]) Q1) he)⟩ (Flat.any hokx9) Q7 (by simp only [TResponse.size] at *; omega)) ?_
      have hs0 := hs; clear hs; intro v w hb hR hs; clear hs
      obtain ⟨x10, rfl, hx10, hf10⟩ := hR
      obtain ⟨F10, hs⟩ := hf10.sat hs0 hb; clear hs0 hf10
      have hz10 := putFile_size_of hx10; simp only [TAddr.size, List.length_cons, List.length_nil] at hz10
      refine Qm ?_
      refine WL.p Q0 (Yl.extract Q0 Q0) ?_
      refine WL.p Q0 (Yl.extract Q0 Q0) ?_
      refine Qa ?_
      refine WL.nil ?_
      refine At.blocknormal ?_
      refine At.then_ ?_
      refine WC.region ?_
      refine WL.p Q0 (Yl.add Q0 Q0 Q7) ?_
      refine Qm ?_
      refine WL.nil ?_
      refine At.roundC (j + 1, x10, F10) (hs.only Q2) ⟨by rfl, by rfl, by rfl, by rfl, by rfl, by rfl, by rfl, by rfl, by rfl, trivial⟩ ⟨by rfl, by rfl, trivial⟩ ?_ ?_
      ·
       show 3 - (j + 1) < 3 - j
       omega
      ·
       show j + 1 ≤ 3 ∧ lsz TServer.size (x10.l.map PServer.lg) ≤ k * 9000 + (j + 1) * 1300
       exact ⟨by omega, by omega⟩
     ·
      replace h5 := not_eq_false h5
      refine WC.skip ?_
      refine At.blocknormal ?_
      refine At.then_ ?_
      refine WC.region ?_
      refine WL.p Q0 (Yl.add Q0 Q0 Q7) ?_
      refine Qm ?_
      refine WL.nil ?_
      refine At.roundC (j + 1, z, G) (hs.only Q2) ⟨by rfl, by rfl, by rfl, by rfl, by rfl, by rfl, by rfl, by rfl, by rfl, trivial⟩ ⟨by rfl, by rfl, trivial⟩ ?_ ?_
      ·
       show 3 - (j + 1) < 3 - j
       omega
      ·
       show j + 1 ≤ 3 ∧ lsz TServer.size (z.l.map PServer.lg) ≤ k * 9000 + (j + 1) * 1300
       exact ⟨by omega, by omega⟩
   ·
    replace h3 := not_eq_false h3
    replace h3 := of_decide_eq_true h3
    refine WL.skip (d := 24) Q0 Q0 Q0 Q0 ?_
    refine WL.skip (d := 24) Q0 Q0 Q0 Q0 ?_
    refine WL.p Q0 (Yl.pickF Q0 Q0) ?_
    refine WL.next ?_
    refine WC.condF Q0 ?_
    refine WC.skipn ?_
    refine WC.seq ?_
    refine Qm ?_
    refine WL.calld hs (T := 205) (b := b_) (c := c) Q2 Q0 (Yc.func Q0 fn100) (c_spec_l1Once c b_ _ _ (hs.cur Q1) (Apart.now hb_c hs)) ?_
    clear hs; intro v w ho hR hs
    obtain ⟨x11, rfl, _, hx11, hf11⟩ := hR
    clear ho hf11
    refine WL.p Q0 (Yl.not Q0) ?_
    refine WL.next ?_
    refine WC.condS Q0 (fun h4 => ?_) (fun h4 => ?_)
    ·
     replace h4 := not_eq_true h4
     refine WC.region ?_
     refine Qm ?_
     refine Qm ?_
     refine Qm ?_
     refine WL.p Q0 (Yl.build bt39 Q0 Q4) ?_
     refine Qm ?_
     refine Qm ?_
     refine WL.calld hs (T := 205) (b := b_) (c := c) Q2 Q0 (Yc.func Q0 fn158) (c_spec_l10Response c b_ _ _ (show WfI _ from ⟨by omega, by omega⟩) (hs.cur Q1) (Apart.now hb_c hs)) ?_
     clear hs; intro v w ho hR hs
     obtain ⟨x12, rfl, hokx12, hx12, hf12⟩ := hR
     clear ho hf12
     have hn12 := hx12.1
     refine WL.call hs Q0 (Yc.func Q0 fn291) (c_spec_PutFile _ (⟨d, e⟩ : TAddr) _ _ (hs.okow (x := z) (F := G) Q1) ⟨(Sl.Ok.elem (hs.okow (x := (⟨[([104, 111, 109, 101] : Str), ([99, 100, 110] : Str), ([101, 118, 105, 108] : Str)], some ⟨b2, 0, none⟩, 3⟩ : Sl Str)) (F := [b2]) Q1) hd), (Sl.Ok.elem (hs.okow (x := (⟨[([97, 112, 112] : Str), ([108, 105, 98] : Str), ([117, 116, 105, 108] : Str)], some ⟨b3, 0, none⟩, 3⟩ : Sl Str)) (F := [b3]) Q1) he)⟩ (Flat.any hokx12) Q7 (by simp only [TResponse.size] at *; omega)) ?_
     have hs0 := hs; clear hs; intro v w hb hR hs; clear hs
     obtain ⟨x13, rfl, hx13, hf13⟩ := hR
     obtain ⟨F13, hs⟩ := hf13.sat hs0 hb; clear hs0 hf13
     have hz13 := putFile_size_of hx13; simp only [TAddr.size, List.length_cons, List.length_nil] at hz13
     refine Qm ?_
     refine WL.p Q0 (Yl.extract Q0 Q0) ?_
     refine WL.p Q0 (Yl.extract Q0 Q0) ?_
     refine Qa ?_
     refine WL.nil ?_
     refine At.blocknormal ?_
     refine At.then_ ?_
     refine WC.region ?_
     refine WL.p Q0 (Yl.add Q0 Q0 Q7) ?_
     refine Qm ?_
     refine WL.nil ?_
     refine At.roundC (j + 1, x13, F13) (hs.only Q2) ⟨by rfl, by rfl, by rfl, by rfl, by rfl, by rfl, by rfl, by rfl, by rfl, trivial⟩ ⟨by rfl, by rfl, trivial⟩ ?_ ?_
     ·
      show 3 - (j + 1) < 3 - j
      omega
     ·
      show j + 1 ≤ 3 ∧ lsz TServer.size (x13.l.map PServer.lg) ≤ k * 9000 + (j + 1) * 1300
      exact ⟨by omega, by omega⟩
    ·
     replace h4 := not_eq_false h4
     refine WC.skip ?_
     refine At.blocknormal ?_
     refine At.then_ ?_
     refine WC.region ?_
     refine WL.p Q0 (Yl.add Q0 Q0 Q7) ?_
     refine Qm ?_
     refine WL.nil ?_
     refine At.roundC (j + 1, z, G) (hs.only Q2) ⟨by rfl, by rfl, by rfl, by rfl, by rfl, by rfl, by rfl, by rfl, by rfl, trivial⟩ ⟨by rfl, by rfl, trivial⟩ ?_ ?_
     ·
      show 3 - (j + 1) < 3 - j
      omega
     ·
      show j + 1 ≤ 3 ∧ lsz TServer.size (z.l.map PServer.lg) ≤ k * 9000 + (j + 1) * 1300
      exact ⟨by omega, by omega⟩
  ·
   replace h2 := of_decide_eq_false h2
   refine WC.exit ?_
   refine At.thenexit ?_
   refine At.thenexit ?_
   refine At.blockexit ?_
   refine At.then_ ?_
   refine WC.seq' ?_
   refine WC.seq ?_
   refine Qm ?_
   refine WL.calld hs (T := 205) (b := b_) (c := c) Q2 Q0 (Yc.func Q0 fn100) (c_spec_l1Once c b_ _ _ (hs.cur Q1) (Apart.now hb_c hs)) ?_
   clear hs; intro v w ho hR hs
   obtain ⟨x14, rfl, _, hx14, hf14⟩ := hR
   clear ho hf14
   refine WL.p Q0 (Yl.not Q0) ?_
   refine WL.next ?_
   refine WC.condS Q0 (fun h3 => ?_) (fun h3 => ?_)
   ·
    replace h3 := not_eq_true h3
    refine WC.region ?_
    refine Qm ?_
    refine Qm ?_
    refine WL.p Q0 (Yl.build bt39 Q0 Q4) ?_
    refine Qm ?_
    refine WL.calld hs (T := 205) (b := b_) (c := c) Q2 Q0 (Yc.func Q0 fn158) (c_spec_l10Response c b_ _ _ (show WfI _ from ⟨by omega, by omega⟩) (hs.cur Q1) (Apart.now hb_c hs)) ?_
    clear hs; intro v w ho hR hs
    obtain ⟨x15, rfl, hokx15, hx15, hf15⟩ := hR
    clear ho hf15
    have hn15 := hx15.1
    refine WL.call hs Q0 (Yc.func Q0 fn291) (c_spec_PutFile _ (⟨d, ([115, 116, 121, 108, 101] : Str)⟩ : TAddr) _ _ (hs.okow (x := z) (F := G) Q1) ⟨(Sl.Ok.elem (hs.okow (x := (⟨[([104, 111, 109, 101] : Str), ([99, 100, 110] : Str), ([101, 118, 105, 108] : Str)], some ⟨b2, 0, none⟩, 3⟩ : Sl Str)) (F := [b2]) Q1) hd), (show WfS [115, 116, 121, 108, 101] from (by unfold WfS; simp))⟩ (Flat.any hokx15) Q7 (by simp only [TResponse.size] at *; omega)) ?_
    have hs0 := hs; clear hs; intro v w hb hR hs; clear hs
    obtain ⟨x16, rfl, hx16, hf16⟩ := hR
    obtain ⟨F16, hs⟩ := hf16.sat hs0 hb; clear hs0 hf16
    have hz16 := putFile_size_of hx16; simp only [TAddr.size, List.length_cons, List.length_nil] at hz16
    refine Qm ?_
    refine WL.p Q0 (Yl.extract Q0 Q0) ?_
    refine WL.p Q0 (Yl.extract Q0 Q0) ?_
    refine Qa ?_
    refine WL.nil ?_
    refine At.then_ ?_
    refine WC.seq ?_
    refine Qm ?_
    refine WL.calld hs (T := 205) (b := b_) (c := c) Q2 Q0 (Yc.func Q0 fn100) (c_spec_l1Once c b_ _ _ (hs.cur Q1) (Apart.now hb_c hs)) ?_
    clear hs; intro v w ho hR hs
    obtain ⟨x17, rfl, _, hx17, hf17⟩ := hR
    clear ho hf17
    refine WL.p Q0 (Yl.not Q0) ?_
    refine WL.next ?_
    refine WC.condS Q0 (fun h4 => ?_) (fun h4 => ?_)
    ·
     replace h4 := not_eq_true h4
     refine WC.region ?_
     refine Qm ?_
     refine Qm ?_
     refine WL.p Q0 (Yl.build bt39 Q0 Q4) ?_
     refine Qm ?_
     refine WL.calld hs (T := 205) (b := b_) (c := c) Q2 Q0 (Yc.func Q0 fn158) (c_spec_l10Response c b_ _ _ (show WfI _ from ⟨by omega, by omega⟩) (hs.cur Q1) (Apart.now hb_c hs)) ?_
     clear hs; intro v w ho hR hs
     obtain ⟨x18, rfl, hokx18, hx18, hf18⟩ := hR
     clear ho hf18
     have hn18 := hx18.1
     refine WL.call hs Q0 (Yc.func Q0 fn291) (c_spec_PutFile _ (⟨d, ([108, 111, 103, 111] : Str)⟩ : TAddr) _ _ (hs.okow (x := x16) (F := F16) Q1) ⟨(Sl.Ok.elem (hs.okow (x := (⟨[([104, 111, 109, 101] : Str), ([99, 100, 110] : Str), ([101, 118, 105, 108] : Str)], some ⟨b2, 0, none⟩, 3⟩ : Sl Str)) (F := [b2]) Q1) hd), (show WfS [108, 111, 103, 111] from (by unfold WfS; simp))⟩ (Flat.any hokx18) Q7 (by simp only [TResponse.size] at *; omega)) ?_
     have hs0 := hs; clear hs; intro v w hb hR hs; clear hs
     obtain ⟨x19, rfl, hx19, hf19⟩ := hR
     obtain ⟨F19, hs⟩ := hf19.sat hs0 hb; clear hs0 hf19
     have hz19 := putFile_size_of hx19; simp only [TAddr.size, List.length_cons, List.length_nil] at hz19
     refine Qm ?_
     refine WL.p Q0 (Yl.extract Q0 Q0) ?_
     refine WL.p Q0 (Yl.extract Q0 Q0) ?_
     refine Qa ?_
     refine WL.nil ?_
     refine At.blocknormal ?_
     refine At.then_ ?_
     refine WC.region ?_
     refine WL.p Q0 (Yl.add Q0 Q0 Q7) ?_
     refine Qm ?_
     refine WL.nil ?_
     refine At.roundC (k + 1, x19, F19) (hs.only Q2) ⟨by rfl, by rfl, by rfl, by rfl, trivial⟩ ⟨by rfl, by rfl, trivial⟩ ?_ ?_
     ·
      show 3 - (k + 1) < 3 - k
      omega
     ·
      show k + 1 ≤ 3 ∧ lsz TServer.size (x19.l.map PServer.lg) ≤ (k + 1) * 9000
      exact ⟨by omega, by omega⟩
    ·
     replace h4 := not_eq_false h4
     refine WC.skip ?_
     refine At.blocknormal ?_
     refine At.then_ ?_
     refine WC.region ?_
     refine WL.p Q0 (Yl.add Q0 Q0 Q7) ?_
     refine Qm ?_
     refine WL.nil ?_
     refine At.roundC (k + 1, x16, F16) (hs.only Q2) ⟨by rfl, by rfl, by rfl, by rfl, trivial⟩ ⟨by rfl, by rfl, trivial⟩ ?_ ?_
     ·
      show 3 - (k + 1) < 3 - k
      omega
     ·
      show k + 1 ≤ 3 ∧ lsz TServer.size (x16.l.map PServer.lg) ≤ (k + 1) * 9000
      exact ⟨by omega, by omega⟩
   ·
    replace h3 := not_eq_false h3
    refine WC.skipn ?_
    refine WC.seq ?_
    refine Qm ?_
    refine WL.calld hs (T := 205) (b := b_) (c := c) Q2 Q0 (Yc.func Q0 fn100) (c_spec_l1Once c b_ _ _ (hs.cur Q1) (Apart.now hb_c hs)) ?_
    clear hs; intro v w ho hR hs
    obtain ⟨x20, rfl, _, hx20, hf20⟩ := hR
    clear ho hf20
    refine WL.p Q0 (Yl.not Q0) ?_
    refine WL.next ?_
    refine WC.condS Q0 (fun h4 => ?_) (fun h4 => ?_)
    ·
     replace h4 := not_eq_true h4
     refine WC.region ?_
     refine Qm ?_
     refine Qm ?_
     refine WL.p Q0 (Yl.build bt39 Q0 Q4) ?_
     refine Qm ?_
     refine WL.calld hs (T := 205) (b := b_) (c := c) Q2 Q0 (Yc.func Q0 fn158) (c_spec_l10Response c b_ _ _ (show WfI _ from ⟨by omega, by omega⟩) (hs.cur Q1) (Apart.now hb_c hs)) ?_
     clear hs; intro v w ho hR hs
     obtain ⟨x21, rfl, hokx21, hx21, hf21⟩ := hR
     clear ho hf21
     have hn21 := hx21.1
     refine WL.call hs Q0 (Yc.func Q0 fn291) (c_spec_PutFile _ (⟨d, ([108, 111, 103, 111] : Str)⟩ : TAddr) _ _ (hs.okow (x := z) (F := G) Q1) ⟨(Sl.Ok.elem (hs.okow (x := (⟨[([104, 111, 109, 101] : Str), ([99, 100, 110] : Str), ([101, 118, 105, 108] : Str)], some ⟨b2, 0, none⟩, 3⟩ : Sl Str)) (F := [b2]) Q1) hd), (show WfS [108, 111, 103, 111] from (by unfold WfS; simp))⟩ (Flat.any hokx21) Q7 (by simp only [TResponse.size] at *; omega)) ?_
     have hs0 := hs; clear hs; intro v w hb hR hs; clear hs
     obtain ⟨x22, rfl, hx22, hf22⟩ := hR
     obtain ⟨F22, hs⟩ := hf22.sat hs0 hb; clear hs0 hf22
     have hz22 := putFile_size_of hx22; simp only [TAddr.size, List.length_cons, List.length_nil] at hz22
     refine Qm ?_
     refine WL.p Q0 (Yl.extract Q0 Q0) ?_
     refine WL.p Q0 (Yl.extract Q0 Q0) ?_
     refine Qa ?_
     refine WL.nil ?_
     refine At.blocknormal ?_
     refine At.then_ ?_
     refine WC.region ?_
     refine WL.p Q0 (Yl.add Q0 Q0 Q7) ?_
     refine Qm ?_
     refine WL.nil ?_
     refine At.roundC (k + 1, x22, F22) (hs.only Q2) ⟨by rfl, by rfl, by rfl, by rfl, trivial⟩ ⟨by rfl, by rfl, trivial⟩ ?_ ?_
     ·
      show 3 - (k + 1) < 3 - k
      omega
     ·
      show k + 1 ≤ 3 ∧ lsz TServer.size (x22.l.map PServer.lg) ≤ (k + 1) * 9000
      exact ⟨by omega, by omega⟩
    ·
     replace h4 := not_eq_false h4
     refine WC.skip ?_
     refine At.blocknormal ?_
     refine At.then_ ?_
     refine WC.region ?_
     refine WL.p Q0 (Yl.add Q0 Q0 Q7) ?_
     refine Qm ?_
     refine WL.nil ?_
     refine At.roundC (k + 1, z, G) (hs.only Q2) ⟨by rfl, by rfl, by rfl, by rfl, trivial⟩ ⟨by rfl, by rfl, trivial⟩ ?_ ?_
     ·
      show 3 - (k + 1) < 3 - k
      omega
     ·
      show k + 1 ≤ 3 ∧ lsz TServer.size (z.l.map PServer.lg) ≤ (k + 1) * 9000
      exact ⟨by omega, by omega⟩
 ·
  replace h1 := of_decide_eq_false h1
  refine WC.exit ?_
  refine At.thenexit ?_
  refine At.thenexit ?_
  refine At.blockexit ?_
  refine At.then_ ?_
  refine WC.seq ?_
  refine Qm ?_
  refine WL.p Q0 (Yl.build bt39 Q0 Q4) ?_
  refine Qm ?_
  refine WL.calld hs (T := 205) (b := b_) (c := c) Q2 Q0 (Yc.func Q0 fn158) (c_spec_l10Response c b_ _ _ (show WfI _ from ⟨by omega, by omega⟩) (hs.cur Q1) (Apart.now hb_c hs)) ?_
  clear hs; intro v w ho hR hs
  obtain ⟨x23, rfl, hokx23, hx23, hf23⟩ := hR
  clear ho hf23
  have hn23 := hx23.1
  refine WL.call hs Q0 (Yc.func Q0 fn291) (c_spec_PutFile _ (⟨([104, 111, 109, 101] : Str), ([105, 110, 100, 101, 120] : Str)⟩ : TAddr) _ _ (hs.okow (x := s) (F := F) Q1) ⟨(show WfS [104, 111, 109, 101] from (by unfold WfS; simp)), (show WfS [105, 110, 100, 101, 120] from (by unfold WfS; simp))⟩ (Flat.any hokx23) Q7 (by simp only [TResponse.size] at *; omega)) ?_
  have hs0 := hs; clear hs; intro v w hb hR hs; clear hs
  obtain ⟨x24, rfl, hx24, hf24⟩ := hR
  obtain ⟨F24, hs⟩ := hf24.sat hs0 hb; clear hs0 hf24
  have hz24 := putFile_size_of hx24; simp only [TAddr.size, List.length_cons, List.length_nil] at hz24
  refine Qm ?_
  refine WL.p Q0 (Yl.extract Q0 Q0) ?_
  refine WL.p Q0 (Yl.extract Q0 Q0) ?_
  refine Qa ?_
  refine WL.next ?_
  refine WC.seq ?_
  refine Qm ?_
  refine WL.p Q0 (Yl.build bt39 Q0 Q4) ?_
  refine Qm ?_
  refine WL.calld hs (T := 205) (b := b_) (c := c) Q2 Q0 (Yc.func Q0 fn158) (c_spec_l10Response c b_ _ _ (show WfI _ from ⟨by omega, by omega⟩) (hs.cur Q1) (Apart.now hb_c hs)) ?_
  clear hs; intro v w ho hR hs
  obtain ⟨x25, rfl, hokx25, hx25, hf25⟩ := hR
  clear ho hf25
  have hn25 := hx25.1
  refine WL.call hs Q0 (Yc.func Q0 fn291) (c_spec_PutFile _ (⟨([104, 111, 109, 101] : Str), ([110, 101, 120, 116] : Str)⟩ : TAddr) _ _ (hs.okow (x := x24) (F := F24) Q1) ⟨(show WfS [104, 111, 109, 101] from (by unfold WfS; simp)), (show WfS [110, 101, 120, 116] from (by unfold WfS; simp))⟩ (Flat.any hokx25) Q7 (by simp only [TResponse.size] at *; omega)) ?_
  have hs0 := hs; clear hs; intro v w hb hR hs; clear hs
  obtain ⟨x26, rfl, hx26, hf26⟩ := hR
  obtain ⟨F26, hs⟩ := hf26.sat hs0 hb; clear hs0 hf26
  have hz26 := putFile_size_of hx26; simp only [TAddr.size, List.length_cons, List.length_nil] at hz26
  refine Qm ?_
  refine WL.p Q0 (Yl.extract Q0 Q0) ?_
  refine WL.p Q0 (Yl.extract Q0 Q0) ?_
  refine Qa ?_
  refine WL.next ?_
  refine WC.seq ?_
  refine Qm ?_
  refine Qa ?_
  refine WL.next ?_
  refine WC.ret ?_
  refine fin1' rfl Q0 ?_
  refine RetD.mk hs Q1 ?_
  refine ⟨x26, rfl, trivial, ?_, ?_⟩
  ·
   refine ⟨by omega, ?_⟩
   have g9 := put_nonempty_of hx26 (hx25.2 Q7 Q7) (by decide)
   rw [List.length_map] at g9; exact g9
  ·
   exact hs.freshD (x := x26) (F := F26) Q2

end Go.Sw
