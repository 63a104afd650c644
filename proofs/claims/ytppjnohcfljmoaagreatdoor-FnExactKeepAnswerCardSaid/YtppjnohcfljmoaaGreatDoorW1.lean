/- Walks: what each function of the program returns, for every input. Printed by gen.py. -/
import Derived.Test.YtppjnohcfljmoaaGreatDoorW0
set_option linter.all false
namespace Go.Sw
open Go Go.RowKit Go.Proofs

theorem c_spec_l13Copy (c : PCache) (w : World) (h_c : Ph.ok w c) (hb : c.lg.size ≤ 1048576) : Calls Tryz.prog 135 [.agg #[Sl.v c.entries]].toArray w (Ret w (fun v w' => ∃ x : PCache, v = .agg (Ph.enc x).toArray ∧ x.lg = c.lg ∧ Fresh w x w')) := by
 have hw := h_c.entries.lt
 refine enterN 8 Tryz.func135 rfl rfl rfl ?_
 have hs := Sat.start w
 refine WC.seq ?_
 refine WL.r Q0 (Yr.box hs Q0 Q0) ?_
 clear hs; rintro _ w ⟨b1, rfl, hb, hs⟩; clear hb
 refine WL.r Q0 (Yr.alloc hs zt36) ?_
 clear hs; rintro _ w ⟨b2, rfl, hb, hs⟩; clear hb
 refine WL.next ?_
 refine WC.seq ?_
 refine WL.r Q0 (Yr.buildSlice hs sll34 Q0 Q0 Q0 Q4 Q0) ?_
 clear hs; rintro _ w ⟨b3, rfl, hb, hs⟩; clear hb
 refine WL.p Q0 (Yl.fieldAddr fa36_0 Q0) ?_
 refine WL.p Q0 (Yl.loadB sca34 Q0 hs Q1 Q0) ?_
 replace hs := (Sat.boxow (l := ([] : List TEntry)) (hs.sel (D := [box b3 _ _]) Q2) rfl rfl (by simp [maxLen]) (ownL_mk_flat (by simp)))
 refine WL.r Q0 (Yr.appendS (s := (⟨[], some ⟨b3, 0, none⟩, _⟩ : Sl TEntry)) (F := [b3]) (r := c.entries) hs elt34 Q2 Q0 Q0 (Ph.old h_c.entries hs) (by simp; unfold maxLen; omega) (by simp only [TCache.size, lsz] at hb; simp; omega)) ?_
 clear hs; rintro _ w ⟨s4, F4, rfl, hl4, hs⟩
 refine WL.p Q0 (Yl.build bt36 Q0 Q4) ?_
 refine WL.s (Yr.storeB hs Q0 Q0 Q0 Q5 Q3 Q0 (by exact szf36)) ?_
 clear hs; rintro _ w hs
 refine WL.next ?_
 refine WC.ret ?_
 refine fin1c rfl agg36 Q0 hs Q1 Q0 ?_
 refine Ret.mk hs ?_
 refine ⟨⟨s4⟩, rfl, ?_, ?_⟩
 · simp_all
 · exact (PCache.join _ (hs.only (D := [ow s4 F4]) Q2) ).fresh List.mem_cons_self

theorem c_spec_l14Copy (n : PNet) (w : World) (h_n : Ph.ok w n) (hbs : lsz TServer.size n.lg.servers ≤ 1048576) (hbc : n.lg.cache.size ≤ 1048576) (hbl : n.log.l.length ≤ 1048577) : Calls Tryz.prog 63 [.agg #[Sl.v n.servers, Sl.v n.cache.entries, Sl.v n.log, I n.now]].toArray w (Ret w (fun v w' => ∃ x : PNet, v = .agg (Ph.enc x).toArray ∧ x.lg = n.lg ∧ Fresh w x w')) := by
 refine enterN 16 Tryz.func63 rfl rfl rfl ?_
 have hs := Sat.start w
 refine WC.seq ?_
 refine WL.r Q0 (Yr.box hs Q0 Q0) ?_
 clear hs; rintro _ w ⟨b1, rfl, hb, hs⟩; clear hb
 refine WL.r Q0 (Yr.alloc hs zt39) ?_
 clear hs; rintro _ w ⟨b2, rfl, hb, hs⟩; clear hb
 refine WL.next ?_
 refine WC.anyn2 (c := box b2 _ _) mixed hs (by repeat (first | exact Ext.here | apply Ext.there)) ?_
 clear hs; intro w hs
 refine WA.p (i := 0) Q0 Q6 Q6 Q6 Q0 (hs.only Q2) (fun w hs => Yl.fieldAddr fa39_0 Q0) ?_
 refine WA.p (i := 1) Q0 Q6 Q6 Q6 Q0 (hs.only Q2) (fun w hs => Yl.loadB sca33 Q0 hs Q1 Q0) ?_
 refine WA.p (i := 3) Q0 Q6 Q6 Q6 Q0 (hs.only Q2) (fun w hs => Yl.fieldAddr fa39_1 Q0) ?_
 refine WA.p (i := 4) Q0 Q6 Q6 Q6 Q0 (hs.only Q2) (fun w hs => Yl.loadAB agg36 Q0 hs Q1 Q0 Q0) ?_
 refine WA.p (i := 7) Q0 Q6 Q6 Q6 Q0 (hs.only Q2) (fun w hs => Yl.fieldAddr fa39_2 Q0) ?_
 refine WA.p (i := 8) Q0 Q6 Q6 Q6 Q0 (hs.only Q2) (fun w hs => Yl.loadB sca37 Q0 hs Q1 Q0) ?_
 refine WA.p (i := 10) Q0 Q6 Q6 Q6 Q0 (hs.only Q2) (fun w hs => Yl.fieldAddr fa39_3 Q0) ?_
 refine WA.p (i := 11) Q0 Q6 Q6 Q6 Q0 (hs.only Q2) (fun w hs => Yl.loadB sca3 Q0 hs Q1 Q0) ?_
 refine WA.dag' [(⟨2, 5, [], (fun _ v cs => ∃ (x : Sl PServer) (F : List Nat), v = x.v ∧ cs = [ow x F] ∧ x.l.map PServer.lg = n.servers.l.map PServer.lg)⟩, []), (⟨5, 8, [], (fun _ v cs => ∃ (x : PCache) (F : List Nat), v = .agg (Ph.enc x).toArray ∧ cs = [ow x F] ∧ x.lg = n.cache.lg)⟩, [(0, false)]), (⟨6, 9, [], (fun _ v cs => ∃ b, v = .slice (some ⟨b, 0, none⟩) 0 0 ∧ cs = [box b 123 ([])])⟩, [])] [false, false, false] [(0, _), (1, _), (2, _), (3, _), (4, _), (6, _), (7, _), (10, _), (11, _), (13, _), (14, _)] ⟨by rfl, by rfl, by rfl, by rfl, by rfl, by rfl, by rfl, by rfl, by rfl, by rfl, by rfl, trivial⟩ Q0 Q6 Q6 Q6 Q6 Q6 Q6 Q6 Q6 (fun _ hs => hs.only Q2) hs (fuel := 3) ⟨⟨local_const, ?_⟩, ⟨local_const, ?_⟩, ⟨local_const, ?_⟩, trivial⟩ ?_
 ·
  clear hs
  intro w R hs
  simp only [List.cons_append, List.nil_append] at hs
  refine Gives.c' Q0 (Yc.func Q0 fn134) (c_spec_l12Copy _ _ (Ph.old h_n.servers hs) (by exact hbs)) ?_
  rintro _ w1 ⟨_, rfl, hb, x, rfl, hx, hf⟩
  obtain ⟨F, hs1⟩ := hf.sat hs hb
  exact ⟨_, rfl, [ow x F], ⟨x, F, rfl, rfl, by exact hx⟩, hs1⟩
 ·
  clear hs
  rintro _ _ ⟨x3, F3, rfl, rfl, hx3⟩
  intro w R hs
  simp only [List.cons_append, List.nil_append] at hs
  refine Gives.c' Q0 (Yc.func Q0 fn135) (c_spec_l13Copy _ _ ⟨(Ph.old h_n.cache.entries hs)⟩ (by exact hbc)) ?_
  rintro _ w1 ⟨_, rfl, hb, x, rfl, hx, hf⟩
  obtain ⟨F, hs1⟩ := hf.sat hs hb
  exact ⟨_, rfl, [ow x F], ⟨x, F, rfl, rfl, by first | exact hx | (simp only [hx3] at hx; exact hx)⟩, hs1⟩
 ·
  clear hs
  intro w R hs
  simp only [List.cons_append, List.nil_append] at hs
  exact Gives.rr' Q0 (Yr.buildSlice hs sll37 Q0 Q0 Q0 Q4 Q0) (fun _ _ ⟨b, hv, _, hs1⟩ => ⟨[box b 123 ([])], ⟨b, hv, rfl⟩, hs1⟩)
 clear hs
 rintro _ _ ⟨x3, F3, rfl, rfl, hx3⟩
 rintro _ _ ⟨x4, F4, rfl, rfl, hx4⟩
 rintro _ _ ⟨b5, rfl, rfl⟩
 intro w hs
 simp only [List.cons_append, List.nil_append, cond_true, cond_false] at hs
 replace hs := (Sat.boxow (l := ([] : List TSent)) (hs.sel (D := [box b5 _ _]) Q2) rfl rfl (by simp [maxLen]) (ownL_mk_flat (by simp)))
 refine WA.r (i := 9) Q6 Q0 Q0 (Yr.appendS (s := (⟨[], some ⟨b5, 0, none⟩, _⟩ : Sl TSent)) (F := [b5]) (r := n.log) hs elt37 Q2 Q0 Q0 (Ph.old h_n.log hs) (by simp; unfold maxLen; omega) (by simp; omega)) (by rintro _ w ⟨s6, F6, rfl, hl6, hs⟩; exact hs.only Q2) ?_
 clear hs; rintro _ w ⟨s6, F6, rfl, hl6, hs⟩
 refine WA.p (i := 12) Q0 Q6 Q6 Q6 Q0 (hs.only Q2) (fun w hs => Yl.build bt39 Q0 Q4) ?_
 refine WA.s (i := 13) Q6 Q0 (Yr.storeB hs Q0 Q0 Q0 Q5 Q3 Q0 (by exact szf39)) (by rintro _ w hs; exact hs.only Q2) ?_
 clear hs; rintro _ w hs
 refine WA.donen Q6 ?_
 refine WC.ret ?_
 refine fin1c rfl agg39 Q0 hs Q1 Q0 ?_
 refine Ret.mk hs ?_
 refine ⟨⟨x3, x4, s6, _⟩, rfl, ?_, ?_⟩
 · simp_all
 · exact (PNet.join _ (hs.only (D := [ow x3 F3, ow x4 F4, ow s6 F6]) Q2) (by first | exact Ph.old h_n.now hs | trivial | assumption | exact Nat.zero_le _)).fresh List.mem_cons_self

theorem c_spec_NotFound  (w : World)   : Calls Tryz.prog 65 [].toArray w (RetP w (.agg (Ph.enc notFound).toArray)) := by
 refine enterN 2 Tryz.func65 rfl rfl rfl ?_
 have hs := Sat.start w
 refine WC.seq ?_
 refine WL.r Q0 (Yr.alloc hs zt41) ?_
 clear hs; rintro _ w ⟨b1, rfl, hb, hs⟩; clear hb
 refine WL.next ?_
 refine WC.seq ?_
 refine WL.p Q0 (Yl.build bt41 Q0 Q4) ?_
 refine WL.s (Yr.storeB hs Q0 Q0 Q0 Q5 Q3 Q0 (by exact szf41)) ?_
 clear hs; rintro _ w hs
 refine WL.next ?_
 refine WC.ret ?_
 refine fin1c rfl agg41 Q0 hs Q1 Q0 ?_
 refine RetP.mk hs ?_
 rfl

theorem c_spec_LookUp (c : PCache) (top : Str) (a : TAddr) (now : Int) (w : World) (h_c : Ph.ok w c)  : Calls Tryz.prog 66 [.agg #[Sl.v c.entries], S top, .agg #[S a.host, S a.path], I now].toArray w (RetP w (.tuple #[.agg (Ph.enc (lookIn top a now c.lg.entries).1).toArray, Bo (lookIn top a now c.lg.entries).2])) := by
 have hw := h_c.entries.lt
 refine enterN 53 Tryz.func66 rfl rfl rfl ?_
 have hs := Sat.start w
 refine WC.seq ?_
 refine WL.r Q0 (Yr.box hs Q0 Q0) ?_
 clear hs; rintro _ w ⟨b1, rfl, hb, hs⟩; clear hb
 refine WL.r Q0 (Yr.box hs Q0 Q0) ?_
 clear hs; rintro _ w ⟨b2, rfl, hb, hs⟩; clear hb
 refine WL.r Q0 (Yr.alloc hs zt41) ?_
 clear hs; rintro _ w ⟨b3, rfl, hb, hs⟩; clear hb
 refine Qa ?_
 refine WL.next ?_
 refine WC.seq' ?_
 refine WC.seq ?_
 refine Qa ?_
 refine WL.next ?_
 refine WC.block ?_
 refine WC.loopC (ι := Nat) (fun k => c.entries.l.length - k) (fun k => [(10, I (k : Int))]) (fun _ => []) (fun k => lookIn top a now c.entries.l = lookIn top a now (c.entries.l.drop k)) [(0, _), (1, _), (2, _), (3, _), (4, _), (6, _), (8, _)] 0 (hs) ⟨by rfl, by rfl, by rfl, by rfl, by rfl, by rfl, by rfl, trivial⟩ ⟨by rfl, trivial⟩ ?_ ?_
 ·
  simp
 clear hs; rintro k w hJ hs
 simp only [List.nil_append] at hs
 refine WC.seq' ?_
 refine WC.seq ?_
 refine Qm ?_
 refine WL.p Q0 (Yl.fieldAddr fa36_0 Q0) ?_
 refine WL.p Q0 (Yl.loadB sca34 Q0 hs Q1 Q0) ?_
 refine WL.p Q0 (Yl.len_sl slu34 Q0) ?_
 refine WL.p Q0 (Yl.lss Q0 Q0) ?_
 refine WL.next ?_
 refine WC.condS Q0 (fun h1 => ?_) (fun h1 => ?_)
 ·
  replace h1 := of_decide_eq_true h1
  obtain ⟨d, hd⟩ := exists_get (l := c.entries.l) (k := k) Q7
  rw [drop_cons hd] at hJ
  refine WC.skipn ?_
  refine WC.seq' ?_
  refine WC.block ?_
  refine WC.quietn mixed Q6 hs ?_
  refine WQ.p Q0 (fun w hs => Yl.fieldAddr fa36_0 Q0) ?_
  refine WQ.p Q0 (fun w hs => Yl.loadB sca34 Q0 hs Q1 Q0) ?_
  refine WQ.p Q0 (fun w hs => Yl.move Q0) ?_
  refine WQ.p Q0 (fun w hs => Yl.indexAddr slt34 Q0 Q0 (Ph.old h_c.entries hs) Q0 (hd)) ?_
  refine WQ.p Q0 (fun w hs => Yl.fieldAddr fa180_0 Q0) ?_
  refine WQ.p Q0 (fun w hs => Yl.loadC sca9 Q0 (Sl.Ok.at_ (Ph.old h_c.entries hs) (by assumption)).2 Q0) ?_
  refine WQ.p Q0 (fun w hs => Yl.move Q0) ?_
  refine WQ.p Q0 (fun w hs => Yl.eqs Q0 Q0) ?_
  refine WQ.p Q0 (fun w hs => Yl.move Q0) ?_
  refine WQ.split (d := 26) Q0 (fun h2 => ?_) (fun h2 => ?_)
  ·
   replace h2 := of_decide_eq_true h2
   refine WQ.run (d := 26) Q0 Q0 ?_
   refine WQ.p Q0 (fun w hs => Yl.fieldAddr fa36_0 Q0) ?_
   refine WQ.run (d := 26) Q0 Q0 ?_
   refine WQ.p Q0 (fun w hs => Yl.loadB sca34 Q0 hs Q1 Q0) ?_
   refine WQ.run (d := 26) Q0 Q0 ?_
   refine WQ.p Q0 (fun w hs => Yl.move Q0) ?_
   refine WQ.run (d := 26) Q0 Q0 ?_
   refine WQ.p Q0 (fun w hs => Yl.indexAddr slt34 Q0 Q0 (Ph.old h_c.entries hs) Q0 (hd)) ?_
   refine WQ.run (d := 26) Q0 Q0 ?_
   refine WQ.p Q0 (fun w hs => Yl.fieldAddr fa180_1 Q0) ?_
   refine WQ.run (d := 26) Q0 Q0 ?_
   refine WQ.p Q0 (fun w hs => Yl.loadAC agg45 Q0 (Sl.Ok.at_ (Ph.old h_c.entries hs) (by assumption)).2 Q0 Q0) ?_
   refine WQ.run (d := 26) Q0 Q0 ?_
   refine WQ.p Q0 (fun w hs => Yl.loadAB agg45 Q0 hs Q1 Q0 Q0) ?_
   refine WQ.run (d := 26) Q0 Q0 ?_
   refine WQ.p Q0 (fun w hs => Yl.eqt eqt45 Q0 Q0) ?_
   refine WQ.p Q0 (fun w hs => Yl.pickT Q0 Q0) ?_
   refine WQ.p Q0 (fun w hs => Yl.move Q0) ?_
   refine WQ.split (d := 36) Q0 (fun h3 => ?_) (fun h3 => ?_)
   ·
    replace h3 := of_decide_eq_true h3
    refine WQ.run (d := 36) Q0 Q0 ?_
    refine WQ.p Q0 (fun w hs => Yl.fieldAddr fa36_0 Q0) ?_
    refine WQ.run (d := 36) Q0 Q0 ?_
    refine WQ.p Q0 (fun w hs => Yl.loadB sca34 Q0 hs Q1 Q0) ?_
    refine WQ.run (d := 36) Q0 Q0 ?_
    refine WQ.p Q0 (fun w hs => Yl.move Q0) ?_
    refine WQ.run (d := 36) Q0 Q0 ?_
    refine WQ.p Q0 (fun w hs => Yl.indexAddr slt34 Q0 Q0 (Ph.old h_c.entries hs) Q0 (hd)) ?_
    refine WQ.run (d := 36) Q0 Q0 ?_
    refine WQ.p Q0 (fun w hs => Yl.fieldAddr fa180_3 Q0) ?_
    refine WQ.run (d := 36) Q0 Q0 ?_
    refine WQ.p Q0 (fun w hs => Yl.loadC sca3 Q0 (Sl.Ok.at_ (Ph.old h_c.entries hs) (by assumption)).2 Q0) ?_
    refine WQ.run (d := 36) Q0 Q0 ?_
    refine WQ.p Q0 (fun w hs => Yl.move Q0) ?_
    refine WQ.run (d := 36) Q0 Q0 ?_
    refine WQ.p Q0 (fun w hs => Yl.geq Q0 Q0) ?_
    refine WQ.p Q0 (fun w hs => Yl.pickT Q0 Q0) ?_
    refine WQ.next ?_
    clear hs; intro w hs
    refine WC.condS Q0 (fun h4 => ?_) (fun h4 => ?_)
    ·
     replace h4 := of_decide_eq_true h4
     refine WC.seq ?_
     refine WL.p Q0 (Yl.fieldAddr fa36_0 Q0) ?_
     refine WL.p Q0 (Yl.loadB sca34 Q0 hs Q1 Q0) ?_
     refine Qm ?_
     refine WL.p Q0 (Yl.indexAddr slt34 Q0 Q0 (Ph.old h_c.entries hs) Q0 (hd)) ?_
     refine WL.p Q0 (Yl.fieldAddr fa180_2 Q0) ?_
     refine WL.p Q0 (Yl.loadAC agg41 Q0 (Sl.Ok.at_ (Ph.old h_c.entries hs) (by assumption)).2 Q0 Q0) ?_
     refine WL.s (Yr.storeB hs Q0 Q0 Q0 Q5 Q3 Q0 (by exact szf41)) ?_
     clear hs; rintro _ w hs
     refine Qa ?_
     refine WL.next ?_
     refine WC.ret ?_
     refine At.blockret ?_
     refine At.thenret ?_
     refine At.thenret ?_
     refine At.blockret ?_
     refine At.thenret ?_
     refine fin2c rfl agg41 Q0 Q0 hs Q1 Q0 ?_
     refine RetP.mk hs ?_
     have e : lookIn top a now c.lg.entries = (d.response, true) := by rw [show c.lg.entries = c.entries.l from rfl, hJ, lookIn_yes (by simp_all [hit])]
     rw [e]; rfl
    ·
     replace h4 := of_decide_eq_false h4
     refine WC.skip ?_
     refine At.blocknormal ?_
     refine At.then_ ?_
     refine WC.region ?_
     refine Qm ?_
     refine WL.p Q0 (Yl.add Q0 Q0 Q7) ?_
     refine Qa ?_
     refine WL.nil ?_
     refine At.roundC (k + 1) (hs.only Q2) ⟨by rfl, by rfl, by rfl, by rfl, by rfl, by rfl, by rfl, trivial⟩ ⟨by rfl, trivial⟩ ?_ ?_
     ·
      omega
     ·
      rw [hJ, lookIn_no (by simp_all [hit])]
   ·
    replace h3 := of_decide_eq_false h3
    refine WQ.skip (d := 36) Q0 Q0 Q0 Q0 ?_
    refine WQ.skip (d := 36) Q0 Q0 Q0 Q0 ?_
    refine WQ.skip (d := 36) Q0 Q0 Q0 Q0 ?_
    refine WQ.skip (d := 36) Q0 Q0 Q0 Q0 ?_
    refine WQ.skip (d := 36) Q0 Q0 Q0 Q0 ?_
    refine WQ.skip (d := 36) Q0 Q0 Q0 Q0 ?_
    refine WQ.skip (d := 36) Q0 Q0 Q0 Q0 ?_
    refine WQ.skip (d := 36) Q0 Q0 Q0 Q0 ?_
    refine WQ.p Q0 (fun w hs => Yl.pickF Q0 Q0) ?_
    refine WQ.next ?_
    clear hs; intro w hs
    refine WC.condF Q0 ?_
    refine WC.skip ?_
    refine At.blocknormal ?_
    refine At.then_ ?_
    refine WC.region ?_
    refine Qm ?_
    refine WL.p Q0 (Yl.add Q0 Q0 Q7) ?_
    refine Qa ?_
    refine WL.nil ?_
    refine At.roundC (k + 1) (hs.only Q2) ⟨by rfl, by rfl, by rfl, by rfl, by rfl, by rfl, by rfl, trivial⟩ ⟨by rfl, trivial⟩ ?_ ?_
    ·
     omega
    ·
     rw [hJ, lookIn_no (by simp_all [hit])]
  ·
   replace h2 := of_decide_eq_false h2
   refine WQ.skip (d := 26) Q0 Q0 Q0 Q0 ?_
   refine WQ.skip (d := 26) Q0 Q0 Q0 Q0 ?_
   refine WQ.skip (d := 26) Q0 Q0 Q0 Q0 ?_
   refine WQ.skip (d := 26) Q0 Q0 Q0 Q0 ?_
   refine WQ.skip (d := 26) Q0 Q0 Q0 Q0 ?_
   refine WQ.skip (d := 26) Q0 Q0 Q0 Q0 ?_
   refine WQ.skip (d := 26) Q0 Q0 Q0 Q0 ?_
   refine WQ.skip (d := 26) Q0 Q0 Q0 Q0 ?_
   refine WQ.p Q0 (fun w hs => Yl.pickF Q0 Q0) ?_
   refine WQ.p Q0 (fun w hs => Yl.move Q0) ?_
   refine WQ.skip (d := 36) Q0 Q0 Q0 Q0 ?_
   refine WQ.skip (d := 36) Q0 Q0 Q0 Q0 ?_
   refine WQ.skip (d := 36) Q0 Q0 Q0 Q0 ?_
   refine WQ.skip (d := 36) Q0 Q0 Q0 Q0 ?_
   refine WQ.skip (d := 36) Q0 Q0 Q0 Q0 ?_
   refine WQ.skip (d := 36) Q0 Q0 Q0 Q0 ?_
   refine WQ.skip (d := 36) Q0 Q0 Q0 Q0 ?_
   refine WQ.skip (d := 36) Q0 Q0 Q0 Q0 ?_
   refine WQ.p Q0 (fun w hs => Yl.pickF Q0 Q0) ?_
   refine WQ.next ?_
   clear hs; intro w hs
   refine WC.condF Q0 ?_
   refine WC.skip ?_
   refine At.blocknormal ?_
   refine At.then_ ?_
   refine WC.region ?_
   refine Qm ?_
   refine WL.p Q0 (Yl.add Q0 Q0 Q7) ?_
   refine Qa ?_
   refine WL.nil ?_
   refine At.roundC (k + 1) (hs.only Q2) ⟨by rfl, by rfl, by rfl, by rfl, by rfl, by rfl, by rfl, trivial⟩ ⟨by rfl, trivial⟩ ?_ ?_
   ·
    omega
   ·
    rw [hJ, lookIn_no (by simp_all [hit])]
 ·
  replace h1 := of_decide_eq_false h1
  rw [drop_out (l := c.entries.l) Q7] at hJ
  refine WC.exit ?_
  refine At.thenexit ?_
  refine At.thenexit ?_
  refine At.blockexit ?_
  refine At.then_ ?_
  refine WC.seq ?_
  refine WL.callp hs Q0 (Yc.func Q0 fn65) (c_spec_NotFound _) ?_
  clear hs; intro w hs
  refine WL.s (Yr.storeB hs Q0 Q0 Q0 Q5 Q3 Q0 (by exact szf41)) ?_
  clear hs; rintro _ w hs
  refine Qa ?_
  refine WL.next ?_
  refine WC.ret ?_
  refine fin2c rfl agg41 Q0 Q0 hs Q1 Q0 ?_
  refine RetP.mk hs ?_
  rw [hJ]; rfl

theorem c_spec_l1In (x : Int) (least : Int) (most : Int) (w : World)   : Calls Tryz.prog 87 [I x, I least, I most].toArray w (RetP w (Bo (inR x least most))) := by
 refine enterN 15 Tryz.func87 rfl rfl rfl ?_
 have hs := Sat.start w
 refine WC.seq ?_
 refine Qa ?_
 refine WL.next ?_
 refine WC.seq ?_
 refine Qm ?_
 refine Qm ?_
 refine WL.p Q0 (Yl.geq Q0 Q0) ?_
 refine Qm ?_
 refine WL.split (d := 10) Q0 (fun h1 => ?_) (fun h1 => ?_)
 ·
  replace h1 := of_decide_eq_true h1
  refine WL.run (d := 10) Q0 Q0 ?_
  refine Qm ?_
  refine WL.run (d := 10) Q0 Q0 ?_
  refine Qm ?_
  refine WL.run (d := 10) Q0 Q0 ?_
  refine WL.p Q0 (Yl.leq Q0 Q0) ?_
  refine WL.p Q0 (Yl.pickT Q0 Q0) ?_
  refine Qa ?_
  refine WL.next ?_
  refine WC.ret ?_
  refine fin1' rfl Q0 ?_
  refine RetP.mk hs ?_
  simp [inR, h1]
 ·
  replace h1 := of_decide_eq_false h1
  refine WL.skip (d := 10) Q0 Q0 Q0 Q0 ?_
  refine WL.skip (d := 10) Q0 Q0 Q0 Q0 ?_
  refine WL.skip (d := 10) Q0 Q0 Q0 Q0 ?_
  refine WL.p Q0 (Yl.pickF Q0 Q0) ?_
  refine Qa ?_
  refine WL.next ?_
  refine WC.ret ?_
  refine fin1' rfl Q0 ?_
  refine RetP.mk hs ?_
  rw [inR_false.2 Q7]

theorem c_spec_l5Split (s : Str) (b : UInt8) (w : World)  (hb : s.length ≤ 2097152) : Calls Tryz.prog 192 [S s, U8 b].toArray w (Ret w (fun v w' => ∃ x : Sl Str, v = x.v ∧ x.l = splitC b s ∧ Fresh w x w')) := by
 refine enterN 36 Tryz.func192 rfl rfl rfl ?_
 have hs := Sat.start w
 refine WC.seq ?_
 refine Qa ?_
 refine WL.next ?_
 refine WC.seq ?_
 refine WL.r Q0 (Yr.buildSlice hs sll53 Q0 Q0 Q0 Q4 Q0) ?_
 clear hs; rintro _ w ⟨b1, rfl, hb, hs⟩; clear hb
 refine Qa ?_
 refine WL.next ?_
 refine WC.seq ?_
 refine Qa ?_
 refine WL.next ?_
 refine WC.seq' ?_
 refine WC.seq ?_
 refine Qa ?_
 refine WL.next ?_
 refine WC.block ?_
 replace hs := Sat.boxow (l := ([] : List Str)) hs rfl rfl (by simp) (ownL_mk_flat (by simp))
 refine WC.loopC (ι := Nat × Nat × Sl Str × List Nat) (fun ⟨k, f, q, F⟩ => s.length + 1 - k) (fun ⟨k, f, q, F⟩ => [(7, I (k : Int)), (6, I (f : Int)), (5, q.v)]) (fun ⟨k, f, q, F⟩ => [ow q F]) (fun ⟨k, f, q, F⟩ => (k ≤ s.length ∧ f ≤ k ∧ splitC b s = q.l ++ preH ((s.drop f).take (k - f)) (splitC b (s.drop k))) ∨ (k = s.length + 1 ∧ splitC b s = q.l)) [(0, _), (1, _), (4, _), (8, _)] (0, 0, ⟨[], some ⟨b1, 0, none⟩, 0⟩, [b1]) (hs.sel (D := [ow (⟨[], some ⟨b1, 0, none⟩, 0⟩ : Sl Str) [b1]]) Q2) ⟨by rfl, by rfl, by rfl, by rfl, trivial⟩ ⟨by rfl, by rfl, by rfl, trivial⟩ ?_ ?_
 ·
  exact .inl ⟨Nat.zero_le _, Nat.le_refl _, by simp [preH_nil]⟩
 clear hs; rintro ⟨k, f, q, F⟩ w hJ hs
 simp only [List.cons_append, List.nil_append] at hs
 refine WC.seq' ?_
 refine WC.seq ?_
 refine Qm ?_
 refine Qm ?_
 refine WL.p Q0 (Yl.len_str str9 Q0) ?_
 refine WL.p Q0 (Yl.leq Q0 Q0) ?_
 refine WL.next ?_
 refine WC.condS Q0 (fun h1 => ?_) (fun h1 => ?_)
 ·
  replace h1 := of_decide_eq_true h1
  obtain ⟨hJ1, hJ2, hJ3⟩ : k ≤ s.length ∧ f ≤ k ∧ splitC b s = q.l ++ preH ((s.drop f).take (k - f)) (splitC b (s.drop k)) := by
   rcases hJ with h | h
   · exact h
   · omega
  have hlq : q.l.length ≤ s.length + 1 := by
   have e1 := congrArg List.length hJ3
   have e2 := splitC_len b s
   simp only [List.length_append] at e1
   omega
  refine WC.skipn ?_
  refine WC.seq' ?_
  refine WC.block ?_
  refine WC.seq ?_
  refine Qm ?_
  refine Qm ?_
  refine WL.p Q0 (Yl.len_str str9 Q0) ?_
  refine WL.p Q0 (Yl.eqi Q0 Q0) ?_
  refine Qm ?_
  refine WL.split (d := 19) Q0 (fun h2 => ?_) (fun h2 => ?_)
  ·
   replace h2 := of_decide_eq_true h2
   refine WL.skip (d := 19) Q0 Q0 Q0 Q0 ?_
   refine WL.skip (d := 19) Q0 Q0 Q0 Q0 ?_
   refine WL.skip (d := 19) Q0 Q0 Q0 Q0 ?_
   refine WL.skip (d := 19) Q0 Q0 Q0 Q0 ?_
   refine WL.skip (d := 19) Q0 Q0 Q0 Q0 ?_
   refine WL.p Q0 (Yl.pickT Q0 Q0) ?_
   refine WL.next ?_
   refine WC.condT Q0 ?_
   refine WC.seq ?_
   refine Qm ?_
   refine Qm ?_
   refine Qm ?_
   refine Qm ?_
   refine WL.p Q0 (Yl.slice_str str9 Q0 (by exact ⟨_, by rfl⟩) (by exact ⟨_, by rfl⟩) Q7 Q7) ?_
   refine WL.r Q0 (Yr.buildSlice hs sll53 Q0 Q0 Q0 Q4 Q0) ?_
   clear hs; rintro _ w ⟨b2, rfl, hb, hs⟩; clear hb
   refine WL.r Q0 (Yr.append (s := q) (F := F) hs elt53 Q2 Q0 Q0 rfl (xs := [(s.drop f).take (k - f)]) (hs.box_cells Q1) (by intro x hx; obtain rfl := List.mem_singleton.1 hx; show WfS _; unfold WfS; simp only [List.length_take, List.length_drop]; omega) (by simp; unfold maxLen; omega) (by simp; omega)) ?_
   clear hs; rintro _ w ⟨s3, F3, rfl, hl3, hs⟩
   refine Qa ?_
   refine WL.next ?_
   refine WC.region ?_
   refine Qm ?_
   refine WL.p Q0 (Yl.add Q0 Q0 Q7) ?_
   refine Qa ?_
   refine WL.nil ?_
   refine At.blocknormal ?_
   refine At.then_ ?_
   refine WC.region ?_
   refine Qm ?_
   refine WL.p Q0 (Yl.add Q0 Q0 Q7) ?_
   refine Qa ?_
   refine WL.nil ?_
   refine At.roundC (k + 1, k + 1, s3, F3) (hs.only Q2) ⟨by rfl, by rfl, by rfl, by rfl, trivial⟩ ⟨by rfl, by rfl, by rfl, trivial⟩ ?_ ?_
   ·
    show s.length + 1 - (k + 1) < s.length + 1 - k
    omega
   ·
    refine .inr ⟨by omega, ?_⟩
    rw [hl3, hJ3]
    obtain rfl : k = s.length := by omega
    rw [List.drop_length, preH_end]
  ·
   replace h2 := of_decide_eq_false h2
   refine WL.run (d := 19) Q0 Q0 ?_
   refine Qm ?_
   refine WL.run (d := 19) Q0 Q0 ?_
   refine Qm ?_
   refine WL.run (d := 19) Q0 Q0 ?_
   refine WL.p Q0 (Yl.index str9 Q0 Q0 Q0 (by first | assumption | exact List.getElem?_eq_getElem Q7)) ?_
   refine WL.run (d := 19) Q0 Q0 ?_
   refine Qm ?_
   refine WL.run (d := 19) Q0 Q0 ?_
   refine WL.p Q0 (Yl.eqi Q0 Q0) ?_
   refine WL.p Q0 (Yl.pickF Q0 Q0) ?_
   refine WL.next ?_
   refine WC.condS Q0 (fun h3 => ?_) (fun h3 => ?_)
   ·
    replace h3 := of_decide_eq_true h3
    refine WC.seq ?_
    refine Qm ?_
    refine Qm ?_
    refine Qm ?_
    refine Qm ?_
    refine WL.p Q0 (Yl.slice_str str9 Q0 (by exact ⟨_, by rfl⟩) (by exact ⟨_, by rfl⟩) Q7 Q7) ?_
    refine WL.r Q0 (Yr.buildSlice hs sll53 Q0 Q0 Q0 Q4 Q0) ?_
    clear hs; rintro _ w ⟨b4, rfl, hb, hs⟩; clear hb
    refine WL.r Q0 (Yr.append (s := q) (F := F) hs elt53 Q2 Q0 Q0 rfl (xs := [(s.drop f).take (k - f)]) (hs.box_cells Q1) (by intro x hx; obtain rfl := List.mem_singleton.1 hx; show WfS _; unfold WfS; simp only [List.length_take, List.length_drop]; omega) (by simp; unfold maxLen; omega) (by simp; omega)) ?_
    clear hs; rintro _ w ⟨s5, F5, rfl, hl5, hs⟩
    refine Qa ?_
    refine WL.next ?_
    refine WC.region ?_
    refine Qm ?_
    refine WL.p Q0 (Yl.add Q0 Q0 Q7) ?_
    refine Qa ?_
    refine WL.nil ?_
    refine At.blocknormal ?_
    refine At.then_ ?_
    refine WC.region ?_
    refine Qm ?_
    refine WL.p Q0 (Yl.add Q0 Q0 Q7) ?_
    refine Qa ?_
    refine WL.nil ?_
    refine At.roundC (k + 1, k + 1, s5, F5) (hs.only Q2) ⟨by rfl, by rfl, by rfl, by rfl, trivial⟩ ⟨by rfl, by rfl, by rfl, trivial⟩ ?_ ?_
    ·
     show s.length + 1 - (k + 1) < s.length + 1 - k
     omega
    ·
     have hc := List.drop_eq_getElem_cons (l := s) (i := k) Q7
     have hcb : s[k] = b := by apply UInt8.toNat_inj.1; omega
     refine .inl ⟨by omega, Nat.le_refl _, ?_⟩
     rw [hl5, hJ3, hc, hcb, preH_cut, Nat.sub_self, List.take_zero, preH_nil]; simp
   ·
    replace h3 := of_decide_eq_false h3
    refine WC.skip ?_
    refine At.blocknormal ?_
    refine At.then_ ?_
    refine WC.region ?_
    refine Qm ?_
    refine WL.p Q0 (Yl.add Q0 Q0 Q7) ?_
    refine Qa ?_
    refine WL.nil ?_
    refine At.roundC (k + 1, f, q, F) (hs.only Q2) ⟨by rfl, by rfl, by rfl, by rfl, trivial⟩ ⟨by rfl, by rfl, by rfl, trivial⟩ ?_ ?_
    ·
     show s.length + 1 - (k + 1) < s.length + 1 - k
     omega
    ·
     have hc := List.drop_eq_getElem_cons (l := s) (i := k) Q7
     have hcb : s[k] ≠ b := by intro h; apply h3; rw [h]
     refine .inl ⟨by omega, by omega, ?_⟩
     have e : (s.drop f).take (k + 1 - f) = (s.drop f).take (k - f) ++ [s[k]] := by
      rw [show k + 1 - f = (k - f) + 1 from by omega, List.take_add_one, List.getElem?_drop, show f + (k - f) = k from by omega, List.getElem?_eq_getElem Q7]; rfl
     rw [e, hJ3, hc, preH_step hcb]
 ·
  replace h1 := of_decide_eq_false h1
  refine WC.exit ?_
  refine At.thenexit ?_
  refine At.thenexit ?_
  refine At.blockexit ?_
  refine At.then_ ?_
  refine WC.seq ?_
  refine Qm ?_
  refine Qa ?_
  refine WL.next ?_
  refine WC.ret ?_
  refine fin1' rfl Q0 ?_
  refine Ret.mk hs ?_
  rcases hJ with h | ⟨_, h⟩
  · omega
  · exact ⟨q, rfl, h.symm, hs.fresh Q1⟩

theorem c_spec_IsValue (s : Str) (w : World) (h_s : Ph.ok w s)  : Calls Tryz.prog 190 [S s].toArray w (RetP w (Bo (isValue s))) := by
 have hw : s.length ≤ 9223372036854775807 := h_s
 refine enterN 41 Tryz.func190 rfl rfl rfl ?_
 have hs := Sat.start w
 refine WC.seq ?_
 refine Qa ?_
 refine WL.next ?_
 refine WC.seq' ?_
 refine WC.seq ?_
 refine Qa ?_
 refine WL.next ?_
 refine WC.block ?_
 refine WC.loopC (ι := Nat) (fun k => s.length - k) (fun k => [(3, I (k : Int))]) (fun _ => []) (fun k => s.all valueByte = (s.drop k).all valueByte) [(0, _)] 0 (hs) ⟨by rfl, trivial⟩ ⟨by rfl, trivial⟩ ?_ ?_
 ·
  simp
 clear hs; rintro k w hJ hs
 simp only [List.nil_append] at hs
 refine WC.seq' ?_
 refine WC.seq ?_
 refine Qm ?_
 refine Qm ?_
 refine WL.p Q0 (Yl.len_str str9 Q0) ?_
 refine WL.p Q0 (Yl.lss Q0 Q0) ?_
 refine WL.next ?_
 refine WC.condS Q0 (fun h1 => ?_) (fun h1 => ?_)
 ·
  replace h1 := of_decide_eq_true h1
  obtain ⟨d, hd⟩ := exists_get (l := s) (k := k) Q7
  rw [drop_cons hd] at hJ
  refine WC.skipn ?_
  refine WC.seq' ?_
  refine WC.block ?_
  refine WC.seq ?_
  refine Qm ?_
  refine Qm ?_
  refine WL.p Q0 (Yl.index str9 Q0 Q0 Q0 (by first | assumption | exact List.getElem?_eq_getElem Q7)) ?_
  refine WL.p Q0 (Yl.lss Q0 Q0) ?_
  refine Qm ?_
  refine WL.split (d := 14) Q0 (fun h2 => ?_) (fun h2 => ?_)
  ·
   replace h2 := of_decide_eq_true h2
   refine WL.skip (d := 14) Q0 Q0 Q0 Q0 ?_
   refine WL.skip (d := 14) Q0 Q0 Q0 Q0 ?_
   refine WL.skip (d := 14) Q0 Q0 Q0 Q0 ?_
   refine WL.skip (d := 14) Q0 Q0 Q0 Q0 ?_
   refine WL.p Q0 (Yl.pickT Q0 Q0) ?_
   refine Qm ?_
   refine WL.run (d := 20) Q0 Q0 ?_
   refine Qm ?_
   refine WL.run (d := 20) Q0 Q0 ?_
   refine Qm ?_
   refine WL.run (d := 20) Q0 Q0 ?_
   refine WL.p Q0 (Yl.index str9 Q0 Q0 Q0 (by first | assumption | exact List.getElem?_eq_getElem Q7)) ?_
   refine WL.run (d := 20) Q0 Q0 ?_
   refine WL.p Q0 (Yl.lss Q0 Q0) ?_
   refine WL.run (d := 20) Q0 Q0 ?_
   refine Qm ?_
   refine WL.split (d := 25) Q0 (fun h3 => ?_) (fun h3 => ?_)
   ·
    replace h3 := of_decide_eq_true h3
    refine WL.skip (d := 25) Q0 Q0 Q0 Q0 ?_
    refine WL.skip (d := 25) Q0 Q0 Q0 Q0 ?_
    refine WL.skip (d := 25) Q0 Q0 Q0 Q0 ?_
    refine WL.skip (d := 25) Q0 Q0 Q0 Q0 ?_
    refine WL.run (d := 20) Q0 Q0 ?_
    refine WL.p Q0 (Yl.pickT Q0 Q0) ?_
    refine WL.p Q0 (Yl.pickT Q0 Q0) ?_
    refine Qm ?_
    refine WL.run (d := 32) Q0 Q0 ?_
    refine Qm ?_
    refine WL.run (d := 32) Q0 Q0 ?_
    refine Qm ?_
    refine WL.run (d := 32) Q0 Q0 ?_
    refine WL.p Q0 (Yl.index str9 Q0 Q0 Q0 (by first | assumption | exact List.getElem?_eq_getElem Q7)) ?_
    refine WL.run (d := 32) Q0 Q0 ?_
    refine WL.p Q0 (Yl.nei Q0 Q0) ?_
    refine WL.p Q0 (Yl.pickT Q0 Q0) ?_
    refine WL.next ?_
    refine WC.condS Q0 (fun h4 => ?_) (fun h4 => ?_)
    ·
     replace h4 := not_eq_true h4
     replace h4 := of_decide_eq_false h4
     refine WC.seq ?_
     refine Qa ?_
     refine WL.next ?_
     refine WC.ret ?_
     refine At.blockret ?_
     refine At.thenret ?_
     refine At.thenret ?_
     refine At.blockret ?_
     refine At.thenret ?_
     refine fin1' rfl Q0 ?_
     refine RetP.mk hs ?_
     first
      | (simp [isValue, hJ, valueByte, lower, digit]; done)
      | (simp [isValue, hJ, valueByte, lower, digit]; omega)
      | simp_all [isValue, hJ, valueByte, lower, digit]
    ·
     replace h4 := not_eq_false h4
     replace h4 := of_decide_eq_true h4
     refine WC.skip ?_
     refine At.blocknormal ?_
     refine At.then_ ?_
     refine WC.region ?_
     refine Qm ?_
     refine WL.p Q0 (Yl.add Q0 Q0 Q7) ?_
     refine Qa ?_
     refine WL.nil ?_
     refine At.roundC (k + 1) (hs.only Q2) ⟨by rfl, trivial⟩ ⟨by rfl, trivial⟩ ?_ ?_
     ·
      omega
     ·
      rw [hJ]; simp [valueByte, lower, digit]; omega
   ·
    replace h3 := of_decide_eq_false h3
    refine WL.run (d := 25) Q0 Q0 ?_
    refine Qm ?_
    refine WL.run (d := 25) Q0 Q0 ?_
    refine Qm ?_
    refine WL.run (d := 25) Q0 Q0 ?_
    refine WL.p Q0 (Yl.index str9 Q0 Q0 Q0 (by first | assumption | exact List.getElem?_eq_getElem Q7)) ?_
    refine WL.run (d := 25) Q0 Q0 ?_
    refine WL.p Q0 (Yl.gtr Q0 Q0) ?_
    refine WL.run (d := 20) Q0 Q0 ?_
    refine WL.p Q0 (Yl.pickF Q0 Q0) ?_
    refine WL.p Q0 (Yl.pickT Q0 Q0) ?_
    refine Qm ?_
    refine WL.split (d := 32) Q0 (fun h4 => ?_) (fun h4 => ?_)
    ·
     replace h4 := of_decide_eq_true h4
     refine WL.run (d := 32) Q0 Q0 ?_
     refine Qm ?_
     refine WL.run (d := 32) Q0 Q0 ?_
     refine Qm ?_
     refine WL.run (d := 32) Q0 Q0 ?_
     refine WL.p Q0 (Yl.index str9 Q0 Q0 Q0 (by first | assumption | exact List.getElem?_eq_getElem Q7)) ?_
     refine WL.run (d := 32) Q0 Q0 ?_
     refine WL.p Q0 (Yl.nei Q0 Q0) ?_
     refine WL.p Q0 (Yl.pickT Q0 Q0) ?_
     refine WL.next ?_
     refine WC.condS Q0 (fun h5 => ?_) (fun h5 => ?_)
     ·
      replace h5 := not_eq_true h5
      replace h5 := of_decide_eq_false h5
      refine WC.seq ?_
      refine Qa ?_
      refine WL.next ?_
      refine WC.ret ?_
      refine At.blockret ?_
      refine At.thenret ?_
      refine At.thenret ?_
      refine At.blockret ?_
      refine At.thenret ?_
      refine fin1' rfl Q0 ?_
      refine RetP.mk hs ?_
      first
       | (simp [isValue, hJ, valueByte, lower, digit]; done)
       | (simp [isValue, hJ, valueByte, lower, digit]; omega)
       | simp_all [isValue, hJ, valueByte, lower, digit]
     ·
      replace h5 := not_eq_false h5
      replace h5 := of_decide_eq_true h5
      refine WC.skip ?_
      refine At.blocknormal ?_
      refine At.then_ ?_
      refine WC.region ?_
      refine Qm ?_
      refine WL.p Q0 (Yl.add Q0 Q0 Q7) ?_
      refine Qa ?_
      refine WL.nil ?_
      refine At.roundC (k + 1) (hs.only Q2) ⟨by rfl, trivial⟩ ⟨by rfl, trivial⟩ ?_ ?_
      ·
       omega
      ·
       rw [hJ]; simp [valueByte, lower, digit]; omega
    ·
     replace h4 := of_decide_eq_false h4
     refine WL.skip (d := 32) Q0 Q0 Q0 Q0 ?_
     refine WL.skip (d := 32) Q0 Q0 Q0 Q0 ?_
     refine WL.skip (d := 32) Q0 Q0 Q0 Q0 ?_
     refine WL.skip (d := 32) Q0 Q0 Q0 Q0 ?_
     refine WL.p Q0 (Yl.pickF Q0 Q0) ?_
     refine WL.next ?_
     refine WC.condF Q0 ?_
     refine WC.skip ?_
     refine At.blocknormal ?_
     refine At.then_ ?_
     refine WC.region ?_
     refine Qm ?_
     refine WL.p Q0 (Yl.add Q0 Q0 Q7) ?_
     refine Qa ?_
     refine WL.nil ?_
     refine At.roundC (k + 1) (hs.only Q2) ⟨by rfl, trivial⟩ ⟨by rfl, trivial⟩ ?_ ?_
     ·
      omega
     ·
      rw [hJ]; simp [valueByte, lower, digit]; omega
  ·
   replace h2 := of_decide_eq_false h2
   refine WL.run (d := 14) Q0 Q0 ?_
   refine Qm ?_
   refine WL.run (d := 14) Q0 Q0 ?_
   refine Qm ?_
   refine WL.run (d := 14) Q0 Q0 ?_
   refine WL.p Q0 (Yl.index str9 Q0 Q0 Q0 (by first | assumption | exact List.getElem?_eq_getElem Q7)) ?_
   refine WL.run (d := 14) Q0 Q0 ?_
   refine WL.p Q0 (Yl.gtr Q0 Q0) ?_
   refine WL.p Q0 (Yl.pickF Q0 Q0) ?_
   refine Qm ?_
   refine WL.split (d := 20) Q0 (fun h3 => ?_) (fun h3 => ?_)
   ·
    replace h3 := of_decide_eq_true h3
    refine WL.run (d := 20) Q0 Q0 ?_
    refine Qm ?_
    refine WL.run (d := 20) Q0 Q0 ?_
    refine Qm ?_
    refine WL.run (d := 20) Q0 Q0 ?_
    refine WL.p Q0 (Yl.index str9 Q0 Q0 Q0 (by first | assumption | exact List.getElem?_eq_getElem Q7)) ?_
    refine WL.run (d := 20) Q0 Q0 ?_
    refine WL.p Q0 (Yl.lss Q0 Q0) ?_
    refine WL.run (d := 20) Q0 Q0 ?_
    refine Qm ?_
    refine WL.split (d := 25) Q0 (fun h4 => ?_) (fun h4 => ?_)
    ·
     replace h4 := of_decide_eq_true h4
     refine WL.skip (d := 25) Q0 Q0 Q0 Q0 ?_
     refine WL.skip (d := 25) Q0 Q0 Q0 Q0 ?_
     refine WL.skip (d := 25) Q0 Q0 Q0 Q0 ?_
     refine WL.skip (d := 25) Q0 Q0 Q0 Q0 ?_
     refine WL.run (d := 20) Q0 Q0 ?_
     refine WL.p Q0 (Yl.pickT Q0 Q0) ?_
     refine WL.p Q0 (Yl.pickT Q0 Q0) ?_
     refine Qm ?_
     refine WL.run (d := 32) Q0 Q0 ?_
     refine Qm ?_
     refine WL.run (d := 32) Q0 Q0 ?_
     refine Qm ?_
     refine WL.run (d := 32) Q0 Q0 ?_
     refine WL.p Q0 (Yl.index str9 Q0 Q0 Q0 (by first | assumption | exact List.getElem?_eq_getElem Q7)) ?_
     refine WL.run (d := 32) Q0 Q0 ?_
     refine WL.p Q0 (Yl.nei Q0 Q0) ?_
     refine WL.p Q0 (Yl.pickT Q0 Q0) ?_
     refine WL.next ?_
     refine WC.condS Q0 (fun h5 => ?_) (fun h5 => ?_)
     ·
      replace h5 := not_eq_true h5
      replace h5 := of_decide_eq_false h5
      refine WC.seq ?_
      refine Qa ?_
      refine WL.next ?_
      refine WC.ret ?_
      refine At.blockret ?_
      refine At.thenret ?_
      refine At.thenret ?_
      refine At.blockret ?_
      refine At.thenret ?_
      refine fin1' rfl Q0 ?_
      refine RetP.mk hs ?_
      first
       | (simp [isValue, hJ, valueByte, lower, digit]; done)
       | (simp [isValue, hJ, valueByte, lower, digit]; omega)
       | simp_all [isValue, hJ, valueByte, lower, digit]
     ·
      replace h5 := not_eq_false h5
      replace h5 := of_decide_eq_true h5
      refine WC.skip ?_
      refine At.blocknormal ?_
      refine At.then_ ?_
      refine WC.region ?_
      refine Qm ?_
      refine WL.p Q0 (Yl.add Q0 Q0 Q7) ?_
      refine Qa ?_
      refine WL.nil ?_
      refine At.roundC (k + 1) (hs.only Q2) ⟨by rfl, trivial⟩ ⟨by rfl, trivial⟩ ?_ ?_
      ·
       omega
      ·
       rw [hJ]; simp [valueByte, lower, digit]; omega
    ·
     replace h4 := of_decide_eq_false h4
     refine WL.run (d := 25) Q0 Q0 ?_
     refine Qm ?_
     refine WL.run (d := 25) Q0 Q0 ?_
     refine Qm ?_
     refine WL.run (d := 25) Q0 Q0 ?_
     refine WL.p Q0 (Yl.index str9 Q0 Q0 Q0 (by first | assumption | exact List.getElem?_eq_getElem Q7)) ?_
     refine WL.run (d := 25) Q0 Q0 ?_
     refine WL.p Q0 (Yl.gtr Q0 Q0) ?_
     refine WL.run (d := 20) Q0 Q0 ?_
     refine WL.p Q0 (Yl.pickF Q0 Q0) ?_
     refine WL.p Q0 (Yl.pickT Q0 Q0) ?_
     refine Qm ?_
     refine WL.split (d := 32) Q0 (fun h5 => ?_) (fun h5 => ?_)
     ·
      replace h5 := of_decide_eq_true h5
      refine WL.run (d := 32) Q0 Q0 ?_
      refine Qm ?_
      refine WL.run (d := 32) Q0 Q0 ?_
      refine Qm ?_
      refine WL.run (d := 32) Q0 Q0 ?_
      refine WL.p Q0 (Yl.index str9 Q0 Q0 Q0 (by first | assumption | exact List.getElem?_eq_getElem Q7)) ?_
      refine WL.run (d := 32) Q0 Q0 ?_
      refine WL.p Q0 (Yl.nei Q0 Q0) ?_
      refine WL.p Q0 (Yl.pickT Q0 Q0) ?_
      refine WL.next ?_
      refine WC.condS Q0 (fun h6 => ?_) (fun h6 => ?_)
      ·
       replace h6 := not_eq_true h6
       replace h6 := of_decide_eq_false h6
       refine WC.seq ?_
       refine Qa ?_
       refine WL.next ?_
       refine WC.ret ?_
       refine At.blockret ?_
       refine At.thenret ?_
       refine At.thenret ?_
       refine At.blockret ?_
       refine At.thenret ?_
       refine fin1' rfl Q0 ?_
       refine RetP.mk hs ?_
       first
        | (simp [isValue, hJ, valueByte, lower, digit]; done)
        | (simp [isValue, hJ, valueByte, lower, digit]; omega)
        | simp_all [isValue, hJ, valueByte, lower, digit]
      ·
       replace h6 := not_eq_false h6
       replace h6 := of_decide_eq_true h6
       refine WC.skip ?_
       refine At.blocknormal ?_
       refine At.then_ ?_
       refine WC.region ?_
       refine Qm ?_
       refine WL.p Q0 (Yl.add Q0 Q0 Q7) ?_
       refine Qa ?_
       refine WL.nil ?_
       refine At.roundC (k + 1) (hs.only Q2) ⟨by rfl, trivial⟩ ⟨by rfl, trivial⟩ ?_ ?_
       ·
        omega
       ·
        rw [hJ]; simp [valueByte, lower, digit]; omega
     ·
      replace h5 := of_decide_eq_false h5
      refine WL.skip (d := 32) Q0 Q0 Q0 Q0 ?_
      refine WL.skip (d := 32) Q0 Q0 Q0 Q0 ?_
      refine WL.skip (d := 32) Q0 Q0 Q0 Q0 ?_
      refine WL.skip (d := 32) Q0 Q0 Q0 Q0 ?_
      refine WL.p Q0 (Yl.pickF Q0 Q0) ?_
      refine WL.next ?_
      refine WC.condF Q0 ?_
      refine WC.skip ?_
      refine At.blocknormal ?_
      refine At.then_ ?_
      refine WC.region ?_
      refine Qm ?_
      refine WL.p Q0 (Yl.add Q0 Q0 Q7) ?_
      refine Qa ?_
      refine WL.nil ?_
      refine At.roundC (k + 1) (hs.only Q2) ⟨by rfl, trivial⟩ ⟨by rfl, trivial⟩ ?_ ?_
      ·
       omega
      ·
       rw [hJ]; simp [valueByte, lower, digit]; omega
   ·
    replace h3 := of_decide_eq_false h3
    refine WL.skip (d := 20) Q0 Q0 Q0 Q0 ?_
    refine WL.skip (d := 20) Q0 Q0 Q0 Q0 ?_
    refine WL.skip (d := 20) Q0 Q0 Q0 Q0 ?_
    refine WL.skip (d := 20) Q0 Q0 Q0 Q0 ?_
    refine WL.skip (d := 20) Q0 Q0 Q0 Q0 ?_
    refine WL.skipU (d := 25) Q0 Q0 Q0 ?_
    refine WL.skipU (d := 25) Q0 Q0 Q0 ?_
    refine WL.skipU (d := 25) Q0 Q0 Q0 ?_
    refine WL.skipU (d := 25) Q0 Q0 Q0 ?_
    refine WL.skip (d := 20) Q0 Q0 Q0 Q0 ?_
    refine WL.p Q0 (Yl.pickF Q0 Q0) ?_
    refine Qm ?_
    refine WL.skip (d := 32) Q0 Q0 Q0 Q0 ?_
    refine WL.skip (d := 32) Q0 Q0 Q0 Q0 ?_
    refine WL.skip (d := 32) Q0 Q0 Q0 Q0 ?_
    refine WL.skip (d := 32) Q0 Q0 Q0 Q0 ?_
    refine WL.p Q0 (Yl.pickF Q0 Q0) ?_
    refine WL.next ?_
    refine WC.condF Q0 ?_
    refine WC.skip ?_
    refine At.blocknormal ?_
    refine At.then_ ?_
    refine WC.region ?_
    refine Qm ?_
    refine WL.p Q0 (Yl.add Q0 Q0 Q7) ?_
    refine Qa ?_
    refine WL.nil ?_
    refine At.roundC (k + 1) (hs.only Q2) ⟨by rfl, trivial⟩ ⟨by rfl, trivial⟩ ?_ ?_
    ·
     omega
    ·
     rw [hJ]; simp [valueByte, lower, digit]; omega
 ·
  replace h1 := of_decide_eq_false h1
  rw [drop_out (l := s) Q7] at hJ
  refine WC.exit ?_
  refine At.thenexit ?_
  refine At.thenexit ?_
  refine At.blockexit ?_
  refine At.then_ ?_
  refine WC.seq ?_
  refine Qm ?_
  refine WL.p Q0 (Yl.len_str str9 Q0) ?_
  refine WL.callp hs Q0 (Yc.func Q0 fn87) (c_spec_l1In _ _ _ _) ?_
  clear hs; intro w hs
  refine Qa ?_
  refine WL.next ?_
  refine WC.ret ?_
  refine fin1' rfl Q0 ?_
  refine RetP.mk hs ?_
  first
   | (simp [isValue, hJ, valueByte, lower, digit]; done)
   | (simp [isValue, hJ, valueByte, lower, digit]; omega)
   | simp_all [isValue, hJ, valueByte, lower, digit]

theorem c_spec_IsName (s : Str) (w : World) (h_s : Ph.ok w s)  : Calls Tryz.prog 106 [S s].toArray w (RetP w (Bo (isName s))) := by
 have hw : s.length ≤ 9223372036854775807 := h_s
 refine enterN 23 Tryz.func106 rfl rfl rfl ?_
 have hs := Sat.start w
 refine WC.seq ?_
 refine Qa ?_
 refine WL.next ?_
 refine WC.seq' ?_
 refine WC.seq ?_
 refine Qa ?_
 refine WL.next ?_
 refine WC.block ?_
 refine WC.loopC (ι := Nat) (fun k => s.length - k) (fun k => [(3, I (k : Int))]) (fun _ => []) (fun k => s.all lower = (s.drop k).all lower) [(0, _)] 0 (hs) ⟨by rfl, trivial⟩ ⟨by rfl, trivial⟩ ?_ ?_
 ·
  simp
 clear hs; rintro k w hJ hs
 simp only [List.nil_append] at hs
 refine WC.seq' ?_
 refine WC.seq ?_
 refine Qm ?_
 refine Qm ?_
 refine WL.p Q0 (Yl.len_str str9 Q0) ?_
 refine WL.p Q0 (Yl.lss Q0 Q0) ?_
 refine WL.next ?_
 refine WC.condS Q0 (fun h1 => ?_) (fun h1 => ?_)
 ·
  replace h1 := of_decide_eq_true h1
  obtain ⟨d, hd⟩ := exists_get (l := s) (k := k) Q7
  rw [drop_cons hd] at hJ
  refine WC.skipn ?_
  refine WC.seq' ?_
  refine WC.block ?_
  refine WC.seq ?_
  refine Qm ?_
  refine Qm ?_
  refine WL.p Q0 (Yl.index str9 Q0 Q0 Q0 (by first | assumption | exact List.getElem?_eq_getElem Q7)) ?_
  refine WL.p Q0 (Yl.lss Q0 Q0) ?_
  refine Qm ?_
  refine WL.split (d := 14) Q0 (fun h2 => ?_) (fun h2 => ?_)
  ·
   replace h2 := of_decide_eq_true h2
   refine WL.skip (d := 14) Q0 Q0 Q0 Q0 ?_
   refine WL.skip (d := 14) Q0 Q0 Q0 Q0 ?_
   refine WL.skip (d := 14) Q0 Q0 Q0 Q0 ?_
   refine WL.skip (d := 14) Q0 Q0 Q0 Q0 ?_
   refine WL.p Q0 (Yl.pickT Q0 Q0) ?_
   refine WL.next ?_
   refine WC.condT Q0 ?_
   refine WC.seq ?_
   refine Qa ?_
   refine WL.next ?_
   refine WC.ret ?_
   refine At.blockret ?_
   refine At.thenret ?_
   refine At.thenret ?_
   refine At.blockret ?_
   refine At.thenret ?_
   refine fin1' rfl Q0 ?_
   refine RetP.mk hs ?_
   first
    | (simp [isName, hJ, lower]; done)
    | (simp [isName, hJ, lower]; omega)
    | simp_all [isName, hJ, lower]
  ·
   replace h2 := of_decide_eq_false h2
   refine WL.run (d := 14) Q0 Q0 ?_
   refine Qm ?_
   refine WL.run (d := 14) Q0 Q0 ?_
   refine Qm ?_
   refine WL.run (d := 14) Q0 Q0 ?_
   refine WL.p Q0 (Yl.index str9 Q0 Q0 Q0 (by first | assumption | exact List.getElem?_eq_getElem Q7)) ?_
   refine WL.run (d := 14) Q0 Q0 ?_
   refine WL.p Q0 (Yl.gtr Q0 Q0) ?_
   refine WL.p Q0 (Yl.pickF Q0 Q0) ?_
   refine WL.next ?_
   refine WC.condS Q0 (fun h3 => ?_) (fun h3 => ?_)
   ·
    replace h3 := of_decide_eq_true h3
    refine WC.seq ?_
    refine Qa ?_
    refine WL.next ?_
    refine WC.ret ?_
    refine At.blockret ?_
    refine At.thenret ?_
    refine At.thenret ?_
    refine At.blockret ?_
    refine At.thenret ?_
    refine fin1' rfl Q0 ?_
    refine RetP.mk hs ?_
    first
     | (simp [isName, hJ, lower]; done)
     | (simp [isName, hJ, lower]; omega)
     | simp_all [isName, hJ, lower]
   ·
    replace h3 := of_decide_eq_false h3
    refine WC.skip ?_
    refine At.blocknormal ?_
    refine At.then_ ?_
    refine WC.region ?_
    refine Qm ?_
    refine WL.p Q0 (Yl.add Q0 Q0 Q7) ?_
    refine Qa ?_
    refine WL.nil ?_
    refine At.roundC (k + 1) (hs.only Q2) ⟨by rfl, trivial⟩ ⟨by rfl, trivial⟩ ?_ ?_
    ·
     omega
    ·
     rw [hJ]; simp [lower]; omega
 ·
  replace h1 := of_decide_eq_false h1
  rw [drop_out (l := s) Q7] at hJ
  refine WC.exit ?_
  refine At.thenexit ?_
  refine At.thenexit ?_
  refine At.blockexit ?_
  refine At.then_ ?_
  refine WC.seq ?_
  refine Qm ?_
  refine WL.p Q0 (Yl.len_str str9 Q0) ?_
  refine WL.callp hs Q0 (Yc.func Q0 fn87) (c_spec_l1In _ _ _ _) ?_
  clear hs; intro w hs
  refine Qa ?_
  refine WL.next ?_
  refine WC.ret ?_
  refine fin1' rfl Q0 ?_
  refine RetP.mk hs ?_
  first
   | (simp [isName, hJ, lower]; done)
   | (simp [isName, hJ, lower]; omega)
   | simp_all [isName, hJ, lower]

theorem c_spec_l9Names (l : (Sl Str)) (w : World) (h_l : Ph.ok w l)  : Calls Tryz.prog 232 [Sl.v l].toArray w (RetP w (Bo (hosts l.l))) := by
 have hw := h_l.lt
 refine enterN 19 Tryz.func232 rfl rfl rfl ?_
 have hs := Sat.start w
 refine WC.seq ?_
 refine Qa ?_
 refine WL.next ?_
 refine WC.seq' ?_
 refine WC.seq ?_
 refine Qa ?_
 refine WL.next ?_
 refine WC.block ?_
 refine WC.loopC (ι := Nat) (fun k => l.l.length - k) (fun k => [(3, I (k : Int))]) (fun _ => []) (fun k => l.l.all isName = (l.l.drop k).all isName) [(0, _)] 0 (hs) ⟨by rfl, trivial⟩ ⟨by rfl, trivial⟩ ?_ ?_
 ·
  simp
 clear hs; rintro k w hJ hs
 simp only [List.nil_append] at hs
 refine WC.seq' ?_
 refine WC.seq ?_
 refine Qm ?_
 refine Qm ?_
 refine WL.p Q0 (Yl.len_sl slu53 Q0) ?_
 refine WL.p Q0 (Yl.lss Q0 Q0) ?_
 refine WL.next ?_
 refine WC.condS Q0 (fun h1 => ?_) (fun h1 => ?_)
 ·
  replace h1 := of_decide_eq_true h1
  obtain ⟨d, hd⟩ := exists_get (l := l.l) (k := k) Q7
  rw [drop_cons hd] at hJ
  refine WC.skipn ?_
  refine WC.seq' ?_
  refine WC.block ?_
  refine WC.seq ?_
  refine Qm ?_
  refine Qm ?_
  refine WL.p Q0 (Yl.indexAddr slt53 Q0 Q0 (Ph.old h_l hs) Q0 (hd)) ?_
  refine WL.p Q0 (Yl.loadC0 sca9 Q0 (Sl.Ok.at_ (Ph.old h_l hs) (by assumption)).2 Q0) ?_
  refine WL.callp hs Q0 (Yc.func Q0 fn106) (c_spec_IsName _ _ (Ph.old (Sl.Ok.elem h_l hd) hs)) ?_
  clear hs; intro w hs
  refine WL.p Q0 (Yl.not Q0) ?_
  refine WL.next ?_
  refine WC.condS Q0 (fun h2 => ?_) (fun h2 => ?_)
  ·
   replace h2 := not_eq_true h2
   refine WC.seq ?_
   refine Qa ?_
   refine WL.next ?_
   refine WC.ret ?_
   refine At.blockret ?_
   refine At.thenret ?_
   refine At.thenret ?_
   refine At.blockret ?_
   refine At.thenret ?_
   refine fin1' rfl Q0 ?_
   refine RetP.mk hs ?_
   have e : l.l.all isName = false := by rw [hJ]; simp_all
   simp [hosts, e]
  ·
   replace h2 := not_eq_false h2
   refine WC.skip ?_
   refine At.blocknormal ?_
   refine At.then_ ?_
   refine WC.region ?_
   refine Qm ?_
   refine WL.p Q0 (Yl.add Q0 Q0 Q7) ?_
   refine Qa ?_
   refine WL.nil ?_
   refine At.roundC (k + 1) (hs.only Q2) ⟨by rfl, trivial⟩ ⟨by rfl, trivial⟩ ?_ ?_
   ·
    omega
   ·
    rw [hJ]; simp_all
 ·
  replace h1 := of_decide_eq_false h1
  rw [drop_out (l := l.l) Q7] at hJ
  refine WC.exit ?_
  refine At.thenexit ?_
  refine At.thenexit ?_
  refine At.blockexit ?_
  refine At.then_ ?_
  refine WC.seq ?_
  refine Qm ?_
  refine WL.p Q0 (Yl.len_sl slu53 Q0) ?_
  refine WL.p Q0 (Yl.leq Q0 Q0) ?_
  refine Qa ?_
  refine WL.next ?_
  refine WC.ret ?_
  refine fin1' rfl Q0 ?_
  refine RetP.mk hs ?_
  have e : l.l.all isName = true := by rw [hJ]; rfl
  simp only [hosts, e, dec_le4, Bool.true_and]

theorem c_spec_IsPolicy (p : PPolicy) (w : World) (h_p : Ph.ok w p)  : Calls Tryz.prog 216 [.agg #[Bo p.set, Sl.v p.scripts, Sl.v p.styles, Sl.v p.images, S p.nonce]].toArray w (RetP w (Bo (p.lg.is))) := by
 refine enterN 50 Tryz.func216 rfl rfl rfl ?_
 have hs := Sat.start w
 refine WC.seq ?_
 refine WL.r Q0 (Yr.box hs Q0 Q0) ?_
 clear hs; rintro _ w ⟨b1, rfl, hb, hs⟩; clear hb
 refine Qa ?_
 refine WL.next ?_
 refine WC.seq' ?_
 refine WC.seq ?_
 refine WL.p Q0 (Yl.fieldAddr fa63_0 Q0) ?_
 refine WL.p Q0 (Yl.loadB sca4 Q0 hs Q1 Q0) ?_
 refine WL.p Q0 (Yl.not Q0) ?_
 refine WL.next ?_
 refine WC.condS Q0 (fun h1 => ?_) (fun h1 => ?_)
 ·
  replace h1 := not_eq_true h1
  refine WC.seq ?_
  refine WL.p Q0 (Yl.fieldAddr fa63_1 Q0) ?_
  refine WL.p Q0 (Yl.loadB sca53 Q0 hs Q1 Q0) ?_
  refine WL.p Q0 (Yl.len_sl slu53 Q0) ?_
  refine WL.p Q0 (Yl.eqi Q0 Q0) ?_
  refine Qm ?_
  refine WL.split (d := 10) Q0 (fun h2 => ?_) (fun h2 => ?_)
  ·
   replace h2 := of_decide_eq_true h2
   refine WL.run (d := 10) Q0 Q0 ?_
   refine WL.p Q0 (Yl.fieldAddr fa63_2 Q0) ?_
   refine WL.run (d := 10) Q0 Q0 ?_
   refine WL.p Q0 (Yl.loadB sca53 Q0 hs Q1 Q0) ?_
   refine WL.run (d := 10) Q0 Q0 ?_
   refine WL.p Q0 (Yl.len_sl slu53 Q0) ?_
   refine WL.run (d := 10) Q0 Q0 ?_
   refine WL.p Q0 (Yl.eqi Q0 Q0) ?_
   refine WL.p Q0 (Yl.pickT Q0 Q0) ?_
   refine Qm ?_
   refine WL.split (d := 16) Q0 (fun h3 => ?_) (fun h3 => ?_)
   ·
    replace h3 := of_decide_eq_true h3
    refine WL.run (d := 16) Q0 Q0 ?_
    refine WL.p Q0 (Yl.fieldAddr fa63_3 Q0) ?_
    refine WL.run (d := 16) Q0 Q0 ?_
    refine WL.p Q0 (Yl.loadB sca53 Q0 hs Q1 Q0) ?_
    refine WL.run (d := 16) Q0 Q0 ?_
    refine WL.p Q0 (Yl.len_sl slu53 Q0) ?_
    refine WL.run (d := 16) Q0 Q0 ?_
    refine WL.p Q0 (Yl.eqi Q0 Q0) ?_
    refine WL.p Q0 (Yl.pickT Q0 Q0) ?_
    refine Qm ?_
    refine WL.split (d := 22) Q0 (fun h4 => ?_) (fun h4 => ?_)
    ·
     replace h4 := of_decide_eq_true h4
     refine WL.run (d := 22) Q0 Q0 ?_
     refine WL.p Q0 (Yl.fieldAddr fa63_4 Q0) ?_
     refine WL.run (d := 22) Q0 Q0 ?_
     refine WL.p Q0 (Yl.loadB sca9 Q0 hs Q1 Q0) ?_
     refine WL.run (d := 22) Q0 Q0 ?_
     refine WL.p Q0 (Yl.eqs Q0 Q0) ?_
     refine WL.p Q0 (Yl.pickT Q0 Q0) ?_
     refine Qa ?_
     refine WL.next ?_
     refine WC.ret ?_
     refine At.thenret ?_
     refine fin1' rfl Q0 ?_
     refine RetP.mk hs ?_
     simp_all [TPolicy.is]
    ·
     replace h4 := of_decide_eq_false h4
     refine WL.skip (d := 22) Q0 Q0 Q0 Q0 ?_
     refine WL.skip (d := 22) Q0 Q0 Q0 Q0 ?_
     refine WL.skip (d := 22) Q0 Q0 Q0 Q0 ?_
     refine WL.p Q0 (Yl.pickF Q0 Q0) ?_
     refine Qa ?_
     refine WL.next ?_
     refine WC.ret ?_
     refine At.thenret ?_
     refine fin1' rfl Q0 ?_
     refine RetP.mk hs ?_
     simp_all [TPolicy.is]
   ·
    replace h3 := of_decide_eq_false h3
    refine WL.skip (d := 16) Q0 Q0 Q0 Q0 ?_
    refine WL.skip (d := 16) Q0 Q0 Q0 Q0 ?_
    refine WL.skip (d := 16) Q0 Q0 Q0 Q0 ?_
    refine WL.skip (d := 16) Q0 Q0 Q0 Q0 ?_
    refine WL.p Q0 (Yl.pickF Q0 Q0) ?_
    refine Qm ?_
    refine WL.skip (d := 22) Q0 Q0 Q0 Q0 ?_
    refine WL.skip (d := 22) Q0 Q0 Q0 Q0 ?_
    refine WL.skip (d := 22) Q0 Q0 Q0 Q0 ?_
    refine WL.p Q0 (Yl.pickF Q0 Q0) ?_
    refine Qa ?_
    refine WL.next ?_
    refine WC.ret ?_
    refine At.thenret ?_
    refine fin1' rfl Q0 ?_
    refine RetP.mk hs ?_
    simp_all [TPolicy.is]
  ·
   replace h2 := of_decide_eq_false h2
   refine WL.skip (d := 10) Q0 Q0 Q0 Q0 ?_
   refine WL.skip (d := 10) Q0 Q0 Q0 Q0 ?_
   refine WL.skip (d := 10) Q0 Q0 Q0 Q0 ?_
   refine WL.skip (d := 10) Q0 Q0 Q0 Q0 ?_
   refine WL.p Q0 (Yl.pickF Q0 Q0) ?_
   refine Qm ?_
   refine WL.skip (d := 16) Q0 Q0 Q0 Q0 ?_
   refine WL.skip (d := 16) Q0 Q0 Q0 Q0 ?_
   refine WL.skip (d := 16) Q0 Q0 Q0 Q0 ?_
   refine WL.skip (d := 16) Q0 Q0 Q0 Q0 ?_
   refine WL.p Q0 (Yl.pickF Q0 Q0) ?_
   refine Qm ?_
   refine WL.skip (d := 22) Q0 Q0 Q0 Q0 ?_
   refine WL.skip (d := 22) Q0 Q0 Q0 Q0 ?_
   refine WL.skip (d := 22) Q0 Q0 Q0 Q0 ?_
   refine WL.p Q0 (Yl.pickF Q0 Q0) ?_
   refine Qa ?_
   refine WL.next ?_
   refine WC.ret ?_
   refine At.thenret ?_
   refine fin1' rfl Q0 ?_
   refine RetP.mk hs ?_
   simp_all [TPolicy.is]
 ·
  replace h1 := not_eq_false h1
  refine WC.skipn ?_
  refine WC.seq ?_
  refine WL.p Q0 (Yl.fieldAddr fa63_1 Q0) ?_
  refine WL.p Q0 (Yl.loadB sca53 Q0 hs Q1 Q0) ?_
  refine WL.callp hs Q0 (Yc.func Q0 fn232) (c_spec_l9Names _ _ (Ph.old h_p.scripts hs)) ?_
  clear hs; intro w hs
  refine Qm ?_
  refine WL.split (d := 30) Q0 (fun h2 => ?_) (fun h2 => ?_)
  ·
   refine WL.run (d := 30) Q0 Q0 ?_
   refine WL.p Q0 (Yl.fieldAddr fa63_2 Q0) ?_
   refine WL.run (d := 30) Q0 Q0 ?_
   refine WL.p Q0 (Yl.loadB sca53 Q0 hs Q1 Q0) ?_
   refine WL.run (d := 30) Q0 Q0 ?_
   refine WL.callp hs Q0 (Yc.func Q0 fn232) (c_spec_l9Names _ _ (Ph.old h_p.styles hs)) ?_
   clear hs; intro w hs
   refine WL.p Q0 (Yl.pickT Q0 Q0) ?_
   refine Qm ?_
   refine WL.split (d := 35) Q0 (fun h3 => ?_) (fun h3 => ?_)
   ·
    refine WL.run (d := 35) Q0 Q0 ?_
    refine WL.p Q0 (Yl.fieldAddr fa63_3 Q0) ?_
    refine WL.run (d := 35) Q0 Q0 ?_
    refine WL.p Q0 (Yl.loadB sca53 Q0 hs Q1 Q0) ?_
    refine WL.run (d := 35) Q0 Q0 ?_
    refine WL.callp hs Q0 (Yc.func Q0 fn232) (c_spec_l9Names _ _ (Ph.old h_p.images hs)) ?_
    clear hs; intro w hs
    refine WL.p Q0 (Yl.pickT Q0 Q0) ?_
    refine Qm ?_
    refine WL.split (d := 40) Q0 (fun h4 => ?_) (fun h4 => ?_)
    ·
     refine WL.run (d := 40) Q0 Q0 ?_
     refine WL.p Q0 (Yl.fieldAddr fa63_4 Q0) ?_
     refine WL.run (d := 40) Q0 Q0 ?_
     refine WL.p Q0 (Yl.loadB sca9 Q0 hs Q1 Q0) ?_
     refine WL.run (d := 40) Q0 Q0 ?_
     refine WL.p Q0 (Yl.eqs Q0 Q0) ?_
     refine WL.run (d := 40) Q0 Q0 ?_
     refine Qm ?_
     refine WL.split (d := 44) Q0 (fun h5 => ?_) (fun h5 => ?_)
     ·
      replace h5 := of_decide_eq_true h5
      refine WL.skip (d := 44) Q0 Q0 Q0 Q0 ?_
      refine WL.skip (d := 44) Q0 Q0 Q0 Q0 ?_
      refine WL.skip (d := 44) Q0 Q0 Q0 Q0 ?_
      refine WL.run (d := 40) Q0 Q0 ?_
      refine WL.p Q0 (Yl.pickT Q0 Q0) ?_
      refine WL.p Q0 (Yl.pickT Q0 Q0) ?_
      refine Qa ?_
      refine WL.next ?_
      refine WC.ret ?_
      refine fin1' rfl Q0 ?_
      refine RetP.mk hs ?_
      simp_all [TPolicy.is]
     ·
      replace h5 := of_decide_eq_false h5
      refine WL.run (d := 44) Q0 Q0 ?_
      refine WL.p Q0 (Yl.fieldAddr fa63_4 Q0) ?_
      refine WL.run (d := 44) Q0 Q0 ?_
      refine WL.p Q0 (Yl.loadB sca9 Q0 hs Q1 Q0) ?_
      refine WL.run (d := 44) Q0 Q0 ?_
      refine WL.callp hs Q0 (Yc.func Q0 fn190) (c_spec_IsValue _ _ (Ph.old h_p.nonce hs)) ?_
      clear hs; intro w hs
      refine WL.run (d := 40) Q0 Q0 ?_
      refine WL.p Q0 (Yl.pickF Q0 Q0) ?_
      refine WL.p Q0 (Yl.pickT Q0 Q0) ?_
      refine Qa ?_
      refine WL.next ?_
      refine WC.ret ?_
      refine fin1' rfl Q0 ?_
      refine RetP.mk hs ?_
      simp_all [TPolicy.is]
    ·
     refine WL.skip (d := 40) Q0 Q0 Q0 Q0 ?_
     refine WL.skip (d := 40) Q0 Q0 Q0 Q0 ?_
     refine WL.skip (d := 40) Q0 Q0 Q0 Q0 ?_
     refine WL.skip (d := 40) Q0 Q0 Q0 Q0 ?_
     refine WL.skipU (d := 44) Q0 Q0 Q0 ?_
     refine WL.skipU (d := 44) Q0 Q0 Q0 ?_
     refine WL.skipU (d := 44) Q0 Q0 Q0 ?_
     refine WL.skip (d := 40) Q0 Q0 Q0 Q0 ?_
     refine WL.p Q0 (Yl.pickF Q0 Q0) ?_
     refine Qa ?_
     refine WL.next ?_
     refine WC.ret ?_
     refine fin1' rfl Q0 ?_
     refine RetP.mk hs ?_
     simp_all [TPolicy.is]
   ·
    refine WL.skip (d := 35) Q0 Q0 Q0 Q0 ?_
    refine WL.skip (d := 35) Q0 Q0 Q0 Q0 ?_
    refine WL.skip (d := 35) Q0 Q0 Q0 Q0 ?_
    refine WL.p Q0 (Yl.pickF Q0 Q0) ?_
    refine Qm ?_
    refine WL.skip (d := 40) Q0 Q0 Q0 Q0 ?_
    refine WL.skip (d := 40) Q0 Q0 Q0 Q0 ?_
    refine WL.skip (d := 40) Q0 Q0 Q0 Q0 ?_
    refine WL.skip (d := 40) Q0 Q0 Q0 Q0 ?_
    refine WL.skipU (d := 44) Q0 Q0 Q0 ?_
    refine WL.skipU (d := 44) Q0 Q0 Q0 ?_
    refine WL.skipU (d := 44) Q0 Q0 Q0 ?_
    refine WL.skip (d := 40) Q0 Q0 Q0 Q0 ?_
    refine WL.p Q0 (Yl.pickF Q0 Q0) ?_
    refine Qa ?_
    refine WL.next ?_
    refine WC.ret ?_
    refine fin1' rfl Q0 ?_
    refine RetP.mk hs ?_
    simp_all [TPolicy.is]
  ·
   refine WL.skip (d := 30) Q0 Q0 Q0 Q0 ?_
   refine WL.skip (d := 30) Q0 Q0 Q0 Q0 ?_
   refine WL.skip (d := 30) Q0 Q0 Q0 Q0 ?_
   refine WL.p Q0 (Yl.pickF Q0 Q0) ?_
   refine Qm ?_
   refine WL.skip (d := 35) Q0 Q0 Q0 Q0 ?_
   refine WL.skip (d := 35) Q0 Q0 Q0 Q0 ?_
   refine WL.skip (d := 35) Q0 Q0 Q0 Q0 ?_
   refine WL.p Q0 (Yl.pickF Q0 Q0) ?_
   refine Qm ?_
   refine WL.skip (d := 40) Q0 Q0 Q0 Q0 ?_
   refine WL.skip (d := 40) Q0 Q0 Q0 Q0 ?_
   refine WL.skip (d := 40) Q0 Q0 Q0 Q0 ?_
   refine WL.skip (d := 40) Q0 Q0 Q0 Q0 ?_
   refine WL.skipU (d := 44) Q0 Q0 Q0 ?_
   refine WL.skipU (d := 44) Q0 Q0 Q0 ?_
   refine WL.skipU (d := 44) Q0 Q0 Q0 ?_
   refine WL.skip (d := 40) Q0 Q0 Q0 Q0 ?_
   refine WL.p Q0 (Yl.pickF Q0 Q0) ?_
   refine Qa ?_
   refine WL.next ?_
   refine WC.ret ?_
   refine fin1' rfl Q0 ?_
   refine RetP.mk hs ?_
   simp_all [TPolicy.is]

theorem c_spec_l9Words (word : Str) (l : (Sl Str)) (w : World) (h_l : Ph.ok w l) (hb : word.length + strsz l.l ≤ 4194304) : Calls Tryz.prog 217 [S word, Sl.v l].toArray w (RetP w (S (wordsText word l.l))) := by
 have hw := h_l.lt
 refine enterN 20 Tryz.func217 rfl rfl rfl ?_
 have hs := Sat.start w
 refine WC.seq ?_
 refine Qa ?_
 refine WL.next ?_
 refine WC.seq' ?_
 refine WC.seq ?_
 refine Qa ?_
 refine WL.next ?_
 refine WC.block ?_
 refine WC.loopC (ι := Nat × Str) (fun ⟨k, s⟩ => l.l.length - k) (fun ⟨k, s⟩ => [(5, I (k : Int)), (0, S s)]) (fun _ => []) (fun ⟨k, s⟩ => k ≤ l.l.length ∧ s = wordsText word (l.l.take k)) [(1, _), (4, _)] (0, word) (hs) ⟨by rfl, by rfl, trivial⟩ ⟨by rfl, by rfl, trivial⟩ ?_ ?_
 ·
  exact ⟨Nat.zero_le _, by rw [List.take_zero, wordsText_nil]⟩
 clear hs; rintro ⟨k, s⟩ w ⟨hJ1, hJ2⟩ hs
 simp only [List.nil_append] at hs
 refine WC.seq' ?_
 refine WC.seq ?_
 refine Qm ?_
 refine Qm ?_
 refine WL.p Q0 (Yl.len_sl slu53 Q0) ?_
 refine WL.p Q0 (Yl.lss Q0 Q0) ?_
 refine WL.next ?_
 refine WC.condS Q0 (fun h1 => ?_) (fun h1 => ?_)
 ·
  replace h1 := of_decide_eq_true h1
  obtain ⟨d, hd⟩ := exists_get (l := l.l) (k := k) Q7
  have hsl := wordsText_len word (l.l.take k)
  have hsz := lsz_take List.length l.l k
  rw [← hJ2] at hsl
  have hdl := lsum_le (f := List.length) (List.mem_of_getElem? hd)
  simp only [strsz, lsz] at hb hsl
  try simp only [lsz] at hsz
  refine WC.skipn ?_
  refine WC.seq' ?_
  refine WC.block ?_
  refine WC.region ?_
  refine Qm ?_
  refine WL.p Q0 (Yl.cat Q0 Q0 (by simp only [List.length_append, List.length_cons, List.length_nil] at *; omega)) ?_
  refine Qm ?_
  refine Qm ?_
  refine WL.p Q0 (Yl.indexAddr slt53 Q0 Q0 (Ph.old h_l hs) Q0 (hd)) ?_
  refine WL.p Q0 (Yl.loadC0 sca9 Q0 (Sl.Ok.at_ (Ph.old h_l hs) (by assumption)).2 Q0) ?_
  refine WL.p Q0 (Yl.cat Q0 Q0 (by simp only [List.length_append, List.length_cons, List.length_nil] at *; omega)) ?_
  refine Qa ?_
  refine WL.nil ?_
  refine At.blocknormal ?_
  refine At.then_ ?_
  refine WC.region ?_
  refine Qm ?_
  refine WL.p Q0 (Yl.add Q0 Q0 Q7) ?_
  refine Qa ?_
  refine WL.nil ?_
  refine At.roundC (k + 1, s ++ [32] ++ d) (hs.only Q2) ⟨by rfl, by rfl, trivial⟩ ⟨by rfl, by rfl, trivial⟩ ?_ ?_
  ·
   show l.l.length - (k + 1) < l.l.length - k
   omega
  ·
   exact ⟨by omega, by rw [wordsText_snoc _ hd, hJ2]⟩
 ·
  replace h1 := of_decide_eq_false h1
  refine WC.exit ?_
  refine At.thenexit ?_
  refine At.thenexit ?_
  refine At.blockexit ?_
  refine At.then_ ?_
  refine WC.seq ?_
  refine Qm ?_
  refine Qa ?_
  refine WL.next ?_
  refine WC.ret ?_
  refine fin1' rfl Q0 ?_
  refine RetP.mk hs ?_
  rw [hJ2, show k = l.l.length from by omega, List.take_length]

theorem c_spec_FormatPolicy (p : PPolicy) (w : World) (h_p : Ph.ok w p) (hb : p.lg.size ≤ 2097152) : Calls Tryz.prog 193 [.agg #[Bo p.set, Sl.v p.scripts, Sl.v p.styles, Sl.v p.images, S p.nonce]].toArray w (RetP w (S (fmtPolicy p.lg))) := by
 refine enterN 34 Tryz.func193 rfl rfl rfl ?_
 have hs := Sat.start w
 refine WC.seq ?_
 refine WL.r Q0 (Yr.box hs Q0 Q0) ?_
 clear hs; rintro _ w ⟨b1, rfl, hb, hs⟩; clear hb
 refine Qa ?_
 refine WL.next ?_
 refine WC.seq' ?_
 refine WC.seq ?_
 refine WL.p Q0 (Yl.loadAB agg63 Q0 hs Q1 Q0 Q0) ?_
 refine WL.callp hs Q0 (Yc.func Q0 fn216) (c_spec_IsPolicy _ _ (Ph.old h_p hs)) ?_
 clear hs; intro w hs
 refine WL.p Q0 (Yl.not Q0) ?_
 refine Qm ?_
 refine WL.split (d := 7) Q0 (fun h1 => ?_) (fun h1 => ?_)
 ·
  replace h1 := not_eq_true h1
  refine WL.skip (d := 7) Q0 Q0 Q0 Q0 ?_
  refine WL.skip (d := 7) Q0 Q0 Q0 Q0 ?_
  refine WL.skip (d := 7) Q0 Q0 Q0 Q0 ?_
  refine WL.p Q0 (Yl.pickT Q0 Q0) ?_
  refine WL.next ?_
  refine WC.condT Q0 ?_
  refine WC.seq ?_
  refine Qa ?_
  refine WL.next ?_
  refine WC.ret ?_
  refine At.thenret ?_
  refine fin1' rfl Q0 ?_
  refine RetP.mk hs ?_
  first
   | (simp [fmtPolicy, h1]; done)
   | (simp [fmtPolicy, h2]; done)
   | (simp [fmtPolicy, h1, h2, h3]; done)
 ·
  replace h1 := not_eq_false h1
  refine WL.run (d := 7) Q0 Q0 ?_
  refine WL.p Q0 (Yl.fieldAddr fa63_0 Q0) ?_
  refine WL.run (d := 7) Q0 Q0 ?_
  refine WL.p Q0 (Yl.loadB sca4 Q0 hs Q1 Q0) ?_
  refine WL.run (d := 7) Q0 Q0 ?_
  refine WL.p Q0 (Yl.not Q0) ?_
  refine WL.p Q0 (Yl.pickF Q0 Q0) ?_
  refine WL.next ?_
  refine WC.condS Q0 (fun h2 => ?_) (fun h2 => ?_)
  ·
   replace h2 := not_eq_true h2
   refine WC.seq ?_
   refine Qa ?_
   refine WL.next ?_
   refine WC.ret ?_
   refine At.thenret ?_
   refine fin1' rfl Q0 ?_
   refine RetP.mk hs ?_
   first
    | (simp [fmtPolicy, h1]; done)
    | (simp [fmtPolicy, h2]; done)
    | (simp [fmtPolicy, h1, h2, h3]; done)
  ·
   replace h2 := not_eq_false h2
   refine WC.skipn ?_
   refine WC.quietn mixed Q6 hs ?_
   refine WQ.p Q0 (fun w hs => Yl.fieldAddr fa63_1 Q0) ?_
   refine WQ.p Q0 (fun w hs => Yl.loadB sca53 Q0 hs Q1 Q0) ?_
   refine WQ.callp Q0 (fun w => Yc.func Q0 fn217) (fun w hs => (c_spec_l9Words _ _ _ (Ph.old h_p.scripts hs) (by first | assumption | (simp only [TPolicy.size, PPolicy.lg, List.length_cons, List.length_nil] at *; omega)))) (fun _ _ hs hb => hs.ext hb) ?_
   refine WQ.p Q0 (fun w hs => Yl.cat Q0 Q0 (by have := wordsText_len [115, 99, 114, 105, 112, 116] p.scripts.l; have := wordsText_len [115, 116, 121, 108, 101] p.styles.l; have := wordsText_len [105, 109, 103] p.images.l; simp only [List.length_append, List.length_cons, List.length_nil, TPolicy.size, PPolicy.lg] at *; omega)) ?_
   refine WQ.p Q0 (fun w hs => Yl.fieldAddr fa63_2 Q0) ?_
   refine WQ.p Q0 (fun w hs => Yl.loadB sca53 Q0 hs Q1 Q0) ?_
   refine WQ.callp Q0 (fun w => Yc.func Q0 fn217) (fun w hs => (c_spec_l9Words _ _ _ (Ph.old h_p.styles hs) (by first | assumption | (simp only [TPolicy.size, PPolicy.lg, List.length_cons, List.length_nil] at *; omega)))) (fun _ _ hs hb => hs.ext hb) ?_
   refine WQ.p Q0 (fun w hs => Yl.cat Q0 Q0 (by have := wordsText_len [115, 99, 114, 105, 112, 116] p.scripts.l; have := wordsText_len [115, 116, 121, 108, 101] p.styles.l; have := wordsText_len [105, 109, 103] p.images.l; simp only [List.length_append, List.length_cons, List.length_nil, TPolicy.size, PPolicy.lg] at *; omega)) ?_
   refine WQ.p Q0 (fun w hs => Yl.cat Q0 Q0 (by have := wordsText_len [115, 99, 114, 105, 112, 116] p.scripts.l; have := wordsText_len [115, 116, 121, 108, 101] p.styles.l; have := wordsText_len [105, 109, 103] p.images.l; simp only [List.length_append, List.length_cons, List.length_nil, TPolicy.size, PPolicy.lg] at *; omega)) ?_
   refine WQ.p Q0 (fun w hs => Yl.fieldAddr fa63_3 Q0) ?_
   refine WQ.p Q0 (fun w hs => Yl.loadB sca53 Q0 hs Q1 Q0) ?_
   refine WQ.callp Q0 (fun w => Yc.func Q0 fn217) (fun w hs => (c_spec_l9Words _ _ _ (Ph.old h_p.images hs) (by first | assumption | (simp only [TPolicy.size, PPolicy.lg, List.length_cons, List.length_nil] at *; omega)))) (fun _ _ hs hb => hs.ext hb) ?_
   refine WQ.p Q0 (fun w hs => Yl.cat Q0 Q0 (by have := wordsText_len [115, 99, 114, 105, 112, 116] p.scripts.l; have := wordsText_len [115, 116, 121, 108, 101] p.styles.l; have := wordsText_len [105, 109, 103] p.images.l; simp only [List.length_append, List.length_cons, List.length_nil, TPolicy.size, PPolicy.lg] at *; omega)) ?_
   refine WQ.p Q0 (fun w hs => Yl.assign Q0) ?_
   refine WQ.next ?_
   clear hs; intro w hs
   refine WC.seq' ?_
   refine WC.seq ?_
   refine WL.p Q0 (Yl.fieldAddr fa63_4 Q0) ?_
   refine WL.p Q0 (Yl.loadB sca9 Q0 hs Q1 Q0) ?_
   refine WL.p Q0 (Yl.nes Q0 Q0) ?_
   refine WL.next ?_
   refine WC.condS Q0 (fun h3 => ?_) (fun h3 => ?_)
   ·
    replace h3 := not_eq_true h3
    replace h3 := of_decide_eq_false h3
    refine WC.region ?_
    refine Qm ?_
    refine WL.p Q0 (Yl.cat Q0 Q0 (by have := wordsText_len [115, 99, 114, 105, 112, 116] p.scripts.l; have := wordsText_len [115, 116, 121, 108, 101] p.styles.l; have := wordsText_len [105, 109, 103] p.images.l; simp only [List.length_append, List.length_cons, List.length_nil, TPolicy.size, PPolicy.lg] at *; omega)) ?_
    refine WL.p Q0 (Yl.fieldAddr fa63_4 Q0) ?_
    refine WL.p Q0 (Yl.loadB sca9 Q0 hs Q1 Q0) ?_
    refine WL.p Q0 (Yl.cat Q0 Q0 (by have := wordsText_len [115, 99, 114, 105, 112, 116] p.scripts.l; have := wordsText_len [115, 116, 121, 108, 101] p.styles.l; have := wordsText_len [105, 109, 103] p.images.l; simp only [List.length_append, List.length_cons, List.length_nil, TPolicy.size, PPolicy.lg] at *; omega)) ?_
    refine Qa ?_
    refine WL.nil ?_
    refine At.then_ ?_
    refine WC.seq ?_
    refine Qm ?_
    refine Qa ?_
    refine WL.next ?_
    refine WC.ret ?_
    refine fin1' rfl Q0 ?_
    refine RetP.mk hs ?_
    first
     | (simp [fmtPolicy, h1]; done)
     | (simp [fmtPolicy, h2]; done)
     | (simp [fmtPolicy, h1, h2, h3]; done)
   ·
    replace h3 := not_eq_false h3
    replace h3 := of_decide_eq_true h3
    refine WC.skipn ?_
    refine WC.seq ?_
    refine Qm ?_
    refine Qa ?_
    refine WL.next ?_
    refine WC.ret ?_
    refine fin1' rfl Q0 ?_
    refine RetP.mk hs ?_
    first
     | (simp [fmtPolicy, h1]; done)
     | (simp [fmtPolicy, h2]; done)
     | (simp [fmtPolicy, h1, h2, h3]; done)

theorem c_spec_ParsePolicy (s : Str) (w : World)  (hb : s.length ≤ 1048576) : Calls Tryz.prog 160 [S s].toArray w (Ret w (fun v w' => ∃ x : PPolicy, v = .tuple #[.agg (Ph.enc x).toArray, Bo (policyIs s)] ∧ x.lg = policyOf s ∧ Fresh w x w')) := by
 refine enterN 52 Tryz.func160 rfl rfl rfl ?_
 have hs := Sat.start w
 refine WC.seq ?_
 refine WL.r Q0 (Yr.alloc hs zt63) ?_
 clear hs; rintro _ w ⟨b1, rfl, hb, hs⟩; clear hb
 refine Qa ?_
 refine WL.next ?_
 refine WC.seq' ?_
 refine WC.seq ?_
 refine Qm ?_
 refine WL.p Q0 (Yl.eqs Q0 Q0) ?_
 refine WL.next ?_
 refine WC.condS Q0 (fun h1 => ?_) (fun h1 => ?_)
 ·
  replace h1 := of_decide_eq_true h1
  refine WC.seq ?_
  refine WL.p Q0 (Yl.build bt63 Q0 Q4) ?_
  refine WL.s (Yr.storeB hs Q0 Q0 Q0 Q5 Q3 Q0 (by exact szf63)) ?_
  clear hs; rintro _ w hs
  refine Qa ?_
  refine WL.next ?_
  refine WC.ret ?_
  refine At.thenret ?_
  refine fin2c rfl agg63 Q0 Q0 hs Q1 Q0 ?_
  refine Ret.mk hs ?_
  have hb9 : policyIs s = true := policyIs_nil h1
  exact ⟨⟨false, ⟨[], none, 0⟩, ⟨[], none, 0⟩, ⟨[], none, 0⟩, []⟩, by rw [hb9]; rfl, (policyOf_no (.inl h1)).symm, ⟨⟨[], PPolicy.zown _, .nil, fun b h => by cases h⟩⟩⟩
 ·
  replace h1 := of_decide_eq_false h1
  refine WC.skipn ?_
  refine WC.seq ?_
  refine Qm ?_
  refine WL.call hs Q0 (Yc.func Q0 fn192) (c_spec_l5Split _ 59 _ Q10) ?_
  have hs0 := hs; clear hs; intro v w hb hR hs; clear hs
  obtain ⟨x2, rfl, hx2, hf2⟩ := hR
  obtain ⟨F2, hs⟩ := hf2.sat hs0 hb; clear hs0 hf2
  have hle2 := Sl.Ok.le (hs.okow (x := x2) (F := F2) Q1)
  refine Qa ?_
  refine WL.next ?_
  refine WC.seq' ?_
  refine WC.seq ?_
  refine Qm ?_
  refine WL.p Q0 (Yl.len_sl slu53 Q0) ?_
  refine WL.p Q0 (Yl.lss Q0 Q0) ?_
  refine WL.next ?_
  refine WC.condS Q0 (fun h2 => ?_) (fun h2 => ?_)
  ·
   replace h2 := of_decide_eq_true h2
   refine WC.seq ?_
   refine WL.p Q0 (Yl.build bt63 Q0 Q4) ?_
   refine WL.s (Yr.storeB hs Q0 Q0 Q0 Q5 Q3 Q0 (by exact szf63)) ?_
   clear hs; rintro _ w hs
   refine Qa ?_
   refine WL.next ?_
   refine WC.ret ?_
   refine At.thenret ?_
   refine fin2c rfl agg63 Q0 Q0 hs Q1 Q0 ?_
   refine Ret.mk hs ?_
   have hb9 : policyIs s = false := policyIs_short h1 (by rw [← show x2.l = splitC 59 s from hx2]; omega)
   exact ⟨⟨false, ⟨[], none, 0⟩, ⟨[], none, 0⟩, ⟨[], none, 0⟩, []⟩, by rw [hb9]; rfl, (policyOf_no (.inr hb9)).symm, ⟨⟨[], PPolicy.zown _, .nil, fun b h => by cases h⟩⟩⟩
  ·
   replace h2 := of_decide_eq_false h2
   have h39 := getD_len (s := s) (i := 3)
   rw [← show x2.l = splitC 59 s from hx2] at h39
   refine WC.skipn ?_
   refine WC.anyn mixed hs ?_
   clear hs; intro w hs
   refine WA.p (i := 0) Q0 Q6 Q6 Q6 Q0 (hs.only Q2) (fun w hs => Yl.move Q0) ?_
   refine WA.p (i := 1) Q0 Q6 Q6 Q6 Q0 (hs.only Q2) (fun w hs => Yl.indexAddr (k := 0) slt53 Q0 Q0 (hs.okow (x := x2) (F := F2) Q1) Q0 ((getD_some (i := 0) (z := ([] : Str)) Q7))) ?_
   refine WA.p (i := 2) Q0 Q6 Q6 Q6 Q0 (hs.only Q2) (fun w hs => Yl.loadC0 sca9 Q0 (Sl.Ok.at_ (hs.okow (x := x2) (F := F2) Q1) ((getD_some (i := 0) (z := ([] : Str)) Q7))).2 Q0) ?_
   refine WA.p (i := 5) Q0 Q6 Q6 Q6 Q0 (hs.only Q2) (fun w hs => Yl.move Q0) ?_
   refine WA.p (i := 6) Q0 Q6 Q6 Q6 Q0 (hs.only Q2) (fun w hs => Yl.indexAddr (k := 1) slt53 Q0 Q0 (hs.okow (x := x2) (F := F2) Q1) Q0 ((getD_some (i := 1) (z := ([] : Str)) Q7))) ?_
   refine WA.p (i := 7) Q0 Q6 Q6 Q6 Q0 (hs.only Q2) (fun w hs => Yl.loadC0 sca9 Q0 (Sl.Ok.at_ (hs.okow (x := x2) (F := F2) Q1) ((getD_some (i := 1) (z := ([] : Str)) Q7))).2 Q0) ?_
   refine WA.p (i := 10) Q0 Q6 Q6 Q6 Q0 (hs.only Q2) (fun w hs => Yl.move Q0) ?_
   refine WA.p (i := 11) Q0 Q6 Q6 Q6 Q0 (hs.only Q2) (fun w hs => Yl.indexAddr (k := 2) slt53 Q0 Q0 (hs.okow (x := x2) (F := F2) Q1) Q0 ((getD_some (i := 2) (z := ([] : Str)) Q7))) ?_
   refine WA.p (i := 12) Q0 Q6 Q6 Q6 Q0 (hs.only Q2) (fun w hs => Yl.loadC0 sca9 Q0 (Sl.Ok.at_ (hs.okow (x := x2) (F := F2) Q1) ((getD_some (i := 2) (z := ([] : Str)) Q7))).2 Q0) ?_
   refine WA.two (i := 3) (j := 16) Q6 ?_ ?_
   ·
    refine WI.call2 (i := 3) hs (fun _ hs => hs.only Q2) Q0 Q0 (Yc.func Q0 fn192) (c_spec_l5Split _ 32 _ (by first | (have := getD_len (s := s) (i := 0); rw [← show x2.l = splitC 59 s from hx2] at this; omega) | (have := getD_len (s := s) (i := 1); rw [← show x2.l = splitC 59 s from hx2] at this; omega) | (have := getD_len (s := s) (i := 2); rw [← show x2.l = splitC 59 s from hx2] at this; omega) | (have := getD_len (s := s) (i := 3); rw [← show x2.l = splitC 59 s from hx2] at this; omega))) ?_
    have hs0 := hs; clear hs; intro v w hb hR hs; clear hs
    obtain ⟨x3, rfl, hx3, hf3⟩ := hR
    obtain ⟨F3, hs⟩ := hf3.sat hs0 hb; clear hs0 hf3
    have hle3 := Sl.Ok.le (hs.okow (x := x3) (F := F3) Q1)
    refine WA.p (i := 4) Q0 Q6 Q6 Q6 Q0 (hs.only Q2) (fun w hs => Yl.slice_sl (s := x3) (l := 1) (h := x3.l.length) slt53 Q0 hle3 (by exact ⟨_, by rfl⟩) (by exact rfl) (by rw [hx3]; exact List.length_pos_iff.2 (splitC_ne _ _)) (by exact Nat.le_refl _)) ?_
    refine WA.two (i := 8) (j := 16) Q6 ?_ ?_
    ·
     refine WI.call2 (i := 8) hs (fun _ hs => hs.only Q2) Q0 Q0 (Yc.func Q0 fn192) (c_spec_l5Split _ 32 _ (by first | (have := getD_len (s := s) (i := 0); rw [← show x2.l = splitC 59 s from hx2] at this; omega) | (have := getD_len (s := s) (i := 1); rw [← show x2.l = splitC 59 s from hx2] at this; omega) | (have := getD_len (s := s) (i := 2); rw [← show x2.l = splitC 59 s from hx2] at this; omega) | (have := getD_len (s := s) (i := 3); rw [← show x2.l = splitC 59 s from hx2] at this; omega))) ?_
     have hs0 := hs; clear hs; intro v w hb hR hs; clear hs
     obtain ⟨x4, rfl, hx4, hf4⟩ := hR
     obtain ⟨F4, hs⟩ := hf4.sat hs0 hb; clear hs0 hf4
     have hle4 := Sl.Ok.le (hs.okow (x := x4) (F := F4) Q1)
     refine WA.p (i := 9) Q0 Q6 Q6 Q6 Q0 (hs.only Q2) (fun w hs => Yl.slice_sl (s := x4) (l := 1) (h := x4.l.length) slt53 Q0 hle4 (by exact ⟨_, by rfl⟩) (by exact rfl) (by rw [hx4]; exact List.length_pos_iff.2 (splitC_ne _ _)) (by exact Nat.le_refl _)) ?_
     refine WA.two (i := 13) (j := 16) Q6 ?_ ?_
     ·
      refine WI.call2 (i := 13) hs (fun _ hs => hs.only Q2) Q0 Q0 (Yc.func Q0 fn192) (c_spec_l5Split _ 32 _ (by first | (have := getD_len (s := s) (i := 0); rw [← show x2.l = splitC 59 s from hx2] at this; omega) | (have := getD_len (s := s) (i := 1); rw [← show x2.l = splitC 59 s from hx2] at this; omega) | (have := getD_len (s := s) (i := 2); rw [← show x2.l = splitC 59 s from hx2] at this; omega) | (have := getD_len (s := s) (i := 3); rw [← show x2.l = splitC 59 s from hx2] at this; omega))) ?_
      have hs0 := hs; clear hs; intro v w hb hR hs; clear hs
      obtain ⟨x5, rfl, hx5, hf5⟩ := hR
      obtain ⟨F5, hs⟩ := hf5.sat hs0 hb; clear hs0 hf5
      have hle5 := Sl.Ok.le (hs.okow (x := x5) (F := F5) Q1)
      refine WA.p (i := 14) Q0 Q6 Q6 Q6 Q0 (hs.only Q2) (fun w hs => Yl.slice_sl (s := x5) (l := 1) (h := x5.l.length) slt53 Q0 hle5 (by exact ⟨_, by rfl⟩) (by exact rfl) (by rw [hx5]; exact List.length_pos_iff.2 (splitC_ne _ _)) (by exact Nat.le_refl _)) ?_
      refine WA.p (i := 15) Q0 Q6 Q6 Q6 Q0 (hs.only Q2) (fun w hs => Yl.build bt63 Q0 Q4) ?_
      refine WA.r (i := 16) Q6 Q0 Q0 (Yr.alloc hs zt63) (by rintro _ w ⟨b6, rfl, hb, hs⟩; exact hs.only Q2) ?_
      clear hs; rintro _ w ⟨b6, rfl, hb, hs⟩; clear hb
      refine WA.s (i := 17) Q6 Q0 (Yr.storeB hs Q0 Q0 Q0 Q5 Q3 Q0 (by exact szf63)) (by rintro _ w hs; exact hs.only Q2) ?_
      clear hs; rintro _ w hs
      refine WA.donen Q6 ?_
      refine WC.seq' ?_
      refine WC.seq ?_
      refine Qm ?_
      refine WL.p Q0 (Yl.len_sl slu53 Q0) ?_
      refine WL.p Q0 (Yl.gtr Q0 Q0) ?_
      refine Qm ?_
      refine WL.split (d := 34) Q0 (fun h3 => ?_) (fun h3 => ?_)
      ·
       replace h3 := of_decide_eq_true h3
       refine WL.run (d := 34) Q0 Q0 ?_
       refine Qm ?_
       refine WL.run (d := 34) Q0 Q0 ?_
       refine WL.p Q0 (Yl.indexAddr (k := 3) slt53 Q0 Q0 (hs.okow (x := x2) (F := F2) Q1) Q0 ((getD_some (i := 3) (z := ([] : Str)) Q7))) ?_
       refine WL.run (d := 34) Q0 Q0 ?_
       refine WL.p Q0 (Yl.loadC0 sca9 Q0 (Sl.Ok.at_ (hs.okow (x := x2) (F := F2) Q1) ((getD_some (i := 3) (z := ([] : Str)) Q7))).2 Q0) ?_
       refine WL.run (d := 34) Q0 Q0 ?_
       refine WL.p Q0 (Yl.len_str str9 Q0) ?_
       refine WL.run (d := 34) Q0 Q0 ?_
       refine WL.p Q0 (Yl.gtr Q0 Q0) ?_
       refine WL.p Q0 (Yl.pickT Q0 Q0) ?_
       refine WL.next ?_
       refine WC.condS Q0 (fun h4 => ?_) (fun h4 => ?_)
       ·
        replace h4 := of_decide_eq_true h4
        refine WC.region ?_
        refine Qm ?_
        refine WL.p Q0 (Yl.indexAddr (k := 3) slt53 Q0 Q0 (hs.okow (x := x2) (F := F2) Q1) Q0 ((getD_some (i := 3) (z := ([] : Str)) Q7))) ?_
        refine WL.p Q0 (Yl.loadC0 sca9 Q0 (Sl.Ok.at_ (hs.okow (x := x2) (F := F2) Q1) ((getD_some (i := 3) (z := ([] : Str)) Q7))).2 Q0) ?_
        refine WL.p Q0 (Yl.slice_str (l := 6) str9 Q0 (by exact ⟨_, by rfl⟩) (by exact rfl) Q7 Q7) ?_
        refine WL.p Q0 (Yl.fieldAddr fa63_4 Q0) ?_
        refine WL.s (Yr.storeB hs Q0 Q0 Q0 Q5 Q3 Q0 (by exact szf9)) ?_
        clear hs; rintro _ w hs
        refine WL.nil ?_
        refine At.then_ ?_
        refine WC.seq' ?_
        refine WC.seq ?_
        refine WL.p Q0 (Yl.loadAB agg63 Q0 hs Q1 Q0 Q0) ?_
        have hpl9 : PPolicy.lg (⟨true, (x3.cut 1 x3.l.length), (x4.cut 1 x4.l.length), (x5.cut 1 x5.l.length), (((x2.l.getD 3 []).drop 6).take ((x2.l.getD 3 []).length - 6))⟩ : PPolicy) = polS s := by
         have e2 : x2.l = splitC 59 s := hx2
         have g0 : x3.l = splitC 32 ((splitC 59 s).getD 0 []) := by rw [← e2]; exact hx3
         have g1 : x4.l = splitC 32 ((splitC 59 s).getD 1 []) := by rw [← e2]; exact hx4
         have g2 : x5.l = splitC 32 ((splitC 59 s).getD 2 []) := by rw [← e2]; exact hx5
         have c0 : (x3.cut 1 x3.l.length).l = (splitC 32 ((splitC 59 s).getD 0 [])).tail := by rw [Sl.cut_full, g0, List.drop_one]
         have c1 : (x4.cut 1 x4.l.length).l = (splitC 32 ((splitC 59 s).getD 1 [])).tail := by rw [Sl.cut_full, g1, List.drop_one]
         have c2 : (x5.cut 1 x5.l.length).l = (splitC 32 ((splitC 59 s).getD 2 [])).tail := by rw [Sl.cut_full, g2, List.drop_one]
         simp only [PPolicy.lg, polS, polOf, c0, c1, c2, TPolicy.mk.injEq, true_and]
         rw [← e2]
         first
          | (rw [if_neg (show ¬ 3 < x2.l.length from fun h => by omega)]; done)
          | (rw [if_pos (show 3 < x2.l.length from Int.ofNat_lt.1 Q7)]; done)
          | (rw [if_pos (show 3 < x2.l.length from Int.ofNat_lt.1 Q7)]
             simp only [nonceS, nonceI]
             first
               | (rfl; done)
               | (rw [if_neg Q7]; done)
               | (rw [if_pos Q7, List.take_of_length_le (by simp)]; done)
               | (rw [if_pos Q7]; done))
        refine WL.callp hs Q0 (Yc.func Q0 fn193) (c_spec_FormatPolicy (⟨true, (x3.cut 1 x3.l.length), (x4.cut 1 x4.l.length), (x5.cut 1 x5.l.length), (((x2.l.getD 3 []).drop 6).take ((x2.l.getD 3 []).length - 6))⟩ : PPolicy) _ ⟨trivial, (Sl.Ok.cut (hs.okow (x := x3) (F := F3) Q1) (by rw [hx3]; exact List.length_pos_iff.2 (splitC_ne _ _)) (by exact Nat.le_refl _)), (Sl.Ok.cut (hs.okow (x := x4) (F := F4) Q1) (by rw [hx4]; exact List.length_pos_iff.2 (splitC_ne _ _)) (by exact Nat.le_refl _)), (Sl.Ok.cut (hs.okow (x := x5) (F := F5) Q1) (by rw [hx5]; exact List.length_pos_iff.2 (splitC_ne _ _)) (by exact Nat.le_refl _)), (by show WfS _; unfold WfS; simp only [List.length_take, List.length_drop]; omega)⟩ (by rw [hpl9]; have := polS_size (s := s) (by rw [← show x2.l = splitC 59 s from hx2]; omega); omega)) ?_
        clear hs; intro w hs
        refine Qm ?_
        refine WL.p Q0 (Yl.nes Q0 Q0) ?_
        refine WL.next ?_
        refine WC.condS Q0 (fun h5 => ?_) (fun h5 => ?_)
        ·
         replace h5 := not_eq_true h5
         replace h5 := of_decide_eq_false h5
         refine WC.seq ?_
         refine WL.p Q0 (Yl.build bt63 Q0 Q4) ?_
         refine WL.s (Yr.storeB hs Q0 Q0 Q0 Q5 Q3 Q0 (by exact szf63)) ?_
         clear hs; rintro _ w hs
         refine Qa ?_
         refine WL.next ?_
         refine WC.ret ?_
         refine At.thenret ?_
         refine fin2c rfl agg63 Q0 Q0 hs Q1 Q0 ?_
         refine Ret.mk hs ?_
         rw [hpl9] at h5
         have hb9 : policyIs s = false := policyIs_bad h1 h5
         exact ⟨⟨false, ⟨[], none, 0⟩, ⟨[], none, 0⟩, ⟨[], none, 0⟩, []⟩, by rw [hb9]; rfl, (policyOf_no (.inr hb9)).symm, ⟨⟨[], PPolicy.zown _, .nil, fun b h => by cases h⟩⟩⟩
        ·
         replace h5 := not_eq_false h5
         replace h5 := of_decide_eq_true h5
         refine WC.skipn ?_
         refine WC.seq ?_
         refine WL.p Q0 (Yl.loadAB agg63 Q0 hs Q1 Q0 Q0) ?_
         refine WL.s (Yr.storeB hs Q0 Q0 Q0 Q5 Q3 Q0 (by exact szf63)) ?_
         clear hs; rintro _ w hs
         refine Qa ?_
         refine WL.next ?_
         refine WC.ret ?_
         refine fin2c rfl agg63 Q0 Q0 hs Q1 Q0 ?_
         refine Ret.mk hs ?_
         rw [hpl9] at h5
         have hq9 : x2.l = splitC 59 s := hx2
         have h49 : 3 ≤ (splitC 59 s).length := by rw [← hq9]; omega
         have hb9 : policyIs s = true := policyIs_good h5 h49
         obtain ⟨G90, hs⟩ := Sat.cutow (lo := 1) (hi := x3.l.length) (hs.sel (D := [ow x3 F3]) Q2) (by rw [hx3]; exact List.length_pos_iff.2 (splitC_ne _ _)) (Nat.le_refl _)
         obtain ⟨G91, hs⟩ := Sat.cutow (lo := 1) (hi := x4.l.length) (hs.sel (D := [ow x4 F4]) Q2) (by rw [hx4]; exact List.length_pos_iff.2 (splitC_ne _ _)) (Nat.le_refl _)
         obtain ⟨G92, hs⟩ := Sat.cutow (lo := 1) (hi := x5.l.length) (hs.sel (D := [ow x5 F5]) Q2) (by rw [hx5]; exact List.length_pos_iff.2 (splitC_ne _ _)) (Nat.le_refl _)
         refine ⟨(⟨true, (x3.cut 1 x3.l.length), (x4.cut 1 x4.l.length), (x5.cut 1 x5.l.length), (((x2.l.getD 3 []).drop 6).take ((x2.l.getD 3 []).length - 6))⟩ : PPolicy), by rw [hb9]; rfl, hpl9.trans (policyOf_good h1 hb9).symm, ?_⟩
         exact (PPolicy.join _ (hs.only (D := [ow (x3.cut 1 x3.l.length) G90, ow (x4.cut 1 x4.l.length) G91, ow (x5.cut 1 x5.l.length) G92]) Q2) trivial (by show WfS _; unfold WfS; first | (simp only [List.length_take, List.length_drop]; omega) | simp)).fresh List.mem_cons_self
       ·
        replace h4 := of_decide_eq_false h4
        refine WC.skipn ?_
        refine WC.seq' ?_
        refine WC.seq ?_
        refine WL.p Q0 (Yl.loadAB agg63 Q0 hs Q1 Q0 Q0) ?_
        have hpl9 : PPolicy.lg (⟨true, (x3.cut 1 x3.l.length), (x4.cut 1 x4.l.length), (x5.cut 1 x5.l.length), ([] : Str)⟩ : PPolicy) = polS s := by
         have e2 : x2.l = splitC 59 s := hx2
         have g0 : x3.l = splitC 32 ((splitC 59 s).getD 0 []) := by rw [← e2]; exact hx3
         have g1 : x4.l = splitC 32 ((splitC 59 s).getD 1 []) := by rw [← e2]; exact hx4
         have g2 : x5.l = splitC 32 ((splitC 59 s).getD 2 []) := by rw [← e2]; exact hx5
         have c0 : (x3.cut 1 x3.l.length).l = (splitC 32 ((splitC 59 s).getD 0 [])).tail := by rw [Sl.cut_full, g0, List.drop_one]
         have c1 : (x4.cut 1 x4.l.length).l = (splitC 32 ((splitC 59 s).getD 1 [])).tail := by rw [Sl.cut_full, g1, List.drop_one]
         have c2 : (x5.cut 1 x5.l.length).l = (splitC 32 ((splitC 59 s).getD 2 [])).tail := by rw [Sl.cut_full, g2, List.drop_one]
         simp only [PPolicy.lg, polS, polOf, c0, c1, c2, TPolicy.mk.injEq, true_and]
         rw [← e2]
         first
          | (rw [if_neg (show ¬ 3 < x2.l.length from fun h => by omega)]; done)
          | (rw [if_pos (show 3 < x2.l.length from Int.ofNat_lt.1 Q7)]; done)
          | (rw [if_pos (show 3 < x2.l.length from Int.ofNat_lt.1 Q7)]
             simp only [nonceS, nonceI]
             first
               | (rfl; done)
               | (rw [if_neg Q7]; done)
               | (rw [if_pos Q7, List.take_of_length_le (by simp)]; done)
               | (rw [if_pos Q7]; done))
        refine WL.callp hs Q0 (Yc.func Q0 fn193) (c_spec_FormatPolicy (⟨true, (x3.cut 1 x3.l.length), (x4.cut 1 x4.l.length), (x5.cut 1 x5.l.length), ([] : Str)⟩ : PPolicy) _ ⟨trivial, (Sl.Ok.cut (hs.okow (x := x3) (F := F3) Q1) (by rw [hx3]; exact List.length_pos_iff.2 (splitC_ne _ _)) (by exact Nat.le_refl _)), (Sl.Ok.cut (hs.okow (x := x4) (F := F4) Q1) (by rw [hx4]; exact List.length_pos_iff.2 (splitC_ne _ _)) (by exact Nat.le_refl _)), (Sl.Ok.cut (hs.okow (x := x5) (F := F5) Q1) (by rw [hx5]; exact List.length_pos_iff.2 (splitC_ne _ _)) (by exact Nat.le_refl _)), (show WfS [] from Nat.zero_le _)⟩ (by rw [hpl9]; have := polS_size (s := s) (by rw [← show x2.l = splitC 59 s from hx2]; omega); omega)) ?_
        clear hs; intro w hs
        refine Qm ?_
        refine WL.p Q0 (Yl.nes Q0 Q0) ?_
        refine WL.next ?_
        refine WC.condS Q0 (fun h5 => ?_) (fun h5 => ?_)
        ·
         replace h5 := not_eq_true h5
         replace h5 := of_decide_eq_false h5
         refine WC.seq ?_
         refine WL.p Q0 (Yl.build bt63 Q0 Q4) ?_
         refine WL.s (Yr.storeB hs Q0 Q0 Q0 Q5 Q3 Q0 (by exact szf63)) ?_
         clear hs; rintro _ w hs
         refine Qa ?_
         refine WL.next ?_
         refine WC.ret ?_
         refine At.thenret ?_
         refine fin2c rfl agg63 Q0 Q0 hs Q1 Q0 ?_
         refine Ret.mk hs ?_
         rw [hpl9] at h5
         have hb9 : policyIs s = false := policyIs_bad h1 h5
         exact ⟨⟨false, ⟨[], none, 0⟩, ⟨[], none, 0⟩, ⟨[], none, 0⟩, []⟩, by rw [hb9]; rfl, (policyOf_no (.inr hb9)).symm, ⟨⟨[], PPolicy.zown _, .nil, fun b h => by cases h⟩⟩⟩
        ·
         replace h5 := not_eq_false h5
         replace h5 := of_decide_eq_true h5
         refine WC.skipn ?_
         refine WC.seq ?_
         refine WL.p Q0 (Yl.loadAB agg63 Q0 hs Q1 Q0 Q0) ?_
         refine WL.s (Yr.storeB hs Q0 Q0 Q0 Q5 Q3 Q0 (by exact szf63)) ?_
         clear hs; rintro _ w hs
         refine Qa ?_
         refine WL.next ?_
         refine WC.ret ?_
         refine fin2c rfl agg63 Q0 Q0 hs Q1 Q0 ?_
         refine Ret.mk hs ?_
         rw [hpl9] at h5
         have hq9 : x2.l = splitC 59 s := hx2
         have h49 : 3 ≤ (splitC 59 s).length := by rw [← hq9]; omega
         have hb9 : policyIs s = true := policyIs_good h5 h49
         obtain ⟨G90, hs⟩ := Sat.cutow (lo := 1) (hi := x3.l.length) (hs.sel (D := [ow x3 F3]) Q2) (by rw [hx3]; exact List.length_pos_iff.2 (splitC_ne _ _)) (Nat.le_refl _)
         obtain ⟨G91, hs⟩ := Sat.cutow (lo := 1) (hi := x4.l.length) (hs.sel (D := [ow x4 F4]) Q2) (by rw [hx4]; exact List.length_pos_iff.2 (splitC_ne _ _)) (Nat.le_refl _)
         obtain ⟨G92, hs⟩ := Sat.cutow (lo := 1) (hi := x5.l.length) (hs.sel (D := [ow x5 F5]) Q2) (by rw [hx5]; exact List.length_pos_iff.2 (splitC_ne _ _)) (Nat.le_refl _)
         refine ⟨(⟨true, (x3.cut 1 x3.l.length), (x4.cut 1 x4.l.length), (x5.cut 1 x5.l.length), ([] : Str)⟩ : PPolicy), by rw [hb9]; rfl, hpl9.trans (policyOf_good h1 hb9).symm, ?_⟩
         exact (PPolicy.join _ (hs.only (D := [ow (x3.cut 1 x3.l.length) G90, ow (x4.cut 1 x4.l.length) G91, ow (x5.cut 1 x5.l.length) G92]) Q2) trivial (by show WfS _; unfold WfS; first | (simp only [List.length_take, List.length_drop]; omega) | simp)).fresh List.mem_cons_self
      ·
       replace h3 := of_decide_eq_false h3
       refine WL.skip (d := 34) Q0 Q0 Q0 Q0 ?_
       refine WL.skip (d := 34) Q0 Q0 Q0 Q0 ?_
       refine WL.skip (d := 34) Q0 Q0 Q0 Q0 ?_
       refine WL.skip (d := 34) Q0 Q0 Q0 Q0 ?_
       refine WL.skip (d := 34) Q0 Q0 Q0 Q0 ?_
       refine WL.p Q0 (Yl.pickF Q0 Q0) ?_
       refine WL.next ?_
       refine WC.condF Q0 ?_
       refine WC.skipn ?_
       refine WC.seq' ?_
       refine WC.seq ?_
       refine WL.p Q0 (Yl.loadAB agg63 Q0 hs Q1 Q0 Q0) ?_
       have hpl9 : PPolicy.lg (⟨true, (x3.cut 1 x3.l.length), (x4.cut 1 x4.l.length), (x5.cut 1 x5.l.length), ([] : Str)⟩ : PPolicy) = polS s := by
        have e2 : x2.l = splitC 59 s := hx2
        have g0 : x3.l = splitC 32 ((splitC 59 s).getD 0 []) := by rw [← e2]; exact hx3
        have g1 : x4.l = splitC 32 ((splitC 59 s).getD 1 []) := by rw [← e2]; exact hx4
        have g2 : x5.l = splitC 32 ((splitC 59 s).getD 2 []) := by rw [← e2]; exact hx5
        have c0 : (x3.cut 1 x3.l.length).l = (splitC 32 ((splitC 59 s).getD 0 [])).tail := by rw [Sl.cut_full, g0, List.drop_one]
        have c1 : (x4.cut 1 x4.l.length).l = (splitC 32 ((splitC 59 s).getD 1 [])).tail := by rw [Sl.cut_full, g1, List.drop_one]
        have c2 : (x5.cut 1 x5.l.length).l = (splitC 32 ((splitC 59 s).getD 2 [])).tail := by rw [Sl.cut_full, g2, List.drop_one]
        simp only [PPolicy.lg, polS, polOf, c0, c1, c2, TPolicy.mk.injEq, true_and]
        rw [← e2]
        first
         | (rw [if_neg (show ¬ 3 < x2.l.length from fun h => by omega)]; done)
         | (rw [if_pos (show 3 < x2.l.length from Int.ofNat_lt.1 Q7)]; done)
         | (rw [if_pos (show 3 < x2.l.length from Int.ofNat_lt.1 Q7)]
            simp only [nonceS, nonceI]
            first
              | (rfl; done)
              | (rw [if_neg Q7]; done)
              | (rw [if_pos Q7, List.take_of_length_le (by simp)]; done)
              | (rw [if_pos Q7]; done))
       refine WL.callp hs Q0 (Yc.func Q0 fn193) (c_spec_FormatPolicy (⟨true, (x3.cut 1 x3.l.length), (x4.cut 1 x4.l.length), (x5.cut 1 x5.l.length), ([] : Str)⟩ : PPolicy) _ ⟨trivial, (Sl.Ok.cut (hs.okow (x := x3) (F := F3) Q1) (by rw [hx3]; exact List.length_pos_iff.2 (splitC_ne _ _)) (by exact Nat.le_refl _)), (Sl.Ok.cut (hs.okow (x := x4) (F := F4) Q1) (by rw [hx4]; exact List.length_pos_iff.2 (splitC_ne _ _)) (by exact Nat.le_refl _)), (Sl.Ok.cut (hs.okow (x := x5) (F := F5) Q1) (by rw [hx5]; exact List.length_pos_iff.2 (splitC_ne _ _)) (by exact Nat.le_refl _)), (show WfS [] from Nat.zero_le _)⟩ (by rw [hpl9]; have := polS_size (s := s) (by rw [← show x2.l = splitC 59 s from hx2]; omega); omega)) ?_
       clear hs; intro w hs
       refine Qm ?_
       refine WL.p Q0 (Yl.nes Q0 Q0) ?_
       refine WL.next ?_
       refine WC.condS Q0 (fun h4 => ?_) (fun h4 => ?_)
       ·
        replace h4 := not_eq_true h4
        replace h4 := of_decide_eq_false h4
        refine WC.seq ?_
        refine WL.p Q0 (Yl.build bt63 Q0 Q4) ?_
        refine WL.s (Yr.storeB hs Q0 Q0 Q0 Q5 Q3 Q0 (by exact szf63)) ?_
        clear hs; rintro _ w hs
        refine Qa ?_
        refine WL.next ?_
        refine WC.ret ?_
        refine At.thenret ?_
        refine fin2c rfl agg63 Q0 Q0 hs Q1 Q0 ?_
        refine Ret.mk hs ?_
        rw [hpl9] at h4
        have hb9 : policyIs s = false := policyIs_bad h1 h4
        exact ⟨⟨false, ⟨[], none, 0⟩, ⟨[], none, 0⟩, ⟨[], none, 0⟩, []⟩, by rw [hb9]; rfl, (policyOf_no (.inr hb9)).symm, ⟨⟨[], PPolicy.zown _, .nil, fun b h => by cases h⟩⟩⟩
       ·
        replace h4 := not_eq_false h4
        replace h4 := of_decide_eq_true h4
        refine WC.skipn ?_
        refine WC.seq ?_
        refine WL.p Q0 (Yl.loadAB agg63 Q0 hs Q1 Q0 Q0) ?_
        refine WL.s (Yr.storeB hs Q0 Q0 Q0 Q5 Q3 Q0 (by exact szf63)) ?_
        clear hs; rintro _ w hs
        refine Qa ?_
        refine WL.next ?_
        refine WC.ret ?_
        refine fin2c rfl agg63 Q0 Q0 hs Q1 Q0 ?_
        refine Ret.mk hs ?_
        rw [hpl9] at h4
        have hq9 : x2.l = splitC 59 s := hx2
        have h49 : 3 ≤ (splitC 59 s).length := by rw [← hq9]; omega
        have hb9 : policyIs s = true := policyIs_good h4 h49
        obtain ⟨G90, hs⟩ := Sat.cutow (lo := 1) (hi := x3.l.length) (hs.sel (D := [ow x3 F3]) Q2) (by rw [hx3]; exact List.length_pos_iff.2 (splitC_ne _ _)) (Nat.le_refl _)
        obtain ⟨G91, hs⟩ := Sat.cutow (lo := 1) (hi := x4.l.length) (hs.sel (D := [ow x4 F4]) Q2) (by rw [hx4]; exact List.length_pos_iff.2 (splitC_ne _ _)) (Nat.le_refl _)
        obtain ⟨G92, hs⟩ := Sat.cutow (lo := 1) (hi := x5.l.length) (hs.sel (D := [ow x5 F5]) Q2) (by rw [hx5]; exact List.length_pos_iff.2 (splitC_ne _ _)) (Nat.le_refl _)
        refine ⟨(⟨true, (x3.cut 1 x3.l.length), (x4.cut 1 x4.l.length), (x5.cut 1 x5.l.length), ([] : Str)⟩ : PPolicy), by rw [hb9]; rfl, hpl9.trans (policyOf_good h1 hb9).symm, ?_⟩
        exact (PPolicy.join _ (hs.only (D := [ow (x3.cut 1 x3.l.length) G90, ow (x4.cut 1 x4.l.length) G91, ow (x5.cut 1 x5.l.length) G92]) Q2) trivial (by show WfS _; unfold WfS; first | (simp only [List.length_take, List.length_drop]; omega) | simp)).fresh List.mem_cons_self
     ·
      refine WI.r (i := 16) Q0 Q0 (Yr.alloc hs zt63) (by rintro _ w ⟨b7, rfl, hb, hs⟩; exact hs.only Q2) ?_
      clear hs; rintro _ w ⟨b7, rfl, hb, hs⟩; clear hb
      refine WA.call2 (i := 13) hs (fun _ hs => hs.only Q2) Q6 Q0 Q0 (Yc.func Q0 fn192) (c_spec_l5Split _ 32 _ (by first | (have := getD_len (s := s) (i := 0); rw [← show x2.l = splitC 59 s from hx2] at this; omega) | (have := getD_len (s := s) (i := 1); rw [← show x2.l = splitC 59 s from hx2] at this; omega) | (have := getD_len (s := s) (i := 2); rw [← show x2.l = splitC 59 s from hx2] at this; omega) | (have := getD_len (s := s) (i := 3); rw [← show x2.l = splitC 59 s from hx2] at this; omega))) ?_
      have hs0 := hs; clear hs; intro v w hb hR hs; clear hs
      obtain ⟨x8, rfl, hx8, hf8⟩ := hR
      obtain ⟨F8, hs⟩ := hf8.sat hs0 hb; clear hs0 hf8
      have hle8 := Sl.Ok.le (hs.okow (x := x8) (F := F8) Q1)
      refine WA.r (i := 14) Q6 Q0 Q0 (Yl.yr (Yl.slice_sl (s := x8) (l := 1) (h := x8.l.length) slt53 Q0 hle8 (by exact ⟨_, by rfl⟩) (by exact rfl) (by rw [hx8]; exact List.length_pos_iff.2 (splitC_ne _ _)) (by exact Nat.le_refl _))) (by rintro _ _ ⟨rfl, rfl⟩; exact hs.only Q2) ?_
      rintro _ _ ⟨rfl, rfl⟩
      refine WA.p (i := 15) Q0 Q6 Q6 Q6 Q0 (hs.only Q2) (fun w hs => Yl.build bt63 Q0 Q4) ?_
      refine WA.s (i := 17) Q6 Q0 (Yr.storeB hs Q0 Q0 Q0 Q5 Q3 Q0 (by exact szf63)) (by rintro _ w hs; exact hs.only Q2) ?_
      clear hs; rintro _ w hs
      refine WA.donen Q6 ?_
      refine WC.seq' ?_
      refine WC.seq ?_
      refine Qm ?_
      refine WL.p Q0 (Yl.len_sl slu53 Q0) ?_
      refine WL.p Q0 (Yl.gtr Q0 Q0) ?_
      refine Qm ?_
      refine WL.split (d := 34) Q0 (fun h3 => ?_) (fun h3 => ?_)
      ·
       replace h3 := of_decide_eq_true h3
       refine WL.run (d := 34) Q0 Q0 ?_
       refine Qm ?_
       refine WL.run (d := 34) Q0 Q0 ?_
       refine WL.p Q0 (Yl.indexAddr (k := 3) slt53 Q0 Q0 (hs.okow (x := x2) (F := F2) Q1) Q0 ((getD_some (i := 3) (z := ([] : Str)) Q7))) ?_
       refine WL.run (d := 34) Q0 Q0 ?_
       refine WL.p Q0 (Yl.loadC0 sca9 Q0 (Sl.Ok.at_ (hs.okow (x := x2) (F := F2) Q1) ((getD_some (i := 3) (z := ([] : Str)) Q7))).2 Q0) ?_
       refine WL.run (d := 34) Q0 Q0 ?_
       refine WL.p Q0 (Yl.len_str str9 Q0) ?_
       refine WL.run (d := 34) Q0 Q0 ?_
       refine WL.p Q0 (Yl.gtr Q0 Q0) ?_
       refine WL.p Q0 (Yl.pickT Q0 Q0) ?_
       refine WL.next ?_
       refine WC.condS Q0 (fun h4 => ?_) (fun h4 => ?_)
       ·
        replace h4 := of_decide_eq_true h4
        refine WC.region ?_
        refine Qm ?_
        refine WL.p Q0 (Yl.indexAddr (k := 3) slt53 Q0 Q0 (hs.okow (x := x2) (F := F2) Q1) Q0 ((getD_some (i := 3) (z := ([] : Str)) Q7))) ?_
        refine WL.p Q0 (Yl.loadC0 sca9 Q0 (Sl.Ok.at_ (hs.okow (x := x2) (F := F2) Q1) ((getD_some (i := 3) (z := ([] : Str)) Q7))).2 Q0) ?_
        refine WL.p Q0 (Yl.slice_str (l := 6) str9 Q0 (by exact ⟨_, by rfl⟩) (by exact rfl) Q7 Q7) ?_
        refine WL.p Q0 (Yl.fieldAddr fa63_4 Q0) ?_
        refine WL.s (Yr.storeB hs Q0 Q0 Q0 Q5 Q3 Q0 (by exact szf9)) ?_
        clear hs; rintro _ w hs
        refine WL.nil ?_
        refine At.then_ ?_
        refine WC.seq' ?_
        refine WC.seq ?_
        refine WL.p Q0 (Yl.loadAB agg63 Q0 hs Q1 Q0 Q0) ?_
        have hpl9 : PPolicy.lg (⟨true, (x3.cut 1 x3.l.length), (x4.cut 1 x4.l.length), (x8.cut 1 x8.l.length), (((x2.l.getD 3 []).drop 6).take ((x2.l.getD 3 []).length - 6))⟩ : PPolicy) = polS s := by
         have e2 : x2.l = splitC 59 s := hx2
         have g0 : x3.l = splitC 32 ((splitC 59 s).getD 0 []) := by rw [← e2]; exact hx3
         have g1 : x4.l = splitC 32 ((splitC 59 s).getD 1 []) := by rw [← e2]; exact hx4
         have g2 : x8.l = splitC 32 ((splitC 59 s).getD 2 []) := by rw [← e2]; exact hx8
         have c0 : (x3.cut 1 x3.l.length).l = (splitC 32 ((splitC 59 s).getD 0 [])).tail := by rw [Sl.cut_full, g0, List.drop_one]
         have c1 : (x4.cut 1 x4.l.length).l = (splitC 32 ((splitC 59 s).getD 1 [])).tail := by rw [Sl.cut_full, g1, List.drop_one]
         have c2 : (x8.cut 1 x8.l.length).l = (splitC 32 ((splitC 59 s).getD 2 [])).tail := by rw [Sl.cut_full, g2, List.drop_one]
         simp only [PPolicy.lg, polS, polOf, c0, c1, c2, TPolicy.mk.injEq, true_and]
         rw [← e2]
         first
          | (rw [if_neg (show ¬ 3 < x2.l.length from fun h => by omega)]; done)
          | (rw [if_pos (show 3 < x2.l.length from Int.ofNat_lt.1 Q7)]; done)
          | (rw [if_pos (show 3 < x2.l.length from Int.ofNat_lt.1 Q7)]
             simp only [nonceS, nonceI]
             first
               | (rfl; done)
               | (rw [if_neg Q7]; done)
               | (rw [if_pos Q7, List.take_of_length_le (by simp)]; done)
               | (rw [if_pos Q7]; done))
        refine WL.callp hs Q0 (Yc.func Q0 fn193) (c_spec_FormatPolicy (⟨true, (x3.cut 1 x3.l.length), (x4.cut 1 x4.l.length), (x8.cut 1 x8.l.length), (((x2.l.getD 3 []).drop 6).take ((x2.l.getD 3 []).length - 6))⟩ : PPolicy) _ ⟨trivial, (Sl.Ok.cut (hs.okow (x := x3) (F := F3) Q1) (by rw [hx3]; exact List.length_pos_iff.2 (splitC_ne _ _)) (by exact Nat.le_refl _)), (Sl.Ok.cut (hs.okow (x := x4) (F := F4) Q1) (by rw [hx4]; exact List.length_pos_iff.2 (splitC_ne _ _)) (by exact Nat.le_refl _)), (Sl.Ok.cut (hs.okow (x := x8) (F := F8) Q1) (by rw [hx8]; exact List.length_pos_iff.2 (splitC_ne _ _)) (by exact Nat.le_refl _)), (by show WfS _; unfold WfS; simp only [List.length_take, List.length_drop]; omega)⟩ (by rw [hpl9]; have := polS_size (s := s) (by rw [← show x2.l = splitC 59 s from hx2]; omega); omega)) ?_
        clear hs; intro w hs
        refine Qm ?_
        refine WL.p Q0 (Yl.nes Q0 Q0) ?_
        refine WL.next ?_
        refine WC.condS Q0 (fun h5 => ?_) (fun h5 => ?_)
        ·
         replace h5 := not_eq_true h5
         replace h5 := of_decide_eq_false h5
         refine WC.seq ?_
         refine WL.p Q0 (Yl.build bt63 Q0 Q4) ?_
         refine WL.s (Yr.storeB hs Q0 Q0 Q0 Q5 Q3 Q0 (by exact szf63)) ?_
         clear hs; rintro _ w hs
         refine Qa ?_
         refine WL.next ?_
         refine WC.ret ?_
         refine At.thenret ?_
         refine fin2c rfl agg63 Q0 Q0 hs Q1 Q0 ?_
         refine Ret.mk hs ?_
         rw [hpl9] at h5
         have hb9 : policyIs s = false := policyIs_bad h1 h5
         exact ⟨⟨false, ⟨[], none, 0⟩, ⟨[], none, 0⟩, ⟨[], none, 0⟩, []⟩, by rw [hb9]; rfl, (policyOf_no (.inr hb9)).symm, ⟨⟨[], PPolicy.zown _, .nil, fun b h => by cases h⟩⟩⟩
        ·
         replace h5 := not_eq_false h5
         replace h5 := of_decide_eq_true h5
         refine WC.skipn ?_
         refine WC.seq ?_
         refine WL.p Q0 (Yl.loadAB agg63 Q0 hs Q1 Q0 Q0) ?_
         refine WL.s (Yr.storeB hs Q0 Q0 Q0 Q5 Q3 Q0 (by exact szf63)) ?_
         clear hs; rintro _ w hs
         refine Qa ?_
         refine WL.next ?_
         refine WC.ret ?_
         refine fin2c rfl agg63 Q0 Q0 hs Q1 Q0 ?_
         refine Ret.mk hs ?_
         rw [hpl9] at h5
         have hq9 : x2.l = splitC 59 s := hx2
         have h49 : 3 ≤ (splitC 59 s).length := by rw [← hq9]; omega
         have hb9 : policyIs s = true := policyIs_good h5 h49
         obtain ⟨G90, hs⟩ := Sat.cutow (lo := 1) (hi := x3.l.length) (hs.sel (D := [ow x3 F3]) Q2) (by rw [hx3]; exact List.length_pos_iff.2 (splitC_ne _ _)) (Nat.le_refl _)
         obtain ⟨G91, hs⟩ := Sat.cutow (lo := 1) (hi := x4.l.length) (hs.sel (D := [ow x4 F4]) Q2) (by rw [hx4]; exact List.length_pos_iff.2 (splitC_ne _ _)) (Nat.le_refl _)
         obtain ⟨G92, hs⟩ := Sat.cutow (lo := 1) (hi := x8.l.length) (hs.sel (D := [ow x8 F8]) Q2) (by rw [hx8]; exact List.length_pos_iff.2 (splitC_ne _ _)) (Nat.le_refl _)
         refine ⟨(⟨true, (x3.cut 1 x3.l.length), (x4.cut 1 x4.l.length), (x8.cut 1 x8.l.length), (((x2.l.getD 3 []).drop 6).take ((x2.l.getD 3 []).length - 6))⟩ : PPolicy), by rw [hb9]; rfl, hpl9.trans (policyOf_good h1 hb9).symm, ?_⟩
         exact (PPolicy.join _ (hs.only (D := [ow (x3.cut 1 x3.l.length) G90, ow (x4.cut 1 x4.l.length) G91, ow (x8.cut 1 x8.l.length) G92]) Q2) trivial (by show WfS _; unfold WfS; first | (simp only [List.length_take, List.length_drop]; omega) | simp)).fresh List.mem_cons_self
       ·
        replace h4 := of_decide_eq_false h4
        refine WC.skipn ?_
        refine WC.seq' ?_
        refine WC.seq ?_
        refine WL.p Q0 (Yl.loadAB agg63 Q0 hs Q1 Q0 Q0) ?_
        have hpl9 : PPolicy.lg (⟨true, (x3.cut 1 x3.l.length), (x4.cut 1 x4.l.length), (x8.cut 1 x8.l.length), ([] : Str)⟩ : PPolicy) = polS s := by
         have e2 : x2.l = splitC 59 s := hx2
         have g0 : x3.l = splitC 32 ((splitC 59 s).getD 0 []) := by rw [← e2]; exact hx3
         have g1 : x4.l = splitC 32 ((splitC 59 s).getD 1 []) := by rw [← e2]; exact hx4
         have g2 : x8.l = splitC 32 ((splitC 59 s).getD 2 []) := by rw [← e2]; exact hx8
         have c0 : (x3.cut 1 x3.l.length).l = (splitC 32 ((splitC 59 s).getD 0 [])).tail := by rw [Sl.cut_full, g0, List.drop_one]
         have c1 : (x4.cut 1 x4.l.length).l = (splitC 32 ((splitC 59 s).getD 1 [])).tail := by rw [Sl.cut_full, g1, List.drop_one]
         have c2 : (x8.cut 1 x8.l.length).l = (splitC 32 ((splitC 59 s).getD 2 [])).tail := by rw [Sl.cut_full, g2, List.drop_one]
         simp only [PPolicy.lg, polS, polOf, c0, c1, c2, TPolicy.mk.injEq, true_and]
         rw [← e2]
         first
          | (rw [if_neg (show ¬ 3 < x2.l.length from fun h => by omega)]; done)
          | (rw [if_pos (show 3 < x2.l.length from Int.ofNat_lt.1 Q7)]; done)
          | (rw [if_pos (show 3 < x2.l.length from Int.ofNat_lt.1 Q7)]
             simp only [nonceS, nonceI]
             first
               | (rfl; done)
               | (rw [if_neg Q7]; done)
               | (rw [if_pos Q7, List.take_of_length_le (by simp)]; done)
               | (rw [if_pos Q7]; done))
        refine WL.callp hs Q0 (Yc.func Q0 fn193) (c_spec_FormatPolicy (⟨true, (x3.cut 1 x3.l.length), (x4.cut 1 x4.l.length), (x8.cut 1 x8.l.length), ([] : Str)⟩ : PPolicy) _ ⟨trivial, (Sl.Ok.cut (hs.okow (x := x3) (F := F3) Q1) (by rw [hx3]; exact List.length_pos_iff.2 (splitC_ne _ _)) (by exact Nat.le_refl _)), (Sl.Ok.cut (hs.okow (x := x4) (F := F4) Q1) (by rw [hx4]; exact List.length_pos_iff.2 (splitC_ne _ _)) (by exact Nat.le_refl _)), (Sl.Ok.cut (hs.okow (x := x8) (F := F8) Q1) (by rw [hx8]; exact List.length_pos_iff.2 (splitC_ne _ _)) (by exact Nat.le_refl _)), (show WfS [] from Nat.zero_le _)⟩ (by rw [hpl9]; have := polS_size (s := s) (by rw [← show x2.l = splitC 59 s from hx2]; omega); omega)) ?_
        clear hs; intro w hs
        refine Qm ?_
        refine WL.p Q0 (Yl.nes Q0 Q0) ?_
        refine WL.next ?_
        refine WC.condS Q0 (fun h5 => ?_) (fun h5 => ?_)
        ·
         replace h5 := not_eq_true h5
         replace h5 := of_decide_eq_false h5
         refine WC.seq ?_
         refine WL.p Q0 (Yl.build bt63 Q0 Q4) ?_
         refine WL.s (Yr.storeB hs Q0 Q0 Q0 Q5 Q3 Q0 (by exact szf63)) ?_
         clear hs; rintro _ w hs
         refine Qa ?_
         refine WL.next ?_
         refine WC.ret ?_
         refine At.thenret ?_
         refine fin2c rfl agg63 Q0 Q0 hs Q1 Q0 ?_
         refine Ret.mk hs ?_
         rw [hpl9] at h5
         have hb9 : policyIs s = false := policyIs_bad h1 h5
         exact ⟨⟨false, ⟨[], none, 0⟩, ⟨[], none, 0⟩, ⟨[], none, 0⟩, []⟩, by rw [hb9]; rfl, (policyOf_no (.inr hb9)).symm, ⟨⟨[], PPolicy.zown _, .nil, fun b h => by cases h⟩⟩⟩
        ·
         replace h5 := not_eq_false h5
         replace h5 := of_decide_eq_true h5
         refine WC.skipn ?_
         refine WC.seq ?_
         refine WL.p Q0 (Yl.loadAB agg63 Q0 hs Q1 Q0 Q0) ?_
         refine WL.s (Yr.storeB hs Q0 Q0 Q0 Q5 Q3 Q0 (by exact szf63)) ?_
         clear hs; rintro _ w hs
         refine Qa ?_
         refine WL.next ?_
         refine WC.ret ?_
         refine fin2c rfl agg63 Q0 Q0 hs Q1 Q0 ?_
         refine Ret.mk hs ?_
         rw [hpl9] at h5
         have hq9 : x2.l = splitC 59 s := hx2
         have h49 : 3 ≤ (splitC 59 s).length := by rw [← hq9]; omega
         have hb9 : policyIs s = true := policyIs_good h5 h49
         obtain ⟨G90, hs⟩ := Sat.cutow (lo := 1) (hi := x3.l.length) (hs.sel (D := [ow x3 F3]) Q2) (by rw [hx3]; exact List.length_pos_iff.2 (splitC_ne _ _)) (Nat.le_refl _)
         obtain ⟨G91, hs⟩ := Sat.cutow (lo := 1) (hi := x4.l.length) (hs.sel (D := [ow x4 F4]) Q2) (by rw [hx4]; exact List.length_pos_iff.2 (splitC_ne _ _)) (Nat.le_refl _)
         obtain ⟨G92, hs⟩ := Sat.cutow (lo := 1) (hi := x8.l.length) (hs.sel (D := [ow x8 F8]) Q2) (by rw [hx8]; exact List.length_pos_iff.2 (splitC_ne _ _)) (Nat.le_refl _)
         refine ⟨(⟨true, (x3.cut 1 x3.l.length), (x4.cut 1 x4.l.length), (x8.cut 1 x8.l.length), ([] : Str)⟩ : PPolicy), by rw [hb9]; rfl, hpl9.trans (policyOf_good h1 hb9).symm, ?_⟩
         exact (PPolicy.join _ (hs.only (D := [ow (x3.cut 1 x3.l.length) G90, ow (x4.cut 1 x4.l.length) G91, ow (x8.cut 1 x8.l.length) G92]) Q2) trivial (by show WfS _; unfold WfS; first | (simp only [List.length_take, List.length_drop]; omega) | simp)).fresh List.mem_cons_self
      ·
       replace h3 := of_decide_eq_false h3
       refine WL.skip (d := 34) Q0 Q0 Q0 Q0 ?_
       refine WL.skip (d := 34) Q0 Q0 Q0 Q0 ?_
       refine WL.skip (d := 34) Q0 Q0 Q0 Q0 ?_
       refine WL.skip (d := 34) Q0 Q0 Q0 Q0 ?_
       refine WL.skip (d := 34) Q0 Q0 Q0 Q0 ?_
       refine WL.p Q0 (Yl.pickF Q0 Q0) ?_
       refine WL.next ?_
       refine WC.condF Q0 ?_
       refine WC.skipn ?_
       refine WC.seq' ?_
       refine WC.seq ?_
       refine WL.p Q0 (Yl.loadAB agg63 Q0 hs Q1 Q0 Q0) ?_
       have hpl9 : PPolicy.lg (⟨true, (x3.cut 1 x3.l.length), (x4.cut 1 x4.l.length), (x8.cut 1 x8.l.length), ([] : Str)⟩ : PPolicy) = polS s := by
        have e2 : x2.l = splitC 59 s := hx2
        have g0 : x3.l = splitC 32 ((splitC 59 s).getD 0 []) := by rw [← e2]; exact hx3
        have g1 : x4.l = splitC 32 ((splitC 59 s).getD 1 []) := by rw [← e2]; exact hx4
        have g2 : x8.l = splitC 32 ((splitC 59 s).getD 2 []) := by rw [← e2]; exact hx8
        have c0 : (x3.cut 1 x3.l.length).l = (splitC 32 ((splitC 59 s).getD 0 [])).tail := by rw [Sl.cut_full, g0, List.drop_one]
        have c1 : (x4.cut 1 x4.l.length).l = (splitC 32 ((splitC 59 s).getD 1 [])).tail := by rw [Sl.cut_full, g1, List.drop_one]
        have c2 : (x8.cut 1 x8.l.length).l = (splitC 32 ((splitC 59 s).getD 2 [])).tail := by rw [Sl.cut_full, g2, List.drop_one]
        simp only [PPolicy.lg, polS, polOf, c0, c1, c2, TPolicy.mk.injEq, true_and]
        rw [← e2]
        first
         | (rw [if_neg (show ¬ 3 < x2.l.length from fun h => by omega)]; done)
         | (rw [if_pos (show 3 < x2.l.length from Int.ofNat_lt.1 Q7)]; done)
         | (rw [if_pos (show 3 < x2.l.length from Int.ofNat_lt.1 Q7)]
            simp only [nonceS, nonceI]
            first
              | (rfl; done)
              | (rw [if_neg Q7]; done)
              | (rw [if_pos Q7, List.take_of_length_le (by simp)]; done)
              | (rw [if_pos Q7]; done))
       refine WL.callp hs Q0 (Yc.func Q0 fn193) (c_spec_FormatPolicy (⟨true, (x3.cut 1 x3.l.length), (x4.cut 1 x4.l.length), (x8.cut 1 x8.l.length), ([] : Str)⟩ : PPolicy) _ ⟨trivial, (Sl.Ok.cut (hs.okow (x := x3) (F := F3) Q1) (by rw [hx3]; exact List.length_pos_iff.2 (splitC_ne _ _)) (by exact Nat.le_refl _)), (Sl.Ok.cut (hs.okow (x := x4) (F := F4) Q1) (by rw [hx4]; exact List.length_pos_iff.2 (splitC_ne _ _)) (by exact Nat.le_refl _)), (Sl.Ok.cut (hs.okow (x := x8) (F := F8) Q1) (by rw [hx8]; exact List.length_pos_iff.2 (splitC_ne _ _)) (by exact Nat.le_refl _)), (show WfS [] from Nat.zero_le _)⟩ (by rw [hpl9]; have := polS_size (s := s) (by rw [← show x2.l = splitC 59 s from hx2]; omega); omega)) ?_
       clear hs; intro w hs
       refine Qm ?_
       refine WL.p Q0 (Yl.nes Q0 Q0) ?_
       refine WL.next ?_
       refine WC.condS Q0 (fun h4 => ?_) (fun h4 => ?_)
       ·
        replace h4 := not_eq_true h4
        replace h4 := of_decide_eq_false h4
        refine WC.seq ?_
        refine WL.p Q0 (Yl.build bt63 Q0 Q4) ?_
        refine WL.s (Yr.storeB hs Q0 Q0 Q0 Q5 Q3 Q0 (by exact szf63)) ?_
        clear hs; rintro _ w hs
        refine Qa ?_
        refine WL.next ?_
        refine WC.ret ?_
        refine At.thenret ?_
        refine fin2c rfl agg63 Q0 Q0 hs Q1 Q0 ?_
        refine Ret.mk hs ?_
        rw [hpl9] at h4
        have hb9 : policyIs s = false := policyIs_bad h1 h4
        exact ⟨⟨false, ⟨[], none, 0⟩, ⟨[], none, 0⟩, ⟨[], none, 0⟩, []⟩, by rw [hb9]; rfl, (policyOf_no (.inr hb9)).symm, ⟨⟨[], PPolicy.zown _, .nil, fun b h => by cases h⟩⟩⟩
       ·
        replace h4 := not_eq_false h4
        replace h4 := of_decide_eq_true h4
        refine WC.skipn ?_
        refine WC.seq ?_
        refine WL.p Q0 (Yl.loadAB agg63 Q0 hs Q1 Q0 Q0) ?_
        refine WL.s (Yr.storeB hs Q0 Q0 Q0 Q5 Q3 Q0 (by exact szf63)) ?_
        clear hs; rintro _ w hs
        refine Qa ?_
        refine WL.next ?_
        refine WC.ret ?_
        refine fin2c rfl agg63 Q0 Q0 hs Q1 Q0 ?_
        refine Ret.mk hs ?_
        rw [hpl9] at h4
        have hq9 : x2.l = splitC 59 s := hx2
        have h49 : 3 ≤ (splitC 59 s).length := by rw [← hq9]; omega
        have hb9 : policyIs s = true := policyIs_good h4 h49
        obtain ⟨G90, hs⟩ := Sat.cutow (lo := 1) (hi := x3.l.length) (hs.sel (D := [ow x3 F3]) Q2) (by rw [hx3]; exact List.length_pos_iff.2 (splitC_ne _ _)) (Nat.le_refl _)
        obtain ⟨G91, hs⟩ := Sat.cutow (lo := 1) (hi := x4.l.length) (hs.sel (D := [ow x4 F4]) Q2) (by rw [hx4]; exact List.length_pos_iff.2 (splitC_ne _ _)) (Nat.le_refl _)
        obtain ⟨G92, hs⟩ := Sat.cutow (lo := 1) (hi := x8.l.length) (hs.sel (D := [ow x8 F8]) Q2) (by rw [hx8]; exact List.length_pos_iff.2 (splitC_ne _ _)) (Nat.le_refl _)
        refine ⟨(⟨true, (x3.cut 1 x3.l.length), (x4.cut 1 x4.l.length), (x8.cut 1 x8.l.length), ([] : Str)⟩ : PPolicy), by rw [hb9]; rfl, hpl9.trans (policyOf_good h1 hb9).symm, ?_⟩
        exact (PPolicy.join _ (hs.only (D := [ow (x3.cut 1 x3.l.length) G90, ow (x4.cut 1 x4.l.length) G91, ow (x8.cut 1 x8.l.length) G92]) Q2) trivial (by show WfS _; unfold WfS; first | (simp only [List.length_take, List.length_drop]; omega) | simp)).fresh List.mem_cons_self
    ·
     refine WI.r (i := 16) Q0 Q0 (Yr.alloc hs zt63) (by rintro _ w ⟨b9, rfl, hb, hs⟩; exact hs.only Q2) ?_
     clear hs; rintro _ w ⟨b9, rfl, hb, hs⟩; clear hb
     refine WA.call2 (i := 8) hs (fun _ hs => hs.only Q2) Q6 Q0 Q0 (Yc.func Q0 fn192) (c_spec_l5Split _ 32 _ (by first | (have := getD_len (s := s) (i := 0); rw [← show x2.l = splitC 59 s from hx2] at this; omega) | (have := getD_len (s := s) (i := 1); rw [← show x2.l = splitC 59 s from hx2] at this; omega) | (have := getD_len (s := s) (i := 2); rw [← show x2.l = splitC 59 s from hx2] at this; omega) | (have := getD_len (s := s) (i := 3); rw [← show x2.l = splitC 59 s from hx2] at this; omega))) ?_
     have hs0 := hs; clear hs; intro v w hb hR hs; clear hs
     obtain ⟨x10, rfl, hx10, hf10⟩ := hR
     obtain ⟨F10, hs⟩ := hf10.sat hs0 hb; clear hs0 hf10
     have hle10 := Sl.Ok.le (hs.okow (x := x10) (F := F10) Q1)
     refine WA.p (i := 9) Q0 Q6 Q6 Q6 Q0 (hs.only Q2) (fun w hs => Yl.slice_sl (s := x10) (l := 1) (h := x10.l.length) slt53 Q0 hle10 (by exact ⟨_, by rfl⟩) (by exact rfl) (by rw [hx10]; exact List.length_pos_iff.2 (splitC_ne _ _)) (by exact Nat.le_refl _)) ?_
     refine WA.call2 (i := 13) hs (fun _ hs => hs.only Q2) Q6 Q0 Q0 (Yc.func Q0 fn192) (c_spec_l5Split _ 32 _ (by first | (have := getD_len (s := s) (i := 0); rw [← show x2.l = splitC 59 s from hx2] at this; omega) | (have := getD_len (s := s) (i := 1); rw [← show x2.l = splitC 59 s from hx2] at this; omega) | (have := getD_len (s := s) (i := 2); rw [← show x2.l = splitC 59 s from hx2] at this; omega) | (have := getD_len (s := s) (i := 3); rw [← show x2.l = splitC 59 s from hx2] at this; omega))) ?_
     have hs0 := hs; clear hs; intro v w hb hR hs; clear hs
     obtain ⟨x11, rfl, hx11, hf11⟩ := hR
     obtain ⟨F11, hs⟩ := hf11.sat hs0 hb; clear hs0 hf11
     have hle11 := Sl.Ok.le (hs.okow (x := x11) (F := F11) Q1)
     refine WA.r (i := 14) Q6 Q0 Q0 (Yl.yr (Yl.slice_sl (s := x11) (l := 1) (h := x11.l.length) slt53 Q0 hle11 (by exact ⟨_, by rfl⟩) (by exact rfl) (by rw [hx11]; exact List.length_pos_iff.2 (splitC_ne _ _)) (by exact Nat.le_refl _))) (by rintro _ _ ⟨rfl, rfl⟩; exact hs.only Q2) ?_
     rintro _ _ ⟨rfl, rfl⟩
     refine WA.p (i := 15) Q0 Q6 Q6 Q6 Q0 (hs.only Q2) (fun w hs => Yl.build bt63 Q0 Q4) ?_
     refine WA.s (i := 17) Q6 Q0 (Yr.storeB hs Q0 Q0 Q0 Q5 Q3 Q0 (by exact szf63)) (by rintro _ w hs; exact hs.only Q2) ?_
     clear hs; rintro _ w hs
     refine WA.donen Q6 ?_
     refine WC.seq' ?_
     refine WC.seq ?_
     refine Qm ?_
     refine WL.p Q0 (Yl.len_sl slu53 Q0) ?_
     refine WL.p Q0 (Yl.gtr Q0 Q0) ?_
     refine Qm ?_
     refine WL.split (d := 34) Q0 (fun h3 => ?_) (fun h3 => ?_)
     ·
      replace h3 := of_decide_eq_true h3
      refine WL.run (d := 34) Q0 Q0 ?_
      refine Qm ?_
      refine WL.run (d := 34) Q0 Q0 ?_
      refine WL.p Q0 (Yl.indexAddr (k := 3) slt53 Q0 Q0 (hs.okow (x := x2) (F := F2) Q1) Q0 ((getD_some (i := 3) (z := ([] : Str)) Q7))) ?_
      refine WL.run (d := 34) Q0 Q0 ?_
      refine WL.p Q0 (Yl.loadC0 sca9 Q0 (Sl.Ok.at_ (hs.okow (x := x2) (F := F2) Q1) ((getD_some (i := 3) (z := ([] : Str)) Q7))).2 Q0) ?_
      refine WL.run (d := 34) Q0 Q0 ?_
      refine WL.p Q0 (Yl.len_str str9 Q0) ?_
      refine WL.run (d := 34) Q0 Q0 ?_
      refine WL.p Q0 (Yl.gtr Q0 Q0) ?_
      refine WL.p Q0 (Yl.pickT Q0 Q0) ?_
      refine WL.next ?_
      refine WC.condS Q0 (fun h4 => ?_) (fun h4 => ?_)
      ·
       replace h4 := of_decide_eq_true h4
       refine WC.region ?_
       refine Qm ?_
       refine WL.p Q0 (Yl.indexAddr (k := 3) slt53 Q0 Q0 (hs.okow (x := x2) (F := F2) Q1) Q0 ((getD_some (i := 3) (z := ([] : Str)) Q7))) ?_
       refine WL.p Q0 (Yl.loadC0 sca9 Q0 (Sl.Ok.at_ (hs.okow (x := x2) (F := F2) Q1) ((getD_some (i := 3) (z := ([] : Str)) Q7))).2 Q0) ?_
       refine WL.p Q0 (Yl.slice_str (l := 6) str9 Q0 (by exact ⟨_, by rfl⟩) (by exact rfl) Q7 Q7) ?_
       refine WL.p Q0 (Yl.fieldAddr fa63_4 Q0) ?_
       refine WL.s (Yr.storeB hs Q0 Q0 Q0 Q5 Q3 Q0 (by exact szf9)) ?_
       clear hs; rintro _ w hs
       refine WL.nil ?_
       refine At.then_ ?_
       refine WC.seq' ?_
       refine WC.seq ?_
       refine WL.p Q0 (Yl.loadAB agg63 Q0 hs Q1 Q0 Q0) ?_
       have hpl9 : PPolicy.lg (⟨true, (x3.cut 1 x3.l.length), (x10.cut 1 x10.l.length), (x11.cut 1 x11.l.length), (((x2.l.getD 3 []).drop 6).take ((x2.l.getD 3 []).length - 6))⟩ : PPolicy) = polS s := by
        have e2 : x2.l = splitC 59 s := hx2
        have g0 : x3.l = splitC 32 ((splitC 59 s).getD 0 []) := by rw [← e2]; exact hx3
        have g1 : x10.l = splitC 32 ((splitC 59 s).getD 1 []) := by rw [← e2]; exact hx10
        have g2 : x11.l = splitC 32 ((splitC 59 s).getD 2 []) := by rw [← e2]; exact hx11
        have c0 : (x3.cut 1 x3.l.length).l = (splitC 32 ((splitC 59 s).getD 0 [])).tail := by rw [Sl.cut_full, g0, List.drop_one]
        have c1 : (x10.cut 1 x10.l.length).l = (splitC 32 ((splitC 59 s).getD 1 [])).tail := by rw [Sl.cut_full, g1, List.drop_one]
        have c2 : (x11.cut 1 x11.l.length).l = (splitC 32 ((splitC 59 s).getD 2 [])).tail := by rw [Sl.cut_full, g2, List.drop_one]
        simp only [PPolicy.lg, polS, polOf, c0, c1, c2, TPolicy.mk.injEq, true_and]
        rw [← e2]
        first
         | (rw [if_neg (show ¬ 3 < x2.l.length from fun h => by omega)]; done)
         | (rw [if_pos (show 3 < x2.l.length from Int.ofNat_lt.1 Q7)]; done)
         | (rw [if_pos (show 3 < x2.l.length from Int.ofNat_lt.1 Q7)]
            simp only [nonceS, nonceI]
            first
              | (rfl; done)
              | (rw [if_neg Q7]; done)
              | (rw [if_pos Q7, List.take_of_length_le (by simp)]; done)
              | (rw [if_pos Q7]; done))
       refine WL.callp hs Q0 (Yc.func Q0 fn193) (c_spec_FormatPolicy (⟨true, (x3.cut 1 x3.l.length), (x10.cut 1 x10.l.length), (x11.cut 1 x11.l.length), (((x2.l.getD 3 []).drop 6).take ((x2.l.getD 3 []).length - 6))⟩ : PPolicy) _ ⟨trivial, (Sl.Ok.cut (hs.okow (x := x3) (F := F3) Q1) (by rw [hx3]; exact List.length_pos_iff.2 (splitC_ne _ _)) (by exact Nat.le_refl _)), (Sl.Ok.cut (hs.okow (x := x10) (F := F10) Q1) (by rw [hx10]; exact List.length_pos_iff.2 (splitC_ne _ _)) (by exact Nat.le_refl _)), (Sl.Ok.cut (hs.okow (x := x11) (F := F11) Q1) (by rw [hx11]; exact List.length_pos_iff.2 (splitC_ne _ _)) (by exact Nat.le_refl _)), (by show WfS _; unfold WfS; simp only [List.length_take, List.length_drop]; omega)⟩ (by rw [hpl9]; have := polS_size (s := s) (by rw [← show x2.l = splitC 59 s from hx2]; omega); omega)) ?_
       clear hs; intro w hs
       refine Qm ?_
       refine WL.p Q0 (Yl.nes Q0 Q0) ?_
       refine WL.next ?_
       refine WC.condS Q0 (fun h5 => ?_) (fun h5 => ?_)
       ·
        replace h5 := not_eq_true h5
        replace h5 := of_decide_eq_false h5
        refine WC.seq ?_
        refine WL.p Q0 (Yl.build bt63 Q0 Q4) ?_
        refine WL.s (Yr.storeB hs Q0 Q0 Q0 Q5 Q3 Q0 (by exact szf63)) ?_
        clear hs; rintro _ w hs
        refine Qa ?_
        refine WL.next ?_
        refine WC.ret ?_
        refine At.thenret ?_
        refine fin2c rfl agg63 Q0 Q0 hs Q1 Q0 ?_
        refine Ret.mk hs ?_
        rw [hpl9] at h5
        have hb9 : policyIs s = false := policyIs_bad h1 h5
        exact ⟨⟨false, ⟨[], none, 0⟩, ⟨[], none, 0⟩, ⟨[], none, 0⟩, []⟩, by rw [hb9]; rfl, (policyOf_no (.inr hb9)).symm, ⟨⟨[], PPolicy.zown _, .nil, fun b h => by cases h⟩⟩⟩
       ·
        replace h5 := not_eq_false h5
        replace h5 := of_decide_eq_true h5
        refine WC.skipn ?_
        refine WC.seq ?_
        refine WL.p Q0 (Yl.loadAB agg63 Q0 hs Q1 Q0 Q0) ?_
        refine WL.s (Yr.storeB hs Q0 Q0 Q0 Q5 Q3 Q0 (by exact szf63)) ?_
        clear hs; rintro _ w hs
        refine Qa ?_
        refine WL.next ?_
        refine WC.ret ?_
        refine fin2c rfl agg63 Q0 Q0 hs Q1 Q0 ?_
        refine Ret.mk hs ?_
        rw [hpl9] at h5
        have hq9 : x2.l = splitC 59 s := hx2
        have h49 : 3 ≤ (splitC 59 s).length := by rw [← hq9]; omega
        have hb9 : policyIs s = true := policyIs_good h5 h49
        obtain ⟨G90, hs⟩ := Sat.cutow (lo := 1) (hi := x3.l.length) (hs.sel (D := [ow x3 F3]) Q2) (by rw [hx3]; exact List.length_pos_iff.2 (splitC_ne _ _)) (Nat.le_refl _)
        obtain ⟨G91, hs⟩ := Sat.cutow (lo := 1) (hi := x10.l.length) (hs.sel (D := [ow x10 F10]) Q2) (by rw [hx10]; exact List.length_pos_iff.2 (splitC_ne _ _)) (Nat.le_refl _)
        obtain ⟨G92, hs⟩ := Sat.cutow (lo := 1) (hi := x11.l.length) (hs.sel (D := [ow x11 F11]) Q2) (by rw [hx11]; exact List.length_pos_iff.2 (splitC_ne _ _)) (Nat.le_refl _)
        refine ⟨(⟨true, (x3.cut 1 x3.l.length), (x10.cut 1 x10.l.length), (x11.cut 1 x11.l.length), (((x2.l.getD 3 []).drop 6).take ((x2.l.getD 3 []).length - 6))⟩ : PPolicy), by rw [hb9]; rfl, hpl9.trans (policyOf_good h1 hb9).symm, ?_⟩
        exact (PPolicy.join _ (hs.only (D := [ow (x3.cut 1 x3.l.length) G90, ow (x10.cut 1 x10.l.length) G91, ow (x11.cut 1 x11.l.length) G92]) Q2) trivial (by show WfS _; unfold WfS; first | (simp only [List.length_take, List.length_drop]; omega) | simp)).fresh List.mem_cons_self
      ·
       replace h4 := of_decide_eq_false h4
       refine WC.skipn ?_
       refine WC.seq' ?_
       refine WC.seq ?_
       refine WL.p Q0 (Yl.loadAB agg63 Q0 hs Q1 Q0 Q0) ?_
       have hpl9 : PPolicy.lg (⟨true, (x3.cut 1 x3.l.length), (x10.cut 1 x10.l.length), (x11.cut 1 x11.l.length), ([] : Str)⟩ : PPolicy) = polS s := by
        have e2 : x2.l = splitC 59 s := hx2
        have g0 : x3.l = splitC 32 ((splitC 59 s).getD 0 []) := by rw [← e2]; exact hx3
        have g1 : x10.l = splitC 32 ((splitC 59 s).getD 1 []) := by rw [← e2]; exact hx10
        have g2 : x11.l = splitC 32 ((splitC 59 s).getD 2 []) := by rw [← e2]; exact hx11
        have c0 : (x3.cut 1 x3.l.length).l = (splitC 32 ((splitC 59 s).getD 0 [])).tail := by rw [Sl.cut_full, g0, List.drop_one]
        have c1 : (x10.cut 1 x10.l.length).l = (splitC 32 ((splitC 59 s).getD 1 [])).tail := by rw [Sl.cut_full, g1, List.drop_one]
        have c2 : (x11.cut 1 x11.l.length).l = (splitC 32 ((splitC 59 s).getD 2 [])).tail := by rw [Sl.cut_full, g2, List.drop_one]
        simp only [PPolicy.lg, polS, polOf, c0, c1, c2, TPolicy.mk.injEq, true_and]
        rw [← e2]
        first
         | (rw [if_neg (show ¬ 3 < x2.l.length from fun h => by omega)]; done)
         | (rw [if_pos (show 3 < x2.l.length from Int.ofNat_lt.1 Q7)]; done)
         | (rw [if_pos (show 3 < x2.l.length from Int.ofNat_lt.1 Q7)]
            simp only [nonceS, nonceI]
            first
              | (rfl; done)
              | (rw [if_neg Q7]; done)
              | (rw [if_pos Q7, List.take_of_length_le (by simp)]; done)
              | (rw [if_pos Q7]; done))
       refine WL.callp hs Q0 (Yc.func Q0 fn193) (c_spec_FormatPolicy (⟨true, (x3.cut 1 x3.l.length), (x10.cut 1 x10.l.length), (x11.cut 1 x11.l.length), ([] : Str)⟩ : PPolicy) _ ⟨trivial, (Sl.Ok.cut (hs.okow (x := x3) (F := F3) Q1) (by rw [hx3]; exact List.length_pos_iff.2 (splitC_ne _ _)) (by exact Nat.le_refl _)), (Sl.Ok.cut (hs.okow (x := x10) (F := F10) Q1) (by rw [hx10]; exact List.length_pos_iff.2 (splitC_ne _ _)) (by exact Nat.le_refl _)), (Sl.Ok.cut (hs.okow (x := x11) (F := F11) Q1) (by rw [hx11]; exact List.length_pos_iff.2 (splitC_ne _ _)) (by exact Nat.le_refl _)), (show WfS [] from Nat.zero_le _)⟩ (by rw [hpl9]; have := polS_size (s := s) (by rw [← show x2.l = splitC 59 s from hx2]; omega); omega)) ?_
       clear hs; intro w hs
       refine Qm ?_
       refine WL.p Q0 (Yl.nes Q0 Q0) ?_
       refine WL.next ?_
       refine WC.condS Q0 (fun h5 => ?_) (fun h5 => ?_)
       ·
        replace h5 := not_eq_true h5
        replace h5 := of_decide_eq_false h5
        refine WC.seq ?_
        refine WL.p Q0 (Yl.build bt63 Q0 Q4) ?_
        refine WL.s (Yr.storeB hs Q0 Q0 Q0 Q5 Q3 Q0 (by exact szf63)) ?_
        clear hs; rintro _ w hs
        refine Qa ?_
        refine WL.next ?_
        refine WC.ret ?_
        refine At.thenret ?_
        refine fin2c rfl agg63 Q0 Q0 hs Q1 Q0 ?_
        refine Ret.mk hs ?_
        rw [hpl9] at h5
        have hb9 : policyIs s = false := policyIs_bad h1 h5
        exact ⟨⟨false, ⟨[], none, 0⟩, ⟨[], none, 0⟩, ⟨[], none, 0⟩, []⟩, by rw [hb9]; rfl, (policyOf_no (.inr hb9)).symm, ⟨⟨[], PPolicy.zown _, .nil, fun b h => by cases h⟩⟩⟩
       ·
        replace h5 := not_eq_false h5
        replace h5 := of_decide_eq_true h5
        refine WC.skipn ?_
        refine WC.seq ?_
        refine WL.p Q0 (Yl.loadAB agg63 Q0 hs Q1 Q0 Q0) ?_
        refine WL.s (Yr.storeB hs Q0 Q0 Q0 Q5 Q3 Q0 (by exact szf63)) ?_
        clear hs; rintro _ w hs
        refine Qa ?_
        refine WL.next ?_
        refine WC.ret ?_
        refine fin2c rfl agg63 Q0 Q0 hs Q1 Q0 ?_
        refine Ret.mk hs ?_
        rw [hpl9] at h5
        have hq9 : x2.l = splitC 59 s := hx2
        have h49 : 3 ≤ (splitC 59 s).length := by rw [← hq9]; omega
        have hb9 : policyIs s = true := policyIs_good h5 h49
        obtain ⟨G90, hs⟩ := Sat.cutow (lo := 1) (hi := x3.l.length) (hs.sel (D := [ow x3 F3]) Q2) (by rw [hx3]; exact List.length_pos_iff.2 (splitC_ne _ _)) (Nat.le_refl _)
        obtain ⟨G91, hs⟩ := Sat.cutow (lo := 1) (hi := x10.l.length) (hs.sel (D := [ow x10 F10]) Q2) (by rw [hx10]; exact List.length_pos_iff.2 (splitC_ne _ _)) (Nat.le_refl _)
        obtain ⟨G92, hs⟩ := Sat.cutow (lo := 1) (hi := x11.l.length) (hs.sel (D := [ow x11 F11]) Q2) (by rw [hx11]; exact List.length_pos_iff.2 (splitC_ne _ _)) (Nat.le_refl _)
        refine ⟨(⟨true, (x3.cut 1 x3.l.length), (x10.cut 1 x10.l.length), (x11.cut 1 x11.l.length), ([] : Str)⟩ : PPolicy), by rw [hb9]; rfl, hpl9.trans (policyOf_good h1 hb9).symm, ?_⟩
        exact (PPolicy.join _ (hs.only (D := [ow (x3.cut 1 x3.l.length) G90, ow (x10.cut 1 x10.l.length) G91, ow (x11.cut 1 x11.l.length) G92]) Q2) trivial (by show WfS _; unfold WfS; first | (simp only [List.length_take, List.length_drop]; omega) | simp)).fresh List.mem_cons_self
     ·
      replace h3 := of_decide_eq_false h3
      refine WL.skip (d := 34) Q0 Q0 Q0 Q0 ?_
      refine WL.skip (d := 34) Q0 Q0 Q0 Q0 ?_
      refine WL.skip (d := 34) Q0 Q0 Q0 Q0 ?_
      refine WL.skip (d := 34) Q0 Q0 Q0 Q0 ?_
      refine WL.skip (d := 34) Q0 Q0 Q0 Q0 ?_
      refine WL.p Q0 (Yl.pickF Q0 Q0) ?_
      refine WL.next ?_
      refine WC.condF Q0 ?_
      refine WC.skipn ?_
      refine WC.seq' ?_
      refine WC.seq ?_
      refine WL.p Q0 (Yl.loadAB agg63 Q0 hs Q1 Q0 Q0) ?_
      have hpl9 : PPolicy.lg (⟨true, (x3.cut 1 x3.l.length), (x10.cut 1 x10.l.length), (x11.cut 1 x11.l.length), ([] : Str)⟩ : PPolicy) = polS s := by
       have e2 : x2.l = splitC 59 s := hx2
       have g0 : x3.l = splitC 32 ((splitC 59 s).getD 0 []) := by rw [← e2]; exact hx3
       have g1 : x10.l = splitC 32 ((splitC 59 s).getD 1 []) := by rw [← e2]; exact hx10
       have g2 : x11.l = splitC 32 ((splitC 59 s).getD 2 []) := by rw [← e2]; exact hx11
       have c0 : (x3.cut 1 x3.l.length).l = (splitC 32 ((splitC 59 s).getD 0 [])).tail := by rw [Sl.cut_full, g0, List.drop_one]
       have c1 : (x10.cut 1 x10.l.length).l = (splitC 32 ((splitC 59 s).getD 1 [])).tail := by rw [Sl.cut_full, g1, List.drop_one]
       have c2 : (x11.cut 1 x11.l.length).l = (splitC 32 ((splitC 59 s).getD 2 [])).tail := by rw [Sl.cut_full, g2, List.drop_one]
       simp only [PPolicy.lg, polS, polOf, c0, c1, c2, TPolicy.mk.injEq, true_and]
       rw [← e2]
       first
        | (rw [if_neg (show ¬ 3 < x2.l.length from fun h => by omega)]; done)
        | (rw [if_pos (show 3 < x2.l.length from Int.ofNat_lt.1 Q7)]; done)
        | (rw [if_pos (show 3 < x2.l.length from Int.ofNat_lt.1 Q7)]
           simp only [nonceS, nonceI]
           first
             | (rfl; done)
             | (rw [if_neg Q7]; done)
             | (rw [if_pos Q7, List.take_of_length_le (by simp)]; done)
             | (rw [if_pos Q7]; done))
      refine WL.callp hs Q0 (Yc.func Q0 fn193) (c_spec_FormatPolicy (⟨true, (x3.cut 1 x3.l.length), (x10.cut 1 x10.l.length), (x11.cut 1 x11.l.length), ([] : Str)⟩ : PPolicy) _ ⟨trivial, (Sl.Ok.cut (hs.okow (x := x3) (F := F3) Q1) (by rw [hx3]; exact List.length_pos_iff.2 (splitC_ne _ _)) (by exact Nat.le_refl _)), (Sl.Ok.cut (hs.okow (x := x10) (F := F10) Q1) (by rw [hx10]; exact List.length_pos_iff.2 (splitC_ne _ _)) (by exact Nat.le_refl _)), (Sl.Ok.cut (hs.okow (x := x11) (F := F11) Q1) (by rw [hx11]; exact List.length_pos_iff.2 (splitC_ne _ _)) (by exact Nat.le_refl _)), (show WfS [] from Nat.zero_le _)⟩ (by rw [hpl9]; have := polS_size (s := s) (by rw [← show x2.l = splitC 59 s from hx2]; omega); omega)) ?_
      clear hs; intro w hs
      refine Qm ?_
      refine WL.p Q0 (Yl.nes Q0 Q0) ?_
      refine WL.next ?_
      refine WC.condS Q0 (fun h4 => ?_) (fun h4 => ?_)
      ·
       replace h4 := not_eq_true h4
       replace h4 := of_decide_eq_false h4
       refine WC.seq ?_
       refine WL.p Q0 (Yl.build bt63 Q0 Q4) ?_
       refine WL.s (Yr.storeB hs Q0 Q0 Q0 Q5 Q3 Q0 (by exact szf63)) ?_
       clear hs; rintro _ w hs
       refine Qa ?_
       refine WL.next ?_
       refine WC.ret ?_
       refine At.thenret ?_
       refine fin2c rfl agg63 Q0 Q0 hs Q1 Q0 ?_
       refine Ret.mk hs ?_
       rw [hpl9] at h4
       have hb9 : policyIs s = false := policyIs_bad h1 h4
       exact ⟨⟨false, ⟨[], none, 0⟩, ⟨[], none, 0⟩, ⟨[], none, 0⟩, []⟩, by rw [hb9]; rfl, (policyOf_no (.inr hb9)).symm, ⟨⟨[], PPolicy.zown _, .nil, fun b h => by cases h⟩⟩⟩
      ·
       replace h4 := not_eq_false h4
       replace h4 := of_decide_eq_true h4
       refine WC.skipn ?_
       refine WC.seq ?_
       refine WL.p Q0 (Yl.loadAB agg63 Q0 hs Q1 Q0 Q0) ?_
       refine WL.s (Yr.storeB hs Q0 Q0 Q0 Q5 Q3 Q0 (by exact szf63)) ?_
       clear hs; rintro _ w hs
       refine Qa ?_
       refine WL.next ?_
       refine WC.ret ?_
       refine fin2c rfl agg63 Q0 Q0 hs Q1 Q0 ?_
       refine Ret.mk hs ?_
       rw [hpl9] at h4
       have hq9 : x2.l = splitC 59 s := hx2
       have h49 : 3 ≤ (splitC 59 s).length := by rw [← hq9]; omega
       have hb9 : policyIs s = true := policyIs_good h4 h49
       obtain ⟨G90, hs⟩ := Sat.cutow (lo := 1) (hi := x3.l.length) (hs.sel (D := [ow x3 F3]) Q2) (by rw [hx3]; exact List.length_pos_iff.2 (splitC_ne _ _)) (Nat.le_refl _)
       obtain ⟨G91, hs⟩ := Sat.cutow (lo := 1) (hi := x10.l.length) (hs.sel (D := [ow x10 F10]) Q2) (by rw [hx10]; exact List.length_pos_iff.2 (splitC_ne _ _)) (Nat.le_refl _)
       obtain ⟨G92, hs⟩ := Sat.cutow (lo := 1) (hi := x11.l.length) (hs.sel (D := [ow x11 F11]) Q2) (by rw [hx11]; exact List.length_pos_iff.2 (splitC_ne _ _)) (Nat.le_refl _)
       refine ⟨(⟨true, (x3.cut 1 x3.l.length), (x10.cut 1 x10.l.length), (x11.cut 1 x11.l.length), ([] : Str)⟩ : PPolicy), by rw [hb9]; rfl, hpl9.trans (policyOf_good h1 hb9).symm, ?_⟩
       exact (PPolicy.join _ (hs.only (D := [ow (x3.cut 1 x3.l.length) G90, ow (x10.cut 1 x10.l.length) G91, ow (x11.cut 1 x11.l.length) G92]) Q2) trivial (by show WfS _; unfold WfS; first | (simp only [List.length_take, List.length_drop]; omega) | simp)).fresh List.mem_cons_self
   ·
    refine WI.r (i := 16) Q0 Q0 (Yr.alloc hs zt63) (by rintro _ w ⟨b12, rfl, hb, hs⟩; exact hs.only Q2) ?_
    clear hs; rintro _ w ⟨b12, rfl, hb, hs⟩; clear hb
    refine WA.call2 (i := 3) hs (fun _ hs => hs.only Q2) Q6 Q0 Q0 (Yc.func Q0 fn192) (c_spec_l5Split _ 32 _ (by first | (have := getD_len (s := s) (i := 0); rw [← show x2.l = splitC 59 s from hx2] at this; omega) | (have := getD_len (s := s) (i := 1); rw [← show x2.l = splitC 59 s from hx2] at this; omega) | (have := getD_len (s := s) (i := 2); rw [← show x2.l = splitC 59 s from hx2] at this; omega) | (have := getD_len (s := s) (i := 3); rw [← show x2.l = splitC 59 s from hx2] at this; omega))) ?_
    have hs0 := hs; clear hs; intro v w hb hR hs; clear hs
    obtain ⟨x13, rfl, hx13, hf13⟩ := hR
    obtain ⟨F13, hs⟩ := hf13.sat hs0 hb; clear hs0 hf13
    have hle13 := Sl.Ok.le (hs.okow (x := x13) (F := F13) Q1)
    refine WA.p (i := 4) Q0 Q6 Q6 Q6 Q0 (hs.only Q2) (fun w hs => Yl.slice_sl (s := x13) (l := 1) (h := x13.l.length) slt53 Q0 hle13 (by exact ⟨_, by rfl⟩) (by exact rfl) (by rw [hx13]; exact List.length_pos_iff.2 (splitC_ne _ _)) (by exact Nat.le_refl _)) ?_
    refine WA.call2 (i := 8) hs (fun _ hs => hs.only Q2) Q6 Q0 Q0 (Yc.func Q0 fn192) (c_spec_l5Split _ 32 _ (by first | (have := getD_len (s := s) (i := 0); rw [← show x2.l = splitC 59 s from hx2] at this; omega) | (have := getD_len (s := s) (i := 1); rw [← show x2.l = splitC 59 s from hx2] at this; omega) | (have := getD_len (s := s) (i := 2); rw [← show x2.l = splitC 59 s from hx2] at this; omega) | (have := getD_len (s := s) (i := 3); rw [← show x2.l = splitC 59 s from hx2] at this; omega))) ?_
    have hs0 := hs; clear hs; intro v w hb hR hs; clear hs
    obtain ⟨x14, rfl, hx14, hf14⟩ := hR
    obtain ⟨F14, hs⟩ := hf14.sat hs0 hb; clear hs0 hf14
    have hle14 := Sl.Ok.le (hs.okow (x := x14) (F := F14) Q1)
    refine WA.p (i := 9) Q0 Q6 Q6 Q6 Q0 (hs.only Q2) (fun w hs => Yl.slice_sl (s := x14) (l := 1) (h := x14.l.length) slt53 Q0 hle14 (by exact ⟨_, by rfl⟩) (by exact rfl) (by rw [hx14]; exact List.length_pos_iff.2 (splitC_ne _ _)) (by exact Nat.le_refl _)) ?_
    refine WA.call2 (i := 13) hs (fun _ hs => hs.only Q2) Q6 Q0 Q0 (Yc.func Q0 fn192) (c_spec_l5Split _ 32 _ (by first | (have := getD_len (s := s) (i := 0); rw [← show x2.l = splitC 59 s from hx2] at this; omega) | (have := getD_len (s := s) (i := 1); rw [← show x2.l = splitC 59 s from hx2] at this; omega) | (have := getD_len (s := s) (i := 2); rw [← show x2.l = splitC 59 s from hx2] at this; omega) | (have := getD_len (s := s) (i := 3); rw [← show x2.l = splitC 59 s from hx2] at this; omega))) ?_
    have hs0 := hs; clear hs; intro v w hb hR hs; clear hs
    obtain ⟨x15, rfl, hx15, hf15⟩ := hR
    obtain ⟨F15, hs⟩ := hf15.sat hs0 hb; clear hs0 hf15
    have hle15 := Sl.Ok.le (hs.okow (x := x15) (F := F15) Q1)
    refine WA.r (i := 14) Q6 Q0 Q0 (Yl.yr (Yl.slice_sl (s := x15) (l := 1) (h := x15.l.length) slt53 Q0 hle15 (by exact ⟨_, by rfl⟩) (by exact rfl) (by rw [hx15]; exact List.length_pos_iff.2 (splitC_ne _ _)) (by exact Nat.le_refl _))) (by rintro _ _ ⟨rfl, rfl⟩; exact hs.only Q2) ?_
    rintro _ _ ⟨rfl, rfl⟩
    refine WA.p (i := 15) Q0 Q6 Q6 Q6 Q0 (hs.only Q2) (fun w hs => Yl.build bt63 Q0 Q4) ?_
    refine WA.s (i := 17) Q6 Q0 (Yr.storeB hs Q0 Q0 Q0 Q5 Q3 Q0 (by exact szf63)) (by rintro _ w hs; exact hs.only Q2) ?_
    clear hs; rintro _ w hs
    refine WA.donen Q6 ?_
    refine WC.seq' ?_
    refine WC.seq ?_
    refine Qm ?_
    refine WL.p Q0 (Yl.len_sl slu53 Q0) ?_
    refine WL.p Q0 (Yl.gtr Q0 Q0) ?_
    refine Qm ?_
    refine WL.split (d := 34) Q0 (fun h3 => ?_) (fun h3 => ?_)
    ·
     replace h3 := of_decide_eq_true h3
     refine WL.run (d := 34) Q0 Q0 ?_
     refine Qm ?_
     refine WL.run (d := 34) Q0 Q0 ?_
     refine WL.p Q0 (Yl.indexAddr (k := 3) slt53 Q0 Q0 (hs.okow (x := x2) (F := F2) Q1) Q0 ((getD_some (i := 3) (z := ([] : Str)) Q7))) ?_
     refine WL.run (d := 34) Q0 Q0 ?_
     refine WL.p Q0 (Yl.loadC0 sca9 Q0 (Sl.Ok.at_ (hs.okow (x := x2) (F := F2) Q1) ((getD_some (i := 3) (z := ([] : Str)) Q7))).2 Q0) ?_
     refine WL.run (d := 34) Q0 Q0 ?_
     refine WL.p Q0 (Yl.len_str str9 Q0) ?_
     refine WL.run (d := 34) Q0 Q0 ?_
     refine WL.p Q0 (Yl.gtr Q0 Q0) ?_
     refine WL.p Q0 (Yl.pickT Q0 Q0) ?_
     refine WL.next ?_
     refine WC.condS Q0 (fun h4 => ?_) (fun h4 => ?_)
     ·
      replace h4 := of_decide_eq_true h4
      refine WC.region ?_
      refine Qm ?_
      refine WL.p Q0 (Yl.indexAddr (k := 3) slt53 Q0 Q0 (hs.okow (x := x2) (F := F2) Q1) Q0 ((getD_some (i := 3) (z := ([] : Str)) Q7))) ?_
      refine WL.p Q0 (Yl.loadC0 sca9 Q0 (Sl.Ok.at_ (hs.okow (x := x2) (F := F2) Q1) ((getD_some (i := 3) (z := ([] : Str)) Q7))).2 Q0) ?_
      refine WL.p Q0 (Yl.slice_str (l := 6) str9 Q0 (by exact ⟨_, by rfl⟩) (by exact rfl) Q7 Q7) ?_
      refine WL.p Q0 (Yl.fieldAddr fa63_4 Q0) ?_
      refine WL.s (Yr.storeB hs Q0 Q0 Q0 Q5 Q3 Q0 (by exact szf9)) ?_
      clear hs; rintro _ w hs
      refine WL.nil ?_
      refine At.then_ ?_
      refine WC.seq' ?_
      refine WC.seq ?_
      refine WL.p Q0 (Yl.loadAB agg63 Q0 hs Q1 Q0 Q0) ?_
      have hpl9 : PPolicy.lg (⟨true, (x13.cut 1 x13.l.length), (x14.cut 1 x14.l.length), (x15.cut 1 x15.l.length), (((x2.l.getD 3 []).drop 6).take ((x2.l.getD 3 []).length - 6))⟩ : PPolicy) = polS s := by
       have e2 : x2.l = splitC 59 s := hx2
       have g0 : x13.l = splitC 32 ((splitC 59 s).getD 0 []) := by rw [← e2]; exact hx13
       have g1 : x14.l = splitC 32 ((splitC 59 s).getD 1 []) := by rw [← e2]; exact hx14
       have g2 : x15.l = splitC 32 ((splitC 59 s).getD 2 []) := by rw [← e2]; exact hx15
       have c0 : (x13.cut 1 x13.l.length).l = (splitC 32 ((splitC 59 s).getD 0 [])).tail := by rw [Sl.cut_full, g0, List.drop_one]
       have c1 : (x14.cut 1 x14.l.length).l = (splitC 32 ((splitC 59 s).getD 1 [])).tail := by rw [Sl.cut_full, g1, List.drop_one]
       have c2 : (x15.cut 1 x15.l.length).l = (splitC 32 ((splitC 59 s).getD 2 [])).tail := by rw [Sl.cut_full, g2, List.drop_one]
       simp only [PPolicy.lg, polS, polOf, c0, c1, c2, TPolicy.mk.injEq, true_and]
       rw [← e2]
       first
        | (rw [if_neg (show ¬ 3 < x2.l.length from fun h => by omega)]; done)
        | (rw [if_pos (show 3 < x2.l.length from Int.ofNat_lt.1 Q7)]; done)
        | (rw [if_pos (show 3 < x2.l.length from Int.ofNat_lt.1 Q7)]
           simp only [nonceS, nonceI]
           first
             | (rfl; done)
             | (rw [if_neg Q7]; done)
             | (rw [if_pos Q7, List.take_of_length_le (by simp)]; done)
             | (rw [if_pos Q7]; done))
      refine WL.callp hs Q0 (Yc.func Q0 fn193) (c_spec_FormatPolicy (⟨true, (x13.cut 1 x13.l.length), (x14.cut 1 x14.l.length), (x15.cut 1 x15.l.length), (((x2.l.getD 3 []).drop 6).take ((x2.l.getD 3 []).length - 6))⟩ : PPolicy) _ ⟨trivial, (Sl.Ok.cut (hs.okow (x := x13) (F := F13) Q1) (by rw [hx13]; exact List.length_pos_iff.2 (splitC_ne _ _)) (by exact Nat.le_refl _)), (Sl.Ok.cut (hs.okow (x := x14) (F := F14) Q1) (by rw [hx14]; exact List.length_pos_iff.2 (splitC_ne _ _)) (by exact Nat.le_refl _)), (Sl.Ok.cut (hs.okow (x := x15) (F := F15) Q1) (by rw [hx15]; exact List.length_pos_iff.2 (splitC_ne _ _)) (by exact Nat.le_refl _)), (by show WfS _; unfold WfS; simp only [List.length_take, List.length_drop]; omega)⟩ (by rw [hpl9]; have := polS_size (s := s) (by rw [← show x2.l = splitC 59 s from hx2]; omega); omega)) ?_
      clear hs; intro w hs
      refine Qm ?_
      refine WL.p Q0 (Yl.nes Q0 Q0) ?_
      refine WL.next ?_
      refine WC.condS Q0 (fun h5 => ?_) (fun h5 => ?_)
      ·
       replace h5 := not_eq_true h5
       replace h5 := of_decide_eq_false h5
       refine WC.seq ?_
       refine WL.p Q0 (Yl.build bt63 Q0 Q4) ?_
       refine WL.s (Yr.storeB hs Q0 Q0 Q0 Q5 Q3 Q0 (by exact szf63)) ?_
       clear hs; rintro _ w hs
       refine Qa ?_
       refine WL.next ?_
       refine WC.ret ?_
       refine At.thenret ?_
       refine fin2c rfl agg63 Q0 Q0 hs Q1 Q0 ?_
       refine Ret.mk hs ?_
       rw [hpl9] at h5
       have hb9 : policyIs s = false := policyIs_bad h1 h5
       exact ⟨⟨false, ⟨[], none, 0⟩, ⟨[], none, 0⟩, ⟨[], none, 0⟩, []⟩, by rw [hb9]; rfl, (policyOf_no (.inr hb9)).symm, ⟨⟨[], PPolicy.zown _, .nil, fun b h => by cases h⟩⟩⟩
      ·
       replace h5 := not_eq_false h5
       replace h5 := of_decide_eq_true h5
       refine WC.skipn ?_
       refine WC.seq ?_
       refine WL.p Q0 (Yl.loadAB agg63 Q0 hs Q1 Q0 Q0) ?_
       refine WL.s (Yr.storeB hs Q0 Q0 Q0 Q5 Q3 Q0 (by exact szf63)) ?_
       clear hs; rintro _ w hs
       refine Qa ?_
       refine WL.next ?_
       refine WC.ret ?_
       refine fin2c rfl agg63 Q0 Q0 hs Q1 Q0 ?_
       refine Ret.mk hs ?_
       rw [hpl9] at h5
       have hq9 : x2.l = splitC 59 s := hx2
       have h49 : 3 ≤ (splitC 59 s).length := by rw [← hq9]; omega
       have hb9 : policyIs s = true := policyIs_good h5 h49
       obtain ⟨G90, hs⟩ := Sat.cutow (lo := 1) (hi := x13.l.length) (hs.sel (D := [ow x13 F13]) Q2) (by rw [hx13]; exact List.length_pos_iff.2 (splitC_ne _ _)) (Nat.le_refl _)
       obtain ⟨G91, hs⟩ := Sat.cutow (lo := 1) (hi := x14.l.length) (hs.sel (D := [ow x14 F14]) Q2) (by rw [hx14]; exact List.length_pos_iff.2 (splitC_ne _ _)) (Nat.le_refl _)
       obtain ⟨G92, hs⟩ := Sat.cutow (lo := 1) (hi := x15.l.length) (hs.sel (D := [ow x15 F15]) Q2) (by rw [hx15]; exact List.length_pos_iff.2 (splitC_ne _ _)) (Nat.le_refl _)
       refine ⟨(⟨true, (x13.cut 1 x13.l.length), (x14.cut 1 x14.l.length), (x15.cut 1 x15.l.length), (((x2.l.getD 3 []).drop 6).take ((x2.l.getD 3 []).length - 6))⟩ : PPolicy), by rw [hb9]; rfl, hpl9.trans (policyOf_good h1 hb9).symm, ?_⟩
       exact (PPolicy.join _ (hs.only (D := [ow (x13.cut 1 x13.l.length) G90, ow (x14.cut 1 x14.l.length) G91, ow (x15.cut 1 x15.l.length) G92]) Q2) trivial (by show WfS _; unfold WfS; first | (simp only [List.length_take, List.length_drop]; omega) | simp)).fresh List.mem_cons_self
     ·
      replace h4 := of_decide_eq_false h4
      refine WC.skipn ?_
      refine WC.seq' ?_
      refine WC.seq ?_
      refine WL.p Q0 (Yl.loadAB agg63 Q0 hs Q1 Q0 Q0) ?_
      have hpl9 : PPolicy.lg (⟨true, (x13.cut 1 x13.l.length), (x14.cut 1 x14.l.length), (x15.cut 1 x15.l.length), ([] : Str)⟩ : PPolicy) = polS s := by
       have e2 : x2.l = splitC 59 s := hx2
       have g0 : x13.l = splitC 32 ((splitC 59 s).getD 0 []) := by rw [← e2]; exact hx13
       have g1 : x14.l = splitC 32 ((splitC 59 s).getD 1 []) := by rw [← e2]; exact hx14
       have g2 : x15.l = splitC 32 ((splitC 59 s).getD 2 []) := by rw [← e2]; exact hx15
       have c0 : (x13.cut 1 x13.l.length).l = (splitC 32 ((splitC 59 s).getD 0 [])).tail := by rw [Sl.cut_full, g0, List.drop_one]
       have c1 : (x14.cut 1 x14.l.length).l = (splitC 32 ((splitC 59 s).getD 1 [])).tail := by rw [Sl.cut_full, g1, List.drop_one]
       have c2 : (x15.cut 1 x15.l.length).l = (splitC 32 ((splitC 59 s).getD 2 [])).tail := by rw [Sl.cut_full, g2, List.drop_one]
       simp only [PPolicy.lg, polS, polOf, c0, c1, c2, TPolicy.mk.injEq, true_and]
       rw [← e2]
       first
        | (rw [if_neg (show ¬ 3 < x2.l.length from fun h => by omega)]; done)
        | (rw [if_pos (show 3 < x2.l.length from Int.ofNat_lt.1 Q7)]; done)
        | (rw [if_pos (show 3 < x2.l.length from Int.ofNat_lt.1 Q7)]
           simp only [nonceS, nonceI]
           first
             | (rfl; done)
             | (rw [if_neg Q7]; done)
             | (rw [if_pos Q7, List.take_of_length_le (by simp)]; done)
             | (rw [if_pos Q7]; done))
      refine WL.callp hs Q0 (Yc.func Q0 fn193) (c_spec_FormatPolicy (⟨true, (x13.cut 1 x13.l.length), (x14.cut 1 x14.l.length), (x15.cut 1 x15.l.length), ([] : Str)⟩ : PPolicy) _ ⟨trivial, (Sl.Ok.cut (hs.okow (x := x13) (F := F13) Q1) (by rw [hx13]; exact List.length_pos_iff.2 (splitC_ne _ _)) (by exact Nat.le_refl _)), (Sl.Ok.cut (hs.okow (x := x14) (F := F14) Q1) (by rw [hx14]; exact List.length_pos_iff.2 (splitC_ne _ _)) (by exact Nat.le_refl _)), (Sl.Ok.cut (hs.okow (x := x15) (F := F15) Q1) (by rw [hx15]; exact List.length_pos_iff.2 (splitC_ne _ _)) (by exact Nat.le_refl _)), (show WfS [] from Nat.zero_le _)⟩ (by rw [hpl9]; have := polS_size (s := s) (by rw [← show x2.l = splitC 59 s from hx2]; omega); omega)) ?_
      clear hs; intro w hs
      refine Qm ?_
      refine WL.p Q0 (Yl.nes Q0 Q0) ?_
      refine WL.next ?_
      refine WC.condS Q0 (fun h5 => ?_) (fun h5 => ?_)
      ·
       replace h5 := not_eq_true h5
       replace h5 := of_decide_eq_false h5
       refine WC.seq ?_
       refine WL.p Q0 (Yl.build bt63 Q0 Q4) ?_
       refine WL.s (Yr.storeB hs Q0 Q0 Q0 Q5 Q3 Q0 (by exact szf63)) ?_
       clear hs; rintro _ w hs
       refine Qa ?_
       refine WL.next ?_
       refine WC.ret ?_
       refine At.thenret ?_
       refine fin2c rfl agg63 Q0 Q0 hs Q1 Q0 ?_
       refine Ret.mk hs ?_
       rw [hpl9] at h5
       have hb9 : policyIs s = false := policyIs_bad h1 h5
       exact ⟨⟨false, ⟨[], none, 0⟩, ⟨[], none, 0⟩, ⟨[], none, 0⟩, []⟩, by rw [hb9]; rfl, (policyOf_no (.inr hb9)).symm, ⟨⟨[], PPolicy.zown _, .nil, fun b h => by cases h⟩⟩⟩
      ·
       replace h5 := not_eq_false h5
       replace h5 := of_decide_eq_true h5
       refine WC.skipn ?_
       refine WC.seq ?_
       refine WL.p Q0 (Yl.loadAB agg63 Q0 hs Q1 Q0 Q0) ?_
       refine WL.s (Yr.storeB hs Q0 Q0 Q0 Q5 Q3 Q0 (by exact szf63)) ?_
       clear hs; rintro _ w hs
       refine Qa ?_
       refine WL.next ?_
       refine WC.ret ?_
       refine fin2c rfl agg63 Q0 Q0 hs Q1 Q0 ?_
       refine Ret.mk hs ?_
       rw [hpl9] at h5
       have hq9 : x2.l = splitC 59 s := hx2
       have h49 : 3 ≤ (splitC 59 s).length := by rw [← hq9]; omega
       have hb9 : policyIs s = true := policyIs_good h5 h49
       obtain ⟨G90, hs⟩ := Sat.cutow (lo := 1) (hi := x13.l.length) (hs.sel (D := [ow x13 F13]) Q2) (by rw [hx13]; exact List.length_pos_iff.2 (splitC_ne _ _)) (Nat.le_refl _)
       obtain ⟨G91, hs⟩ := Sat.cutow (lo := 1) (hi := x14.l.length) (hs.sel (D := [ow x14 F14]) Q2) (by rw [hx14]; exact List.length_pos_iff.2 (splitC_ne _ _)) (Nat.le_refl _)
       obtain ⟨G92, hs⟩ := Sat.cutow (lo := 1) (hi := x15.l.length) (hs.sel (D := [ow x15 F15]) Q2) (by rw [hx15]; exact List.length_pos_iff.2 (splitC_ne _ _)) (Nat.le_refl _)
       refine ⟨(⟨true, (x13.cut 1 x13.l.length), (x14.cut 1 x14.l.length), (x15.cut 1 x15.l.length), ([] : Str)⟩ : PPolicy), by rw [hb9]; rfl, hpl9.trans (policyOf_good h1 hb9).symm, ?_⟩
       exact (PPolicy.join _ (hs.only (D := [ow (x13.cut 1 x13.l.length) G90, ow (x14.cut 1 x14.l.length) G91, ow (x15.cut 1 x15.l.length) G92]) Q2) trivial (by show WfS _; unfold WfS; first | (simp only [List.length_take, List.length_drop]; omega) | simp)).fresh List.mem_cons_self
    ·
     replace h3 := of_decide_eq_false h3
     refine WL.skip (d := 34) Q0 Q0 Q0 Q0 ?_
     refine WL.skip (d := 34) Q0 Q0 Q0 Q0 ?_
     refine WL.skip (d := 34) Q0 Q0 Q0 Q0 ?_
     refine WL.skip (d := 34) Q0 Q0 Q0 Q0 ?_
     refine WL.skip (d := 34) Q0 Q0 Q0 Q0 ?_
     refine WL.p Q0 (Yl.pickF Q0 Q0) ?_
     refine WL.next ?_
     refine WC.condF Q0 ?_
     refine WC.skipn ?_
     refine WC.seq' ?_
     refine WC.seq ?_
     refine WL.p Q0 (Yl.loadAB agg63 Q0 hs Q1 Q0 Q0) ?_
     have hpl9 : PPolicy.lg (⟨true, (x13.cut 1 x13.l.length), (x14.cut 1 x14.l.length), (x15.cut 1 x15.l.length), ([] : Str)⟩ : PPolicy) = polS s := by
      have e2 : x2.l = splitC 59 s := hx2
      have g0 : x13.l = splitC 32 ((splitC 59 s).getD 0 []) := by rw [← e2]; exact hx13
      have g1 : x14.l = splitC 32 ((splitC 59 s).getD 1 []) := by rw [← e2]; exact hx14
      have g2 : x15.l = splitC 32 ((splitC 59 s).getD 2 []) := by rw [← e2]; exact hx15
      have c0 : (x13.cut 1 x13.l.length).l = (splitC 32 ((splitC 59 s).getD 0 [])).tail := by rw [Sl.cut_full, g0, List.drop_one]
      have c1 : (x14.cut 1 x14.l.length).l = (splitC 32 ((splitC 59 s).getD 1 [])).tail := by rw [Sl.cut_full, g1, List.drop_one]
      have c2 : (x15.cut 1 x15.l.length).l = (splitC 32 ((splitC 59 s).getD 2 [])).tail := by rw [Sl.cut_full, g2, List.drop_one]
      simp only [PPolicy.lg, polS, polOf, c0, c1, c2, TPolicy.mk.injEq, true_and]
      rw [← e2]
      first
       | (rw [if_neg (show ¬ 3 < x2.l.length from fun h => by omega)]; done)
       | (rw [if_pos (show 3 < x2.l.length from Int.ofNat_lt.1 Q7)]; done)
       | (rw [if_pos (show 3 < x2.l.length from Int.ofNat_lt.1 Q7)]
          simp only [nonceS, nonceI]
          first
            | (rfl; done)
            | (rw [if_neg Q7]; done)
            | (rw [if_pos Q7, List.take_of_length_le (by simp)]; done)
            | (rw [if_pos Q7]; done))
     refine WL.callp hs Q0 (Yc.func Q0 fn193) (c_spec_FormatPolicy (⟨true, (x13.cut 1 x13.l.length), (x14.cut 1 x14.l.length), (x15.cut 1 x15.l.length), ([] : Str)⟩ : PPolicy) _ ⟨trivial, (Sl.Ok.cut (hs.okow (x := x13) (F := F13) Q1) (by rw [hx13]; exact List.length_pos_iff.2 (splitC_ne _ _)) (by exact Nat.le_refl _)), (Sl.Ok.cut (hs.okow (x := x14) (F := F14) Q1) (by rw [hx14]; exact List.length_pos_iff.2 (splitC_ne _ _)) (by exact Nat.le_refl _)), (Sl.Ok.cut (hs.okow (x := x15) (F := F15) Q1) (by rw [hx15]; exact List.length_pos_iff.2 (splitC_ne _ _)) (by exact Nat.le_refl _)), (show WfS [] from Nat.zero_le _)⟩ (by rw [hpl9]; have := polS_size (s := s) (by rw [← show x2.l = splitC 59 s from hx2]; omega); omega)) ?_
     clear hs; intro w hs
     refine Qm ?_
     refine WL.p Q0 (Yl.nes Q0 Q0) ?_
     refine WL.next ?_
     refine WC.condS Q0 (fun h4 => ?_) (fun h4 => ?_)
     ·
      replace h4 := not_eq_true h4
      replace h4 := of_decide_eq_false h4
      refine WC.seq ?_
      refine WL.p Q0 (Yl.build bt63 Q0 Q4) ?_
      refine WL.s (Yr.storeB hs Q0 Q0 Q0 Q5 Q3 Q0 (by exact szf63)) ?_
      clear hs; rintro _ w hs
      refine Qa ?_
      refine WL.next ?_
      refine WC.ret ?_
      refine At.thenret ?_
      refine fin2c rfl agg63 Q0 Q0 hs Q1 Q0 ?_
      refine Ret.mk hs ?_
      rw [hpl9] at h4
      have hb9 : policyIs s = false := policyIs_bad h1 h4
      exact ⟨⟨false, ⟨[], none, 0⟩, ⟨[], none, 0⟩, ⟨[], none, 0⟩, []⟩, by rw [hb9]; rfl, (policyOf_no (.inr hb9)).symm, ⟨⟨[], PPolicy.zown _, .nil, fun b h => by cases h⟩⟩⟩
     ·
      replace h4 := not_eq_false h4
      replace h4 := of_decide_eq_true h4
      refine WC.skipn ?_
      refine WC.seq ?_
      refine WL.p Q0 (Yl.loadAB agg63 Q0 hs Q1 Q0 Q0) ?_
      refine WL.s (Yr.storeB hs Q0 Q0 Q0 Q5 Q3 Q0 (by exact szf63)) ?_
      clear hs; rintro _ w hs
      refine Qa ?_
      refine WL.next ?_
      refine WC.ret ?_
      refine fin2c rfl agg63 Q0 Q0 hs Q1 Q0 ?_
      refine Ret.mk hs ?_
      rw [hpl9] at h4
      have hq9 : x2.l = splitC 59 s := hx2
      have h49 : 3 ≤ (splitC 59 s).length := by rw [← hq9]; omega
      have hb9 : policyIs s = true := policyIs_good h4 h49
      obtain ⟨G90, hs⟩ := Sat.cutow (lo := 1) (hi := x13.l.length) (hs.sel (D := [ow x13 F13]) Q2) (by rw [hx13]; exact List.length_pos_iff.2 (splitC_ne _ _)) (Nat.le_refl _)
      obtain ⟨G91, hs⟩ := Sat.cutow (lo := 1) (hi := x14.l.length) (hs.sel (D := [ow x14 F14]) Q2) (by rw [hx14]; exact List.length_pos_iff.2 (splitC_ne _ _)) (Nat.le_refl _)
      obtain ⟨G92, hs⟩ := Sat.cutow (lo := 1) (hi := x15.l.length) (hs.sel (D := [ow x15 F15]) Q2) (by rw [hx15]; exact List.length_pos_iff.2 (splitC_ne _ _)) (Nat.le_refl _)
      refine ⟨(⟨true, (x13.cut 1 x13.l.length), (x14.cut 1 x14.l.length), (x15.cut 1 x15.l.length), ([] : Str)⟩ : PPolicy), by rw [hb9]; rfl, hpl9.trans (policyOf_good h1 hb9).symm, ?_⟩
      exact (PPolicy.join _ (hs.only (D := [ow (x13.cut 1 x13.l.length) G90, ow (x14.cut 1 x14.l.length) G91, ow (x15.cut 1 x15.l.length) G92]) Q2) trivial (by show WfS _; unfold WfS; first | (simp only [List.length_take, List.length_drop]; omega) | simp)).fresh List.mem_cons_self

theorem c_spec_IsResponse (x : TResponse) (w : World) (h_x : Ph.ok w x) (hb : x.policy.length ≤ 1048576) : Calls Tryz.prog 93 [.agg #[I x.status, I x.kind, S x.body, I x.age, Bo x.shares, S x.policy]].toArray w (RetP w (Bo x.isv)) := by
 refine enterN 33 Tryz.func93 rfl rfl rfl ?_
 have hs := Sat.start w
 refine WC.seq ?_
 refine WL.r Q0 (Yr.box hs Q0 Q0) ?_
 clear hs; rintro _ w ⟨b1, rfl, hb, hs⟩; clear hb
 refine Qa ?_
 refine WL.next ?_
 refine WC.seq ?_
 refine WL.p Q0 (Yl.fieldAddr fa41_5 Q0) ?_
 refine WL.p Q0 (Yl.loadB sca9 Q0 hs Q1 Q0) ?_
 refine WL.call hs Q0 (Yc.func Q0 fn160) (c_spec_ParsePolicy _ _ Q10) ?_
 have hs0 := hs; clear hs; intro v w hb hR hs; clear hs
 obtain ⟨x2, rfl, hx2, hf2⟩ := hR
 obtain ⟨F2, hs⟩ := hf2.sat hs0 hb; clear hs0 hf2
 refine Qm ?_
 refine WL.p Q0 (Yl.extract Q0 Q0) ?_
 refine WL.p Q0 (Yl.extract Q0 Q0) ?_
 refine WL.r Q0 (Yr.alloc hs zt63) ?_
 clear hs; rintro _ w ⟨b3, rfl, hb, hs⟩; clear hb
 refine WL.s (Yr.storeB hs Q0 Q0 Q0 Q5 Q3 Q0 (by exact szf63)) ?_
 clear hs; rintro _ w hs
 refine Qa ?_
 refine WL.next ?_
 refine WC.seq ?_
 refine WL.p Q0 (Yl.fieldAddr fa41_0 Q0) ?_
 refine WL.p Q0 (Yl.loadB sca3 Q0 hs Q1 Q0) ?_
 refine WL.callp hs Q0 (Yc.func Q0 fn87) (c_spec_l1In _ _ _ _) ?_
 clear hs; intro w hs
 refine Qm ?_
 refine WL.split (d := 14) Q0 (fun h1 => ?_) (fun h1 => ?_)
 ·
  replace h1 := inR_true.1 h1
  refine WL.run (d := 14) Q0 Q0 ?_
  refine WL.p Q0 (Yl.fieldAddr fa41_1 Q0) ?_
  refine WL.run (d := 14) Q0 Q0 ?_
  refine WL.p Q0 (Yl.loadB sca3 Q0 hs Q1 Q0) ?_
  refine WL.run (d := 14) Q0 Q0 ?_
  refine WL.callp hs Q0 (Yc.func Q0 fn87) (c_spec_l1In _ _ _ _) ?_
  clear hs; intro w hs
  refine WL.p Q0 (Yl.pickT Q0 Q0) ?_
  refine Qm ?_
  refine WL.split (d := 19) Q0 (fun h2 => ?_) (fun h2 => ?_)
  ·
   replace h2 := inR_true.1 h2
   refine WL.run (d := 19) Q0 Q0 ?_
   refine WL.p Q0 (Yl.fieldAddr fa41_2 Q0) ?_
   refine WL.run (d := 19) Q0 Q0 ?_
   refine WL.p Q0 (Yl.loadB sca9 Q0 hs Q1 Q0) ?_
   refine WL.run (d := 19) Q0 Q0 ?_
   refine WL.p Q0 (Yl.len_str str9 Q0) ?_
   refine WL.run (d := 19) Q0 Q0 ?_
   refine WL.p Q0 (Yl.leq Q0 Q0) ?_
   refine WL.p Q0 (Yl.pickT Q0 Q0) ?_
   refine Qm ?_
   refine WL.split (d := 25) Q0 (fun h3 => ?_) (fun h3 => ?_)
   ·
    replace h3 := of_decide_eq_true h3
    refine WL.run (d := 25) Q0 Q0 ?_
    refine WL.p Q0 (Yl.fieldAddr fa41_3 Q0) ?_
    refine WL.run (d := 25) Q0 Q0 ?_
    refine WL.p Q0 (Yl.loadB sca3 Q0 hs Q1 Q0) ?_
    refine WL.run (d := 25) Q0 Q0 ?_
    refine WL.callp hs Q0 (Yc.func Q0 fn87) (c_spec_l1In _ _ _ _) ?_
    clear hs; intro w hs
    refine WL.p Q0 (Yl.pickT Q0 Q0) ?_
    refine Qm ?_
    refine WL.split (d := 30) Q0 (fun h4 => ?_) (fun h4 => ?_)
    ·
     replace h4 := inR_true.1 h4
     refine WL.run (d := 30) Q0 Q0 ?_
     refine Qm ?_
     refine WL.p Q0 (Yl.pickT Q0 Q0) ?_
     refine Qa ?_
     refine WL.next ?_
     refine WC.ret ?_
     refine fin1' rfl Q0 ?_
     refine RetP.mk hs ?_
     clear hs hb h_x
     try simp only [← inR_true] at *
     try simp only [← inR_false] at *
     simp_all [TResponse.isv]
     try (intro hh; omega)
    ·
     replace h4 := inR_false.1 h4
     refine WL.skip (d := 30) Q0 Q0 Q0 Q0 ?_
     refine WL.p Q0 (Yl.pickF Q0 Q0) ?_
     refine Qa ?_
     refine WL.next ?_
     refine WC.ret ?_
     refine fin1' rfl Q0 ?_
     refine RetP.mk hs ?_
     clear hs hb h_x
     try simp only [← inR_true] at *
     try simp only [← inR_false] at *
     simp_all [TResponse.isv]
     try (intro hh; omega)
   ·
    replace h3 := of_decide_eq_false h3
    refine WL.skip (d := 25) Q0 Q0 Q0 Q0 ?_
    refine WL.skip (d := 25) Q0 Q0 Q0 Q0 ?_
    refine WL.skip (d := 25) Q0 Q0 Q0 Q0 ?_
    refine WL.p Q0 (Yl.pickF Q0 Q0) ?_
    refine Qm ?_
    refine WL.skip (d := 30) Q0 Q0 Q0 Q0 ?_
    refine WL.p Q0 (Yl.pickF Q0 Q0) ?_
    refine Qa ?_
    refine WL.next ?_
    refine WC.ret ?_
    refine fin1' rfl Q0 ?_
    refine RetP.mk hs ?_
    clear hs hb h_x
    try simp only [← inR_true] at *
    try simp only [← inR_false] at *
    simp_all [TResponse.isv]
    try (intro hh; omega)
  ·
   replace h2 := inR_false.1 h2
   refine WL.skip (d := 19) Q0 Q0 Q0 Q0 ?_
   refine WL.skip (d := 19) Q0 Q0 Q0 Q0 ?_
   refine WL.skip (d := 19) Q0 Q0 Q0 Q0 ?_
   refine WL.skip (d := 19) Q0 Q0 Q0 Q0 ?_
   refine WL.p Q0 (Yl.pickF Q0 Q0) ?_
   refine Qm ?_
   refine WL.skip (d := 25) Q0 Q0 Q0 Q0 ?_
   refine WL.skip (d := 25) Q0 Q0 Q0 Q0 ?_
   refine WL.skip (d := 25) Q0 Q0 Q0 Q0 ?_
   refine WL.p Q0 (Yl.pickF Q0 Q0) ?_
   refine Qm ?_
   refine WL.skip (d := 30) Q0 Q0 Q0 Q0 ?_
   refine WL.p Q0 (Yl.pickF Q0 Q0) ?_
   refine Qa ?_
   refine WL.next ?_
   refine WC.ret ?_
   refine fin1' rfl Q0 ?_
   refine RetP.mk hs ?_
   clear hs hb h_x
   try simp only [← inR_true] at *
   try simp only [← inR_false] at *
   simp_all [TResponse.isv]
   try (intro hh; omega)
 ·
  replace h1 := inR_false.1 h1
  refine WL.skip (d := 14) Q0 Q0 Q0 Q0 ?_
  refine WL.skip (d := 14) Q0 Q0 Q0 Q0 ?_
  refine WL.skip (d := 14) Q0 Q0 Q0 Q0 ?_
  refine WL.p Q0 (Yl.pickF Q0 Q0) ?_
  refine Qm ?_
  refine WL.skip (d := 19) Q0 Q0 Q0 Q0 ?_
  refine WL.skip (d := 19) Q0 Q0 Q0 Q0 ?_
  refine WL.skip (d := 19) Q0 Q0 Q0 Q0 ?_
  refine WL.skip (d := 19) Q0 Q0 Q0 Q0 ?_
  refine WL.p Q0 (Yl.pickF Q0 Q0) ?_
  refine Qm ?_
  refine WL.skip (d := 25) Q0 Q0 Q0 Q0 ?_
  refine WL.skip (d := 25) Q0 Q0 Q0 Q0 ?_
  refine WL.skip (d := 25) Q0 Q0 Q0 Q0 ?_
  refine WL.p Q0 (Yl.pickF Q0 Q0) ?_
  refine Qm ?_
  refine WL.skip (d := 30) Q0 Q0 Q0 Q0 ?_
  refine WL.p Q0 (Yl.pickF Q0 Q0) ?_
  refine Qa ?_
  refine WL.next ?_
  refine WC.ret ?_
  refine fin1' rfl Q0 ?_
  refine RetP.mk hs ?_
  clear hs hb h_x
  try simp only [← inR_true] at *
  try simp only [← inR_false] at *
  simp_all [TResponse.isv]
  try (intro hh; omega)

theorem c_spec_IsAddr (a : TAddr) (w : World) (h_a : Ph.ok w a)  : Calls Tryz.prog 64 [.agg #[S a.host, S a.path]].toArray w (RetP w (Bo (a.is))) := by
 refine enterN 11 Tryz.func64 rfl rfl rfl ?_
 have hs := Sat.start w
 refine WC.seq ?_
 refine WL.r Q0 (Yr.box hs Q0 Q0) ?_
 clear hs; rintro _ w ⟨b1, rfl, hb, hs⟩; clear hb
 refine Qa ?_
 refine WL.next ?_
 refine WC.seq ?_
 refine WL.p Q0 (Yl.fieldAddr fa45_0 Q0) ?_
 refine WL.p Q0 (Yl.loadB sca9 Q0 hs Q1 Q0) ?_
 refine WL.callp hs Q0 (Yc.func Q0 fn106) (c_spec_IsName _ _ (Ph.old h_a.host hs)) ?_
 clear hs; intro w hs
 refine Qm ?_
 refine WL.split (d := 6) Q0 (fun h1 => ?_) (fun h1 => ?_)
 ·
  refine WL.run (d := 6) Q0 Q0 ?_
  refine WL.p Q0 (Yl.fieldAddr fa45_1 Q0) ?_
  refine WL.run (d := 6) Q0 Q0 ?_
  refine WL.p Q0 (Yl.loadB sca9 Q0 hs Q1 Q0) ?_
  refine WL.run (d := 6) Q0 Q0 ?_
  refine WL.callp hs Q0 (Yc.func Q0 fn106) (c_spec_IsName _ _ (Ph.old h_a.path hs)) ?_
  clear hs; intro w hs
  refine WL.p Q0 (Yl.pickT Q0 Q0) ?_
  refine Qa ?_
  refine WL.next ?_
  refine WC.ret ?_
  refine fin1' rfl Q0 ?_
  refine RetP.mk hs ?_
  simp_all [TAddr.is]
 ·
  refine WL.skip (d := 6) Q0 Q0 Q0 Q0 ?_
  refine WL.skip (d := 6) Q0 Q0 Q0 Q0 ?_
  refine WL.skip (d := 6) Q0 Q0 Q0 Q0 ?_
  refine WL.p Q0 (Yl.pickF Q0 Q0) ?_
  refine Qa ?_
  refine WL.next ?_
  refine WC.ret ?_
  refine fin1' rfl Q0 ?_
  refine RetP.mk hs ?_
  simp_all [TAddr.is]

theorem c_spec_l13Find (c : PCache) (top : Str) (a : TAddr) (w : World) (h_c : Ph.ok w c)  : Calls Tryz.prog 155 [.agg #[Sl.v c.entries], S top, .agg #[S a.host, S a.path]].toArray w (RetP w (I (idxF (fun e : TEntry => decide (e.top = top) && decide (e.to = a)) c.entries.l 0))) := by
 have hw := h_c.entries.lt
 refine enterN 34 Tryz.func155 rfl rfl rfl ?_
 have hs := Sat.start w
 refine WC.seq ?_
 refine WL.r Q0 (Yr.box hs Q0 Q0) ?_
 clear hs; rintro _ w ⟨b1, rfl, hb, hs⟩; clear hb
 refine WL.r Q0 (Yr.box hs Q0 Q0) ?_
 clear hs; rintro _ w ⟨b2, rfl, hb, hs⟩; clear hb
 refine Qa ?_
 refine WL.next ?_
 refine WC.seq' ?_
 refine WC.seq ?_
 refine Qa ?_
 refine WL.next ?_
 refine WC.block ?_
 refine WC.loopC (ι := Nat) (fun k => c.entries.l.length - k) (fun k => [(7, I (k : Int))]) (fun _ => []) (fun k => idxF (fun e : TEntry => decide (e.top = top) && decide (e.to = a)) c.entries.l 0 = idxF (fun e : TEntry => decide (e.top = top) && decide (e.to = a)) (c.entries.l.drop k) k) [(0, _), (1, _), (2, _), (3, _), (5, _)] 0 (hs) ⟨by rfl, by rfl, by rfl, by rfl, by rfl, trivial⟩ ⟨by rfl, trivial⟩ ?_ ?_
 ·
  simp
 clear hs; rintro k w hJ hs
 simp only [List.nil_append] at hs
 refine WC.seq' ?_
 refine WC.seq ?_
 refine Qm ?_
 refine WL.p Q0 (Yl.fieldAddr fa36_0 Q0) ?_
 refine WL.p Q0 (Yl.loadB sca34 Q0 hs Q1 Q0) ?_
 refine WL.p Q0 (Yl.len_sl slu34 Q0) ?_
 refine WL.p Q0 (Yl.lss Q0 Q0) ?_
 refine WL.next ?_
 refine WC.condS Q0 (fun h1 => ?_) (fun h1 => ?_)
 ·
  replace h1 := of_decide_eq_true h1
  obtain ⟨d, hd⟩ := exists_get (l := c.entries.l) (k := k) Q7
  rw [drop_cons hd] at hJ
  refine WC.skipn ?_
  refine WC.seq' ?_
  refine WC.block ?_
  refine WC.quietn mixed Q6 hs ?_
  refine WQ.p Q0 (fun w hs => Yl.fieldAddr fa36_0 Q0) ?_
  refine WQ.p Q0 (fun w hs => Yl.loadB sca34 Q0 hs Q1 Q0) ?_
  refine WQ.p Q0 (fun w hs => Yl.move Q0) ?_
  refine WQ.p Q0 (fun w hs => Yl.indexAddr slt34 Q0 Q0 (Ph.old h_c.entries hs) Q0 (hd)) ?_
  refine WQ.p Q0 (fun w hs => Yl.fieldAddr fa180_0 Q0) ?_
  refine WQ.p Q0 (fun w hs => Yl.loadC sca9 Q0 (Sl.Ok.at_ (Ph.old h_c.entries hs) (by assumption)).2 Q0) ?_
  refine WQ.p Q0 (fun w hs => Yl.move Q0) ?_
  refine WQ.p Q0 (fun w hs => Yl.eqs Q0 Q0) ?_
  refine WQ.p Q0 (fun w hs => Yl.move Q0) ?_
  refine WQ.split (d := 23) Q0 (fun h2 => ?_) (fun h2 => ?_)
  ·
   replace h2 := of_decide_eq_true h2
   refine WQ.run (d := 23) Q0 Q0 ?_
   refine WQ.p Q0 (fun w hs => Yl.fieldAddr fa36_0 Q0) ?_
   refine WQ.run (d := 23) Q0 Q0 ?_
   refine WQ.p Q0 (fun w hs => Yl.loadB sca34 Q0 hs Q1 Q0) ?_
   refine WQ.run (d := 23) Q0 Q0 ?_
   refine WQ.p Q0 (fun w hs => Yl.move Q0) ?_
   refine WQ.run (d := 23) Q0 Q0 ?_
   refine WQ.p Q0 (fun w hs => Yl.indexAddr slt34 Q0 Q0 (Ph.old h_c.entries hs) Q0 (hd)) ?_
   refine WQ.run (d := 23) Q0 Q0 ?_
   refine WQ.p Q0 (fun w hs => Yl.fieldAddr fa180_1 Q0) ?_
   refine WQ.run (d := 23) Q0 Q0 ?_
   refine WQ.p Q0 (fun w hs => Yl.loadAC agg45 Q0 (Sl.Ok.at_ (Ph.old h_c.entries hs) (by assumption)).2 Q0 Q0) ?_
   refine WQ.run (d := 23) Q0 Q0 ?_
   refine WQ.p Q0 (fun w hs => Yl.loadAB agg45 Q0 hs Q1 Q0 Q0) ?_
   refine WQ.run (d := 23) Q0 Q0 ?_
   refine WQ.p Q0 (fun w hs => Yl.eqt eqt45 Q0 Q0) ?_
   refine WQ.p Q0 (fun w hs => Yl.pickT Q0 Q0) ?_
   refine WQ.next ?_
   clear hs; intro w hs
   refine WC.condS Q0 (fun h3 => ?_) (fun h3 => ?_)
   ·
    replace h3 := of_decide_eq_true h3
    refine WC.seq ?_
    refine Qm ?_
    refine Qa ?_
    refine WL.next ?_
    refine WC.ret ?_
    refine At.blockret ?_
    refine At.thenret ?_
    refine At.thenret ?_
    refine At.blockret ?_
    refine At.thenret ?_
    refine fin1' rfl Q0 ?_
    refine RetP.mk hs ?_
    rw [hJ]; simp_all [idxF]
   ·
    replace h3 := of_decide_eq_false h3
    refine WC.skip ?_
    refine At.blocknormal ?_
    refine At.then_ ?_
    refine WC.region ?_
    refine Qm ?_
    refine WL.p Q0 (Yl.add Q0 Q0 Q7) ?_
    refine Qa ?_
    refine WL.nil ?_
    refine At.roundC (k + 1) (hs.only Q2) ⟨by rfl, by rfl, by rfl, by rfl, by rfl, trivial⟩ ⟨by rfl, trivial⟩ ?_ ?_
    ·
     omega
    ·
     rw [hJ]; simp_all [idxF]
  ·
   replace h2 := of_decide_eq_false h2
   refine WQ.skip (d := 23) Q0 Q0 Q0 Q0 ?_
   refine WQ.skip (d := 23) Q0 Q0 Q0 Q0 ?_
   refine WQ.skip (d := 23) Q0 Q0 Q0 Q0 ?_
   refine WQ.skip (d := 23) Q0 Q0 Q0 Q0 ?_
   refine WQ.skip (d := 23) Q0 Q0 Q0 Q0 ?_
   refine WQ.skip (d := 23) Q0 Q0 Q0 Q0 ?_
   refine WQ.skip (d := 23) Q0 Q0 Q0 Q0 ?_
   refine WQ.skip (d := 23) Q0 Q0 Q0 Q0 ?_
   refine WQ.p Q0 (fun w hs => Yl.pickF Q0 Q0) ?_
   refine WQ.next ?_
   clear hs; intro w hs
   refine WC.condF Q0 ?_
   refine WC.skip ?_
   refine At.blocknormal ?_
   refine At.then_ ?_
   refine WC.region ?_
   refine Qm ?_
   refine WL.p Q0 (Yl.add Q0 Q0 Q7) ?_
   refine Qa ?_
   refine WL.nil ?_
   refine At.roundC (k + 1) (hs.only Q2) ⟨by rfl, by rfl, by rfl, by rfl, by rfl, trivial⟩ ⟨by rfl, trivial⟩ ?_ ?_
   ·
    omega
   ·
    rw [hJ]; simp_all [idxF]
 ·
  replace h1 := of_decide_eq_false h1
  rw [drop_out (l := c.entries.l) Q7] at hJ
  refine WC.exit ?_
  refine At.thenexit ?_
  refine At.thenexit ?_
  refine At.blockexit ?_
  refine At.then_ ?_
  refine WC.seq ?_
  refine Qa ?_
  refine WL.next ?_
  refine WC.ret ?_
  refine fin1' rfl Q0 ?_
  refine RetP.mk hs ?_
  rw [hJ]; simp_all [idxF]

theorem c_spec_IsCache (c : PCache) (w : World) (h_c : Ph.ok w c) (hp : ∀ e ∈ c.entries.l, e.response.policy.length ≤ 1048576) : Calls Tryz.prog 86 [.agg #[Sl.v c.entries]].toArray w (RetP w (Bo (cacheOk c.lg))) := by
 have hw := h_c.entries.lt
 refine enterN 53 Tryz.func86 rfl rfl rfl ?_
 have hs := Sat.start w
 refine WC.seq ?_
 refine WL.r Q0 (Yr.box hs Q0 Q0) ?_
 clear hs; rintro _ w ⟨b1, rfl, hb, hs⟩; clear hb
 refine Qa ?_
 refine WL.next ?_
 refine WC.seq' ?_
 refine WC.seq ?_
 refine Qa ?_
 refine WL.next ?_
 refine WC.block ?_
 refine WC.loopC (ι := Nat) (fun k => c.entries.l.length - k) (fun k => [(3, I (k : Int))]) (fun _ => []) (fun k => uniqF entryOk sameEntry [] c.entries.l = uniqF entryOk sameEntry (c.entries.l.take k) (c.entries.l.drop k)) [(0, _), (1, _)] 0 (hs) ⟨by rfl, by rfl, trivial⟩ ⟨by rfl, trivial⟩ ?_ ?_
 ·
  simp
 clear hs; rintro k w hJ hs
 simp only [List.nil_append] at hs
 refine WC.seq' ?_
 refine WC.seq ?_
 refine Qm ?_
 refine WL.p Q0 (Yl.fieldAddr fa36_0 Q0) ?_
 refine WL.p Q0 (Yl.loadB sca34 Q0 hs Q1 Q0) ?_
 refine WL.p Q0 (Yl.len_sl slu34 Q0) ?_
 refine WL.p Q0 (Yl.lss Q0 Q0) ?_
 refine WL.next ?_
 refine WC.condS Q0 (fun h1 => ?_) (fun h1 => ?_)
 ·
  replace h1 := of_decide_eq_true h1
  obtain ⟨d, hd⟩ := exists_get (l := c.entries.l) (k := k) Q7
  rw [uniq_step hd] at hJ
  have hpd : d.response.policy.length ≤ 1048576 := hp d (List.mem_of_getElem? hd)
  have hix := idx_first0 (p := fun e : TEntry => decide (e.top = d.top) && decide (e.to = d.to)) hd (by simp)
  replace hix : _ ↔ (c.entries.l.take k).any (sameEntry d) = false := hix
  generalize (c.entries.l.take k).any (sameEntry d) = u at hJ hix
  refine WC.skipn ?_
  refine WC.seq' ?_
  refine WC.block ?_
  refine WC.seq ?_
  refine WL.p Q0 (Yl.fieldAddr fa36_0 Q0) ?_
  refine WL.p Q0 (Yl.loadB sca34 Q0 hs Q1 Q0) ?_
  refine Qm ?_
  refine WL.p Q0 (Yl.indexAddr slt34 Q0 Q0 (Ph.old h_c.entries hs) Q0 (hd)) ?_
  refine WL.p Q0 (Yl.loadA agg180 Q0 (Sl.Ok.at_ (Ph.old h_c.entries hs) (by assumption)).2 Q0) ?_
  refine WL.r Q0 (Yr.alloc hs zt180) ?_
  clear hs; rintro _ w ⟨b2, rfl, hb, hs⟩; clear hb
  refine WL.s (Yr.storeB hs Q0 Q0 Q0 Q5 Q3 Q0 (by exact szf180)) ?_
  clear hs; rintro _ w hs
  refine WL.next ?_
  refine WC.seq ?_
  refine WL.p Q0 (Yl.fieldAddr fa180_0 Q0) ?_
  refine WL.p Q0 (Yl.loadB sca9 Q0 hs Q1 Q0) ?_
  refine WL.callp hs Q0 (Yc.func Q0 fn106) (c_spec_IsName _ _ (Ph.old (Sl.Ok.elem h_c.entries hd).top hs)) ?_
  clear hs; intro w hs
  refine WL.p Q0 (Yl.not Q0) ?_
  refine Qm ?_
  refine WL.split (d := 21) Q0 (fun h2 => ?_) (fun h2 => ?_)
  ·
   replace h2 := not_eq_true h2
   refine WL.skip (d := 21) Q0 Q0 Q0 Q0 ?_
   refine WL.skip (d := 21) Q0 Q0 Q0 Q0 ?_
   refine WL.skip (d := 21) Q0 Q0 Q0 Q0 ?_
   refine WL.skip (d := 21) Q0 Q0 Q0 Q0 ?_
   refine WL.p Q0 (Yl.pickT Q0 Q0) ?_
   refine Qm ?_
   refine WL.skip (d := 27) Q0 Q0 Q0 Q0 ?_
   refine WL.skip (d := 27) Q0 Q0 Q0 Q0 ?_
   refine WL.skip (d := 27) Q0 Q0 Q0 Q0 ?_
   refine WL.skip (d := 27) Q0 Q0 Q0 Q0 ?_
   refine WL.p Q0 (Yl.pickT Q0 Q0) ?_
   refine Qm ?_
   refine WL.skip (d := 33) Q0 Q0 Q0 Q0 ?_
   refine WL.skip (d := 33) Q0 Q0 Q0 Q0 ?_
   refine WL.skip (d := 33) Q0 Q0 Q0 Q0 ?_
   refine WL.skip (d := 33) Q0 Q0 Q0 Q0 ?_
   refine WL.p Q0 (Yl.pickT Q0 Q0) ?_
   refine Qm ?_
   refine WL.skip (d := 39) Q0 Q0 Q0 Q0 ?_
   refine WL.skip (d := 39) Q0 Q0 Q0 Q0 ?_
   refine WL.skip (d := 39) Q0 Q0 Q0 Q0 ?_
   refine WL.skip (d := 39) Q0 Q0 Q0 Q0 ?_
   refine WL.skip (d := 39) Q0 Q0 Q0 Q0 ?_
   refine WL.skip (d := 39) Q0 Q0 Q0 Q0 ?_
   refine WL.skip (d := 39) Q0 Q0 Q0 Q0 ?_
   refine WL.skip (d := 39) Q0 Q0 Q0 Q0 ?_
   refine WL.p Q0 (Yl.pickT Q0 Q0) ?_
   refine WL.next ?_
   refine WC.condT Q0 ?_
   refine WC.seq ?_
   refine Qa ?_
   refine WL.next ?_
   refine WC.ret ?_
   refine At.blockret ?_
   refine At.thenret ?_
   refine At.thenret ?_
   refine At.blockret ?_
   refine At.thenret ?_
   refine fin1' rfl Q0 ?_
   refine RetP.mk hs ?_
   simp only [cacheOk]
   simp_all [entryOk]
   try omega
  ·
   replace h2 := not_eq_false h2
   refine WL.run (d := 21) Q0 Q0 ?_
   refine WL.p Q0 (Yl.fieldAddr fa180_1 Q0) ?_
   refine WL.run (d := 21) Q0 Q0 ?_
   refine WL.p Q0 (Yl.loadAB agg45 Q0 hs Q1 Q0 Q0) ?_
   refine WL.run (d := 21) Q0 Q0 ?_
   refine WL.callp hs Q0 (Yc.func Q0 fn64) (c_spec_IsAddr _ _ ⟨(Ph.old (Sl.Ok.elem h_c.entries hd).to.host hs), (Ph.old (Sl.Ok.elem h_c.entries hd).to.path hs)⟩) ?_
   clear hs; intro w hs
   refine WL.run (d := 21) Q0 Q0 ?_
   refine WL.p Q0 (Yl.not Q0) ?_
   refine WL.p Q0 (Yl.pickF Q0 Q0) ?_
   refine Qm ?_
   refine WL.split (d := 27) Q0 (fun h3 => ?_) (fun h3 => ?_)
   ·
    replace h3 := not_eq_true h3
    refine WL.skip (d := 27) Q0 Q0 Q0 Q0 ?_
    refine WL.skip (d := 27) Q0 Q0 Q0 Q0 ?_
    refine WL.skip (d := 27) Q0 Q0 Q0 Q0 ?_
    refine WL.skip (d := 27) Q0 Q0 Q0 Q0 ?_
    refine WL.p Q0 (Yl.pickT Q0 Q0) ?_
    refine Qm ?_
    refine WL.skip (d := 33) Q0 Q0 Q0 Q0 ?_
    refine WL.skip (d := 33) Q0 Q0 Q0 Q0 ?_
    refine WL.skip (d := 33) Q0 Q0 Q0 Q0 ?_
    refine WL.skip (d := 33) Q0 Q0 Q0 Q0 ?_
    refine WL.p Q0 (Yl.pickT Q0 Q0) ?_
    refine Qm ?_
    refine WL.skip (d := 39) Q0 Q0 Q0 Q0 ?_
    refine WL.skip (d := 39) Q0 Q0 Q0 Q0 ?_
    refine WL.skip (d := 39) Q0 Q0 Q0 Q0 ?_
    refine WL.skip (d := 39) Q0 Q0 Q0 Q0 ?_
    refine WL.skip (d := 39) Q0 Q0 Q0 Q0 ?_
    refine WL.skip (d := 39) Q0 Q0 Q0 Q0 ?_
    refine WL.skip (d := 39) Q0 Q0 Q0 Q0 ?_
    refine WL.skip (d := 39) Q0 Q0 Q0 Q0 ?_
    refine WL.p Q0 (Yl.pickT Q0 Q0) ?_
    refine WL.next ?_
    refine WC.condT Q0 ?_
    refine WC.seq ?_
    refine Qa ?_
    refine WL.next ?_
    refine WC.ret ?_
    refine At.blockret ?_
    refine At.thenret ?_
    refine At.thenret ?_
    refine At.blockret ?_
    refine At.thenret ?_
    refine fin1' rfl Q0 ?_
    refine RetP.mk hs ?_
    simp only [cacheOk]
    simp_all [entryOk]
    try omega
   ·
    replace h3 := not_eq_false h3
    refine WL.run (d := 27) Q0 Q0 ?_
    refine WL.p Q0 (Yl.fieldAddr fa180_2 Q0) ?_
    refine WL.run (d := 27) Q0 Q0 ?_
    refine WL.p Q0 (Yl.loadAB agg41 Q0 hs Q1 Q0 Q0) ?_
    refine WL.run (d := 27) Q0 Q0 ?_
    refine WL.callp hs Q0 (Yc.func Q0 fn93) (c_spec_IsResponse _ _ ⟨(Ph.old (Sl.Ok.elem h_c.entries hd).response.status hs), (Ph.old (Sl.Ok.elem h_c.entries hd).response.kind hs), (Ph.old (Sl.Ok.elem h_c.entries hd).response.body hs), (Ph.old (Sl.Ok.elem h_c.entries hd).response.age hs), (Ph.old (Sl.Ok.elem h_c.entries hd).response.shares hs), (Ph.old (Sl.Ok.elem h_c.entries hd).response.policy hs)⟩ (by first | assumption | omega)) ?_
    clear hs; intro w hs
    refine WL.run (d := 27) Q0 Q0 ?_
    refine WL.p Q0 (Yl.not Q0) ?_
    refine WL.p Q0 (Yl.pickF Q0 Q0) ?_
    refine Qm ?_
    refine WL.split (d := 33) Q0 (fun h4 => ?_) (fun h4 => ?_)
    ·
     replace h4 := not_eq_true h4
     refine WL.skip (d := 33) Q0 Q0 Q0 Q0 ?_
     refine WL.skip (d := 33) Q0 Q0 Q0 Q0 ?_
     refine WL.skip (d := 33) Q0 Q0 Q0 Q0 ?_
     refine WL.skip (d := 33) Q0 Q0 Q0 Q0 ?_
     refine WL.p Q0 (Yl.pickT Q0 Q0) ?_
     refine Qm ?_
     refine WL.skip (d := 39) Q0 Q0 Q0 Q0 ?_
     refine WL.skip (d := 39) Q0 Q0 Q0 Q0 ?_
     refine WL.skip (d := 39) Q0 Q0 Q0 Q0 ?_
     refine WL.skip (d := 39) Q0 Q0 Q0 Q0 ?_
     refine WL.skip (d := 39) Q0 Q0 Q0 Q0 ?_
     refine WL.skip (d := 39) Q0 Q0 Q0 Q0 ?_
     refine WL.skip (d := 39) Q0 Q0 Q0 Q0 ?_
     refine WL.skip (d := 39) Q0 Q0 Q0 Q0 ?_
     refine WL.p Q0 (Yl.pickT Q0 Q0) ?_
     refine WL.next ?_
     refine WC.condT Q0 ?_
     refine WC.seq ?_
     refine Qa ?_
     refine WL.next ?_
     refine WC.ret ?_
     refine At.blockret ?_
     refine At.thenret ?_
     refine At.thenret ?_
     refine At.blockret ?_
     refine At.thenret ?_
     refine fin1' rfl Q0 ?_
     refine RetP.mk hs ?_
     simp only [cacheOk]
     simp_all [entryOk]
     try omega
    ·
     replace h4 := not_eq_false h4
     refine WL.run (d := 33) Q0 Q0 ?_
     refine WL.p Q0 (Yl.fieldAddr fa180_2 Q0) ?_
     refine WL.run (d := 33) Q0 Q0 ?_
     refine WL.p Q0 (Yl.fieldAddr fa41_0 Q0) ?_
     refine WL.run (d := 33) Q0 Q0 ?_
     refine WL.p Q0 (Yl.loadB sca3 Q0 hs Q1 Q0) ?_
     refine WL.run (d := 33) Q0 Q0 ?_
     refine WL.p Q0 (Yl.nei Q0 Q0) ?_
     refine WL.p Q0 (Yl.pickF Q0 Q0) ?_
     refine Qm ?_
     refine WL.split (d := 39) Q0 (fun h5 => ?_) (fun h5 => ?_)
     ·
      replace h5 := not_eq_true h5
      replace h5 := of_decide_eq_false h5
      refine WL.skip (d := 39) Q0 Q0 Q0 Q0 ?_
      refine WL.skip (d := 39) Q0 Q0 Q0 Q0 ?_
      refine WL.skip (d := 39) Q0 Q0 Q0 Q0 ?_
      refine WL.skip (d := 39) Q0 Q0 Q0 Q0 ?_
      refine WL.skip (d := 39) Q0 Q0 Q0 Q0 ?_
      refine WL.skip (d := 39) Q0 Q0 Q0 Q0 ?_
      refine WL.skip (d := 39) Q0 Q0 Q0 Q0 ?_
      refine WL.skip (d := 39) Q0 Q0 Q0 Q0 ?_
      refine WL.p Q0 (Yl.pickT Q0 Q0) ?_
      refine WL.next ?_
      refine WC.condT Q0 ?_
      refine WC.seq ?_
      refine Qa ?_
      refine WL.next ?_
      refine WC.ret ?_
      refine At.blockret ?_
      refine At.thenret ?_
      refine At.thenret ?_
      refine At.blockret ?_
      refine At.thenret ?_
      refine fin1' rfl Q0 ?_
      refine RetP.mk hs ?_
      simp only [cacheOk]
      simp_all [entryOk]
      try omega
     ·
      replace h5 := not_eq_false h5
      replace h5 := of_decide_eq_true h5
      refine WL.run (d := 39) Q0 Q0 ?_
      refine WL.p Q0 (Yl.loadAB agg36 Q0 hs Q1 Q0 Q0) ?_
      refine WL.run (d := 39) Q0 Q0 ?_
      refine WL.p Q0 (Yl.fieldAddr fa180_0 Q0) ?_
      refine WL.run (d := 39) Q0 Q0 ?_
      refine WL.p Q0 (Yl.loadB sca9 Q0 hs Q1 Q0) ?_
      refine WL.run (d := 39) Q0 Q0 ?_
      refine WL.p Q0 (Yl.fieldAddr fa180_1 Q0) ?_
      refine WL.run (d := 39) Q0 Q0 ?_
      refine WL.p Q0 (Yl.loadAB agg45 Q0 hs Q1 Q0 Q0) ?_
      refine WL.run (d := 39) Q0 Q0 ?_
      refine WL.callp hs Q0 (Yc.func Q0 fn155) (c_spec_l13Find _ _ _ _ (Ph.old h_c hs)) ?_
      clear hs; intro w hs
      refine WL.run (d := 39) Q0 Q0 ?_
      refine Qm ?_
      refine WL.run (d := 39) Q0 Q0 ?_
      refine WL.p Q0 (Yl.nei Q0 Q0) ?_
      refine WL.p Q0 (Yl.pickF Q0 Q0) ?_
      refine WL.next ?_
      refine WC.condS Q0 (fun h6 => ?_) (fun h6 => ?_)
      ·
       replace h6 := not_eq_true h6
       replace h6 := of_decide_eq_false h6
       refine WC.seq ?_
       refine Qa ?_
       refine WL.next ?_
       refine WC.ret ?_
       refine At.blockret ?_
       refine At.thenret ?_
       refine At.thenret ?_
       refine At.blockret ?_
       refine At.thenret ?_
       refine fin1' rfl Q0 ?_
       refine RetP.mk hs ?_
       simp only [cacheOk]
       simp_all [entryOk]
       try omega
      ·
       replace h6 := not_eq_false h6
       replace h6 := of_decide_eq_true h6
       refine WC.skip ?_
       refine At.blocknormal ?_
       refine At.then_ ?_
       refine WC.region ?_
       refine Qm ?_
       refine WL.p Q0 (Yl.add Q0 Q0 Q7) ?_
       refine Qa ?_
       refine WL.nil ?_
       refine At.roundC (k + 1) (hs.only Q2) ⟨by rfl, by rfl, trivial⟩ ⟨by rfl, trivial⟩ ?_ ?_
       ·
        omega
       ·
        rw [hJ]; simp_all [entryOk]
 ·
  replace h1 := of_decide_eq_false h1
  rw [uniq_end (l := c.entries.l) Q7] at hJ
  refine WC.exit ?_
  refine At.thenexit ?_
  refine At.thenexit ?_
  refine At.blockexit ?_
  refine At.then_ ?_
  refine WC.seq ?_
  refine WL.p Q0 (Yl.fieldAddr fa36_0 Q0) ?_
  refine WL.p Q0 (Yl.loadB sca34 Q0 hs Q1 Q0) ?_
  refine WL.p Q0 (Yl.len_sl slu34 Q0) ?_
  refine WL.p Q0 (Yl.leq Q0 Q0) ?_
  refine Qa ?_
  refine WL.next ?_
  refine WC.ret ?_
  refine fin1' rfl Q0 ?_
  refine RetP.mk hs ?_
  simp only [cacheOk]
  simp_all [entryOk]
  try omega

theorem c_spec_StoreEntry (c : PCache) (top : Str) (a : TAddr) (y : TResponse) (now : Int) (w : World) (h_c : Ph.ok w c) (h_top : Ph.ok w top) (h_a : Ph.ok w a) (h_y : Ph.ok w y) (h_now : Ph.ok w now) (hbc : c.lg.size ≤ 1048576) (hpy : y.policy.length ≤ 1048576) : Calls Tryz.prog 129 [.agg #[Sl.v c.entries], S top, .agg #[S a.host, S a.path], .agg #[I y.status, I y.kind, S y.body, I y.age, Bo y.shares, S y.policy], I now].toArray w (Ret w (fun v w' => ∃ x : PCache, v = .agg (Ph.enc x).toArray ∧ x.lg = storeEntry c.lg top a y now ∧ Fresh w x w')) := by
 refine enterN 66 Tryz.func129 rfl rfl rfl ?_
 have hs := Sat.start w
 refine WC.seq ?_
 refine WL.r Q0 (Yr.box hs Q0 Q0) ?_
 clear hs; rintro _ w ⟨b1, rfl, hb, hs⟩; clear hb
 refine WL.r Q0 (Yr.box hs Q0 Q0) ?_
 clear hs; rintro _ w ⟨b2, rfl, hb, hs⟩; clear hb
 refine WL.r Q0 (Yr.box hs Q0 Q0) ?_
 clear hs; rintro _ w ⟨b3, rfl, hb, hs⟩; clear hb
 refine WL.r Q0 (Yr.alloc hs zt36) ?_
 clear hs; rintro _ w ⟨b4, rfl, hb, hs⟩; clear hb
 refine WL.next ?_
 refine WC.seq ?_
 refine WL.p Q0 (Yl.loadAB agg36 Q0 hs Q1 Q0 Q0) ?_
 refine WL.call hs Q0 (Yc.func Q0 fn135) (c_spec_l13Copy _ _ (Ph.old h_c hs) Q10) ?_
 have hs0 := hs; clear hs; intro v w hb hR hs; clear hs
 obtain ⟨x5, rfl, hx5, hf5⟩ := hR
 obtain ⟨F5, hs⟩ := hf5.sat hs0 hb; clear hs0 hf5
 refine WL.r Q0 (Yr.alloc hs zt36) ?_
 clear hs; rintro _ w ⟨b6, rfl, hb, hs⟩; clear hb
 refine WL.s (Yr.storeB hs Q0 Q0 Q0 Q5 Q3 Q0 (by exact szf36)) ?_
 clear hs; rintro _ w hs
 refine WL.next ?_
 refine WC.seq' ?_
 refine WC.seq ?_
 refine WL.p Q0 (Yl.fieldAddr fa41_3 Q0) ?_
 refine WL.p Q0 (Yl.loadB sca3 Q0 hs Q1 Q0) ?_
 refine WL.p Q0 (Yl.eqi Q0 Q0) ?_
 refine Qm ?_
 refine WL.split (d := 19) Q0 (fun h1 => ?_) (fun h1 => ?_)
 ·
  replace h1 := of_decide_eq_true h1
  refine WL.skip (d := 19) Q0 Q0 Q0 Q0 ?_
  refine WL.skip (d := 19) Q0 Q0 Q0 Q0 ?_
  refine WL.skip (d := 19) Q0 Q0 Q0 Q0 ?_
  refine WL.p Q0 (Yl.pickT Q0 Q0) ?_
  refine Qm ?_
  refine WL.skip (d := 24) Q0 Q0 Q0 Q0 ?_
  refine WL.skip (d := 24) Q0 Q0 Q0 Q0 ?_
  refine WL.skip (d := 24) Q0 Q0 Q0 Q0 ?_
  refine WL.p Q0 (Yl.pickT Q0 Q0) ?_
  refine Qm ?_
  refine WL.skip (d := 29) Q0 Q0 Q0 Q0 ?_
  refine WL.skip (d := 29) Q0 Q0 Q0 Q0 ?_
  refine WL.skip (d := 29) Q0 Q0 Q0 Q0 ?_
  refine WL.p Q0 (Yl.pickT Q0 Q0) ?_
  refine WL.next ?_
  refine WC.condT Q0 ?_
  refine WC.seq ?_
  refine WL.p Q0 (Yl.loadAB agg36 Q0 hs Q1 Q0 Q0) ?_
  refine WL.s (Yr.storeB hs Q0 Q0 Q0 Q5 Q3 Q0 (by exact szf36)) ?_
  clear hs; rintro _ w hs
  refine WL.next ?_
  refine WC.ret ?_
  refine At.thenret ?_
  refine fin1c rfl agg36 Q0 hs Q1 Q0 ?_
  refine Ret.mk hs ?_
  try rw [hpe] at h1
  have hb9 : storeIs c.lg top a y now = false := by
   clear hs
   cases h9 : storeIs c.lg top a y now with
   | false => rfl
   | true =>
    exfalso
    have h8 := storeIs_isv h9
    try simp only [← inR_true] at *
    try simp only [← inR_false] at *
    simp_all [storeIs]
  exact ⟨x5, rfl, hx5.trans (storeEntry_no hb9).symm, hs.fresh Q1⟩
 ·
  replace h1 := of_decide_eq_false h1
  refine WL.run (d := 19) Q0 Q0 ?_
  refine Qm ?_
  refine WL.run (d := 19) Q0 Q0 ?_
  refine WL.callp hs Q0 (Yc.func Q0 fn87) (c_spec_l1In _ _ _ _) ?_
  clear hs; intro w hs
  refine WL.run (d := 19) Q0 Q0 ?_
  refine WL.p Q0 (Yl.not Q0) ?_
  refine WL.p Q0 (Yl.pickF Q0 Q0) ?_
  refine Qm ?_
  refine WL.split (d := 24) Q0 (fun h2 => ?_) (fun h2 => ?_)
  ·
   replace h2 := not_eq_true h2
   replace h2 := inR_false.1 h2
   refine WL.skip (d := 24) Q0 Q0 Q0 Q0 ?_
   refine WL.skip (d := 24) Q0 Q0 Q0 Q0 ?_
   refine WL.skip (d := 24) Q0 Q0 Q0 Q0 ?_
   refine WL.p Q0 (Yl.pickT Q0 Q0) ?_
   refine Qm ?_
   refine WL.skip (d := 29) Q0 Q0 Q0 Q0 ?_
   refine WL.skip (d := 29) Q0 Q0 Q0 Q0 ?_
   refine WL.skip (d := 29) Q0 Q0 Q0 Q0 ?_
   refine WL.p Q0 (Yl.pickT Q0 Q0) ?_
   refine WL.next ?_
   refine WC.condT Q0 ?_
   refine WC.seq ?_
   refine WL.p Q0 (Yl.loadAB agg36 Q0 hs Q1 Q0 Q0) ?_
   refine WL.s (Yr.storeB hs Q0 Q0 Q0 Q5 Q3 Q0 (by exact szf36)) ?_
   clear hs; rintro _ w hs
   refine WL.next ?_
   refine WC.ret ?_
   refine At.thenret ?_
   refine fin1c rfl agg36 Q0 hs Q1 Q0 ?_
   refine Ret.mk hs ?_
   try rw [hpe] at h2
   have hb9 : storeIs c.lg top a y now = false := by
    clear hs
    cases h9 : storeIs c.lg top a y now with
    | false => rfl
    | true =>
     exfalso
     have h8 := storeIs_isv h9
     try simp only [← inR_true] at *
     try simp only [← inR_false] at *
     simp_all [storeIs]
   exact ⟨x5, rfl, hx5.trans (storeEntry_no hb9).symm, hs.fresh Q1⟩
  ·
   replace h2 := not_eq_false h2
   replace h2 := inR_true.1 h2
   refine WL.run (d := 24) Q0 Q0 ?_
   refine WL.p Q0 (Yl.loadAB agg41 Q0 hs Q1 Q0 Q0) ?_
   refine WL.run (d := 24) Q0 Q0 ?_
   refine WL.callp hs Q0 (Yc.func Q0 fn93) (c_spec_IsResponse _ _ (Ph.old h_y hs) Q10) ?_
   clear hs; intro w hs
   refine WL.run (d := 24) Q0 Q0 ?_
   refine WL.p Q0 (Yl.not Q0) ?_
   refine WL.p Q0 (Yl.pickF Q0 Q0) ?_
   refine Qm ?_
   refine WL.split (d := 29) Q0 (fun h3 => ?_) (fun h3 => ?_)
   ·
    replace h3 := not_eq_true h3
    refine WL.skip (d := 29) Q0 Q0 Q0 Q0 ?_
    refine WL.skip (d := 29) Q0 Q0 Q0 Q0 ?_
    refine WL.skip (d := 29) Q0 Q0 Q0 Q0 ?_
    refine WL.p Q0 (Yl.pickT Q0 Q0) ?_
    refine WL.next ?_
    refine WC.condT Q0 ?_
    refine WC.seq ?_
    refine WL.p Q0 (Yl.loadAB agg36 Q0 hs Q1 Q0 Q0) ?_
    refine WL.s (Yr.storeB hs Q0 Q0 Q0 Q5 Q3 Q0 (by exact szf36)) ?_
    clear hs; rintro _ w hs
    refine WL.next ?_
    refine WC.ret ?_
    refine At.thenret ?_
    refine fin1c rfl agg36 Q0 hs Q1 Q0 ?_
    refine Ret.mk hs ?_
    try rw [hpe] at h3
    have hb9 : storeIs c.lg top a y now = false := by
     clear hs
     cases h9 : storeIs c.lg top a y now with
     | false => rfl
     | true =>
      exfalso
      have h8 := storeIs_isv h9
      try simp only [← inR_true] at *
      try simp only [← inR_false] at *
      simp_all [storeIs]
    exact ⟨x5, rfl, hx5.trans (storeEntry_no hb9).symm, hs.fresh Q1⟩
   ·
    replace h3 := not_eq_false h3
    refine WL.run (d := 29) Q0 Q0 ?_
    refine WL.p Q0 (Yl.loadAB agg36 Q0 hs Q1 Q0 Q0) ?_
    refine WL.run (d := 29) Q0 Q0 ?_
    refine WL.callp hs Q0 (Yc.func Q0 fn86) (c_spec_IsCache _ _ (Ph.old h_c hs) (by exact cache_pol hbc)) ?_
    clear hs; intro w hs
    refine WL.run (d := 29) Q0 Q0 ?_
    refine WL.p Q0 (Yl.not Q0) ?_
    refine WL.p Q0 (Yl.pickF Q0 Q0) ?_
    refine WL.next ?_
    refine WC.condS Q0 (fun h4 => ?_) (fun h4 => ?_)
    ·
     replace h4 := not_eq_true h4
     refine WC.seq ?_
     refine WL.p Q0 (Yl.loadAB agg36 Q0 hs Q1 Q0 Q0) ?_
     refine WL.s (Yr.storeB hs Q0 Q0 Q0 Q5 Q3 Q0 (by exact szf36)) ?_
     clear hs; rintro _ w hs
     refine WL.next ?_
     refine WC.ret ?_
     refine At.thenret ?_
     refine fin1c rfl agg36 Q0 hs Q1 Q0 ?_
     refine Ret.mk hs ?_
     try rw [hpe] at h4
     have hb9 : storeIs c.lg top a y now = false := by
      clear hs
      cases h9 : storeIs c.lg top a y now with
      | false => rfl
      | true =>
       exfalso
       have h8 := storeIs_isv h9
       try simp only [← inR_true] at *
       try simp only [← inR_false] at *
       simp_all [storeIs]
     exact ⟨x5, rfl, hx5.trans (storeEntry_no hb9).symm, hs.fresh Q1⟩
    ·
     replace h4 := not_eq_false h4
     refine WC.skipn ?_
     refine WC.seq ?_
     refine Qm ?_
     refine WL.p Q0 (Yl.loadAB agg45 Q0 hs Q1 Q0 Q0) ?_
     refine WL.p Q0 (Yl.loadAB agg41 Q0 hs Q1 Q0 Q0) ?_
     refine Qm ?_
     refine WL.p Q0 (Yl.fieldAddr fa41_3 Q0) ?_
     refine WL.p Q0 (Yl.loadB sca3 Q0 hs Q1 Q0) ?_
     refine WL.p Q0 (Yl.add Q0 Q0 (by have := h_y.age.1; have := h_y.age.2; simp only [TResponse.isv, Bool.and_eq_true, inR_true] at h3; omega)) ?_
     refine WL.p Q0 (Yl.build bt180 Q0 Q4) ?_
     refine WL.r Q0 (Yr.alloc hs zt180) ?_
     clear hs; rintro _ w ⟨b7, rfl, hb, hs⟩; clear hb
     refine WL.s (Yr.storeB hs Q0 Q0 Q0 Q5 Q3 Q0 (by exact szf180)) ?_
     clear hs; rintro _ w hs
     refine WL.next ?_
     refine WC.seq' ?_
     refine WC.seq ?_
     refine WL.p Q0 (Yl.loadAB agg36 Q0 hs Q1 Q0 Q0) ?_
     refine Qm ?_
     refine WL.p Q0 (Yl.loadAB agg45 Q0 hs Q1 Q0 Q0) ?_
     refine WL.callp hs Q0 (Yc.func Q0 fn155) (c_spec_l13Find _ _ _ _ (Ph.old h_c hs)) ?_
     clear hs; intro w hs
     refine Qa ?_
     refine WL.next ?_
     refine WC.seq ?_
     refine Qm ?_
     refine WL.p Q0 (Yl.geq Q0 Q0) ?_
     refine WL.next ?_
     refine WC.condS Q0 (fun h5 => ?_) (fun h5 => ?_)
     ·
      replace h5 := of_decide_eq_true h5
      obtain ⟨j, d, hj, hd, hf⟩ := idxF_some (p := atF top a) (l := c.entries.l) (k := 0) (show ¬ idxF (atF top a) c.entries.l 0 < 0 from Int.not_lt.2 h5)
      rw [Nat.zero_add] at hj
      have hxe : x5.entries.l = c.entries.l := congrArg TCache.entries hx5
      have hdx : x5.entries.l[j]? = some d := by rw [hxe]; exact hd
      have hklt : j < x5.entries.l.length := (List.getElem?_eq_some_iff.1 hdx).1
      refine WC.region ?_
      refine WL.p Q0 (Yl.fieldAddr fa36_0 Q0) ?_
      refine WL.p Q0 (Yl.loadB sca34 Q0 hs Q1 Q0) ?_
      refine Qm ?_
      refine WL.p Q0 (Yl.loadAB agg180 Q0 hs Q1 Q0 Q0) ?_
      refine WL.p Q0 (Yl.indexAddr slt34 Q0 Q0 (hs.okow (x := x5) (F := F5) Q1).entries (by exact hj) (hdx)) ?_
      obtain ⟨K8, hfl8, hs⟩ := PCache.split (hs.sel (D := [ow x5 F5]) Q2)
      try simp only [List.cons_append, List.nil_append] at hs
      refine WL.s (Yr.storeE (u := (newEntry top a y now)) (k := j) (hs.flat (x := ((newEntry top a y now) : TEntry)) (by exact ⟨h_top, Flat.any h_a, Flat.any h_y, (show WfI _ from by have h9 := h3; simp only [TResponse.isv, Bool.and_eq_true, inR_true] at h9; show WfI (now + y.age); exact ⟨by omega, by omega⟩)⟩)) Q2 Q0 Q0 Q0 (by exact hklt) ⟨_, by rfl, by rfl⟩ szf180) ?_
      clear hs; rintro _ w ⟨F8, hs⟩
      obtain ⟨s8, hv8, hl8, hs⟩ := restore hs
      replace hs := PCache.join ⟨s8⟩ (hs.sel (D := [ow s8 F8]) Q2)
      try simp only [List.cons_append, List.nil_append] at hs
      have he8 : Ph.enc (⟨s8⟩ : PCache) = Ph.enc x5 := by show [s8.v] = [x5.entries.v]; rw [hv8]
      refine WL.nil ?_
      refine At.then_ ?_
      refine WC.seq' ?_
      refine WC.seq ?_
      refine WL.p Q0 (Yl.loadAB agg36 Q0 hs Q1 Q0 Q0) ?_
      have hpe : PCache.lg (⟨s8⟩ : PCache) = putEntry c.lg top a (newEntry top a y now) := by
       rw [putEntry_set (c := c.lg) hj]
       simp only [PCache.lg, hl8, hxe]
      refine WL.callp hs Q0 (Yc.func Q0 fn86) (calls_conv (congrArg (fun z => ([z] : List Value).toArray) (show (.agg #[Sl.v (⟨s8⟩ : PCache).entries] : Value) = .agg #[Sl.v x5.entries] from congrArg (fun l => Value.agg l.toArray) he8)) (c_spec_IsCache (⟨s8⟩ : PCache) _ (hs.okow (x := (⟨s8⟩ : PCache)) (F := F8) Q1) (by show ∀ e ∈ (PCache.lg _).entries, _; rw [hpe]; exact put_pol hbc hpy))) ?_
      clear hs; intro w hs
      refine WL.p Q0 (Yl.not Q0) ?_
      refine WL.next ?_
      refine WC.condS Q0 (fun h6 => ?_) (fun h6 => ?_)
      ·
       replace h6 := not_eq_true h6
       refine WC.seq ?_
       refine WL.p Q0 (Yl.loadAB agg36 Q0 hs Q1 Q0 Q0) ?_
       refine WL.call hs Q0 (Yc.func Q0 fn135) (c_spec_l13Copy _ _ (Ph.old h_c hs) Q10) ?_
       have hs0 := hs; clear hs; intro v w hb hR hs; clear hs
       obtain ⟨x9, rfl, hx9, hf9⟩ := hR
       obtain ⟨F9, hs⟩ := hf9.sat hs0 hb; clear hs0 hf9
       refine WL.s (Yr.storeB hs Q0 Q0 Q0 Q5 Q3 Q0 (by exact szf36)) ?_
       clear hs; rintro _ w hs
       refine WL.next ?_
       refine WC.ret ?_
       refine At.thenret ?_
       refine fin1c rfl agg36 Q0 hs Q1 Q0 ?_
       refine Ret.mk hs ?_
       try rw [hpe] at h6
       have hb9 : storeIs c.lg top a y now = false := by
        clear hs
        cases h9 : storeIs c.lg top a y now with
        | false => rfl
        | true =>
         exfalso
         have h8 := storeIs_isv h9
         try simp only [← inR_true] at *
         try simp only [← inR_false] at *
         simp_all [storeIs]
       exact ⟨x9, rfl, hx9.trans (storeEntry_no hb9).symm, hs.fresh Q1⟩
      ·
       replace h6 := not_eq_false h6
       refine WC.skipn ?_
       refine WC.seq ?_
       refine WL.p Q0 (Yl.loadAB agg36 Q0 hs Q1 Q0 Q0) ?_
       refine WL.s (Yr.storeB hs Q0 Q0 Q0 Q5 Q3 Q0 (by exact szf36)) ?_
       clear hs; rintro _ w hs
       refine WL.next ?_
       refine WC.ret ?_
       refine fin1c rfl agg36 Q0 hs Q1 Q0 ?_
       refine Ret.mk hs ?_
       try rw [hpe] at h6
       have hb9 : storeIs c.lg top a y now = true := by
        clear hs
        try simp only [← inR_true] at *
        try simp only [← inR_false] at *
        simp_all [storeIs]
       exact ⟨(⟨s8⟩ : PCache), by rw [he8]; try rfl, hpe.trans (storeEntry_yes hb9).symm, hs.fresh Q1⟩
     ·
      replace h5 := of_decide_eq_false h5
      refine WC.region ?_
      refine WL.p Q0 (Yl.fieldAddr fa36_0 Q0) ?_
      refine WL.p Q0 (Yl.loadB sca34 Q0 hs Q1 Q0) ?_
      refine WL.p Q0 (Yl.loadAB agg180 Q0 hs Q1 Q0 Q0) ?_
      refine WL.r Q0 (Yr.buildSlice hs sll34 Q0 Q0 Q0 Q4 Q0) ?_
      clear hs; rintro _ w ⟨b10, rfl, hb, hs⟩; clear hb
      obtain ⟨K11_0, hfl11, hs⟩ := PCache.split (hs.sel (D := [ow x5 F5]) Q2)
      try simp only [List.cons_append, List.nil_append] at hs
      refine WL.r Q0 (Yr.append (s := x5.entries) (F := K11_0) hs elt34 Q2 Q0 Q0 rfl (xs := [(newEntry top a y now)]) (hs.box_cells Q1) (by intro x hx; obtain rfl := List.mem_singleton.1 hx; exact ⟨h_top, Flat.any h_a, Flat.any h_y, (show WfI _ from by have h9 := h3; simp only [TResponse.isv, Bool.and_eq_true, inR_true] at h9; show WfI (now + y.age); exact ⟨by omega, by omega⟩)⟩) (by have hxe9 : x5.entries.l = c.entries.l := congrArg TCache.entries hx5; rw [hxe9]; simp only [TCache.size, lsz] at hbc; simp; unfold maxLen; omega) (by have hxe9 : x5.entries.l = c.entries.l := congrArg TCache.entries hx5; rw [hxe9]; simp only [TCache.size, lsz] at hbc; simp; omega)) ?_
      clear hs; rintro _ w ⟨s12, F12, rfl, hl12, hs⟩
      refine WL.p Q0 (Yl.fieldAddr fa36_0 Q0) ?_
      refine WL.s (Yr.storeB hs Q0 Q0 Q0 Q5 Q3 Q0 (by exact szf34)) ?_
      clear hs; rintro _ w hs
      refine WL.nil ?_
      refine At.then_ ?_
      refine WC.seq' ?_
      refine WC.seq ?_
      refine WL.p Q0 (Yl.loadAB agg36 Q0 hs Q1 Q0 Q0) ?_
      have hxe : x5.entries.l = c.entries.l := congrArg TCache.entries hx5
      have hpe : PCache.lg ⟨s12⟩ = putEntry c.lg top a (newEntry top a y now) := by
       rw [putEntry_app (c := c.lg) (Int.not_le.1 h5)]
       simp only [PCache.lg, hl12, hxe]
      refine WL.callp hs Q0 (Yc.func Q0 fn86) (c_spec_IsCache (⟨s12⟩ : PCache) _ ⟨(hs.okow (x := s12) (F := F12) Q1)⟩ (by show ∀ e ∈ (PCache.lg _).entries, _; rw [hpe]; exact put_pol hbc hpy)) ?_
      clear hs; intro w hs
      refine WL.p Q0 (Yl.not Q0) ?_
      refine WL.next ?_
      refine WC.condS Q0 (fun h6 => ?_) (fun h6 => ?_)
      ·
       replace h6 := not_eq_true h6
       refine WC.seq ?_
       refine WL.p Q0 (Yl.loadAB agg36 Q0 hs Q1 Q0 Q0) ?_
       refine WL.call hs Q0 (Yc.func Q0 fn135) (c_spec_l13Copy _ _ (Ph.old h_c hs) Q10) ?_
       have hs0 := hs; clear hs; intro v w hb hR hs; clear hs
       obtain ⟨x13, rfl, hx13, hf13⟩ := hR
       obtain ⟨F13, hs⟩ := hf13.sat hs0 hb; clear hs0 hf13
       refine WL.s (Yr.storeB hs Q0 Q0 Q0 Q5 Q3 Q0 (by exact szf36)) ?_
       clear hs; rintro _ w hs
       refine WL.next ?_
       refine WC.ret ?_
       refine At.thenret ?_
       refine fin1c rfl agg36 Q0 hs Q1 Q0 ?_
       refine Ret.mk hs ?_
       try rw [hpe] at h6
       have hb9 : storeIs c.lg top a y now = false := by
        clear hs
        cases h9 : storeIs c.lg top a y now with
        | false => rfl
        | true =>
         exfalso
         have h8 := storeIs_isv h9
         try simp only [← inR_true] at *
         try simp only [← inR_false] at *
         simp_all [storeIs]
       exact ⟨x13, rfl, hx13.trans (storeEntry_no hb9).symm, hs.fresh Q1⟩
      ·
       replace h6 := not_eq_false h6
       refine WC.skipn ?_
       refine WC.seq ?_
       refine WL.p Q0 (Yl.loadAB agg36 Q0 hs Q1 Q0 Q0) ?_
       refine WL.s (Yr.storeB hs Q0 Q0 Q0 Q5 Q3 Q0 (by exact szf36)) ?_
       clear hs; rintro _ w hs
       refine WL.next ?_
       refine WC.ret ?_
       refine fin1c rfl agg36 Q0 hs Q1 Q0 ?_
       refine Ret.mk hs ?_
       try rw [hpe] at h6
       have hb9 : storeIs c.lg top a y now = true := by
        clear hs
        try simp only [← inR_true] at *
        try simp only [← inR_false] at *
        simp_all [storeIs]
       exact ⟨⟨s12⟩, rfl, hpe.trans (storeEntry_yes hb9).symm, (PCache.join ⟨s12⟩ (hs.only (D := [ow s12 F12]) Q2)).fresh List.mem_cons_self⟩

theorem c_spec_KeepAnswer (n : PNet) (top : Str) (a : TAddr) (y : TResponse) (w : World) (h_n : Ph.ok w n) (h_top : Ph.ok w top) (h_a : Ph.ok w a) (h_y : Ph.ok w y) (hbs : lsz TServer.size n.lg.servers ≤ 1048576) (hbc : n.lg.cache.size ≤ 1048576) (hbl : n.log.l.length ≤ 1048577) (hpy : y.policy.length ≤ 1048576) : Calls Tryz.prog 56 [.agg #[Sl.v n.servers, Sl.v n.cache.entries, Sl.v n.log, I n.now], S top, .agg #[S a.host, S a.path], .agg #[I y.status, I y.kind, S y.body, I y.age, Bo y.shares, S y.policy]].toArray w (Ret w (fun v w' => ∃ x : PNet, v = .agg (Ph.enc x).toArray ∧ x.lg = keepAnswer n.lg top a y ∧ Fresh w x w')) := by
 refine enterN 45 Tryz.func56 rfl rfl rfl ?_
 have hs := Sat.start w
 refine WC.seq ?_
 refine WL.r Q0 (Yr.box hs Q0 Q0) ?_
 clear hs; rintro _ w ⟨b1, rfl, hb, hs⟩; clear hb
 refine WL.r Q0 (Yr.box hs Q0 Q0) ?_
 clear hs; rintro _ w ⟨b2, rfl, hb, hs⟩; clear hb
 refine WL.r Q0 (Yr.box hs Q0 Q0) ?_
 clear hs; rintro _ w ⟨b3, rfl, hb, hs⟩; clear hb
 refine WL.r Q0 (Yr.alloc hs zt39) ?_
 clear hs; rintro _ w ⟨b4, rfl, hb, hs⟩; clear hb
 refine WL.next ?_
 refine WC.seq ?_
 refine WL.p Q0 (Yl.loadAB agg39 Q0 hs Q1 Q0 Q0) ?_
 refine WL.call hs Q0 (Yc.func Q0 fn63) (c_spec_l14Copy _ _ (Ph.old h_n hs) (by exact hbs) (by exact hbc) (by exact hbl)) ?_
 have hs0 := hs; clear hs; intro v w hb hR hs; clear hs
 obtain ⟨x5, rfl, hx5, hf5⟩ := hR
 obtain ⟨F5, hs⟩ := hf5.sat hs0 hb; clear hs0 hf5
 refine WL.r Q0 (Yr.alloc hs zt39) ?_
 clear hs; rintro _ w ⟨b6, rfl, hb, hs⟩; clear hb
 refine WL.s (Yr.storeB hs Q0 Q0 Q0 Q5 Q3 Q0 (by exact szf39)) ?_
 clear hs; rintro _ w hs
 refine WL.next ?_
 refine WC.seq' ?_
 refine WC.seq ?_
 refine WL.p Q0 (Yl.fieldAddr fa39_1 Q0) ?_
 refine WL.p Q0 (Yl.loadAB agg36 Q0 hs Q1 Q0 Q0) ?_
 refine Qm ?_
 refine WL.p Q0 (Yl.loadAB agg45 Q0 hs Q1 Q0 Q0) ?_
 refine WL.p Q0 (Yl.fieldAddr fa39_3 Q0) ?_
 refine WL.p Q0 (Yl.loadB sca3 Q0 hs Q1 Q0) ?_
 refine WL.callp hs Q0 (Yc.func Q0 fn66) (c_spec_LookUp _ _ _ _ _ ⟨(Ph.old h_n.cache.entries hs)⟩) ?_
 clear hs; intro w hs
 refine Qm ?_
 refine WL.p Q0 (Yl.extract Q0 Q0) ?_
 refine WL.p Q0 (Yl.extract Q0 Q0) ?_
 refine WL.r Q0 (Yr.alloc hs zt41) ?_
 clear hs; rintro _ w ⟨b7, rfl, hb, hs⟩; clear hb
 refine WL.s (Yr.storeB hs Q0 Q0 Q0 Q5 Q3 Q0 (by exact szf41)) ?_
 clear hs; rintro _ w hs
 refine Qa ?_
 refine WL.next ?_
 refine WC.seq ?_
 refine Qm ?_
 refine WL.p Q0 (Yl.not Q0) ?_
 refine Qm ?_
 refine WL.split (d := 26) Q0 (fun h1 => ?_) (fun h1 => ?_)
 ·
  replace h1 := not_eq_true h1
  refine WL.run (d := 26) Q0 Q0 ?_
  refine WL.p Q0 (Yl.loadAB agg41 Q0 hs Q1 Q0 Q0) ?_
  refine WL.run (d := 26) Q0 Q0 ?_
  refine WL.callp hs Q0 (Yc.func Q0 fn93) (c_spec_IsResponse _ _ (Ph.old h_y hs) (by exact hpy)) ?_
  clear hs; intro w hs
  refine WL.p Q0 (Yl.pickT Q0 Q0) ?_
  refine Qm ?_
  refine WL.split (d := 30) Q0 (fun h2 => ?_) (fun h2 => ?_)
  ·
   refine WL.run (d := 30) Q0 Q0 ?_
   refine WL.p Q0 (Yl.fieldAddr fa41_0 Q0) ?_
   refine WL.run (d := 30) Q0 Q0 ?_
   refine WL.p Q0 (Yl.loadB sca3 Q0 hs Q1 Q0) ?_
   refine WL.run (d := 30) Q0 Q0 ?_
   refine WL.p Q0 (Yl.eqi Q0 Q0) ?_
   refine WL.p Q0 (Yl.pickT Q0 Q0) ?_
   refine WL.next ?_
   refine WC.condS Q0 (fun h3 => ?_) (fun h3 => ?_)
   ·
    replace h3 := of_decide_eq_true h3
    refine WC.region ?_
    refine WL.p Q0 (Yl.fieldAddr fa39_1 Q0) ?_
    refine WL.p Q0 (Yl.loadAB agg36 Q0 hs Q1 Q0 Q0) ?_
    refine Qm ?_
    refine WL.p Q0 (Yl.loadAB agg45 Q0 hs Q1 Q0 Q0) ?_
    refine WL.p Q0 (Yl.loadAB agg41 Q0 hs Q1 Q0 Q0) ?_
    refine WL.p Q0 (Yl.fieldAddr fa39_3 Q0) ?_
    refine WL.p Q0 (Yl.loadB sca3 Q0 hs Q1 Q0) ?_
    refine WL.call hs Q0 (Yc.func Q0 fn129) (c_spec_StoreEntry _ _ _ _ _ _ ⟨(Ph.old h_n.cache.entries hs)⟩ (Ph.old h_top hs) (Ph.old h_a hs) (Ph.old h_y hs) (Ph.old h_n.now hs) (by first | exact hbc | exact Nat.le_trans (Nat.le_of_eq (congrArg (fun z => z.cache.size) hx5)) hbc) (by exact hpy)) ?_
    have hs0 := hs; clear hs; intro v w hb hR hs; clear hs
    obtain ⟨x8, rfl, hx8, hf8⟩ := hR
    obtain ⟨F8, hs⟩ := hf8.sat hs0 hb; clear hs0 hf8
    refine WL.p Q0 (Yl.fieldAddr fa39_1 Q0) ?_
    refine WL.s (Yr.storeB hs Q0 Q0 Q0 Q5 Q3 Q0 (by exact szf36)) ?_
    clear hs; rintro _ w hs
    refine WL.nil ?_
    refine At.then_ ?_
    refine WC.seq ?_
    refine WL.p Q0 (Yl.loadAB agg39 Q0 hs Q1 Q0 Q0) ?_
    refine WL.s (Yr.storeB hs Q0 Q0 Q0 Q5 Q3 Q0 (by exact szf39)) ?_
    clear hs; rintro _ w hs
    refine WL.next ?_
    refine WC.ret ?_
    refine fin1c rfl agg39 Q0 hs Q1 Q0 ?_
    obtain ⟨K9_0, K9_1, K9_2, hfl9, hs⟩ := PNet.split (hs.sel (D := [ow x5 F5]) Q2)
    try simp only [List.cons_append, List.nil_append] at hs
    refine Ret.mk hs ?_
    refine ⟨(⟨x5.servers, x8, x5.log, x5.now⟩ : PNet), rfl, ?_, ?_⟩
    · have e1_ := congrArg TNet.servers hx5; have e2_ := congrArg TNet.cache hx5; have e3_ := congrArg TNet.log hx5; have e4_ := congrArg TNet.now hx5
      have hb9 : keepIs n.lg top a y = true := by
       clear hs
       simp_all [keepIs, PNet.lg, PCache.lg]
      show (⟨x5.lg.servers, x8.lg, x5.lg.log, x5.lg.now⟩ : TNet) = _
      rw [keep_yes hb9, e1_, e3_, e4_]
      exact congrArg (fun c => (⟨n.lg.servers, c, n.lg.log, n.lg.now⟩ : TNet)) hx8
    · exact (PNet.join (⟨x5.servers, x8, x5.log, x5.now⟩ : PNet) (hs.only (D := [ow x5.servers K9_0, ow x8 F8, ow x5.log K9_2]) Q2) (by first | exact (Flat.any hfl9.1) | exact (show WfI (x5.now) from ⟨by omega, by omega⟩) | assumption | trivial)).fresh List.mem_cons_self
   ·
    replace h3 := of_decide_eq_false h3
    refine WC.skipn ?_
    refine WC.seq ?_
    refine WL.p Q0 (Yl.loadAB agg39 Q0 hs Q1 Q0 Q0) ?_
    refine WL.s (Yr.storeB hs Q0 Q0 Q0 Q5 Q3 Q0 (by exact szf39)) ?_
    clear hs; rintro _ w hs
    refine WL.next ?_
    refine WC.ret ?_
    refine fin1c rfl agg39 Q0 hs Q1 Q0 ?_
    refine Ret.mk hs ?_
    have hb9 : keepIs n.lg top a y = false := by
     clear hs
     simp_all [keepIs, PNet.lg, PCache.lg]
    exact ⟨x5, rfl, hx5.trans (keep_no hb9).symm, hs.fresh Q1⟩
  ·
   refine WL.skip (d := 30) Q0 Q0 Q0 Q0 ?_
   refine WL.skip (d := 30) Q0 Q0 Q0 Q0 ?_
   refine WL.skip (d := 30) Q0 Q0 Q0 Q0 ?_
   refine WL.p Q0 (Yl.pickF Q0 Q0) ?_
   refine WL.next ?_
   refine WC.condF Q0 ?_
   refine WC.skipn ?_
   refine WC.seq ?_
   refine WL.p Q0 (Yl.loadAB agg39 Q0 hs Q1 Q0 Q0) ?_
   refine WL.s (Yr.storeB hs Q0 Q0 Q0 Q5 Q3 Q0 (by exact szf39)) ?_
   clear hs; rintro _ w hs
   refine WL.next ?_
   refine WC.ret ?_
   refine fin1c rfl agg39 Q0 hs Q1 Q0 ?_
   refine Ret.mk hs ?_
   have hb9 : keepIs n.lg top a y = false := by
    clear hs
    simp_all [keepIs, PNet.lg, PCache.lg]
   exact ⟨x5, rfl, hx5.trans (keep_no hb9).symm, hs.fresh Q1⟩
 ·
  replace h1 := not_eq_false h1
  refine WL.skip (d := 26) Q0 Q0 Q0 Q0 ?_
  refine WL.skip (d := 26) Q0 Q0 Q0 Q0 ?_
  refine WL.p Q0 (Yl.pickF Q0 Q0) ?_
  refine Qm ?_
  refine WL.skip (d := 30) Q0 Q0 Q0 Q0 ?_
  refine WL.skip (d := 30) Q0 Q0 Q0 Q0 ?_
  refine WL.skip (d := 30) Q0 Q0 Q0 Q0 ?_
  refine WL.p Q0 (Yl.pickF Q0 Q0) ?_
  refine WL.next ?_
  refine WC.condF Q0 ?_
  refine WC.skipn ?_
  refine WC.seq ?_
  refine WL.p Q0 (Yl.loadAB agg39 Q0 hs Q1 Q0 Q0) ?_
  refine WL.s (Yr.storeB hs Q0 Q0 Q0 Q5 Q3 Q0 (by exact szf39)) ?_
  clear hs; rintro _ w hs
  refine WL.next ?_
  refine WC.ret ?_
  refine fin1c rfl agg39 Q0 hs Q1 Q0 ?_
  refine Ret.mk hs ?_
  have hb9 : keepIs n.lg top a y = false := by
   clear hs
   simp_all [keepIs, PNet.lg, PCache.lg]
  exact ⟨x5, rfl, hx5.trans (keep_no hb9).symm, hs.fresh Q1⟩

theorem c_impl_copyServers (l : (Sl PServer)) (w : World) (h_l : Ph.ok w l) (hb : lsz TServer.size (l.l.map PServer.lg) ≤ 1048576) : Calls Tryz.prog 141 [Sl.v l].toArray w (Ret w (fun v w' => ∃ x : Sl PServer, v = x.v ∧ x.l.map PServer.lg = l.l.map PServer.lg ∧ Fresh w x w')) := by
 have hw := h_l.lt
 have hbl : l.l.length ≤ 1048576 := by simp only [lsz, List.length_map] at hb; omega
 refine enterN 25 Tryz.func141 rfl rfl rfl ?_
 have hs := Sat.start w
 refine WC.seq ?_
 refine Qa ?_
 refine WL.next ?_
 refine WC.seq ?_
 refine WL.r Q0 (Yr.buildSlice hs sll33 Q0 Q0 Q0 Q4 Q0) ?_
 clear hs; rintro _ w ⟨b1, rfl, hb, hs⟩; clear hb
 refine Qa ?_
 refine WL.next ?_
 refine WC.seq' ?_
 refine WC.seq ?_
 refine Qm ?_
 refine WL.p Q0 (Yl.len_sl slu33 Q0) ?_
 refine Qm ?_
 refine WL.next ?_
 refine WC.block ?_
 replace hs := Sat.boxow (l := ([] : List PServer)) hs rfl rfl (by simp) rfl
 refine WC.loopC (ι := Nat × Sl PServer × List Nat) (fun ⟨k, q, F⟩ => l.l.length - k) (fun ⟨k, q, F⟩ => [(9, I (k : Int)), (3, q.v)]) (fun ⟨k, q, F⟩ => [ow q F]) (fun ⟨k, q, F⟩ => k ≤ l.l.length ∧ q.l.map PServer.lg = (l.l.take k).map PServer.lg) [(0, _), (2, _), (6, _), (7, _), (8, _)] (0, ⟨[], some ⟨b1, 0, none⟩, 0⟩, [b1]) (hs.sel (D := [ow (⟨[], some ⟨b1, 0, none⟩, 0⟩ : Sl PServer) [b1]]) Q2) ⟨by rfl, by rfl, by rfl, by rfl, by rfl, trivial⟩ ⟨by rfl, by rfl, trivial⟩ ?_ ?_
 ·
  exact ⟨Nat.zero_le _, rfl⟩
 clear hs; rintro ⟨k, q, F⟩ w ⟨hJ1, hJ2⟩ hs
 simp only [List.cons_append, List.nil_append] at hs
 refine WC.seq ?_
 refine WL.p Q0 (Yl.lss Q0 Q0) ?_
 refine WL.next ?_
 refine WC.seq' ?_
 refine WC.condS Q0 (fun h1 => ?_) (fun h1 => ?_)
 ·
  replace h1 := of_decide_eq_true h1
  obtain ⟨d, hd⟩ := exists_get (l := l.l) (k := k) Q7
  have hql : q.l.length = k := by have := congrArg List.length hJ2; simp at this; omega
  have hdl := lsum_le (f := fun d : PServer => d.lg.size) (List.mem_of_getElem? hd)
  have hdf : d.files.l.length ≤ 1048576 := by rw [lsz_map] at hb; simp only [lsz, TServer.size] at hb hdl; omega
  refine WC.skipn ?_
  refine WC.seq' ?_
  refine WC.block ?_
  refine WC.seq ?_
  refine WL.p Q0 (Yl.indexAddr slt33 Q0 Q0 (Ph.old h_l hs) Q0 (hd)) ?_
  refine WL.p Q0 (Yl.loadA agg185 Q0 (Sl.Ok.at_ (Ph.old h_l hs) (by assumption)).2 Q0) ?_
  refine WL.r Q0 (Yr.alloc hs zt185) ?_
  clear hs; rintro _ w ⟨b2, rfl, hb, hs⟩; clear hb
  refine WL.s (Yr.storeB hs Q0 Q0 Q0 Q5 Q3 Q0 (by exact szf185)) ?_
  clear hs; rintro _ w hs
  refine WL.next ?_
  refine WC.anyX (K := [ow q F]) mixed hs Q2 ?_
  clear hs; intro w hs
  refine WA.p (i := 0) Q0 Q6 Q6 Q6 Q0 (hs.only Q2) (fun w hs => Yl.move Q0) ?_
  refine WA.p (i := 1) Q0 Q6 Q6 Q6 Q0 (hs.only Q2) (fun w hs => Yl.fieldAddr fa185_0 Q0) ?_
  refine WA.p (i := 2) Q0 Q6 Q6 Q6 Q0 (hs.only Q2) (fun w hs => Yl.loadB sca9 Q0 hs Q1 Q0) ?_
  refine WA.p (i := 4) Q0 Q6 Q6 Q6 Q0 (hs.only Q2) (fun w hs => Yl.fieldAddr fa185_1 Q0) ?_
  refine WA.p (i := 5) Q0 Q6 Q6 Q6 Q0 (hs.only Q2) (fun w hs => Yl.loadB sca183 Q0 hs Q1 Q0) ?_
  refine WA.r (i := 3) Q6 Q0 Q0 (Yr.buildSlice hs sll183 Q0 Q0 Q0 Q4 Q0) (by rintro _ w ⟨b3, rfl, hb, hs⟩; exact hs.only Q2) ?_
  clear hs; rintro _ w ⟨b3, rfl, hb, hs⟩; clear hb
  replace hs := (Sat.boxow (l := ([] : List TFile)) (hs.sel (D := [box b3 _ _]) Q2) rfl rfl (by simp [maxLen]) (ownL_mk_flat (by simp)))
  refine WA.r (i := 6) Q6 Q0 Q0 (Yr.appendS (s := (⟨[], some ⟨b3, 0, none⟩, _⟩ : Sl TFile)) (F := [b3]) (r := d.files) hs elt183 Q2 Q0 Q0 (Ph.old (Sl.Ok.elem h_l hd).files hs) (by first | (rw [hql]; unfold maxLen; omega) | (simp; unfold maxLen; omega)) (by first | (rw [hql]; omega) | (simp; omega))) (by rintro _ w ⟨s4, F4, rfl, hl4, hs⟩; exact hs.only Q2) ?_
  clear hs; rintro _ w ⟨s4, F4, rfl, hl4, hs⟩
  refine WA.p (i := 7) Q0 Q6 Q6 Q6 Q0 (hs.only Q2) (fun w hs => Yl.build bt185 Q0 Q4) ?_
  refine WA.r (i := 8) Q6 Q0 Q0 (Yr.buildSlice hs sll33 Q0 Q0 Q0 Q4 Q0) (by rintro _ w ⟨b5, rfl, hb, hs⟩; exact hs.only Q2) ?_
  clear hs; rintro _ w ⟨b5, rfl, hb, hs⟩; clear hb
  replace hs := PServer.join (⟨d.host, s4⟩ : PServer) (hs.sel (D := [ow s4 F4]) Q2) (by first | exact (Ph.old (Sl.Ok.elem h_l hd).host hs) | (refine Ph.old ?_ hs; assumption))
  try simp only [List.cons_append, List.nil_append] at hs
  refine WA.r (i := 9) Q6 Q0 Q0 (Yr.appendE (s := q) (F := F) (u := (⟨d.host, s4⟩ : PServer)) (G := F4) hs elt33 Q2 Q0 Q0 (hs.box_cells Q1) (by first | (rw [hql]; unfold maxLen; omega) | (simp; unfold maxLen; omega)) (by first | (rw [hql]; omega) | (simp; omega))) (by rintro _ w ⟨s6, F6, rfl, hl6, hs⟩; exact hs.only Q2) ?_
  clear hs; rintro _ w ⟨s6, F6, rfl, hl6, hs⟩
  refine WA.p (i := 10) Q0 Q6 Q6 Q6 Q0 (hs.only Q2) (fun w hs => Yl.assign Q0) ?_
  refine WA.done Q6 ?_
  refine At.blocknormal ?_
  refine At.then_ ?_
  refine WC.region ?_
  refine WL.p Q0 (Yl.add Q0 Q0 Q7) ?_
  refine Qm ?_
  refine WL.nil ?_
  refine At.roundC (k + 1, s6, F6) (hs.only Q2) ⟨by rfl, by rfl, by rfl, by rfl, by rfl, trivial⟩ ⟨by rfl, by rfl, trivial⟩ ?_ ?_
  ·
   show l.l.length - (k + 1) < l.l.length - k
   omega
  ·
   exact ⟨by omega, by rw [hl6, List.map_append, hJ2, List.take_add_one, hd]; simp [PServer.lg, *]⟩
 ·
  replace h1 := of_decide_eq_false h1
  refine WC.exit ?_
  refine At.thenexit ?_
  refine At.thenexit ?_
  refine At.blockexit ?_
  refine At.then_ ?_
  refine WC.seq ?_
  refine Qm ?_
  refine Qa ?_
  refine WL.next ?_
  refine WC.ret ?_
  refine fin1' rfl Q0 ?_
  refine Ret.mk hs ?_
  exact ⟨q, rfl, by rw [hJ2, show k = l.l.length from by omega, List.take_length], hs.fresh Q1⟩

theorem c_impl_copyCache (c : PCache) (w : World) (h_c : Ph.ok w c) (hb : c.lg.size ≤ 1048576) : Calls Tryz.prog 142 [.agg #[Sl.v c.entries]].toArray w (Ret w (fun v w' => ∃ x : PCache, v = .agg (Ph.enc x).toArray ∧ x.lg = c.lg ∧ Fresh w x w')) := by
 have hw := h_c.entries.lt
 refine enterN 8 Tryz.func142 rfl rfl rfl ?_
 have hs := Sat.start w
 refine WC.seq ?_
 refine WL.r Q0 (Yr.box hs Q0 Q0) ?_
 clear hs; rintro _ w ⟨b1, rfl, hb, hs⟩; clear hb
 refine WL.r Q0 (Yr.alloc hs zt36) ?_
 clear hs; rintro _ w ⟨b2, rfl, hb, hs⟩; clear hb
 refine WL.next ?_
 refine WC.seq ?_
 refine WL.r Q0 (Yr.buildSlice hs sll34 Q0 Q0 Q0 Q4 Q0) ?_
 clear hs; rintro _ w ⟨b3, rfl, hb, hs⟩; clear hb
 refine WL.p Q0 (Yl.fieldAddr fa36_0 Q0) ?_
 refine WL.p Q0 (Yl.loadB sca34 Q0 hs Q1 Q0) ?_
 replace hs := (Sat.boxow (l := ([] : List TEntry)) (hs.sel (D := [box b3 _ _]) Q2) rfl rfl (by simp [maxLen]) (ownL_mk_flat (by simp)))
 refine WL.r Q0 (Yr.appendS (s := (⟨[], some ⟨b3, 0, none⟩, _⟩ : Sl TEntry)) (F := [b3]) (r := c.entries) hs elt34 Q2 Q0 Q0 (Ph.old h_c.entries hs) (by simp; unfold maxLen; omega) (by simp only [TCache.size, lsz] at hb; simp; omega)) ?_
 clear hs; rintro _ w ⟨s4, F4, rfl, hl4, hs⟩
 refine WL.p Q0 (Yl.build bt36 Q0 Q4) ?_
 refine WL.s (Yr.storeB hs Q0 Q0 Q0 Q5 Q3 Q0 (by exact szf36)) ?_
 clear hs; rintro _ w hs
 refine WL.next ?_
 refine WC.ret ?_
 refine fin1c rfl agg36 Q0 hs Q1 Q0 ?_
 refine Ret.mk hs ?_
 refine ⟨⟨s4⟩, rfl, ?_, ?_⟩
 · simp_all
 · exact (PCache.join _ (hs.only (D := [ow s4 F4]) Q2) ).fresh List.mem_cons_self

theorem c_impl_copyNet (n : PNet) (w : World) (h_n : Ph.ok w n) (hbs : lsz TServer.size n.lg.servers ≤ 1048576) (hbc : n.lg.cache.size ≤ 1048576) (hbl : n.log.l.length ≤ 1048577) : Calls Tryz.prog 71 [.agg #[Sl.v n.servers, Sl.v n.cache.entries, Sl.v n.log, I n.now]].toArray w (Ret w (fun v w' => ∃ x : PNet, v = .agg (Ph.enc x).toArray ∧ x.lg = n.lg ∧ Fresh w x w')) := by
 refine enterN 16 Tryz.func71 rfl rfl rfl ?_
 have hs := Sat.start w
 refine WC.seq ?_
 refine WL.r Q0 (Yr.box hs Q0 Q0) ?_
 clear hs; rintro _ w ⟨b1, rfl, hb, hs⟩; clear hb
 refine WL.r Q0 (Yr.alloc hs zt39) ?_
 clear hs; rintro _ w ⟨b2, rfl, hb, hs⟩; clear hb
 refine WL.next ?_
 refine WC.anyn2 (c := box b2 _ _) mixed hs (by repeat (first | exact Ext.here | apply Ext.there)) ?_
 clear hs; intro w hs
 refine WA.p (i := 0) Q0 Q6 Q6 Q6 Q0 (hs.only Q2) (fun w hs => Yl.fieldAddr fa39_0 Q0) ?_
 refine WA.p (i := 1) Q0 Q6 Q6 Q6 Q0 (hs.only Q2) (fun w hs => Yl.loadB sca33 Q0 hs Q1 Q0) ?_
 refine WA.p (i := 3) Q0 Q6 Q6 Q6 Q0 (hs.only Q2) (fun w hs => Yl.fieldAddr fa39_1 Q0) ?_
 refine WA.p (i := 4) Q0 Q6 Q6 Q6 Q0 (hs.only Q2) (fun w hs => Yl.loadAB agg36 Q0 hs Q1 Q0 Q0) ?_
 refine WA.p (i := 7) Q0 Q6 Q6 Q6 Q0 (hs.only Q2) (fun w hs => Yl.fieldAddr fa39_2 Q0) ?_
 refine WA.p (i := 8) Q0 Q6 Q6 Q6 Q0 (hs.only Q2) (fun w hs => Yl.loadB sca37 Q0 hs Q1 Q0) ?_
 refine WA.p (i := 10) Q0 Q6 Q6 Q6 Q0 (hs.only Q2) (fun w hs => Yl.fieldAddr fa39_3 Q0) ?_
 refine WA.p (i := 11) Q0 Q6 Q6 Q6 Q0 (hs.only Q2) (fun w hs => Yl.loadB sca3 Q0 hs Q1 Q0) ?_
 refine WA.dag' [(⟨2, 5, [], (fun _ v cs => ∃ (x : Sl PServer) (F : List Nat), v = x.v ∧ cs = [ow x F] ∧ x.l.map PServer.lg = n.servers.l.map PServer.lg)⟩, []), (⟨5, 8, [], (fun _ v cs => ∃ (x : PCache) (F : List Nat), v = .agg (Ph.enc x).toArray ∧ cs = [ow x F] ∧ x.lg = n.cache.lg)⟩, [(0, false)]), (⟨6, 9, [], (fun _ v cs => ∃ b, v = .slice (some ⟨b, 0, none⟩) 0 0 ∧ cs = [box b 123 ([])])⟩, [])] [false, false, false] [(0, _), (1, _), (2, _), (3, _), (4, _), (6, _), (7, _), (10, _), (11, _), (13, _), (14, _)] ⟨by rfl, by rfl, by rfl, by rfl, by rfl, by rfl, by rfl, by rfl, by rfl, by rfl, by rfl, trivial⟩ Q0 Q6 Q6 Q6 Q6 Q6 Q6 Q6 Q6 (fun _ hs => hs.only Q2) hs (fuel := 3) ⟨⟨local_const, ?_⟩, ⟨local_const, ?_⟩, ⟨local_const, ?_⟩, trivial⟩ ?_
 ·
  clear hs
  intro w R hs
  simp only [List.cons_append, List.nil_append] at hs
  refine Gives.c' Q0 (Yc.func Q0 fn141) (c_impl_copyServers _ _ (Ph.old h_n.servers hs) (by exact hbs)) ?_
  rintro _ w1 ⟨_, rfl, hb, x, rfl, hx, hf⟩
  obtain ⟨F, hs1⟩ := hf.sat hs hb
  exact ⟨_, rfl, [ow x F], ⟨x, F, rfl, rfl, by exact hx⟩, hs1⟩
 ·
  clear hs
  rintro _ _ ⟨x3, F3, rfl, rfl, hx3⟩
  intro w R hs
  simp only [List.cons_append, List.nil_append] at hs
  refine Gives.c' Q0 (Yc.func Q0 fn142) (c_impl_copyCache _ _ ⟨(Ph.old h_n.cache.entries hs)⟩ (by exact hbc)) ?_
  rintro _ w1 ⟨_, rfl, hb, x, rfl, hx, hf⟩
  obtain ⟨F, hs1⟩ := hf.sat hs hb
  exact ⟨_, rfl, [ow x F], ⟨x, F, rfl, rfl, by first | exact hx | (simp only [hx3] at hx; exact hx)⟩, hs1⟩
 ·
  clear hs
  intro w R hs
  simp only [List.cons_append, List.nil_append] at hs
  exact Gives.rr' Q0 (Yr.buildSlice hs sll37 Q0 Q0 Q0 Q4 Q0) (fun _ _ ⟨b, hv, _, hs1⟩ => ⟨[box b 123 ([])], ⟨b, hv, rfl⟩, hs1⟩)
 clear hs
 rintro _ _ ⟨x3, F3, rfl, rfl, hx3⟩
 rintro _ _ ⟨x4, F4, rfl, rfl, hx4⟩
 rintro _ _ ⟨b5, rfl, rfl⟩
 intro w hs
 simp only [List.cons_append, List.nil_append, cond_true, cond_false] at hs
 replace hs := (Sat.boxow (l := ([] : List TSent)) (hs.sel (D := [box b5 _ _]) Q2) rfl rfl (by simp [maxLen]) (ownL_mk_flat (by simp)))
 refine WA.r (i := 9) Q6 Q0 Q0 (Yr.appendS (s := (⟨[], some ⟨b5, 0, none⟩, _⟩ : Sl TSent)) (F := [b5]) (r := n.log) hs elt37 Q2 Q0 Q0 (Ph.old h_n.log hs) (by simp; unfold maxLen; omega) (by simp; omega)) (by rintro _ w ⟨s6, F6, rfl, hl6, hs⟩; exact hs.only Q2) ?_
 clear hs; rintro _ w ⟨s6, F6, rfl, hl6, hs⟩
 refine WA.p (i := 12) Q0 Q6 Q6 Q6 Q0 (hs.only Q2) (fun w hs => Yl.build bt39 Q0 Q4) ?_
 refine WA.s (i := 13) Q6 Q0 (Yr.storeB hs Q0 Q0 Q0 Q5 Q3 Q0 (by exact szf39)) (by rintro _ w hs; exact hs.only Q2) ?_
 clear hs; rintro _ w hs
 refine WA.donen Q6 ?_
 refine WC.ret ?_
 refine fin1c rfl agg39 Q0 hs Q1 Q0 ?_
 refine Ret.mk hs ?_
 refine ⟨⟨x3, x4, s6, _⟩, rfl, ?_, ?_⟩
 · simp_all
 · exact (PNet.join _ (hs.only (D := [ow x3 F3, ow x4 F4, ow s6 F6]) Q2) (by first | exact Ph.old h_n.now hs | trivial | assumption | exact Nat.zero_le _)).fresh List.mem_cons_self

theorem c_impl_NotFound  (w : World)   : Calls Tryz.prog 73 [].toArray w (RetP w (.agg (Ph.enc notFound).toArray)) := by
 refine enterN 2 Tryz.func73 rfl rfl rfl ?_
 have hs := Sat.start w
 refine WC.seq ?_
 refine WL.r Q0 (Yr.alloc hs zt41) ?_
 clear hs; rintro _ w ⟨b1, rfl, hb, hs⟩; clear hb
 refine WL.next ?_
 refine WC.seq ?_
 refine WL.p Q0 (Yl.build bt41 Q0 Q4) ?_
 refine WL.s (Yr.storeB hs Q0 Q0 Q0 Q5 Q3 Q0 (by exact szf41)) ?_
 clear hs; rintro _ w hs
 refine WL.next ?_
 refine WC.ret ?_
 refine fin1c rfl agg41 Q0 hs Q1 Q0 ?_
 refine RetP.mk hs ?_
 rfl

theorem c_slices_IndexFunc___impl_Entry_impl_Entry_ (s : (Sl TEntry)) (f : FuncId) (us_f : List Value) (p_f : TEntry → Bool) (w : World) (h_s : Ph.ok w s)  (hfn_f : FN Tryz.prog f) (hf_f : ∀ x ∈ s.l, ∀ w', Below w.heap.size w w' → Calls Tryz.prog f (([.agg (Ph.enc x).toArray] : List Value) ++ us_f).toArray w' (RetP w' (Bo (p_f x)))) : Calls Tryz.prog 143 [Sl.v s, .func (.func f) #[] us_f.toArray].toArray w (RetP w (I (idxF (p_f) s.l 0))) := by
 have hw := h_s.lt
 refine enterN 19 Tryz.func143 rfl rfl rfl ?_
 have hs := Sat.start w
 refine WC.seq ?_
 refine Qa ?_
 refine WL.next ?_
 refine WC.seq' ?_
 refine WC.seq ?_
 refine Qm ?_
 refine WL.p Q0 (Yl.len_sl slu34 Q0) ?_
 refine Qm ?_
 refine WL.next ?_
 refine WC.block ?_
 refine WC.loopC (ι := Nat) (fun k => s.l.length - k) (fun k => [(8, I (k : Int))]) (fun _ => []) (fun k => idxF (p_f) s.l 0 = idxF (p_f) (s.l.drop k) k) [(0, _), (1, _), (6, _), (7, _)] 0 (hs) ⟨by rfl, by rfl, by rfl, by rfl, trivial⟩ ⟨by rfl, trivial⟩ ?_ ?_
 ·
  simp
 clear hs; rintro k w hJ hs
 simp only [List.nil_append] at hs
 refine WC.seq ?_
 refine WL.p Q0 (Yl.lss Q0 Q0) ?_
 refine WL.next ?_
 refine WC.seq' ?_
 refine WC.condS Q0 (fun h1 => ?_) (fun h1 => ?_)
 ·
  replace h1 := of_decide_eq_true h1
  obtain ⟨d, hd⟩ := exists_get (l := s.l) (k := k) Q7
  rw [drop_cons hd] at hJ
  refine WC.skipn ?_
  refine WC.seq' ?_
  refine WC.block ?_
  refine WC.seq ?_
  refine Qm ?_
  refine Qa ?_
  refine WL.next ?_
  refine WC.seq ?_
  refine Qm ?_
  refine Qm ?_
  refine Qm ?_
  refine WL.p Q0 (Yl.indexAddr slt34 Q0 Q0 (Ph.old h_s hs) Q0 (hd)) ?_
  refine WL.p Q0 (Yl.loadA agg180 Q0 (Sl.Ok.at_ (Ph.old h_s hs) (by assumption)).2 Q0) ?_
  refine WL.callp hs Q0 (Yc.value Q0 Q0 hfn_f Q0) (hf_f _ (List.mem_of_getElem? (by assumption)) _ hs.below) ?_
  clear hs; intro w hs
  refine WL.next ?_
  refine WC.condS Q0 (fun h2 => ?_) (fun h2 => ?_)
  ·
   refine WC.seq ?_
   refine Qm ?_
   refine Qa ?_
   refine WL.next ?_
   refine WC.ret ?_
   refine At.blockret ?_
   refine At.thenret ?_
   refine At.thenret ?_
   refine At.blockret ?_
   refine At.thenret ?_
   refine fin1' rfl Q0 ?_
   refine RetP.mk hs ?_
   rw [hJ]; simp_all [idxF]
  ·
   refine WC.skip ?_
   refine At.blocknormal ?_
   refine At.then_ ?_
   refine WC.region ?_
   refine WL.p Q0 (Yl.add Q0 Q0 Q7) ?_
   refine Qm ?_
   refine WL.nil ?_
   refine At.roundC (k + 1) (hs.only Q2) ⟨by rfl, by rfl, by rfl, by rfl, trivial⟩ ⟨by rfl, trivial⟩ ?_ ?_
   ·
    omega
   ·
    rw [hJ]; simp_all [idxF]
 ·
  replace h1 := of_decide_eq_false h1
  rw [drop_out (l := s.l) Q7] at hJ
  refine WC.exit ?_
  refine At.thenexit ?_
  refine At.thenexit ?_
  refine At.blockexit ?_
  refine At.then_ ?_
  refine WC.seq ?_
  refine Qa ?_
  refine WL.next ?_
  refine WC.ret ?_
  refine fin1' rfl Q0 ?_
  refine RetP.mk hs ?_
  rw [hJ]; simp_all [idxF]

theorem c_impl_LookUp_1 (e : TEntry) (top : Str) (b1 : Nat) (a : TAddr) (b2 : Nat) (now : Int) (b3 : Nat) (w : World)   (hc1 : CellsAt w b1 0 [S top]) (hc2 : CellsAt w b2 0 (Ph.enc a)) (hc3 : CellsAt w b3 0 [I now]) : Calls Tryz.prog 144 [.agg #[S e.top, S e.to.host, S e.to.path, I e.response.status, I e.response.kind, S e.response.body, I e.response.age, Bo e.response.shares, S e.response.policy, I e.until_], bp b1 0, bp b2 0, bp b3 0].toArray w (RetP w (Bo (hit top a now e))) := by
 refine enterN 22 Tryz.func144 rfl rfl rfl ?_
 have hs := Sat.start w
 refine WC.seq ?_
 refine WL.r Q0 (Yr.box hs Q0 Q0) ?_
 clear hs; rintro _ w ⟨b1, rfl, hb, hs⟩; clear hb
 refine Qa ?_
 refine WL.next ?_
 refine WC.seq ?_
 refine WL.p Q0 (Yl.fieldAddr fa180_0 Q0) ?_
 refine WL.p Q0 (Yl.loadB sca9 Q0 hs Q1 Q0) ?_
 refine WL.p Q0 (Yl.loadC0 sca9 Q0 (hc1.ext hs.below) Q0) ?_
 refine WL.p Q0 (Yl.eqs Q0 Q0) ?_
 refine Qm ?_
 refine WL.split (d := 10) Q0 (fun h1 => ?_) (fun h1 => ?_)
 ·
  replace h1 := of_decide_eq_true h1
  refine WL.run (d := 10) Q0 Q0 ?_
  refine WL.p Q0 (Yl.fieldAddr fa180_1 Q0) ?_
  refine WL.run (d := 10) Q0 Q0 ?_
  refine WL.p Q0 (Yl.loadAB agg45 Q0 hs Q1 Q0 Q0) ?_
  refine WL.run (d := 10) Q0 Q0 ?_
  refine WL.p Q0 (Yl.loadA agg45 Q0 (hc2.ext hs.below) Q0) ?_
  refine WL.run (d := 10) Q0 Q0 ?_
  refine WL.p Q0 (Yl.eqt eqt45 Q0 Q0) ?_
  refine WL.p Q0 (Yl.pickT Q0 Q0) ?_
  refine Qm ?_
  refine WL.split (d := 16) Q0 (fun h2 => ?_) (fun h2 => ?_)
  ·
   replace h2 := of_decide_eq_true h2
   refine WL.run (d := 16) Q0 Q0 ?_
   refine WL.p Q0 (Yl.fieldAddr fa180_3 Q0) ?_
   refine WL.run (d := 16) Q0 Q0 ?_
   refine WL.p Q0 (Yl.loadB sca3 Q0 hs Q1 Q0) ?_
   refine WL.run (d := 16) Q0 Q0 ?_
   refine WL.p Q0 (Yl.loadC0 sca3 Q0 (hc3.ext hs.below) Q0) ?_
   refine WL.run (d := 16) Q0 Q0 ?_
   refine WL.p Q0 (Yl.geq Q0 Q0) ?_
   refine WL.p Q0 (Yl.pickT Q0 Q0) ?_
   refine Qa ?_
   refine WL.next ?_
   refine WC.ret ?_
   refine fin1' rfl Q0 ?_
   refine RetP.mk hs ?_
   simp_all [hit]
  ·
   replace h2 := of_decide_eq_false h2
   refine WL.skip (d := 16) Q0 Q0 Q0 Q0 ?_
   refine WL.skip (d := 16) Q0 Q0 Q0 Q0 ?_
   refine WL.skip (d := 16) Q0 Q0 Q0 Q0 ?_
   refine WL.skip (d := 16) Q0 Q0 Q0 Q0 ?_
   refine WL.p Q0 (Yl.pickF Q0 Q0) ?_
   refine Qa ?_
   refine WL.next ?_
   refine WC.ret ?_
   refine fin1' rfl Q0 ?_
   refine RetP.mk hs ?_
   simp_all [hit]
 ·
  replace h1 := of_decide_eq_false h1
  refine WL.skip (d := 10) Q0 Q0 Q0 Q0 ?_
  refine WL.skip (d := 10) Q0 Q0 Q0 Q0 ?_
  refine WL.skip (d := 10) Q0 Q0 Q0 Q0 ?_
  refine WL.skip (d := 10) Q0 Q0 Q0 Q0 ?_
  refine WL.p Q0 (Yl.pickF Q0 Q0) ?_
  refine Qm ?_
  refine WL.skip (d := 16) Q0 Q0 Q0 Q0 ?_
  refine WL.skip (d := 16) Q0 Q0 Q0 Q0 ?_
  refine WL.skip (d := 16) Q0 Q0 Q0 Q0 ?_
  refine WL.skip (d := 16) Q0 Q0 Q0 Q0 ?_
  refine WL.p Q0 (Yl.pickF Q0 Q0) ?_
  refine Qa ?_
  refine WL.next ?_
  refine WC.ret ?_
  refine fin1' rfl Q0 ?_
  refine RetP.mk hs ?_
  simp_all [hit]

end Go.Sw
