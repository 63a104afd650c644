/- Walks: what each function of the program returns, for every input. Printed by gen.py. -/
import Derived.Test.YtppjnohcfljmoaaDoorW2
set_option linter.all false
namespace Go.Sw
open Go Go.RowKit Go.Proofs

theorem c_impl_PutFile (l : (Sl PServer)) (a : TAddr) (y : TResponse) (w : World) (h_l : Ph.ok w l) (h_a : Ph.ok w a) (h_y : Ph.ok w y) (hbz : lsz TServer.size (l.l.map PServer.lg) ≤ 1048576) (hpy : y.policy.length ≤ 1048576) (hm_ : ∃ m, w.cell? ⟨3, 0, none⟩ = some (.int .i64 m)) : Calls Tryd.prog 14 [Sl.v l, .agg #[S a.host, S a.path], .agg #[I y.status, I y.kind, S y.body, I y.age, Bo y.shares, S y.policy]].toArray w (Ret w (fun v w' => ∃ x : Sl PServer, v = .tuple #[x.v, Bo (putIs (l.l.map PServer.lg) a y)] ∧ x.l.map PServer.lg = putFile (l.l.map PServer.lg) a y ∧ Fresh w x w')) := by
  have hw := h_l.lt
  have hlz : l.l.length ≤ 1048576 := by simp only [lsz, List.length_map] at hbz; omega
  refine enterN 74 Tryd.func14 rfl rfl rfl ?_
  have hs := Sat.start w
  refine WC.seq ?_
  refine WL.r (by rfl) (Yr.box hs (by rfl) (by rfl)) ?_
  clear hs; rintro _ w ⟨b1, rfl, hb, hs⟩; clear hb
  refine WL.r (by rfl) (Yr.box hs (by rfl) (by rfl)) ?_
  clear hs; rintro _ w ⟨b2, rfl, hb, hs⟩; clear hb
  refine WL.p (by rfl) (Yl.assign (by rfl)) ?_
  refine WL.p (by rfl) (Yl.assign (by rfl)) ?_
  refine WL.next ?_
  refine WC.seq ?_
  refine WL.p (by rfl) (Yl.move (by rfl)) ?_
  refine WL.call hs (by rfl) (Yc.func (by rfl) fn28) (c_impl_copyServers _ _ (Ph.old h_l hs) (by exact hbz)) ?_
  have hs0 := hs; clear hs; intro v w hb hR hs; clear hs
  obtain ⟨x3, rfl, hx3, hf3⟩ := hR
  obtain ⟨F3, hs⟩ := hf3.sat hs0 hb; clear hs0 hf3
  have hle3 := Sl.Ok.le (hs.okow (x := x3) (F := F3) (by repeat (first | exact List.mem_cons_self | apply List.mem_cons_of_mem)))
  refine WL.p (by rfl) (Yl.assign (by rfl)) ?_
  refine WL.next ?_
  refine WC.seq ?_
  refine WL.p (by rfl) (Yl.move (by rfl)) ?_
  refine WL.p (by rfl) (Yl.fieldAddr fa35_0 (by rfl)) ?_
  refine WL.p (by rfl) (Yl.loadB sca9 (by rfl) hs (by repeat (first | exact List.mem_cons_self | apply List.mem_cons_of_mem)) (by rfl)) ?_
  refine WL.callp hs (by rfl) (Yc.func (by rfl) fn29) (c_impl_serverAt _ _ _ (Ph.old h_l hs)) ?_
  clear hs; intro w hs
  refine WL.p (by rfl) (Yl.assign (by rfl)) ?_
  refine WL.next ?_
  refine WC.seq' ?_
  refine WC.seq ?_
  refine WL.p (by rfl) (Yl.move (by rfl)) ?_
  refine WL.p (by rfl) (Yl.lss (by rfl) (by rfl)) ?_
  refine WL.next ?_
  refine WC.condS (by rfl) (fun h1 => ?_) (fun h1 => ?_)
  ·
    replace h1 := of_decide_eq_true h1
    have hlx : x3.l.length = l.l.length := by have h9 := congrArg List.length hx3; simpa using h9
    have hDp : ∀ f ∈ (PServer.lg (⟨a.host, ⟨[], none, 0⟩⟩ : PServer)).files, f.response.policy.length ≤ 1048576 := fun f hf => by cases hf
    have hdf : (⟨a.host, ⟨[], none, 0⟩⟩ : PServer).files.l.length ≤ 1048576 := Nat.zero_le _
    refine WC.seq ?_
    refine WL.p (by rfl) (Yl.move (by rfl)) ?_
    refine WL.p (by rfl) (Yl.len_sl slu31 (by rfl)) ?_
    refine WL.p (by rfl) (Yl.assign (by rfl)) ?_
    refine WL.next ?_
    refine WC.region ?_
    refine WL.p (by rfl) (Yl.move (by rfl)) ?_
    refine WL.p (by rfl) (Yl.fieldAddr fa35_0 (by rfl)) ?_
    refine WL.p (by rfl) (Yl.loadB sca9 (by rfl) hs (by repeat (first | exact List.mem_cons_self | apply List.mem_cons_of_mem)) (by rfl)) ?_
    refine WL.p (by rfl) (Yl.build bt52 (by rfl) (by repeat (first | exact Fill.nil | (apply Fill.cons; rfl; rfl; rfl; repeat (first | (apply SetAt.here; repeat (first | exact Over.nil | apply Over.cons)) | apply SetAt.there))))) ?_
    refine WL.r (by rfl) (Yr.buildSlice hs sll31 (by rfl) (by rfl) (by rfl) (by repeat (first | exact Fill.nil | (apply Fill.cons; rfl; rfl; rfl; repeat (first | (apply SetAt.here; repeat (first | exact Over.nil | apply Over.cons)) | apply SetAt.there)))) (by rfl)) ?_
    clear hs; rintro _ w ⟨b4, rfl, hb, hs⟩; clear hb
    replace hs := Sat.nilsl (α := TFile) hs
    replace hs := PServer.join (⟨a.host, ⟨[], none, 0⟩⟩ : PServer) (hs.sel (D := [ow (⟨[], none, 0⟩ : (Sl TFile)) []]) (by repeat (first | exact Sel.nil | (apply Sel.cons; (repeat (first | exact Ext.here | apply Ext.there)))))) (by first | exact (Ph.old h_a.host hs) | (refine Ph.old ?_ hs; assumption))
    try simp only [List.cons_append, List.nil_append] at hs
    refine WL.r (by rfl) (Yr.appendE (s := x3) (F := F3) (u := (⟨a.host, ⟨[], none, 0⟩⟩ : PServer)) (G := []) hs elt31 (by repeat (first | exact Sel.nil | (apply Sel.cons; (repeat (first | exact Ext.here | apply Ext.there))))) (by rfl) (by rfl) (hs.box_cells (by repeat (first | exact List.mem_cons_self | apply List.mem_cons_of_mem))) (by first | (rw [hlx]; unfold maxLen; omega) | (simp only [List.length_nil, List.length_singleton]; unfold maxLen; omega) | (simp; unfold maxLen; omega)) (by first | (rw [hlx]; omega) | omega | (simp only [List.length_nil, List.length_singleton]; omega) | (simp; omega))) ?_
    clear hs; rintro _ w ⟨s5, F5, rfl, hl5, hs⟩
    refine WL.p (by rfl) (Yl.assign (by rfl)) ?_
    refine WL.nil ?_
    refine At.then_ ?_
    refine WC.seq' ?_
    refine WC.quietn mixed (by kernel_rfl) hs ?_
    refine WQ.p (by rfl) (fun w hs => Yl.move (by rfl)) ?_
    refine WQ.p (by rfl) (fun w hs => Yl.move (by rfl)) ?_
    refine WQ.p (by rfl) (fun w hs => Yl.indexAddr slt31 (by rfl) (by rfl) (hs.okow (x := s5) (F := F5) (by repeat (first | exact List.mem_cons_self | apply List.mem_cons_of_mem))) (by first | exact hj2 | exact hj | rfl | exact congrArg (fun n : Nat => (n : Int)) hlx) ((get_last hl5 hlx))) ?_
    refine WQ.p (by rfl) (fun w hs => Yl.loadA agg52 (by rfl) (Sl.Ok.at_ (hs.okow (x := s5) (F := F5) (by repeat (first | exact List.mem_cons_self | apply List.mem_cons_of_mem))) ((get_last hl5 hlx))).2 (by rfl)) ?_
    refine WQ.p (by rfl) (fun w hs => Yl.fieldAddr fa35_1 (by rfl)) ?_
    refine WQ.p (by rfl) (fun w hs => Yl.loadB sca9 (by rfl) hs (by repeat (first | exact List.mem_cons_self | apply List.mem_cons_of_mem)) (by rfl)) ?_
    refine WQ.callp (by rfl) (fun w => Yc.func (by rfl) fn30) (fun w hs => (c_impl_fileAt _ _ _ (Sl.Ok.elem (hs.okow (x := s5) (F := F5) (by repeat (first | exact List.mem_cons_self | apply List.mem_cons_of_mem))) (get_last hl5 hlx)))) (fun _ _ hs hb => hs.ext hb) ?_
    refine WQ.p (by rfl) (fun w hs => Yl.assign (by rfl)) ?_
    refine WQ.next ?_
    clear hs; intro w hs
    refine WC.seq ?_
    refine WL.p (by rfl) (Yl.move (by rfl)) ?_
    refine WL.p (by rfl) (Yl.geq (by rfl) (by rfl)) ?_
    refine WL.next ?_
    refine WC.condS (by rfl) (fun h2 => ?_) (fun h2 => ?_)
    ·
      replace h2 := of_decide_eq_true h2
      obtain ⟨j2, d2, hj2, hd2, hf2⟩ := idxF_some (Int.not_lt.2 h2)
      rw [Nat.zero_add] at hj2
      refine WC.anyX (K := [ow s5 F5]) mixed hs (by repeat (first | exact Sel.nil | (apply Sel.cons; (repeat (first | exact Ext.here | apply Ext.there))))) ?_
      clear hs; intro w hs
      refine WA.p (i := 0) (by rfl) (by kernel_rfl) (by kernel_rfl) (by kernel_rfl) (by rfl) (hs.only (by repeat (first | exact Sel.nil | (apply Sel.cons; (repeat (first | exact Ext.here | apply Ext.there)))))) (fun w hs => Yl.move (by rfl)) ?_
      refine WA.p (i := 1) (by rfl) (by kernel_rfl) (by kernel_rfl) (by kernel_rfl) (by rfl) (hs.only (by repeat (first | exact Sel.nil | (apply Sel.cons; (repeat (first | exact Ext.here | apply Ext.there)))))) (fun w hs => Yl.move (by rfl)) ?_
      have hadr500 := (Sl.Ok.at_ (hs.okow (x := s5) (F := F5) (by repeat (first | exact List.mem_cons_self | apply List.mem_cons_of_mem))) ((get_last hl5 hlx))).1
      refine WA.p (i := 2) (by rfl) (by kernel_rfl) (by kernel_rfl) (by kernel_rfl) (by rfl) (hs.only (by repeat (first | exact Sel.nil | (apply Sel.cons; (repeat (first | exact Ext.here | apply Ext.there)))))) (fun w hs => Yl.indexAddrA slt31 (by rfl) (by rfl) hadr500 (by first | exact hj2 | exact hj | rfl | exact congrArg (fun n : Nat => (n : Int)) hlx) ((get_last hl5 hlx))) ?_
      refine WA.p (i := 3) (by rfl) (by kernel_rfl) (by kernel_rfl) (by kernel_rfl) (by rfl) (hs.only (by repeat (first | exact Sel.nil | (apply Sel.cons; (repeat (first | exact Ext.here | apply Ext.there)))))) (fun w hs => Yl.fieldAddr fa52_1 (by rfl)) ?_
      refine WA.p (i := 5) (by rfl) (by kernel_rfl) (by kernel_rfl) (by kernel_rfl) (by rfl) (hs.only (by repeat (first | exact Sel.nil | (apply Sel.cons; (repeat (first | exact Ext.here | apply Ext.there)))))) (fun w hs => Yl.move (by rfl)) ?_
      refine WA.p (i := 6) (by rfl) (by kernel_rfl) (by kernel_rfl) (by kernel_rfl) (by rfl) (hs.only (by repeat (first | exact Sel.nil | (apply Sel.cons; (repeat (first | exact Ext.here | apply Ext.there)))))) (fun w hs => Yl.loadAB agg37 (by rfl) hs (by repeat (first | exact List.mem_cons_self | apply List.mem_cons_of_mem)) (by rfl) (by rfl)) ?_
      refine WA.r (i := 4) (by kernel_rfl) (by rfl) (by rfl) (Yl.yr (Yl.loadC sca50 (by rfl) (Sl.Ok.at_ (hs.okow (x := s5) (F := F5) (by repeat (first | exact List.mem_cons_self | apply List.mem_cons_of_mem))) ((get_last hl5 hlx))).2 (by rfl))) (by rintro _ _ ⟨rfl, rfl⟩; exact hs.only (by repeat (first | exact Sel.nil | (apply Sel.cons; (repeat (first | exact Ext.here | apply Ext.there)))))) ?_
      rintro _ _ ⟨rfl, rfl⟩
      have hadr501 := (Sl.Ok.at_ (Sl.Ok.elem (hs.okow (x := s5) (F := F5) (by repeat (first | exact List.mem_cons_self | apply List.mem_cons_of_mem))) (get_last hl5 hlx)).files (hd2)).1
      refine WA.p (i := 7) (by rfl) (by kernel_rfl) (by kernel_rfl) (by kernel_rfl) (by rfl) (hs.only (by repeat (first | exact Sel.nil | (apply Sel.cons; (repeat (first | exact Ext.here | apply Ext.there)))))) (fun w hs => Yl.indexAddrA slt50 (by rfl) (by rfl) hadr501 (by first | exact hj2 | exact hj | rfl | exact congrArg (fun n : Nat => (n : Int)) hlx) (hd2)) ?_
      refine WA.p (i := 8) (by rfl) (by kernel_rfl) (by kernel_rfl) (by kernel_rfl) (by rfl) (hs.only (by repeat (first | exact Sel.nil | (apply Sel.cons; (repeat (first | exact Ext.here | apply Ext.there)))))) (fun w hs => Yl.fieldAddr fa55_1 (by rfl)) ?_
      obtain ⟨G6, B6, hs⟩ := Sat.lend (hs.sel (D := [ow s5 F5]) (by repeat (first | exact Sel.nil | (apply Sel.cons; (repeat (first | exact Ext.here | apply Ext.there)))))) (get_last hl5 hlx)
      obtain ⟨K6, hfl6, hs⟩ := PServer.split hs
      try simp only [List.cons_append, List.nil_append] at hs
      have hel6 := Sl.Ok.elem (hs.okow (x := (⟨a.host, ⟨[], none, 0⟩⟩ : PServer).files) (F := K6) (by repeat (first | exact List.mem_cons_self | apply List.mem_cons_of_mem))) hd2
      refine WA.s (i := 9) (by kernel_rfl) (by rfl) (Yr.storeP (s := (⟨a.host, ⟨[], none, 0⟩⟩ : PServer).files) (F := K6) (d := d2) (u := (⟨d2.path, y⟩ : TFile)) (k := j2) (j := 1) hs (by repeat (first | exact Sel.nil | (apply Sel.cons; (repeat (first | exact Ext.here | apply Ext.there))))) (by rfl) (by rfl) (by rfl) hd2 ⟨_, by rfl, by rfl⟩ (by repeat (first | (apply SetAt.here; repeat (first | exact Over.nil | apply Over.cons)) | apply SetAt.there)) (by exact own_part_flat ⟨hel6.path, (by first | assumption | exact Flat.any (by assumption) | (refine Ph.old ?_ hs; assumption))⟩) (by rfl) (by exact szf37)) (by rintro _ w ⟨a6, _, rfl, hw6, hm6, _, hs⟩; exact hs.only (by repeat (first | exact Sel.nil | (apply Sel.cons; (repeat (first | exact Ext.here | apply Ext.there)))))) ?_
      clear hs; rintro _ w ⟨a6, _, rfl, hw6, hm6, _, hs⟩
      replace hs := PServer.join (⟨(⟨a.host, ⟨[], none, 0⟩⟩ : PServer).host, a6⟩ : PServer) (hs.sel (D := [ow a6 K6]) (by repeat (first | exact Sel.nil | (apply Sel.cons; (repeat (first | exact Ext.here | apply Ext.there)))))) (Flat.any hfl6.1)
      try simp only [List.cons_append, List.nil_append] at hs
      obtain ⟨s6, F6, hv6, hl6, hg6, hs⟩ := Sat.back (s := s5) (k := l.l.length) (d := (⟨a.host, ⟨[], none, 0⟩⟩ : PServer)) (hs.sel (D := [ow (⟨(⟨a.host, ⟨[], none, 0⟩⟩ : PServer).host, a6⟩ : PServer) K6, hl s5 l.l.length G6]) (by repeat (first | exact Sel.nil | (apply Sel.cons; (repeat (first | exact Ext.here | apply Ext.there)))))) (get_last hl5 hlx) (by show [S (⟨(⟨a.host, ⟨[], none, 0⟩⟩ : PServer).host, a6⟩ : PServer).host, Sl.v a6] = [S (⟨a.host, ⟨[], none, 0⟩⟩ : PServer).host, Sl.v (⟨a.host, ⟨[], none, 0⟩⟩ : PServer).files]; rw [hw6])
      try simp only [List.cons_append, List.nil_append] at hs
      refine WA.done (by kernel_rfl) ?_
      refine At.then_ ?_
      refine WC.seq' ?_
      refine WC.seq ?_
      refine WL.p (by rfl) (Yl.move (by rfl)) ?_
      refine WL.p (by rfl) (Yl.len_sl slu31 (by rfl)) ?_
      refine WL.p (by rfl) (Yl.gtr (by rfl) (by rfl)) ?_
      refine WL.p (by rfl) (Yl.move (by rfl)) ?_
      refine WL.split (d := 63) (by rfl) (fun h3 => ?_) (fun h3 => ?_)
      ·
        replace h3 := of_decide_eq_true h3
        refine WL.skip (d := 63) (by rfl) (by rfl) (by rfl) (by rfl) ?_
        refine WL.skip (d := 63) (by rfl) (by rfl) (by rfl) (by rfl) ?_
        refine WL.skip (d := 63) (by rfl) (by rfl) (by rfl) (by rfl) ?_
        refine WL.skip (d := 63) (by rfl) (by rfl) (by rfl) (by rfl) ?_
        refine WL.skip (d := 63) (by rfl) (by rfl) (by rfl) (by rfl) ?_
        refine WL.skip (d := 63) (by rfl) (by rfl) (by rfl) (by rfl) ?_
        refine WL.p (by rfl) (Yl.pickT (by rfl) (by rfl)) ?_
        refine WL.next ?_
        refine WC.condT (by rfl) ?_
        refine WC.seq ?_
        refine WL.p (by rfl) (Yl.move (by rfl)) ?_
        refine WL.call hs (by rfl) (Yc.func (by rfl) fn28) (c_impl_copyServers _ _ (Ph.old h_l hs) (by exact hbz)) ?_
        have hs0 := hs; clear hs; intro v w hb hR hs; clear hs
        obtain ⟨x7, rfl, hx7, hf7⟩ := hR
        obtain ⟨F7, hs⟩ := hf7.sat hs0 hb; clear hs0 hf7
        have hle7 := Sl.Ok.le (hs.okow (x := x7) (F := F7) (by repeat (first | exact List.mem_cons_self | apply List.mem_cons_of_mem)))
        refine WL.p (by rfl) (Yl.assign (by rfl)) ?_
        refine WL.p (by rfl) (Yl.assign (by rfl)) ?_
        refine WL.next ?_
        refine WC.ret ?_
        refine At.thenret ?_
        refine fin2' rfl (by rfl) (by rfl) ?_
        refine Ret.mk hs ?_
        have hjL : idxF (onHost a.host) (l.l.map PServer.lg) 0 < 0 := by rw [idx_host]; exact h1
        have hw9 : s5.l.map PServer.lg = withHost (l.l.map PServer.lg) a.host := by rw [(host_new hjL).1, hl5, List.map_append, hx3]; rfl
        have hi9 : hostIx (l.l.map PServer.lg) a.host = l.l.length := by rw [(host_new hjL).2, List.length_map]
        have hd9 : s5.l[l.l.length]? = some (⟨a.host, ⟨[], none, 0⟩⟩ : PServer) := get_last hl5 hlx
        have hu9 : PServer.lg (⟨(⟨a.host, ⟨[], none, 0⟩⟩ : PServer).host, a6⟩ : PServer) = putOn (PServer.lg (⟨a.host, ⟨[], none, 0⟩⟩ : PServer)) a.path y := by
          rw [putOn_found (s := PServer.lg (⟨a.host, ⟨[], none, 0⟩⟩ : PServer)) hj2 hd2]
          simp only [PServer.lg, hm6]
        have hall9 : s6.l.map PServer.lg = putAll (l.l.map PServer.lg) a y := by rw [hl6]; exact put_all hw9 hi9 hd9 hu9
        have hpi9 := put_is hall9 hi9 hg6
        have hln9 : s6.l.length = s5.l.length := by rw [hl6, List.length_set]
        rw [hln9] at hpi9
        have hb9 : putIs (l.l.map PServer.lg) a y = false := by
          clear hs
          rw [hpi9]
          first
            | (simp_all; done)
            | (simp_all; omega)
            | (rw [Bool.and_eq_false_iff]; left; exact decide_eq_false (by omega))
            | (rw [Bool.and_eq_true]; exact ⟨decide_eq_true (by omega), by simp_all⟩)
            | (rw [Bool.and_eq_false_iff]; right; simp_all)
        exact ⟨x7, by rw [hb9], hx7.trans (putFile_no hb9).symm, hs.fresh (by repeat (first | exact List.mem_cons_self | apply List.mem_cons_of_mem))⟩
      ·
        replace h3 := of_decide_eq_false h3
        refine WL.run (d := 63) (by rfl) (by rfl) ?_
        refine WL.p (by rfl) (Yl.move (by rfl)) ?_
        refine WL.run (d := 63) (by rfl) (by rfl) ?_
        refine WL.p (by rfl) (Yl.move (by rfl)) ?_
        refine WL.run (d := 63) (by rfl) (by rfl) ?_
        refine WL.p (by rfl) (Yl.indexAddrV slt31 (by rfl) hv6 (by rfl) (hs.okow (x := s6) (F := F6) (by repeat (first | exact List.mem_cons_self | apply List.mem_cons_of_mem))) (by first | exact hj2 | exact hj | rfl | exact congrArg (fun n : Nat => (n : Int)) hlx) (hg6)) ?_
        refine WL.run (d := 63) (by rfl) (by rfl) ?_
        refine WL.p (by rfl) (Yl.loadA agg52 (by rfl) (Sl.Ok.at_ (hs.okow (x := s6) (F := F6) (by repeat (first | exact List.mem_cons_self | apply List.mem_cons_of_mem))) (by assumption)).2 (by rfl)) ?_
        refine WL.run (d := 63) (by rfl) (by rfl) ?_
        have hjL : idxF (onHost a.host) (l.l.map PServer.lg) 0 < 0 := by rw [idx_host]; exact h1
        have hw9 : s5.l.map PServer.lg = withHost (l.l.map PServer.lg) a.host := by rw [(host_new hjL).1, hl5, List.map_append, hx3]; rfl
        have hi9 : hostIx (l.l.map PServer.lg) a.host = l.l.length := by rw [(host_new hjL).2, List.length_map]
        have hd9 : s5.l[l.l.length]? = some (⟨a.host, ⟨[], none, 0⟩⟩ : PServer) := get_last hl5 hlx
        have hu9 : PServer.lg (⟨(⟨a.host, ⟨[], none, 0⟩⟩ : PServer).host, a6⟩ : PServer) = putOn (PServer.lg (⟨a.host, ⟨[], none, 0⟩⟩ : PServer)) a.path y := by
          rw [putOn_found (s := PServer.lg (⟨a.host, ⟨[], none, 0⟩⟩ : PServer)) hj2 hd2]
          simp only [PServer.lg, hm6]
        have hall9 : s6.l.map PServer.lg = putAll (l.l.map PServer.lg) a y := by rw [hl6]; exact put_all hw9 hi9 hd9 hu9
        have hpi9 := put_is hall9 hi9 hg6
        have hln9 : s6.l.length = s5.l.length := by rw [hl6, List.length_set]
        rw [hln9] at hpi9
        refine WL.callp hs (by rfl) (Yc.func (by rfl) fn31) (c_impl_IsServer _ _ (Sl.Ok.elem (hs.okow (x := s6) (F := F6) (by repeat (first | exact List.mem_cons_self | apply List.mem_cons_of_mem))) hg6) (by show ∀ f ∈ (PServer.lg _).files, _; rw [hu9]; exact putOn_pol hDp hpy) (by first | assumption | exact Sat.cellm hs (by assumption))) ?_
        clear hs; intro w hs
        refine WL.run (d := 63) (by rfl) (by rfl) ?_
        refine WL.p (by rfl) (Yl.not (by rfl)) ?_
        refine WL.p (by rfl) (Yl.pickF (by rfl) (by rfl)) ?_
        refine WL.next ?_
        refine WC.condS (by rfl) (fun h4 => ?_) (fun h4 => ?_)
        ·
          replace h4 := not_eq_true h4
          refine WC.seq ?_
          refine WL.p (by rfl) (Yl.move (by rfl)) ?_
          refine WL.call hs (by rfl) (Yc.func (by rfl) fn28) (c_impl_copyServers _ _ (Ph.old h_l hs) (by exact hbz)) ?_
          have hs0 := hs; clear hs; intro v w hb hR hs; clear hs
          obtain ⟨x8, rfl, hx8, hf8⟩ := hR
          obtain ⟨F8, hs⟩ := hf8.sat hs0 hb; clear hs0 hf8
          have hle8 := Sl.Ok.le (hs.okow (x := x8) (F := F8) (by repeat (first | exact List.mem_cons_self | apply List.mem_cons_of_mem)))
          refine WL.p (by rfl) (Yl.assign (by rfl)) ?_
          refine WL.p (by rfl) (Yl.assign (by rfl)) ?_
          refine WL.next ?_
          refine WC.ret ?_
          refine At.thenret ?_
          refine fin2' rfl (by rfl) (by rfl) ?_
          refine Ret.mk hs ?_
          have hjL : idxF (onHost a.host) (l.l.map PServer.lg) 0 < 0 := by rw [idx_host]; exact h1
          have hw9 : s5.l.map PServer.lg = withHost (l.l.map PServer.lg) a.host := by rw [(host_new hjL).1, hl5, List.map_append, hx3]; rfl
          have hi9 : hostIx (l.l.map PServer.lg) a.host = l.l.length := by rw [(host_new hjL).2, List.length_map]
          have hd9 : s5.l[l.l.length]? = some (⟨a.host, ⟨[], none, 0⟩⟩ : PServer) := get_last hl5 hlx
          have hu9 : PServer.lg (⟨(⟨a.host, ⟨[], none, 0⟩⟩ : PServer).host, a6⟩ : PServer) = putOn (PServer.lg (⟨a.host, ⟨[], none, 0⟩⟩ : PServer)) a.path y := by
            rw [putOn_found (s := PServer.lg (⟨a.host, ⟨[], none, 0⟩⟩ : PServer)) hj2 hd2]
            simp only [PServer.lg, hm6]
          have hall9 : s6.l.map PServer.lg = putAll (l.l.map PServer.lg) a y := by rw [hl6]; exact put_all hw9 hi9 hd9 hu9
          have hpi9 := put_is hall9 hi9 hg6
          have hln9 : s6.l.length = s5.l.length := by rw [hl6, List.length_set]
          rw [hln9] at hpi9
          have hb9 : putIs (l.l.map PServer.lg) a y = false := by
            clear hs
            rw [hpi9]
            first
              | (simp_all; done)
              | (simp_all; omega)
              | (rw [Bool.and_eq_false_iff]; left; exact decide_eq_false (by omega))
              | (rw [Bool.and_eq_true]; exact ⟨decide_eq_true (by omega), by simp_all⟩)
              | (rw [Bool.and_eq_false_iff]; right; simp_all)
          exact ⟨x8, by rw [hb9], hx8.trans (putFile_no hb9).symm, hs.fresh (by repeat (first | exact List.mem_cons_self | apply List.mem_cons_of_mem))⟩
        ·
          replace h4 := not_eq_false h4
          refine WC.skipn ?_
          refine WC.seq ?_
          refine WL.p (by rfl) (Yl.move (by rfl)) ?_
          refine WL.p (by rfl) (Yl.assign (by rfl)) ?_
          refine WL.p (by rfl) (Yl.assign (by rfl)) ?_
          refine WL.next ?_
          refine WC.ret ?_
          refine fin2' rfl (by rfl) (by rfl) ?_
          refine Ret.mk hs ?_
          have hjL : idxF (onHost a.host) (l.l.map PServer.lg) 0 < 0 := by rw [idx_host]; exact h1
          have hw9 : s5.l.map PServer.lg = withHost (l.l.map PServer.lg) a.host := by rw [(host_new hjL).1, hl5, List.map_append, hx3]; rfl
          have hi9 : hostIx (l.l.map PServer.lg) a.host = l.l.length := by rw [(host_new hjL).2, List.length_map]
          have hd9 : s5.l[l.l.length]? = some (⟨a.host, ⟨[], none, 0⟩⟩ : PServer) := get_last hl5 hlx
          have hu9 : PServer.lg (⟨(⟨a.host, ⟨[], none, 0⟩⟩ : PServer).host, a6⟩ : PServer) = putOn (PServer.lg (⟨a.host, ⟨[], none, 0⟩⟩ : PServer)) a.path y := by
            rw [putOn_found (s := PServer.lg (⟨a.host, ⟨[], none, 0⟩⟩ : PServer)) hj2 hd2]
            simp only [PServer.lg, hm6]
          have hall9 : s6.l.map PServer.lg = putAll (l.l.map PServer.lg) a y := by rw [hl6]; exact put_all hw9 hi9 hd9 hu9
          have hpi9 := put_is hall9 hi9 hg6
          have hln9 : s6.l.length = s5.l.length := by rw [hl6, List.length_set]
          rw [hln9] at hpi9
          have hb9 : putIs (l.l.map PServer.lg) a y = true := by
            clear hs
            rw [hpi9]
            first
              | (simp_all; done)
              | (simp_all; omega)
              | (rw [Bool.and_eq_false_iff]; left; exact decide_eq_false (by omega))
              | (rw [Bool.and_eq_true]; exact ⟨decide_eq_true (by omega), by simp_all⟩)
              | (rw [Bool.and_eq_false_iff]; right; simp_all)
          exact ⟨s6, by rw [hb9]; exact congrArg (fun z => Value.tuple #[z, Bo true]) (hv6).symm, hall9.trans (putFile_yes hb9).symm, hs.fresh (by repeat (first | exact List.mem_cons_self | apply List.mem_cons_of_mem))⟩
    ·
      replace h2 := of_decide_eq_false h2
      refine WC.anyX (K := [ow s5 F5]) mixed hs (by repeat (first | exact Sel.nil | (apply Sel.cons; (repeat (first | exact Ext.here | apply Ext.there))))) ?_
      clear hs; intro w hs
      refine WA.p (i := 0) (by rfl) (by kernel_rfl) (by kernel_rfl) (by kernel_rfl) (by rfl) (hs.only (by repeat (first | exact Sel.nil | (apply Sel.cons; (repeat (first | exact Ext.here | apply Ext.there)))))) (fun w hs => Yl.move (by rfl)) ?_
      refine WA.p (i := 1) (by rfl) (by kernel_rfl) (by kernel_rfl) (by kernel_rfl) (by rfl) (hs.only (by repeat (first | exact Sel.nil | (apply Sel.cons; (repeat (first | exact Ext.here | apply Ext.there)))))) (fun w hs => Yl.move (by rfl)) ?_
      refine WA.p (i := 2) (by rfl) (by kernel_rfl) (by kernel_rfl) (by kernel_rfl) (by rfl) (hs.only (by repeat (first | exact Sel.nil | (apply Sel.cons; (repeat (first | exact Ext.here | apply Ext.there)))))) (fun w hs => Yl.move (by rfl)) ?_
      refine WA.p (i := 3) (by rfl) (by kernel_rfl) (by kernel_rfl) (by kernel_rfl) (by rfl) (hs.only (by repeat (first | exact Sel.nil | (apply Sel.cons; (repeat (first | exact Ext.here | apply Ext.there)))))) (fun w hs => Yl.move (by rfl)) ?_
      have hadr800 := (Sl.Ok.at_ (hs.okow (x := s5) (F := F5) (by repeat (first | exact List.mem_cons_self | apply List.mem_cons_of_mem))) ((get_last hl5 hlx))).1
      refine WA.p (i := 4) (by rfl) (by kernel_rfl) (by kernel_rfl) (by kernel_rfl) (by rfl) (hs.only (by repeat (first | exact Sel.nil | (apply Sel.cons; (repeat (first | exact Ext.here | apply Ext.there)))))) (fun w hs => Yl.indexAddrA slt31 (by rfl) (by rfl) hadr800 (by first | exact hj2 | exact hj | rfl | exact congrArg (fun n : Nat => (n : Int)) hlx) ((get_last hl5 hlx))) ?_
      refine WA.p (i := 5) (by rfl) (by kernel_rfl) (by kernel_rfl) (by kernel_rfl) (by rfl) (hs.only (by repeat (first | exact Sel.nil | (apply Sel.cons; (repeat (first | exact Ext.here | apply Ext.there)))))) (fun w hs => Yl.fieldAddr fa52_1 (by rfl)) ?_
      refine WA.p (i := 7) (by rfl) (by kernel_rfl) (by kernel_rfl) (by kernel_rfl) (by rfl) (hs.only (by repeat (first | exact Sel.nil | (apply Sel.cons; (repeat (first | exact Ext.here | apply Ext.there)))))) (fun w hs => Yl.fieldAddr fa35_1 (by rfl)) ?_
      refine WA.p (i := 8) (by rfl) (by kernel_rfl) (by kernel_rfl) (by kernel_rfl) (by rfl) (hs.only (by repeat (first | exact Sel.nil | (apply Sel.cons; (repeat (first | exact Ext.here | apply Ext.there)))))) (fun w hs => Yl.loadB sca9 (by rfl) hs (by repeat (first | exact List.mem_cons_self | apply List.mem_cons_of_mem)) (by rfl)) ?_
      refine WA.p (i := 9) (by rfl) (by kernel_rfl) (by kernel_rfl) (by kernel_rfl) (by rfl) (hs.only (by repeat (first | exact Sel.nil | (apply Sel.cons; (repeat (first | exact Ext.here | apply Ext.there)))))) (fun w hs => Yl.loadAB agg37 (by rfl) hs (by repeat (first | exact List.mem_cons_self | apply List.mem_cons_of_mem)) (by rfl) (by rfl)) ?_
      refine WA.p (i := 10) (by rfl) (by kernel_rfl) (by kernel_rfl) (by kernel_rfl) (by rfl) (hs.only (by repeat (first | exact Sel.nil | (apply Sel.cons; (repeat (first | exact Ext.here | apply Ext.there)))))) (fun w hs => Yl.build bt55 (by rfl) (by repeat (first | exact Fill.nil | (apply Fill.cons; rfl; rfl; rfl; repeat (first | (apply SetAt.here; repeat (first | exact Over.nil | apply Over.cons)) | apply SetAt.there))))) ?_
      refine WA.dag' [(⟨6, 51, [], (fun _ v cs => v = Sl.v (⟨a.host, ⟨[], none, 0⟩⟩ : PServer).files ∧ cs = [])⟩, []), (⟨11, 56, [], (fun _ v cs => ∃ b, v = .slice (some ⟨b, 0, none⟩) 1 1 ∧ cs = [box b 55 ((Ph.enc ((⟨a.path, y⟩ : TFile))))])⟩, [])] [false, false] [(0, _), (1, _), (2, _), (4, _), (5, _), (6, _), (7, _), (8, _), (9, _), (10, _), (11, _), (12, _), (13, _), (14, _), (15, _), (16, _), (17, _), (18, _), (19, _), (20, _), (21, _), (22, _), (23, _), (24, _), (25, _), (26, _), (27, _), (28, _), (29, _), (30, _), (31, _), (32, _), (33, _), (34, _), (35, _), (45, _), (46, _), (47, _), (48, _), (49, _), (50, _), (52, _), (53, _), (54, _), (55, _)] ⟨by rfl, by rfl, by rfl, by rfl, by rfl, by rfl, by rfl, by rfl, by rfl, by rfl, by rfl, by rfl, by rfl, by rfl, by rfl, by rfl, by rfl, by rfl, by rfl, by rfl, by rfl, by rfl, by rfl, by rfl, by rfl, by rfl, by rfl, by rfl, by rfl, by rfl, by rfl, by rfl, by rfl, by rfl, by rfl, by rfl, by rfl, by rfl, by rfl, by rfl, by rfl, by rfl, by rfl, by rfl, by rfl, trivial⟩ (by rfl) (by kernel_rfl) (by kernel_rfl) (by kernel_rfl) (by kernel_rfl) (by kernel_rfl) (by kernel_rfl) (by kernel_rfl) (by kernel_rfl) (fun _ hs => hs.only (by repeat (first | exact Sel.nil | (apply Sel.cons; (repeat (first | exact Ext.here | apply Ext.there)))))) hs (fuel := 4) ⟨⟨local_const, ?_⟩, ⟨local_const, ?_⟩, trivial⟩ ?_
      ·
        clear hs
        intro w R hs
        simp only [List.cons_append, List.nil_append] at hs
        exact Gives.p' (by rfl) (Yl.loadC sca50 (by rfl) (Sl.Ok.at_ (hs.okow (x := s5) (F := F5) (by repeat (first | exact List.mem_cons_self | apply List.mem_cons_of_mem))) ((get_last hl5 hlx))).2 (by rfl)) ⟨[], ⟨rfl, rfl⟩, hs⟩
      ·
        clear hs
        intro w R hs
        simp only [List.cons_append, List.nil_append] at hs
        exact Gives.rr' (by rfl) (Yr.buildSlice hs sll50 (by rfl) (by rfl) (by rfl) (by repeat (first | exact Fill.nil | (apply Fill.cons; rfl; rfl; rfl; repeat (first | (apply SetAt.here; repeat (first | exact Over.nil | apply Over.cons)) | apply SetAt.there)))) (by rfl)) (fun _ _ ⟨b, hv, _, hs1⟩ => ⟨[box b 55 ((Ph.enc ((⟨a.path, y⟩ : TFile))))], ⟨b, hv, rfl⟩, hs1⟩)
      clear hs
      rintro _ _ ⟨rfl, rfl⟩
      rintro _ _ ⟨b10, rfl, rfl⟩
      intro w hs
      simp only [List.cons_append, List.nil_append, cond_true, cond_false] at hs
      obtain ⟨G11, B11, hs⟩ := Sat.lend (hs.sel (D := [ow s5 F5]) (by repeat (first | exact Sel.nil | (apply Sel.cons; (repeat (first | exact Ext.here | apply Ext.there)))))) (get_last hl5 hlx)
      obtain ⟨K11, hfl11, hs⟩ := PServer.split hs
      try simp only [List.cons_append, List.nil_append] at hs
      refine WA.r (i := 12) (by kernel_rfl) (by rfl) (by rfl) (Yr.append (s := (⟨a.host, ⟨[], none, 0⟩⟩ : PServer).files) (F := K11) hs elt50 (by repeat (first | exact Sel.nil | (apply Sel.cons; (repeat (first | exact Ext.here | apply Ext.there))))) (by rfl) (by rfl) rfl (xs := [(⟨a.path, y⟩ : TFile)]) (hs.box_cells (by repeat (first | exact List.mem_cons_self | apply List.mem_cons_of_mem))) (by intro x hx; obtain rfl := List.mem_singleton.1 hx; exact ⟨Flat.any h_a.path, Flat.any h_y⟩) (by first | (rw [hlx]; unfold maxLen; omega) | (simp only [List.length_nil, List.length_singleton]; unfold maxLen; omega) | (simp; unfold maxLen; omega)) (by first | (rw [hlx]; omega) | omega | (simp only [List.length_nil, List.length_singleton]; omega) | (simp; omega))) (by rintro _ w ⟨s12, F12, rfl, hl12, hs⟩; exact hs.only (by repeat (first | exact Sel.nil | (apply Sel.cons; (repeat (first | exact Ext.here | apply Ext.there)))))) ?_
      clear hs; rintro _ w ⟨s12, F12, rfl, hl12, hs⟩
      refine WA.p (i := 13) (by rfl) (by kernel_rfl) (by kernel_rfl) (by kernel_rfl) (by rfl) (hs.only (by repeat (first | exact Sel.nil | (apply Sel.cons; (repeat (first | exact Ext.here | apply Ext.there)))))) (fun w hs => Yl.indexAddrA slt31 (by rfl) (by rfl) hadr800 (by first | exact hj2 | exact hj | rfl | exact congrArg (fun n : Nat => (n : Int)) hlx) ((get_last hl5 hlx))) ?_
      refine WA.p (i := 14) (by rfl) (by kernel_rfl) (by kernel_rfl) (by kernel_rfl) (by rfl) (hs.only (by repeat (first | exact Sel.nil | (apply Sel.cons; (repeat (first | exact Ext.here | apply Ext.there)))))) (fun w hs => Yl.fieldAddr fa52_1 (by rfl)) ?_
      replace hs := PServer.join (⟨(⟨a.host, ⟨[], none, 0⟩⟩ : PServer).host, s12⟩ : PServer) (hs.sel (D := [ow s12 F12]) (by repeat (first | exact Sel.nil | (apply Sel.cons; (repeat (first | exact Ext.here | apply Ext.there)))))) (Flat.any hfl11.1)
      try simp only [List.cons_append, List.nil_append] at hs
      refine WA.s (i := 15) (by kernel_rfl) (by rfl) (Yr.storeHole (s := s5) (G := G11) (B := F12) (d := (⟨a.host, ⟨[], none, 0⟩⟩ : PServer)) (u := (⟨(⟨a.host, ⟨[], none, 0⟩⟩ : PServer).host, s12⟩ : PServer)) (k := l.l.length) (j := 1) hs (by repeat (first | exact Sel.nil | (apply Sel.cons; (repeat (first | exact Ext.here | apply Ext.there))))) (by rfl) (by rfl) (by rfl) (get_last hl5 hlx) ⟨_, by rfl, by rfl⟩ (by repeat (first | (apply SetAt.here; repeat (first | exact Over.nil | apply Over.cons)) | apply SetAt.there)) (by rfl) (by exact szf50)) (by rintro _ w ⟨s13, F13, hv13, hl13, hg13, hs⟩; exact hs.only (by repeat (first | exact Sel.nil | (apply Sel.cons; (repeat (first | exact Ext.here | apply Ext.there)))))) ?_
      clear hs; rintro _ w ⟨s13, F13, hv13, hl13, hg13, hs⟩
      refine WA.done (by kernel_rfl) ?_
      refine At.then_ ?_
      refine WC.seq' ?_
      refine WC.seq ?_
      refine WL.p (by rfl) (Yl.move (by rfl)) ?_
      refine WL.p (by rfl) (Yl.len_sl slu31 (by rfl)) ?_
      refine WL.p (by rfl) (Yl.gtr (by rfl) (by rfl)) ?_
      refine WL.p (by rfl) (Yl.move (by rfl)) ?_
      refine WL.split (d := 63) (by rfl) (fun h3 => ?_) (fun h3 => ?_)
      ·
        replace h3 := of_decide_eq_true h3
        refine WL.skip (d := 63) (by rfl) (by rfl) (by rfl) (by rfl) ?_
        refine WL.skip (d := 63) (by rfl) (by rfl) (by rfl) (by rfl) ?_
        refine WL.skip (d := 63) (by rfl) (by rfl) (by rfl) (by rfl) ?_
        refine WL.skip (d := 63) (by rfl) (by rfl) (by rfl) (by rfl) ?_
        refine WL.skip (d := 63) (by rfl) (by rfl) (by rfl) (by rfl) ?_
        refine WL.skip (d := 63) (by rfl) (by rfl) (by rfl) (by rfl) ?_
        refine WL.p (by rfl) (Yl.pickT (by rfl) (by rfl)) ?_
        refine WL.next ?_
        refine WC.condT (by rfl) ?_
        refine WC.seq ?_
        refine WL.p (by rfl) (Yl.move (by rfl)) ?_
        refine WL.call hs (by rfl) (Yc.func (by rfl) fn28) (c_impl_copyServers _ _ (Ph.old h_l hs) (by exact hbz)) ?_
        have hs0 := hs; clear hs; intro v w hb hR hs; clear hs
        obtain ⟨x14, rfl, hx14, hf14⟩ := hR
        obtain ⟨F14, hs⟩ := hf14.sat hs0 hb; clear hs0 hf14
        have hle14 := Sl.Ok.le (hs.okow (x := x14) (F := F14) (by repeat (first | exact List.mem_cons_self | apply List.mem_cons_of_mem)))
        refine WL.p (by rfl) (Yl.assign (by rfl)) ?_
        refine WL.p (by rfl) (Yl.assign (by rfl)) ?_
        refine WL.next ?_
        refine WC.ret ?_
        refine At.thenret ?_
        refine fin2' rfl (by rfl) (by rfl) ?_
        refine Ret.mk hs ?_
        have hjL : idxF (onHost a.host) (l.l.map PServer.lg) 0 < 0 := by rw [idx_host]; exact h1
        have hw9 : s5.l.map PServer.lg = withHost (l.l.map PServer.lg) a.host := by rw [(host_new hjL).1, hl5, List.map_append, hx3]; rfl
        have hi9 : hostIx (l.l.map PServer.lg) a.host = l.l.length := by rw [(host_new hjL).2, List.length_map]
        have hd9 : s5.l[l.l.length]? = some (⟨a.host, ⟨[], none, 0⟩⟩ : PServer) := get_last hl5 hlx
        have hu9 : PServer.lg (⟨(⟨a.host, ⟨[], none, 0⟩⟩ : PServer).host, s12⟩ : PServer) = putOn (PServer.lg (⟨a.host, ⟨[], none, 0⟩⟩ : PServer)) a.path y := by
          rw [putOn_new (s := PServer.lg (⟨a.host, ⟨[], none, 0⟩⟩ : PServer)) (Int.not_le.1 h2)]
          simp only [PServer.lg, hl12]
        have hall9 : s13.l.map PServer.lg = putAll (l.l.map PServer.lg) a y := by rw [hl13]; exact put_all hw9 hi9 hd9 hu9
        have hpi9 := put_is hall9 hi9 hg13
        have hln9 : s13.l.length = s5.l.length := by rw [hl13, List.length_set]
        rw [hln9] at hpi9
        have hb9 : putIs (l.l.map PServer.lg) a y = false := by
          clear hs
          rw [hpi9]
          first
            | (simp_all; done)
            | (simp_all; omega)
            | (rw [Bool.and_eq_false_iff]; left; exact decide_eq_false (by omega))
            | (rw [Bool.and_eq_true]; exact ⟨decide_eq_true (by omega), by simp_all⟩)
            | (rw [Bool.and_eq_false_iff]; right; simp_all)
        exact ⟨x14, by rw [hb9], hx14.trans (putFile_no hb9).symm, hs.fresh (by repeat (first | exact List.mem_cons_self | apply List.mem_cons_of_mem))⟩
      ·
        replace h3 := of_decide_eq_false h3
        refine WL.run (d := 63) (by rfl) (by rfl) ?_
        refine WL.p (by rfl) (Yl.move (by rfl)) ?_
        refine WL.run (d := 63) (by rfl) (by rfl) ?_
        refine WL.p (by rfl) (Yl.move (by rfl)) ?_
        refine WL.run (d := 63) (by rfl) (by rfl) ?_
        refine WL.p (by rfl) (Yl.indexAddrV slt31 (by rfl) hv13 (by rfl) (hs.okow (x := s13) (F := F13) (by repeat (first | exact List.mem_cons_self | apply List.mem_cons_of_mem))) (by first | exact hj2 | exact hj | rfl | exact congrArg (fun n : Nat => (n : Int)) hlx) (hg13)) ?_
        refine WL.run (d := 63) (by rfl) (by rfl) ?_
        refine WL.p (by rfl) (Yl.loadA agg52 (by rfl) (Sl.Ok.at_ (hs.okow (x := s13) (F := F13) (by repeat (first | exact List.mem_cons_self | apply List.mem_cons_of_mem))) (by assumption)).2 (by rfl)) ?_
        refine WL.run (d := 63) (by rfl) (by rfl) ?_
        have hjL : idxF (onHost a.host) (l.l.map PServer.lg) 0 < 0 := by rw [idx_host]; exact h1
        have hw9 : s5.l.map PServer.lg = withHost (l.l.map PServer.lg) a.host := by rw [(host_new hjL).1, hl5, List.map_append, hx3]; rfl
        have hi9 : hostIx (l.l.map PServer.lg) a.host = l.l.length := by rw [(host_new hjL).2, List.length_map]
        have hd9 : s5.l[l.l.length]? = some (⟨a.host, ⟨[], none, 0⟩⟩ : PServer) := get_last hl5 hlx
        have hu9 : PServer.lg (⟨(⟨a.host, ⟨[], none, 0⟩⟩ : PServer).host, s12⟩ : PServer) = putOn (PServer.lg (⟨a.host, ⟨[], none, 0⟩⟩ : PServer)) a.path y := by
          rw [putOn_new (s := PServer.lg (⟨a.host, ⟨[], none, 0⟩⟩ : PServer)) (Int.not_le.1 h2)]
          simp only [PServer.lg, hl12]
        have hall9 : s13.l.map PServer.lg = putAll (l.l.map PServer.lg) a y := by rw [hl13]; exact put_all hw9 hi9 hd9 hu9
        have hpi9 := put_is hall9 hi9 hg13
        have hln9 : s13.l.length = s5.l.length := by rw [hl13, List.length_set]
        rw [hln9] at hpi9
        refine WL.callp hs (by rfl) (Yc.func (by rfl) fn31) (c_impl_IsServer _ _ (Sl.Ok.elem (hs.okow (x := s13) (F := F13) (by repeat (first | exact List.mem_cons_self | apply List.mem_cons_of_mem))) hg13) (by show ∀ f ∈ (PServer.lg _).files, _; rw [hu9]; exact putOn_pol hDp hpy) (by first | assumption | exact Sat.cellm hs (by assumption))) ?_
        clear hs; intro w hs
        refine WL.run (d := 63) (by rfl) (by rfl) ?_
        refine WL.p (by rfl) (Yl.not (by rfl)) ?_
        refine WL.p (by rfl) (Yl.pickF (by rfl) (by rfl)) ?_
        refine WL.next ?_
        refine WC.condS (by rfl) (fun h4 => ?_) (fun h4 => ?_)
        ·
          replace h4 := not_eq_true h4
          refine WC.seq ?_
          refine WL.p (by rfl) (Yl.move (by rfl)) ?_
          refine WL.call hs (by rfl) (Yc.func (by rfl) fn28) (c_impl_copyServers _ _ (Ph.old h_l hs) (by exact hbz)) ?_
          have hs0 := hs; clear hs; intro v w hb hR hs; clear hs
          obtain ⟨x15, rfl, hx15, hf15⟩ := hR
          obtain ⟨F15, hs⟩ := hf15.sat hs0 hb; clear hs0 hf15
          have hle15 := Sl.Ok.le (hs.okow (x := x15) (F := F15) (by repeat (first | exact List.mem_cons_self | apply List.mem_cons_of_mem)))
          refine WL.p (by rfl) (Yl.assign (by rfl)) ?_
          refine WL.p (by rfl) (Yl.assign (by rfl)) ?_
          refine WL.next ?_
          refine WC.ret ?_
          refine At.thenret ?_
          refine fin2' rfl (by rfl) (by rfl) ?_
          refine Ret.mk hs ?_
          have hjL : idxF (onHost a.host) (l.l.map PServer.lg) 0 < 0 := by rw [idx_host]; exact h1
          have hw9 : s5.l.map PServer.lg = withHost (l.l.map PServer.lg) a.host := by rw [(host_new hjL).1, hl5, List.map_append, hx3]; rfl
          have hi9 : hostIx (l.l.map PServer.lg) a.host = l.l.length := by rw [(host_new hjL).2, List.length_map]
          have hd9 : s5.l[l.l.length]? = some (⟨a.host, ⟨[], none, 0⟩⟩ : PServer) := get_last hl5 hlx
          have hu9 : PServer.lg (⟨(⟨a.host, ⟨[], none, 0⟩⟩ : PServer).host, s12⟩ : PServer) = putOn (PServer.lg (⟨a.host, ⟨[], none, 0⟩⟩ : PServer)) a.path y := by
            rw [putOn_new (s := PServer.lg (⟨a.host, ⟨[], none, 0⟩⟩ : PServer)) (Int.not_le.1 h2)]
            simp only [PServer.lg, hl12]
          have hall9 : s13.l.map PServer.lg = putAll (l.l.map PServer.lg) a y := by rw [hl13]; exact put_all hw9 hi9 hd9 hu9
          have hpi9 := put_is hall9 hi9 hg13
          have hln9 : s13.l.length = s5.l.length := by rw [hl13, List.length_set]
          rw [hln9] at hpi9
          have hb9 : putIs (l.l.map PServer.lg) a y = false := by
            clear hs
            rw [hpi9]
            first
              | (simp_all; done)
              | (simp_all; omega)
              | (rw [Bool.and_eq_false_iff]; left; exact decide_eq_false (by omega))
              | (rw [Bool.and_eq_true]; exact ⟨decide_eq_true (by omega), by simp_all⟩)
              | (rw [Bool.and_eq_false_iff]; right; simp_all)
          exact ⟨x15, by rw [hb9], hx15.trans (putFile_no hb9).symm, hs.fresh (by repeat (first | exact List.mem_cons_self | apply List.mem_cons_of_mem))⟩
        ·
          replace h4 := not_eq_false h4
          refine WC.skipn ?_
          refine WC.seq ?_
          refine WL.p (by rfl) (Yl.move (by rfl)) ?_
          refine WL.p (by rfl) (Yl.assign (by rfl)) ?_
          refine WL.p (by rfl) (Yl.assign (by rfl)) ?_
          refine WL.next ?_
          refine WC.ret ?_
          refine fin2' rfl (by rfl) (by rfl) ?_
          refine Ret.mk hs ?_
          have hjL : idxF (onHost a.host) (l.l.map PServer.lg) 0 < 0 := by rw [idx_host]; exact h1
          have hw9 : s5.l.map PServer.lg = withHost (l.l.map PServer.lg) a.host := by rw [(host_new hjL).1, hl5, List.map_append, hx3]; rfl
          have hi9 : hostIx (l.l.map PServer.lg) a.host = l.l.length := by rw [(host_new hjL).2, List.length_map]
          have hd9 : s5.l[l.l.length]? = some (⟨a.host, ⟨[], none, 0⟩⟩ : PServer) := get_last hl5 hlx
          have hu9 : PServer.lg (⟨(⟨a.host, ⟨[], none, 0⟩⟩ : PServer).host, s12⟩ : PServer) = putOn (PServer.lg (⟨a.host, ⟨[], none, 0⟩⟩ : PServer)) a.path y := by
            rw [putOn_new (s := PServer.lg (⟨a.host, ⟨[], none, 0⟩⟩ : PServer)) (Int.not_le.1 h2)]
            simp only [PServer.lg, hl12]
          have hall9 : s13.l.map PServer.lg = putAll (l.l.map PServer.lg) a y := by rw [hl13]; exact put_all hw9 hi9 hd9 hu9
          have hpi9 := put_is hall9 hi9 hg13
          have hln9 : s13.l.length = s5.l.length := by rw [hl13, List.length_set]
          rw [hln9] at hpi9
          have hb9 : putIs (l.l.map PServer.lg) a y = true := by
            clear hs
            rw [hpi9]
            first
              | (simp_all; done)
              | (simp_all; omega)
              | (rw [Bool.and_eq_false_iff]; left; exact decide_eq_false (by omega))
              | (rw [Bool.and_eq_true]; exact ⟨decide_eq_true (by omega), by simp_all⟩)
              | (rw [Bool.and_eq_false_iff]; right; simp_all)
          exact ⟨s13, by rw [hb9]; exact congrArg (fun z => Value.tuple #[z, Bo true]) (hv13).symm, hall9.trans (putFile_yes hb9).symm, hs.fresh (by repeat (first | exact List.mem_cons_self | apply List.mem_cons_of_mem))⟩
  ·
    replace h1 := of_decide_eq_false h1
    have hlx : x3.l.length = l.l.length := by have h9 := congrArg List.length hx3; simpa using h9
    obtain ⟨j, d, hj, hd, hf⟩ := idxF_some h1
    rw [Nat.zero_add] at hj
    obtain ⟨dx, hdx, hdl⟩ := get_map hx3 hd
    have hDp : ∀ f ∈ (PServer.lg dx).files, f.response.policy.length ≤ 1048576 := by rw [hdl]; exact srvs_pol hbz (List.mem_map.2 ⟨d, List.mem_of_getElem? hd, rfl⟩)
    have hdf : dx.files.l.length ≤ 1048576 := by
      have h9 := lsum_le (f := TServer.size) (List.mem_map.2 ⟨d, List.mem_of_getElem? hd, rfl⟩ : PServer.lg d ∈ l.l.map PServer.lg)
      rw [← hdl] at h9
      simp only [TServer.size, lsz, PServer.lg] at h9 hbz; omega
    refine WC.skipn ?_
    refine WC.seq' ?_
    refine WC.quietn mixed (by kernel_rfl) hs ?_
    refine WQ.p (by rfl) (fun w hs => Yl.move (by rfl)) ?_
    refine WQ.p (by rfl) (fun w hs => Yl.move (by rfl)) ?_
    refine WQ.p (by rfl) (fun w hs => Yl.indexAddr slt31 (by rfl) (by rfl) (hs.okow (x := x3) (F := F3) (by repeat (first | exact List.mem_cons_self | apply List.mem_cons_of_mem))) (by first | exact hj2 | exact hj | rfl | exact congrArg (fun n : Nat => (n : Int)) hlx) (hdx)) ?_
    refine WQ.p (by rfl) (fun w hs => Yl.loadA agg52 (by rfl) (Sl.Ok.at_ (hs.okow (x := x3) (F := F3) (by repeat (first | exact List.mem_cons_self | apply List.mem_cons_of_mem))) (by assumption)).2 (by rfl)) ?_
    refine WQ.p (by rfl) (fun w hs => Yl.fieldAddr fa35_1 (by rfl)) ?_
    refine WQ.p (by rfl) (fun w hs => Yl.loadB sca9 (by rfl) hs (by repeat (first | exact List.mem_cons_self | apply List.mem_cons_of_mem)) (by rfl)) ?_
    refine WQ.callp (by rfl) (fun w => Yc.func (by rfl) fn30) (fun w hs => (c_impl_fileAt _ _ _ (Sl.Ok.elem (hs.okow (x := x3) (F := F3) (by repeat (first | exact List.mem_cons_self | apply List.mem_cons_of_mem))) hdx))) (fun _ _ hs hb => hs.ext hb) ?_
    refine WQ.p (by rfl) (fun w hs => Yl.assign (by rfl)) ?_
    refine WQ.next ?_
    clear hs; intro w hs
    refine WC.seq ?_
    refine WL.p (by rfl) (Yl.move (by rfl)) ?_
    refine WL.p (by rfl) (Yl.geq (by rfl) (by rfl)) ?_
    refine WL.next ?_
    refine WC.condS (by rfl) (fun h2 => ?_) (fun h2 => ?_)
    ·
      replace h2 := of_decide_eq_true h2
      obtain ⟨j2, d2, hj2, hd2, hf2⟩ := idxF_some (Int.not_lt.2 h2)
      rw [Nat.zero_add] at hj2
      refine WC.anyX (K := [ow x3 F3]) mixed hs (by repeat (first | exact Sel.nil | (apply Sel.cons; (repeat (first | exact Ext.here | apply Ext.there))))) ?_
      clear hs; intro w hs
      refine WA.p (i := 0) (by rfl) (by kernel_rfl) (by kernel_rfl) (by kernel_rfl) (by rfl) (hs.only (by repeat (first | exact Sel.nil | (apply Sel.cons; (repeat (first | exact Ext.here | apply Ext.there)))))) (fun w hs => Yl.move (by rfl)) ?_
      refine WA.p (i := 1) (by rfl) (by kernel_rfl) (by kernel_rfl) (by kernel_rfl) (by rfl) (hs.only (by repeat (first | exact Sel.nil | (apply Sel.cons; (repeat (first | exact Ext.here | apply Ext.there)))))) (fun w hs => Yl.move (by rfl)) ?_
      have hadr1500 := (Sl.Ok.at_ (hs.okow (x := x3) (F := F3) (by repeat (first | exact List.mem_cons_self | apply List.mem_cons_of_mem))) (hdx)).1
      refine WA.p (i := 2) (by rfl) (by kernel_rfl) (by kernel_rfl) (by kernel_rfl) (by rfl) (hs.only (by repeat (first | exact Sel.nil | (apply Sel.cons; (repeat (first | exact Ext.here | apply Ext.there)))))) (fun w hs => Yl.indexAddrA slt31 (by rfl) (by rfl) hadr1500 (by first | exact hj2 | exact hj | rfl | exact congrArg (fun n : Nat => (n : Int)) hlx) (hdx)) ?_
      refine WA.p (i := 3) (by rfl) (by kernel_rfl) (by kernel_rfl) (by kernel_rfl) (by rfl) (hs.only (by repeat (first | exact Sel.nil | (apply Sel.cons; (repeat (first | exact Ext.here | apply Ext.there)))))) (fun w hs => Yl.fieldAddr fa52_1 (by rfl)) ?_
      refine WA.p (i := 5) (by rfl) (by kernel_rfl) (by kernel_rfl) (by kernel_rfl) (by rfl) (hs.only (by repeat (first | exact Sel.nil | (apply Sel.cons; (repeat (first | exact Ext.here | apply Ext.there)))))) (fun w hs => Yl.move (by rfl)) ?_
      refine WA.p (i := 6) (by rfl) (by kernel_rfl) (by kernel_rfl) (by kernel_rfl) (by rfl) (hs.only (by repeat (first | exact Sel.nil | (apply Sel.cons; (repeat (first | exact Ext.here | apply Ext.there)))))) (fun w hs => Yl.loadAB agg37 (by rfl) hs (by repeat (first | exact List.mem_cons_self | apply List.mem_cons_of_mem)) (by rfl) (by rfl)) ?_
      refine WA.r (i := 4) (by kernel_rfl) (by rfl) (by rfl) (Yl.yr (Yl.loadC sca50 (by rfl) (Sl.Ok.at_ (hs.okow (x := x3) (F := F3) (by repeat (first | exact List.mem_cons_self | apply List.mem_cons_of_mem))) (by assumption)).2 (by rfl))) (by rintro _ _ ⟨rfl, rfl⟩; exact hs.only (by repeat (first | exact Sel.nil | (apply Sel.cons; (repeat (first | exact Ext.here | apply Ext.there)))))) ?_
      rintro _ _ ⟨rfl, rfl⟩
      have hadr1501 := (Sl.Ok.at_ (Sl.Ok.elem (hs.okow (x := x3) (F := F3) (by repeat (first | exact List.mem_cons_self | apply List.mem_cons_of_mem))) hdx).files (hd2)).1
      refine WA.p (i := 7) (by rfl) (by kernel_rfl) (by kernel_rfl) (by kernel_rfl) (by rfl) (hs.only (by repeat (first | exact Sel.nil | (apply Sel.cons; (repeat (first | exact Ext.here | apply Ext.there)))))) (fun w hs => Yl.indexAddrA slt50 (by rfl) (by rfl) hadr1501 (by first | exact hj2 | exact hj | rfl | exact congrArg (fun n : Nat => (n : Int)) hlx) (hd2)) ?_
      refine WA.p (i := 8) (by rfl) (by kernel_rfl) (by kernel_rfl) (by kernel_rfl) (by rfl) (hs.only (by repeat (first | exact Sel.nil | (apply Sel.cons; (repeat (first | exact Ext.here | apply Ext.there)))))) (fun w hs => Yl.fieldAddr fa55_1 (by rfl)) ?_
      obtain ⟨G16, B16, hs⟩ := Sat.lend (hs.sel (D := [ow x3 F3]) (by repeat (first | exact Sel.nil | (apply Sel.cons; (repeat (first | exact Ext.here | apply Ext.there)))))) hdx
      obtain ⟨K16, hfl16, hs⟩ := PServer.split hs
      try simp only [List.cons_append, List.nil_append] at hs
      have hel16 := Sl.Ok.elem (hs.okow (x := dx.files) (F := K16) (by repeat (first | exact List.mem_cons_self | apply List.mem_cons_of_mem))) hd2
      refine WA.s (i := 9) (by kernel_rfl) (by rfl) (Yr.storeP (s := dx.files) (F := K16) (d := d2) (u := (⟨d2.path, y⟩ : TFile)) (k := j2) (j := 1) hs (by repeat (first | exact Sel.nil | (apply Sel.cons; (repeat (first | exact Ext.here | apply Ext.there))))) (by rfl) (by rfl) (by rfl) hd2 ⟨_, by rfl, by rfl⟩ (by repeat (first | (apply SetAt.here; repeat (first | exact Over.nil | apply Over.cons)) | apply SetAt.there)) (by exact own_part_flat ⟨hel16.path, (by first | assumption | exact Flat.any (by assumption) | (refine Ph.old ?_ hs; assumption))⟩) (by rfl) (by exact szf37)) (by rintro _ w ⟨a16, _, rfl, hw16, hm16, _, hs⟩; exact hs.only (by repeat (first | exact Sel.nil | (apply Sel.cons; (repeat (first | exact Ext.here | apply Ext.there)))))) ?_
      clear hs; rintro _ w ⟨a16, _, rfl, hw16, hm16, _, hs⟩
      replace hs := PServer.join (⟨dx.host, a16⟩ : PServer) (hs.sel (D := [ow a16 K16]) (by repeat (first | exact Sel.nil | (apply Sel.cons; (repeat (first | exact Ext.here | apply Ext.there)))))) (Flat.any hfl16.1)
      try simp only [List.cons_append, List.nil_append] at hs
      obtain ⟨s16, F16, hv16, hl16, hg16, hs⟩ := Sat.back (s := x3) (k := j) (d := dx) (hs.sel (D := [ow (⟨dx.host, a16⟩ : PServer) K16, hl x3 j G16]) (by repeat (first | exact Sel.nil | (apply Sel.cons; (repeat (first | exact Ext.here | apply Ext.there)))))) hdx (by show [S (⟨dx.host, a16⟩ : PServer).host, Sl.v a16] = [S dx.host, Sl.v dx.files]; rw [hw16])
      try simp only [List.cons_append, List.nil_append] at hs
      refine WA.done (by kernel_rfl) ?_
      refine At.then_ ?_
      refine WC.seq' ?_
      refine WC.seq ?_
      refine WL.p (by rfl) (Yl.move (by rfl)) ?_
      refine WL.p (by rfl) (Yl.len_sl slu31 (by rfl)) ?_
      refine WL.p (by rfl) (Yl.gtr (by rfl) (by rfl)) ?_
      refine WL.p (by rfl) (Yl.move (by rfl)) ?_
      refine WL.split (d := 63) (by rfl) (fun h3 => ?_) (fun h3 => ?_)
      ·
        replace h3 := of_decide_eq_true h3
        refine WL.skip (d := 63) (by rfl) (by rfl) (by rfl) (by rfl) ?_
        refine WL.skip (d := 63) (by rfl) (by rfl) (by rfl) (by rfl) ?_
        refine WL.skip (d := 63) (by rfl) (by rfl) (by rfl) (by rfl) ?_
        refine WL.skip (d := 63) (by rfl) (by rfl) (by rfl) (by rfl) ?_
        refine WL.skip (d := 63) (by rfl) (by rfl) (by rfl) (by rfl) ?_
        refine WL.skip (d := 63) (by rfl) (by rfl) (by rfl) (by rfl) ?_
        refine WL.p (by rfl) (Yl.pickT (by rfl) (by rfl)) ?_
        refine WL.next ?_
        refine WC.condT (by rfl) ?_
        refine WC.seq ?_
        refine WL.p (by rfl) (Yl.move (by rfl)) ?_
        refine WL.call hs (by rfl) (Yc.func (by rfl) fn28) (c_impl_copyServers _ _ (Ph.old h_l hs) (by exact hbz)) ?_
        have hs0 := hs; clear hs; intro v w hb hR hs; clear hs
        obtain ⟨x17, rfl, hx17, hf17⟩ := hR
        obtain ⟨F17, hs⟩ := hf17.sat hs0 hb; clear hs0 hf17
        have hle17 := Sl.Ok.le (hs.okow (x := x17) (F := F17) (by repeat (first | exact List.mem_cons_self | apply List.mem_cons_of_mem)))
        refine WL.p (by rfl) (Yl.assign (by rfl)) ?_
        refine WL.p (by rfl) (Yl.assign (by rfl)) ?_
        refine WL.next ?_
        refine WC.ret ?_
        refine At.thenret ?_
        refine fin2' rfl (by rfl) (by rfl) ?_
        refine Ret.mk hs ?_
        have hjL : idxF (onHost a.host) (l.l.map PServer.lg) 0 = (j : Int) := by rw [idx_host]; exact hj
        have hw9 : x3.l.map PServer.lg = withHost (l.l.map PServer.lg) a.host := by rw [(host_hit hjL).1]; exact hx3
        have hi9 : hostIx (l.l.map PServer.lg) a.host = j := (host_hit hjL).2
        have hd9 := hdx
        have hu9 : PServer.lg (⟨dx.host, a16⟩ : PServer) = putOn (PServer.lg dx) a.path y := by
          rw [putOn_found (s := PServer.lg dx) hj2 hd2]
          simp only [PServer.lg, hm16]
        have hall9 : s16.l.map PServer.lg = putAll (l.l.map PServer.lg) a y := by rw [hl16]; exact put_all hw9 hi9 hd9 hu9
        have hpi9 := put_is hall9 hi9 hg16
        have hln9 : s16.l.length = x3.l.length := by rw [hl16, List.length_set]
        rw [hln9] at hpi9
        have hb9 : putIs (l.l.map PServer.lg) a y = false := by
          clear hs
          rw [hpi9]
          first
            | (simp_all; done)
            | (simp_all; omega)
            | (rw [Bool.and_eq_false_iff]; left; exact decide_eq_false (by omega))
            | (rw [Bool.and_eq_true]; exact ⟨decide_eq_true (by omega), by simp_all⟩)
            | (rw [Bool.and_eq_false_iff]; right; simp_all)
        exact ⟨x17, by rw [hb9], hx17.trans (putFile_no hb9).symm, hs.fresh (by repeat (first | exact List.mem_cons_self | apply List.mem_cons_of_mem))⟩
      ·
        replace h3 := of_decide_eq_false h3
        refine WL.run (d := 63) (by rfl) (by rfl) ?_
        refine WL.p (by rfl) (Yl.move (by rfl)) ?_
        refine WL.run (d := 63) (by rfl) (by rfl) ?_
        refine WL.p (by rfl) (Yl.move (by rfl)) ?_
        refine WL.run (d := 63) (by rfl) (by rfl) ?_
        refine WL.p (by rfl) (Yl.indexAddrV slt31 (by rfl) hv16 (by rfl) (hs.okow (x := s16) (F := F16) (by repeat (first | exact List.mem_cons_self | apply List.mem_cons_of_mem))) (by first | exact hj2 | exact hj | rfl | exact congrArg (fun n : Nat => (n : Int)) hlx) (hg16)) ?_
        refine WL.run (d := 63) (by rfl) (by rfl) ?_
        refine WL.p (by rfl) (Yl.loadA agg52 (by rfl) (Sl.Ok.at_ (hs.okow (x := s16) (F := F16) (by repeat (first | exact List.mem_cons_self | apply List.mem_cons_of_mem))) (by assumption)).2 (by rfl)) ?_
        refine WL.run (d := 63) (by rfl) (by rfl) ?_
        have hjL : idxF (onHost a.host) (l.l.map PServer.lg) 0 = (j : Int) := by rw [idx_host]; exact hj
        have hw9 : x3.l.map PServer.lg = withHost (l.l.map PServer.lg) a.host := by rw [(host_hit hjL).1]; exact hx3
        have hi9 : hostIx (l.l.map PServer.lg) a.host = j := (host_hit hjL).2
        have hd9 := hdx
        have hu9 : PServer.lg (⟨dx.host, a16⟩ : PServer) = putOn (PServer.lg dx) a.path y := by
          rw [putOn_found (s := PServer.lg dx) hj2 hd2]
          simp only [PServer.lg, hm16]
        have hall9 : s16.l.map PServer.lg = putAll (l.l.map PServer.lg) a y := by rw [hl16]; exact put_all hw9 hi9 hd9 hu9
        have hpi9 := put_is hall9 hi9 hg16
        have hln9 : s16.l.length = x3.l.length := by rw [hl16, List.length_set]
        rw [hln9] at hpi9
        refine WL.callp hs (by rfl) (Yc.func (by rfl) fn31) (c_impl_IsServer _ _ (Sl.Ok.elem (hs.okow (x := s16) (F := F16) (by repeat (first | exact List.mem_cons_self | apply List.mem_cons_of_mem))) hg16) (by show ∀ f ∈ (PServer.lg _).files, _; rw [hu9]; exact putOn_pol hDp hpy) (by first | assumption | exact Sat.cellm hs (by assumption))) ?_
        clear hs; intro w hs
        refine WL.run (d := 63) (by rfl) (by rfl) ?_
        refine WL.p (by rfl) (Yl.not (by rfl)) ?_
        refine WL.p (by rfl) (Yl.pickF (by rfl) (by rfl)) ?_
        refine WL.next ?_
        refine WC.condS (by rfl) (fun h4 => ?_) (fun h4 => ?_)
        ·
          replace h4 := not_eq_true h4
          refine WC.seq ?_
          refine WL.p (by rfl) (Yl.move (by rfl)) ?_
          refine WL.call hs (by rfl) (Yc.func (by rfl) fn28) (c_impl_copyServers _ _ (Ph.old h_l hs) (by exact hbz)) ?_
          have hs0 := hs; clear hs; intro v w hb hR hs; clear hs
          obtain ⟨x18, rfl, hx18, hf18⟩ := hR
          obtain ⟨F18, hs⟩ := hf18.sat hs0 hb; clear hs0 hf18
          have hle18 := Sl.Ok.le (hs.okow (x := x18) (F := F18) (by repeat (first | exact List.mem_cons_self | apply List.mem_cons_of_mem)))
          refine WL.p (by rfl) (Yl.assign (by rfl)) ?_
          refine WL.p (by rfl) (Yl.assign (by rfl)) ?_
          refine WL.next ?_
          refine WC.ret ?_
          refine At.thenret ?_
          refine fin2' rfl (by rfl) (by rfl) ?_
          refine Ret.mk hs ?_
          have hjL : idxF (onHost a.host) (l.l.map PServer.lg) 0 = (j : Int) := by rw [idx_host]; exact hj
          have hw9 : x3.l.map PServer.lg = withHost (l.l.map PServer.lg) a.host := by rw [(host_hit hjL).1]; exact hx3
          have hi9 : hostIx (l.l.map PServer.lg) a.host = j := (host_hit hjL).2
          have hd9 := hdx
          have hu9 : PServer.lg (⟨dx.host, a16⟩ : PServer) = putOn (PServer.lg dx) a.path y := by
            rw [putOn_found (s := PServer.lg dx) hj2 hd2]
            simp only [PServer.lg, hm16]
          have hall9 : s16.l.map PServer.lg = putAll (l.l.map PServer.lg) a y := by rw [hl16]; exact put_all hw9 hi9 hd9 hu9
          have hpi9 := put_is hall9 hi9 hg16
          have hln9 : s16.l.length = x3.l.length := by rw [hl16, List.length_set]
          rw [hln9] at hpi9
          have hb9 : putIs (l.l.map PServer.lg) a y = false := by
            clear hs
            rw [hpi9]
            first
              | (simp_all; done)
              | (simp_all; omega)
              | (rw [Bool.and_eq_false_iff]; left; exact decide_eq_false (by omega))
              | (rw [Bool.and_eq_true]; exact ⟨decide_eq_true (by omega), by simp_all⟩)
              | (rw [Bool.and_eq_false_iff]; right; simp_all)
          exact ⟨x18, by rw [hb9], hx18.trans (putFile_no hb9).symm, hs.fresh (by repeat (first | exact List.mem_cons_self | apply List.mem_cons_of_mem))⟩
        ·
          replace h4 := not_eq_false h4
          refine WC.skipn ?_
          refine WC.seq ?_
          refine WL.p (by rfl) (Yl.move (by rfl)) ?_
          refine WL.p (by rfl) (Yl.assign (by rfl)) ?_
          refine WL.p (by rfl) (Yl.assign (by rfl)) ?_
          refine WL.next ?_
          refine WC.ret ?_
          refine fin2' rfl (by rfl) (by rfl) ?_
          refine Ret.mk hs ?_
          have hjL : idxF (onHost a.host) (l.l.map PServer.lg) 0 = (j : Int) := by rw [idx_host]; exact hj
          have hw9 : x3.l.map PServer.lg = withHost (l.l.map PServer.lg) a.host := by rw [(host_hit hjL).1]; exact hx3
          have hi9 : hostIx (l.l.map PServer.lg) a.host = j := (host_hit hjL).2
          have hd9 := hdx
          have hu9 : PServer.lg (⟨dx.host, a16⟩ : PServer) = putOn (PServer.lg dx) a.path y := by
            rw [putOn_found (s := PServer.lg dx) hj2 hd2]
            simp only [PServer.lg, hm16]
          have hall9 : s16.l.map PServer.lg = putAll (l.l.map PServer.lg) a y := by rw [hl16]; exact put_all hw9 hi9 hd9 hu9
          have hpi9 := put_is hall9 hi9 hg16
          have hln9 : s16.l.length = x3.l.length := by rw [hl16, List.length_set]
          rw [hln9] at hpi9
          have hb9 : putIs (l.l.map PServer.lg) a y = true := by
            clear hs
            rw [hpi9]
            first
              | (simp_all; done)
              | (simp_all; omega)
              | (rw [Bool.and_eq_false_iff]; left; exact decide_eq_false (by omega))
              | (rw [Bool.and_eq_true]; exact ⟨decide_eq_true (by omega), by simp_all⟩)
              | (rw [Bool.and_eq_false_iff]; right; simp_all)
          exact ⟨s16, by rw [hb9]; exact congrArg (fun z => Value.tuple #[z, Bo true]) (hv16).symm, hall9.trans (putFile_yes hb9).symm, hs.fresh (by repeat (first | exact List.mem_cons_self | apply List.mem_cons_of_mem))⟩
    ·
      replace h2 := of_decide_eq_false h2
      refine WC.anyX (K := [ow x3 F3]) mixed hs (by repeat (first | exact Sel.nil | (apply Sel.cons; (repeat (first | exact Ext.here | apply Ext.there))))) ?_
      clear hs; intro w hs
      refine WA.p (i := 0) (by rfl) (by kernel_rfl) (by kernel_rfl) (by kernel_rfl) (by rfl) (hs.only (by repeat (first | exact Sel.nil | (apply Sel.cons; (repeat (first | exact Ext.here | apply Ext.there)))))) (fun w hs => Yl.move (by rfl)) ?_
      refine WA.p (i := 1) (by rfl) (by kernel_rfl) (by kernel_rfl) (by kernel_rfl) (by rfl) (hs.only (by repeat (first | exact Sel.nil | (apply Sel.cons; (repeat (first | exact Ext.here | apply Ext.there)))))) (fun w hs => Yl.move (by rfl)) ?_
      refine WA.p (i := 2) (by rfl) (by kernel_rfl) (by kernel_rfl) (by kernel_rfl) (by rfl) (hs.only (by repeat (first | exact Sel.nil | (apply Sel.cons; (repeat (first | exact Ext.here | apply Ext.there)))))) (fun w hs => Yl.move (by rfl)) ?_
      refine WA.p (i := 3) (by rfl) (by kernel_rfl) (by kernel_rfl) (by kernel_rfl) (by rfl) (hs.only (by repeat (first | exact Sel.nil | (apply Sel.cons; (repeat (first | exact Ext.here | apply Ext.there)))))) (fun w hs => Yl.move (by rfl)) ?_
      have hadr1800 := (Sl.Ok.at_ (hs.okow (x := x3) (F := F3) (by repeat (first | exact List.mem_cons_self | apply List.mem_cons_of_mem))) (hdx)).1
      refine WA.p (i := 4) (by rfl) (by kernel_rfl) (by kernel_rfl) (by kernel_rfl) (by rfl) (hs.only (by repeat (first | exact Sel.nil | (apply Sel.cons; (repeat (first | exact Ext.here | apply Ext.there)))))) (fun w hs => Yl.indexAddrA slt31 (by rfl) (by rfl) hadr1800 (by first | exact hj2 | exact hj | rfl | exact congrArg (fun n : Nat => (n : Int)) hlx) (hdx)) ?_
      refine WA.p (i := 5) (by rfl) (by kernel_rfl) (by kernel_rfl) (by kernel_rfl) (by rfl) (hs.only (by repeat (first | exact Sel.nil | (apply Sel.cons; (repeat (first | exact Ext.here | apply Ext.there)))))) (fun w hs => Yl.fieldAddr fa52_1 (by rfl)) ?_
      refine WA.p (i := 7) (by rfl) (by kernel_rfl) (by kernel_rfl) (by kernel_rfl) (by rfl) (hs.only (by repeat (first | exact Sel.nil | (apply Sel.cons; (repeat (first | exact Ext.here | apply Ext.there)))))) (fun w hs => Yl.fieldAddr fa35_1 (by rfl)) ?_
      refine WA.p (i := 8) (by rfl) (by kernel_rfl) (by kernel_rfl) (by kernel_rfl) (by rfl) (hs.only (by repeat (first | exact Sel.nil | (apply Sel.cons; (repeat (first | exact Ext.here | apply Ext.there)))))) (fun w hs => Yl.loadB sca9 (by rfl) hs (by repeat (first | exact List.mem_cons_self | apply List.mem_cons_of_mem)) (by rfl)) ?_
      refine WA.p (i := 9) (by rfl) (by kernel_rfl) (by kernel_rfl) (by kernel_rfl) (by rfl) (hs.only (by repeat (first | exact Sel.nil | (apply Sel.cons; (repeat (first | exact Ext.here | apply Ext.there)))))) (fun w hs => Yl.loadAB agg37 (by rfl) hs (by repeat (first | exact List.mem_cons_self | apply List.mem_cons_of_mem)) (by rfl) (by rfl)) ?_
      refine WA.p (i := 10) (by rfl) (by kernel_rfl) (by kernel_rfl) (by kernel_rfl) (by rfl) (hs.only (by repeat (first | exact Sel.nil | (apply Sel.cons; (repeat (first | exact Ext.here | apply Ext.there)))))) (fun w hs => Yl.build bt55 (by rfl) (by repeat (first | exact Fill.nil | (apply Fill.cons; rfl; rfl; rfl; repeat (first | (apply SetAt.here; repeat (first | exact Over.nil | apply Over.cons)) | apply SetAt.there))))) ?_
      refine WA.dag' [(⟨6, 51, [], (fun _ v cs => v = Sl.v dx.files ∧ cs = [])⟩, []), (⟨11, 56, [], (fun _ v cs => ∃ b, v = .slice (some ⟨b, 0, none⟩) 1 1 ∧ cs = [box b 55 ((Ph.enc ((⟨a.path, y⟩ : TFile))))])⟩, [])] [false, false] [(0, _), (1, _), (2, _), (4, _), (5, _), (6, _), (7, _), (8, _), (9, _), (10, _), (11, _), (12, _), (13, _), (14, _), (15, _), (16, _), (17, _), (18, _), (27, _), (28, _), (29, _), (30, _), (31, _), (32, _), (33, _), (34, _), (35, _), (45, _), (46, _), (47, _), (48, _), (49, _), (50, _), (52, _), (53, _), (54, _), (55, _)] ⟨by rfl, by rfl, by rfl, by rfl, by rfl, by rfl, by rfl, by rfl, by rfl, by rfl, by rfl, by rfl, by rfl, by rfl, by rfl, by rfl, by rfl, by rfl, by rfl, by rfl, by rfl, by rfl, by rfl, by rfl, by rfl, by rfl, by rfl, by rfl, by rfl, by rfl, by rfl, by rfl, by rfl, by rfl, by rfl, by rfl, by rfl, trivial⟩ (by rfl) (by kernel_rfl) (by kernel_rfl) (by kernel_rfl) (by kernel_rfl) (by kernel_rfl) (by kernel_rfl) (by kernel_rfl) (by kernel_rfl) (fun _ hs => hs.only (by repeat (first | exact Sel.nil | (apply Sel.cons; (repeat (first | exact Ext.here | apply Ext.there)))))) hs (fuel := 4) ⟨⟨local_const, ?_⟩, ⟨local_const, ?_⟩, trivial⟩ ?_
      ·
        clear hs
        intro w R hs
        simp only [List.cons_append, List.nil_append] at hs
        exact Gives.p' (by rfl) (Yl.loadC sca50 (by rfl) (Sl.Ok.at_ (hs.okow (x := x3) (F := F3) (by repeat (first | exact List.mem_cons_self | apply List.mem_cons_of_mem))) (by assumption)).2 (by rfl)) ⟨[], ⟨rfl, rfl⟩, hs⟩
      ·
        clear hs
        intro w R hs
        simp only [List.cons_append, List.nil_append] at hs
        exact Gives.rr' (by rfl) (Yr.buildSlice hs sll50 (by rfl) (by rfl) (by rfl) (by repeat (first | exact Fill.nil | (apply Fill.cons; rfl; rfl; rfl; repeat (first | (apply SetAt.here; repeat (first | exact Over.nil | apply Over.cons)) | apply SetAt.there)))) (by rfl)) (fun _ _ ⟨b, hv, _, hs1⟩ => ⟨[box b 55 ((Ph.enc ((⟨a.path, y⟩ : TFile))))], ⟨b, hv, rfl⟩, hs1⟩)
      clear hs
      rintro _ _ ⟨rfl, rfl⟩
      rintro _ _ ⟨b20, rfl, rfl⟩
      intro w hs
      simp only [List.cons_append, List.nil_append, cond_true, cond_false] at hs
      obtain ⟨G21, B21, hs⟩ := Sat.lend (hs.sel (D := [ow x3 F3]) (by repeat (first | exact Sel.nil | (apply Sel.cons; (repeat (first | exact Ext.here | apply Ext.there)))))) hdx
      obtain ⟨K21, hfl21, hs⟩ := PServer.split hs
      try simp only [List.cons_append, List.nil_append] at hs
      refine WA.r (i := 12) (by kernel_rfl) (by rfl) (by rfl) (Yr.append (s := dx.files) (F := K21) hs elt50 (by repeat (first | exact Sel.nil | (apply Sel.cons; (repeat (first | exact Ext.here | apply Ext.there))))) (by rfl) (by rfl) rfl (xs := [(⟨a.path, y⟩ : TFile)]) (hs.box_cells (by repeat (first | exact List.mem_cons_self | apply List.mem_cons_of_mem))) (by intro x hx; obtain rfl := List.mem_singleton.1 hx; exact ⟨Flat.any h_a.path, Flat.any h_y⟩) (by first | (rw [hlx]; unfold maxLen; omega) | (simp only [List.length_nil, List.length_singleton]; unfold maxLen; omega) | (simp; unfold maxLen; omega)) (by first | (rw [hlx]; omega) | omega | (simp only [List.length_nil, List.length_singleton]; omega) | (simp; omega))) (by rintro _ w ⟨s22, F22, rfl, hl22, hs⟩; exact hs.only (by repeat (first | exact Sel.nil | (apply Sel.cons; (repeat (first | exact Ext.here | apply Ext.there)))))) ?_
      clear hs; rintro _ w ⟨s22, F22, rfl, hl22, hs⟩
      refine WA.p (i := 13) (by rfl) (by kernel_rfl) (by kernel_rfl) (by kernel_rfl) (by rfl) (hs.only (by repeat (first | exact Sel.nil | (apply Sel.cons; (repeat (first | exact Ext.here | apply Ext.there)))))) (fun w hs => Yl.indexAddrA slt31 (by rfl) (by rfl) hadr1800 (by first | exact hj2 | exact hj | rfl | exact congrArg (fun n : Nat => (n : Int)) hlx) (hdx)) ?_
      refine WA.p (i := 14) (by rfl) (by kernel_rfl) (by kernel_rfl) (by kernel_rfl) (by rfl) (hs.only (by repeat (first | exact Sel.nil | (apply Sel.cons; (repeat (first | exact Ext.here | apply Ext.there)))))) (fun w hs => Yl.fieldAddr fa52_1 (by rfl)) ?_
      replace hs := PServer.join (⟨dx.host, s22⟩ : PServer) (hs.sel (D := [ow s22 F22]) (by repeat (first | exact Sel.nil | (apply Sel.cons; (repeat (first | exact Ext.here | apply Ext.there)))))) (Flat.any hfl21.1)
      try simp only [List.cons_append, List.nil_append] at hs
      refine WA.s (i := 15) (by kernel_rfl) (by rfl) (Yr.storeHole (s := x3) (G := G21) (B := F22) (d := dx) (u := (⟨dx.host, s22⟩ : PServer)) (k := j) (j := 1) hs (by repeat (first | exact Sel.nil | (apply Sel.cons; (repeat (first | exact Ext.here | apply Ext.there))))) (by rfl) (by rfl) (by rfl) hdx ⟨_, by rfl, by rfl⟩ (by repeat (first | (apply SetAt.here; repeat (first | exact Over.nil | apply Over.cons)) | apply SetAt.there)) (by rfl) (by exact szf50)) (by rintro _ w ⟨s23, F23, hv23, hl23, hg23, hs⟩; exact hs.only (by repeat (first | exact Sel.nil | (apply Sel.cons; (repeat (first | exact Ext.here | apply Ext.there)))))) ?_
      clear hs; rintro _ w ⟨s23, F23, hv23, hl23, hg23, hs⟩
      refine WA.done (by kernel_rfl) ?_
      refine At.then_ ?_
      refine WC.seq' ?_
      refine WC.seq ?_
      refine WL.p (by rfl) (Yl.move (by rfl)) ?_
      refine WL.p (by rfl) (Yl.len_sl slu31 (by rfl)) ?_
      refine WL.p (by rfl) (Yl.gtr (by rfl) (by rfl)) ?_
      refine WL.p (by rfl) (Yl.move (by rfl)) ?_
      refine WL.split (d := 63) (by rfl) (fun h3 => ?_) (fun h3 => ?_)
      ·
        replace h3 := of_decide_eq_true h3
        refine WL.skip (d := 63) (by rfl) (by rfl) (by rfl) (by rfl) ?_
        refine WL.skip (d := 63) (by rfl) (by rfl) (by rfl) (by rfl) ?_
        refine WL.skip (d := 63) (by rfl) (by rfl) (by rfl) (by rfl) ?_
        refine WL.skip (d := 63) (by rfl) (by rfl) (by rfl) (by rfl) ?_
        refine WL.skip (d := 63) (by rfl) (by rfl) (by rfl) (by rfl) ?_
        refine WL.skip (d := 63) (by rfl) (by rfl) (by rfl) (by rfl) ?_
        refine WL.p (by rfl) (Yl.pickT (by rfl) (by rfl)) ?_
        refine WL.next ?_
        refine WC.condT (by rfl) ?_
        refine WC.seq ?_
        refine WL.p (by rfl) (Yl.move (by rfl)) ?_
        refine WL.call hs (by rfl) (Yc.func (by rfl) fn28) (c_impl_copyServers _ _ (Ph.old h_l hs) (by exact hbz)) ?_
        have hs0 := hs; clear hs; intro v w hb hR hs; clear hs
        obtain ⟨x24, rfl, hx24, hf24⟩ := hR
        obtain ⟨F24, hs⟩ := hf24.sat hs0 hb; clear hs0 hf24
        have hle24 := Sl.Ok.le (hs.okow (x := x24) (F := F24) (by repeat (first | exact List.mem_cons_self | apply List.mem_cons_of_mem)))
        refine WL.p (by rfl) (Yl.assign (by rfl)) ?_
        refine WL.p (by rfl) (Yl.assign (by rfl)) ?_
        refine WL.next ?_
        refine WC.ret ?_
        refine At.thenret ?_
        refine fin2' rfl (by rfl) (by rfl) ?_
        refine Ret.mk hs ?_
        have hjL : idxF (onHost a.host) (l.l.map PServer.lg) 0 = (j : Int) := by rw [idx_host]; exact hj
        have hw9 : x3.l.map PServer.lg = withHost (l.l.map PServer.lg) a.host := by rw [(host_hit hjL).1]; exact hx3
        have hi9 : hostIx (l.l.map PServer.lg) a.host = j := (host_hit hjL).2
        have hd9 := hdx
        have hu9 : PServer.lg (⟨dx.host, s22⟩ : PServer) = putOn (PServer.lg dx) a.path y := by
          rw [putOn_new (s := PServer.lg dx) (Int.not_le.1 h2)]
          simp only [PServer.lg, hl22]
        have hall9 : s23.l.map PServer.lg = putAll (l.l.map PServer.lg) a y := by rw [hl23]; exact put_all hw9 hi9 hd9 hu9
        have hpi9 := put_is hall9 hi9 hg23
        have hln9 : s23.l.length = x3.l.length := by rw [hl23, List.length_set]
        rw [hln9] at hpi9
        have hb9 : putIs (l.l.map PServer.lg) a y = false := by
          clear hs
          rw [hpi9]
          first
            | (simp_all; done)
            | (simp_all; omega)
            | (rw [Bool.and_eq_false_iff]; left; exact decide_eq_false (by omega))
            | (rw [Bool.and_eq_true]; exact ⟨decide_eq_true (by omega), by simp_all⟩)
            | (rw [Bool.and_eq_false_iff]; right; simp_all)
        exact ⟨x24, by rw [hb9], hx24.trans (putFile_no hb9).symm, hs.fresh (by repeat (first | exact List.mem_cons_self | apply List.mem_cons_of_mem))⟩
      ·
        replace h3 := of_decide_eq_false h3
        refine WL.run (d := 63) (by rfl) (by rfl) ?_
        refine WL.p (by rfl) (Yl.move (by rfl)) ?_
        refine WL.run (d := 63) (by rfl) (by rfl) ?_
        refine WL.p (by rfl) (Yl.move (by rfl)) ?_
        refine WL.run (d := 63) (by rfl) (by rfl) ?_
        refine WL.p (by rfl) (Yl.indexAddrV slt31 (by rfl) hv23 (by rfl) (hs.okow (x := s23) (F := F23) (by repeat (first | exact List.mem_cons_self | apply List.mem_cons_of_mem))) (by first | exact hj2 | exact hj | rfl | exact congrArg (fun n : Nat => (n : Int)) hlx) (hg23)) ?_
        refine WL.run (d := 63) (by rfl) (by rfl) ?_
        refine WL.p (by rfl) (Yl.loadA agg52 (by rfl) (Sl.Ok.at_ (hs.okow (x := s23) (F := F23) (by repeat (first | exact List.mem_cons_self | apply List.mem_cons_of_mem))) (by assumption)).2 (by rfl)) ?_
        refine WL.run (d := 63) (by rfl) (by rfl) ?_
        have hjL : idxF (onHost a.host) (l.l.map PServer.lg) 0 = (j : Int) := by rw [idx_host]; exact hj
        have hw9 : x3.l.map PServer.lg = withHost (l.l.map PServer.lg) a.host := by rw [(host_hit hjL).1]; exact hx3
        have hi9 : hostIx (l.l.map PServer.lg) a.host = j := (host_hit hjL).2
        have hd9 := hdx
        have hu9 : PServer.lg (⟨dx.host, s22⟩ : PServer) = putOn (PServer.lg dx) a.path y := by
          rw [putOn_new (s := PServer.lg dx) (Int.not_le.1 h2)]
          simp only [PServer.lg, hl22]
        have hall9 : s23.l.map PServer.lg = putAll (l.l.map PServer.lg) a y := by rw [hl23]; exact put_all hw9 hi9 hd9 hu9
        have hpi9 := put_is hall9 hi9 hg23
        have hln9 : s23.l.length = x3.l.length := by rw [hl23, List.length_set]
        rw [hln9] at hpi9
        refine WL.callp hs (by rfl) (Yc.func (by rfl) fn31) (c_impl_IsServer _ _ (Sl.Ok.elem (hs.okow (x := s23) (F := F23) (by repeat (first | exact List.mem_cons_self | apply List.mem_cons_of_mem))) hg23) (by show ∀ f ∈ (PServer.lg _).files, _; rw [hu9]; exact putOn_pol hDp hpy) (by first | assumption | exact Sat.cellm hs (by assumption))) ?_
        clear hs; intro w hs
        refine WL.run (d := 63) (by rfl) (by rfl) ?_
        refine WL.p (by rfl) (Yl.not (by rfl)) ?_
        refine WL.p (by rfl) (Yl.pickF (by rfl) (by rfl)) ?_
        refine WL.next ?_
        refine WC.condS (by rfl) (fun h4 => ?_) (fun h4 => ?_)
        ·
          replace h4 := not_eq_true h4
          refine WC.seq ?_
          refine WL.p (by rfl) (Yl.move (by rfl)) ?_
          refine WL.call hs (by rfl) (Yc.func (by rfl) fn28) (c_impl_copyServers _ _ (Ph.old h_l hs) (by exact hbz)) ?_
          have hs0 := hs; clear hs; intro v w hb hR hs; clear hs
          obtain ⟨x25, rfl, hx25, hf25⟩ := hR
          obtain ⟨F25, hs⟩ := hf25.sat hs0 hb; clear hs0 hf25
          have hle25 := Sl.Ok.le (hs.okow (x := x25) (F := F25) (by repeat (first | exact List.mem_cons_self | apply List.mem_cons_of_mem)))
          refine WL.p (by rfl) (Yl.assign (by rfl)) ?_
          refine WL.p (by rfl) (Yl.assign (by rfl)) ?_
          refine WL.next ?_
          refine WC.ret ?_
          refine At.thenret ?_
          refine fin2' rfl (by rfl) (by rfl) ?_
          refine Ret.mk hs ?_
          have hjL : idxF (onHost a.host) (l.l.map PServer.lg) 0 = (j : Int) := by rw [idx_host]; exact hj
          have hw9 : x3.l.map PServer.lg = withHost (l.l.map PServer.lg) a.host := by rw [(host_hit hjL).1]; exact hx3
          have hi9 : hostIx (l.l.map PServer.lg) a.host = j := (host_hit hjL).2
          have hd9 := hdx
          have hu9 : PServer.lg (⟨dx.host, s22⟩ : PServer) = putOn (PServer.lg dx) a.path y := by
            rw [putOn_new (s := PServer.lg dx) (Int.not_le.1 h2)]
            simp only [PServer.lg, hl22]
          have hall9 : s23.l.map PServer.lg = putAll (l.l.map PServer.lg) a y := by rw [hl23]; exact put_all hw9 hi9 hd9 hu9
          have hpi9 := put_is hall9 hi9 hg23
          have hln9 : s23.l.length = x3.l.length := by rw [hl23, List.length_set]
          rw [hln9] at hpi9
          have hb9 : putIs (l.l.map PServer.lg) a y = false := by
            clear hs
            rw [hpi9]
            first
              | (simp_all; done)
              | (simp_all; omega)
              | (rw [Bool.and_eq_false_iff]; left; exact decide_eq_false (by omega))
              | (rw [Bool.and_eq_true]; exact ⟨decide_eq_true (by omega), by simp_all⟩)
              | (rw [Bool.and_eq_false_iff]; right; simp_all)
          exact ⟨x25, by rw [hb9], hx25.trans (putFile_no hb9).symm, hs.fresh (by repeat (first | exact List.mem_cons_self | apply List.mem_cons_of_mem))⟩
        ·
          replace h4 := not_eq_false h4
          refine WC.skipn ?_
          refine WC.seq ?_
          refine WL.p (by rfl) (Yl.move (by rfl)) ?_
          refine WL.p (by rfl) (Yl.assign (by rfl)) ?_
          refine WL.p (by rfl) (Yl.assign (by rfl)) ?_
          refine WL.next ?_
          refine WC.ret ?_
          refine fin2' rfl (by rfl) (by rfl) ?_
          refine Ret.mk hs ?_
          have hjL : idxF (onHost a.host) (l.l.map PServer.lg) 0 = (j : Int) := by rw [idx_host]; exact hj
          have hw9 : x3.l.map PServer.lg = withHost (l.l.map PServer.lg) a.host := by rw [(host_hit hjL).1]; exact hx3
          have hi9 : hostIx (l.l.map PServer.lg) a.host = j := (host_hit hjL).2
          have hd9 := hdx
          have hu9 : PServer.lg (⟨dx.host, s22⟩ : PServer) = putOn (PServer.lg dx) a.path y := by
            rw [putOn_new (s := PServer.lg dx) (Int.not_le.1 h2)]
            simp only [PServer.lg, hl22]
          have hall9 : s23.l.map PServer.lg = putAll (l.l.map PServer.lg) a y := by rw [hl23]; exact put_all hw9 hi9 hd9 hu9
          have hpi9 := put_is hall9 hi9 hg23
          have hln9 : s23.l.length = x3.l.length := by rw [hl23, List.length_set]
          rw [hln9] at hpi9
          have hb9 : putIs (l.l.map PServer.lg) a y = true := by
            clear hs
            rw [hpi9]
            first
              | (simp_all; done)
              | (simp_all; omega)
              | (rw [Bool.and_eq_false_iff]; left; exact decide_eq_false (by omega))
              | (rw [Bool.and_eq_true]; exact ⟨decide_eq_true (by omega), by simp_all⟩)
              | (rw [Bool.and_eq_false_iff]; right; simp_all)
          exact ⟨s23, by rw [hb9]; exact congrArg (fun z => Value.tuple #[z, Bo true]) (hv23).symm, hall9.trans (putFile_yes hb9).symm, hs.fresh (by repeat (first | exact List.mem_cons_self | apply List.mem_cons_of_mem))⟩

theorem c_laws_eqResponse (a : TResponse) (b : TResponse) (w : World)   : Calls Tryd.prog 69 [.agg #[I a.status, I a.kind, S a.body, I a.age, Bo a.shares, S a.policy], .agg #[I b.status, I b.kind, S b.body, I b.age, Bo b.shares, S b.policy]].toArray w (RetP w (Bo (decide (a = b)))) := by
  refine enterN 35 Tryd.func69 rfl rfl rfl ?_
  have hs := Sat.start w
  refine WC.seq ?_
  refine WL.r (by rfl) (Yr.box hs (by rfl) (by rfl)) ?_
  clear hs; rintro _ w ⟨b1, rfl, hb, hs⟩; clear hb
  refine WL.r (by rfl) (Yr.box hs (by rfl) (by rfl)) ?_
  clear hs; rintro _ w ⟨b2, rfl, hb, hs⟩; clear hb
  refine WL.p (by rfl) (Yl.assign (by rfl)) ?_
  refine WL.next ?_
  refine WC.seq' ?_
  refine WC.seq ?_
  refine WL.p (by rfl) (Yl.fieldAddr fa37_0 (by rfl)) ?_
  refine WL.p (by rfl) (Yl.loadB sca3 (by rfl) hs (by repeat (first | exact List.mem_cons_self | apply List.mem_cons_of_mem)) (by rfl)) ?_
  refine WL.p (by rfl) (Yl.fieldAddr fa37_0 (by rfl)) ?_
  refine WL.p (by rfl) (Yl.loadB sca3 (by rfl) hs (by repeat (first | exact List.mem_cons_self | apply List.mem_cons_of_mem)) (by rfl)) ?_
  refine WL.p (by rfl) (Yl.nei (by rfl) (by rfl)) ?_
  refine WL.next ?_
  refine WC.condS (by rfl) (fun h1 => ?_) (fun h1 => ?_)
  ·
    replace h1 := not_eq_true h1
    replace h1 := of_decide_eq_false h1
    refine WC.seq ?_
    refine WL.p (by rfl) (Yl.assign (by rfl)) ?_
    refine WL.next ?_
    refine WC.ret ?_
    refine At.thenret ?_
    refine fin1' rfl (by rfl) ?_
    refine RetP.mk hs ?_
    simp_all [TResponse.ext_iff]
  ·
    replace h1 := not_eq_false h1
    replace h1 := of_decide_eq_true h1
    refine WC.skipn ?_
    refine WC.seq' ?_
    refine WC.seq ?_
    refine WL.p (by rfl) (Yl.fieldAddr fa37_1 (by rfl)) ?_
    refine WL.p (by rfl) (Yl.loadB sca3 (by rfl) hs (by repeat (first | exact List.mem_cons_self | apply List.mem_cons_of_mem)) (by rfl)) ?_
    refine WL.p (by rfl) (Yl.fieldAddr fa37_1 (by rfl)) ?_
    refine WL.p (by rfl) (Yl.loadB sca3 (by rfl) hs (by repeat (first | exact List.mem_cons_self | apply List.mem_cons_of_mem)) (by rfl)) ?_
    refine WL.p (by rfl) (Yl.nei (by rfl) (by rfl)) ?_
    refine WL.next ?_
    refine WC.condS (by rfl) (fun h2 => ?_) (fun h2 => ?_)
    ·
      replace h2 := not_eq_true h2
      replace h2 := of_decide_eq_false h2
      refine WC.seq ?_
      refine WL.p (by rfl) (Yl.assign (by rfl)) ?_
      refine WL.next ?_
      refine WC.ret ?_
      refine At.thenret ?_
      refine fin1' rfl (by rfl) ?_
      refine RetP.mk hs ?_
      simp_all [TResponse.ext_iff]
    ·
      replace h2 := not_eq_false h2
      replace h2 := of_decide_eq_true h2
      refine WC.skipn ?_
      refine WC.seq' ?_
      refine WC.seq ?_
      refine WL.p (by rfl) (Yl.fieldAddr fa37_2 (by rfl)) ?_
      refine WL.p (by rfl) (Yl.loadB sca9 (by rfl) hs (by repeat (first | exact List.mem_cons_self | apply List.mem_cons_of_mem)) (by rfl)) ?_
      refine WL.p (by rfl) (Yl.fieldAddr fa37_2 (by rfl)) ?_
      refine WL.p (by rfl) (Yl.loadB sca9 (by rfl) hs (by repeat (first | exact List.mem_cons_self | apply List.mem_cons_of_mem)) (by rfl)) ?_
      refine WL.p (by rfl) (Yl.nes (by rfl) (by rfl)) ?_
      refine WL.next ?_
      refine WC.condS (by rfl) (fun h3 => ?_) (fun h3 => ?_)
      ·
        replace h3 := not_eq_true h3
        replace h3 := of_decide_eq_false h3
        refine WC.seq ?_
        refine WL.p (by rfl) (Yl.assign (by rfl)) ?_
        refine WL.next ?_
        refine WC.ret ?_
        refine At.thenret ?_
        refine fin1' rfl (by rfl) ?_
        refine RetP.mk hs ?_
        simp_all [TResponse.ext_iff]
      ·
        replace h3 := not_eq_false h3
        replace h3 := of_decide_eq_true h3
        refine WC.skipn ?_
        refine WC.seq' ?_
        refine WC.seq ?_
        refine WL.p (by rfl) (Yl.fieldAddr fa37_3 (by rfl)) ?_
        refine WL.p (by rfl) (Yl.loadB sca3 (by rfl) hs (by repeat (first | exact List.mem_cons_self | apply List.mem_cons_of_mem)) (by rfl)) ?_
        refine WL.p (by rfl) (Yl.fieldAddr fa37_3 (by rfl)) ?_
        refine WL.p (by rfl) (Yl.loadB sca3 (by rfl) hs (by repeat (first | exact List.mem_cons_self | apply List.mem_cons_of_mem)) (by rfl)) ?_
        refine WL.p (by rfl) (Yl.nei (by rfl) (by rfl)) ?_
        refine WL.next ?_
        refine WC.condS (by rfl) (fun h4 => ?_) (fun h4 => ?_)
        ·
          replace h4 := not_eq_true h4
          replace h4 := of_decide_eq_false h4
          refine WC.seq ?_
          refine WL.p (by rfl) (Yl.assign (by rfl)) ?_
          refine WL.next ?_
          refine WC.ret ?_
          refine At.thenret ?_
          refine fin1' rfl (by rfl) ?_
          refine RetP.mk hs ?_
          simp_all [TResponse.ext_iff]
        ·
          replace h4 := not_eq_false h4
          replace h4 := of_decide_eq_true h4
          refine WC.skipn ?_
          refine WC.seq' ?_
          refine WC.seq ?_
          refine WL.p (by rfl) (Yl.fieldAddr fa37_4 (by rfl)) ?_
          refine WL.p (by rfl) (Yl.loadB sca4 (by rfl) hs (by repeat (first | exact List.mem_cons_self | apply List.mem_cons_of_mem)) (by rfl)) ?_
          refine WL.p (by rfl) (Yl.fieldAddr fa37_4 (by rfl)) ?_
          refine WL.p (by rfl) (Yl.loadB sca4 (by rfl) hs (by repeat (first | exact List.mem_cons_self | apply List.mem_cons_of_mem)) (by rfl)) ?_
          refine WL.p (by rfl) (Yl.neb bool4 (by rfl) (by rfl)) ?_
          refine WL.next ?_
          refine WC.condS (by rfl) (fun h5 => ?_) (fun h5 => ?_)
          ·
            replace h5 := not_eq_true h5
            replace h5 := beq_false h5
            refine WC.seq ?_
            refine WL.p (by rfl) (Yl.assign (by rfl)) ?_
            refine WL.next ?_
            refine WC.ret ?_
            refine At.thenret ?_
            refine fin1' rfl (by rfl) ?_
            refine RetP.mk hs ?_
            simp_all [TResponse.ext_iff]
          ·
            replace h5 := not_eq_false h5
            replace h5 := beq_true h5
            refine WC.skipn ?_
            refine WC.seq' ?_
            refine WC.seq ?_
            refine WL.p (by rfl) (Yl.fieldAddr fa37_5 (by rfl)) ?_
            refine WL.p (by rfl) (Yl.loadB sca9 (by rfl) hs (by repeat (first | exact List.mem_cons_self | apply List.mem_cons_of_mem)) (by rfl)) ?_
            refine WL.p (by rfl) (Yl.fieldAddr fa37_5 (by rfl)) ?_
            refine WL.p (by rfl) (Yl.loadB sca9 (by rfl) hs (by repeat (first | exact List.mem_cons_self | apply List.mem_cons_of_mem)) (by rfl)) ?_
            refine WL.p (by rfl) (Yl.nes (by rfl) (by rfl)) ?_
            refine WL.next ?_
            refine WC.condS (by rfl) (fun h6 => ?_) (fun h6 => ?_)
            ·
              replace h6 := not_eq_true h6
              replace h6 := of_decide_eq_false h6
              refine WC.seq ?_
              refine WL.p (by rfl) (Yl.assign (by rfl)) ?_
              refine WL.next ?_
              refine WC.ret ?_
              refine At.thenret ?_
              refine fin1' rfl (by rfl) ?_
              refine RetP.mk hs ?_
              simp_all [TResponse.ext_iff]
            ·
              replace h6 := not_eq_false h6
              replace h6 := of_decide_eq_true h6
              refine WC.skipn ?_
              refine WC.seq ?_
              refine WL.p (by rfl) (Yl.assign (by rfl)) ?_
              refine WL.next ?_
              refine WC.ret ?_
              refine fin1' rfl (by rfl) ?_
              refine RetP.mk hs ?_
              simp_all [TResponse.ext_iff]

theorem c_laws_eqFile (a : TFile) (b : TFile) (w : World)   : Calls Tryd.prog 61 [.agg #[S a.path, I a.response.status, I a.response.kind, S a.response.body, I a.response.age, Bo a.response.shares, S a.response.policy], .agg #[S b.path, I b.response.status, I b.response.kind, S b.response.body, I b.response.age, Bo b.response.shares, S b.response.policy]].toArray w (RetP w (Bo (decide (a = b)))) := by
  refine enterN 16 Tryd.func61 rfl rfl rfl ?_
  have hs := Sat.start w
  refine WC.seq ?_
  refine WL.r (by rfl) (Yr.box hs (by rfl) (by rfl)) ?_
  clear hs; rintro _ w ⟨b1, rfl, hb, hs⟩; clear hb
  refine WL.r (by rfl) (Yr.box hs (by rfl) (by rfl)) ?_
  clear hs; rintro _ w ⟨b2, rfl, hb, hs⟩; clear hb
  refine WL.p (by rfl) (Yl.assign (by rfl)) ?_
  refine WL.next ?_
  refine WC.seq' ?_
  refine WC.seq ?_
  refine WL.p (by rfl) (Yl.fieldAddr fa55_0 (by rfl)) ?_
  refine WL.p (by rfl) (Yl.loadB sca9 (by rfl) hs (by repeat (first | exact List.mem_cons_self | apply List.mem_cons_of_mem)) (by rfl)) ?_
  refine WL.p (by rfl) (Yl.fieldAddr fa55_0 (by rfl)) ?_
  refine WL.p (by rfl) (Yl.loadB sca9 (by rfl) hs (by repeat (first | exact List.mem_cons_self | apply List.mem_cons_of_mem)) (by rfl)) ?_
  refine WL.p (by rfl) (Yl.nes (by rfl) (by rfl)) ?_
  refine WL.next ?_
  refine WC.condS (by rfl) (fun h1 => ?_) (fun h1 => ?_)
  ·
    replace h1 := not_eq_true h1
    replace h1 := of_decide_eq_false h1
    refine WC.seq ?_
    refine WL.p (by rfl) (Yl.assign (by rfl)) ?_
    refine WL.next ?_
    refine WC.ret ?_
    refine At.thenret ?_
    refine fin1' rfl (by rfl) ?_
    refine RetP.mk hs ?_
    simp_all [TFile.ext_iff]
  ·
    replace h1 := not_eq_false h1
    replace h1 := of_decide_eq_true h1
    refine WC.skipn ?_
    refine WC.seq' ?_
    refine WC.seq ?_
    refine WL.p (by rfl) (Yl.fieldAddr fa55_1 (by rfl)) ?_
    refine WL.p (by rfl) (Yl.loadAB agg37 (by rfl) hs (by repeat (first | exact List.mem_cons_self | apply List.mem_cons_of_mem)) (by rfl) (by rfl)) ?_
    refine WL.p (by rfl) (Yl.fieldAddr fa55_1 (by rfl)) ?_
    refine WL.p (by rfl) (Yl.loadAB agg37 (by rfl) hs (by repeat (first | exact List.mem_cons_self | apply List.mem_cons_of_mem)) (by rfl) (by rfl)) ?_
    refine WL.callp hs (by rfl) (Yc.func (by rfl) fn69) (c_laws_eqResponse _ _ _) ?_
    clear hs; intro w hs
    refine WL.p (by rfl) (Yl.not (by rfl)) ?_
    refine WL.next ?_
    refine WC.condS (by rfl) (fun h2 => ?_) (fun h2 => ?_)
    ·
      replace h2 := not_eq_true h2
      replace h2 := of_decide_eq_false h2
      refine WC.seq ?_
      refine WL.p (by rfl) (Yl.assign (by rfl)) ?_
      refine WL.next ?_
      refine WC.ret ?_
      refine At.thenret ?_
      refine fin1' rfl (by rfl) ?_
      refine RetP.mk hs ?_
      simp_all [TFile.ext_iff]
    ·
      replace h2 := not_eq_false h2
      replace h2 := of_decide_eq_true h2
      refine WC.skipn ?_
      refine WC.seq ?_
      refine WL.p (by rfl) (Yl.assign (by rfl)) ?_
      refine WL.next ?_
      refine WC.ret ?_
      refine fin1' rfl (by rfl) ?_
      refine RetP.mk hs ?_
      simp_all [TFile.ext_iff]

theorem c_laws_eqFileS (a : (Sl TFile)) (b : (Sl TFile)) (w : World) (h_a : Ph.ok w a) (h_b : Ph.ok w b)  : Calls Tryd.prog 51 [Sl.v a, Sl.v b].toArray w (RetP w (Bo (decide (a.l = b.l)))) := by
  have hw := h_a.lt
  refine enterN 27 Tryd.func51 rfl rfl rfl ?_
  have hs := Sat.start w
  refine WC.seq ?_
  refine WL.p (by rfl) (Yl.assign (by rfl)) ?_
  refine WL.next ?_
  refine WC.seq' ?_
  refine WC.seq ?_
  refine WL.p (by rfl) (Yl.move (by rfl)) ?_
  refine WL.p (by rfl) (Yl.len_sl slu50 (by rfl)) ?_
  refine WL.p (by rfl) (Yl.move (by rfl)) ?_
  refine WL.p (by rfl) (Yl.len_sl slu50 (by rfl)) ?_
  refine WL.p (by rfl) (Yl.nei (by rfl) (by rfl)) ?_
  refine WL.next ?_
  refine WC.condS (by rfl) (fun h1 => ?_) (fun h1 => ?_)
  ·
    replace h1 := not_eq_true h1
    replace h1 := of_decide_eq_false h1
    refine WC.seq ?_
    refine WL.p (by rfl) (Yl.assign (by rfl)) ?_
    refine WL.next ?_
    refine WC.ret ?_
    refine At.thenret ?_
    refine fin1' rfl (by rfl) ?_
    refine RetP.mk hs ?_
    have hne : ¬ a.l = b.l := by
      intro h
      have h2 := congrArg List.length h
      try simp at h2
      omega
    simp only [hne, decide_false]
  ·
    replace h1 := not_eq_false h1
    replace h1 := of_decide_eq_true h1
    refine WC.skipn ?_
    refine WC.seq' ?_
    refine WC.seq ?_
    refine WL.p (by rfl) (Yl.assign (by rfl)) ?_
    refine WL.next ?_
    refine WC.block ?_
    refine WC.loopC (ι := Nat) (fun k => a.l.length - k) (fun k => [(5, I (k : Int))]) (fun _ => []) (fun k => decide (a.l = b.l) = decide (a.l.drop k = b.l.drop k)) [(0, _), (1, _), (6, _), (7, _), (8, _), (9, _), (10, _)] 0 (hs) ⟨by rfl, by rfl, by rfl, by rfl, by rfl, by rfl, by rfl, trivial⟩ ⟨by rfl, trivial⟩ ?_ ?_
    ·
      simp
    clear hs; rintro k w hJ hs
    simp only [List.nil_append] at hs
    refine WC.seq' ?_
    refine WC.seq ?_
    refine WL.p (by rfl) (Yl.move (by rfl)) ?_
    refine WL.p (by rfl) (Yl.move (by rfl)) ?_
    refine WL.p (by rfl) (Yl.len_sl slu50 (by rfl)) ?_
    refine WL.p (by rfl) (Yl.lss (by rfl) (by rfl)) ?_
    refine WL.next ?_
    refine WC.condS (by rfl) (fun h2 => ?_) (fun h2 => ?_)
    ·
      replace h2 := of_decide_eq_true h2
      obtain ⟨d, hd⟩ := exists_get (l := a.l) (k := k) (by omega)
      obtain ⟨d2, hd2⟩ := exists_get (l := b.l) (k := k) (by omega)
      rw [drop_cons hd, drop_cons hd2] at hJ
      refine WC.skipn ?_
      refine WC.seq' ?_
      refine WC.block ?_
      refine WC.quietn mixed (by kernel_rfl) hs ?_
      refine WQ.p (by rfl) (fun w hs => Yl.move (by rfl)) ?_
      refine WQ.p (by rfl) (fun w hs => Yl.move (by rfl)) ?_
      refine WQ.p (by rfl) (fun w hs => Yl.indexAddr slt50 (by rfl) (by rfl) (Ph.old h_a hs) (by rfl) (hd)) ?_
      refine WQ.p (by rfl) (fun w hs => Yl.loadA agg55 (by rfl) (Sl.Ok.at_ (Ph.old h_a hs) (by assumption)).2 (by rfl)) ?_
      refine WQ.p (by rfl) (fun w hs => Yl.move (by rfl)) ?_
      refine WQ.p (by rfl) (fun w hs => Yl.move (by rfl)) ?_
      refine WQ.p (by rfl) (fun w hs => Yl.indexAddr slt50 (by rfl) (by rfl) (Ph.old h_b hs) (by rfl) (hd2)) ?_
      refine WQ.p (by rfl) (fun w hs => Yl.loadA agg55 (by rfl) (Sl.Ok.at_ (Ph.old h_b hs) (by assumption)).2 (by rfl)) ?_
      refine WQ.callp (by rfl) (fun w => Yc.func (by rfl) fn61) (fun w hs => (c_laws_eqFile _ _ _)) (fun _ _ hs hb => hs.ext hb) ?_
      refine WQ.p (by rfl) (fun w hs => Yl.not (by rfl)) ?_
      refine WQ.next ?_
      clear hs; intro w hs
      refine WC.condS (by rfl) (fun h3 => ?_) (fun h3 => ?_)
      ·
        replace h3 := not_eq_true h3
        replace h3 := of_decide_eq_false h3
        refine WC.seq ?_
        refine WL.p (by rfl) (Yl.assign (by rfl)) ?_
        refine WL.next ?_
        refine WC.ret ?_
        refine At.blockret ?_
        refine At.thenret ?_
        refine At.thenret ?_
        refine At.blockret ?_
        refine At.thenret ?_
        refine fin1' rfl (by rfl) ?_
        refine RetP.mk hs ?_
        rw [hJ]; simp_all
      ·
        replace h3 := not_eq_false h3
        replace h3 := of_decide_eq_true h3
        refine WC.skip ?_
        refine At.blocknormal ?_
        refine At.then_ ?_
        refine WC.region ?_
        refine WL.p (by rfl) (Yl.move (by rfl)) ?_
        refine WL.p (by rfl) (Yl.add (by rfl) (by rfl) (by omega)) ?_
        refine WL.p (by rfl) (Yl.assign (by rfl)) ?_
        refine WL.nil ?_
        refine At.roundC (k + 1) (hs.only (by repeat (first | exact Sel.nil | (apply Sel.cons; (repeat (first | exact Ext.here | apply Ext.there)))))) ⟨by rfl, by rfl, by rfl, by rfl, by rfl, by rfl, by rfl, trivial⟩ ⟨by rfl, trivial⟩ ?_ ?_
        ·
          omega
        ·
          rw [hJ]; simp_all
    ·
      replace h2 := of_decide_eq_false h2
      rw [drop_out (l := a.l) (by omega), drop_out (l := b.l) (by omega)] at hJ
      refine WC.exit ?_
      refine At.thenexit ?_
      refine At.thenexit ?_
      refine At.blockexit ?_
      refine At.then_ ?_
      refine WC.seq ?_
      refine WL.p (by rfl) (Yl.assign (by rfl)) ?_
      refine WL.next ?_
      refine WC.ret ?_
      refine fin1' rfl (by rfl) ?_
      refine RetP.mk hs ?_
      rw [hJ]; simp_all

theorem c_laws_eqServer (a : PServer) (b : PServer) (w : World) (h_a : Ph.ok w a) (h_b : Ph.ok w b)  : Calls Tryd.prog 32 [.agg #[S a.host, Sl.v a.files], .agg #[S b.host, Sl.v b.files]].toArray w (RetP w (Bo (decide (a.lg = b.lg)))) := by
  refine enterN 16 Tryd.func32 rfl rfl rfl ?_
  have hs := Sat.start w
  refine WC.seq ?_
  refine WL.r (by rfl) (Yr.box hs (by rfl) (by rfl)) ?_
  clear hs; rintro _ w ⟨b1, rfl, hb, hs⟩; clear hb
  refine WL.r (by rfl) (Yr.box hs (by rfl) (by rfl)) ?_
  clear hs; rintro _ w ⟨b2, rfl, hb, hs⟩; clear hb
  refine WL.p (by rfl) (Yl.assign (by rfl)) ?_
  refine WL.next ?_
  refine WC.seq' ?_
  refine WC.seq ?_
  refine WL.p (by rfl) (Yl.fieldAddr fa52_0 (by rfl)) ?_
  refine WL.p (by rfl) (Yl.loadB sca9 (by rfl) hs (by repeat (first | exact List.mem_cons_self | apply List.mem_cons_of_mem)) (by rfl)) ?_
  refine WL.p (by rfl) (Yl.fieldAddr fa52_0 (by rfl)) ?_
  refine WL.p (by rfl) (Yl.loadB sca9 (by rfl) hs (by repeat (first | exact List.mem_cons_self | apply List.mem_cons_of_mem)) (by rfl)) ?_
  refine WL.p (by rfl) (Yl.nes (by rfl) (by rfl)) ?_
  refine WL.next ?_
  refine WC.condS (by rfl) (fun h1 => ?_) (fun h1 => ?_)
  ·
    replace h1 := not_eq_true h1
    replace h1 := of_decide_eq_false h1
    refine WC.seq ?_
    refine WL.p (by rfl) (Yl.assign (by rfl)) ?_
    refine WL.next ?_
    refine WC.ret ?_
    refine At.thenret ?_
    refine fin1' rfl (by rfl) ?_
    refine RetP.mk hs ?_
    simp_all [TServer.ext_iff]
  ·
    replace h1 := not_eq_false h1
    replace h1 := of_decide_eq_true h1
    refine WC.skipn ?_
    refine WC.seq' ?_
    refine WC.seq ?_
    refine WL.p (by rfl) (Yl.fieldAddr fa52_1 (by rfl)) ?_
    refine WL.p (by rfl) (Yl.loadB sca50 (by rfl) hs (by repeat (first | exact List.mem_cons_self | apply List.mem_cons_of_mem)) (by rfl)) ?_
    refine WL.p (by rfl) (Yl.fieldAddr fa52_1 (by rfl)) ?_
    refine WL.p (by rfl) (Yl.loadB sca50 (by rfl) hs (by repeat (first | exact List.mem_cons_self | apply List.mem_cons_of_mem)) (by rfl)) ?_
    refine WL.callp hs (by rfl) (Yc.func (by rfl) fn51) (c_laws_eqFileS _ _ _ (Ph.old h_a.files hs) (Ph.old h_b.files hs)) ?_
    clear hs; intro w hs
    refine WL.p (by rfl) (Yl.not (by rfl)) ?_
    refine WL.next ?_
    refine WC.condS (by rfl) (fun h2 => ?_) (fun h2 => ?_)
    ·
      replace h2 := not_eq_true h2
      replace h2 := of_decide_eq_false h2
      refine WC.seq ?_
      refine WL.p (by rfl) (Yl.assign (by rfl)) ?_
      refine WL.next ?_
      refine WC.ret ?_
      refine At.thenret ?_
      refine fin1' rfl (by rfl) ?_
      refine RetP.mk hs ?_
      simp_all [TServer.ext_iff]
    ·
      replace h2 := not_eq_false h2
      replace h2 := of_decide_eq_true h2
      refine WC.skipn ?_
      refine WC.seq ?_
      refine WL.p (by rfl) (Yl.assign (by rfl)) ?_
      refine WL.next ?_
      refine WC.ret ?_
      refine fin1' rfl (by rfl) ?_
      refine RetP.mk hs ?_
      simp_all [TServer.ext_iff]

theorem c_laws_eqServerS (a : (Sl PServer)) (b : (Sl PServer)) (w : World) (h_a : Ph.ok w a) (h_b : Ph.ok w b)  : Calls Tryd.prog 15 [Sl.v a, Sl.v b].toArray w (RetP w (Bo (decide ((a.l).map PServer.lg = (b.l).map PServer.lg)))) := by
  have hw := h_a.lt
  refine enterN 27 Tryd.func15 rfl rfl rfl ?_
  have hs := Sat.start w
  refine WC.seq ?_
  refine WL.p (by rfl) (Yl.assign (by rfl)) ?_
  refine WL.next ?_
  refine WC.seq' ?_
  refine WC.seq ?_
  refine WL.p (by rfl) (Yl.move (by rfl)) ?_
  refine WL.p (by rfl) (Yl.len_sl slu31 (by rfl)) ?_
  refine WL.p (by rfl) (Yl.move (by rfl)) ?_
  refine WL.p (by rfl) (Yl.len_sl slu31 (by rfl)) ?_
  refine WL.p (by rfl) (Yl.nei (by rfl) (by rfl)) ?_
  refine WL.next ?_
  refine WC.condS (by rfl) (fun h1 => ?_) (fun h1 => ?_)
  ·
    replace h1 := not_eq_true h1
    replace h1 := of_decide_eq_false h1
    refine WC.seq ?_
    refine WL.p (by rfl) (Yl.assign (by rfl)) ?_
    refine WL.next ?_
    refine WC.ret ?_
    refine At.thenret ?_
    refine fin1' rfl (by rfl) ?_
    refine RetP.mk hs ?_
    have hne : ¬ (a.l).map PServer.lg = (b.l).map PServer.lg := by
      intro h
      have h2 := congrArg List.length h
      try simp at h2
      omega
    simp only [hne, decide_false]
  ·
    replace h1 := not_eq_false h1
    replace h1 := of_decide_eq_true h1
    refine WC.skipn ?_
    refine WC.seq' ?_
    refine WC.seq ?_
    refine WL.p (by rfl) (Yl.assign (by rfl)) ?_
    refine WL.next ?_
    refine WC.block ?_
    refine WC.loopC (ι := Nat) (fun k => a.l.length - k) (fun k => [(5, I (k : Int))]) (fun _ => []) (fun k => decide ((a.l).map PServer.lg = (b.l).map PServer.lg) = decide ((a.l.drop k).map PServer.lg = (b.l.drop k).map PServer.lg)) [(0, _), (1, _), (6, _), (7, _), (8, _), (9, _), (10, _)] 0 (hs) ⟨by rfl, by rfl, by rfl, by rfl, by rfl, by rfl, by rfl, trivial⟩ ⟨by rfl, trivial⟩ ?_ ?_
    ·
      simp
    clear hs; rintro k w hJ hs
    simp only [List.nil_append] at hs
    refine WC.seq' ?_
    refine WC.seq ?_
    refine WL.p (by rfl) (Yl.move (by rfl)) ?_
    refine WL.p (by rfl) (Yl.move (by rfl)) ?_
    refine WL.p (by rfl) (Yl.len_sl slu31 (by rfl)) ?_
    refine WL.p (by rfl) (Yl.lss (by rfl) (by rfl)) ?_
    refine WL.next ?_
    refine WC.condS (by rfl) (fun h2 => ?_) (fun h2 => ?_)
    ·
      replace h2 := of_decide_eq_true h2
      obtain ⟨d, hd⟩ := exists_get (l := a.l) (k := k) (by omega)
      obtain ⟨d2, hd2⟩ := exists_get (l := b.l) (k := k) (by omega)
      rw [drop_cons hd, drop_cons hd2] at hJ
      refine WC.skipn ?_
      refine WC.seq' ?_
      refine WC.block ?_
      refine WC.quietn mixed (by kernel_rfl) hs ?_
      refine WQ.p (by rfl) (fun w hs => Yl.move (by rfl)) ?_
      refine WQ.p (by rfl) (fun w hs => Yl.move (by rfl)) ?_
      refine WQ.p (by rfl) (fun w hs => Yl.indexAddr slt31 (by rfl) (by rfl) (Ph.old h_a hs) (by rfl) (hd)) ?_
      refine WQ.p (by rfl) (fun w hs => Yl.loadA agg52 (by rfl) (Sl.Ok.at_ (Ph.old h_a hs) (by assumption)).2 (by rfl)) ?_
      refine WQ.p (by rfl) (fun w hs => Yl.move (by rfl)) ?_
      refine WQ.p (by rfl) (fun w hs => Yl.move (by rfl)) ?_
      refine WQ.p (by rfl) (fun w hs => Yl.indexAddr slt31 (by rfl) (by rfl) (Ph.old h_b hs) (by rfl) (hd2)) ?_
      refine WQ.p (by rfl) (fun w hs => Yl.loadA agg52 (by rfl) (Sl.Ok.at_ (Ph.old h_b hs) (by assumption)).2 (by rfl)) ?_
      refine WQ.callp (by rfl) (fun w => Yc.func (by rfl) fn32) (fun w hs => (c_laws_eqServer _ _ _ (Ph.old (Sl.Ok.elem h_a hd) hs) (Ph.old (Sl.Ok.elem h_b hd2) hs))) (fun _ _ hs hb => hs.ext hb) ?_
      refine WQ.p (by rfl) (fun w hs => Yl.not (by rfl)) ?_
      refine WQ.next ?_
      clear hs; intro w hs
      refine WC.condS (by rfl) (fun h3 => ?_) (fun h3 => ?_)
      ·
        replace h3 := not_eq_true h3
        replace h3 := of_decide_eq_false h3
        refine WC.seq ?_
        refine WL.p (by rfl) (Yl.assign (by rfl)) ?_
        refine WL.next ?_
        refine WC.ret ?_
        refine At.blockret ?_
        refine At.thenret ?_
        refine At.thenret ?_
        refine At.blockret ?_
        refine At.thenret ?_
        refine fin1' rfl (by rfl) ?_
        refine RetP.mk hs ?_
        rw [hJ]; simp_all
      ·
        replace h3 := not_eq_false h3
        replace h3 := of_decide_eq_true h3
        refine WC.skip ?_
        refine At.blocknormal ?_
        refine At.then_ ?_
        refine WC.region ?_
        refine WL.p (by rfl) (Yl.move (by rfl)) ?_
        refine WL.p (by rfl) (Yl.add (by rfl) (by rfl) (by omega)) ?_
        refine WL.p (by rfl) (Yl.assign (by rfl)) ?_
        refine WL.nil ?_
        refine At.roundC (k + 1) (hs.only (by repeat (first | exact Sel.nil | (apply Sel.cons; (repeat (first | exact Ext.here | apply Ext.there)))))) ⟨by rfl, by rfl, by rfl, by rfl, by rfl, by rfl, by rfl, trivial⟩ ⟨by rfl, trivial⟩ ?_ ?_
        ·
          omega
        ·
          rw [hJ]; simp_all
    ·
      replace h2 := of_decide_eq_false h2
      rw [drop_out (l := a.l) (by omega), drop_out (l := b.l) (by omega)] at hJ
      refine WC.exit ?_
      refine At.thenexit ?_
      refine At.thenexit ?_
      refine At.blockexit ?_
      refine At.then_ ?_
      refine WC.seq ?_
      refine WL.p (by rfl) (Yl.assign (by rfl)) ?_
      refine WL.next ?_
      refine WC.ret ?_
      refine fin1' rfl (by rfl) ?_
      refine RetP.mk hs ?_
      rw [hJ]; simp_all

theorem c_laws_markText (k : Int) (w : World)  (hk : k ≤ 1000000000) : Calls Tryd.prog 33 [I k].toArray w (RetP w (S (mkT k))) := by
  refine enterN 20 Tryd.func33 rfl rfl rfl ?_
  have hs := Sat.start w
  refine WC.seq ?_
  refine WL.p (by rfl) (Yl.assign (by rfl)) ?_
  refine WL.next ?_
  refine WC.seq' ?_
  refine WC.seq ?_
  refine WL.p (by rfl) (Yl.move (by rfl)) ?_
  refine WL.p (by rfl) (Yl.leq (by rfl) (by rfl)) ?_
  refine WL.next ?_
  refine WC.condS (by rfl) (fun h1 => ?_) (fun h1 => ?_)
  ·
    replace h1 := of_decide_eq_true h1
    refine WC.seq ?_
    refine WL.p (by rfl) (Yl.assign (by rfl)) ?_
    refine WL.next ?_
    refine WC.ret ?_
    refine At.thenret ?_
    refine fin1' rfl (by rfl) ?_
    refine RetP.mk hs ?_
    rw [mkT_out (by omega)]
  ·
    replace h1 := of_decide_eq_false h1
    refine WC.skipn ?_
    refine WC.seq ?_
    refine WL.p (by rfl) (Yl.assign (by rfl)) ?_
    refine WL.next ?_
    refine WC.seq' ?_
    refine WC.block ?_
    refine WC.loopC (ι := Nat × Str) (fun ⟨n, o⟩ => n) (fun ⟨n, o⟩ => [(0, I (n : Int)), (3, S o)]) (fun _ => []) (fun ⟨n, o⟩ => digs k.toNat [] = digs n o ∧ o.length + n ≤ 1000000000) [(2, _), (4, _), (5, _)] (k.toNat, []) (hs) ⟨by rfl, by rfl, by rfl, trivial⟩ ⟨by exact congrArg (fun z => some (I z)) (by omega), by rfl, trivial⟩ ?_ ?_
    ·
      exact ⟨rfl, by simp; omega⟩
    clear hs; rintro ⟨n, o⟩ w ⟨hJ1, hJ2⟩ hs
    simp only [List.nil_append] at hs
    refine WC.seq' ?_
    refine WC.seq ?_
    refine WL.p (by rfl) (Yl.move (by rfl)) ?_
    refine WL.p (by rfl) (Yl.gtr (by rfl) (by rfl)) ?_
    refine WL.next ?_
    refine WC.condS (by rfl) (fun h2 => ?_) (fun h2 => ?_)
    ·
      replace h2 := of_decide_eq_true h2
      refine WC.skipn ?_
      refine WC.block ?_
      refine WC.seq ?_
      refine WL.p (by rfl) (Yl.move (by rfl)) ?_
      refine WL.p (by rfl) (Yl.remw (by rfl) (by rfl) (by decide)) ?_
      refine WL.p (by rfl) (Yl.add (by rfl) (by rfl) (by first | (rw [tmod10]; omega) | (simp; omega))) ?_
      refine WL.p (by rfl) (Yl.intByte (c := UInt8.ofNat (48 + n % 10)) (by kernel_rfl) u8t5 (by rfl) (by rw [digit_nat, tmod10]; omega)) ?_
      refine WL.r (by rfl) (Yr.buildSlice hs sll60 (by rfl) (by rfl) (by rfl) (by repeat (first | exact Fill.nil | (apply Fill.cons; rfl; rfl; rfl; repeat (first | (apply SetAt.here; repeat (first | exact Over.nil | apply Over.cons)) | apply SetAt.there)))) (by rfl)) ?_
      clear hs; rintro _ w ⟨b1, rfl, hb, hs⟩; clear hb
      refine WL.p (by rfl) (Yl.bytesStr (l := [UInt8.ofNat (48 + n % 10)]) slu60 u8t5 str9 (by rfl) (hs.box_cells (by repeat (first | exact List.mem_cons_self | apply List.mem_cons_of_mem))) (by rfl) (by rfl)) ?_
      refine WL.p (by rfl) (Yl.move (by rfl)) ?_
      refine WL.p (by rfl) (Yl.cat (by rfl) (by rfl) (by first | (rw [tmod10]; omega) | (simp; omega))) ?_
      refine WL.p (by rfl) (Yl.assign (by rfl)) ?_
      refine WL.next ?_
      refine WC.region ?_
      refine WL.p (by rfl) (Yl.move (by rfl)) ?_
      refine WL.p (by rfl) (Yl.quow (by rfl) (by rfl) (by decide)) ?_
      refine WL.p (by rfl) (Yl.assign (by rfl)) ?_
      refine WL.nil ?_
      refine At.blocknormal ?_
      refine At.roundC (n / 10, UInt8.ofNat (48 + n % 10) :: o) (hs.only (by repeat (first | exact Sel.nil | (apply Sel.cons; (repeat (first | exact Ext.here | apply Ext.there)))))) ⟨by rfl, by rfl, by rfl, trivial⟩ ⟨by exact congrArg (fun z => some (I z)) (quo10 (by omega)), by rfl, trivial⟩ ?_ ?_
      ·
        show n / 10 < n
        omega
      ·
        exact ⟨by rw [hJ1, digs_step (by omega)], by simp; omega⟩
    ·
      replace h2 := of_decide_eq_false h2
      refine WC.exit ?_
      refine At.thenexit ?_
      refine At.thenexit ?_
      refine At.blockexit ?_
      refine At.then_ ?_
      refine WC.seq ?_
      refine WL.p (by rfl) (Yl.move (by rfl)) ?_
      refine WL.p (by rfl) (Yl.cat (by rfl) (by rfl) (by first | (rw [tmod10]; omega) | (simp; omega))) ?_
      refine WL.p (by rfl) (Yl.assign (by rfl)) ?_
      refine WL.next ?_
      refine WC.ret ?_
      refine fin1' rfl (by rfl) ?_
      refine RetP.mk hs ?_
      rw [mkT_in (by omega), hJ1, show n = 0 from by omega, digs_zero]; rfl

theorem c_laws_markFileS (a : (Sl TFile)) (k : Int) (w : World) (F : List Nat) (hF : Own.own w a F) (hn : F.Nodup)  (hk0 : 0 ≤ k) (hk : k + ((costL (fun _ => 7) (a.l) : Nat) : Int) ≤ 100000000) : Calls Tryd.prog 34 [Sl.v a, I k].toArray w (RetM w a F (I (k + ((costL (fun _ => 7) (a.l) : Nat) : Int))) (fun a' => a'.l = mkL mkFile (fun _ => 7) k (a.l))) := by
  have hw := (Own.ok hF : Sl.Ok w a).lt
  have hk2 := hk
  rw [costL_const] at hk2
  refine enterN 73 Tryd.func34 rfl rfl rfl ?_
  have hs := Sat.markStart hF hn
  refine WC.seq ?_
  refine WL.p (by rfl) (Yl.assign (by rfl)) ?_
  refine WL.next ?_
  refine WC.seq' ?_
  refine WC.seq ?_
  refine WL.p (by rfl) (Yl.assign (by rfl)) ?_
  refine WL.next ?_
  refine WC.block ?_
  refine WC.loopC (ι := Nat × Sl TFile × List Nat × List TFile) (fun ⟨n, s, F1, p⟩ => a.l.length - n) (fun ⟨n, s, F1, p⟩ => [(5, I (n : Int)), (1, I (k + ((7 * n : Nat) : Int))), (0, s.v)]) (fun ⟨n, s, F1, p⟩ => [ow s F1]) (fun ⟨n, s, F1, p⟩ => n ≤ a.l.length ∧ s.v = a.v ∧ p.length = n ∧ s.l = p ++ a.l.drop n ∧ p = mkL mkFile (fun _ => 7) k (a.l.take n)) [(4, _)] (0, a, F, []) (hs.sel (D := [ow a F]) (by repeat (first | exact Sel.nil | (apply Sel.cons; (repeat (first | exact Ext.here | apply Ext.there)))))) ⟨by rfl, trivial⟩ ⟨by rfl, by exact congrArg (fun z => some (I z)) (by omega), by rfl, trivial⟩ ?_ ?_
  ·
    exact ⟨Nat.zero_le _, rfl, rfl, by simp, by simp [mkL]⟩
  clear hs; rintro ⟨n, s, F1, p⟩ w ⟨hJ1, hJ2, hJ3, hJ4, hJ5⟩ hs
  simp only [List.cons_append, List.nil_append] at hs
  refine WC.seq' ?_
  refine WC.seq ?_
  refine WL.p (by rfl) (Yl.move (by rfl)) ?_
  refine WL.p (by rfl) (Yl.move (by rfl)) ?_
  refine WL.p (by rfl) (Yl.len_sl slu50 (by rfl)) ?_
  refine WL.p (by rfl) (Yl.lss (by rfl) (by rfl)) ?_
  refine WL.next ?_
  refine WC.condS (by rfl) (fun h1 => ?_) (fun h1 => ?_)
  ·
    replace h1 := of_decide_eq_true h1
    have hsl : s.l.length = a.l.length := by rw [hJ4]; simp [hJ3]; omega
    obtain ⟨d, hd0⟩ := exists_get (l := a.l) (k := n) (by omega)
    have hd : s.l[n]? = some d := by rw [hJ4]; exact step_get hJ3 hd0
    have hkl : n < s.l.length := by omega
    refine WC.skipn ?_
    refine WC.seq' ?_
    refine WC.block ?_
    refine WC.seq ?_
    refine WL.p (by rfl) (Yl.move (by rfl)) ?_
    refine WL.p (by rfl) (Yl.move (by rfl)) ?_
    refine WL.p (by rfl) (Yl.move (by rfl)) ?_
    refine WL.callp hs (by rfl) (Yc.func (by rfl) fn33) (c_laws_markText _ _ (by omega)) ?_
    clear hs; intro w hs
    refine WL.p (by rfl) (Yl.indexAddr slt50 (by rfl) (by rfl) (hs.okow (x := s) (F := F1) (by repeat (first | exact List.mem_cons_self | apply List.mem_cons_of_mem))) (by rfl) (hd)) ?_
    refine WL.p (by rfl) (Yl.fieldAddr fa55_0 (by rfl)) ?_
    refine WL.s (Yr.storeP (s := s) (F := F1) (d := d) (u := (⟨(mkT (k + ((7 * n : Nat) : Int))), d.response⟩ : TFile)) (k := n) (j := 0) hs (by repeat (first | exact Sel.nil | (apply Sel.cons; (repeat (first | exact Ext.here | apply Ext.there))))) (by rfl) (by rfl) (by rfl) hd ⟨_, by rfl, by rfl⟩ (by repeat (first | (apply SetAt.here; repeat (first | exact Over.nil | apply Over.cons)) | apply SetAt.there)) (by exact own_part_flat ⟨(by first | exact (show WfS ((mkT (k + ((7 * n : Nat) : Int)))) from mkT_len (by omega)) | assumption | (refine Ph.old ?_ hs; assumption)), (Sl.Ok.elem (hs.okow (x := s) (F := F1) (by repeat (first | exact List.mem_cons_self | apply List.mem_cons_of_mem))) hd).response⟩) (by rfl) (by exact szf9)) ?_
    clear hs; rintro _ w ⟨s1, _, rfl, hv1, hl1, hg1, hs⟩
    refine WL.next ?_
    refine WC.seq ?_
    refine WL.p (by rfl) (Yl.move (by rfl)) ?_
    refine WL.p (by rfl) (Yl.add (by rfl) (by rfl) (by omega)) ?_
    refine WL.p (by rfl) (Yl.assign (by rfl)) ?_
    refine WL.next ?_
    refine WC.seq ?_
    refine WL.p (by rfl) (Yl.move (by rfl)) ?_
    refine WL.p (by rfl) (Yl.move (by rfl)) ?_
    refine WL.p (by rfl) (Yl.move (by rfl)) ?_
    refine WL.p (by rfl) (Yl.indexAddrV slt50 (by rfl) hv1 (by rfl) (hs.okow (x := s1) (F := F1) (by repeat (first | exact List.mem_cons_self | apply List.mem_cons_of_mem))) (by rfl) (hg1)) ?_
    refine WL.p (by rfl) (Yl.fieldAddr fa55_1 (by rfl)) ?_
    refine WL.p (by rfl) (Yl.fieldAddr2 fa37_0 (by rfl)) ?_
    refine WL.s (Yr.storeP (s := s1) (F := F1) (d := (⟨(mkT (k + ((7 * n : Nat) : Int))), d.response⟩ : TFile)) (u := (⟨(mkT (k + ((7 * n : Nat) : Int))), ⟨((k + ((7 * n : Nat) : Int)) + 1), d.response.kind, d.response.body, d.response.age, d.response.shares, d.response.policy⟩⟩ : TFile)) (k := n) (j := 1) hs (by repeat (first | exact Sel.nil | (apply Sel.cons; (repeat (first | exact Ext.here | apply Ext.there))))) (by rfl) (by rfl) (by rfl) hg1 ⟨_, by rfl, by rfl⟩ (by repeat (first | (apply SetAt.here; repeat (first | exact Over.nil | apply Over.cons)) | apply SetAt.there)) (by exact own_part_flat ⟨(Sl.Ok.elem (hs.okow (x := s1) (F := F1) (by repeat (first | exact List.mem_cons_self | apply List.mem_cons_of_mem))) hg1).path, ⟨(by exact (show WfI (((k + ((7 * n : Nat) : Int)) + 1)) from ⟨by omega, by omega⟩)), (Sl.Ok.elem (hs.okow (x := s1) (F := F1) (by repeat (first | exact List.mem_cons_self | apply List.mem_cons_of_mem))) hg1).response.kind, (Sl.Ok.elem (hs.okow (x := s1) (F := F1) (by repeat (first | exact List.mem_cons_self | apply List.mem_cons_of_mem))) hg1).response.body, (Sl.Ok.elem (hs.okow (x := s1) (F := F1) (by repeat (first | exact List.mem_cons_self | apply List.mem_cons_of_mem))) hg1).response.age, (Sl.Ok.elem (hs.okow (x := s1) (F := F1) (by repeat (first | exact List.mem_cons_self | apply List.mem_cons_of_mem))) hg1).response.shares, (Sl.Ok.elem (hs.okow (x := s1) (F := F1) (by repeat (first | exact List.mem_cons_self | apply List.mem_cons_of_mem))) hg1).response.policy⟩⟩) (by rfl) (by exact szf3)) ?_
    clear hs; rintro _ w ⟨s2, _, rfl, hv2, hl2, hg2, hs⟩
    refine WL.next ?_
    refine WC.seq ?_
    refine WL.p (by rfl) (Yl.move (by rfl)) ?_
    refine WL.p (by rfl) (Yl.add (by rfl) (by rfl) (by omega)) ?_
    refine WL.p (by rfl) (Yl.assign (by rfl)) ?_
    refine WL.next ?_
    refine WC.seq ?_
    refine WL.p (by rfl) (Yl.move (by rfl)) ?_
    refine WL.p (by rfl) (Yl.move (by rfl)) ?_
    refine WL.p (by rfl) (Yl.move (by rfl)) ?_
    refine WL.p (by rfl) (Yl.indexAddrV slt50 (by rfl) (hv2.trans hv1) (by rfl) (hs.okow (x := s2) (F := F1) (by repeat (first | exact List.mem_cons_self | apply List.mem_cons_of_mem))) (by rfl) (hg2)) ?_
    refine WL.p (by rfl) (Yl.fieldAddr fa55_1 (by rfl)) ?_
    refine WL.p (by rfl) (Yl.fieldAddr2 fa37_1 (by rfl)) ?_
    refine WL.s (Yr.storeP (s := s2) (F := F1) (d := (⟨(mkT (k + ((7 * n : Nat) : Int))), ⟨((k + ((7 * n : Nat) : Int)) + 1), d.response.kind, d.response.body, d.response.age, d.response.shares, d.response.policy⟩⟩ : TFile)) (u := (⟨(mkT (k + ((7 * n : Nat) : Int))), ⟨((k + ((7 * n : Nat) : Int)) + 1), (((k + ((7 * n : Nat) : Int)) + 1) + 1), d.response.body, d.response.age, d.response.shares, d.response.policy⟩⟩ : TFile)) (k := n) (j := 2) hs (by repeat (first | exact Sel.nil | (apply Sel.cons; (repeat (first | exact Ext.here | apply Ext.there))))) (by rfl) (by rfl) (by rfl) hg2 ⟨_, by rfl, by rfl⟩ (by repeat (first | (apply SetAt.here; repeat (first | exact Over.nil | apply Over.cons)) | apply SetAt.there)) (by exact own_part_flat ⟨(Sl.Ok.elem (hs.okow (x := s2) (F := F1) (by repeat (first | exact List.mem_cons_self | apply List.mem_cons_of_mem))) hg2).path, ⟨(Sl.Ok.elem (hs.okow (x := s2) (F := F1) (by repeat (first | exact List.mem_cons_self | apply List.mem_cons_of_mem))) hg2).response.status, (by exact (show WfI ((((k + ((7 * n : Nat) : Int)) + 1) + 1)) from ⟨by omega, by omega⟩)), (Sl.Ok.elem (hs.okow (x := s2) (F := F1) (by repeat (first | exact List.mem_cons_self | apply List.mem_cons_of_mem))) hg2).response.body, (Sl.Ok.elem (hs.okow (x := s2) (F := F1) (by repeat (first | exact List.mem_cons_self | apply List.mem_cons_of_mem))) hg2).response.age, (Sl.Ok.elem (hs.okow (x := s2) (F := F1) (by repeat (first | exact List.mem_cons_self | apply List.mem_cons_of_mem))) hg2).response.shares, (Sl.Ok.elem (hs.okow (x := s2) (F := F1) (by repeat (first | exact List.mem_cons_self | apply List.mem_cons_of_mem))) hg2).response.policy⟩⟩) (by rfl) (by exact szf3)) ?_
    clear hs; rintro _ w ⟨s3, _, rfl, hv3, hl3, hg3, hs⟩
    refine WL.next ?_
    refine WC.seq ?_
    refine WL.p (by rfl) (Yl.move (by rfl)) ?_
    refine WL.p (by rfl) (Yl.add (by rfl) (by rfl) (by omega)) ?_
    refine WL.p (by rfl) (Yl.assign (by rfl)) ?_
    refine WL.next ?_
    refine WC.seq ?_
    refine WL.p (by rfl) (Yl.move (by rfl)) ?_
    refine WL.p (by rfl) (Yl.move (by rfl)) ?_
    refine WL.p (by rfl) (Yl.move (by rfl)) ?_
    refine WL.callp hs (by rfl) (Yc.func (by rfl) fn33) (c_laws_markText _ _ (by omega)) ?_
    clear hs; intro w hs
    refine WL.p (by rfl) (Yl.indexAddrV slt50 (by rfl) (hv3.trans (hv2.trans hv1)) (by rfl) (hs.okow (x := s3) (F := F1) (by repeat (first | exact List.mem_cons_self | apply List.mem_cons_of_mem))) (by rfl) (hg3)) ?_
    refine WL.p (by rfl) (Yl.fieldAddr fa55_1 (by rfl)) ?_
    refine WL.p (by rfl) (Yl.fieldAddr2 fa37_2 (by rfl)) ?_
    refine WL.s (Yr.storeP (s := s3) (F := F1) (d := (⟨(mkT (k + ((7 * n : Nat) : Int))), ⟨((k + ((7 * n : Nat) : Int)) + 1), (((k + ((7 * n : Nat) : Int)) + 1) + 1), d.response.body, d.response.age, d.response.shares, d.response.policy⟩⟩ : TFile)) (u := (⟨(mkT (k + ((7 * n : Nat) : Int))), ⟨((k + ((7 * n : Nat) : Int)) + 1), (((k + ((7 * n : Nat) : Int)) + 1) + 1), (mkT ((((k + ((7 * n : Nat) : Int)) + 1) + 1) + 1)), d.response.age, d.response.shares, d.response.policy⟩⟩ : TFile)) (k := n) (j := 3) hs (by repeat (first | exact Sel.nil | (apply Sel.cons; (repeat (first | exact Ext.here | apply Ext.there))))) (by rfl) (by rfl) (by rfl) hg3 ⟨_, by rfl, by rfl⟩ (by repeat (first | (apply SetAt.here; repeat (first | exact Over.nil | apply Over.cons)) | apply SetAt.there)) (by exact own_part_flat ⟨(Sl.Ok.elem (hs.okow (x := s3) (F := F1) (by repeat (first | exact List.mem_cons_self | apply List.mem_cons_of_mem))) hg3).path, ⟨(Sl.Ok.elem (hs.okow (x := s3) (F := F1) (by repeat (first | exact List.mem_cons_self | apply List.mem_cons_of_mem))) hg3).response.status, (Sl.Ok.elem (hs.okow (x := s3) (F := F1) (by repeat (first | exact List.mem_cons_self | apply List.mem_cons_of_mem))) hg3).response.kind, (by first | exact (show WfS ((mkT ((((k + ((7 * n : Nat) : Int)) + 1) + 1) + 1))) from mkT_len (by omega)) | assumption | (refine Ph.old ?_ hs; assumption)), (Sl.Ok.elem (hs.okow (x := s3) (F := F1) (by repeat (first | exact List.mem_cons_self | apply List.mem_cons_of_mem))) hg3).response.age, (Sl.Ok.elem (hs.okow (x := s3) (F := F1) (by repeat (first | exact List.mem_cons_self | apply List.mem_cons_of_mem))) hg3).response.shares, (Sl.Ok.elem (hs.okow (x := s3) (F := F1) (by repeat (first | exact List.mem_cons_self | apply List.mem_cons_of_mem))) hg3).response.policy⟩⟩) (by rfl) (by exact szf9)) ?_
    clear hs; rintro _ w ⟨s4, _, rfl, hv4, hl4, hg4, hs⟩
    refine WL.next ?_
    refine WC.seq ?_
    refine WL.p (by rfl) (Yl.move (by rfl)) ?_
    refine WL.p (by rfl) (Yl.add (by rfl) (by rfl) (by omega)) ?_
    refine WL.p (by rfl) (Yl.assign (by rfl)) ?_
    refine WL.next ?_
    refine WC.seq ?_
    refine WL.p (by rfl) (Yl.move (by rfl)) ?_
    refine WL.p (by rfl) (Yl.move (by rfl)) ?_
    refine WL.p (by rfl) (Yl.move (by rfl)) ?_
    refine WL.p (by rfl) (Yl.indexAddrV slt50 (by rfl) (hv4.trans (hv3.trans (hv2.trans hv1))) (by rfl) (hs.okow (x := s4) (F := F1) (by repeat (first | exact List.mem_cons_self | apply List.mem_cons_of_mem))) (by rfl) (hg4)) ?_
    refine WL.p (by rfl) (Yl.fieldAddr fa55_1 (by rfl)) ?_
    refine WL.p (by rfl) (Yl.fieldAddr2 fa37_3 (by rfl)) ?_
    refine WL.s (Yr.storeP (s := s4) (F := F1) (d := (⟨(mkT (k + ((7 * n : Nat) : Int))), ⟨((k + ((7 * n : Nat) : Int)) + 1), (((k + ((7 * n : Nat) : Int)) + 1) + 1), (mkT ((((k + ((7 * n : Nat) : Int)) + 1) + 1) + 1)), d.response.age, d.response.shares, d.response.policy⟩⟩ : TFile)) (u := (⟨(mkT (k + ((7 * n : Nat) : Int))), ⟨((k + ((7 * n : Nat) : Int)) + 1), (((k + ((7 * n : Nat) : Int)) + 1) + 1), (mkT ((((k + ((7 * n : Nat) : Int)) + 1) + 1) + 1)), (((((k + ((7 * n : Nat) : Int)) + 1) + 1) + 1) + 1), d.response.shares, d.response.policy⟩⟩ : TFile)) (k := n) (j := 4) hs (by repeat (first | exact Sel.nil | (apply Sel.cons; (repeat (first | exact Ext.here | apply Ext.there))))) (by rfl) (by rfl) (by rfl) hg4 ⟨_, by rfl, by rfl⟩ (by repeat (first | (apply SetAt.here; repeat (first | exact Over.nil | apply Over.cons)) | apply SetAt.there)) (by exact own_part_flat ⟨(Sl.Ok.elem (hs.okow (x := s4) (F := F1) (by repeat (first | exact List.mem_cons_self | apply List.mem_cons_of_mem))) hg4).path, ⟨(Sl.Ok.elem (hs.okow (x := s4) (F := F1) (by repeat (first | exact List.mem_cons_self | apply List.mem_cons_of_mem))) hg4).response.status, (Sl.Ok.elem (hs.okow (x := s4) (F := F1) (by repeat (first | exact List.mem_cons_self | apply List.mem_cons_of_mem))) hg4).response.kind, (Sl.Ok.elem (hs.okow (x := s4) (F := F1) (by repeat (first | exact List.mem_cons_self | apply List.mem_cons_of_mem))) hg4).response.body, (by exact (show WfI ((((((k + ((7 * n : Nat) : Int)) + 1) + 1) + 1) + 1)) from ⟨by omega, by omega⟩)), (Sl.Ok.elem (hs.okow (x := s4) (F := F1) (by repeat (first | exact List.mem_cons_self | apply List.mem_cons_of_mem))) hg4).response.shares, (Sl.Ok.elem (hs.okow (x := s4) (F := F1) (by repeat (first | exact List.mem_cons_self | apply List.mem_cons_of_mem))) hg4).response.policy⟩⟩) (by rfl) (by exact szf3)) ?_
    clear hs; rintro _ w ⟨s5, _, rfl, hv5, hl5, hg5, hs⟩
    refine WL.next ?_
    refine WC.seq ?_
    refine WL.p (by rfl) (Yl.move (by rfl)) ?_
    refine WL.p (by rfl) (Yl.add (by rfl) (by rfl) (by omega)) ?_
    refine WL.p (by rfl) (Yl.assign (by rfl)) ?_
    refine WL.next ?_
    refine WC.seq ?_
    refine WL.p (by rfl) (Yl.move (by rfl)) ?_
    refine WL.p (by rfl) (Yl.move (by rfl)) ?_
    refine WL.p (by rfl) (Yl.move (by rfl)) ?_
    refine WL.p (by rfl) (Yl.remw (by rfl) (by rfl) (by decide)) ?_
    refine WL.p (by rfl) (Yl.eqi (by rfl) (by rfl)) ?_
    refine WL.p (by rfl) (Yl.indexAddrV slt50 (by rfl) (hv5.trans (hv4.trans (hv3.trans (hv2.trans hv1)))) (by rfl) (hs.okow (x := s5) (F := F1) (by repeat (first | exact List.mem_cons_self | apply List.mem_cons_of_mem))) (by rfl) (hg5)) ?_
    refine WL.p (by rfl) (Yl.fieldAddr fa55_1 (by rfl)) ?_
    refine WL.p (by rfl) (Yl.fieldAddr2 fa37_4 (by rfl)) ?_
    refine WL.s (Yr.storeP (s := s5) (F := F1) (d := (⟨(mkT (k + ((7 * n : Nat) : Int))), ⟨((k + ((7 * n : Nat) : Int)) + 1), (((k + ((7 * n : Nat) : Int)) + 1) + 1), (mkT ((((k + ((7 * n : Nat) : Int)) + 1) + 1) + 1)), (((((k + ((7 * n : Nat) : Int)) + 1) + 1) + 1) + 1), d.response.shares, d.response.policy⟩⟩ : TFile)) (u := (⟨(mkT (k + ((7 * n : Nat) : Int))), ⟨((k + ((7 * n : Nat) : Int)) + 1), (((k + ((7 * n : Nat) : Int)) + 1) + 1), (mkT ((((k + ((7 * n : Nat) : Int)) + 1) + 1) + 1)), (((((k + ((7 * n : Nat) : Int)) + 1) + 1) + 1) + 1), (decide ((Int.tmod ((((((k + ((7 * n : Nat) : Int)) + 1) + 1) + 1) + 1) + 1) 3) = 0)), d.response.policy⟩⟩ : TFile)) (k := n) (j := 5) hs (by repeat (first | exact Sel.nil | (apply Sel.cons; (repeat (first | exact Ext.here | apply Ext.there))))) (by rfl) (by rfl) (by rfl) hg5 ⟨_, by rfl, by rfl⟩ (by repeat (first | (apply SetAt.here; repeat (first | exact Over.nil | apply Over.cons)) | apply SetAt.there)) (by exact own_part_flat ⟨(Sl.Ok.elem (hs.okow (x := s5) (F := F1) (by repeat (first | exact List.mem_cons_self | apply List.mem_cons_of_mem))) hg5).path, ⟨(Sl.Ok.elem (hs.okow (x := s5) (F := F1) (by repeat (first | exact List.mem_cons_self | apply List.mem_cons_of_mem))) hg5).response.status, (Sl.Ok.elem (hs.okow (x := s5) (F := F1) (by repeat (first | exact List.mem_cons_self | apply List.mem_cons_of_mem))) hg5).response.kind, (Sl.Ok.elem (hs.okow (x := s5) (F := F1) (by repeat (first | exact List.mem_cons_self | apply List.mem_cons_of_mem))) hg5).response.body, (Sl.Ok.elem (hs.okow (x := s5) (F := F1) (by repeat (first | exact List.mem_cons_self | apply List.mem_cons_of_mem))) hg5).response.age, (by trivial), (Sl.Ok.elem (hs.okow (x := s5) (F := F1) (by repeat (first | exact List.mem_cons_self | apply List.mem_cons_of_mem))) hg5).response.policy⟩⟩) (by rfl) (by exact szf4)) ?_
    clear hs; rintro _ w ⟨s6, _, rfl, hv6, hl6, hg6, hs⟩
    refine WL.next ?_
    refine WC.seq ?_
    refine WL.p (by rfl) (Yl.move (by rfl)) ?_
    refine WL.p (by rfl) (Yl.add (by rfl) (by rfl) (by omega)) ?_
    refine WL.p (by rfl) (Yl.assign (by rfl)) ?_
    refine WL.next ?_
    refine WC.seq ?_
    refine WL.p (by rfl) (Yl.move (by rfl)) ?_
    refine WL.p (by rfl) (Yl.move (by rfl)) ?_
    refine WL.p (by rfl) (Yl.move (by rfl)) ?_
    refine WL.callp hs (by rfl) (Yc.func (by rfl) fn33) (c_laws_markText _ _ (by omega)) ?_
    clear hs; intro w hs
    refine WL.p (by rfl) (Yl.indexAddrV slt50 (by rfl) (hv6.trans (hv5.trans (hv4.trans (hv3.trans (hv2.trans hv1))))) (by rfl) (hs.okow (x := s6) (F := F1) (by repeat (first | exact List.mem_cons_self | apply List.mem_cons_of_mem))) (by rfl) (hg6)) ?_
    refine WL.p (by rfl) (Yl.fieldAddr fa55_1 (by rfl)) ?_
    refine WL.p (by rfl) (Yl.fieldAddr2 fa37_5 (by rfl)) ?_
    refine WL.s (Yr.storeP (s := s6) (F := F1) (d := (⟨(mkT (k + ((7 * n : Nat) : Int))), ⟨((k + ((7 * n : Nat) : Int)) + 1), (((k + ((7 * n : Nat) : Int)) + 1) + 1), (mkT ((((k + ((7 * n : Nat) : Int)) + 1) + 1) + 1)), (((((k + ((7 * n : Nat) : Int)) + 1) + 1) + 1) + 1), (decide ((Int.tmod ((((((k + ((7 * n : Nat) : Int)) + 1) + 1) + 1) + 1) + 1) 3) = 0)), d.response.policy⟩⟩ : TFile)) (u := (⟨(mkT (k + ((7 * n : Nat) : Int))), ⟨((k + ((7 * n : Nat) : Int)) + 1), (((k + ((7 * n : Nat) : Int)) + 1) + 1), (mkT ((((k + ((7 * n : Nat) : Int)) + 1) + 1) + 1)), (((((k + ((7 * n : Nat) : Int)) + 1) + 1) + 1) + 1), (decide ((Int.tmod ((((((k + ((7 * n : Nat) : Int)) + 1) + 1) + 1) + 1) + 1) 3) = 0)), (mkT (((((((k + ((7 * n : Nat) : Int)) + 1) + 1) + 1) + 1) + 1) + 1))⟩⟩ : TFile)) (k := n) (j := 6) hs (by repeat (first | exact Sel.nil | (apply Sel.cons; (repeat (first | exact Ext.here | apply Ext.there))))) (by rfl) (by rfl) (by rfl) hg6 ⟨_, by rfl, by rfl⟩ (by repeat (first | (apply SetAt.here; repeat (first | exact Over.nil | apply Over.cons)) | apply SetAt.there)) (by exact own_part_flat ⟨(Sl.Ok.elem (hs.okow (x := s6) (F := F1) (by repeat (first | exact List.mem_cons_self | apply List.mem_cons_of_mem))) hg6).path, ⟨(Sl.Ok.elem (hs.okow (x := s6) (F := F1) (by repeat (first | exact List.mem_cons_self | apply List.mem_cons_of_mem))) hg6).response.status, (Sl.Ok.elem (hs.okow (x := s6) (F := F1) (by repeat (first | exact List.mem_cons_self | apply List.mem_cons_of_mem))) hg6).response.kind, (Sl.Ok.elem (hs.okow (x := s6) (F := F1) (by repeat (first | exact List.mem_cons_self | apply List.mem_cons_of_mem))) hg6).response.body, (Sl.Ok.elem (hs.okow (x := s6) (F := F1) (by repeat (first | exact List.mem_cons_self | apply List.mem_cons_of_mem))) hg6).response.age, (Sl.Ok.elem (hs.okow (x := s6) (F := F1) (by repeat (first | exact List.mem_cons_self | apply List.mem_cons_of_mem))) hg6).response.shares, (by first | exact (show WfS ((mkT (((((((k + ((7 * n : Nat) : Int)) + 1) + 1) + 1) + 1) + 1) + 1))) from mkT_len (by omega)) | assumption | (refine Ph.old ?_ hs; assumption))⟩⟩) (by rfl) (by exact szf9)) ?_
    clear hs; rintro _ w ⟨s7, _, rfl, hv7, hl7, hg7, hs⟩
    refine WL.next ?_
    refine WC.region ?_
    refine WL.p (by rfl) (Yl.move (by rfl)) ?_
    refine WL.p (by rfl) (Yl.add (by rfl) (by rfl) (by omega)) ?_
    refine WL.p (by rfl) (Yl.assign (by rfl)) ?_
    refine WL.nil ?_
    refine At.blocknormal ?_
    refine At.then_ ?_
    refine WC.region ?_
    refine WL.p (by rfl) (Yl.move (by rfl)) ?_
    refine WL.p (by rfl) (Yl.add (by rfl) (by rfl) (by omega)) ?_
    refine WL.p (by rfl) (Yl.assign (by rfl)) ?_
    refine WL.nil ?_
    refine At.roundC (n + 1, s7, F1, p ++ [(⟨(mkT (k + ((7 * n : Nat) : Int))), ⟨((k + ((7 * n : Nat) : Int)) + 1), (((k + ((7 * n : Nat) : Int)) + 1) + 1), (mkT ((((k + ((7 * n : Nat) : Int)) + 1) + 1) + 1)), (((((k + ((7 * n : Nat) : Int)) + 1) + 1) + 1) + 1), (decide ((Int.tmod ((((((k + ((7 * n : Nat) : Int)) + 1) + 1) + 1) + 1) + 1) 3) = 0)), (mkT (((((((k + ((7 * n : Nat) : Int)) + 1) + 1) + 1) + 1) + 1) + 1))⟩⟩ : TFile)]) (hs.only (by repeat (first | exact Sel.nil | (apply Sel.cons; (repeat (first | exact Ext.here | apply Ext.there)))))) ⟨by rfl, trivial⟩ ⟨by rfl, by exact congrArg (fun z => some (I z)) (by omega), by exact congrArg some (hv7.trans (hv6.trans (hv5.trans (hv4.trans (hv3.trans (hv2.trans hv1)))))).symm, trivial⟩ ?_ ?_
    ·
      show a.l.length - (n + 1) < a.l.length - n
      omega
    ·
      refine ⟨by omega, (hv7.trans (hv6.trans (hv5.trans (hv4.trans (hv3.trans (hv2.trans hv1)))))).trans hJ2, by simp [hJ3], ?_, ?_⟩
      · rw [hl7, hl6, hl5, hl4, hl3, hl2, hl1]; simp only [List.set_set]; rw [hJ4]; exact step_set hJ3 (by omega)
      · rw [mkL_step hd0, hJ5, costL_take_const (by omega)]; rfl
  ·
    replace h1 := of_decide_eq_false h1
    refine WC.exit ?_
    refine At.thenexit ?_
    refine At.thenexit ?_
    refine At.blockexit ?_
    refine At.then_ ?_
    refine WC.seq ?_
    refine WL.p (by rfl) (Yl.move (by rfl)) ?_
    refine WL.p (by rfl) (Yl.assign (by rfl)) ?_
    refine WL.next ?_
    refine WC.ret ?_
    refine fin1' rfl (by rfl) ?_
    have hsl : s.l.length = a.l.length := by rw [hJ4]; simp [hJ3]; omega
    have hn2 : n = a.l.length := by omega
    subst hn2
    rw [costL_const]
    refine RetM.cast (congrArg I (by omega)) ?_
    exact RetM.of hs (by repeat (first | exact List.mem_cons_self | apply List.mem_cons_of_mem)) (Sl.v_enc hJ2) (by rw [hJ4, List.drop_length, List.append_nil, hJ5, List.take_length])

theorem c_laws_markServerS (a : (Sl PServer)) (k : Int) (w : World) (F : List Nat) (hF : Own.own w a F) (hn : F.Nodup)  (hk0 : 0 ≤ k) (hk : k + ((costL costServer (a.l.map PServer.lg) : Nat) : Int) ≤ 100000000) : Calls Tryd.prog 16 [Sl.v a, I k].toArray w (RetM w a F (I (k + ((costL costServer (a.l.map PServer.lg) : Nat) : Int))) (fun a' => a'.l.map PServer.lg = mkL mkServer costServer k (a.l.map PServer.lg))) := by
  have hw := (Own.ok hF : Sl.Ok w a).lt
  refine enterN 28 Tryd.func16 rfl rfl rfl ?_
  have hs := Sat.markStart hF hn
  refine WC.seq ?_
  refine WL.p (by rfl) (Yl.assign (by rfl)) ?_
  refine WL.next ?_
  refine WC.seq' ?_
  refine WC.seq ?_
  refine WL.p (by rfl) (Yl.assign (by rfl)) ?_
  refine WL.next ?_
  refine WC.block ?_
  refine WC.loopC (ι := Nat × Sl PServer × List Nat × List PServer) (fun ⟨n, s, F1, p⟩ => a.l.length - n) (fun ⟨n, s, F1, p⟩ => [(5, I (n : Int)), (1, I (k + ((costL costServer ((a.l.map PServer.lg).take n) : Nat) : Int))), (0, s.v)]) (fun ⟨n, s, F1, p⟩ => [ow s F1]) (fun ⟨n, s, F1, p⟩ => n ≤ a.l.length ∧ s.v = a.v ∧ p.length = n ∧ s.l = p ++ a.l.drop n ∧ p.map PServer.lg = mkL mkServer costServer k ((a.l.map PServer.lg).take n)) [(4, _)] (0, a, F, []) (hs.sel (D := [ow a F]) (by repeat (first | exact Sel.nil | (apply Sel.cons; (repeat (first | exact Ext.here | apply Ext.there)))))) ⟨by rfl, trivial⟩ ⟨by rfl, by exact congrArg (fun z => some (I z)) (by simp [costL]), by rfl, trivial⟩ ?_ ?_
  ·
    exact ⟨Nat.zero_le _, rfl, rfl, by simp, by simp [mkL]⟩
  clear hs; rintro ⟨n, s, F1, p⟩ w ⟨hJ1, hJ2, hJ3, hJ4, hJ5⟩ hs
  simp only [List.cons_append, List.nil_append] at hs
  refine WC.seq' ?_
  refine WC.seq ?_
  refine WL.p (by rfl) (Yl.move (by rfl)) ?_
  refine WL.p (by rfl) (Yl.move (by rfl)) ?_
  refine WL.p (by rfl) (Yl.len_sl slu31 (by rfl)) ?_
  refine WL.p (by rfl) (Yl.lss (by rfl) (by rfl)) ?_
  refine WL.next ?_
  refine WC.condS (by rfl) (fun h1 => ?_) (fun h1 => ?_)
  ·
    replace h1 := of_decide_eq_true h1
    have hsl : s.l.length = a.l.length := by rw [hJ4]; simp [hJ3]; omega
    obtain ⟨d, hd0⟩ := exists_get (l := a.l) (k := n) (by omega)
    have hd : s.l[n]? = some d := by rw [hJ4]; exact step_get hJ3 hd0
    have hkl : n < s.l.length := by omega
    have hm0 : (a.l.map PServer.lg)[n]? = some d.lg := by rw [List.getElem?_map, hd0]; rfl
    have hsp := costL_split (cost := costServer) hm0
    simp only [costServer, PServer.lg] at hsp
    refine WC.skipn ?_
    refine WC.seq' ?_
    refine WC.block ?_
    refine WC.seq ?_
    refine WL.p (by rfl) (Yl.move (by rfl)) ?_
    refine WL.p (by rfl) (Yl.move (by rfl)) ?_
    refine WL.p (by rfl) (Yl.move (by rfl)) ?_
    refine WL.callp hs (by rfl) (Yc.func (by rfl) fn33) (c_laws_markText _ _ (by omega)) ?_
    clear hs; intro w hs
    refine WL.p (by rfl) (Yl.indexAddr slt31 (by rfl) (by rfl) (hs.okow (x := s) (F := F1) (by repeat (first | exact List.mem_cons_self | apply List.mem_cons_of_mem))) (by rfl) (hd)) ?_
    refine WL.p (by rfl) (Yl.fieldAddr fa52_0 (by rfl)) ?_
    refine WL.s (Yr.storeP (s := s) (F := F1) (d := d) (u := (⟨(mkT (k + ((costL costServer ((a.l.map PServer.lg).take n) : Nat) : Int))), d.files⟩ : PServer)) (k := n) (j := 0) hs (by repeat (first | exact Sel.nil | (apply Sel.cons; (repeat (first | exact Ext.here | apply Ext.there))))) (by rfl) (by rfl) (by rfl) hd ⟨_, by rfl, by rfl⟩ (by repeat (first | (apply SetAt.here; repeat (first | exact Over.nil | apply Over.cons)) | apply SetAt.there)) (by exact PServer.part (by first | exact (show WfS ((mkT (k + ((costL costServer ((a.l.map PServer.lg).take n) : Nat) : Int)))) from mkT_len (by omega)) | assumption | (refine Ph.old ?_ hs; assumption)) rfl) (by rfl) (by exact szf9)) ?_
    clear hs; rintro _ w ⟨s1, _, rfl, hv1, hl1, hg1, hs⟩
    refine WL.next ?_
    refine WC.seq ?_
    refine WL.p (by rfl) (Yl.move (by rfl)) ?_
    refine WL.p (by rfl) (Yl.add (by rfl) (by rfl) (by omega)) ?_
    refine WL.p (by rfl) (Yl.assign (by rfl)) ?_
    refine WL.next ?_
    refine WC.region ?_
    refine WL.p (by rfl) (Yl.move (by rfl)) ?_
    refine WL.p (by rfl) (Yl.move (by rfl)) ?_
    refine WL.p (by rfl) (Yl.indexAddrV slt31 (by rfl) hv1 (by rfl) (hs.okow (x := s1) (F := F1) (by repeat (first | exact List.mem_cons_self | apply List.mem_cons_of_mem))) (by rfl) (hg1)) ?_
    refine WL.p (by rfl) (Yl.fieldAddr fa52_1 (by rfl)) ?_
    refine WL.p (by rfl) (Yl.loadC sca50 (by rfl) (Sl.Ok.at_ (hs.okow (x := s1) (F := F1) (by repeat (first | exact List.mem_cons_self | apply List.mem_cons_of_mem))) (by assumption)).2 (by rfl)) ?_
    refine WL.p (by rfl) (Yl.move (by rfl)) ?_
    obtain ⟨G2, B2, hs⟩ := Sat.lend (hs.sel (D := [ow s1 F1]) (by repeat (first | exact Sel.nil | (apply Sel.cons; (repeat (first | exact Ext.here | apply Ext.there)))))) hg1
    obtain ⟨K2, hfl2, hs⟩ := PServer.split hs
    refine WL.callm (a := d.files) (F := K2) hs (by repeat (first | exact Sel.nil | (apply Sel.cons; (repeat (first | exact Ext.here | apply Ext.there))))) (by rfl) (Yc.func (by rfl) fn34) (c_laws_markFileS d.files _ _ K2 (own_of hs (by repeat (first | exact List.mem_cons_self | apply List.mem_cons_of_mem))) (nodup_of hs (by repeat (first | exact List.mem_cons_self | apply List.mem_cons_of_mem))) (by first | assumption | omega | (simp only [PToken.lg, PNode.lg, PBuilder.lg, PSheet.lg, PPolicy.lg, PServer.lg, PCache.lg, PNet.lg, PPage.lg] at *; omega)) (by first | assumption | omega | (simp only [PToken.lg, PNode.lg, PBuilder.lg, PSheet.lg, PPolicy.lg, PServer.lg, PCache.lg, PNet.lg, PPage.lg] at *; omega))) ?_
    clear hs; intro a2 A2 w he2 hq2 hs
    replace hs := PServer.join (⟨(mkT (k + ((costL costServer ((a.l.map PServer.lg).take n) : Nat) : Int))), a2⟩ : PServer) (hs.sel (D := [ow a2 A2]) (by repeat (first | exact Sel.nil | (apply Sel.cons; (repeat (first | exact Ext.here | apply Ext.there)))))) (Flat.any hfl2.1)
    obtain ⟨s2, F2, hv2, hl2, hg2, hs⟩ := Sat.back (s := s1) (k := n) (d := (⟨(mkT (k + ((costL costServer ((a.l.map PServer.lg).take n) : Nat) : Int))), d.files⟩ : PServer)) (hs.sel (D := [ow (⟨(mkT (k + ((costL costServer ((a.l.map PServer.lg).take n) : Nat) : Int))), a2⟩ : PServer) A2, hl s1 n G2]) (by repeat (first | exact Sel.nil | (apply Sel.cons; (repeat (first | exact Ext.here | apply Ext.there)))))) hg1 (by show [S (⟨(mkT (k + ((costL costServer ((a.l.map PServer.lg).take n) : Nat) : Int))), a2⟩ : PServer).host, Sl.v a2] = [S (⟨(mkT (k + ((costL costServer ((a.l.map PServer.lg).take n) : Nat) : Int))), d.files⟩ : PServer).host, Sl.v d.files]; rw [show Sl.v a2 = Sl.v d.files from Sl.enc_v he2])
    try simp only [List.cons_append, List.nil_append] at hs
    refine WL.p (by rfl) (Yl.assign (by rfl)) ?_
    refine WL.nil ?_
    refine At.blocknormal ?_
    refine At.then_ ?_
    refine WC.region ?_
    refine WL.p (by rfl) (Yl.move (by rfl)) ?_
    refine WL.p (by rfl) (Yl.add (by rfl) (by rfl) (by omega)) ?_
    refine WL.p (by rfl) (Yl.assign (by rfl)) ?_
    refine WL.nil ?_
    refine At.roundC (n + 1, s2, F2, p ++ [(⟨(mkT (k + ((costL costServer ((a.l.map PServer.lg).take n) : Nat) : Int))), a2⟩ : PServer)]) (hs.only (by repeat (first | exact Sel.nil | (apply Sel.cons; (repeat (first | exact Ext.here | apply Ext.there)))))) ⟨by rfl, trivial⟩ ⟨by rfl, by exact congrArg (fun z => some (I z)) (by rw [costL_step hm0]; simp only [costServer, PServer.lg]; omega), by exact congrArg some (hv2.trans hv1).symm, trivial⟩ ?_ ?_
    ·
      show a.l.length - (n + 1) < a.l.length - n
      omega
    ·
      refine ⟨by omega, (hv2.trans hv1).trans hJ2, by simp [hJ3], ?_, ?_⟩
      · rw [hl2, hl1]; simp only [List.set_set]; rw [hJ4]; exact step_set hJ3 (by omega)
      · rw [mkL_step hm0, List.map_append, hJ5]; congr 1; simp only [List.map_cons, List.map_nil, List.cons.injEq, and_true]; simp only [mkServer, PServer.lg, hq2]
  ·
    replace h1 := of_decide_eq_false h1
    refine WC.exit ?_
    refine At.thenexit ?_
    refine At.thenexit ?_
    refine At.blockexit ?_
    refine At.then_ ?_
    refine WC.seq ?_
    refine WL.p (by rfl) (Yl.move (by rfl)) ?_
    refine WL.p (by rfl) (Yl.assign (by rfl)) ?_
    refine WL.next ?_
    refine WC.ret ?_
    refine fin1' rfl (by rfl) ?_
    have hsl : s.l.length = a.l.length := by rw [hJ4]; simp [hJ3]; omega
    have hn2 : n = a.l.length := by omega
    subst hn2
    refine RetM.cast (congrArg I (by rw [List.take_of_length_le (by simp)])) ?_
    exact RetM.of hs (by repeat (first | exact List.mem_cons_self | apply List.mem_cons_of_mem)) (Sl.v_enc hJ2) (by rw [hJ4, List.drop_length, List.append_nil, hJ5, List.take_of_length_le (by simp)])

theorem c_laws_heldFileS (a : (Sl TFile)) (k : Int) (v : List TFile) (w : World) (h_a : Ph.ok w a) (hk0 : 0 ≤ k) (hk : k + ((costL (fun _ => 7) (v) : Nat) : Int) ≤ 100000000) (hm : a.l = mkL mkFile (fun _ => 7) k v) : Calls Tryd.prog 35 [Sl.v a, I k].toArray w (RetP w (I (k + ((costL (fun _ => 7) (v) : Nat) : Int)))) := by
  have hw := h_a.lt
  have hc : a.l.length = v.length := by rw [hm, mkL_length]
  have hk2 := hk
  rw [costL_const] at hk2
  refine enterN 87 Tryd.func35 rfl rfl rfl ?_
  have hs := Sat.start w
  refine WC.seq ?_
  refine WL.p (by rfl) (Yl.assign (by rfl)) ?_
  refine WL.next ?_
  refine WC.seq' ?_
  refine WC.seq ?_
  refine WL.p (by rfl) (Yl.assign (by rfl)) ?_
  refine WL.next ?_
  refine WC.block ?_
  refine WC.loopC (ι := Nat) (fun n => a.l.length - n) (fun n => [(5, I (n : Int)), (1, I (k + ((7 * n : Nat) : Int)))]) (fun _ => []) (fun n => n ≤ a.l.length) [(0, _)] 0 (hs) ⟨by rfl, trivial⟩ ⟨by rfl, by exact congrArg (fun z => some (I z)) (by omega), trivial⟩ ?_ ?_
  ·
    exact Nat.zero_le _
  clear hs; rintro n w hJ1 hs
  simp only [List.nil_append] at hs
  refine WC.seq' ?_
  refine WC.seq ?_
  refine WL.p (by rfl) (Yl.move (by rfl)) ?_
  refine WL.p (by rfl) (Yl.move (by rfl)) ?_
  refine WL.p (by rfl) (Yl.len_sl slu50 (by rfl)) ?_
  refine WL.p (by rfl) (Yl.lss (by rfl) (by rfl)) ?_
  refine WL.next ?_
  refine WC.condS (by rfl) (fun h1 => ?_) (fun h1 => ?_)
  ·
    replace h1 := of_decide_eq_true h1
    obtain ⟨y, hy⟩ := exists_get (l := v) (k := n) (by omega)
    have hd : a.l[n]? = some (mkFile (k + ((7 * n : Nat) : Int)) y) := by rw [hm, mkL_get hy, costL_take_const (by omega)]
    refine WC.skipn ?_
    refine WC.seq' ?_
    refine WC.block ?_
    refine WC.seq' ?_
    refine WC.quietn mixed (by kernel_rfl) hs ?_
    refine WQ.p (by rfl) (fun w hs => Yl.move (by rfl)) ?_
    refine WQ.p (by rfl) (fun w hs => Yl.move (by rfl)) ?_
    refine WQ.p (by rfl) (fun w hs => Yl.indexAddr slt50 (by rfl) (by rfl) (Ph.old h_a hs) (by rfl) (hd)) ?_
    refine WQ.p (by rfl) (fun w hs => Yl.fieldAddr fa55_0 (by rfl)) ?_
    refine WQ.p (by rfl) (fun w hs => Yl.loadC sca9 (by rfl) (Sl.Ok.at_ (Ph.old h_a hs) (by assumption)).2 (by rfl)) ?_
    refine WQ.p (by rfl) (fun w hs => Yl.move (by rfl)) ?_
    refine WQ.callp (by rfl) (fun w => Yc.func (by rfl) fn33) (fun w hs => (c_laws_markText _ _ (by omega))) (fun _ _ hs hb => hs.ext hb) ?_
    refine WQ.p (by rfl) (fun w hs => Yl.nes (by rfl) (by rfl)) ?_
    refine WQ.next ?_
    clear hs; intro w hs
    refine WC.condS (by rfl) (fun h2 => ?_) (fun h2 => ?_)
    ·
      replace h2 := not_eq_true h2
      replace h2 := of_decide_eq_false h2
      refine WC.seq ?_
      refine WL.p (by rfl) (Yl.assign (by rfl)) ?_
      refine WL.next ?_
      refine WC.ret ?_
      refine At.thenret ?_
      refine At.blockret ?_
      refine At.thenret ?_
      refine At.thenret ?_
      refine At.blockret ?_
      refine At.thenret ?_
      refine fin1' rfl (by rfl) ?_
      refine RetP.mk hs ?_
      first
        | exact absurd rfl h2
        | (exfalso; omega)
        | (rw [costL_const]; exact congrArg I (by omega))
    ·
      replace h2 := not_eq_false h2
      replace h2 := of_decide_eq_true h2
      refine WC.skipn ?_
      refine WC.seq ?_
      refine WL.p (by rfl) (Yl.move (by rfl)) ?_
      refine WL.p (by rfl) (Yl.add (by rfl) (by rfl) (by omega)) ?_
      refine WL.p (by rfl) (Yl.assign (by rfl)) ?_
      refine WL.next ?_
      refine WC.seq' ?_
      refine WC.seq ?_
      refine WL.p (by rfl) (Yl.move (by rfl)) ?_
      refine WL.p (by rfl) (Yl.move (by rfl)) ?_
      refine WL.p (by rfl) (Yl.indexAddr slt50 (by rfl) (by rfl) (Ph.old h_a hs) (by rfl) (hd)) ?_
      refine WL.p (by rfl) (Yl.fieldAddr fa55_1 (by rfl)) ?_
      refine WL.p (by rfl) (Yl.fieldAddr2 fa37_0 (by rfl)) ?_
      refine WL.p (by rfl) (Yl.loadC sca3 (by rfl) (Sl.Ok.at_ (Ph.old h_a hs) (by assumption)).2 (by rfl)) ?_
      refine WL.p (by rfl) (Yl.move (by rfl)) ?_
      refine WL.p (by rfl) (Yl.nei (by rfl) (by rfl)) ?_
      refine WL.next ?_
      refine WC.condS (by rfl) (fun h3 => ?_) (fun h3 => ?_)
      ·
        replace h3 := not_eq_true h3
        replace h3 := of_decide_eq_false h3
        refine WC.seq ?_
        refine WL.p (by rfl) (Yl.assign (by rfl)) ?_
        refine WL.next ?_
        refine WC.ret ?_
        refine At.thenret ?_
        refine At.blockret ?_
        refine At.thenret ?_
        refine At.thenret ?_
        refine At.blockret ?_
        refine At.thenret ?_
        refine fin1' rfl (by rfl) ?_
        refine RetP.mk hs ?_
        first
          | exact absurd rfl h3
          | (exfalso; omega)
          | (rw [costL_const]; exact congrArg I (by omega))
      ·
        replace h3 := not_eq_false h3
        replace h3 := of_decide_eq_true h3
        refine WC.skipn ?_
        refine WC.seq ?_
        refine WL.p (by rfl) (Yl.move (by rfl)) ?_
        refine WL.p (by rfl) (Yl.add (by rfl) (by rfl) (by omega)) ?_
        refine WL.p (by rfl) (Yl.assign (by rfl)) ?_
        refine WL.next ?_
        refine WC.seq' ?_
        refine WC.seq ?_
        refine WL.p (by rfl) (Yl.move (by rfl)) ?_
        refine WL.p (by rfl) (Yl.move (by rfl)) ?_
        refine WL.p (by rfl) (Yl.indexAddr slt50 (by rfl) (by rfl) (Ph.old h_a hs) (by rfl) (hd)) ?_
        refine WL.p (by rfl) (Yl.fieldAddr fa55_1 (by rfl)) ?_
        refine WL.p (by rfl) (Yl.fieldAddr2 fa37_1 (by rfl)) ?_
        refine WL.p (by rfl) (Yl.loadC sca3 (by rfl) (Sl.Ok.at_ (Ph.old h_a hs) (by assumption)).2 (by rfl)) ?_
        refine WL.p (by rfl) (Yl.move (by rfl)) ?_
        refine WL.p (by rfl) (Yl.nei (by rfl) (by rfl)) ?_
        refine WL.next ?_
        refine WC.condS (by rfl) (fun h4 => ?_) (fun h4 => ?_)
        ·
          replace h4 := not_eq_true h4
          replace h4 := of_decide_eq_false h4
          refine WC.seq ?_
          refine WL.p (by rfl) (Yl.assign (by rfl)) ?_
          refine WL.next ?_
          refine WC.ret ?_
          refine At.thenret ?_
          refine At.blockret ?_
          refine At.thenret ?_
          refine At.thenret ?_
          refine At.blockret ?_
          refine At.thenret ?_
          refine fin1' rfl (by rfl) ?_
          refine RetP.mk hs ?_
          first
            | exact absurd rfl h4
            | (exfalso; omega)
            | (rw [costL_const]; exact congrArg I (by omega))
        ·
          replace h4 := not_eq_false h4
          replace h4 := of_decide_eq_true h4
          refine WC.skipn ?_
          refine WC.seq ?_
          refine WL.p (by rfl) (Yl.move (by rfl)) ?_
          refine WL.p (by rfl) (Yl.add (by rfl) (by rfl) (by omega)) ?_
          refine WL.p (by rfl) (Yl.assign (by rfl)) ?_
          refine WL.next ?_
          refine WC.seq' ?_
          refine WC.quietn mixed (by kernel_rfl) hs ?_
          refine WQ.p (by rfl) (fun w hs => Yl.move (by rfl)) ?_
          refine WQ.p (by rfl) (fun w hs => Yl.move (by rfl)) ?_
          refine WQ.p (by rfl) (fun w hs => Yl.indexAddr slt50 (by rfl) (by rfl) (Ph.old h_a hs) (by rfl) (hd)) ?_
          refine WQ.p (by rfl) (fun w hs => Yl.fieldAddr fa55_1 (by rfl)) ?_
          refine WQ.p (by rfl) (fun w hs => Yl.fieldAddr2 fa37_2 (by rfl)) ?_
          refine WQ.p (by rfl) (fun w hs => Yl.loadC sca9 (by rfl) (Sl.Ok.at_ (Ph.old h_a hs) (by assumption)).2 (by rfl)) ?_
          refine WQ.p (by rfl) (fun w hs => Yl.move (by rfl)) ?_
          refine WQ.callp (by rfl) (fun w => Yc.func (by rfl) fn33) (fun w hs => (c_laws_markText _ _ (by omega))) (fun _ _ hs hb => hs.ext hb) ?_
          refine WQ.p (by rfl) (fun w hs => Yl.nes (by rfl) (by rfl)) ?_
          refine WQ.next ?_
          clear hs; intro w hs
          refine WC.condS (by rfl) (fun h5 => ?_) (fun h5 => ?_)
          ·
            replace h5 := not_eq_true h5
            replace h5 := of_decide_eq_false h5
            refine WC.seq ?_
            refine WL.p (by rfl) (Yl.assign (by rfl)) ?_
            refine WL.next ?_
            refine WC.ret ?_
            refine At.thenret ?_
            refine At.blockret ?_
            refine At.thenret ?_
            refine At.thenret ?_
            refine At.blockret ?_
            refine At.thenret ?_
            refine fin1' rfl (by rfl) ?_
            refine RetP.mk hs ?_
            first
              | exact absurd rfl h5
              | (exfalso; omega)
              | (rw [costL_const]; exact congrArg I (by omega))
          ·
            replace h5 := not_eq_false h5
            replace h5 := of_decide_eq_true h5
            refine WC.skipn ?_
            refine WC.seq ?_
            refine WL.p (by rfl) (Yl.move (by rfl)) ?_
            refine WL.p (by rfl) (Yl.add (by rfl) (by rfl) (by omega)) ?_
            refine WL.p (by rfl) (Yl.assign (by rfl)) ?_
            refine WL.next ?_
            refine WC.seq' ?_
            refine WC.seq ?_
            refine WL.p (by rfl) (Yl.move (by rfl)) ?_
            refine WL.p (by rfl) (Yl.move (by rfl)) ?_
            refine WL.p (by rfl) (Yl.indexAddr slt50 (by rfl) (by rfl) (Ph.old h_a hs) (by rfl) (hd)) ?_
            refine WL.p (by rfl) (Yl.fieldAddr fa55_1 (by rfl)) ?_
            refine WL.p (by rfl) (Yl.fieldAddr2 fa37_3 (by rfl)) ?_
            refine WL.p (by rfl) (Yl.loadC sca3 (by rfl) (Sl.Ok.at_ (Ph.old h_a hs) (by assumption)).2 (by rfl)) ?_
            refine WL.p (by rfl) (Yl.move (by rfl)) ?_
            refine WL.p (by rfl) (Yl.nei (by rfl) (by rfl)) ?_
            refine WL.next ?_
            refine WC.condS (by rfl) (fun h6 => ?_) (fun h6 => ?_)
            ·
              replace h6 := not_eq_true h6
              replace h6 := of_decide_eq_false h6
              refine WC.seq ?_
              refine WL.p (by rfl) (Yl.assign (by rfl)) ?_
              refine WL.next ?_
              refine WC.ret ?_
              refine At.thenret ?_
              refine At.blockret ?_
              refine At.thenret ?_
              refine At.thenret ?_
              refine At.blockret ?_
              refine At.thenret ?_
              refine fin1' rfl (by rfl) ?_
              refine RetP.mk hs ?_
              first
                | exact absurd rfl h6
                | (exfalso; omega)
                | (rw [costL_const]; exact congrArg I (by omega))
            ·
              replace h6 := not_eq_false h6
              replace h6 := of_decide_eq_true h6
              refine WC.skipn ?_
              refine WC.seq ?_
              refine WL.p (by rfl) (Yl.move (by rfl)) ?_
              refine WL.p (by rfl) (Yl.add (by rfl) (by rfl) (by omega)) ?_
              refine WL.p (by rfl) (Yl.assign (by rfl)) ?_
              refine WL.next ?_
              refine WC.seq' ?_
              refine WC.seq ?_
              refine WL.p (by rfl) (Yl.move (by rfl)) ?_
              refine WL.p (by rfl) (Yl.move (by rfl)) ?_
              refine WL.p (by rfl) (Yl.indexAddr slt50 (by rfl) (by rfl) (Ph.old h_a hs) (by rfl) (hd)) ?_
              refine WL.p (by rfl) (Yl.fieldAddr fa55_1 (by rfl)) ?_
              refine WL.p (by rfl) (Yl.fieldAddr2 fa37_4 (by rfl)) ?_
              refine WL.p (by rfl) (Yl.loadC sca4 (by rfl) (Sl.Ok.at_ (Ph.old h_a hs) (by assumption)).2 (by rfl)) ?_
              refine WL.p (by rfl) (Yl.move (by rfl)) ?_
              refine WL.p (by rfl) (Yl.remw (by rfl) (by rfl) (by decide)) ?_
              refine WL.p (by rfl) (Yl.eqi (by rfl) (by rfl)) ?_
              refine WL.p (by rfl) (Yl.neb bool4 (by rfl) (by rfl)) ?_
              refine WL.next ?_
              refine WC.condS (by rfl) (fun h7 => ?_) (fun h7 => ?_)
              ·
                replace h7 := not_eq_true h7
                replace h7 := beq_false h7
                refine WC.seq ?_
                refine WL.p (by rfl) (Yl.assign (by rfl)) ?_
                refine WL.next ?_
                refine WC.ret ?_
                refine At.thenret ?_
                refine At.blockret ?_
                refine At.thenret ?_
                refine At.thenret ?_
                refine At.blockret ?_
                refine At.thenret ?_
                refine fin1' rfl (by rfl) ?_
                refine RetP.mk hs ?_
                first
                  | exact absurd rfl h7
                  | (exfalso; omega)
                  | (rw [costL_const]; exact congrArg I (by omega))
              ·
                replace h7 := not_eq_false h7
                replace h7 := beq_true h7
                refine WC.skipn ?_
                refine WC.seq ?_
                refine WL.p (by rfl) (Yl.move (by rfl)) ?_
                refine WL.p (by rfl) (Yl.add (by rfl) (by rfl) (by omega)) ?_
                refine WL.p (by rfl) (Yl.assign (by rfl)) ?_
                refine WL.next ?_
                refine WC.seq' ?_
                refine WC.quietn mixed (by kernel_rfl) hs ?_
                refine WQ.p (by rfl) (fun w hs => Yl.move (by rfl)) ?_
                refine WQ.p (by rfl) (fun w hs => Yl.move (by rfl)) ?_
                refine WQ.p (by rfl) (fun w hs => Yl.indexAddr slt50 (by rfl) (by rfl) (Ph.old h_a hs) (by rfl) (hd)) ?_
                refine WQ.p (by rfl) (fun w hs => Yl.fieldAddr fa55_1 (by rfl)) ?_
                refine WQ.p (by rfl) (fun w hs => Yl.fieldAddr2 fa37_5 (by rfl)) ?_
                refine WQ.p (by rfl) (fun w hs => Yl.loadC sca9 (by rfl) (Sl.Ok.at_ (Ph.old h_a hs) (by assumption)).2 (by rfl)) ?_
                refine WQ.p (by rfl) (fun w hs => Yl.move (by rfl)) ?_
                refine WQ.callp (by rfl) (fun w => Yc.func (by rfl) fn33) (fun w hs => (c_laws_markText _ _ (by omega))) (fun _ _ hs hb => hs.ext hb) ?_
                refine WQ.p (by rfl) (fun w hs => Yl.nes (by rfl) (by rfl)) ?_
                refine WQ.next ?_
                clear hs; intro w hs
                refine WC.condS (by rfl) (fun h8 => ?_) (fun h8 => ?_)
                ·
                  replace h8 := not_eq_true h8
                  replace h8 := of_decide_eq_false h8
                  refine WC.seq ?_
                  refine WL.p (by rfl) (Yl.assign (by rfl)) ?_
                  refine WL.next ?_
                  refine WC.ret ?_
                  refine At.thenret ?_
                  refine At.blockret ?_
                  refine At.thenret ?_
                  refine At.thenret ?_
                  refine At.blockret ?_
                  refine At.thenret ?_
                  refine fin1' rfl (by rfl) ?_
                  refine RetP.mk hs ?_
                  first
                    | exact absurd rfl h8
                    | (exfalso; omega)
                    | (rw [costL_const]; exact congrArg I (by omega))
                ·
                  replace h8 := not_eq_false h8
                  replace h8 := of_decide_eq_true h8
                  refine WC.skipn ?_
                  refine WC.region ?_
                  refine WL.p (by rfl) (Yl.move (by rfl)) ?_
                  refine WL.p (by rfl) (Yl.add (by rfl) (by rfl) (by omega)) ?_
                  refine WL.p (by rfl) (Yl.assign (by rfl)) ?_
                  refine WL.nil ?_
                  refine At.blocknormal ?_
                  refine At.then_ ?_
                  refine WC.region ?_
                  refine WL.p (by rfl) (Yl.move (by rfl)) ?_
                  refine WL.p (by rfl) (Yl.add (by rfl) (by rfl) (by omega)) ?_
                  refine WL.p (by rfl) (Yl.assign (by rfl)) ?_
                  refine WL.nil ?_
                  refine At.roundC (n + 1) (hs.only (by repeat (first | exact Sel.nil | (apply Sel.cons; (repeat (first | exact Ext.here | apply Ext.there)))))) ⟨by rfl, trivial⟩ ⟨by rfl, by exact congrArg (fun z => some (I z)) (by omega), trivial⟩ ?_ ?_
                  ·
                    omega
                  ·
                    omega
  ·
    replace h1 := of_decide_eq_false h1
    refine WC.exit ?_
    refine At.thenexit ?_
    refine At.thenexit ?_
    refine At.blockexit ?_
    refine At.then_ ?_
    refine WC.seq ?_
    refine WL.p (by rfl) (Yl.move (by rfl)) ?_
    refine WL.p (by rfl) (Yl.assign (by rfl)) ?_
    refine WL.next ?_
    refine WC.ret ?_
    refine fin1' rfl (by rfl) ?_
    refine RetP.mk hs ?_
    first
      | exact absurd rfl h1
      | (exfalso; omega)
      | (rw [costL_const]; exact congrArg I (by omega))

theorem c_laws_heldServerS (a : (Sl PServer)) (k : Int) (v : List TServer) (w : World) (h_a : Ph.ok w a) (hk0 : 0 ≤ k) (hk : k + ((costL costServer (v) : Nat) : Int) ≤ 100000000) (hm : a.l.map PServer.lg = mkL mkServer costServer k v) : Calls Tryd.prog 17 [Sl.v a, I k].toArray w (RetP w (I (k + ((costL costServer (v) : Nat) : Int)))) := by
  have hw := h_a.lt
  have hc : a.l.length = v.length := by have := congrArg List.length hm; simpa [mkL_length] using this
  refine enterN 32 Tryd.func17 rfl rfl rfl ?_
  have hs := Sat.start w
  refine WC.seq ?_
  refine WL.p (by rfl) (Yl.assign (by rfl)) ?_
  refine WL.next ?_
  refine WC.seq' ?_
  refine WC.seq ?_
  refine WL.p (by rfl) (Yl.assign (by rfl)) ?_
  refine WL.next ?_
  refine WC.block ?_
  refine WC.loopC (ι := Nat) (fun n => a.l.length - n) (fun n => [(5, I (n : Int)), (1, I (k + ((costL costServer (v.take n) : Nat) : Int)))]) (fun _ => []) (fun n => n ≤ a.l.length) [(0, _)] 0 (hs) ⟨by rfl, trivial⟩ ⟨by rfl, by exact congrArg (fun z => some (I z)) (by simp [costL]), trivial⟩ ?_ ?_
  ·
    exact Nat.zero_le _
  clear hs; rintro n w hJ1 hs
  simp only [List.nil_append] at hs
  refine WC.seq' ?_
  refine WC.seq ?_
  refine WL.p (by rfl) (Yl.move (by rfl)) ?_
  refine WL.p (by rfl) (Yl.move (by rfl)) ?_
  refine WL.p (by rfl) (Yl.len_sl slu31 (by rfl)) ?_
  refine WL.p (by rfl) (Yl.lss (by rfl) (by rfl)) ?_
  refine WL.next ?_
  refine WC.condS (by rfl) (fun h1 => ?_) (fun h1 => ?_)
  ·
    replace h1 := of_decide_eq_true h1
    obtain ⟨d, hd⟩ := exists_get (l := a.l) (k := n) (by omega)
    obtain ⟨y, hy⟩ := exists_get (l := v) (k := n) (by omega)
    have hm0 : (a.l.map PServer.lg)[n]? = some d.lg := by rw [List.getElem?_map, hd]; rfl
    have hdy : d.lg = mkServer (k + ((costL costServer (v.take n) : Nat) : Int)) y := by rw [hm, mkL_get hy] at hm0; exact (Option.some.inj hm0).symm
    have hsp := costL_split (cost := costServer) hy
    simp only [costServer] at hsp
    refine WC.skipn ?_
    refine WC.seq' ?_
    refine WC.block ?_
    refine WC.seq' ?_
    refine WC.quietn mixed (by kernel_rfl) hs ?_
    refine WQ.p (by rfl) (fun w hs => Yl.move (by rfl)) ?_
    refine WQ.p (by rfl) (fun w hs => Yl.move (by rfl)) ?_
    refine WQ.p (by rfl) (fun w hs => Yl.indexAddr slt31 (by rfl) (by rfl) (Ph.old h_a hs) (by rfl) (hd)) ?_
    refine WQ.p (by rfl) (fun w hs => Yl.fieldAddr fa52_0 (by rfl)) ?_
    refine WQ.p (by rfl) (fun w hs => Yl.loadC sca9 (by rfl) (Sl.Ok.at_ (Ph.old h_a hs) (by assumption)).2 (by rfl)) ?_
    refine WQ.p (by rfl) (fun w hs => Yl.move (by rfl)) ?_
    refine WQ.callp (by rfl) (fun w => Yc.func (by rfl) fn33) (fun w hs => (c_laws_markText _ _ (by omega))) (fun _ _ hs hb => hs.ext hb) ?_
    refine WQ.p (by rfl) (fun w hs => Yl.nes (by rfl) (by rfl)) ?_
    refine WQ.next ?_
    clear hs; intro w hs
    refine WC.condS (by rfl) (fun h2 => ?_) (fun h2 => ?_)
    ·
      replace h2 := not_eq_true h2
      replace h2 := of_decide_eq_false h2
      refine WC.seq ?_
      refine WL.p (by rfl) (Yl.assign (by rfl)) ?_
      refine WL.next ?_
      refine WC.ret ?_
      refine At.thenret ?_
      refine At.blockret ?_
      refine At.thenret ?_
      refine At.thenret ?_
      refine At.blockret ?_
      refine At.thenret ?_
      refine fin1' rfl (by rfl) ?_
      refine RetP.mk hs ?_
      first
        | exact absurd rfl h2
        | exact absurd (congrArg TServer.host hdy) h2
        | (exfalso; omega)
        | exact congrArg I (by rw [List.take_of_length_le (by omega)])
    ·
      replace h2 := not_eq_false h2
      replace h2 := of_decide_eq_true h2
      refine WC.skipn ?_
      refine WC.seq ?_
      refine WL.p (by rfl) (Yl.move (by rfl)) ?_
      refine WL.p (by rfl) (Yl.add (by rfl) (by rfl) (by omega)) ?_
      refine WL.p (by rfl) (Yl.assign (by rfl)) ?_
      refine WL.next ?_
      refine WC.seq ?_
      refine WL.p (by rfl) (Yl.move (by rfl)) ?_
      refine WL.p (by rfl) (Yl.move (by rfl)) ?_
      refine WL.p (by rfl) (Yl.indexAddr slt31 (by rfl) (by rfl) (Ph.old h_a hs) (by rfl) (hd)) ?_
      refine WL.p (by rfl) (Yl.fieldAddr fa52_1 (by rfl)) ?_
      refine WL.p (by rfl) (Yl.loadC sca50 (by rfl) (Sl.Ok.at_ (Ph.old h_a hs) (by assumption)).2 (by rfl)) ?_
      refine WL.p (by rfl) (Yl.move (by rfl)) ?_
      refine WL.callp hs (by rfl) (Yc.func (by rfl) fn35) (c_laws_heldFileS _ _ y.files _ (Ph.old (Sl.Ok.elem h_a hd).files hs) (by first | assumption | omega | (simp only [lsz] at *; omega) | (simp only [lsz, strsz, TPolicy.size, TCache.size, TAddr.size, TRequest.size, TEntry.size, TResponse.size, TLine.size] at *; omega) | (simp only [lsz_map, TPage.size, TBuilder.size, TNode.size, TToken.size, TTokenizer.size, TServer.size, TFile.size, TNet.size, TCache.size, TSheet.size, strsz] at *; omega) | (simp only [lsz_map, TPage.size, TBuilder.size, TNode.size, TToken.size, TTokenizer.size, TServer.size, TFile.size, TNet.size, TCache.size, TSheet.size, strsz, lsz] at *; omega)) (by first | assumption | omega | (simp only [lsz] at *; omega) | (simp only [lsz, strsz, TPolicy.size, TCache.size, TAddr.size, TRequest.size, TEntry.size, TResponse.size, TLine.size] at *; omega) | (simp only [lsz_map, TPage.size, TBuilder.size, TNode.size, TToken.size, TTokenizer.size, TServer.size, TFile.size, TNet.size, TCache.size, TSheet.size, strsz] at *; omega) | (simp only [lsz_map, TPage.size, TBuilder.size, TNode.size, TToken.size, TTokenizer.size, TServer.size, TFile.size, TNet.size, TCache.size, TSheet.size, strsz, lsz] at *; omega)) (by exact congrArg TServer.files hdy)) ?_
      clear hs; intro w hs
      refine WL.p (by rfl) (Yl.assign (by rfl)) ?_
      refine WL.next ?_
      refine WC.seq ?_
      refine WL.p (by rfl) (Yl.move (by rfl)) ?_
      refine WL.p (by rfl) (Yl.lss (by rfl) (by rfl)) ?_
      refine WL.next ?_
      refine WC.condS (by rfl) (fun h3 => ?_) (fun h3 => ?_)
      ·
        replace h3 := of_decide_eq_true h3
        refine WC.seq ?_
        refine WL.p (by rfl) (Yl.assign (by rfl)) ?_
        refine WL.next ?_
        refine WC.ret ?_
        refine At.blockret ?_
        refine At.thenret ?_
        refine At.thenret ?_
        refine At.blockret ?_
        refine At.thenret ?_
        refine fin1' rfl (by rfl) ?_
        refine RetP.mk hs ?_
        first
          | exact absurd rfl h3
          | exact absurd (congrArg TServer.host hdy) h3
          | (exfalso; omega)
          | exact congrArg I (by rw [List.take_of_length_le (by omega)])
      ·
        replace h3 := of_decide_eq_false h3
        refine WC.skip ?_
        refine At.blocknormal ?_
        refine At.then_ ?_
        refine WC.region ?_
        refine WL.p (by rfl) (Yl.move (by rfl)) ?_
        refine WL.p (by rfl) (Yl.add (by rfl) (by rfl) (by omega)) ?_
        refine WL.p (by rfl) (Yl.assign (by rfl)) ?_
        refine WL.nil ?_
        refine At.roundC (n + 1) (hs.only (by repeat (first | exact Sel.nil | (apply Sel.cons; (repeat (first | exact Ext.here | apply Ext.there)))))) ⟨by rfl, trivial⟩ ⟨by rfl, by exact congrArg (fun z => some (I z)) (by rw [costL_step hy]; simp only [costServer]; omega), trivial⟩ ?_ ?_
        ·
          omega
        ·
          omega
  ·
    replace h1 := of_decide_eq_false h1
    refine WC.exit ?_
    refine At.thenexit ?_
    refine At.thenexit ?_
    refine At.blockexit ?_
    refine At.then_ ?_
    refine WC.seq ?_
    refine WL.p (by rfl) (Yl.move (by rfl)) ?_
    refine WL.p (by rfl) (Yl.assign (by rfl)) ?_
    refine WL.next ?_
    refine WC.ret ?_
    refine fin1' rfl (by rfl) ?_
    refine RetP.mk hs ?_
    first
      | exact absurd rfl h1
      | exact absurd (congrArg TServer.host hdy) h1
      | (exfalso; omega)
      | exact congrArg I (by rw [List.take_of_length_le (by omega)])

theorem c_laws_FnExactPutFile (aL : (Sl PServer)) (aA : TAddr) (aX : TResponse) (w : World) (h_aL : Ph.ok w aL) (h_aA : Ph.ok w aA) (h_aX : Ph.ok w aX) (hm_ : ∃ m, w.cell? ⟨3, 0, none⟩ = some (.int .i64 m)) : Calls Tryd.prog 4 [Sl.v aL, .agg #[S aA.host, S aA.path], .agg #[I aX.status, I aX.kind, S aX.body, I aX.age, Bo aX.shares, S aX.policy]].toArray w (RetP w (Bo true)) := by
  refine enterN 122 Tryd.func4 rfl rfl rfl ?_
  have hs := Sat.start w
  refine WC.seq ?_
  refine WL.r (by rfl) (Yr.box hs (by rfl) (by rfl)) ?_
  clear hs; rintro _ w ⟨b1, rfl, hb, hs⟩; clear hb
  refine WL.r (by rfl) (Yr.box hs (by rfl) (by rfl)) ?_
  clear hs; rintro _ w ⟨b2, rfl, hb, hs⟩; clear hb
  refine WL.p (by rfl) (Yl.assign (by rfl)) ?_
  refine WL.next ?_
  refine WC.seq ?_
  refine WL.p (by rfl) (Yl.assign (by rfl)) ?_
  refine WL.next ?_
  refine WC.seq ?_
  refine WL.p (by rfl) (Yl.move (by rfl)) ?_
  refine WL.p (by rfl) (Yl.move (by rfl)) ?_
  refine WL.callp hs (by rfl) (Yc.func (by rfl) fn7) (c_laws_szServerS _ _ _ (Ph.old h_aL hs) (by first | assumption | omega | (simp only [lsz] at *; omega) | (simp only [lsz, strsz, TPolicy.size, TCache.size, TAddr.size, TRequest.size, TEntry.size, TResponse.size, TLine.size] at *; omega) | (simp only [lsz_map, TPage.size, TBuilder.size, TNode.size, TToken.size, TTokenizer.size, TServer.size, TFile.size, TNet.size, TCache.size, TSheet.size, strsz] at *; omega) | (simp only [lsz_map, TPage.size, TBuilder.size, TNode.size, TToken.size, TTokenizer.size, TServer.size, TFile.size, TNet.size, TCache.size, TSheet.size, strsz, lsz] at *; omega)) (by first | assumption | omega | (simp only [lsz] at *; omega) | (simp only [lsz, strsz, TPolicy.size, TCache.size, TAddr.size, TRequest.size, TEntry.size, TResponse.size, TLine.size] at *; omega) | (simp only [lsz_map, TPage.size, TBuilder.size, TNode.size, TToken.size, TTokenizer.size, TServer.size, TFile.size, TNet.size, TCache.size, TSheet.size, strsz] at *; omega) | (simp only [lsz_map, TPage.size, TBuilder.size, TNode.size, TToken.size, TTokenizer.size, TServer.size, TFile.size, TNet.size, TCache.size, TSheet.size, strsz, lsz] at *; omega))) ?_
  clear hs; intro w hs
  refine WL.p (by rfl) (Yl.assign (by rfl)) ?_
  refine WL.next ?_
  refine WC.seq' ?_
  refine WC.seq ?_
  refine WL.p (by rfl) (Yl.move (by rfl)) ?_
  refine WL.p (by rfl) (Yl.lss (by rfl) (by rfl)) ?_
  refine WL.next ?_
  refine WC.condS (by rfl) (fun h1 => ?_) (fun h1 => ?_)
  ·
    replace h1 := lessN_neg (of_decide_eq_true h1)
    refine WC.seq ?_
    refine WL.p (by rfl) (Yl.assign (by rfl)) ?_
    refine WL.next ?_
    refine WC.ret ?_
    refine At.thenret ?_
    refine fin1' rfl (by rfl) ?_
    refine RetP.mk hs ?_
    simp_all
  ·
    replace h1 := lessN_nn (by omega) (of_decide_eq_false h1)
    refine WC.skipn ?_
    refine WC.seq ?_
    refine WL.p (by rfl) (Yl.loadAB agg25 (by rfl) hs (by repeat (first | exact List.mem_cons_self | apply List.mem_cons_of_mem)) (by rfl) (by rfl)) ?_
    refine WL.p (by rfl) (Yl.move (by rfl)) ?_
    refine WL.callp hs (by rfl) (Yc.func (by rfl) fn8) (c_laws_szAddr _ _ _ (Ph.old h_aA hs) (by first | assumption | omega | (simp only [lsz] at *; omega) | (simp only [lsz, strsz, TPolicy.size, TCache.size, TAddr.size, TRequest.size, TEntry.size, TResponse.size, TLine.size] at *; omega) | (simp only [lsz_map, TPage.size, TBuilder.size, TNode.size, TToken.size, TTokenizer.size, TServer.size, TFile.size, TNet.size, TCache.size, TSheet.size, strsz] at *; omega) | (simp only [lsz_map, TPage.size, TBuilder.size, TNode.size, TToken.size, TTokenizer.size, TServer.size, TFile.size, TNet.size, TCache.size, TSheet.size, strsz, lsz] at *; omega)) (by first | assumption | omega | (simp only [lsz] at *; omega) | (simp only [lsz, strsz, TPolicy.size, TCache.size, TAddr.size, TRequest.size, TEntry.size, TResponse.size, TLine.size] at *; omega) | (simp only [lsz_map, TPage.size, TBuilder.size, TNode.size, TToken.size, TTokenizer.size, TServer.size, TFile.size, TNet.size, TCache.size, TSheet.size, strsz] at *; omega) | (simp only [lsz_map, TPage.size, TBuilder.size, TNode.size, TToken.size, TTokenizer.size, TServer.size, TFile.size, TNet.size, TCache.size, TSheet.size, strsz, lsz] at *; omega))) ?_
    clear hs; intro w hs
    refine WL.p (by rfl) (Yl.assign (by rfl)) ?_
    refine WL.next ?_
    refine WC.seq' ?_
    refine WC.seq ?_
    refine WL.p (by rfl) (Yl.move (by rfl)) ?_
    refine WL.p (by rfl) (Yl.lss (by rfl) (by rfl)) ?_
    refine WL.next ?_
    refine WC.condS (by rfl) (fun h2 => ?_) (fun h2 => ?_)
    ·
      replace h2 := lessN_neg (of_decide_eq_true h2)
      refine WC.seq ?_
      refine WL.p (by rfl) (Yl.assign (by rfl)) ?_
      refine WL.next ?_
      refine WC.ret ?_
      refine At.thenret ?_
      refine fin1' rfl (by rfl) ?_
      refine RetP.mk hs ?_
      simp_all
    ·
      replace h2 := lessN_nn (by omega) (of_decide_eq_false h2)
      refine WC.skipn ?_
      refine WC.seq ?_
      refine WL.p (by rfl) (Yl.loadAB agg27 (by rfl) hs (by repeat (first | exact List.mem_cons_self | apply List.mem_cons_of_mem)) (by rfl) (by rfl)) ?_
      refine WL.p (by rfl) (Yl.move (by rfl)) ?_
      refine WL.callp hs (by rfl) (Yc.func (by rfl) fn9) (c_laws_szResponse _ _ _ (Ph.old h_aX hs) (by first | assumption | omega | (simp only [lsz] at *; omega) | (simp only [lsz, strsz, TPolicy.size, TCache.size, TAddr.size, TRequest.size, TEntry.size, TResponse.size, TLine.size] at *; omega) | (simp only [lsz_map, TPage.size, TBuilder.size, TNode.size, TToken.size, TTokenizer.size, TServer.size, TFile.size, TNet.size, TCache.size, TSheet.size, strsz] at *; omega) | (simp only [lsz_map, TPage.size, TBuilder.size, TNode.size, TToken.size, TTokenizer.size, TServer.size, TFile.size, TNet.size, TCache.size, TSheet.size, strsz, lsz] at *; omega)) (by first | assumption | omega | (simp only [lsz] at *; omega) | (simp only [lsz, strsz, TPolicy.size, TCache.size, TAddr.size, TRequest.size, TEntry.size, TResponse.size, TLine.size] at *; omega) | (simp only [lsz_map, TPage.size, TBuilder.size, TNode.size, TToken.size, TTokenizer.size, TServer.size, TFile.size, TNet.size, TCache.size, TSheet.size, strsz] at *; omega) | (simp only [lsz_map, TPage.size, TBuilder.size, TNode.size, TToken.size, TTokenizer.size, TServer.size, TFile.size, TNet.size, TCache.size, TSheet.size, strsz, lsz] at *; omega))) ?_
      clear hs; intro w hs
      refine WL.p (by rfl) (Yl.assign (by rfl)) ?_
      refine WL.next ?_
      refine WC.seq' ?_
      refine WC.seq ?_
      refine WL.p (by rfl) (Yl.move (by rfl)) ?_
      refine WL.p (by rfl) (Yl.lss (by rfl) (by rfl)) ?_
      refine WL.next ?_
      refine WC.condS (by rfl) (fun h3 => ?_) (fun h3 => ?_)
      ·
        replace h3 := lessN_neg (of_decide_eq_true h3)
        refine WC.seq ?_
        refine WL.p (by rfl) (Yl.assign (by rfl)) ?_
        refine WL.next ?_
        refine WC.ret ?_
        refine At.thenret ?_
        refine fin1' rfl (by rfl) ?_
        refine RetP.mk hs ?_
        simp_all
      ·
        replace h3 := lessN_nn (by omega) (of_decide_eq_false h3)
        refine WC.skipn ?_
        refine WC.anyn mixed hs ?_
        clear hs; intro w hs
        refine WA.p (i := 0) (by rfl) (by kernel_rfl) (by kernel_rfl) (by kernel_rfl) (by rfl) (hs.only (by repeat (first | exact Sel.nil | (apply Sel.cons; (repeat (first | exact Ext.here | apply Ext.there)))))) (fun w hs => Yl.move (by rfl)) ?_
        refine WA.p (i := 2) (by rfl) (by kernel_rfl) (by kernel_rfl) (by kernel_rfl) (by rfl) (hs.only (by repeat (first | exact Sel.nil | (apply Sel.cons; (repeat (first | exact Ext.here | apply Ext.there)))))) (fun w hs => Yl.loadAB agg25 (by rfl) hs (by repeat (first | exact List.mem_cons_self | apply List.mem_cons_of_mem)) (by rfl) (by rfl)) ?_
        refine WA.p (i := 4) (by rfl) (by kernel_rfl) (by kernel_rfl) (by kernel_rfl) (by rfl) (hs.only (by repeat (first | exact Sel.nil | (apply Sel.cons; (repeat (first | exact Ext.here | apply Ext.there)))))) (fun w hs => Yl.loadAB agg27 (by rfl) hs (by repeat (first | exact List.mem_cons_self | apply List.mem_cons_of_mem)) (by rfl) (by rfl)) ?_
        refine WA.call2 (i := 1) hs (fun _ hs => hs.only (by repeat (first | exact Sel.nil | (apply Sel.cons; (repeat (first | exact Ext.here | apply Ext.there)))))) (by kernel_rfl) (by rfl) (by rfl) (Yc.func (by rfl) fn11) (c_laws_toServerS _ _ (Ph.old h_aL hs) (by first | assumption | omega | (simp only [lsz] at *; omega) | (simp only [lsz, strsz, TPolicy.size, TCache.size, TAddr.size, TRequest.size, TEntry.size, TResponse.size, TLine.size] at *; omega) | (simp only [lsz_map, TPage.size, TBuilder.size, TNode.size, TToken.size, TTokenizer.size, TServer.size, TFile.size, TNet.size, TCache.size, TSheet.size, strsz] at *; omega) | (simp only [lsz_map, TPage.size, TBuilder.size, TNode.size, TToken.size, TTokenizer.size, TServer.size, TFile.size, TNet.size, TCache.size, TSheet.size, strsz, lsz] at *; omega))) ?_
        have hs0 := hs; clear hs; intro v w hb hR hs; clear hs
        obtain ⟨x3, rfl, hx3, hf3⟩ := hR
        obtain ⟨F3, hs⟩ := hf3.sat hs0 hb; clear hs0 hf3
        have hle3 := Sl.Ok.le (hs.okow (x := x3) (F := F3) (by repeat (first | exact List.mem_cons_self | apply List.mem_cons_of_mem)))
        refine WA.callp2 (i := 3) hs (fun _ hs => hs.only (by repeat (first | exact Sel.nil | (apply Sel.cons; (repeat (first | exact Ext.here | apply Ext.there)))))) (by kernel_rfl) (by rfl) (by rfl) (Yc.func (by rfl) fn12) (c_laws_toAddr _ _) ?_
        clear hs; intro w hs
        refine WA.callp2 (i := 5) hs (fun _ hs => hs.only (by repeat (first | exact Sel.nil | (apply Sel.cons; (repeat (first | exact Ext.here | apply Ext.there)))))) (by kernel_rfl) (by rfl) (by rfl) (Yc.func (by rfl) fn13) (c_laws_toResponse _ _) ?_
        clear hs; intro w hs
        refine WA.call2 (i := 6) hs (fun _ hs => hs.only (by repeat (first | exact Sel.nil | (apply Sel.cons; (repeat (first | exact Ext.here | apply Ext.there)))))) (by kernel_rfl) (by rfl) (by rfl) (Yc.func (by rfl) fn10) (c_spec_PutFile _ _ _ _ (hs.okow (x := x3) (F := F3) (by repeat (first | exact List.mem_cons_self | apply List.mem_cons_of_mem))) (Ph.old h_aA hs) (Ph.old h_aX hs) (by first | (rw [hx1, lsz_map]; omega) | (rw [hx2, lsz_map]; omega) | (rw [hx3, lsz_map]; omega) | (rw [hx4, lsz_map]; omega) | (rw [hx5, lsz_map]; omega) | (rw [hx6, lsz_map]; omega) | (rw [hx7, lsz_map]; omega) | (rw [hx8, lsz_map]; omega) | (rw [hx9, lsz_map]; omega) | (rw [hx10, lsz_map]; omega) | (rw [hx11, lsz_map]; omega) | (rw [hx12, lsz_map]; omega) | (rw [hx13, lsz_map]; omega) | (rw [hx14, lsz_map]; omega) | (rw [hx15, lsz_map]; omega) | (rw [hx16, lsz_map]; omega) | (rw [hx17, lsz_map]; omega) | (rw [hx18, lsz_map]; omega) | (rw [hx19, lsz_map]; omega) | (rw [hx20, lsz_map]; omega) | (rw [hx21, lsz_map]; omega) | (rw [hx22, lsz_map]; omega) | (rw [hx23, lsz_map]; omega) | (rw [hx24, lsz_map]; omega) | (rw [hx25, lsz_map]; omega) | (rw [hx26, lsz_map]; omega) | (rw [hx27, lsz_map]; omega) | (rw [hx28, lsz_map]; omega) | (rw [hx29, lsz_map]; omega) | (rw [hx30, lsz_map]; omega) | (rw [hx31, lsz_map]; omega) | (rw [hx32, lsz_map]; omega) | (rw [hx33, lsz_map]; omega) | (rw [hx34, lsz_map]; omega) | (rw [hx35, lsz_map]; omega) | (rw [hx36, lsz_map]; omega) | (rw [hx37, lsz_map]; omega) | (rw [hx38, lsz_map]; omega) | (rw [hx39, lsz_map]; omega) | (rw [hx40, lsz_map]; omega) | (rw [hx41, lsz_map]; omega) | (rw [hx42, lsz_map]; omega) | (rw [hx43, lsz_map]; omega) | (rw [hx44, lsz_map]; omega) | (rw [hx45, lsz_map]; omega) | (rw [hx46, lsz_map]; omega) | (rw [hx47, lsz_map]; omega) | (rw [hx48, lsz_map]; omega) | (rw [hx49, lsz_map]; omega) | (rw [hx50, lsz_map]; omega) | (rw [hx51, lsz_map]; omega) | (rw [hx52, lsz_map]; omega) | (rw [hx53, lsz_map]; omega) | (rw [hx54, lsz_map]; omega) | (rw [hx55, lsz_map]; omega) | (rw [hx56, lsz_map]; omega) | (rw [hx57, lsz_map]; omega) | (rw [hx58, lsz_map]; omega) | (rw [hx59, lsz_map]; omega)) (by simp only [TResponse.size] at *; omega)) ?_
        have hs0 := hs; clear hs; intro v w hb hR hs; clear hs
        obtain ⟨x4, rfl, hx4, hf4⟩ := hR
        obtain ⟨F4, hs⟩ := hf4.sat hs0 hb; clear hs0 hf4
        refine WA.p (i := 7) (by rfl) (by kernel_rfl) (by kernel_rfl) (by kernel_rfl) (by rfl) (hs.only (by repeat (first | exact Sel.nil | (apply Sel.cons; (repeat (first | exact Ext.here | apply Ext.there)))))) (fun w hs => Yl.move (by rfl)) ?_
        refine WA.p (i := 8) (by rfl) (by kernel_rfl) (by kernel_rfl) (by kernel_rfl) (by rfl) (hs.only (by repeat (first | exact Sel.nil | (apply Sel.cons; (repeat (first | exact Ext.here | apply Ext.there)))))) (fun w hs => Yl.extract (by rfl) (by rfl)) ?_
        refine WA.p (i := 9) (by rfl) (by kernel_rfl) (by kernel_rfl) (by kernel_rfl) (by rfl) (hs.only (by repeat (first | exact Sel.nil | (apply Sel.cons; (repeat (first | exact Ext.here | apply Ext.there)))))) (fun w hs => Yl.extract (by rfl) (by rfl)) ?_
        refine WA.p (i := 10) (by rfl) (by kernel_rfl) (by kernel_rfl) (by kernel_rfl) (by rfl) (hs.only (by repeat (first | exact Sel.nil | (apply Sel.cons; (repeat (first | exact Ext.here | apply Ext.there)))))) (fun w hs => Yl.assign (by rfl)) ?_
        refine WA.p (i := 11) (by rfl) (by kernel_rfl) (by kernel_rfl) (by kernel_rfl) (by rfl) (hs.only (by repeat (first | exact Sel.nil | (apply Sel.cons; (repeat (first | exact Ext.here | apply Ext.there)))))) (fun w hs => Yl.assign (by rfl)) ?_
        refine WA.donen (by kernel_rfl) ?_
        refine WC.seq ?_
        refine WL.p (by rfl) (Yl.move (by rfl)) ?_
        refine WL.call hs (by rfl) (Yc.func (by rfl) fn11) (c_laws_toServerS _ _ (Ph.old h_aL hs) (by first | assumption | omega | (simp only [lsz] at *; omega) | (simp only [lsz, strsz, TPolicy.size, TCache.size, TAddr.size, TRequest.size, TEntry.size, TResponse.size, TLine.size] at *; omega) | (simp only [lsz_map, TPage.size, TBuilder.size, TNode.size, TToken.size, TTokenizer.size, TServer.size, TFile.size, TNet.size, TCache.size, TSheet.size, strsz] at *; omega) | (simp only [lsz_map, TPage.size, TBuilder.size, TNode.size, TToken.size, TTokenizer.size, TServer.size, TFile.size, TNet.size, TCache.size, TSheet.size, strsz, lsz] at *; omega))) ?_
        have hs0 := hs; clear hs; intro v w hb hR hs; clear hs
        obtain ⟨x5, rfl, hx5, hf5⟩ := hR
        obtain ⟨F5, hs⟩ := hf5.sat hs0 hb; clear hs0 hf5
        have hle5 := Sl.Ok.le (hs.okow (x := x5) (F := F5) (by repeat (first | exact List.mem_cons_self | apply List.mem_cons_of_mem)))
        refine WL.p (by rfl) (Yl.assign (by rfl)) ?_
        refine WL.next ?_
        refine WC.anyn mixed hs ?_
        clear hs; intro w hs
        refine WA.p (i := 0) (by rfl) (by kernel_rfl) (by kernel_rfl) (by kernel_rfl) (by rfl) (hs.only (by repeat (first | exact Sel.nil | (apply Sel.cons; (repeat (first | exact Ext.here | apply Ext.there)))))) (fun w hs => Yl.move (by rfl)) ?_
        refine WA.p (i := 1) (by rfl) (by kernel_rfl) (by kernel_rfl) (by kernel_rfl) (by rfl) (hs.only (by repeat (first | exact Sel.nil | (apply Sel.cons; (repeat (first | exact Ext.here | apply Ext.there)))))) (fun w hs => Yl.loadAB agg25 (by rfl) hs (by repeat (first | exact List.mem_cons_self | apply List.mem_cons_of_mem)) (by rfl) (by rfl)) ?_
        refine WA.p (i := 3) (by rfl) (by kernel_rfl) (by kernel_rfl) (by kernel_rfl) (by rfl) (hs.only (by repeat (first | exact Sel.nil | (apply Sel.cons; (repeat (first | exact Ext.here | apply Ext.there)))))) (fun w hs => Yl.loadAB agg27 (by rfl) hs (by repeat (first | exact List.mem_cons_self | apply List.mem_cons_of_mem)) (by rfl) (by rfl)) ?_
        refine WA.callp2 (i := 2) hs (fun _ hs => hs.only (by repeat (first | exact Sel.nil | (apply Sel.cons; (repeat (first | exact Ext.here | apply Ext.there)))))) (by kernel_rfl) (by rfl) (by rfl) (Yc.func (by rfl) fn12) (c_laws_toAddr _ _) ?_
        clear hs; intro w hs
        refine WA.callp2 (i := 4) hs (fun _ hs => hs.only (by repeat (first | exact Sel.nil | (apply Sel.cons; (repeat (first | exact Ext.here | apply Ext.there)))))) (by kernel_rfl) (by rfl) (by rfl) (Yc.func (by rfl) fn13) (c_laws_toResponse _ _) ?_
        clear hs; intro w hs
        refine WA.call2 (i := 5) hs (fun _ hs => hs.only (by repeat (first | exact Sel.nil | (apply Sel.cons; (repeat (first | exact Ext.here | apply Ext.there)))))) (by kernel_rfl) (by rfl) (by rfl) (Yc.func (by rfl) fn14) (c_impl_PutFile _ _ _ _ (hs.okow (x := x5) (F := F5) (by repeat (first | exact List.mem_cons_self | apply List.mem_cons_of_mem))) (Ph.old h_aA hs) (Ph.old h_aX hs) (by first | (rw [hx1, lsz_map]; omega) | (rw [hx2, lsz_map]; omega) | (rw [hx3, lsz_map]; omega) | (rw [hx4, lsz_map]; omega) | (rw [hx5, lsz_map]; omega) | (rw [hx6, lsz_map]; omega) | (rw [hx7, lsz_map]; omega) | (rw [hx8, lsz_map]; omega) | (rw [hx9, lsz_map]; omega) | (rw [hx10, lsz_map]; omega) | (rw [hx11, lsz_map]; omega) | (rw [hx12, lsz_map]; omega) | (rw [hx13, lsz_map]; omega) | (rw [hx14, lsz_map]; omega) | (rw [hx15, lsz_map]; omega) | (rw [hx16, lsz_map]; omega) | (rw [hx17, lsz_map]; omega) | (rw [hx18, lsz_map]; omega) | (rw [hx19, lsz_map]; omega) | (rw [hx20, lsz_map]; omega) | (rw [hx21, lsz_map]; omega) | (rw [hx22, lsz_map]; omega) | (rw [hx23, lsz_map]; omega) | (rw [hx24, lsz_map]; omega) | (rw [hx25, lsz_map]; omega) | (rw [hx26, lsz_map]; omega) | (rw [hx27, lsz_map]; omega) | (rw [hx28, lsz_map]; omega) | (rw [hx29, lsz_map]; omega) | (rw [hx30, lsz_map]; omega) | (rw [hx31, lsz_map]; omega) | (rw [hx32, lsz_map]; omega) | (rw [hx33, lsz_map]; omega) | (rw [hx34, lsz_map]; omega) | (rw [hx35, lsz_map]; omega) | (rw [hx36, lsz_map]; omega) | (rw [hx37, lsz_map]; omega) | (rw [hx38, lsz_map]; omega) | (rw [hx39, lsz_map]; omega) | (rw [hx40, lsz_map]; omega) | (rw [hx41, lsz_map]; omega) | (rw [hx42, lsz_map]; omega) | (rw [hx43, lsz_map]; omega) | (rw [hx44, lsz_map]; omega) | (rw [hx45, lsz_map]; omega) | (rw [hx46, lsz_map]; omega) | (rw [hx47, lsz_map]; omega) | (rw [hx48, lsz_map]; omega) | (rw [hx49, lsz_map]; omega) | (rw [hx50, lsz_map]; omega) | (rw [hx51, lsz_map]; omega) | (rw [hx52, lsz_map]; omega) | (rw [hx53, lsz_map]; omega) | (rw [hx54, lsz_map]; omega) | (rw [hx55, lsz_map]; omega) | (rw [hx56, lsz_map]; omega) | (rw [hx57, lsz_map]; omega) | (rw [hx58, lsz_map]; omega) | (rw [hx59, lsz_map]; omega)) (by simp only [TResponse.size] at *; omega) (by first | assumption | exact Sat.cellm hs (by assumption))) ?_
        have hs0 := hs; clear hs; intro v w hb hR hs; clear hs
        obtain ⟨x6, rfl, hx6, hf6⟩ := hR
        obtain ⟨F6, hs⟩ := hf6.sat hs0 hb; clear hs0 hf6
        refine WA.p (i := 6) (by rfl) (by kernel_rfl) (by kernel_rfl) (by kernel_rfl) (by rfl) (hs.only (by repeat (first | exact Sel.nil | (apply Sel.cons; (repeat (first | exact Ext.here | apply Ext.there)))))) (fun w hs => Yl.move (by rfl)) ?_
        refine WA.p (i := 7) (by rfl) (by kernel_rfl) (by kernel_rfl) (by kernel_rfl) (by rfl) (hs.only (by repeat (first | exact Sel.nil | (apply Sel.cons; (repeat (first | exact Ext.here | apply Ext.there)))))) (fun w hs => Yl.extract (by rfl) (by rfl)) ?_
        refine WA.p (i := 8) (by rfl) (by kernel_rfl) (by kernel_rfl) (by kernel_rfl) (by rfl) (hs.only (by repeat (first | exact Sel.nil | (apply Sel.cons; (repeat (first | exact Ext.here | apply Ext.there)))))) (fun w hs => Yl.extract (by rfl) (by rfl)) ?_
        refine WA.p (i := 9) (by rfl) (by kernel_rfl) (by kernel_rfl) (by kernel_rfl) (by rfl) (hs.only (by repeat (first | exact Sel.nil | (apply Sel.cons; (repeat (first | exact Ext.here | apply Ext.there)))))) (fun w hs => Yl.assign (by rfl)) ?_
        refine WA.p (i := 10) (by rfl) (by kernel_rfl) (by kernel_rfl) (by kernel_rfl) (by rfl) (hs.only (by repeat (first | exact Sel.nil | (apply Sel.cons; (repeat (first | exact Ext.here | apply Ext.there)))))) (fun w hs => Yl.assign (by rfl)) ?_
        refine WA.donen (by kernel_rfl) ?_
        refine WC.seq' ?_
        refine WC.seq ?_
        refine WL.p (by rfl) (Yl.move (by rfl)) ?_
        refine WL.p (by rfl) (Yl.move (by rfl)) ?_
        refine WL.callp hs (by rfl) (Yc.func (by rfl) fn15) (c_laws_eqServerS _ _ _ (hs.okow (x := x6) (F := F6) (by repeat (first | exact List.mem_cons_self | apply List.mem_cons_of_mem))) (hs.okow (x := x4) (F := F4) (by repeat (first | exact List.mem_cons_self | apply List.mem_cons_of_mem)))) ?_
        clear hs; intro w hs
        refine WL.p (by rfl) (Yl.not (by rfl)) ?_
        refine WL.p (by rfl) (Yl.move (by rfl)) ?_
        refine WL.split (d := 58) (by rfl) (fun h4 => ?_) (fun h4 => ?_)
        ·
          replace h4 := not_eq_true h4
          replace h4 := of_decide_eq_false h4
          refine WL.skip (d := 58) (by rfl) (by rfl) (by rfl) (by rfl) ?_
          refine WL.skip (d := 58) (by rfl) (by rfl) (by rfl) (by rfl) ?_
          refine WL.skip (d := 58) (by rfl) (by rfl) (by rfl) (by rfl) ?_
          refine WL.p (by rfl) (Yl.pickT (by rfl) (by rfl)) ?_
          refine WL.next ?_
          refine WC.condT (by rfl) ?_
          refine WC.seq ?_
          refine WL.p (by rfl) (Yl.assign (by rfl)) ?_
          refine WL.next ?_
          refine WC.ret ?_
          refine At.thenret ?_
          refine fin1' rfl (by rfl) ?_
          refine RetP.mk hs ?_
          try simp only [hx3, hx4, hx5, hx6] at h1
          try simp only [hx3, hx4, hx5, hx6] at h2
          try simp only [hx3, hx4, hx5, hx6] at h3
          try simp only [hx3, hx4, hx5, hx6] at h4
          all_goals (first | (simp only [hx3, hx4, hx5, hx6]; done) | (exfalso; omega) | simp_all)
        ·
          replace h4 := not_eq_false h4
          replace h4 := of_decide_eq_true h4
          refine WL.run (d := 58) (by rfl) (by rfl) ?_
          refine WL.p (by rfl) (Yl.move (by rfl)) ?_
          refine WL.run (d := 58) (by rfl) (by rfl) ?_
          refine WL.p (by rfl) (Yl.move (by rfl)) ?_
          refine WL.run (d := 58) (by rfl) (by rfl) ?_
          refine WL.p (by rfl) (Yl.neb bool4 (by rfl) (by rfl)) ?_
          refine WL.p (by rfl) (Yl.pickF (by rfl) (by rfl)) ?_
          refine WL.next ?_
          refine WC.condS (by rfl) (fun h5 => ?_) (fun h5 => ?_)
          ·
            replace h5 := not_eq_true h5
            replace h5 := beq_false h5
            refine WC.seq ?_
            refine WL.p (by rfl) (Yl.assign (by rfl)) ?_
            refine WL.next ?_
            refine WC.ret ?_
            refine At.thenret ?_
            refine fin1' rfl (by rfl) ?_
            refine RetP.mk hs ?_
            try simp only [hx3, hx4, hx5, hx6] at h1
            try simp only [hx3, hx4, hx5, hx6] at h2
            try simp only [hx3, hx4, hx5, hx6] at h3
            try simp only [hx3, hx4, hx5, hx6] at h4
            try simp only [hx3, hx4, hx5, hx6] at h5
            all_goals (first | (simp only [hx3, hx4, hx5, hx6]; done) | (exfalso; omega) | simp_all)
          ·
            replace h5 := not_eq_false h5
            replace h5 := beq_true h5
            refine WC.skipn ?_
            refine WC.seq' ?_
            refine WC.seq ?_
            refine WL.p (by rfl) (Yl.move (by rfl)) ?_
            refine WL.p (by rfl) (Yl.move (by rfl)) ?_
            refine WL.call hs (by rfl) (Yc.func (by rfl) fn11) (c_laws_toServerS _ _ (Ph.old h_aL hs) (by first | assumption | omega | (simp only [lsz] at *; omega) | (simp only [lsz, strsz, TPolicy.size, TCache.size, TAddr.size, TRequest.size, TEntry.size, TResponse.size, TLine.size] at *; omega) | (simp only [lsz_map, TPage.size, TBuilder.size, TNode.size, TToken.size, TTokenizer.size, TServer.size, TFile.size, TNet.size, TCache.size, TSheet.size, strsz] at *; omega) | (simp only [lsz_map, TPage.size, TBuilder.size, TNode.size, TToken.size, TTokenizer.size, TServer.size, TFile.size, TNet.size, TCache.size, TSheet.size, strsz, lsz] at *; omega))) ?_
            have hs0 := hs; clear hs; intro v w hb hR hs; clear hs
            obtain ⟨x7, rfl, hx7, hf7⟩ := hR
            obtain ⟨F7, hs⟩ := hf7.sat hs0 hb; clear hs0 hf7
            have hle7 := Sl.Ok.le (hs.okow (x := x7) (F := F7) (by repeat (first | exact List.mem_cons_self | apply List.mem_cons_of_mem)))
            refine WL.callp hs (by rfl) (Yc.func (by rfl) fn15) (c_laws_eqServerS _ _ _ (hs.okow (x := x5) (F := F5) (by repeat (first | exact List.mem_cons_self | apply List.mem_cons_of_mem))) (hs.okow (x := x7) (F := F7) (by repeat (first | exact List.mem_cons_self | apply List.mem_cons_of_mem)))) ?_
            clear hs; intro w hs
            refine WL.p (by rfl) (Yl.not (by rfl)) ?_
            refine WL.next ?_
            refine WC.condS (by rfl) (fun h6 => ?_) (fun h6 => ?_)
            ·
              replace h6 := not_eq_true h6
              replace h6 := of_decide_eq_false h6
              refine WC.seq ?_
              refine WL.p (by rfl) (Yl.assign (by rfl)) ?_
              refine WL.next ?_
              refine WC.ret ?_
              refine At.thenret ?_
              refine fin1' rfl (by rfl) ?_
              refine RetP.mk hs ?_
              try simp only [hx3, hx4, hx5, hx6, hx7] at h1
              try simp only [hx3, hx4, hx5, hx6, hx7] at h2
              try simp only [hx3, hx4, hx5, hx6, hx7] at h3
              try simp only [hx3, hx4, hx5, hx6, hx7] at h4
              try simp only [hx3, hx4, hx5, hx6, hx7] at h5
              try simp only [hx3, hx4, hx5, hx6, hx7] at h6
              all_goals (first | (simp only [hx3, hx4, hx5, hx6, hx7]; done) | (exfalso; omega) | simp_all)
            ·
              replace h6 := not_eq_false h6
              replace h6 := of_decide_eq_true h6
              refine WC.skipn ?_
              refine WC.seq ?_
              refine WL.p (by rfl) (Yl.assign (by rfl)) ?_
              refine WL.next ?_
              refine WC.seq ?_
              refine WL.p (by rfl) (Yl.move (by rfl)) ?_
              refine WL.p (by rfl) (Yl.move (by rfl)) ?_
              refine WL.callm (a := x5) (F := F5) hs (by repeat (first | exact Sel.nil | (apply Sel.cons; (repeat (first | exact Ext.here | apply Ext.there))))) (by rfl) (Yc.func (by rfl) fn16) (c_laws_markServerS x5 _ _ F5 (own_of hs (by repeat (first | exact List.mem_cons_self | apply List.mem_cons_of_mem))) (nodup_of hs (by repeat (first | exact List.mem_cons_self | apply List.mem_cons_of_mem))) (by first | assumption | omega | (simp only [lsz] at *; omega) | (simp only [lsz, strsz, TPolicy.size, TCache.size, TAddr.size, TRequest.size, TEntry.size, TResponse.size, TLine.size] at *; omega) | (simp only [lsz_map, TPage.size, TBuilder.size, TNode.size, TToken.size, TTokenizer.size, TServer.size, TFile.size, TNet.size, TCache.size, TSheet.size, strsz] at *; omega) | (simp only [lsz_map, TPage.size, TBuilder.size, TNode.size, TToken.size, TTokenizer.size, TServer.size, TFile.size, TNet.size, TCache.size, TSheet.size, strsz, lsz] at *; omega)) (by first | omega | (try simp only [hx3, hx4, hx5, hx6, hx7]); (have := (lsz_map : lsz TServer.size (aL.l.map PServer.lg) = lsz (fun x : PServer => x.lg.size) aL.l); have := costServers_le (aL.l.map PServer.lg); have := costPut_le (aL.l.map PServer.lg) aA aX; omega))) ?_
              clear hs; intro a8 F8 w he8 hq8 hs
              refine WL.p (by rfl) (Yl.assign (by rfl)) ?_
              refine WL.next ?_
              refine WC.seq' ?_
              refine WC.seq ?_
              refine WL.p (by rfl) (Yl.move (by rfl)) ?_
              refine WL.p (by rfl) (Yl.lss (by rfl) (by rfl)) ?_
              refine WL.p (by rfl) (Yl.move (by rfl)) ?_
              refine WL.split (d := 73) (by rfl) (fun h7 => ?_) (fun h7 => ?_)
              ·
                replace h7 := of_decide_eq_true h7
                refine WL.skip (d := 73) (by rfl) (by rfl) (by rfl) (by rfl) ?_
                refine WL.skip (d := 73) (by rfl) (by rfl) (by rfl) (by rfl) ?_
                refine WL.skip (d := 73) (by rfl) (by rfl) (by rfl) (by rfl) ?_
                refine WL.skip (d := 73) (by rfl) (by rfl) (by rfl) (by rfl) ?_
                refine WL.p (by rfl) (Yl.pickT (by rfl) (by rfl)) ?_
                refine WL.p (by rfl) (Yl.move (by rfl)) ?_
                refine WL.skip (d := 79) (by rfl) (by rfl) (by rfl) (by rfl) ?_
                refine WL.skip (d := 79) (by rfl) (by rfl) (by rfl) (by rfl) ?_
                refine WL.skip (d := 79) (by rfl) (by rfl) (by rfl) (by rfl) ?_
                refine WL.p (by rfl) (Yl.pickT (by rfl) (by rfl)) ?_
                refine WL.next ?_
                refine WC.condT (by rfl) ?_
                refine WC.seq ?_
                refine WL.p (by rfl) (Yl.assign (by rfl)) ?_
                refine WL.next ?_
                refine WC.ret ?_
                refine At.thenret ?_
                refine fin1' rfl (by rfl) ?_
                refine RetP.mk hs ?_
                try simp only [hx3, hx4, hx5, hx6, hx7, hq8] at h1
                try simp only [hx3, hx4, hx5, hx6, hx7, hq8] at h2
                try simp only [hx3, hx4, hx5, hx6, hx7, hq8] at h3
                try simp only [hx3, hx4, hx5, hx6, hx7, hq8] at h4
                try simp only [hx3, hx4, hx5, hx6, hx7, hq8] at h5
                try simp only [hx3, hx4, hx5, hx6, hx7, hq8] at h6
                try simp only [hx3, hx4, hx5, hx6, hx7, hq8] at h7
                all_goals (first | (simp only [hx3, hx4, hx5, hx6, hx7, hq8]; done) | (exfalso; omega) | simp_all)
              ·
                replace h7 := of_decide_eq_false h7
                refine WL.run (d := 73) (by rfl) (by rfl) ?_
                refine WL.p (by rfl) (Yl.move (by rfl)) ?_
                refine WL.run (d := 73) (by rfl) (by rfl) ?_
                refine WL.p (by rfl) (Yl.move (by rfl)) ?_
                refine WL.run (d := 73) (by rfl) (by rfl) ?_
                refine WL.callp hs (by rfl) (Yc.func (by rfl) fn15) (c_laws_eqServerS _ _ _ (hs.okow (x := x6) (F := F6) (by repeat (first | exact List.mem_cons_self | apply List.mem_cons_of_mem))) (hs.okow (x := x4) (F := F4) (by repeat (first | exact List.mem_cons_self | apply List.mem_cons_of_mem)))) ?_
                clear hs; intro w hs
                refine WL.run (d := 73) (by rfl) (by rfl) ?_
                refine WL.p (by rfl) (Yl.not (by rfl)) ?_
                refine WL.p (by rfl) (Yl.pickF (by rfl) (by rfl)) ?_
                refine WL.p (by rfl) (Yl.move (by rfl)) ?_
                refine WL.split (d := 79) (by rfl) (fun h8 => ?_) (fun h8 => ?_)
                ·
                  replace h8 := not_eq_true h8
                  replace h8 := of_decide_eq_false h8
                  refine WL.skip (d := 79) (by rfl) (by rfl) (by rfl) (by rfl) ?_
                  refine WL.skip (d := 79) (by rfl) (by rfl) (by rfl) (by rfl) ?_
                  refine WL.skip (d := 79) (by rfl) (by rfl) (by rfl) (by rfl) ?_
                  refine WL.p (by rfl) (Yl.pickT (by rfl) (by rfl)) ?_
                  refine WL.next ?_
                  refine WC.condT (by rfl) ?_
                  refine WC.seq ?_
                  refine WL.p (by rfl) (Yl.assign (by rfl)) ?_
                  refine WL.next ?_
                  refine WC.ret ?_
                  refine At.thenret ?_
                  refine fin1' rfl (by rfl) ?_
                  refine RetP.mk hs ?_
                  try simp only [hx3, hx4, hx5, hx6, hx7, hq8] at h1
                  try simp only [hx3, hx4, hx5, hx6, hx7, hq8] at h2
                  try simp only [hx3, hx4, hx5, hx6, hx7, hq8] at h3
                  try simp only [hx3, hx4, hx5, hx6, hx7, hq8] at h4
                  try simp only [hx3, hx4, hx5, hx6, hx7, hq8] at h5
                  try simp only [hx3, hx4, hx5, hx6, hx7, hq8] at h6
                  try simp only [hx3, hx4, hx5, hx6, hx7, hq8] at h7
                  try simp only [hx3, hx4, hx5, hx6, hx7, hq8] at h8
                  all_goals (first | (simp only [hx3, hx4, hx5, hx6, hx7, hq8]; done) | (exfalso; omega) | simp_all)
                ·
                  replace h8 := not_eq_false h8
                  replace h8 := of_decide_eq_true h8
                  refine WL.run (d := 79) (by rfl) (by rfl) ?_
                  refine WL.p (by rfl) (Yl.move (by rfl)) ?_
                  refine WL.run (d := 79) (by rfl) (by rfl) ?_
                  refine WL.p (by rfl) (Yl.move (by rfl)) ?_
                  refine WL.run (d := 79) (by rfl) (by rfl) ?_
                  refine WL.p (by rfl) (Yl.neb bool4 (by rfl) (by rfl)) ?_
                  refine WL.p (by rfl) (Yl.pickF (by rfl) (by rfl)) ?_
                  refine WL.next ?_
                  refine WC.condS (by rfl) (fun h9 => ?_) (fun h9 => ?_)
                  ·
                    replace h9 := not_eq_true h9
                    replace h9 := beq_false h9
                    refine WC.seq ?_
                    refine WL.p (by rfl) (Yl.assign (by rfl)) ?_
                    refine WL.next ?_
                    refine WC.ret ?_
                    refine At.thenret ?_
                    refine fin1' rfl (by rfl) ?_
                    refine RetP.mk hs ?_
                    try simp only [hx3, hx4, hx5, hx6, hx7, hq8] at h1
                    try simp only [hx3, hx4, hx5, hx6, hx7, hq8] at h2
                    try simp only [hx3, hx4, hx5, hx6, hx7, hq8] at h3
                    try simp only [hx3, hx4, hx5, hx6, hx7, hq8] at h4
                    try simp only [hx3, hx4, hx5, hx6, hx7, hq8] at h5
                    try simp only [hx3, hx4, hx5, hx6, hx7, hq8] at h6
                    try simp only [hx3, hx4, hx5, hx6, hx7, hq8] at h7
                    try simp only [hx3, hx4, hx5, hx6, hx7, hq8] at h8
                    try simp only [hx3, hx4, hx5, hx6, hx7, hq8] at h9
                    all_goals (first | (simp only [hx3, hx4, hx5, hx6, hx7, hq8]; done) | (exfalso; omega) | simp_all)
                  ·
                    replace h9 := not_eq_false h9
                    replace h9 := beq_true h9
                    refine WC.skipn ?_
                    refine WC.seq ?_
                    refine WL.p (by rfl) (Yl.assign (by rfl)) ?_
                    refine WL.next ?_
                    refine WC.seq ?_
                    refine WL.p (by rfl) (Yl.move (by rfl)) ?_
                    refine WL.p (by rfl) (Yl.move (by rfl)) ?_
                    refine WL.callm (a := x6) (F := F6) hs (by repeat (first | exact Sel.nil | (apply Sel.cons; (repeat (first | exact Ext.here | apply Ext.there))))) (by rfl) (Yc.func (by rfl) fn16) (c_laws_markServerS x6 _ _ F6 (own_of hs (by repeat (first | exact List.mem_cons_self | apply List.mem_cons_of_mem))) (nodup_of hs (by repeat (first | exact List.mem_cons_self | apply List.mem_cons_of_mem))) (by first | assumption | omega | (simp only [lsz] at *; omega) | (simp only [lsz, strsz, TPolicy.size, TCache.size, TAddr.size, TRequest.size, TEntry.size, TResponse.size, TLine.size] at *; omega) | (simp only [lsz_map, TPage.size, TBuilder.size, TNode.size, TToken.size, TTokenizer.size, TServer.size, TFile.size, TNet.size, TCache.size, TSheet.size, strsz] at *; omega) | (simp only [lsz_map, TPage.size, TBuilder.size, TNode.size, TToken.size, TTokenizer.size, TServer.size, TFile.size, TNet.size, TCache.size, TSheet.size, strsz, lsz] at *; omega)) (by first | omega | (try simp only [hx3, hx4, hx5, hx6, hx7]); (have := (lsz_map : lsz TServer.size (aL.l.map PServer.lg) = lsz (fun x : PServer => x.lg.size) aL.l); have := costServers_le (aL.l.map PServer.lg); have := costPut_le (aL.l.map PServer.lg) aA aX; omega))) ?_
                    clear hs; intro a9 F9 w he9 hq9 hs
                    refine WL.p (by rfl) (Yl.assign (by rfl)) ?_
                    refine WL.next ?_
                    refine WC.seq ?_
                    refine WL.p (by rfl) (Yl.assign (by rfl)) ?_
                    refine WL.next ?_
                    refine WC.seq ?_
                    refine WL.p (by rfl) (Yl.move (by rfl)) ?_
                    refine WL.p (by rfl) (Yl.move (by rfl)) ?_
                    refine WL.callp hs (by rfl) (Yc.func (by rfl) fn17) (calls_conv (congrArg (fun z => ([z, _] : List Value).toArray) (show a9.v = x6.v from Sl.enc_v he9)) (c_laws_heldServerS a9 _ (x6.l.map PServer.lg) _ (hs.okow (x := a9) (F := F9) (by repeat (first | exact List.mem_cons_self | apply List.mem_cons_of_mem))) (by first | assumption | omega | (simp only [lsz] at *; omega) | (simp only [lsz, strsz, TPolicy.size, TCache.size, TAddr.size, TRequest.size, TEntry.size, TResponse.size, TLine.size] at *; omega) | (simp only [lsz_map, TPage.size, TBuilder.size, TNode.size, TToken.size, TTokenizer.size, TServer.size, TFile.size, TNet.size, TCache.size, TSheet.size, strsz] at *; omega) | (simp only [lsz_map, TPage.size, TBuilder.size, TNode.size, TToken.size, TTokenizer.size, TServer.size, TFile.size, TNet.size, TCache.size, TSheet.size, strsz, lsz] at *; omega)) (by first | omega | (try simp only [hx3, hx4, hx5, hx6, hx7]); (have := (lsz_map : lsz TServer.size (aL.l.map PServer.lg) = lsz (fun x : PServer => x.lg.size) aL.l); have := costServers_le (aL.l.map PServer.lg); have := costPut_le (aL.l.map PServer.lg) aA aX; omega)) (by exact hq9))) ?_
                    clear hs; intro w hs
                    refine WL.p (by rfl) (Yl.assign (by rfl)) ?_
                    refine WL.next ?_
                    refine WC.seq' ?_
                    refine WC.seq ?_
                    refine WL.p (by rfl) (Yl.move (by rfl)) ?_
                    refine WL.p (by rfl) (Yl.lss (by rfl) (by rfl)) ?_
                    refine WL.next ?_
                    refine WC.condS (by rfl) (fun h10 => ?_) (fun h10 => ?_)
                    ·
                      replace h10 := of_decide_eq_true h10
                      refine WC.seq ?_
                      refine WL.p (by rfl) (Yl.assign (by rfl)) ?_
                      refine WL.next ?_
                      refine WC.ret ?_
                      refine At.thenret ?_
                      refine fin1' rfl (by rfl) ?_
                      refine RetP.mk hs ?_
                      try simp only [hx3, hx4, hx5, hx6, hx7, hq8, hq9] at h1
                      try simp only [hx3, hx4, hx5, hx6, hx7, hq8, hq9] at h2
                      try simp only [hx3, hx4, hx5, hx6, hx7, hq8, hq9] at h3
                      try simp only [hx3, hx4, hx5, hx6, hx7, hq8, hq9] at h4
                      try simp only [hx3, hx4, hx5, hx6, hx7, hq8, hq9] at h5
                      try simp only [hx3, hx4, hx5, hx6, hx7, hq8, hq9] at h6
                      try simp only [hx3, hx4, hx5, hx6, hx7, hq8, hq9] at h7
                      try simp only [hx3, hx4, hx5, hx6, hx7, hq8, hq9] at h8
                      try simp only [hx3, hx4, hx5, hx6, hx7, hq8, hq9] at h9
                      try simp only [hx3, hx4, hx5, hx6, hx7, hq8, hq9] at h10
                      all_goals (first | (simp only [hx3, hx4, hx5, hx6, hx7, hq8, hq9]; done) | (exfalso; omega) | simp_all)
                    ·
                      replace h10 := of_decide_eq_false h10
                      refine WC.skipn ?_
                      refine WC.seq' ?_
                      refine WC.seq ?_
                      refine WL.p (by rfl) (Yl.move (by rfl)) ?_
                      refine WL.p (by rfl) (Yl.move (by rfl)) ?_
                      refine WL.p (by rfl) (Yl.nei (by rfl) (by rfl)) ?_
                      refine WL.next ?_
                      refine WC.condS (by rfl) (fun h11 => ?_) (fun h11 => ?_)
                      ·
                        replace h11 := not_eq_true h11
                        replace h11 := of_decide_eq_false h11
                        refine WC.seq ?_
                        refine WL.p (by rfl) (Yl.assign (by rfl)) ?_
                        refine WL.next ?_
                        refine WC.ret ?_
                        refine At.thenret ?_
                        refine fin1' rfl (by rfl) ?_
                        refine RetP.mk hs ?_
                        try simp only [hx3, hx4, hx5, hx6, hx7, hq8, hq9] at h1
                        try simp only [hx3, hx4, hx5, hx6, hx7, hq8, hq9] at h2
                        try simp only [hx3, hx4, hx5, hx6, hx7, hq8, hq9] at h3
                        try simp only [hx3, hx4, hx5, hx6, hx7, hq8, hq9] at h4
                        try simp only [hx3, hx4, hx5, hx6, hx7, hq8, hq9] at h5
                        try simp only [hx3, hx4, hx5, hx6, hx7, hq8, hq9] at h6
                        try simp only [hx3, hx4, hx5, hx6, hx7, hq8, hq9] at h7
                        try simp only [hx3, hx4, hx5, hx6, hx7, hq8, hq9] at h8
                        try simp only [hx3, hx4, hx5, hx6, hx7, hq8, hq9] at h9
                        try simp only [hx3, hx4, hx5, hx6, hx7, hq8, hq9] at h10
                        try simp only [hx3, hx4, hx5, hx6, hx7, hq8, hq9] at h11
                        all_goals (first | (simp only [hx3, hx4, hx5, hx6, hx7, hq8, hq9]; done) | (exfalso; omega) | simp_all)
                      ·
                        replace h11 := not_eq_false h11
                        replace h11 := of_decide_eq_true h11
                        refine WC.skipn ?_
                        refine WC.anyn mixed hs ?_
                        clear hs; intro w hs
                        refine WA.p (i := 0) (by rfl) (by kernel_rfl) (by kernel_rfl) (by kernel_rfl) (by rfl) (hs.only (by repeat (first | exact Sel.nil | (apply Sel.cons; (repeat (first | exact Ext.here | apply Ext.there)))))) (fun w hs => Yl.move (by rfl)) ?_
                        refine WA.p (i := 2) (by rfl) (by kernel_rfl) (by kernel_rfl) (by kernel_rfl) (by rfl) (hs.only (by repeat (first | exact Sel.nil | (apply Sel.cons; (repeat (first | exact Ext.here | apply Ext.there)))))) (fun w hs => Yl.loadAB agg25 (by rfl) hs (by repeat (first | exact List.mem_cons_self | apply List.mem_cons_of_mem)) (by rfl) (by rfl)) ?_
                        refine WA.p (i := 4) (by rfl) (by kernel_rfl) (by kernel_rfl) (by kernel_rfl) (by rfl) (hs.only (by repeat (first | exact Sel.nil | (apply Sel.cons; (repeat (first | exact Ext.here | apply Ext.there)))))) (fun w hs => Yl.loadAB agg27 (by rfl) hs (by repeat (first | exact List.mem_cons_self | apply List.mem_cons_of_mem)) (by rfl) (by rfl)) ?_
                        refine WA.call2 (i := 1) hs (fun _ hs => hs.only (by repeat (first | exact Sel.nil | (apply Sel.cons; (repeat (first | exact Ext.here | apply Ext.there)))))) (by kernel_rfl) (by rfl) (by rfl) (Yc.func (by rfl) fn11) (c_laws_toServerS _ _ (Ph.old h_aL hs) (by first | assumption | omega | (simp only [lsz] at *; omega) | (simp only [lsz, strsz, TPolicy.size, TCache.size, TAddr.size, TRequest.size, TEntry.size, TResponse.size, TLine.size] at *; omega) | (simp only [lsz_map, TPage.size, TBuilder.size, TNode.size, TToken.size, TTokenizer.size, TServer.size, TFile.size, TNet.size, TCache.size, TSheet.size, strsz] at *; omega) | (simp only [lsz_map, TPage.size, TBuilder.size, TNode.size, TToken.size, TTokenizer.size, TServer.size, TFile.size, TNet.size, TCache.size, TSheet.size, strsz, lsz] at *; omega))) ?_
                        have hs0 := hs; clear hs; intro v w hb hR hs; clear hs
                        obtain ⟨x10, rfl, hx10, hf10⟩ := hR
                        obtain ⟨F10, hs⟩ := hf10.sat hs0 hb; clear hs0 hf10
                        have hle10 := Sl.Ok.le (hs.okow (x := x10) (F := F10) (by repeat (first | exact List.mem_cons_self | apply List.mem_cons_of_mem)))
                        refine WA.callp2 (i := 3) hs (fun _ hs => hs.only (by repeat (first | exact Sel.nil | (apply Sel.cons; (repeat (first | exact Ext.here | apply Ext.there)))))) (by kernel_rfl) (by rfl) (by rfl) (Yc.func (by rfl) fn12) (c_laws_toAddr _ _) ?_
                        clear hs; intro w hs
                        refine WA.callp2 (i := 5) hs (fun _ hs => hs.only (by repeat (first | exact Sel.nil | (apply Sel.cons; (repeat (first | exact Ext.here | apply Ext.there)))))) (by kernel_rfl) (by rfl) (by rfl) (Yc.func (by rfl) fn13) (c_laws_toResponse _ _) ?_
                        clear hs; intro w hs
                        refine WA.call2 (i := 6) hs (fun _ hs => hs.only (by repeat (first | exact Sel.nil | (apply Sel.cons; (repeat (first | exact Ext.here | apply Ext.there)))))) (by kernel_rfl) (by rfl) (by rfl) (Yc.func (by rfl) fn14) (c_impl_PutFile _ _ _ _ (hs.okow (x := x10) (F := F10) (by repeat (first | exact List.mem_cons_self | apply List.mem_cons_of_mem))) (Ph.old h_aA hs) (Ph.old h_aX hs) (by first | (rw [hx1, lsz_map]; omega) | (rw [hx2, lsz_map]; omega) | (rw [hx3, lsz_map]; omega) | (rw [hx4, lsz_map]; omega) | (rw [hx5, lsz_map]; omega) | (rw [hx6, lsz_map]; omega) | (rw [hx7, lsz_map]; omega) | (rw [hx8, lsz_map]; omega) | (rw [hx9, lsz_map]; omega) | (rw [hx10, lsz_map]; omega) | (rw [hx11, lsz_map]; omega) | (rw [hx12, lsz_map]; omega) | (rw [hx13, lsz_map]; omega) | (rw [hx14, lsz_map]; omega) | (rw [hx15, lsz_map]; omega) | (rw [hx16, lsz_map]; omega) | (rw [hx17, lsz_map]; omega) | (rw [hx18, lsz_map]; omega) | (rw [hx19, lsz_map]; omega) | (rw [hx20, lsz_map]; omega) | (rw [hx21, lsz_map]; omega) | (rw [hx22, lsz_map]; omega) | (rw [hx23, lsz_map]; omega) | (rw [hx24, lsz_map]; omega) | (rw [hx25, lsz_map]; omega) | (rw [hx26, lsz_map]; omega) | (rw [hx27, lsz_map]; omega) | (rw [hx28, lsz_map]; omega) | (rw [hx29, lsz_map]; omega) | (rw [hx30, lsz_map]; omega) | (rw [hx31, lsz_map]; omega) | (rw [hx32, lsz_map]; omega) | (rw [hx33, lsz_map]; omega) | (rw [hx34, lsz_map]; omega) | (rw [hx35, lsz_map]; omega) | (rw [hx36, lsz_map]; omega) | (rw [hx37, lsz_map]; omega) | (rw [hx38, lsz_map]; omega) | (rw [hx39, lsz_map]; omega) | (rw [hx40, lsz_map]; omega) | (rw [hx41, lsz_map]; omega) | (rw [hx42, lsz_map]; omega) | (rw [hx43, lsz_map]; omega) | (rw [hx44, lsz_map]; omega) | (rw [hx45, lsz_map]; omega) | (rw [hx46, lsz_map]; omega) | (rw [hx47, lsz_map]; omega) | (rw [hx48, lsz_map]; omega) | (rw [hx49, lsz_map]; omega) | (rw [hx50, lsz_map]; omega) | (rw [hx51, lsz_map]; omega) | (rw [hx52, lsz_map]; omega) | (rw [hx53, lsz_map]; omega) | (rw [hx54, lsz_map]; omega) | (rw [hx55, lsz_map]; omega) | (rw [hx56, lsz_map]; omega) | (rw [hx57, lsz_map]; omega) | (rw [hx58, lsz_map]; omega) | (rw [hx59, lsz_map]; omega)) (by simp only [TResponse.size] at *; omega) (by first | assumption | exact Sat.cellm hs (by assumption))) ?_
                        have hs0 := hs; clear hs; intro v w hb hR hs; clear hs
                        obtain ⟨x11, rfl, hx11, hf11⟩ := hR
                        obtain ⟨F11, hs⟩ := hf11.sat hs0 hb; clear hs0 hf11
                        refine WA.p (i := 7) (by rfl) (by kernel_rfl) (by kernel_rfl) (by kernel_rfl) (by rfl) (hs.only (by repeat (first | exact Sel.nil | (apply Sel.cons; (repeat (first | exact Ext.here | apply Ext.there)))))) (fun w hs => Yl.move (by rfl)) ?_
                        refine WA.p (i := 8) (by rfl) (by kernel_rfl) (by kernel_rfl) (by kernel_rfl) (by rfl) (hs.only (by repeat (first | exact Sel.nil | (apply Sel.cons; (repeat (first | exact Ext.here | apply Ext.there)))))) (fun w hs => Yl.extract (by rfl) (by rfl)) ?_
                        refine WA.p (i := 9) (by rfl) (by kernel_rfl) (by kernel_rfl) (by kernel_rfl) (by rfl) (hs.only (by repeat (first | exact Sel.nil | (apply Sel.cons; (repeat (first | exact Ext.here | apply Ext.there)))))) (fun w hs => Yl.extract (by rfl) (by rfl)) ?_
                        refine WA.p (i := 10) (by rfl) (by kernel_rfl) (by kernel_rfl) (by kernel_rfl) (by rfl) (hs.only (by repeat (first | exact Sel.nil | (apply Sel.cons; (repeat (first | exact Ext.here | apply Ext.there)))))) (fun w hs => Yl.assign (by rfl)) ?_
                        refine WA.p (i := 11) (by rfl) (by kernel_rfl) (by kernel_rfl) (by kernel_rfl) (by rfl) (hs.only (by repeat (first | exact Sel.nil | (apply Sel.cons; (repeat (first | exact Ext.here | apply Ext.there)))))) (fun w hs => Yl.assign (by rfl)) ?_
                        refine WA.donen (by kernel_rfl) ?_
                        refine WC.seq' ?_
                        refine WC.seq ?_
                        refine WL.p (by rfl) (Yl.move (by rfl)) ?_
                        refine WL.p (by rfl) (Yl.move (by rfl)) ?_
                        refine WL.callp hs (by rfl) (Yc.func (by rfl) fn15) (c_laws_eqServerS _ _ _ (hs.okow (x := x11) (F := F11) (by repeat (first | exact List.mem_cons_self | apply List.mem_cons_of_mem))) (hs.okow (x := x4) (F := F4) (by repeat (first | exact List.mem_cons_self | apply List.mem_cons_of_mem)))) ?_
                        clear hs; intro w hs
                        refine WL.p (by rfl) (Yl.not (by rfl)) ?_
                        refine WL.p (by rfl) (Yl.move (by rfl)) ?_
                        refine WL.split (d := 109) (by rfl) (fun h12 => ?_) (fun h12 => ?_)
                        ·
                          replace h12 := not_eq_true h12
                          replace h12 := of_decide_eq_false h12
                          refine WL.skip (d := 109) (by rfl) (by rfl) (by rfl) (by rfl) ?_
                          refine WL.skip (d := 109) (by rfl) (by rfl) (by rfl) (by rfl) ?_
                          refine WL.skip (d := 109) (by rfl) (by rfl) (by rfl) (by rfl) ?_
                          refine WL.p (by rfl) (Yl.pickT (by rfl) (by rfl)) ?_
                          refine WL.next ?_
                          refine WC.condT (by rfl) ?_
                          refine WC.seq ?_
                          refine WL.p (by rfl) (Yl.assign (by rfl)) ?_
                          refine WL.next ?_
                          refine WC.ret ?_
                          refine At.thenret ?_
                          refine fin1' rfl (by rfl) ?_
                          refine RetP.mk hs ?_
                          try simp only [hx3, hx4, hx5, hx6, hx7, hq8, hq9, hx10, hx11] at h1
                          try simp only [hx3, hx4, hx5, hx6, hx7, hq8, hq9, hx10, hx11] at h2
                          try simp only [hx3, hx4, hx5, hx6, hx7, hq8, hq9, hx10, hx11] at h3
                          try simp only [hx3, hx4, hx5, hx6, hx7, hq8, hq9, hx10, hx11] at h4
                          try simp only [hx3, hx4, hx5, hx6, hx7, hq8, hq9, hx10, hx11] at h5
                          try simp only [hx3, hx4, hx5, hx6, hx7, hq8, hq9, hx10, hx11] at h6
                          try simp only [hx3, hx4, hx5, hx6, hx7, hq8, hq9, hx10, hx11] at h7
                          try simp only [hx3, hx4, hx5, hx6, hx7, hq8, hq9, hx10, hx11] at h8
                          try simp only [hx3, hx4, hx5, hx6, hx7, hq8, hq9, hx10, hx11] at h9
                          try simp only [hx3, hx4, hx5, hx6, hx7, hq8, hq9, hx10, hx11] at h10
                          try simp only [hx3, hx4, hx5, hx6, hx7, hq8, hq9, hx10, hx11] at h11
                          try simp only [hx3, hx4, hx5, hx6, hx7, hq8, hq9, hx10, hx11] at h12
                          all_goals (first | (simp only [hx3, hx4, hx5, hx6, hx7, hq8, hq9, hx10, hx11]; done) | (exfalso; omega) | simp_all)
                        ·
                          replace h12 := not_eq_false h12
                          replace h12 := of_decide_eq_true h12
                          refine WL.run (d := 109) (by rfl) (by rfl) ?_
                          refine WL.p (by rfl) (Yl.move (by rfl)) ?_
                          refine WL.run (d := 109) (by rfl) (by rfl) ?_
                          refine WL.p (by rfl) (Yl.move (by rfl)) ?_
                          refine WL.run (d := 109) (by rfl) (by rfl) ?_
                          refine WL.p (by rfl) (Yl.neb bool4 (by rfl) (by rfl)) ?_
                          refine WL.p (by rfl) (Yl.pickF (by rfl) (by rfl)) ?_
                          refine WL.next ?_
                          refine WC.condS (by rfl) (fun h13 => ?_) (fun h13 => ?_)
                          ·
                            replace h13 := not_eq_true h13
                            replace h13 := beq_false h13
                            refine WC.seq ?_
                            refine WL.p (by rfl) (Yl.assign (by rfl)) ?_
                            refine WL.next ?_
                            refine WC.ret ?_
                            refine At.thenret ?_
                            refine fin1' rfl (by rfl) ?_
                            refine RetP.mk hs ?_
                            try simp only [hx3, hx4, hx5, hx6, hx7, hq8, hq9, hx10, hx11] at h1
                            try simp only [hx3, hx4, hx5, hx6, hx7, hq8, hq9, hx10, hx11] at h2
                            try simp only [hx3, hx4, hx5, hx6, hx7, hq8, hq9, hx10, hx11] at h3
                            try simp only [hx3, hx4, hx5, hx6, hx7, hq8, hq9, hx10, hx11] at h4
                            try simp only [hx3, hx4, hx5, hx6, hx7, hq8, hq9, hx10, hx11] at h5
                            try simp only [hx3, hx4, hx5, hx6, hx7, hq8, hq9, hx10, hx11] at h6
                            try simp only [hx3, hx4, hx5, hx6, hx7, hq8, hq9, hx10, hx11] at h7
                            try simp only [hx3, hx4, hx5, hx6, hx7, hq8, hq9, hx10, hx11] at h8
                            try simp only [hx3, hx4, hx5, hx6, hx7, hq8, hq9, hx10, hx11] at h9
                            try simp only [hx3, hx4, hx5, hx6, hx7, hq8, hq9, hx10, hx11] at h10
                            try simp only [hx3, hx4, hx5, hx6, hx7, hq8, hq9, hx10, hx11] at h11
                            try simp only [hx3, hx4, hx5, hx6, hx7, hq8, hq9, hx10, hx11] at h12
                            try simp only [hx3, hx4, hx5, hx6, hx7, hq8, hq9, hx10, hx11] at h13
                            all_goals (first | (simp only [hx3, hx4, hx5, hx6, hx7, hq8, hq9, hx10, hx11]; done) | (exfalso; omega) | simp_all)
                          ·
                            replace h13 := not_eq_false h13
                            replace h13 := beq_true h13
                            refine WC.skipn ?_
                            refine WC.seq ?_
                            refine WL.p (by rfl) (Yl.assign (by rfl)) ?_
                            refine WL.next ?_
                            refine WC.seq ?_
                            refine WL.p (by rfl) (Yl.move (by rfl)) ?_
                            refine WL.p (by rfl) (Yl.move (by rfl)) ?_
                            refine WL.callp hs (by rfl) (Yc.func (by rfl) fn17) (calls_conv (congrArg (fun z => ([z, _] : List Value).toArray) (show a9.v = x6.v from Sl.enc_v he9)) (c_laws_heldServerS a9 _ (x6.l.map PServer.lg) _ (hs.okow (x := a9) (F := F9) (by repeat (first | exact List.mem_cons_self | apply List.mem_cons_of_mem))) (by first | assumption | omega | (simp only [lsz] at *; omega) | (simp only [lsz, strsz, TPolicy.size, TCache.size, TAddr.size, TRequest.size, TEntry.size, TResponse.size, TLine.size] at *; omega) | (simp only [lsz_map, TPage.size, TBuilder.size, TNode.size, TToken.size, TTokenizer.size, TServer.size, TFile.size, TNet.size, TCache.size, TSheet.size, strsz] at *; omega) | (simp only [lsz_map, TPage.size, TBuilder.size, TNode.size, TToken.size, TTokenizer.size, TServer.size, TFile.size, TNet.size, TCache.size, TSheet.size, strsz, lsz] at *; omega)) (by first | omega | (try simp only [hx3, hx4, hx5, hx6, hx7, hx10, hx11]); (have := (lsz_map : lsz TServer.size (aL.l.map PServer.lg) = lsz (fun x : PServer => x.lg.size) aL.l); have := costServers_le (aL.l.map PServer.lg); have := costPut_le (aL.l.map PServer.lg) aA aX; omega)) (by exact hq9))) ?_
                            clear hs; intro w hs
                            refine WL.p (by rfl) (Yl.assign (by rfl)) ?_
                            refine WL.next ?_
                            refine WC.seq' ?_
                            refine WC.seq ?_
                            refine WL.p (by rfl) (Yl.move (by rfl)) ?_
                            refine WL.p (by rfl) (Yl.lss (by rfl) (by rfl)) ?_
                            refine WL.next ?_
                            refine WC.condS (by rfl) (fun h14 => ?_) (fun h14 => ?_)
                            ·
                              replace h14 := of_decide_eq_true h14
                              refine WC.seq ?_
                              refine WL.p (by rfl) (Yl.assign (by rfl)) ?_
                              refine WL.next ?_
                              refine WC.ret ?_
                              refine At.thenret ?_
                              refine fin1' rfl (by rfl) ?_
                              refine RetP.mk hs ?_
                              try simp only [hx3, hx4, hx5, hx6, hx7, hq8, hq9, hx10, hx11] at h1
                              try simp only [hx3, hx4, hx5, hx6, hx7, hq8, hq9, hx10, hx11] at h2
                              try simp only [hx3, hx4, hx5, hx6, hx7, hq8, hq9, hx10, hx11] at h3
                              try simp only [hx3, hx4, hx5, hx6, hx7, hq8, hq9, hx10, hx11] at h4
                              try simp only [hx3, hx4, hx5, hx6, hx7, hq8, hq9, hx10, hx11] at h5
                              try simp only [hx3, hx4, hx5, hx6, hx7, hq8, hq9, hx10, hx11] at h6
                              try simp only [hx3, hx4, hx5, hx6, hx7, hq8, hq9, hx10, hx11] at h7
                              try simp only [hx3, hx4, hx5, hx6, hx7, hq8, hq9, hx10, hx11] at h8
                              try simp only [hx3, hx4, hx5, hx6, hx7, hq8, hq9, hx10, hx11] at h9
                              try simp only [hx3, hx4, hx5, hx6, hx7, hq8, hq9, hx10, hx11] at h10
                              try simp only [hx3, hx4, hx5, hx6, hx7, hq8, hq9, hx10, hx11] at h11
                              try simp only [hx3, hx4, hx5, hx6, hx7, hq8, hq9, hx10, hx11] at h12
                              try simp only [hx3, hx4, hx5, hx6, hx7, hq8, hq9, hx10, hx11] at h13
                              try simp only [hx3, hx4, hx5, hx6, hx7, hq8, hq9, hx10, hx11] at h14
                              all_goals (first | (simp only [hx3, hx4, hx5, hx6, hx7, hq8, hq9, hx10, hx11]; done) | (exfalso; omega) | simp_all)
                            ·
                              replace h14 := of_decide_eq_false h14
                              refine WC.skipn ?_
                              refine WC.seq' ?_
                              refine WC.seq ?_
                              refine WL.p (by rfl) (Yl.move (by rfl)) ?_
                              refine WL.p (by rfl) (Yl.move (by rfl)) ?_
                              refine WL.p (by rfl) (Yl.nei (by rfl) (by rfl)) ?_
                              refine WL.next ?_
                              refine WC.condS (by rfl) (fun h15 => ?_) (fun h15 => ?_)
                              ·
                                replace h15 := not_eq_true h15
                                replace h15 := of_decide_eq_false h15
                                refine WC.seq ?_
                                refine WL.p (by rfl) (Yl.assign (by rfl)) ?_
                                refine WL.next ?_
                                refine WC.ret ?_
                                refine At.thenret ?_
                                refine fin1' rfl (by rfl) ?_
                                refine RetP.mk hs ?_
                                try simp only [hx3, hx4, hx5, hx6, hx7, hq8, hq9, hx10, hx11] at h1
                                try simp only [hx3, hx4, hx5, hx6, hx7, hq8, hq9, hx10, hx11] at h2
                                try simp only [hx3, hx4, hx5, hx6, hx7, hq8, hq9, hx10, hx11] at h3
                                try simp only [hx3, hx4, hx5, hx6, hx7, hq8, hq9, hx10, hx11] at h4
                                try simp only [hx3, hx4, hx5, hx6, hx7, hq8, hq9, hx10, hx11] at h5
                                try simp only [hx3, hx4, hx5, hx6, hx7, hq8, hq9, hx10, hx11] at h6
                                try simp only [hx3, hx4, hx5, hx6, hx7, hq8, hq9, hx10, hx11] at h7
                                try simp only [hx3, hx4, hx5, hx6, hx7, hq8, hq9, hx10, hx11] at h8
                                try simp only [hx3, hx4, hx5, hx6, hx7, hq8, hq9, hx10, hx11] at h9
                                try simp only [hx3, hx4, hx5, hx6, hx7, hq8, hq9, hx10, hx11] at h10
                                try simp only [hx3, hx4, hx5, hx6, hx7, hq8, hq9, hx10, hx11] at h11
                                try simp only [hx3, hx4, hx5, hx6, hx7, hq8, hq9, hx10, hx11] at h12
                                try simp only [hx3, hx4, hx5, hx6, hx7, hq8, hq9, hx10, hx11] at h13
                                try simp only [hx3, hx4, hx5, hx6, hx7, hq8, hq9, hx10, hx11] at h14
                                try simp only [hx3, hx4, hx5, hx6, hx7, hq8, hq9, hx10, hx11] at h15
                                all_goals (first | (simp only [hx3, hx4, hx5, hx6, hx7, hq8, hq9, hx10, hx11]; done) | (exfalso; omega) | simp_all)
                              ·
                                replace h15 := not_eq_false h15
                                replace h15 := of_decide_eq_true h15
                                refine WC.skipn ?_
                                refine WC.seq ?_
                                refine WL.p (by rfl) (Yl.assign (by rfl)) ?_
                                refine WL.next ?_
                                refine WC.ret ?_
                                refine fin1' rfl (by rfl) ?_
                                refine RetP.mk hs ?_
                                try simp only [hx3, hx4, hx5, hx6, hx7, hq8, hq9, hx10, hx11] at h1
                                try simp only [hx3, hx4, hx5, hx6, hx7, hq8, hq9, hx10, hx11] at h2
                                try simp only [hx3, hx4, hx5, hx6, hx7, hq8, hq9, hx10, hx11] at h3
                                try simp only [hx3, hx4, hx5, hx6, hx7, hq8, hq9, hx10, hx11] at h4
                                try simp only [hx3, hx4, hx5, hx6, hx7, hq8, hq9, hx10, hx11] at h5
                                try simp only [hx3, hx4, hx5, hx6, hx7, hq8, hq9, hx10, hx11] at h6
                                try simp only [hx3, hx4, hx5, hx6, hx7, hq8, hq9, hx10, hx11] at h7
                                try simp only [hx3, hx4, hx5, hx6, hx7, hq8, hq9, hx10, hx11] at h8
                                try simp only [hx3, hx4, hx5, hx6, hx7, hq8, hq9, hx10, hx11] at h9
                                try simp only [hx3, hx4, hx5, hx6, hx7, hq8, hq9, hx10, hx11] at h10
                                try simp only [hx3, hx4, hx5, hx6, hx7, hq8, hq9, hx10, hx11] at h11
                                try simp only [hx3, hx4, hx5, hx6, hx7, hq8, hq9, hx10, hx11] at h12
                                try simp only [hx3, hx4, hx5, hx6, hx7, hq8, hq9, hx10, hx11] at h13
                                try simp only [hx3, hx4, hx5, hx6, hx7, hq8, hq9, hx10, hx11] at h14
                                try simp only [hx3, hx4, hx5, hx6, hx7, hq8, hq9, hx10, hx11] at h15
                                all_goals (first | (simp only [hx3, hx4, hx5, hx6, hx7, hq8, hq9, hx10, hx11]; done) | (exfalso; omega) | simp_all)

end Go.Sw
