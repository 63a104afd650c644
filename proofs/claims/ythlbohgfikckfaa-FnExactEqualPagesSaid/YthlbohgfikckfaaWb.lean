/- Walks: what each function of the program returns, for every input. Printed by gen.py. -/
import Derived.Test.YthlbohgfikckfaaWb0
set_option linter.all false
namespace Go.Sw
open Go Go.RowKit Go.Proofs

theorem c_slices_Equal___impl_Slot_impl_Slot_ (s1 : (Sl TSlot)) (s2 : (Sl TSlot)) (w : World) (h_s1 : Ph.ok w s1) (h_s2 : Ph.ok w s2)  : Calls Try.prog 37 [Sl.v s1, Sl.v s2].toArray w (RetP w (Bo (decide (s1.l = s2.l)))) := by
  have hw := h_s1.lt
  refine enterN 26 Try.func37 rfl rfl rfl ?_
  have hs := Sat.start w
  refine WC.seq ?_
  refine WL.p (by rfl) (Yl.assign (by rfl)) ?_
  refine WL.next ?_
  refine WC.seq' ?_
  refine WC.seq ?_
  refine WL.p (by rfl) (Yl.move (by rfl)) ?_
  refine WL.p (by rfl) (Yl.len_sl slu48 (by rfl)) ?_
  refine WL.p (by rfl) (Yl.move (by rfl)) ?_
  refine WL.p (by rfl) (Yl.len_sl slu48 (by rfl)) ?_
  refine WL.p (by rfl) (Yl.nei (by rfl) (by rfl)) ?_
  refine WL.next ?_
  refine WC.condS (by rfl) (fun h1 => ?_) (fun h1 => ?_)
  ·
    replace h1 := not_eq_true h1
    replace h1 := of_decide_eq_false h1
    refine WC.seq ?_
    refine WL.p (by rfl) (Yl.assign (by rfl)) ?_
    refine WL.next ?_
    refine WC.ret ?_
    refine At.thenret ?_
    refine fin1' rfl (by rfl) ?_
    refine RetP.mk hs ?_
    have hne : ¬ s1.l = s2.l := by
      intro h
      have h2 := congrArg List.length h
      try simp at h2
      omega
    simp only [hne, decide_false]
  ·
    replace h1 := not_eq_false h1
    replace h1 := of_decide_eq_true h1
    refine WC.skipn ?_
    refine WC.seq' ?_
    refine WC.seq ?_
    refine WL.p (by rfl) (Yl.move (by rfl)) ?_
    refine WL.p (by rfl) (Yl.len_sl slu48 (by rfl)) ?_
    refine WL.p (by rfl) (Yl.move (by rfl)) ?_
    refine WL.next ?_
    refine WC.block ?_
    refine WC.loopC (ι := Nat) (fun k => s1.l.length - k) (fun k => [(13, I (k : Int))]) (fun _ => []) (fun k => decide (s1.l = s2.l) = decide (s1.l.drop k = s2.l.drop k)) [(0, _), (1, _), (6, _), (7, _), (8, _), (9, _), (10, _), (11, _), (12, _)] 0 (hs) ⟨by rfl, by rfl, by rfl, by rfl, by rfl, by rfl, by rfl, by rfl, by rfl, trivial⟩ ⟨by rfl, trivial⟩ ?_ ?_
    ·
      simp
    clear hs; rintro k w hJ hs
    simp only [List.nil_append] at hs
    refine WC.seq ?_
    refine WL.p (by rfl) (Yl.lss (by rfl) (by rfl)) ?_
    refine WL.next ?_
    refine WC.seq' ?_
    refine WC.condS (by rfl) (fun h2 => ?_) (fun h2 => ?_)
    ·
      replace h2 := of_decide_eq_true h2
      obtain ⟨d, hd⟩ := exists_get (l := s1.l) (k := k) (by omega)
      obtain ⟨d2, hd2⟩ := exists_get (l := s2.l) (k := k) (by omega)
      rw [drop_cons hd, drop_cons hd2] at hJ
      refine WC.skipn ?_
      refine WC.seq' ?_
      refine WC.block ?_
      refine WC.seq ?_
      refine WL.p (by rfl) (Yl.move (by rfl)) ?_
      refine WL.p (by rfl) (Yl.assign (by rfl)) ?_
      refine WL.next ?_
      refine WC.quietn mixed (by kernel_rfl) hs ?_
      refine WQ.p (by rfl) (fun w hs => Yl.move (by rfl)) ?_
      refine WQ.p (by rfl) (fun w hs => Yl.move (by rfl)) ?_
      refine WQ.p (by rfl) (fun w hs => Yl.indexAddr slt48 (by rfl) (by rfl) (Ph.old h_s1 hs) (by rfl) (hd)) ?_
      refine WQ.p (by rfl) (fun w hs => Yl.loadA agg85 (by rfl) (Sl.Ok.at_ (Ph.old h_s1 hs) (by assumption)).2 (by rfl)) ?_
      refine WQ.p (by rfl) (fun w hs => Yl.move (by rfl)) ?_
      refine WQ.p (by rfl) (fun w hs => Yl.move (by rfl)) ?_
      refine WQ.p (by rfl) (fun w hs => Yl.indexAddr slt48 (by rfl) (by rfl) (Ph.old h_s2 hs) (by rfl) (hd2)) ?_
      refine WQ.p (by rfl) (fun w hs => Yl.loadA agg85 (by rfl) (Sl.Ok.at_ (Ph.old h_s2 hs) (by assumption)).2 (by rfl)) ?_
      refine WQ.p (by rfl) (fun w hs => Yl.net eqt85 (by rfl) (by rfl)) ?_
      refine WQ.next ?_
      clear hs; intro w hs
      refine WC.condS (by rfl) (fun h3 => ?_) (fun h3 => ?_)
      ·
        replace h3 := not_eq_true h3
        replace h3 := of_decide_eq_false h3
        refine WC.seq ?_
        refine WL.p (by rfl) (Yl.assign (by rfl)) ?_
        refine WL.next ?_
        refine WC.ret ?_
        refine At.blockret ?_
        refine At.thenret ?_
        refine At.thenret ?_
        refine At.blockret ?_
        refine At.thenret ?_
        refine fin1' rfl (by rfl) ?_
        refine RetP.mk hs ?_
        rw [hJ]; simp_all
      ·
        replace h3 := not_eq_false h3
        replace h3 := of_decide_eq_true h3
        refine WC.skip ?_
        refine At.blocknormal ?_
        refine At.then_ ?_
        refine WC.region ?_
        refine WL.p (by rfl) (Yl.add (by rfl) (by rfl) (by omega)) ?_
        refine WL.p (by rfl) (Yl.move (by rfl)) ?_
        refine WL.nil ?_
        refine At.roundC (k + 1) (hs.only (by repeat (first | exact Sel.nil | (apply Sel.cons; (repeat (first | exact Ext.here | apply Ext.there)))))) ⟨by rfl, by rfl, by rfl, by rfl, by rfl, by rfl, by rfl, by rfl, by rfl, trivial⟩ ⟨by rfl, trivial⟩ ?_ ?_
        ·
          omega
        ·
          rw [hJ]; simp_all
    ·
      replace h2 := of_decide_eq_false h2
      rw [drop_out (l := s1.l) (by omega), drop_out (l := s2.l) (by omega)] at hJ
      refine WC.exit ?_
      refine At.thenexit ?_
      refine At.thenexit ?_
      refine At.blockexit ?_
      refine At.then_ ?_
      refine WC.seq ?_
      refine WL.p (by rfl) (Yl.assign (by rfl)) ?_
      refine WL.next ?_
      refine WC.ret ?_
      refine fin1' rfl (by rfl) ?_
      refine RetP.mk hs ?_
      rw [hJ]; simp_all

theorem c_slices_Equal___impl_Module_impl_Module_ (s1 : (Sl TModule)) (s2 : (Sl TModule)) (w : World) (h_s1 : Ph.ok w s1) (h_s2 : Ph.ok w s2)  : Calls Try.prog 38 [Sl.v s1, Sl.v s2].toArray w (RetP w (Bo (decide (s1.l = s2.l)))) := by
  have hw := h_s1.lt
  refine enterN 26 Try.func38 rfl rfl rfl ?_
  have hs := Sat.start w
  refine WC.seq ?_
  refine WL.p (by rfl) (Yl.assign (by rfl)) ?_
  refine WL.next ?_
  refine WC.seq' ?_
  refine WC.seq ?_
  refine WL.p (by rfl) (Yl.move (by rfl)) ?_
  refine WL.p (by rfl) (Yl.len_sl slu49 (by rfl)) ?_
  refine WL.p (by rfl) (Yl.move (by rfl)) ?_
  refine WL.p (by rfl) (Yl.len_sl slu49 (by rfl)) ?_
  refine WL.p (by rfl) (Yl.nei (by rfl) (by rfl)) ?_
  refine WL.next ?_
  refine WC.condS (by rfl) (fun h1 => ?_) (fun h1 => ?_)
  ·
    replace h1 := not_eq_true h1
    replace h1 := of_decide_eq_false h1
    refine WC.seq ?_
    refine WL.p (by rfl) (Yl.assign (by rfl)) ?_
    refine WL.next ?_
    refine WC.ret ?_
    refine At.thenret ?_
    refine fin1' rfl (by rfl) ?_
    refine RetP.mk hs ?_
    have hne : ¬ s1.l = s2.l := by
      intro h
      have h2 := congrArg List.length h
      try simp at h2
      omega
    simp only [hne, decide_false]
  ·
    replace h1 := not_eq_false h1
    replace h1 := of_decide_eq_true h1
    refine WC.skipn ?_
    refine WC.seq' ?_
    refine WC.seq ?_
    refine WL.p (by rfl) (Yl.move (by rfl)) ?_
    refine WL.p (by rfl) (Yl.len_sl slu49 (by rfl)) ?_
    refine WL.p (by rfl) (Yl.move (by rfl)) ?_
    refine WL.next ?_
    refine WC.block ?_
    refine WC.loopC (ι := Nat) (fun k => s1.l.length - k) (fun k => [(13, I (k : Int))]) (fun _ => []) (fun k => decide (s1.l = s2.l) = decide (s1.l.drop k = s2.l.drop k)) [(0, _), (1, _), (6, _), (7, _), (8, _), (9, _), (10, _), (11, _), (12, _)] 0 (hs) ⟨by rfl, by rfl, by rfl, by rfl, by rfl, by rfl, by rfl, by rfl, by rfl, trivial⟩ ⟨by rfl, trivial⟩ ?_ ?_
    ·
      simp
    clear hs; rintro k w hJ hs
    simp only [List.nil_append] at hs
    refine WC.seq ?_
    refine WL.p (by rfl) (Yl.lss (by rfl) (by rfl)) ?_
    refine WL.next ?_
    refine WC.seq' ?_
    refine WC.condS (by rfl) (fun h2 => ?_) (fun h2 => ?_)
    ·
      replace h2 := of_decide_eq_true h2
      obtain ⟨d, hd⟩ := exists_get (l := s1.l) (k := k) (by omega)
      obtain ⟨d2, hd2⟩ := exists_get (l := s2.l) (k := k) (by omega)
      rw [drop_cons hd, drop_cons hd2] at hJ
      refine WC.skipn ?_
      refine WC.seq' ?_
      refine WC.block ?_
      refine WC.seq ?_
      refine WL.p (by rfl) (Yl.move (by rfl)) ?_
      refine WL.p (by rfl) (Yl.assign (by rfl)) ?_
      refine WL.next ?_
      refine WC.quietn mixed (by kernel_rfl) hs ?_
      refine WQ.p (by rfl) (fun w hs => Yl.move (by rfl)) ?_
      refine WQ.p (by rfl) (fun w hs => Yl.move (by rfl)) ?_
      refine WQ.p (by rfl) (fun w hs => Yl.indexAddr slt49 (by rfl) (by rfl) (Ph.old h_s1 hs) (by rfl) (hd)) ?_
      refine WQ.p (by rfl) (fun w hs => Yl.loadA agg88 (by rfl) (Sl.Ok.at_ (Ph.old h_s1 hs) (by assumption)).2 (by rfl)) ?_
      refine WQ.p (by rfl) (fun w hs => Yl.move (by rfl)) ?_
      refine WQ.p (by rfl) (fun w hs => Yl.move (by rfl)) ?_
      refine WQ.p (by rfl) (fun w hs => Yl.indexAddr slt49 (by rfl) (by rfl) (Ph.old h_s2 hs) (by rfl) (hd2)) ?_
      refine WQ.p (by rfl) (fun w hs => Yl.loadA agg88 (by rfl) (Sl.Ok.at_ (Ph.old h_s2 hs) (by assumption)).2 (by rfl)) ?_
      refine WQ.p (by rfl) (fun w hs => Yl.net eqt88 (by rfl) (by rfl)) ?_
      refine WQ.next ?_
      clear hs; intro w hs
      refine WC.condS (by rfl) (fun h3 => ?_) (fun h3 => ?_)
      ·
        replace h3 := not_eq_true h3
        replace h3 := of_decide_eq_false h3
        refine WC.seq ?_
        refine WL.p (by rfl) (Yl.assign (by rfl)) ?_
        refine WL.next ?_
        refine WC.ret ?_
        refine At.blockret ?_
        refine At.thenret ?_
        refine At.thenret ?_
        refine At.blockret ?_
        refine At.thenret ?_
        refine fin1' rfl (by rfl) ?_
        refine RetP.mk hs ?_
        rw [hJ]; simp_all
      ·
        replace h3 := not_eq_false h3
        replace h3 := of_decide_eq_true h3
        refine WC.skip ?_
        refine At.blocknormal ?_
        refine At.then_ ?_
        refine WC.region ?_
        refine WL.p (by rfl) (Yl.add (by rfl) (by rfl) (by omega)) ?_
        refine WL.p (by rfl) (Yl.move (by rfl)) ?_
        refine WL.nil ?_
        refine At.roundC (k + 1) (hs.only (by repeat (first | exact Sel.nil | (apply Sel.cons; (repeat (first | exact Ext.here | apply Ext.there)))))) ⟨by rfl, by rfl, by rfl, by rfl, by rfl, by rfl, by rfl, by rfl, by rfl, trivial⟩ ⟨by rfl, trivial⟩ ?_ ?_
        ·
          omega
        ·
          rw [hJ]; simp_all
    ·
      replace h2 := of_decide_eq_false h2
      rw [drop_out (l := s1.l) (by omega), drop_out (l := s2.l) (by omega)] at hJ
      refine WC.exit ?_
      refine At.thenexit ?_
      refine At.thenexit ?_
      refine At.blockexit ?_
      refine At.then_ ?_
      refine WC.seq ?_
      refine WL.p (by rfl) (Yl.assign (by rfl)) ?_
      refine WL.next ?_
      refine WC.ret ?_
      refine fin1' rfl (by rfl) ?_
      refine RetP.mk hs ?_
      rw [hJ]; simp_all

theorem c_slices_Equal___impl_Addr_impl_Addr_ (s1 : (Sl TAddr)) (s2 : (Sl TAddr)) (w : World) (h_s1 : Ph.ok w s1) (h_s2 : Ph.ok w s2)  : Calls Try.prog 39 [Sl.v s1, Sl.v s2].toArray w (RetP w (Bo (decide (s1.l = s2.l)))) := by
  have hw := h_s1.lt
  refine enterN 26 Try.func39 rfl rfl rfl ?_
  have hs := Sat.start w
  refine WC.seq ?_
  refine WL.p (by rfl) (Yl.assign (by rfl)) ?_
  refine WL.next ?_
  refine WC.seq' ?_
  refine WC.seq ?_
  refine WL.p (by rfl) (Yl.move (by rfl)) ?_
  refine WL.p (by rfl) (Yl.len_sl slu50 (by rfl)) ?_
  refine WL.p (by rfl) (Yl.move (by rfl)) ?_
  refine WL.p (by rfl) (Yl.len_sl slu50 (by rfl)) ?_
  refine WL.p (by rfl) (Yl.nei (by rfl) (by rfl)) ?_
  refine WL.next ?_
  refine WC.condS (by rfl) (fun h1 => ?_) (fun h1 => ?_)
  ·
    replace h1 := not_eq_true h1
    replace h1 := of_decide_eq_false h1
    refine WC.seq ?_
    refine WL.p (by rfl) (Yl.assign (by rfl)) ?_
    refine WL.next ?_
    refine WC.ret ?_
    refine At.thenret ?_
    refine fin1' rfl (by rfl) ?_
    refine RetP.mk hs ?_
    have hne : ¬ s1.l = s2.l := by
      intro h
      have h2 := congrArg List.length h
      try simp at h2
      omega
    simp only [hne, decide_false]
  ·
    replace h1 := not_eq_false h1
    replace h1 := of_decide_eq_true h1
    refine WC.skipn ?_
    refine WC.seq' ?_
    refine WC.seq ?_
    refine WL.p (by rfl) (Yl.move (by rfl)) ?_
    refine WL.p (by rfl) (Yl.len_sl slu50 (by rfl)) ?_
    refine WL.p (by rfl) (Yl.move (by rfl)) ?_
    refine WL.next ?_
    refine WC.block ?_
    refine WC.loopC (ι := Nat) (fun k => s1.l.length - k) (fun k => [(13, I (k : Int))]) (fun _ => []) (fun k => decide (s1.l = s2.l) = decide (s1.l.drop k = s2.l.drop k)) [(0, _), (1, _), (6, _), (7, _), (8, _), (9, _), (10, _), (11, _), (12, _)] 0 (hs) ⟨by rfl, by rfl, by rfl, by rfl, by rfl, by rfl, by rfl, by rfl, by rfl, trivial⟩ ⟨by rfl, trivial⟩ ?_ ?_
    ·
      simp
    clear hs; rintro k w hJ hs
    simp only [List.nil_append] at hs
    refine WC.seq ?_
    refine WL.p (by rfl) (Yl.lss (by rfl) (by rfl)) ?_
    refine WL.next ?_
    refine WC.seq' ?_
    refine WC.condS (by rfl) (fun h2 => ?_) (fun h2 => ?_)
    ·
      replace h2 := of_decide_eq_true h2
      obtain ⟨d, hd⟩ := exists_get (l := s1.l) (k := k) (by omega)
      obtain ⟨d2, hd2⟩ := exists_get (l := s2.l) (k := k) (by omega)
      rw [drop_cons hd, drop_cons hd2] at hJ
      refine WC.skipn ?_
      refine WC.seq' ?_
      refine WC.block ?_
      refine WC.seq ?_
      refine WL.p (by rfl) (Yl.move (by rfl)) ?_
      refine WL.p (by rfl) (Yl.assign (by rfl)) ?_
      refine WL.next ?_
      refine WC.quietn mixed (by kernel_rfl) hs ?_
      refine WQ.p (by rfl) (fun w hs => Yl.move (by rfl)) ?_
      refine WQ.p (by rfl) (fun w hs => Yl.move (by rfl)) ?_
      refine WQ.p (by rfl) (fun w hs => Yl.indexAddr slt50 (by rfl) (by rfl) (Ph.old h_s1 hs) (by rfl) (hd)) ?_
      refine WQ.p (by rfl) (fun w hs => Yl.loadA agg41 (by rfl) (Sl.Ok.at_ (Ph.old h_s1 hs) (by assumption)).2 (by rfl)) ?_
      refine WQ.p (by rfl) (fun w hs => Yl.move (by rfl)) ?_
      refine WQ.p (by rfl) (fun w hs => Yl.move (by rfl)) ?_
      refine WQ.p (by rfl) (fun w hs => Yl.indexAddr slt50 (by rfl) (by rfl) (Ph.old h_s2 hs) (by rfl) (hd2)) ?_
      refine WQ.p (by rfl) (fun w hs => Yl.loadA agg41 (by rfl) (Sl.Ok.at_ (Ph.old h_s2 hs) (by assumption)).2 (by rfl)) ?_
      refine WQ.p (by rfl) (fun w hs => Yl.net eqt41 (by rfl) (by rfl)) ?_
      refine WQ.next ?_
      clear hs; intro w hs
      refine WC.condS (by rfl) (fun h3 => ?_) (fun h3 => ?_)
      ·
        replace h3 := not_eq_true h3
        replace h3 := of_decide_eq_false h3
        refine WC.seq ?_
        refine WL.p (by rfl) (Yl.assign (by rfl)) ?_
        refine WL.next ?_
        refine WC.ret ?_
        refine At.blockret ?_
        refine At.thenret ?_
        refine At.thenret ?_
        refine At.blockret ?_
        refine At.thenret ?_
        refine fin1' rfl (by rfl) ?_
        refine RetP.mk hs ?_
        rw [hJ]; simp_all
      ·
        replace h3 := not_eq_false h3
        replace h3 := of_decide_eq_true h3
        refine WC.skip ?_
        refine At.blocknormal ?_
        refine At.then_ ?_
        refine WC.region ?_
        refine WL.p (by rfl) (Yl.add (by rfl) (by rfl) (by omega)) ?_
        refine WL.p (by rfl) (Yl.move (by rfl)) ?_
        refine WL.nil ?_
        refine At.roundC (k + 1) (hs.only (by repeat (first | exact Sel.nil | (apply Sel.cons; (repeat (first | exact Ext.here | apply Ext.there)))))) ⟨by rfl, by rfl, by rfl, by rfl, by rfl, by rfl, by rfl, by rfl, by rfl, trivial⟩ ⟨by rfl, trivial⟩ ?_ ?_
        ·
          omega
        ·
          rw [hJ]; simp_all
    ·
      replace h2 := of_decide_eq_false h2
      rw [drop_out (l := s1.l) (by omega), drop_out (l := s2.l) (by omega)] at hJ
      refine WC.exit ?_
      refine At.thenexit ?_
      refine At.thenexit ?_
      refine At.blockexit ?_
      refine At.then_ ?_
      refine WC.seq ?_
      refine WL.p (by rfl) (Yl.assign (by rfl)) ?_
      refine WL.next ?_
      refine WC.ret ?_
      refine fin1' rfl (by rfl) ?_
      refine RetP.mk hs ?_
      rw [hJ]; simp_all

set_option maxRecDepth 100000 in
theorem c_impl_EqualPages (a : PPage) (b : PPage) (w : World) (h_a : Ph.ok w a) (h_b : Ph.ok w b)  : Calls Try.prog 7 [.agg #[S a.addr.host, S a.addr.path, Bo a.policy.set, Sl.v a.policy.scripts, Sl.v a.policy.styles, Sl.v a.policy.images, S a.policy.nonce, S a.tok.rest, Sl.v a.queue, Bo a.ended, Sl.v a.builder.nodes, Sl.v a.builder.opn, Sl.v a.slots, Sl.v a.mods, Sl.v a.entries, I a.block, I a.inln, I a.deferred, I a.entered, Sl.v a.ran, Sl.v a.log, Bo a.loaded], .agg #[S b.addr.host, S b.addr.path, Bo b.policy.set, Sl.v b.policy.scripts, Sl.v b.policy.styles, Sl.v b.policy.images, S b.policy.nonce, S b.tok.rest, Sl.v b.queue, Bo b.ended, Sl.v b.builder.nodes, Sl.v b.builder.opn, Sl.v b.slots, Sl.v b.mods, Sl.v b.entries, I b.block, I b.inln, I b.deferred, I b.entered, Sl.v b.ran, Sl.v b.log, Bo b.loaded]].toArray w (RetP w (Bo (decide (a.lg = b.lg)))) := by
  refine enterN 115 Try.func7 rfl rfl rfl ?_
  have hs := Sat.start w
  refine WC.seq ?_
  refine WL.r (by rfl) (Yr.box hs (by rfl) (by rfl)) ?_
  clear hs; rintro _ w ⟨b1, rfl, hb, hs⟩; clear hb
  refine WL.r (by rfl) (Yr.box hs (by rfl) (by rfl)) ?_
  clear hs; rintro _ w ⟨b2, rfl, hb, hs⟩; clear hb
  refine WL.p (by rfl) (Yl.assign (by rfl)) ?_
  refine WL.next ?_
  refine WC.seq ?_
  refine WL.p (by rfl) (Yl.fieldAddr fa52_0 (by rfl)) ?_
  refine WL.p (by rfl) (Yl.loadAB agg41 (by rfl) hs (by repeat (first | exact List.mem_cons_self | apply List.mem_cons_of_mem)) (by rfl) (by rfl)) ?_
  refine WL.p (by rfl) (Yl.fieldAddr fa52_0 (by rfl)) ?_
  refine WL.p (by rfl) (Yl.loadAB agg41 (by rfl) hs (by repeat (first | exact List.mem_cons_self | apply List.mem_cons_of_mem)) (by rfl) (by rfl)) ?_
  refine WL.p (by rfl) (Yl.eqt eqt41 (by rfl) (by rfl)) ?_
  refine WL.p (by rfl) (Yl.move (by rfl)) ?_
  refine WL.split (d := 10) (by rfl) (fun h1 => ?_) (fun h1 => ?_)
  ·
    replace h1 := of_decide_eq_true h1
    refine WL.run (d := 10) (by rfl) (by rfl) ?_
    refine WL.p (by rfl) (Yl.fieldAddr fa52_1 (by rfl)) ?_
    refine WL.run (d := 10) (by rfl) (by rfl) ?_
    refine WL.p (by rfl) (Yl.loadAB agg42 (by rfl) hs (by repeat (first | exact List.mem_cons_self | apply List.mem_cons_of_mem)) (by rfl) (by rfl)) ?_
    refine WL.run (d := 10) (by rfl) (by rfl) ?_
    refine WL.p (by rfl) (Yl.fieldAddr fa52_1 (by rfl)) ?_
    refine WL.run (d := 10) (by rfl) (by rfl) ?_
    refine WL.p (by rfl) (Yl.loadAB agg42 (by rfl) hs (by repeat (first | exact List.mem_cons_self | apply List.mem_cons_of_mem)) (by rfl) (by rfl)) ?_
    refine WL.run (d := 10) (by rfl) (by rfl) ?_
    refine WL.callp hs (by rfl) (Yc.func (by rfl) fn33) (c_impl_EqualPolicies _ _ _ ⟨(Ph.old h_a.policy.set hs), (Ph.old h_a.policy.scripts hs), (Ph.old h_a.policy.styles hs), (Ph.old h_a.policy.images hs), (Ph.old h_a.policy.nonce hs)⟩ ⟨(Ph.old h_b.policy.set hs), (Ph.old h_b.policy.scripts hs), (Ph.old h_b.policy.styles hs), (Ph.old h_b.policy.images hs), (Ph.old h_b.policy.nonce hs)⟩) ?_
    clear hs; intro w hs
    refine WL.p (by rfl) (Yl.pickT (by rfl) (by rfl)) ?_
    refine WL.p (by rfl) (Yl.move (by rfl)) ?_
    refine WL.split (d := 17) (by rfl) (fun h2 => ?_) (fun h2 => ?_)
    ·
      replace h2 := of_decide_eq_true h2
      refine WL.run (d := 17) (by rfl) (by rfl) ?_
      refine WL.p (by rfl) (Yl.fieldAddr fa52_2 (by rfl)) ?_
      refine WL.run (d := 17) (by rfl) (by rfl) ?_
      refine WL.p (by rfl) (Yl.loadAB agg43 (by rfl) hs (by repeat (first | exact List.mem_cons_self | apply List.mem_cons_of_mem)) (by rfl) (by rfl)) ?_
      refine WL.run (d := 17) (by rfl) (by rfl) ?_
      refine WL.p (by rfl) (Yl.fieldAddr fa52_2 (by rfl)) ?_
      refine WL.run (d := 17) (by rfl) (by rfl) ?_
      refine WL.p (by rfl) (Yl.loadAB agg43 (by rfl) hs (by repeat (first | exact List.mem_cons_self | apply List.mem_cons_of_mem)) (by rfl) (by rfl)) ?_
      refine WL.run (d := 17) (by rfl) (by rfl) ?_
      refine WL.p (by rfl) (Yl.eqt eqt43 (by rfl) (by rfl)) ?_
      refine WL.p (by rfl) (Yl.pickT (by rfl) (by rfl)) ?_
      refine WL.p (by rfl) (Yl.move (by rfl)) ?_
      refine WL.split (d := 24) (by rfl) (fun h3 => ?_) (fun h3 => ?_)
      ·
        replace h3 := of_decide_eq_true h3
        refine WL.run (d := 24) (by rfl) (by rfl) ?_
        refine WL.p (by rfl) (Yl.fieldAddr fa52_3 (by rfl)) ?_
        refine WL.run (d := 24) (by rfl) (by rfl) ?_
        refine WL.p (by rfl) (Yl.loadB sca44 (by rfl) hs (by repeat (first | exact List.mem_cons_self | apply List.mem_cons_of_mem)) (by rfl)) ?_
        refine WL.run (d := 24) (by rfl) (by rfl) ?_
        refine WL.p (by rfl) (Yl.fieldAddr fa52_3 (by rfl)) ?_
        refine WL.run (d := 24) (by rfl) (by rfl) ?_
        refine WL.p (by rfl) (Yl.loadB sca44 (by rfl) hs (by repeat (first | exact List.mem_cons_self | apply List.mem_cons_of_mem)) (by rfl)) ?_
        refine WL.run (d := 24) (by rfl) (by rfl) ?_
        refine WL.callp hs (by rfl) (Yc.func (by rfl) fn34) (c_slices_EqualFunc___impl_Token___impl_Token_impl_Token_impl_Token_ _ _ 35 _ (fun x y => decide (x.lg = y.lg)) _ (Ph.old h_a.queue hs) (Ph.old h_b.queue hs) fn35 (fun x hx y hy w1 hb1 => c_impl_equalTokens x y w1 (Ph.ext hb1 ((Ph.old h_a.queue hs).elems x hx)) (Ph.ext hb1 ((Ph.old h_b.queue hs).elems y hy)))) ?_
        clear hs; intro w hs
        refine WL.p (by rfl) (Yl.pickT (by rfl) (by rfl)) ?_
        refine WL.p (by rfl) (Yl.move (by rfl)) ?_
        refine WL.split (d := 31) (by rfl) (fun h4 => ?_) (fun h4 => ?_)
        ·
          refine WL.run (d := 31) (by rfl) (by rfl) ?_
          refine WL.p (by rfl) (Yl.fieldAddr fa52_4 (by rfl)) ?_
          refine WL.run (d := 31) (by rfl) (by rfl) ?_
          refine WL.p (by rfl) (Yl.loadB sca4 (by rfl) hs (by repeat (first | exact List.mem_cons_self | apply List.mem_cons_of_mem)) (by rfl)) ?_
          refine WL.run (d := 31) (by rfl) (by rfl) ?_
          refine WL.p (by rfl) (Yl.fieldAddr fa52_4 (by rfl)) ?_
          refine WL.run (d := 31) (by rfl) (by rfl) ?_
          refine WL.p (by rfl) (Yl.loadB sca4 (by rfl) hs (by repeat (first | exact List.mem_cons_self | apply List.mem_cons_of_mem)) (by rfl)) ?_
          refine WL.run (d := 31) (by rfl) (by rfl) ?_
          refine WL.p (by rfl) (Yl.eqb bool4 (by rfl) (by rfl)) ?_
          refine WL.p (by rfl) (Yl.pickT (by rfl) (by rfl)) ?_
          refine WL.p (by rfl) (Yl.move (by rfl)) ?_
          refine WL.split (d := 38) (by rfl) (fun h5 => ?_) (fun h5 => ?_)
          ·
            replace h5 := beq_true h5
            refine WL.run (d := 38) (by rfl) (by rfl) ?_
            refine WL.p (by rfl) (Yl.fieldAddr fa52_5 (by rfl)) ?_
            refine WL.run (d := 38) (by rfl) (by rfl) ?_
            refine WL.p (by rfl) (Yl.loadAB agg47 (by rfl) hs (by repeat (first | exact List.mem_cons_self | apply List.mem_cons_of_mem)) (by rfl) (by rfl)) ?_
            refine WL.run (d := 38) (by rfl) (by rfl) ?_
            refine WL.p (by rfl) (Yl.fieldAddr fa52_5 (by rfl)) ?_
            refine WL.run (d := 38) (by rfl) (by rfl) ?_
            refine WL.p (by rfl) (Yl.loadAB agg47 (by rfl) hs (by repeat (first | exact List.mem_cons_self | apply List.mem_cons_of_mem)) (by rfl) (by rfl)) ?_
            refine WL.run (d := 38) (by rfl) (by rfl) ?_
            refine WL.callp hs (by rfl) (Yc.func (by rfl) fn36) (c_impl_EqualBuilders _ _ _ ⟨(Ph.old h_a.builder.nodes hs), (Ph.old h_a.builder.opn hs)⟩ ⟨(Ph.old h_b.builder.nodes hs), (Ph.old h_b.builder.opn hs)⟩) ?_
            clear hs; intro w hs
            refine WL.p (by rfl) (Yl.pickT (by rfl) (by rfl)) ?_
            refine WL.p (by rfl) (Yl.move (by rfl)) ?_
            refine WL.split (d := 45) (by rfl) (fun h6 => ?_) (fun h6 => ?_)
            ·
              replace h6 := of_decide_eq_true h6
              refine WL.run (d := 45) (by rfl) (by rfl) ?_
              refine WL.p (by rfl) (Yl.fieldAddr fa52_6 (by rfl)) ?_
              refine WL.run (d := 45) (by rfl) (by rfl) ?_
              refine WL.p (by rfl) (Yl.loadB sca48 (by rfl) hs (by repeat (first | exact List.mem_cons_self | apply List.mem_cons_of_mem)) (by rfl)) ?_
              refine WL.run (d := 45) (by rfl) (by rfl) ?_
              refine WL.p (by rfl) (Yl.fieldAddr fa52_6 (by rfl)) ?_
              refine WL.run (d := 45) (by rfl) (by rfl) ?_
              refine WL.p (by rfl) (Yl.loadB sca48 (by rfl) hs (by repeat (first | exact List.mem_cons_self | apply List.mem_cons_of_mem)) (by rfl)) ?_
              refine WL.run (d := 45) (by rfl) (by rfl) ?_
              refine WL.callp hs (by rfl) (Yc.func (by rfl) fn37) (c_slices_Equal___impl_Slot_impl_Slot_ _ _ _ (Ph.old h_a.slots hs) (Ph.old h_b.slots hs)) ?_
              clear hs; intro w hs
              refine WL.p (by rfl) (Yl.pickT (by rfl) (by rfl)) ?_
              refine WL.p (by rfl) (Yl.move (by rfl)) ?_
              refine WL.split (d := 52) (by rfl) (fun h7 => ?_) (fun h7 => ?_)
              ·
                replace h7 := of_decide_eq_true h7
                refine WL.run (d := 52) (by rfl) (by rfl) ?_
                refine WL.p (by rfl) (Yl.fieldAddr fa52_7 (by rfl)) ?_
                refine WL.run (d := 52) (by rfl) (by rfl) ?_
                refine WL.p (by rfl) (Yl.loadB sca49 (by rfl) hs (by repeat (first | exact List.mem_cons_self | apply List.mem_cons_of_mem)) (by rfl)) ?_
                refine WL.run (d := 52) (by rfl) (by rfl) ?_
                refine WL.p (by rfl) (Yl.fieldAddr fa52_7 (by rfl)) ?_
                refine WL.run (d := 52) (by rfl) (by rfl) ?_
                refine WL.p (by rfl) (Yl.loadB sca49 (by rfl) hs (by repeat (first | exact List.mem_cons_self | apply List.mem_cons_of_mem)) (by rfl)) ?_
                refine WL.run (d := 52) (by rfl) (by rfl) ?_
                refine WL.callp hs (by rfl) (Yc.func (by rfl) fn38) (c_slices_Equal___impl_Module_impl_Module_ _ _ _ (Ph.old h_a.mods hs) (Ph.old h_b.mods hs)) ?_
                clear hs; intro w hs
                refine WL.p (by rfl) (Yl.pickT (by rfl) (by rfl)) ?_
                refine WL.p (by rfl) (Yl.move (by rfl)) ?_
                refine WL.split (d := 59) (by rfl) (fun h8 => ?_) (fun h8 => ?_)
                ·
                  replace h8 := of_decide_eq_true h8
                  refine WL.run (d := 59) (by rfl) (by rfl) ?_
                  refine WL.p (by rfl) (Yl.fieldAddr fa52_8 (by rfl)) ?_
                  refine WL.run (d := 59) (by rfl) (by rfl) ?_
                  refine WL.p (by rfl) (Yl.loadB sca50 (by rfl) hs (by repeat (first | exact List.mem_cons_self | apply List.mem_cons_of_mem)) (by rfl)) ?_
                  refine WL.run (d := 59) (by rfl) (by rfl) ?_
                  refine WL.p (by rfl) (Yl.fieldAddr fa52_8 (by rfl)) ?_
                  refine WL.run (d := 59) (by rfl) (by rfl) ?_
                  refine WL.p (by rfl) (Yl.loadB sca50 (by rfl) hs (by repeat (first | exact List.mem_cons_self | apply List.mem_cons_of_mem)) (by rfl)) ?_
                  refine WL.run (d := 59) (by rfl) (by rfl) ?_
                  refine WL.callp hs (by rfl) (Yc.func (by rfl) fn39) (c_slices_Equal___impl_Addr_impl_Addr_ _ _ _ (Ph.old h_a.entries hs) (Ph.old h_b.entries hs)) ?_
                  clear hs; intro w hs
                  refine WL.p (by rfl) (Yl.pickT (by rfl) (by rfl)) ?_
                  refine WL.p (by rfl) (Yl.move (by rfl)) ?_
                  refine WL.split (d := 66) (by rfl) (fun h9 => ?_) (fun h9 => ?_)
                  ·
                    replace h9 := of_decide_eq_true h9
                    refine WL.run (d := 66) (by rfl) (by rfl) ?_
                    refine WL.p (by rfl) (Yl.fieldAddr fa52_9 (by rfl)) ?_
                    refine WL.run (d := 66) (by rfl) (by rfl) ?_
                    refine WL.p (by rfl) (Yl.loadB sca3 (by rfl) hs (by repeat (first | exact List.mem_cons_self | apply List.mem_cons_of_mem)) (by rfl)) ?_
                    refine WL.run (d := 66) (by rfl) (by rfl) ?_
                    refine WL.p (by rfl) (Yl.fieldAddr fa52_9 (by rfl)) ?_
                    refine WL.run (d := 66) (by rfl) (by rfl) ?_
                    refine WL.p (by rfl) (Yl.loadB sca3 (by rfl) hs (by repeat (first | exact List.mem_cons_self | apply List.mem_cons_of_mem)) (by rfl)) ?_
                    refine WL.run (d := 66) (by rfl) (by rfl) ?_
                    refine WL.p (by rfl) (Yl.eqi (by rfl) (by rfl)) ?_
                    refine WL.p (by rfl) (Yl.pickT (by rfl) (by rfl)) ?_
                    refine WL.p (by rfl) (Yl.move (by rfl)) ?_
                    refine WL.split (d := 73) (by rfl) (fun h10 => ?_) (fun h10 => ?_)
                    ·
                      replace h10 := of_decide_eq_true h10
                      refine WL.run (d := 73) (by rfl) (by rfl) ?_
                      refine WL.p (by rfl) (Yl.fieldAddr fa52_10 (by rfl)) ?_
                      refine WL.run (d := 73) (by rfl) (by rfl) ?_
                      refine WL.p (by rfl) (Yl.loadB sca3 (by rfl) hs (by repeat (first | exact List.mem_cons_self | apply List.mem_cons_of_mem)) (by rfl)) ?_
                      refine WL.run (d := 73) (by rfl) (by rfl) ?_
                      refine WL.p (by rfl) (Yl.fieldAddr fa52_10 (by rfl)) ?_
                      refine WL.run (d := 73) (by rfl) (by rfl) ?_
                      refine WL.p (by rfl) (Yl.loadB sca3 (by rfl) hs (by repeat (first | exact List.mem_cons_self | apply List.mem_cons_of_mem)) (by rfl)) ?_
                      refine WL.run (d := 73) (by rfl) (by rfl) ?_
                      refine WL.p (by rfl) (Yl.eqi (by rfl) (by rfl)) ?_
                      refine WL.p (by rfl) (Yl.pickT (by rfl) (by rfl)) ?_
                      refine WL.p (by rfl) (Yl.move (by rfl)) ?_
                      refine WL.split (d := 80) (by rfl) (fun h11 => ?_) (fun h11 => ?_)
                      ·
                        replace h11 := of_decide_eq_true h11
                        refine WL.run (d := 80) (by rfl) (by rfl) ?_
                        refine WL.p (by rfl) (Yl.fieldAddr fa52_11 (by rfl)) ?_
                        refine WL.run (d := 80) (by rfl) (by rfl) ?_
                        refine WL.p (by rfl) (Yl.loadB sca3 (by rfl) hs (by repeat (first | exact List.mem_cons_self | apply List.mem_cons_of_mem)) (by rfl)) ?_
                        refine WL.run (d := 80) (by rfl) (by rfl) ?_
                        refine WL.p (by rfl) (Yl.fieldAddr fa52_11 (by rfl)) ?_
                        refine WL.run (d := 80) (by rfl) (by rfl) ?_
                        refine WL.p (by rfl) (Yl.loadB sca3 (by rfl) hs (by repeat (first | exact List.mem_cons_self | apply List.mem_cons_of_mem)) (by rfl)) ?_
                        refine WL.run (d := 80) (by rfl) (by rfl) ?_
                        refine WL.p (by rfl) (Yl.eqi (by rfl) (by rfl)) ?_
                        refine WL.p (by rfl) (Yl.pickT (by rfl) (by rfl)) ?_
                        refine WL.p (by rfl) (Yl.move (by rfl)) ?_
                        refine WL.split (d := 87) (by rfl) (fun h12 => ?_) (fun h12 => ?_)
                        ·
                          replace h12 := of_decide_eq_true h12
                          refine WL.run (d := 87) (by rfl) (by rfl) ?_
                          refine WL.p (by rfl) (Yl.fieldAddr fa52_12 (by rfl)) ?_
                          refine WL.run (d := 87) (by rfl) (by rfl) ?_
                          refine WL.p (by rfl) (Yl.loadB sca3 (by rfl) hs (by repeat (first | exact List.mem_cons_self | apply List.mem_cons_of_mem)) (by rfl)) ?_
                          refine WL.run (d := 87) (by rfl) (by rfl) ?_
                          refine WL.p (by rfl) (Yl.fieldAddr fa52_12 (by rfl)) ?_
                          refine WL.run (d := 87) (by rfl) (by rfl) ?_
                          refine WL.p (by rfl) (Yl.loadB sca3 (by rfl) hs (by repeat (first | exact List.mem_cons_self | apply List.mem_cons_of_mem)) (by rfl)) ?_
                          refine WL.run (d := 87) (by rfl) (by rfl) ?_
                          refine WL.p (by rfl) (Yl.eqi (by rfl) (by rfl)) ?_
                          refine WL.p (by rfl) (Yl.pickT (by rfl) (by rfl)) ?_
                          refine WL.p (by rfl) (Yl.move (by rfl)) ?_
                          refine WL.split (d := 94) (by rfl) (fun h13 => ?_) (fun h13 => ?_)
                          ·
                            replace h13 := of_decide_eq_true h13
                            refine WL.run (d := 94) (by rfl) (by rfl) ?_
                            refine WL.p (by rfl) (Yl.fieldAddr fa52_13 (by rfl)) ?_
                            refine WL.run (d := 94) (by rfl) (by rfl) ?_
                            refine WL.p (by rfl) (Yl.loadB sca50 (by rfl) hs (by repeat (first | exact List.mem_cons_self | apply List.mem_cons_of_mem)) (by rfl)) ?_
                            refine WL.run (d := 94) (by rfl) (by rfl) ?_
                            refine WL.p (by rfl) (Yl.fieldAddr fa52_13 (by rfl)) ?_
                            refine WL.run (d := 94) (by rfl) (by rfl) ?_
                            refine WL.p (by rfl) (Yl.loadB sca50 (by rfl) hs (by repeat (first | exact List.mem_cons_self | apply List.mem_cons_of_mem)) (by rfl)) ?_
                            refine WL.run (d := 94) (by rfl) (by rfl) ?_
                            refine WL.callp hs (by rfl) (Yc.func (by rfl) fn39) (c_slices_Equal___impl_Addr_impl_Addr_ _ _ _ (Ph.old h_a.ran hs) (Ph.old h_b.ran hs)) ?_
                            clear hs; intro w hs
                            refine WL.p (by rfl) (Yl.pickT (by rfl) (by rfl)) ?_
                            refine WL.p (by rfl) (Yl.move (by rfl)) ?_
                            refine WL.split (d := 101) (by rfl) (fun h14 => ?_) (fun h14 => ?_)
                            ·
                              replace h14 := of_decide_eq_true h14
                              refine WL.run (d := 101) (by rfl) (by rfl) ?_
                              refine WL.p (by rfl) (Yl.fieldAddr fa52_14 (by rfl)) ?_
                              refine WL.run (d := 101) (by rfl) (by rfl) ?_
                              refine WL.p (by rfl) (Yl.loadB sca24 (by rfl) hs (by repeat (first | exact List.mem_cons_self | apply List.mem_cons_of_mem)) (by rfl)) ?_
                              refine WL.run (d := 101) (by rfl) (by rfl) ?_
                              refine WL.p (by rfl) (Yl.fieldAddr fa52_14 (by rfl)) ?_
                              refine WL.run (d := 101) (by rfl) (by rfl) ?_
                              refine WL.p (by rfl) (Yl.loadB sca24 (by rfl) hs (by repeat (first | exact List.mem_cons_self | apply List.mem_cons_of_mem)) (by rfl)) ?_
                              refine WL.run (d := 101) (by rfl) (by rfl) ?_
                              refine WL.callp hs (by rfl) (Yc.func (by rfl) fn40) (c_slices_Equal___string_string_ _ _ _ (Ph.old h_a.log hs) (Ph.old h_b.log hs)) ?_
                              clear hs; intro w hs
                              refine WL.p (by rfl) (Yl.pickT (by rfl) (by rfl)) ?_
                              refine WL.p (by rfl) (Yl.move (by rfl)) ?_
                              refine WL.split (d := 108) (by rfl) (fun h15 => ?_) (fun h15 => ?_)
                              ·
                                replace h15 := of_decide_eq_true h15
                                refine WL.run (d := 108) (by rfl) (by rfl) ?_
                                refine WL.p (by rfl) (Yl.fieldAddr fa52_15 (by rfl)) ?_
                                refine WL.run (d := 108) (by rfl) (by rfl) ?_
                                refine WL.p (by rfl) (Yl.loadB sca4 (by rfl) hs (by repeat (first | exact List.mem_cons_self | apply List.mem_cons_of_mem)) (by rfl)) ?_
                                refine WL.run (d := 108) (by rfl) (by rfl) ?_
                                refine WL.p (by rfl) (Yl.fieldAddr fa52_15 (by rfl)) ?_
                                refine WL.run (d := 108) (by rfl) (by rfl) ?_
                                refine WL.p (by rfl) (Yl.loadB sca4 (by rfl) hs (by repeat (first | exact List.mem_cons_self | apply List.mem_cons_of_mem)) (by rfl)) ?_
                                refine WL.run (d := 108) (by rfl) (by rfl) ?_
                                refine WL.p (by rfl) (Yl.eqb bool4 (by rfl) (by rfl)) ?_
                                refine WL.p (by rfl) (Yl.pickT (by rfl) (by rfl)) ?_
                                refine WL.p (by rfl) (Yl.assign (by rfl)) ?_
                                refine WL.next ?_
                                refine WC.ret ?_
                                refine fin1' rfl (by rfl) ?_
                                refine RetP.mk hs ?_
                                try simp only [eqWith_map] at *
                                simp_all [TPage.ext_iff, Bool.beq_eq_decide_eq]
                              ·
                                replace h15 := of_decide_eq_false h15
                                refine WL.skip (d := 108) (by rfl) (by rfl) (by rfl) (by rfl) ?_
                                refine WL.skip (d := 108) (by rfl) (by rfl) (by rfl) (by rfl) ?_
                                refine WL.skip (d := 108) (by rfl) (by rfl) (by rfl) (by rfl) ?_
                                refine WL.skip (d := 108) (by rfl) (by rfl) (by rfl) (by rfl) ?_
                                refine WL.skip (d := 108) (by rfl) (by rfl) (by rfl) (by rfl) ?_
                                refine WL.p (by rfl) (Yl.pickF (by rfl) (by rfl)) ?_
                                refine WL.p (by rfl) (Yl.assign (by rfl)) ?_
                                refine WL.next ?_
                                refine WC.ret ?_
                                refine fin1' rfl (by rfl) ?_
                                refine RetP.mk hs ?_
                                try simp only [eqWith_map] at *
                                simp_all [TPage.ext_iff, Bool.beq_eq_decide_eq]
                            ·
                              replace h14 := of_decide_eq_false h14
                              refine WL.skip (d := 101) (by rfl) (by rfl) (by rfl) (by rfl) ?_
                              refine WL.skip (d := 101) (by rfl) (by rfl) (by rfl) (by rfl) ?_
                              refine WL.skip (d := 101) (by rfl) (by rfl) (by rfl) (by rfl) ?_
                              refine WL.skip (d := 101) (by rfl) (by rfl) (by rfl) (by rfl) ?_
                              refine WL.skip (d := 101) (by rfl) (by rfl) (by rfl) (by rfl) ?_
                              refine WL.p (by rfl) (Yl.pickF (by rfl) (by rfl)) ?_
                              refine WL.p (by rfl) (Yl.move (by rfl)) ?_
                              refine WL.skip (d := 108) (by rfl) (by rfl) (by rfl) (by rfl) ?_
                              refine WL.skip (d := 108) (by rfl) (by rfl) (by rfl) (by rfl) ?_
                              refine WL.skip (d := 108) (by rfl) (by rfl) (by rfl) (by rfl) ?_
                              refine WL.skip (d := 108) (by rfl) (by rfl) (by rfl) (by rfl) ?_
                              refine WL.skip (d := 108) (by rfl) (by rfl) (by rfl) (by rfl) ?_
                              refine WL.p (by rfl) (Yl.pickF (by rfl) (by rfl)) ?_
                              refine WL.p (by rfl) (Yl.assign (by rfl)) ?_
                              refine WL.next ?_
                              refine WC.ret ?_
                              refine fin1' rfl (by rfl) ?_
                              refine RetP.mk hs ?_
                              try simp only [eqWith_map] at *
                              simp_all [TPage.ext_iff, Bool.beq_eq_decide_eq]
                          ·
                            replace h13 := of_decide_eq_false h13
                            refine WL.skip (d := 94) (by rfl) (by rfl) (by rfl) (by rfl) ?_
                            refine WL.skip (d := 94) (by rfl) (by rfl) (by rfl) (by rfl) ?_
                            refine WL.skip (d := 94) (by rfl) (by rfl) (by rfl) (by rfl) ?_
                            refine WL.skip (d := 94) (by rfl) (by rfl) (by rfl) (by rfl) ?_
                            refine WL.skip (d := 94) (by rfl) (by rfl) (by rfl) (by rfl) ?_
                            refine WL.p (by rfl) (Yl.pickF (by rfl) (by rfl)) ?_
                            refine WL.p (by rfl) (Yl.move (by rfl)) ?_
                            refine WL.skip (d := 101) (by rfl) (by rfl) (by rfl) (by rfl) ?_
                            refine WL.skip (d := 101) (by rfl) (by rfl) (by rfl) (by rfl) ?_
                            refine WL.skip (d := 101) (by rfl) (by rfl) (by rfl) (by rfl) ?_
                            refine WL.skip (d := 101) (by rfl) (by rfl) (by rfl) (by rfl) ?_
                            refine WL.skip (d := 101) (by rfl) (by rfl) (by rfl) (by rfl) ?_
                            refine WL.p (by rfl) (Yl.pickF (by rfl) (by rfl)) ?_
                            refine WL.p (by rfl) (Yl.move (by rfl)) ?_
                            refine WL.skip (d := 108) (by rfl) (by rfl) (by rfl) (by rfl) ?_
                            refine WL.skip (d := 108) (by rfl) (by rfl) (by rfl) (by rfl) ?_
                            refine WL.skip (d := 108) (by rfl) (by rfl) (by rfl) (by rfl) ?_
                            refine WL.skip (d := 108) (by rfl) (by rfl) (by rfl) (by rfl) ?_
                            refine WL.skip (d := 108) (by rfl) (by rfl) (by rfl) (by rfl) ?_
                            refine WL.p (by rfl) (Yl.pickF (by rfl) (by rfl)) ?_
                            refine WL.p (by rfl) (Yl.assign (by rfl)) ?_
                            refine WL.next ?_
                            refine WC.ret ?_
                            refine fin1' rfl (by rfl) ?_
                            refine RetP.mk hs ?_
                            try simp only [eqWith_map] at *
                            simp_all [TPage.ext_iff, Bool.beq_eq_decide_eq]
                        ·
                          replace h12 := of_decide_eq_false h12
                          refine WL.skip (d := 87) (by rfl) (by rfl) (by rfl) (by rfl) ?_
                          refine WL.skip (d := 87) (by rfl) (by rfl) (by rfl) (by rfl) ?_
                          refine WL.skip (d := 87) (by rfl) (by rfl) (by rfl) (by rfl) ?_
                          refine WL.skip (d := 87) (by rfl) (by rfl) (by rfl) (by rfl) ?_
                          refine WL.skip (d := 87) (by rfl) (by rfl) (by rfl) (by rfl) ?_
                          refine WL.p (by rfl) (Yl.pickF (by rfl) (by rfl)) ?_
                          refine WL.p (by rfl) (Yl.move (by rfl)) ?_
                          refine WL.skip (d := 94) (by rfl) (by rfl) (by rfl) (by rfl) ?_
                          refine WL.skip (d := 94) (by rfl) (by rfl) (by rfl) (by rfl) ?_
                          refine WL.skip (d := 94) (by rfl) (by rfl) (by rfl) (by rfl) ?_
                          refine WL.skip (d := 94) (by rfl) (by rfl) (by rfl) (by rfl) ?_
                          refine WL.skip (d := 94) (by rfl) (by rfl) (by rfl) (by rfl) ?_
                          refine WL.p (by rfl) (Yl.pickF (by rfl) (by rfl)) ?_
                          refine WL.p (by rfl) (Yl.move (by rfl)) ?_
                          refine WL.skip (d := 101) (by rfl) (by rfl) (by rfl) (by rfl) ?_
                          refine WL.skip (d := 101) (by rfl) (by rfl) (by rfl) (by rfl) ?_
                          refine WL.skip (d := 101) (by rfl) (by rfl) (by rfl) (by rfl) ?_
                          refine WL.skip (d := 101) (by rfl) (by rfl) (by rfl) (by rfl) ?_
                          refine WL.skip (d := 101) (by rfl) (by rfl) (by rfl) (by rfl) ?_
                          refine WL.p (by rfl) (Yl.pickF (by rfl) (by rfl)) ?_
                          refine WL.p (by rfl) (Yl.move (by rfl)) ?_
                          refine WL.skip (d := 108) (by rfl) (by rfl) (by rfl) (by rfl) ?_
                          refine WL.skip (d := 108) (by rfl) (by rfl) (by rfl) (by rfl) ?_
                          refine WL.skip (d := 108) (by rfl) (by rfl) (by rfl) (by rfl) ?_
                          refine WL.skip (d := 108) (by rfl) (by rfl) (by rfl) (by rfl) ?_
                          refine WL.skip (d := 108) (by rfl) (by rfl) (by rfl) (by rfl) ?_
                          refine WL.p (by rfl) (Yl.pickF (by rfl) (by rfl)) ?_
                          refine WL.p (by rfl) (Yl.assign (by rfl)) ?_
                          refine WL.next ?_
                          refine WC.ret ?_
                          refine fin1' rfl (by rfl) ?_
                          refine RetP.mk hs ?_
                          try simp only [eqWith_map] at *
                          simp_all [TPage.ext_iff, Bool.beq_eq_decide_eq]
                      ·
                        replace h11 := of_decide_eq_false h11
                        refine WL.skip (d := 80) (by rfl) (by rfl) (by rfl) (by rfl) ?_
                        refine WL.skip (d := 80) (by rfl) (by rfl) (by rfl) (by rfl) ?_
                        refine WL.skip (d := 80) (by rfl) (by rfl) (by rfl) (by rfl) ?_
                        refine WL.skip (d := 80) (by rfl) (by rfl) (by rfl) (by rfl) ?_
                        refine WL.skip (d := 80) (by rfl) (by rfl) (by rfl) (by rfl) ?_
                        refine WL.p (by rfl) (Yl.pickF (by rfl) (by rfl)) ?_
                        refine WL.p (by rfl) (Yl.move (by rfl)) ?_
                        refine WL.skip (d := 87) (by rfl) (by rfl) (by rfl) (by rfl) ?_
                        refine WL.skip (d := 87) (by rfl) (by rfl) (by rfl) (by rfl) ?_
                        refine WL.skip (d := 87) (by rfl) (by rfl) (by rfl) (by rfl) ?_
                        refine WL.skip (d := 87) (by rfl) (by rfl) (by rfl) (by rfl) ?_
                        refine WL.skip (d := 87) (by rfl) (by rfl) (by rfl) (by rfl) ?_
                        refine WL.p (by rfl) (Yl.pickF (by rfl) (by rfl)) ?_
                        refine WL.p (by rfl) (Yl.move (by rfl)) ?_
                        refine WL.skip (d := 94) (by rfl) (by rfl) (by rfl) (by rfl) ?_
                        refine WL.skip (d := 94) (by rfl) (by rfl) (by rfl) (by rfl) ?_
                        refine WL.skip (d := 94) (by rfl) (by rfl) (by rfl) (by rfl) ?_
                        refine WL.skip (d := 94) (by rfl) (by rfl) (by rfl) (by rfl) ?_
                        refine WL.skip (d := 94) (by rfl) (by rfl) (by rfl) (by rfl) ?_
                        refine WL.p (by rfl) (Yl.pickF (by rfl) (by rfl)) ?_
                        refine WL.p (by rfl) (Yl.move (by rfl)) ?_
                        refine WL.skip (d := 101) (by rfl) (by rfl) (by rfl) (by rfl) ?_
                        refine WL.skip (d := 101) (by rfl) (by rfl) (by rfl) (by rfl) ?_
                        refine WL.skip (d := 101) (by rfl) (by rfl) (by rfl) (by rfl) ?_
                        refine WL.skip (d := 101) (by rfl) (by rfl) (by rfl) (by rfl) ?_
                        refine WL.skip (d := 101) (by rfl) (by rfl) (by rfl) (by rfl) ?_
                        refine WL.p (by rfl) (Yl.pickF (by rfl) (by rfl)) ?_
                        refine WL.p (by rfl) (Yl.move (by rfl)) ?_
                        refine WL.skip (d := 108) (by rfl) (by rfl) (by rfl) (by rfl) ?_
                        refine WL.skip (d := 108) (by rfl) (by rfl) (by rfl) (by rfl) ?_
                        refine WL.skip (d := 108) (by rfl) (by rfl) (by rfl) (by rfl) ?_
                        refine WL.skip (d := 108) (by rfl) (by rfl) (by rfl) (by rfl) ?_
                        refine WL.skip (d := 108) (by rfl) (by rfl) (by rfl) (by rfl) ?_
                        refine WL.p (by rfl) (Yl.pickF (by rfl) (by rfl)) ?_
                        refine WL.p (by rfl) (Yl.assign (by rfl)) ?_
                        refine WL.next ?_
                        refine WC.ret ?_
                        refine fin1' rfl (by rfl) ?_
                        refine RetP.mk hs ?_
                        try simp only [eqWith_map] at *
                        simp_all [TPage.ext_iff, Bool.beq_eq_decide_eq]
                    ·
                      replace h10 := of_decide_eq_false h10
                      refine WL.skip (d := 73) (by rfl) (by rfl) (by rfl) (by rfl) ?_
                      refine WL.skip (d := 73) (by rfl) (by rfl) (by rfl) (by rfl) ?_
                      refine WL.skip (d := 73) (by rfl) (by rfl) (by rfl) (by rfl) ?_
                      refine WL.skip (d := 73) (by rfl) (by rfl) (by rfl) (by rfl) ?_
                      refine WL.skip (d := 73) (by rfl) (by rfl) (by rfl) (by rfl) ?_
                      refine WL.p (by rfl) (Yl.pickF (by rfl) (by rfl)) ?_
                      refine WL.p (by rfl) (Yl.move (by rfl)) ?_
                      refine WL.skip (d := 80) (by rfl) (by rfl) (by rfl) (by rfl) ?_
                      refine WL.skip (d := 80) (by rfl) (by rfl) (by rfl) (by rfl) ?_
                      refine WL.skip (d := 80) (by rfl) (by rfl) (by rfl) (by rfl) ?_
                      refine WL.skip (d := 80) (by rfl) (by rfl) (by rfl) (by rfl) ?_
                      refine WL.skip (d := 80) (by rfl) (by rfl) (by rfl) (by rfl) ?_
                      refine WL.p (by rfl) (Yl.pickF (by rfl) (by rfl)) ?_
                      refine WL.p (by rfl) (Yl.move (by rfl)) ?_
                      refine WL.skip (d := 87) (by rfl) (by rfl) (by rfl) (by rfl) ?_
                      refine WL.skip (d := 87) (by rfl) (by rfl) (by rfl) (by rfl) ?_
                      refine WL.skip (d := 87) (by rfl) (by rfl) (by rfl) (by rfl) ?_
                      refine WL.skip (d := 87) (by rfl) (by rfl) (by rfl) (by rfl) ?_
                      refine WL.skip (d := 87) (by rfl) (by rfl) (by rfl) (by rfl) ?_
                      refine WL.p (by rfl) (Yl.pickF (by rfl) (by rfl)) ?_
                      refine WL.p (by rfl) (Yl.move (by rfl)) ?_
                      refine WL.skip (d := 94) (by rfl) (by rfl) (by rfl) (by rfl) ?_
                      refine WL.skip (d := 94) (by rfl) (by rfl) (by rfl) (by rfl) ?_
                      refine WL.skip (d := 94) (by rfl) (by rfl) (by rfl) (by rfl) ?_
                      refine WL.skip (d := 94) (by rfl) (by rfl) (by rfl) (by rfl) ?_
                      refine WL.skip (d := 94) (by rfl) (by rfl) (by rfl) (by rfl) ?_
                      refine WL.p (by rfl) (Yl.pickF (by rfl) (by rfl)) ?_
                      refine WL.p (by rfl) (Yl.move (by rfl)) ?_
                      refine WL.skip (d := 101) (by rfl) (by rfl) (by rfl) (by rfl) ?_
                      refine WL.skip (d := 101) (by rfl) (by rfl) (by rfl) (by rfl) ?_
                      refine WL.skip (d := 101) (by rfl) (by rfl) (by rfl) (by rfl) ?_
                      refine WL.skip (d := 101) (by rfl) (by rfl) (by rfl) (by rfl) ?_
                      refine WL.skip (d := 101) (by rfl) (by rfl) (by rfl) (by rfl) ?_
                      refine WL.p (by rfl) (Yl.pickF (by rfl) (by rfl)) ?_
                      refine WL.p (by rfl) (Yl.move (by rfl)) ?_
                      refine WL.skip (d := 108) (by rfl) (by rfl) (by rfl) (by rfl) ?_
                      refine WL.skip (d := 108) (by rfl) (by rfl) (by rfl) (by rfl) ?_
                      refine WL.skip (d := 108) (by rfl) (by rfl) (by rfl) (by rfl) ?_
                      refine WL.skip (d := 108) (by rfl) (by rfl) (by rfl) (by rfl) ?_
                      refine WL.skip (d := 108) (by rfl) (by rfl) (by rfl) (by rfl) ?_
                      refine WL.p (by rfl) (Yl.pickF (by rfl) (by rfl)) ?_
                      refine WL.p (by rfl) (Yl.assign (by rfl)) ?_
                      refine WL.next ?_
                      refine WC.ret ?_
                      refine fin1' rfl (by rfl) ?_
                      refine RetP.mk hs ?_
                      try simp only [eqWith_map] at *
                      simp_all [TPage.ext_iff, Bool.beq_eq_decide_eq]
                  ·
                    replace h9 := of_decide_eq_false h9
                    refine WL.skip (d := 66) (by rfl) (by rfl) (by rfl) (by rfl) ?_
                    refine WL.skip (d := 66) (by rfl) (by rfl) (by rfl) (by rfl) ?_
                    refine WL.skip (d := 66) (by rfl) (by rfl) (by rfl) (by rfl) ?_
                    refine WL.skip (d := 66) (by rfl) (by rfl) (by rfl) (by rfl) ?_
                    refine WL.skip (d := 66) (by rfl) (by rfl) (by rfl) (by rfl) ?_
                    refine WL.p (by rfl) (Yl.pickF (by rfl) (by rfl)) ?_
                    refine WL.p (by rfl) (Yl.move (by rfl)) ?_
                    refine WL.skip (d := 73) (by rfl) (by rfl) (by rfl) (by rfl) ?_
                    refine WL.skip (d := 73) (by rfl) (by rfl) (by rfl) (by rfl) ?_
                    refine WL.skip (d := 73) (by rfl) (by rfl) (by rfl) (by rfl) ?_
                    refine WL.skip (d := 73) (by rfl) (by rfl) (by rfl) (by rfl) ?_
                    refine WL.skip (d := 73) (by rfl) (by rfl) (by rfl) (by rfl) ?_
                    refine WL.p (by rfl) (Yl.pickF (by rfl) (by rfl)) ?_
                    refine WL.p (by rfl) (Yl.move (by rfl)) ?_
                    refine WL.skip (d := 80) (by rfl) (by rfl) (by rfl) (by rfl) ?_
                    refine WL.skip (d := 80) (by rfl) (by rfl) (by rfl) (by rfl) ?_
                    refine WL.skip (d := 80) (by rfl) (by rfl) (by rfl) (by rfl) ?_
                    refine WL.skip (d := 80) (by rfl) (by rfl) (by rfl) (by rfl) ?_
                    refine WL.skip (d := 80) (by rfl) (by rfl) (by rfl) (by rfl) ?_
                    refine WL.p (by rfl) (Yl.pickF (by rfl) (by rfl)) ?_
                    refine WL.p (by rfl) (Yl.move (by rfl)) ?_
                    refine WL.skip (d := 87) (by rfl) (by rfl) (by rfl) (by rfl) ?_
                    refine WL.skip (d := 87) (by rfl) (by rfl) (by rfl) (by rfl) ?_
                    refine WL.skip (d := 87) (by rfl) (by rfl) (by rfl) (by rfl) ?_
                    refine WL.skip (d := 87) (by rfl) (by rfl) (by rfl) (by rfl) ?_
                    refine WL.skip (d := 87) (by rfl) (by rfl) (by rfl) (by rfl) ?_
                    refine WL.p (by rfl) (Yl.pickF (by rfl) (by rfl)) ?_
                    refine WL.p (by rfl) (Yl.move (by rfl)) ?_
                    refine WL.skip (d := 94) (by rfl) (by rfl) (by rfl) (by rfl) ?_
                    refine WL.skip (d := 94) (by rfl) (by rfl) (by rfl) (by rfl) ?_
                    refine WL.skip (d := 94) (by rfl) (by rfl) (by rfl) (by rfl) ?_
                    refine WL.skip (d := 94) (by rfl) (by rfl) (by rfl) (by rfl) ?_
                    refine WL.skip (d := 94) (by rfl) (by rfl) (by rfl) (by rfl) ?_
                    refine WL.p (by rfl) (Yl.pickF (by rfl) (by rfl)) ?_
                    refine WL.p (by rfl) (Yl.move (by rfl)) ?_
                    refine WL.skip (d := 101) (by rfl) (by rfl) (by rfl) (by rfl) ?_
                    refine WL.skip (d := 101) (by rfl) (by rfl) (by rfl) (by rfl) ?_
                    refine WL.skip (d := 101) (by rfl) (by rfl) (by rfl) (by rfl) ?_
                    refine WL.skip (d := 101) (by rfl) (by rfl) (by rfl) (by rfl) ?_
                    refine WL.skip (d := 101) (by rfl) (by rfl) (by rfl) (by rfl) ?_
                    refine WL.p (by rfl) (Yl.pickF (by rfl) (by rfl)) ?_
                    refine WL.p (by rfl) (Yl.move (by rfl)) ?_
                    refine WL.skip (d := 108) (by rfl) (by rfl) (by rfl) (by rfl) ?_
                    refine WL.skip (d := 108) (by rfl) (by rfl) (by rfl) (by rfl) ?_
                    refine WL.skip (d := 108) (by rfl) (by rfl) (by rfl) (by rfl) ?_
                    refine WL.skip (d := 108) (by rfl) (by rfl) (by rfl) (by rfl) ?_
                    refine WL.skip (d := 108) (by rfl) (by rfl) (by rfl) (by rfl) ?_
                    refine WL.p (by rfl) (Yl.pickF (by rfl) (by rfl)) ?_
                    refine WL.p (by rfl) (Yl.assign (by rfl)) ?_
                    refine WL.next ?_
                    refine WC.ret ?_
                    refine fin1' rfl (by rfl) ?_
                    refine RetP.mk hs ?_
                    try simp only [eqWith_map] at *
                    simp_all [TPage.ext_iff, Bool.beq_eq_decide_eq]
                ·
                  replace h8 := of_decide_eq_false h8
                  refine WL.skip (d := 59) (by rfl) (by rfl) (by rfl) (by rfl) ?_
                  refine WL.skip (d := 59) (by rfl) (by rfl) (by rfl) (by rfl) ?_
                  refine WL.skip (d := 59) (by rfl) (by rfl) (by rfl) (by rfl) ?_
                  refine WL.skip (d := 59) (by rfl) (by rfl) (by rfl) (by rfl) ?_
                  refine WL.skip (d := 59) (by rfl) (by rfl) (by rfl) (by rfl) ?_
                  refine WL.p (by rfl) (Yl.pickF (by rfl) (by rfl)) ?_
                  refine WL.p (by rfl) (Yl.move (by rfl)) ?_
                  refine WL.skip (d := 66) (by rfl) (by rfl) (by rfl) (by rfl) ?_
                  refine WL.skip (d := 66) (by rfl) (by rfl) (by rfl) (by rfl) ?_
                  refine WL.skip (d := 66) (by rfl) (by rfl) (by rfl) (by rfl) ?_
                  refine WL.skip (d := 66) (by rfl) (by rfl) (by rfl) (by rfl) ?_
                  refine WL.skip (d := 66) (by rfl) (by rfl) (by rfl) (by rfl) ?_
                  refine WL.p (by rfl) (Yl.pickF (by rfl) (by rfl)) ?_
                  refine WL.p (by rfl) (Yl.move (by rfl)) ?_
                  refine WL.skip (d := 73) (by rfl) (by rfl) (by rfl) (by rfl) ?_
                  refine WL.skip (d := 73) (by rfl) (by rfl) (by rfl) (by rfl) ?_
                  refine WL.skip (d := 73) (by rfl) (by rfl) (by rfl) (by rfl) ?_
                  refine WL.skip (d := 73) (by rfl) (by rfl) (by rfl) (by rfl) ?_
                  refine WL.skip (d := 73) (by rfl) (by rfl) (by rfl) (by rfl) ?_
                  refine WL.p (by rfl) (Yl.pickF (by rfl) (by rfl)) ?_
                  refine WL.p (by rfl) (Yl.move (by rfl)) ?_
                  refine WL.skip (d := 80) (by rfl) (by rfl) (by rfl) (by rfl) ?_
                  refine WL.skip (d := 80) (by rfl) (by rfl) (by rfl) (by rfl) ?_
                  refine WL.skip (d := 80) (by rfl) (by rfl) (by rfl) (by rfl) ?_
                  refine WL.skip (d := 80) (by rfl) (by rfl) (by rfl) (by rfl) ?_
                  refine WL.skip (d := 80) (by rfl) (by rfl) (by rfl) (by rfl) ?_
                  refine WL.p (by rfl) (Yl.pickF (by rfl) (by rfl)) ?_
                  refine WL.p (by rfl) (Yl.move (by rfl)) ?_
                  refine WL.skip (d := 87) (by rfl) (by rfl) (by rfl) (by rfl) ?_
                  refine WL.skip (d := 87) (by rfl) (by rfl) (by rfl) (by rfl) ?_
                  refine WL.skip (d := 87) (by rfl) (by rfl) (by rfl) (by rfl) ?_
                  refine WL.skip (d := 87) (by rfl) (by rfl) (by rfl) (by rfl) ?_
                  refine WL.skip (d := 87) (by rfl) (by rfl) (by rfl) (by rfl) ?_
                  refine WL.p (by rfl) (Yl.pickF (by rfl) (by rfl)) ?_
                  refine WL.p (by rfl) (Yl.move (by rfl)) ?_
                  refine WL.skip (d := 94) (by rfl) (by rfl) (by rfl) (by rfl) ?_
                  refine WL.skip (d := 94) (by rfl) (by rfl) (by rfl) (by rfl) ?_
                  refine WL.skip (d := 94) (by rfl) (by rfl) (by rfl) (by rfl) ?_
                  refine WL.skip (d := 94) (by rfl) (by rfl) (by rfl) (by rfl) ?_
                  refine WL.skip (d := 94) (by rfl) (by rfl) (by rfl) (by rfl) ?_
                  refine WL.p (by rfl) (Yl.pickF (by rfl) (by rfl)) ?_
                  refine WL.p (by rfl) (Yl.move (by rfl)) ?_
                  refine WL.skip (d := 101) (by rfl) (by rfl) (by rfl) (by rfl) ?_
                  refine WL.skip (d := 101) (by rfl) (by rfl) (by rfl) (by rfl) ?_
                  refine WL.skip (d := 101) (by rfl) (by rfl) (by rfl) (by rfl) ?_
                  refine WL.skip (d := 101) (by rfl) (by rfl) (by rfl) (by rfl) ?_
                  refine WL.skip (d := 101) (by rfl) (by rfl) (by rfl) (by rfl) ?_
                  refine WL.p (by rfl) (Yl.pickF (by rfl) (by rfl)) ?_
                  refine WL.p (by rfl) (Yl.move (by rfl)) ?_
                  refine WL.skip (d := 108) (by rfl) (by rfl) (by rfl) (by rfl) ?_
                  refine WL.skip (d := 108) (by rfl) (by rfl) (by rfl) (by rfl) ?_
                  refine WL.skip (d := 108) (by rfl) (by rfl) (by rfl) (by rfl) ?_
                  refine WL.skip (d := 108) (by rfl) (by rfl) (by rfl) (by rfl) ?_
                  refine WL.skip (d := 108) (by rfl) (by rfl) (by rfl) (by rfl) ?_
                  refine WL.p (by rfl) (Yl.pickF (by rfl) (by rfl)) ?_
                  refine WL.p (by rfl) (Yl.assign (by rfl)) ?_
                  refine WL.next ?_
                  refine WC.ret ?_
                  refine fin1' rfl (by rfl) ?_
                  refine RetP.mk hs ?_
                  try simp only [eqWith_map] at *
                  simp_all [TPage.ext_iff, Bool.beq_eq_decide_eq]
              ·
                replace h7 := of_decide_eq_false h7
                refine WL.skip (d := 52) (by rfl) (by rfl) (by rfl) (by rfl) ?_
                refine WL.skip (d := 52) (by rfl) (by rfl) (by rfl) (by rfl) ?_
                refine WL.skip (d := 52) (by rfl) (by rfl) (by rfl) (by rfl) ?_
                refine WL.skip (d := 52) (by rfl) (by rfl) (by rfl) (by rfl) ?_
                refine WL.skip (d := 52) (by rfl) (by rfl) (by rfl) (by rfl) ?_
                refine WL.p (by rfl) (Yl.pickF (by rfl) (by rfl)) ?_
                refine WL.p (by rfl) (Yl.move (by rfl)) ?_
                refine WL.skip (d := 59) (by rfl) (by rfl) (by rfl) (by rfl) ?_
                refine WL.skip (d := 59) (by rfl) (by rfl) (by rfl) (by rfl) ?_
                refine WL.skip (d := 59) (by rfl) (by rfl) (by rfl) (by rfl) ?_
                refine WL.skip (d := 59) (by rfl) (by rfl) (by rfl) (by rfl) ?_
                refine WL.skip (d := 59) (by rfl) (by rfl) (by rfl) (by rfl) ?_
                refine WL.p (by rfl) (Yl.pickF (by rfl) (by rfl)) ?_
                refine WL.p (by rfl) (Yl.move (by rfl)) ?_
                refine WL.skip (d := 66) (by rfl) (by rfl) (by rfl) (by rfl) ?_
                refine WL.skip (d := 66) (by rfl) (by rfl) (by rfl) (by rfl) ?_
                refine WL.skip (d := 66) (by rfl) (by rfl) (by rfl) (by rfl) ?_
                refine WL.skip (d := 66) (by rfl) (by rfl) (by rfl) (by rfl) ?_
                refine WL.skip (d := 66) (by rfl) (by rfl) (by rfl) (by rfl) ?_
                refine WL.p (by rfl) (Yl.pickF (by rfl) (by rfl)) ?_
                refine WL.p (by rfl) (Yl.move (by rfl)) ?_
                refine WL.skip (d := 73) (by rfl) (by rfl) (by rfl) (by rfl) ?_
                refine WL.skip (d := 73) (by rfl) (by rfl) (by rfl) (by rfl) ?_
                refine WL.skip (d := 73) (by rfl) (by rfl) (by rfl) (by rfl) ?_
                refine WL.skip (d := 73) (by rfl) (by rfl) (by rfl) (by rfl) ?_
                refine WL.skip (d := 73) (by rfl) (by rfl) (by rfl) (by rfl) ?_
                refine WL.p (by rfl) (Yl.pickF (by rfl) (by rfl)) ?_
                refine WL.p (by rfl) (Yl.move (by rfl)) ?_
                refine WL.skip (d := 80) (by rfl) (by rfl) (by rfl) (by rfl) ?_
                refine WL.skip (d := 80) (by rfl) (by rfl) (by rfl) (by rfl) ?_
                refine WL.skip (d := 80) (by rfl) (by rfl) (by rfl) (by rfl) ?_
                refine WL.skip (d := 80) (by rfl) (by rfl) (by rfl) (by rfl) ?_
                refine WL.skip (d := 80) (by rfl) (by rfl) (by rfl) (by rfl) ?_
                refine WL.p (by rfl) (Yl.pickF (by rfl) (by rfl)) ?_
                refine WL.p (by rfl) (Yl.move (by rfl)) ?_
                refine WL.skip (d := 87) (by rfl) (by rfl) (by rfl) (by rfl) ?_
                refine WL.skip (d := 87) (by rfl) (by rfl) (by rfl) (by rfl) ?_
                refine WL.skip (d := 87) (by rfl) (by rfl) (by rfl) (by rfl) ?_
                refine WL.skip (d := 87) (by rfl) (by rfl) (by rfl) (by rfl) ?_
                refine WL.skip (d := 87) (by rfl) (by rfl) (by rfl) (by rfl) ?_
                refine WL.p (by rfl) (Yl.pickF (by rfl) (by rfl)) ?_
                refine WL.p (by rfl) (Yl.move (by rfl)) ?_
                refine WL.skip (d := 94) (by rfl) (by rfl) (by rfl) (by rfl) ?_
                refine WL.skip (d := 94) (by rfl) (by rfl) (by rfl) (by rfl) ?_
                refine WL.skip (d := 94) (by rfl) (by rfl) (by rfl) (by rfl) ?_
                refine WL.skip (d := 94) (by rfl) (by rfl) (by rfl) (by rfl) ?_
                refine WL.skip (d := 94) (by rfl) (by rfl) (by rfl) (by rfl) ?_
                refine WL.p (by rfl) (Yl.pickF (by rfl) (by rfl)) ?_
                refine WL.p (by rfl) (Yl.move (by rfl)) ?_
                refine WL.skip (d := 101) (by rfl) (by rfl) (by rfl) (by rfl) ?_
                refine WL.skip (d := 101) (by rfl) (by rfl) (by rfl) (by rfl) ?_
                refine WL.skip (d := 101) (by rfl) (by rfl) (by rfl) (by rfl) ?_
                refine WL.skip (d := 101) (by rfl) (by rfl) (by rfl) (by rfl) ?_
                refine WL.skip (d := 101) (by rfl) (by rfl) (by rfl) (by rfl) ?_
                refine WL.p (by rfl) (Yl.pickF (by rfl) (by rfl)) ?_
                refine WL.p (by rfl) (Yl.move (by rfl)) ?_
                refine WL.skip (d := 108) (by rfl) (by rfl) (by rfl) (by rfl) ?_
                refine WL.skip (d := 108) (by rfl) (by rfl) (by rfl) (by rfl) ?_
                refine WL.skip (d := 108) (by rfl) (by rfl) (by rfl) (by rfl) ?_
                refine WL.skip (d := 108) (by rfl) (by rfl) (by rfl) (by rfl) ?_
                refine WL.skip (d := 108) (by rfl) (by rfl) (by rfl) (by rfl) ?_
                refine WL.p (by rfl) (Yl.pickF (by rfl) (by rfl)) ?_
                refine WL.p (by rfl) (Yl.assign (by rfl)) ?_
                refine WL.next ?_
                refine WC.ret ?_
                refine fin1' rfl (by rfl) ?_
                refine RetP.mk hs ?_
                try simp only [eqWith_map] at *
                simp_all [TPage.ext_iff, Bool.beq_eq_decide_eq]
            ·
              replace h6 := of_decide_eq_false h6
              refine WL.skip (d := 45) (by rfl) (by rfl) (by rfl) (by rfl) ?_
              refine WL.skip (d := 45) (by rfl) (by rfl) (by rfl) (by rfl) ?_
              refine WL.skip (d := 45) (by rfl) (by rfl) (by rfl) (by rfl) ?_
              refine WL.skip (d := 45) (by rfl) (by rfl) (by rfl) (by rfl) ?_
              refine WL.skip (d := 45) (by rfl) (by rfl) (by rfl) (by rfl) ?_
              refine WL.p (by rfl) (Yl.pickF (by rfl) (by rfl)) ?_
              refine WL.p (by rfl) (Yl.move (by rfl)) ?_
              refine WL.skip (d := 52) (by rfl) (by rfl) (by rfl) (by rfl) ?_
              refine WL.skip (d := 52) (by rfl) (by rfl) (by rfl) (by rfl) ?_
              refine WL.skip (d := 52) (by rfl) (by rfl) (by rfl) (by rfl) ?_
              refine WL.skip (d := 52) (by rfl) (by rfl) (by rfl) (by rfl) ?_
              refine WL.skip (d := 52) (by rfl) (by rfl) (by rfl) (by rfl) ?_
              refine WL.p (by rfl) (Yl.pickF (by rfl) (by rfl)) ?_
              refine WL.p (by rfl) (Yl.move (by rfl)) ?_
              refine WL.skip (d := 59) (by rfl) (by rfl) (by rfl) (by rfl) ?_
              refine WL.skip (d := 59) (by rfl) (by rfl) (by rfl) (by rfl) ?_
              refine WL.skip (d := 59) (by rfl) (by rfl) (by rfl) (by rfl) ?_
              refine WL.skip (d := 59) (by rfl) (by rfl) (by rfl) (by rfl) ?_
              refine WL.skip (d := 59) (by rfl) (by rfl) (by rfl) (by rfl) ?_
              refine WL.p (by rfl) (Yl.pickF (by rfl) (by rfl)) ?_
              refine WL.p (by rfl) (Yl.move (by rfl)) ?_
              refine WL.skip (d := 66) (by rfl) (by rfl) (by rfl) (by rfl) ?_
              refine WL.skip (d := 66) (by rfl) (by rfl) (by rfl) (by rfl) ?_
              refine WL.skip (d := 66) (by rfl) (by rfl) (by rfl) (by rfl) ?_
              refine WL.skip (d := 66) (by rfl) (by rfl) (by rfl) (by rfl) ?_
              refine WL.skip (d := 66) (by rfl) (by rfl) (by rfl) (by rfl) ?_
              refine WL.p (by rfl) (Yl.pickF (by rfl) (by rfl)) ?_
              refine WL.p (by rfl) (Yl.move (by rfl)) ?_
              refine WL.skip (d := 73) (by rfl) (by rfl) (by rfl) (by rfl) ?_
              refine WL.skip (d := 73) (by rfl) (by rfl) (by rfl) (by rfl) ?_
              refine WL.skip (d := 73) (by rfl) (by rfl) (by rfl) (by rfl) ?_
              refine WL.skip (d := 73) (by rfl) (by rfl) (by rfl) (by rfl) ?_
              refine WL.skip (d := 73) (by rfl) (by rfl) (by rfl) (by rfl) ?_
              refine WL.p (by rfl) (Yl.pickF (by rfl) (by rfl)) ?_
              refine WL.p (by rfl) (Yl.move (by rfl)) ?_
              refine WL.skip (d := 80) (by rfl) (by rfl) (by rfl) (by rfl) ?_
              refine WL.skip (d := 80) (by rfl) (by rfl) (by rfl) (by rfl) ?_
              refine WL.skip (d := 80) (by rfl) (by rfl) (by rfl) (by rfl) ?_
              refine WL.skip (d := 80) (by rfl) (by rfl) (by rfl) (by rfl) ?_
              refine WL.skip (d := 80) (by rfl) (by rfl) (by rfl) (by rfl) ?_
              refine WL.p (by rfl) (Yl.pickF (by rfl) (by rfl)) ?_
              refine WL.p (by rfl) (Yl.move (by rfl)) ?_
              refine WL.skip (d := 87) (by rfl) (by rfl) (by rfl) (by rfl) ?_
              refine WL.skip (d := 87) (by rfl) (by rfl) (by rfl) (by rfl) ?_
              refine WL.skip (d := 87) (by rfl) (by rfl) (by rfl) (by rfl) ?_
              refine WL.skip (d := 87) (by rfl) (by rfl) (by rfl) (by rfl) ?_
              refine WL.skip (d := 87) (by rfl) (by rfl) (by rfl) (by rfl) ?_
              refine WL.p (by rfl) (Yl.pickF (by rfl) (by rfl)) ?_
              refine WL.p (by rfl) (Yl.move (by rfl)) ?_
              refine WL.skip (d := 94) (by rfl) (by rfl) (by rfl) (by rfl) ?_
              refine WL.skip (d := 94) (by rfl) (by rfl) (by rfl) (by rfl) ?_
              refine WL.skip (d := 94) (by rfl) (by rfl) (by rfl) (by rfl) ?_
              refine WL.skip (d := 94) (by rfl) (by rfl) (by rfl) (by rfl) ?_
              refine WL.skip (d := 94) (by rfl) (by rfl) (by rfl) (by rfl) ?_
              refine WL.p (by rfl) (Yl.pickF (by rfl) (by rfl)) ?_
              refine WL.p (by rfl) (Yl.move (by rfl)) ?_
              refine WL.skip (d := 101) (by rfl) (by rfl) (by rfl) (by rfl) ?_
              refine WL.skip (d := 101) (by rfl) (by rfl) (by rfl) (by rfl) ?_
              refine WL.skip (d := 101) (by rfl) (by rfl) (by rfl) (by rfl) ?_
              refine WL.skip (d := 101) (by rfl) (by rfl) (by rfl) (by rfl) ?_
              refine WL.skip (d := 101) (by rfl) (by rfl) (by rfl) (by rfl) ?_
              refine WL.p (by rfl) (Yl.pickF (by rfl) (by rfl)) ?_
              refine WL.p (by rfl) (Yl.move (by rfl)) ?_
              refine WL.skip (d := 108) (by rfl) (by rfl) (by rfl) (by rfl) ?_
              refine WL.skip (d := 108) (by rfl) (by rfl) (by rfl) (by rfl) ?_
              refine WL.skip (d := 108) (by rfl) (by rfl) (by rfl) (by rfl) ?_
              refine WL.skip (d := 108) (by rfl) (by rfl) (by rfl) (by rfl) ?_
              refine WL.skip (d := 108) (by rfl) (by rfl) (by rfl) (by rfl) ?_
              refine WL.p (by rfl) (Yl.pickF (by rfl) (by rfl)) ?_
              refine WL.p (by rfl) (Yl.assign (by rfl)) ?_
              refine WL.next ?_
              refine WC.ret ?_
              refine fin1' rfl (by rfl) ?_
              refine RetP.mk hs ?_
              try simp only [eqWith_map] at *
              simp_all [TPage.ext_iff, Bool.beq_eq_decide_eq]
          ·
            replace h5 := beq_false h5
            refine WL.skip (d := 38) (by rfl) (by rfl) (by rfl) (by rfl) ?_
            refine WL.skip (d := 38) (by rfl) (by rfl) (by rfl) (by rfl) ?_
            refine WL.skip (d := 38) (by rfl) (by rfl) (by rfl) (by rfl) ?_
            refine WL.skip (d := 38) (by rfl) (by rfl) (by rfl) (by rfl) ?_
            refine WL.skip (d := 38) (by rfl) (by rfl) (by rfl) (by rfl) ?_
            refine WL.p (by rfl) (Yl.pickF (by rfl) (by rfl)) ?_
            refine WL.p (by rfl) (Yl.move (by rfl)) ?_
            refine WL.skip (d := 45) (by rfl) (by rfl) (by rfl) (by rfl) ?_
            refine WL.skip (d := 45) (by rfl) (by rfl) (by rfl) (by rfl) ?_
            refine WL.skip (d := 45) (by rfl) (by rfl) (by rfl) (by rfl) ?_
            refine WL.skip (d := 45) (by rfl) (by rfl) (by rfl) (by rfl) ?_
            refine WL.skip (d := 45) (by rfl) (by rfl) (by rfl) (by rfl) ?_
            refine WL.p (by rfl) (Yl.pickF (by rfl) (by rfl)) ?_
            refine WL.p (by rfl) (Yl.move (by rfl)) ?_
            refine WL.skip (d := 52) (by rfl) (by rfl) (by rfl) (by rfl) ?_
            refine WL.skip (d := 52) (by rfl) (by rfl) (by rfl) (by rfl) ?_
            refine WL.skip (d := 52) (by rfl) (by rfl) (by rfl) (by rfl) ?_
            refine WL.skip (d := 52) (by rfl) (by rfl) (by rfl) (by rfl) ?_
            refine WL.skip (d := 52) (by rfl) (by rfl) (by rfl) (by rfl) ?_
            refine WL.p (by rfl) (Yl.pickF (by rfl) (by rfl)) ?_
            refine WL.p (by rfl) (Yl.move (by rfl)) ?_
            refine WL.skip (d := 59) (by rfl) (by rfl) (by rfl) (by rfl) ?_
            refine WL.skip (d := 59) (by rfl) (by rfl) (by rfl) (by rfl) ?_
            refine WL.skip (d := 59) (by rfl) (by rfl) (by rfl) (by rfl) ?_
            refine WL.skip (d := 59) (by rfl) (by rfl) (by rfl) (by rfl) ?_
            refine WL.skip (d := 59) (by rfl) (by rfl) (by rfl) (by rfl) ?_
            refine WL.p (by rfl) (Yl.pickF (by rfl) (by rfl)) ?_
            refine WL.p (by rfl) (Yl.move (by rfl)) ?_
            refine WL.skip (d := 66) (by rfl) (by rfl) (by rfl) (by rfl) ?_
            refine WL.skip (d := 66) (by rfl) (by rfl) (by rfl) (by rfl) ?_
            refine WL.skip (d := 66) (by rfl) (by rfl) (by rfl) (by rfl) ?_
            refine WL.skip (d := 66) (by rfl) (by rfl) (by rfl) (by rfl) ?_
            refine WL.skip (d := 66) (by rfl) (by rfl) (by rfl) (by rfl) ?_
            refine WL.p (by rfl) (Yl.pickF (by rfl) (by rfl)) ?_
            refine WL.p (by rfl) (Yl.move (by rfl)) ?_
            refine WL.skip (d := 73) (by rfl) (by rfl) (by rfl) (by rfl) ?_
            refine WL.skip (d := 73) (by rfl) (by rfl) (by rfl) (by rfl) ?_
            refine WL.skip (d := 73) (by rfl) (by rfl) (by rfl) (by rfl) ?_
            refine WL.skip (d := 73) (by rfl) (by rfl) (by rfl) (by rfl) ?_
            refine WL.skip (d := 73) (by rfl) (by rfl) (by rfl) (by rfl) ?_
            refine WL.p (by rfl) (Yl.pickF (by rfl) (by rfl)) ?_
            refine WL.p (by rfl) (Yl.move (by rfl)) ?_
            refine WL.skip (d := 80) (by rfl) (by rfl) (by rfl) (by rfl) ?_
            refine WL.skip (d := 80) (by rfl) (by rfl) (by rfl) (by rfl) ?_
            refine WL.skip (d := 80) (by rfl) (by rfl) (by rfl) (by rfl) ?_
            refine WL.skip (d := 80) (by rfl) (by rfl) (by rfl) (by rfl) ?_
            refine WL.skip (d := 80) (by rfl) (by rfl) (by rfl) (by rfl) ?_
            refine WL.p (by rfl) (Yl.pickF (by rfl) (by rfl)) ?_
            refine WL.p (by rfl) (Yl.move (by rfl)) ?_
            refine WL.skip (d := 87) (by rfl) (by rfl) (by rfl) (by rfl) ?_
            refine WL.skip (d := 87) (by rfl) (by rfl) (by rfl) (by rfl) ?_
            refine WL.skip (d := 87) (by rfl) (by rfl) (by rfl) (by rfl) ?_
            refine WL.skip (d := 87) (by rfl) (by rfl) (by rfl) (by rfl) ?_
            refine WL.skip (d := 87) (by rfl) (by rfl) (by rfl) (by rfl) ?_
            refine WL.p (by rfl) (Yl.pickF (by rfl) (by rfl)) ?_
            refine WL.p (by rfl) (Yl.move (by rfl)) ?_
            refine WL.skip (d := 94) (by rfl) (by rfl) (by rfl) (by rfl) ?_
            refine WL.skip (d := 94) (by rfl) (by rfl) (by rfl) (by rfl) ?_
            refine WL.skip (d := 94) (by rfl) (by rfl) (by rfl) (by rfl) ?_
            refine WL.skip (d := 94) (by rfl) (by rfl) (by rfl) (by rfl) ?_
            refine WL.skip (d := 94) (by rfl) (by rfl) (by rfl) (by rfl) ?_
            refine WL.p (by rfl) (Yl.pickF (by rfl) (by rfl)) ?_
            refine WL.p (by rfl) (Yl.move (by rfl)) ?_
            refine WL.skip (d := 101) (by rfl) (by rfl) (by rfl) (by rfl) ?_
            refine WL.skip (d := 101) (by rfl) (by rfl) (by rfl) (by rfl) ?_
            refine WL.skip (d := 101) (by rfl) (by rfl) (by rfl) (by rfl) ?_
            refine WL.skip (d := 101) (by rfl) (by rfl) (by rfl) (by rfl) ?_
            refine WL.skip (d := 101) (by rfl) (by rfl) (by rfl) (by rfl) ?_
            refine WL.p (by rfl) (Yl.pickF (by rfl) (by rfl)) ?_
            refine WL.p (by rfl) (Yl.move (by rfl)) ?_
            refine WL.skip (d := 108) (by rfl) (by rfl) (by rfl) (by rfl) ?_
            refine WL.skip (d := 108) (by rfl) (by rfl) (by rfl) (by rfl) ?_
            refine WL.skip (d := 108) (by rfl) (by rfl) (by rfl) (by rfl) ?_
            refine WL.skip (d := 108) (by rfl) (by rfl) (by rfl) (by rfl) ?_
            refine WL.skip (d := 108) (by rfl) (by rfl) (by rfl) (by rfl) ?_
            refine WL.p (by rfl) (Yl.pickF (by rfl) (by rfl)) ?_
            refine WL.p (by rfl) (Yl.assign (by rfl)) ?_
            refine WL.next ?_
            refine WC.ret ?_
            refine fin1' rfl (by rfl) ?_
            refine RetP.mk hs ?_
            try simp only [eqWith_map] at *
            simp_all [TPage.ext_iff, Bool.beq_eq_decide_eq]
        ·
          refine WL.skip (d := 31) (by rfl) (by rfl) (by rfl) (by rfl) ?_
          refine WL.skip (d := 31) (by rfl) (by rfl) (by rfl) (by rfl) ?_
          refine WL.skip (d := 31) (by rfl) (by rfl) (by rfl) (by rfl) ?_
          refine WL.skip (d := 31) (by rfl) (by rfl) (by rfl) (by rfl) ?_
          refine WL.skip (d := 31) (by rfl) (by rfl) (by rfl) (by rfl) ?_
          refine WL.p (by rfl) (Yl.pickF (by rfl) (by rfl)) ?_
          refine WL.p (by rfl) (Yl.move (by rfl)) ?_
          refine WL.skip (d := 38) (by rfl) (by rfl) (by rfl) (by rfl) ?_
          refine WL.skip (d := 38) (by rfl) (by rfl) (by rfl) (by rfl) ?_
          refine WL.skip (d := 38) (by rfl) (by rfl) (by rfl) (by rfl) ?_
          refine WL.skip (d := 38) (by rfl) (by rfl) (by rfl) (by rfl) ?_
          refine WL.skip (d := 38) (by rfl) (by rfl) (by rfl) (by rfl) ?_
          refine WL.p (by rfl) (Yl.pickF (by rfl) (by rfl)) ?_
          refine WL.p (by rfl) (Yl.move (by rfl)) ?_
          refine WL.skip (d := 45) (by rfl) (by rfl) (by rfl) (by rfl) ?_
          refine WL.skip (d := 45) (by rfl) (by rfl) (by rfl) (by rfl) ?_
          refine WL.skip (d := 45) (by rfl) (by rfl) (by rfl) (by rfl) ?_
          refine WL.skip (d := 45) (by rfl) (by rfl) (by rfl) (by rfl) ?_
          refine WL.skip (d := 45) (by rfl) (by rfl) (by rfl) (by rfl) ?_
          refine WL.p (by rfl) (Yl.pickF (by rfl) (by rfl)) ?_
          refine WL.p (by rfl) (Yl.move (by rfl)) ?_
          refine WL.skip (d := 52) (by rfl) (by rfl) (by rfl) (by rfl) ?_
          refine WL.skip (d := 52) (by rfl) (by rfl) (by rfl) (by rfl) ?_
          refine WL.skip (d := 52) (by rfl) (by rfl) (by rfl) (by rfl) ?_
          refine WL.skip (d := 52) (by rfl) (by rfl) (by rfl) (by rfl) ?_
          refine WL.skip (d := 52) (by rfl) (by rfl) (by rfl) (by rfl) ?_
          refine WL.p (by rfl) (Yl.pickF (by rfl) (by rfl)) ?_
          refine WL.p (by rfl) (Yl.move (by rfl)) ?_
          refine WL.skip (d := 59) (by rfl) (by rfl) (by rfl) (by rfl) ?_
          refine WL.skip (d := 59) (by rfl) (by rfl) (by rfl) (by rfl) ?_
          refine WL.skip (d := 59) (by rfl) (by rfl) (by rfl) (by rfl) ?_
          refine WL.skip (d := 59) (by rfl) (by rfl) (by rfl) (by rfl) ?_
          refine WL.skip (d := 59) (by rfl) (by rfl) (by rfl) (by rfl) ?_
          refine WL.p (by rfl) (Yl.pickF (by rfl) (by rfl)) ?_
          refine WL.p (by rfl) (Yl.move (by rfl)) ?_
          refine WL.skip (d := 66) (by rfl) (by rfl) (by rfl) (by rfl) ?_
          refine WL.skip (d := 66) (by rfl) (by rfl) (by rfl) (by rfl) ?_
          refine WL.skip (d := 66) (by rfl) (by rfl) (by rfl) (by rfl) ?_
          refine WL.skip (d := 66) (by rfl) (by rfl) (by rfl) (by rfl) ?_
          refine WL.skip (d := 66) (by rfl) (by rfl) (by rfl) (by rfl) ?_
          refine WL.p (by rfl) (Yl.pickF (by rfl) (by rfl)) ?_
          refine WL.p (by rfl) (Yl.move (by rfl)) ?_
          refine WL.skip (d := 73) (by rfl) (by rfl) (by rfl) (by rfl) ?_
          refine WL.skip (d := 73) (by rfl) (by rfl) (by rfl) (by rfl) ?_
          refine WL.skip (d := 73) (by rfl) (by rfl) (by rfl) (by rfl) ?_
          refine WL.skip (d := 73) (by rfl) (by rfl) (by rfl) (by rfl) ?_
          refine WL.skip (d := 73) (by rfl) (by rfl) (by rfl) (by rfl) ?_
          refine WL.p (by rfl) (Yl.pickF (by rfl) (by rfl)) ?_
          refine WL.p (by rfl) (Yl.move (by rfl)) ?_
          refine WL.skip (d := 80) (by rfl) (by rfl) (by rfl) (by rfl) ?_
          refine WL.skip (d := 80) (by rfl) (by rfl) (by rfl) (by rfl) ?_
          refine WL.skip (d := 80) (by rfl) (by rfl) (by rfl) (by rfl) ?_
          refine WL.skip (d := 80) (by rfl) (by rfl) (by rfl) (by rfl) ?_
          refine WL.skip (d := 80) (by rfl) (by rfl) (by rfl) (by rfl) ?_
          refine WL.p (by rfl) (Yl.pickF (by rfl) (by rfl)) ?_
          refine WL.p (by rfl) (Yl.move (by rfl)) ?_
          refine WL.skip (d := 87) (by rfl) (by rfl) (by rfl) (by rfl) ?_
          refine WL.skip (d := 87) (by rfl) (by rfl) (by rfl) (by rfl) ?_
          refine WL.skip (d := 87) (by rfl) (by rfl) (by rfl) (by rfl) ?_
          refine WL.skip (d := 87) (by rfl) (by rfl) (by rfl) (by rfl) ?_
          refine WL.skip (d := 87) (by rfl) (by rfl) (by rfl) (by rfl) ?_
          refine WL.p (by rfl) (Yl.pickF (by rfl) (by rfl)) ?_
          refine WL.p (by rfl) (Yl.move (by rfl)) ?_
          refine WL.skip (d := 94) (by rfl) (by rfl) (by rfl) (by rfl) ?_
          refine WL.skip (d := 94) (by rfl) (by rfl) (by rfl) (by rfl) ?_
          refine WL.skip (d := 94) (by rfl) (by rfl) (by rfl) (by rfl) ?_
          refine WL.skip (d := 94) (by rfl) (by rfl) (by rfl) (by rfl) ?_
          refine WL.skip (d := 94) (by rfl) (by rfl) (by rfl) (by rfl) ?_
          refine WL.p (by rfl) (Yl.pickF (by rfl) (by rfl)) ?_
          refine WL.p (by rfl) (Yl.move (by rfl)) ?_
          refine WL.skip (d := 101) (by rfl) (by rfl) (by rfl) (by rfl) ?_
          refine WL.skip (d := 101) (by rfl) (by rfl) (by rfl) (by rfl) ?_
          refine WL.skip (d := 101) (by rfl) (by rfl) (by rfl) (by rfl) ?_
          refine WL.skip (d := 101) (by rfl) (by rfl) (by rfl) (by rfl) ?_
          refine WL.skip (d := 101) (by rfl) (by rfl) (by rfl) (by rfl) ?_
          refine WL.p (by rfl) (Yl.pickF (by rfl) (by rfl)) ?_
          refine WL.p (by rfl) (Yl.move (by rfl)) ?_
          refine WL.skip (d := 108) (by rfl) (by rfl) (by rfl) (by rfl) ?_
          refine WL.skip (d := 108) (by rfl) (by rfl) (by rfl) (by rfl) ?_
          refine WL.skip (d := 108) (by rfl) (by rfl) (by rfl) (by rfl) ?_
          refine WL.skip (d := 108) (by rfl) (by rfl) (by rfl) (by rfl) ?_
          refine WL.skip (d := 108) (by rfl) (by rfl) (by rfl) (by rfl) ?_
          refine WL.p (by rfl) (Yl.pickF (by rfl) (by rfl)) ?_
          refine WL.p (by rfl) (Yl.assign (by rfl)) ?_
          refine WL.next ?_
          refine WC.ret ?_
          refine fin1' rfl (by rfl) ?_
          refine RetP.mk hs ?_
          try simp only [eqWith_map] at *
          simp_all [TPage.ext_iff, Bool.beq_eq_decide_eq]
      ·
        replace h3 := of_decide_eq_false h3
        refine WL.skip (d := 24) (by rfl) (by rfl) (by rfl) (by rfl) ?_
        refine WL.skip (d := 24) (by rfl) (by rfl) (by rfl) (by rfl) ?_
        refine WL.skip (d := 24) (by rfl) (by rfl) (by rfl) (by rfl) ?_
        refine WL.skip (d := 24) (by rfl) (by rfl) (by rfl) (by rfl) ?_
        refine WL.skip (d := 24) (by rfl) (by rfl) (by rfl) (by rfl) ?_
        refine WL.p (by rfl) (Yl.pickF (by rfl) (by rfl)) ?_
        refine WL.p (by rfl) (Yl.move (by rfl)) ?_
        refine WL.skip (d := 31) (by rfl) (by rfl) (by rfl) (by rfl) ?_
        refine WL.skip (d := 31) (by rfl) (by rfl) (by rfl) (by rfl) ?_
        refine WL.skip (d := 31) (by rfl) (by rfl) (by rfl) (by rfl) ?_
        refine WL.skip (d := 31) (by rfl) (by rfl) (by rfl) (by rfl) ?_
        refine WL.skip (d := 31) (by rfl) (by rfl) (by rfl) (by rfl) ?_
        refine WL.p (by rfl) (Yl.pickF (by rfl) (by rfl)) ?_
        refine WL.p (by rfl) (Yl.move (by rfl)) ?_
        refine WL.skip (d := 38) (by rfl) (by rfl) (by rfl) (by rfl) ?_
        refine WL.skip (d := 38) (by rfl) (by rfl) (by rfl) (by rfl) ?_
        refine WL.skip (d := 38) (by rfl) (by rfl) (by rfl) (by rfl) ?_
        refine WL.skip (d := 38) (by rfl) (by rfl) (by rfl) (by rfl) ?_
        refine WL.skip (d := 38) (by rfl) (by rfl) (by rfl) (by rfl) ?_
        refine WL.p (by rfl) (Yl.pickF (by rfl) (by rfl)) ?_
        refine WL.p (by rfl) (Yl.move (by rfl)) ?_
        refine WL.skip (d := 45) (by rfl) (by rfl) (by rfl) (by rfl) ?_
        refine WL.skip (d := 45) (by rfl) (by rfl) (by rfl) (by rfl) ?_
        refine WL.skip (d := 45) (by rfl) (by rfl) (by rfl) (by rfl) ?_
        refine WL.skip (d := 45) (by rfl) (by rfl) (by rfl) (by rfl) ?_
        refine WL.skip (d := 45) (by rfl) (by rfl) (by rfl) (by rfl) ?_
        refine WL.p (by rfl) (Yl.pickF (by rfl) (by rfl)) ?_
        refine WL.p (by rfl) (Yl.move (by rfl)) ?_
        refine WL.skip (d := 52) (by rfl) (by rfl) (by rfl) (by rfl) ?_
        refine WL.skip (d := 52) (by rfl) (by rfl) (by rfl) (by rfl) ?_
        refine WL.skip (d := 52) (by rfl) (by rfl) (by rfl) (by rfl) ?_
        refine WL.skip (d := 52) (by rfl) (by rfl) (by rfl) (by rfl) ?_
        refine WL.skip (d := 52) (by rfl) (by rfl) (by rfl) (by rfl) ?_
        refine WL.p (by rfl) (Yl.pickF (by rfl) (by rfl)) ?_
        refine WL.p (by rfl) (Yl.move (by rfl)) ?_
        refine WL.skip (d := 59) (by rfl) (by rfl) (by rfl) (by rfl) ?_
        refine WL.skip (d := 59) (by rfl) (by rfl) (by rfl) (by rfl) ?_
        refine WL.skip (d := 59) (by rfl) (by rfl) (by rfl) (by rfl) ?_
        refine WL.skip (d := 59) (by rfl) (by rfl) (by rfl) (by rfl) ?_
        refine WL.skip (d := 59) (by rfl) (by rfl) (by rfl) (by rfl) ?_
        refine WL.p (by rfl) (Yl.pickF (by rfl) (by rfl)) ?_
        refine WL.p (by rfl) (Yl.move (by rfl)) ?_
        refine WL.skip (d := 66) (by rfl) (by rfl) (by rfl) (by rfl) ?_
        refine WL.skip (d := 66) (by rfl) (by rfl) (by rfl) (by rfl) ?_
        refine WL.skip (d := 66) (by rfl) (by rfl) (by rfl) (by rfl) ?_
        refine WL.skip (d := 66) (by rfl) (by rfl) (by rfl) (by rfl) ?_
        refine WL.skip (d := 66) (by rfl) (by rfl) (by rfl) (by rfl) ?_
        refine WL.p (by rfl) (Yl.pickF (by rfl) (by rfl)) ?_
        refine WL.p (by rfl) (Yl.move (by rfl)) ?_
        refine WL.skip (d := 73) (by rfl) (by rfl) (by rfl) (by rfl) ?_
        refine WL.skip (d := 73) (by rfl) (by rfl) (by rfl) (by rfl) ?_
        refine WL.skip (d := 73) (by rfl) (by rfl) (by rfl) (by rfl) ?_
        refine WL.skip (d := 73) (by rfl) (by rfl) (by rfl) (by rfl) ?_
        refine WL.skip (d := 73) (by rfl) (by rfl) (by rfl) (by rfl) ?_
        refine WL.p (by rfl) (Yl.pickF (by rfl) (by rfl)) ?_
        refine WL.p (by rfl) (Yl.move (by rfl)) ?_
        refine WL.skip (d := 80) (by rfl) (by rfl) (by rfl) (by rfl) ?_
        refine WL.skip (d := 80) (by rfl) (by rfl) (by rfl) (by rfl) ?_
        refine WL.skip (d := 80) (by rfl) (by rfl) (by rfl) (by rfl) ?_
        refine WL.skip (d := 80) (by rfl) (by rfl) (by rfl) (by rfl) ?_
        refine WL.skip (d := 80) (by rfl) (by rfl) (by rfl) (by rfl) ?_
        refine WL.p (by rfl) (Yl.pickF (by rfl) (by rfl)) ?_
        refine WL.p (by rfl) (Yl.move (by rfl)) ?_
        refine WL.skip (d := 87) (by rfl) (by rfl) (by rfl) (by rfl) ?_
        refine WL.skip (d := 87) (by rfl) (by rfl) (by rfl) (by rfl) ?_
        refine WL.skip (d := 87) (by rfl) (by rfl) (by rfl) (by rfl) ?_
        refine WL.skip (d := 87) (by rfl) (by rfl) (by rfl) (by rfl) ?_
        refine WL.skip (d := 87) (by rfl) (by rfl) (by rfl) (by rfl) ?_
        refine WL.p (by rfl) (Yl.pickF (by rfl) (by rfl)) ?_
        refine WL.p (by rfl) (Yl.move (by rfl)) ?_
        refine WL.skip (d := 94) (by rfl) (by rfl) (by rfl) (by rfl) ?_
        refine WL.skip (d := 94) (by rfl) (by rfl) (by rfl) (by rfl) ?_
        refine WL.skip (d := 94) (by rfl) (by rfl) (by rfl) (by rfl) ?_
        refine WL.skip (d := 94) (by rfl) (by rfl) (by rfl) (by rfl) ?_
        refine WL.skip (d := 94) (by rfl) (by rfl) (by rfl) (by rfl) ?_
        refine WL.p (by rfl) (Yl.pickF (by rfl) (by rfl)) ?_
        refine WL.p (by rfl) (Yl.move (by rfl)) ?_
        refine WL.skip (d := 101) (by rfl) (by rfl) (by rfl) (by rfl) ?_
        refine WL.skip (d := 101) (by rfl) (by rfl) (by rfl) (by rfl) ?_
        refine WL.skip (d := 101) (by rfl) (by rfl) (by rfl) (by rfl) ?_
        refine WL.skip (d := 101) (by rfl) (by rfl) (by rfl) (by rfl) ?_
        refine WL.skip (d := 101) (by rfl) (by rfl) (by rfl) (by rfl) ?_
        refine WL.p (by rfl) (Yl.pickF (by rfl) (by rfl)) ?_
        refine WL.p (by rfl) (Yl.move (by rfl)) ?_
        refine WL.skip (d := 108) (by rfl) (by rfl) (by rfl) (by rfl) ?_
        refine WL.skip (d := 108) (by rfl) (by rfl) (by rfl) (by rfl) ?_
        refine WL.skip (d := 108) (by rfl) (by rfl) (by rfl) (by rfl) ?_
        refine WL.skip (d := 108) (by rfl) (by rfl) (by rfl) (by rfl) ?_
        refine WL.skip (d := 108) (by rfl) (by rfl) (by rfl) (by rfl) ?_
        refine WL.p (by rfl) (Yl.pickF (by rfl) (by rfl)) ?_
        refine WL.p (by rfl) (Yl.assign (by rfl)) ?_
        refine WL.next ?_
        refine WC.ret ?_
        refine fin1' rfl (by rfl) ?_
        refine RetP.mk hs ?_
        try simp only [eqWith_map] at *
        simp_all [TPage.ext_iff, Bool.beq_eq_decide_eq]
    ·
      replace h2 := of_decide_eq_false h2
      refine WL.skip (d := 17) (by rfl) (by rfl) (by rfl) (by rfl) ?_
      refine WL.skip (d := 17) (by rfl) (by rfl) (by rfl) (by rfl) ?_
      refine WL.skip (d := 17) (by rfl) (by rfl) (by rfl) (by rfl) ?_
      refine WL.skip (d := 17) (by rfl) (by rfl) (by rfl) (by rfl) ?_
      refine WL.skip (d := 17) (by rfl) (by rfl) (by rfl) (by rfl) ?_
      refine WL.p (by rfl) (Yl.pickF (by rfl) (by rfl)) ?_
      refine WL.p (by rfl) (Yl.move (by rfl)) ?_
      refine WL.skip (d := 24) (by rfl) (by rfl) (by rfl) (by rfl) ?_
      refine WL.skip (d := 24) (by rfl) (by rfl) (by rfl) (by rfl) ?_
      refine WL.skip (d := 24) (by rfl) (by rfl) (by rfl) (by rfl) ?_
      refine WL.skip (d := 24) (by rfl) (by rfl) (by rfl) (by rfl) ?_
      refine WL.skip (d := 24) (by rfl) (by rfl) (by rfl) (by rfl) ?_
      refine WL.p (by rfl) (Yl.pickF (by rfl) (by rfl)) ?_
      refine WL.p (by rfl) (Yl.move (by rfl)) ?_
      refine WL.skip (d := 31) (by rfl) (by rfl) (by rfl) (by rfl) ?_
      refine WL.skip (d := 31) (by rfl) (by rfl) (by rfl) (by rfl) ?_
      refine WL.skip (d := 31) (by rfl) (by rfl) (by rfl) (by rfl) ?_
      refine WL.skip (d := 31) (by rfl) (by rfl) (by rfl) (by rfl) ?_
      refine WL.skip (d := 31) (by rfl) (by rfl) (by rfl) (by rfl) ?_
      refine WL.p (by rfl) (Yl.pickF (by rfl) (by rfl)) ?_
      refine WL.p (by rfl) (Yl.move (by rfl)) ?_
      refine WL.skip (d := 38) (by rfl) (by rfl) (by rfl) (by rfl) ?_
      refine WL.skip (d := 38) (by rfl) (by rfl) (by rfl) (by rfl) ?_
      refine WL.skip (d := 38) (by rfl) (by rfl) (by rfl) (by rfl) ?_
      refine WL.skip (d := 38) (by rfl) (by rfl) (by rfl) (by rfl) ?_
      refine WL.skip (d := 38) (by rfl) (by rfl) (by rfl) (by rfl) ?_
      refine WL.p (by rfl) (Yl.pickF (by rfl) (by rfl)) ?_
      refine WL.p (by rfl) (Yl.move (by rfl)) ?_
      refine WL.skip (d := 45) (by rfl) (by rfl) (by rfl) (by rfl) ?_
      refine WL.skip (d := 45) (by rfl) (by rfl) (by rfl) (by rfl) ?_
      refine WL.skip (d := 45) (by rfl) (by rfl) (by rfl) (by rfl) ?_
      refine WL.skip (d := 45) (by rfl) (by rfl) (by rfl) (by rfl) ?_
      refine WL.skip (d := 45) (by rfl) (by rfl) (by rfl) (by rfl) ?_
      refine WL.p (by rfl) (Yl.pickF (by rfl) (by rfl)) ?_
      refine WL.p (by rfl) (Yl.move (by rfl)) ?_
      refine WL.skip (d := 52) (by rfl) (by rfl) (by rfl) (by rfl) ?_
      refine WL.skip (d := 52) (by rfl) (by rfl) (by rfl) (by rfl) ?_
      refine WL.skip (d := 52) (by rfl) (by rfl) (by rfl) (by rfl) ?_
      refine WL.skip (d := 52) (by rfl) (by rfl) (by rfl) (by rfl) ?_
      refine WL.skip (d := 52) (by rfl) (by rfl) (by rfl) (by rfl) ?_
      refine WL.p (by rfl) (Yl.pickF (by rfl) (by rfl)) ?_
      refine WL.p (by rfl) (Yl.move (by rfl)) ?_
      refine WL.skip (d := 59) (by rfl) (by rfl) (by rfl) (by rfl) ?_
      refine WL.skip (d := 59) (by rfl) (by rfl) (by rfl) (by rfl) ?_
      refine WL.skip (d := 59) (by rfl) (by rfl) (by rfl) (by rfl) ?_
      refine WL.skip (d := 59) (by rfl) (by rfl) (by rfl) (by rfl) ?_
      refine WL.skip (d := 59) (by rfl) (by rfl) (by rfl) (by rfl) ?_
      refine WL.p (by rfl) (Yl.pickF (by rfl) (by rfl)) ?_
      refine WL.p (by rfl) (Yl.move (by rfl)) ?_
      refine WL.skip (d := 66) (by rfl) (by rfl) (by rfl) (by rfl) ?_
      refine WL.skip (d := 66) (by rfl) (by rfl) (by rfl) (by rfl) ?_
      refine WL.skip (d := 66) (by rfl) (by rfl) (by rfl) (by rfl) ?_
      refine WL.skip (d := 66) (by rfl) (by rfl) (by rfl) (by rfl) ?_
      refine WL.skip (d := 66) (by rfl) (by rfl) (by rfl) (by rfl) ?_
      refine WL.p (by rfl) (Yl.pickF (by rfl) (by rfl)) ?_
      refine WL.p (by rfl) (Yl.move (by rfl)) ?_
      refine WL.skip (d := 73) (by rfl) (by rfl) (by rfl) (by rfl) ?_
      refine WL.skip (d := 73) (by rfl) (by rfl) (by rfl) (by rfl) ?_
      refine WL.skip (d := 73) (by rfl) (by rfl) (by rfl) (by rfl) ?_
      refine WL.skip (d := 73) (by rfl) (by rfl) (by rfl) (by rfl) ?_
      refine WL.skip (d := 73) (by rfl) (by rfl) (by rfl) (by rfl) ?_
      refine WL.p (by rfl) (Yl.pickF (by rfl) (by rfl)) ?_
      refine WL.p (by rfl) (Yl.move (by rfl)) ?_
      refine WL.skip (d := 80) (by rfl) (by rfl) (by rfl) (by rfl) ?_
      refine WL.skip (d := 80) (by rfl) (by rfl) (by rfl) (by rfl) ?_
      refine WL.skip (d := 80) (by rfl) (by rfl) (by rfl) (by rfl) ?_
      refine WL.skip (d := 80) (by rfl) (by rfl) (by rfl) (by rfl) ?_
      refine WL.skip (d := 80) (by rfl) (by rfl) (by rfl) (by rfl) ?_
      refine WL.p (by rfl) (Yl.pickF (by rfl) (by rfl)) ?_
      refine WL.p (by rfl) (Yl.move (by rfl)) ?_
      refine WL.skip (d := 87) (by rfl) (by rfl) (by rfl) (by rfl) ?_
      refine WL.skip (d := 87) (by rfl) (by rfl) (by rfl) (by rfl) ?_
      refine WL.skip (d := 87) (by rfl) (by rfl) (by rfl) (by rfl) ?_
      refine WL.skip (d := 87) (by rfl) (by rfl) (by rfl) (by rfl) ?_
      refine WL.skip (d := 87) (by rfl) (by rfl) (by rfl) (by rfl) ?_
      refine WL.p (by rfl) (Yl.pickF (by rfl) (by rfl)) ?_
      refine WL.p (by rfl) (Yl.move (by rfl)) ?_
      refine WL.skip (d := 94) (by rfl) (by rfl) (by rfl) (by rfl) ?_
      refine WL.skip (d := 94) (by rfl) (by rfl) (by rfl) (by rfl) ?_
      refine WL.skip (d := 94) (by rfl) (by rfl) (by rfl) (by rfl) ?_
      refine WL.skip (d := 94) (by rfl) (by rfl) (by rfl) (by rfl) ?_
      refine WL.skip (d := 94) (by rfl) (by rfl) (by rfl) (by rfl) ?_
      refine WL.p (by rfl) (Yl.pickF (by rfl) (by rfl)) ?_
      refine WL.p (by rfl) (Yl.move (by rfl)) ?_
      refine WL.skip (d := 101) (by rfl) (by rfl) (by rfl) (by rfl) ?_
      refine WL.skip (d := 101) (by rfl) (by rfl) (by rfl) (by rfl) ?_
      refine WL.skip (d := 101) (by rfl) (by rfl) (by rfl) (by rfl) ?_
      refine WL.skip (d := 101) (by rfl) (by rfl) (by rfl) (by rfl) ?_
      refine WL.skip (d := 101) (by rfl) (by rfl) (by rfl) (by rfl) ?_
      refine WL.p (by rfl) (Yl.pickF (by rfl) (by rfl)) ?_
      refine WL.p (by rfl) (Yl.move (by rfl)) ?_
      refine WL.skip (d := 108) (by rfl) (by rfl) (by rfl) (by rfl) ?_
      refine WL.skip (d := 108) (by rfl) (by rfl) (by rfl) (by rfl) ?_
      refine WL.skip (d := 108) (by rfl) (by rfl) (by rfl) (by rfl) ?_
      refine WL.skip (d := 108) (by rfl) (by rfl) (by rfl) (by rfl) ?_
      refine WL.skip (d := 108) (by rfl) (by rfl) (by rfl) (by rfl) ?_
      refine WL.p (by rfl) (Yl.pickF (by rfl) (by rfl)) ?_
      refine WL.p (by rfl) (Yl.assign (by rfl)) ?_
      refine WL.next ?_
      refine WC.ret ?_
      refine fin1' rfl (by rfl) ?_
      refine RetP.mk hs ?_
      try simp only [eqWith_map] at *
      simp_all [TPage.ext_iff, Bool.beq_eq_decide_eq]
  ·
    replace h1 := of_decide_eq_false h1
    refine WL.skip (d := 10) (by rfl) (by rfl) (by rfl) (by rfl) ?_
    refine WL.skip (d := 10) (by rfl) (by rfl) (by rfl) (by rfl) ?_
    refine WL.skip (d := 10) (by rfl) (by rfl) (by rfl) (by rfl) ?_
    refine WL.skip (d := 10) (by rfl) (by rfl) (by rfl) (by rfl) ?_
    refine WL.skip (d := 10) (by rfl) (by rfl) (by rfl) (by rfl) ?_
    refine WL.p (by rfl) (Yl.pickF (by rfl) (by rfl)) ?_
    refine WL.p (by rfl) (Yl.move (by rfl)) ?_
    refine WL.skip (d := 17) (by rfl) (by rfl) (by rfl) (by rfl) ?_
    refine WL.skip (d := 17) (by rfl) (by rfl) (by rfl) (by rfl) ?_
    refine WL.skip (d := 17) (by rfl) (by rfl) (by rfl) (by rfl) ?_
    refine WL.skip (d := 17) (by rfl) (by rfl) (by rfl) (by rfl) ?_
    refine WL.skip (d := 17) (by rfl) (by rfl) (by rfl) (by rfl) ?_
    refine WL.p (by rfl) (Yl.pickF (by rfl) (by rfl)) ?_
    refine WL.p (by rfl) (Yl.move (by rfl)) ?_
    refine WL.skip (d := 24) (by rfl) (by rfl) (by rfl) (by rfl) ?_
    refine WL.skip (d := 24) (by rfl) (by rfl) (by rfl) (by rfl) ?_
    refine WL.skip (d := 24) (by rfl) (by rfl) (by rfl) (by rfl) ?_
    refine WL.skip (d := 24) (by rfl) (by rfl) (by rfl) (by rfl) ?_
    refine WL.skip (d := 24) (by rfl) (by rfl) (by rfl) (by rfl) ?_
    refine WL.p (by rfl) (Yl.pickF (by rfl) (by rfl)) ?_
    refine WL.p (by rfl) (Yl.move (by rfl)) ?_
    refine WL.skip (d := 31) (by rfl) (by rfl) (by rfl) (by rfl) ?_
    refine WL.skip (d := 31) (by rfl) (by rfl) (by rfl) (by rfl) ?_
    refine WL.skip (d := 31) (by rfl) (by rfl) (by rfl) (by rfl) ?_
    refine WL.skip (d := 31) (by rfl) (by rfl) (by rfl) (by rfl) ?_
    refine WL.skip (d := 31) (by rfl) (by rfl) (by rfl) (by rfl) ?_
    refine WL.p (by rfl) (Yl.pickF (by rfl) (by rfl)) ?_
    refine WL.p (by rfl) (Yl.move (by rfl)) ?_
    refine WL.skip (d := 38) (by rfl) (by rfl) (by rfl) (by rfl) ?_
    refine WL.skip (d := 38) (by rfl) (by rfl) (by rfl) (by rfl) ?_
    refine WL.skip (d := 38) (by rfl) (by rfl) (by rfl) (by rfl) ?_
    refine WL.skip (d := 38) (by rfl) (by rfl) (by rfl) (by rfl) ?_
    refine WL.skip (d := 38) (by rfl) (by rfl) (by rfl) (by rfl) ?_
    refine WL.p (by rfl) (Yl.pickF (by rfl) (by rfl)) ?_
    refine WL.p (by rfl) (Yl.move (by rfl)) ?_
    refine WL.skip (d := 45) (by rfl) (by rfl) (by rfl) (by rfl) ?_
    refine WL.skip (d := 45) (by rfl) (by rfl) (by rfl) (by rfl) ?_
    refine WL.skip (d := 45) (by rfl) (by rfl) (by rfl) (by rfl) ?_
    refine WL.skip (d := 45) (by rfl) (by rfl) (by rfl) (by rfl) ?_
    refine WL.skip (d := 45) (by rfl) (by rfl) (by rfl) (by rfl) ?_
    refine WL.p (by rfl) (Yl.pickF (by rfl) (by rfl)) ?_
    refine WL.p (by rfl) (Yl.move (by rfl)) ?_
    refine WL.skip (d := 52) (by rfl) (by rfl) (by rfl) (by rfl) ?_
    refine WL.skip (d := 52) (by rfl) (by rfl) (by rfl) (by rfl) ?_
    refine WL.skip (d := 52) (by rfl) (by rfl) (by rfl) (by rfl) ?_
    refine WL.skip (d := 52) (by rfl) (by rfl) (by rfl) (by rfl) ?_
    refine WL.skip (d := 52) (by rfl) (by rfl) (by rfl) (by rfl) ?_
    refine WL.p (by rfl) (Yl.pickF (by rfl) (by rfl)) ?_
    refine WL.p (by rfl) (Yl.move (by rfl)) ?_
    refine WL.skip (d := 59) (by rfl) (by rfl) (by rfl) (by rfl) ?_
    refine WL.skip (d := 59) (by rfl) (by rfl) (by rfl) (by rfl) ?_
    refine WL.skip (d := 59) (by rfl) (by rfl) (by rfl) (by rfl) ?_
    refine WL.skip (d := 59) (by rfl) (by rfl) (by rfl) (by rfl) ?_
    refine WL.skip (d := 59) (by rfl) (by rfl) (by rfl) (by rfl) ?_
    refine WL.p (by rfl) (Yl.pickF (by rfl) (by rfl)) ?_
    refine WL.p (by rfl) (Yl.move (by rfl)) ?_
    refine WL.skip (d := 66) (by rfl) (by rfl) (by rfl) (by rfl) ?_
    refine WL.skip (d := 66) (by rfl) (by rfl) (by rfl) (by rfl) ?_
    refine WL.skip (d := 66) (by rfl) (by rfl) (by rfl) (by rfl) ?_
    refine WL.skip (d := 66) (by rfl) (by rfl) (by rfl) (by rfl) ?_
    refine WL.skip (d := 66) (by rfl) (by rfl) (by rfl) (by rfl) ?_
    refine WL.p (by rfl) (Yl.pickF (by rfl) (by rfl)) ?_
    refine WL.p (by rfl) (Yl.move (by rfl)) ?_
    refine WL.skip (d := 73) (by rfl) (by rfl) (by rfl) (by rfl) ?_
    refine WL.skip (d := 73) (by rfl) (by rfl) (by rfl) (by rfl) ?_
    refine WL.skip (d := 73) (by rfl) (by rfl) (by rfl) (by rfl) ?_
    refine WL.skip (d := 73) (by rfl) (by rfl) (by rfl) (by rfl) ?_
    refine WL.skip (d := 73) (by rfl) (by rfl) (by rfl) (by rfl) ?_
    refine WL.p (by rfl) (Yl.pickF (by rfl) (by rfl)) ?_
    refine WL.p (by rfl) (Yl.move (by rfl)) ?_
    refine WL.skip (d := 80) (by rfl) (by rfl) (by rfl) (by rfl) ?_
    refine WL.skip (d := 80) (by rfl) (by rfl) (by rfl) (by rfl) ?_
    refine WL.skip (d := 80) (by rfl) (by rfl) (by rfl) (by rfl) ?_
    refine WL.skip (d := 80) (by rfl) (by rfl) (by rfl) (by rfl) ?_
    refine WL.skip (d := 80) (by rfl) (by rfl) (by rfl) (by rfl) ?_
    refine WL.p (by rfl) (Yl.pickF (by rfl) (by rfl)) ?_
    refine WL.p (by rfl) (Yl.move (by rfl)) ?_
    refine WL.skip (d := 87) (by rfl) (by rfl) (by rfl) (by rfl) ?_
    refine WL.skip (d := 87) (by rfl) (by rfl) (by rfl) (by rfl) ?_
    refine WL.skip (d := 87) (by rfl) (by rfl) (by rfl) (by rfl) ?_
    refine WL.skip (d := 87) (by rfl) (by rfl) (by rfl) (by rfl) ?_
    refine WL.skip (d := 87) (by rfl) (by rfl) (by rfl) (by rfl) ?_
    refine WL.p (by rfl) (Yl.pickF (by rfl) (by rfl)) ?_
    refine WL.p (by rfl) (Yl.move (by rfl)) ?_
    refine WL.skip (d := 94) (by rfl) (by rfl) (by rfl) (by rfl) ?_
    refine WL.skip (d := 94) (by rfl) (by rfl) (by rfl) (by rfl) ?_
    refine WL.skip (d := 94) (by rfl) (by rfl) (by rfl) (by rfl) ?_
    refine WL.skip (d := 94) (by rfl) (by rfl) (by rfl) (by rfl) ?_
    refine WL.skip (d := 94) (by rfl) (by rfl) (by rfl) (by rfl) ?_
    refine WL.p (by rfl) (Yl.pickF (by rfl) (by rfl)) ?_
    refine WL.p (by rfl) (Yl.move (by rfl)) ?_
    refine WL.skip (d := 101) (by rfl) (by rfl) (by rfl) (by rfl) ?_
    refine WL.skip (d := 101) (by rfl) (by rfl) (by rfl) (by rfl) ?_
    refine WL.skip (d := 101) (by rfl) (by rfl) (by rfl) (by rfl) ?_
    refine WL.skip (d := 101) (by rfl) (by rfl) (by rfl) (by rfl) ?_
    refine WL.skip (d := 101) (by rfl) (by rfl) (by rfl) (by rfl) ?_
    refine WL.p (by rfl) (Yl.pickF (by rfl) (by rfl)) ?_
    refine WL.p (by rfl) (Yl.move (by rfl)) ?_
    refine WL.skip (d := 108) (by rfl) (by rfl) (by rfl) (by rfl) ?_
    refine WL.skip (d := 108) (by rfl) (by rfl) (by rfl) (by rfl) ?_
    refine WL.skip (d := 108) (by rfl) (by rfl) (by rfl) (by rfl) ?_
    refine WL.skip (d := 108) (by rfl) (by rfl) (by rfl) (by rfl) ?_
    refine WL.skip (d := 108) (by rfl) (by rfl) (by rfl) (by rfl) ?_
    refine WL.p (by rfl) (Yl.pickF (by rfl) (by rfl)) ?_
    refine WL.p (by rfl) (Yl.assign (by rfl)) ?_
    refine WL.next ?_
    refine WC.ret ?_
    refine fin1' rfl (by rfl) ?_
    refine RetP.mk hs ?_
    try simp only [eqWith_map] at *
    simp_all [TPage.ext_iff, Bool.beq_eq_decide_eq]

set_option maxRecDepth 100000 in
theorem c_laws_FnExactEqualPages (aA : PPage) (aB : PPage) (w : World) (h_aA : Ph.ok w aA) (h_aB : Ph.ok w aB)  : Calls Try.prog 3 [.agg #[S aA.addr.host, S aA.addr.path, Bo aA.policy.set, Sl.v aA.policy.scripts, Sl.v aA.policy.styles, Sl.v aA.policy.images, S aA.policy.nonce, S aA.tok.rest, Sl.v aA.queue, Bo aA.ended, Sl.v aA.builder.nodes, Sl.v aA.builder.opn, Sl.v aA.slots, Sl.v aA.mods, Sl.v aA.entries, I aA.block, I aA.inln, I aA.deferred, I aA.entered, Sl.v aA.ran, Sl.v aA.log, Bo aA.loaded], .agg #[S aB.addr.host, S aB.addr.path, Bo aB.policy.set, Sl.v aB.policy.scripts, Sl.v aB.policy.styles, Sl.v aB.policy.images, S aB.policy.nonce, S aB.tok.rest, Sl.v aB.queue, Bo aB.ended, Sl.v aB.builder.nodes, Sl.v aB.builder.opn, Sl.v aB.slots, Sl.v aB.mods, Sl.v aB.entries, I aB.block, I aB.inln, I aB.deferred, I aB.entered, Sl.v aB.ran, Sl.v aB.log, Bo aB.loaded]].toArray w (RetP w (Bo true)) := by
  refine enterN 45 Try.func3 rfl rfl rfl ?_
  have hs := Sat.start w
  refine WC.seq ?_
  refine WL.r (by rfl) (Yr.box hs (by rfl) (by rfl)) ?_
  clear hs; rintro _ w ⟨b1, rfl, hb, hs⟩; clear hb
  refine WL.r (by rfl) (Yr.box hs (by rfl) (by rfl)) ?_
  clear hs; rintro _ w ⟨b2, rfl, hb, hs⟩; clear hb
  refine WL.p (by rfl) (Yl.assign (by rfl)) ?_
  refine WL.next ?_
  refine WC.seq ?_
  refine WL.p (by rfl) (Yl.assign (by rfl)) ?_
  refine WL.next ?_
  refine WC.seq ?_
  refine WL.p (by rfl) (Yl.loadAB agg38 (by rfl) hs (by repeat (first | exact List.mem_cons_self | apply List.mem_cons_of_mem)) (by rfl) (by rfl)) ?_
  refine WL.p (by rfl) (Yl.move (by rfl)) ?_
  refine WL.callp hs (by rfl) (Yc.func (by rfl) fn4) (c_laws_szPage _ _ _ ⟨⟨(Ph.old h_aA.addr.host hs), (Ph.old h_aA.addr.path hs)⟩, ⟨(Ph.old h_aA.policy.set hs), (Ph.old h_aA.policy.scripts hs), (Ph.old h_aA.policy.styles hs), (Ph.old h_aA.policy.images hs), (Ph.old h_aA.policy.nonce hs)⟩, ⟨(Ph.old h_aA.tok.rest hs)⟩, (Ph.old h_aA.queue hs), (Ph.old h_aA.ended hs), ⟨(Ph.old h_aA.builder.nodes hs), (Ph.old h_aA.builder.opn hs)⟩, (Ph.old h_aA.slots hs), (Ph.old h_aA.mods hs), (Ph.old h_aA.entries hs), (Ph.old h_aA.block hs), (Ph.old h_aA.inln hs), (Ph.old h_aA.deferred hs), (Ph.old h_aA.entered hs), (Ph.old h_aA.ran hs), (Ph.old h_aA.log hs), (Ph.old h_aA.loaded hs)⟩ (by first | assumption | omega | (simp only [lsz] at *; omega) | (simp only [lsz, strsz, TPolicy.size, TCache.size, TAddr.size, TRequest.size, TEntry.size, TResponse.size, TLine.size] at *; omega) | (simp only [lsz_map, TPage.size, TBuilder.size, TNode.size, TToken.size, TTokenizer.size, TServer.size, TFile.size, TNet.size, TCache.size, TSheet.size, strsz] at *; omega) | (simp only [lsz_map, TPage.size, TBuilder.size, TNode.size, TToken.size, TTokenizer.size, TServer.size, TFile.size, TNet.size, TCache.size, TSheet.size, strsz, lsz] at *; omega)) (by first | assumption | omega | (simp only [lsz] at *; omega) | (simp only [lsz, strsz, TPolicy.size, TCache.size, TAddr.size, TRequest.size, TEntry.size, TResponse.size, TLine.size] at *; omega) | (simp only [lsz_map, TPage.size, TBuilder.size, TNode.size, TToken.size, TTokenizer.size, TServer.size, TFile.size, TNet.size, TCache.size, TSheet.size, strsz] at *; omega) | (simp only [lsz_map, TPage.size, TBuilder.size, TNode.size, TToken.size, TTokenizer.size, TServer.size, TFile.size, TNet.size, TCache.size, TSheet.size, strsz, lsz] at *; omega))) ?_
  clear hs; intro w hs
  refine WL.p (by rfl) (Yl.assign (by rfl)) ?_
  refine WL.next ?_
  refine WC.seq' ?_
  refine WC.seq ?_
  refine WL.p (by rfl) (Yl.move (by rfl)) ?_
  refine WL.p (by rfl) (Yl.lss (by rfl) (by rfl)) ?_
  refine WL.next ?_
  refine WC.condS (by rfl) (fun h1 => ?_) (fun h1 => ?_)
  ·
    replace h1 := lessN_neg (of_decide_eq_true h1)
    refine WC.seq ?_
    refine WL.p (by rfl) (Yl.assign (by rfl)) ?_
    refine WL.next ?_
    refine WC.ret ?_
    refine At.thenret ?_
    refine fin1' rfl (by rfl) ?_
    refine RetP.mk hs ?_
    simp_all
  ·
    replace h1 := lessN_nn (by omega) (of_decide_eq_false h1)
    refine WC.skipn ?_
    refine WC.seq ?_
    refine WL.p (by rfl) (Yl.loadAB agg38 (by rfl) hs (by repeat (first | exact List.mem_cons_self | apply List.mem_cons_of_mem)) (by rfl) (by rfl)) ?_
    refine WL.p (by rfl) (Yl.move (by rfl)) ?_
    refine WL.callp hs (by rfl) (Yc.func (by rfl) fn4) (c_laws_szPage _ _ _ ⟨⟨(Ph.old h_aB.addr.host hs), (Ph.old h_aB.addr.path hs)⟩, ⟨(Ph.old h_aB.policy.set hs), (Ph.old h_aB.policy.scripts hs), (Ph.old h_aB.policy.styles hs), (Ph.old h_aB.policy.images hs), (Ph.old h_aB.policy.nonce hs)⟩, ⟨(Ph.old h_aB.tok.rest hs)⟩, (Ph.old h_aB.queue hs), (Ph.old h_aB.ended hs), ⟨(Ph.old h_aB.builder.nodes hs), (Ph.old h_aB.builder.opn hs)⟩, (Ph.old h_aB.slots hs), (Ph.old h_aB.mods hs), (Ph.old h_aB.entries hs), (Ph.old h_aB.block hs), (Ph.old h_aB.inln hs), (Ph.old h_aB.deferred hs), (Ph.old h_aB.entered hs), (Ph.old h_aB.ran hs), (Ph.old h_aB.log hs), (Ph.old h_aB.loaded hs)⟩ (by first | assumption | omega | (simp only [lsz] at *; omega) | (simp only [lsz, strsz, TPolicy.size, TCache.size, TAddr.size, TRequest.size, TEntry.size, TResponse.size, TLine.size] at *; omega) | (simp only [lsz_map, TPage.size, TBuilder.size, TNode.size, TToken.size, TTokenizer.size, TServer.size, TFile.size, TNet.size, TCache.size, TSheet.size, strsz] at *; omega) | (simp only [lsz_map, TPage.size, TBuilder.size, TNode.size, TToken.size, TTokenizer.size, TServer.size, TFile.size, TNet.size, TCache.size, TSheet.size, strsz, lsz] at *; omega)) (by first | assumption | omega | (simp only [lsz] at *; omega) | (simp only [lsz, strsz, TPolicy.size, TCache.size, TAddr.size, TRequest.size, TEntry.size, TResponse.size, TLine.size] at *; omega) | (simp only [lsz_map, TPage.size, TBuilder.size, TNode.size, TToken.size, TTokenizer.size, TServer.size, TFile.size, TNet.size, TCache.size, TSheet.size, strsz] at *; omega) | (simp only [lsz_map, TPage.size, TBuilder.size, TNode.size, TToken.size, TTokenizer.size, TServer.size, TFile.size, TNet.size, TCache.size, TSheet.size, strsz, lsz] at *; omega))) ?_
    clear hs; intro w hs
    refine WL.p (by rfl) (Yl.assign (by rfl)) ?_
    refine WL.next ?_
    refine WC.seq' ?_
    refine WC.seq ?_
    refine WL.p (by rfl) (Yl.move (by rfl)) ?_
    refine WL.p (by rfl) (Yl.lss (by rfl) (by rfl)) ?_
    refine WL.next ?_
    refine WC.condS (by rfl) (fun h2 => ?_) (fun h2 => ?_)
    ·
      replace h2 := lessN_neg (of_decide_eq_true h2)
      refine WC.seq ?_
      refine WL.p (by rfl) (Yl.assign (by rfl)) ?_
      refine WL.next ?_
      refine WC.ret ?_
      refine At.thenret ?_
      refine fin1' rfl (by rfl) ?_
      refine RetP.mk hs ?_
      simp_all
    ·
      replace h2 := lessN_nn (by omega) (of_decide_eq_false h2)
      refine WC.skipn ?_
      refine WC.anyn mixed hs ?_
      clear hs; intro w hs
      refine WA.p (i := 0) (by rfl) (by kernel_rfl) (by kernel_rfl) (by kernel_rfl) (by rfl) (hs.only (by repeat (first | exact Sel.nil | (apply Sel.cons; (repeat (first | exact Ext.here | apply Ext.there)))))) (fun w hs => Yl.loadAB agg38 (by rfl) hs (by repeat (first | exact List.mem_cons_self | apply List.mem_cons_of_mem)) (by rfl) (by rfl)) ?_
      refine WA.p (i := 2) (by rfl) (by kernel_rfl) (by kernel_rfl) (by kernel_rfl) (by rfl) (hs.only (by repeat (first | exact Sel.nil | (apply Sel.cons; (repeat (first | exact Ext.here | apply Ext.there)))))) (fun w hs => Yl.loadAB agg38 (by rfl) hs (by repeat (first | exact List.mem_cons_self | apply List.mem_cons_of_mem)) (by rfl) (by rfl)) ?_
      refine WA.call2 (i := 1) hs (fun _ hs => hs.only (by repeat (first | exact Sel.nil | (apply Sel.cons; (repeat (first | exact Ext.here | apply Ext.there)))))) (by kernel_rfl) (by rfl) (by rfl) (Yc.func (by rfl) fn6) (c_laws_toPage _ _ ⟨⟨(Ph.old h_aA.addr.host hs), (Ph.old h_aA.addr.path hs)⟩, ⟨(Ph.old h_aA.policy.set hs), (Ph.old h_aA.policy.scripts hs), (Ph.old h_aA.policy.styles hs), (Ph.old h_aA.policy.images hs), (Ph.old h_aA.policy.nonce hs)⟩, ⟨(Ph.old h_aA.tok.rest hs)⟩, (Ph.old h_aA.queue hs), (Ph.old h_aA.ended hs), ⟨(Ph.old h_aA.builder.nodes hs), (Ph.old h_aA.builder.opn hs)⟩, (Ph.old h_aA.slots hs), (Ph.old h_aA.mods hs), (Ph.old h_aA.entries hs), (Ph.old h_aA.block hs), (Ph.old h_aA.inln hs), (Ph.old h_aA.deferred hs), (Ph.old h_aA.entered hs), (Ph.old h_aA.ran hs), (Ph.old h_aA.log hs), (Ph.old h_aA.loaded hs)⟩ (by first | assumption | omega | (simp only [lsz] at *; omega) | (simp only [lsz, strsz, TPolicy.size, TCache.size, TAddr.size, TRequest.size, TEntry.size, TResponse.size, TLine.size] at *; omega) | (simp only [lsz_map, TPage.size, TBuilder.size, TNode.size, TToken.size, TTokenizer.size, TServer.size, TFile.size, TNet.size, TCache.size, TSheet.size, strsz] at *; omega) | (simp only [lsz_map, TPage.size, TBuilder.size, TNode.size, TToken.size, TTokenizer.size, TServer.size, TFile.size, TNet.size, TCache.size, TSheet.size, strsz, lsz] at *; omega))) ?_
      have hs0 := hs; clear hs; intro v w hb hR hs; clear hs
      obtain ⟨x3, rfl, hx3, hf3⟩ := hR
      obtain ⟨F3, hs⟩ := hf3.sat hs0 hb; clear hs0 hf3
      refine WA.call2 (i := 3) hs (fun _ hs => hs.only (by repeat (first | exact Sel.nil | (apply Sel.cons; (repeat (first | exact Ext.here | apply Ext.there)))))) (by kernel_rfl) (by rfl) (by rfl) (Yc.func (by rfl) fn6) (c_laws_toPage _ _ ⟨⟨(Ph.old h_aB.addr.host hs), (Ph.old h_aB.addr.path hs)⟩, ⟨(Ph.old h_aB.policy.set hs), (Ph.old h_aB.policy.scripts hs), (Ph.old h_aB.policy.styles hs), (Ph.old h_aB.policy.images hs), (Ph.old h_aB.policy.nonce hs)⟩, ⟨(Ph.old h_aB.tok.rest hs)⟩, (Ph.old h_aB.queue hs), (Ph.old h_aB.ended hs), ⟨(Ph.old h_aB.builder.nodes hs), (Ph.old h_aB.builder.opn hs)⟩, (Ph.old h_aB.slots hs), (Ph.old h_aB.mods hs), (Ph.old h_aB.entries hs), (Ph.old h_aB.block hs), (Ph.old h_aB.inln hs), (Ph.old h_aB.deferred hs), (Ph.old h_aB.entered hs), (Ph.old h_aB.ran hs), (Ph.old h_aB.log hs), (Ph.old h_aB.loaded hs)⟩ (by first | assumption | omega | (simp only [lsz] at *; omega) | (simp only [lsz, strsz, TPolicy.size, TCache.size, TAddr.size, TRequest.size, TEntry.size, TResponse.size, TLine.size] at *; omega) | (simp only [lsz_map, TPage.size, TBuilder.size, TNode.size, TToken.size, TTokenizer.size, TServer.size, TFile.size, TNet.size, TCache.size, TSheet.size, strsz] at *; omega) | (simp only [lsz_map, TPage.size, TBuilder.size, TNode.size, TToken.size, TTokenizer.size, TServer.size, TFile.size, TNet.size, TCache.size, TSheet.size, strsz, lsz] at *; omega))) ?_
      have hs0 := hs; clear hs; intro v w hb hR hs; clear hs
      obtain ⟨x4, rfl, hx4, hf4⟩ := hR
      obtain ⟨F4, hs⟩ := hf4.sat hs0 hb; clear hs0 hf4
      refine WA.callp2 (i := 4) hs (fun _ hs => hs.only (by repeat (first | exact Sel.nil | (apply Sel.cons; (repeat (first | exact Ext.here | apply Ext.there)))))) (by kernel_rfl) (by rfl) (by rfl) (Yc.func (by rfl) fn5) (c_spec_EqualPages _ _ _ (hs.okow (x := x3) (F := F3) (by repeat (first | exact List.mem_cons_self | apply List.mem_cons_of_mem))) (hs.okow (x := x4) (F := F4) (by repeat (first | exact List.mem_cons_self | apply List.mem_cons_of_mem))) (by first | (rw [hx2]; omega) | (rw [hx3]; omega) | (rw [hx4]; omega) | (rw [hx5]; omega) | (rw [hx6]; omega) | (rw [hx7]; omega) | (rw [hx8]; omega) | (rw [hx9]; omega) | (rw [hx10]; omega) | (rw [hx11]; omega)) (by first | (rw [hx2]; omega) | (rw [hx3]; omega) | (rw [hx4]; omega) | (rw [hx5]; omega) | (rw [hx6]; omega) | (rw [hx7]; omega) | (rw [hx8]; omega) | (rw [hx9]; omega) | (rw [hx10]; omega) | (rw [hx11]; omega))) ?_
      clear hs; intro w hs
      refine WA.p (i := 5) (by rfl) (by kernel_rfl) (by kernel_rfl) (by kernel_rfl) (by rfl) (hs.only (by repeat (first | exact Sel.nil | (apply Sel.cons; (repeat (first | exact Ext.here | apply Ext.there)))))) (fun w hs => Yl.assign (by rfl)) ?_
      refine WA.donen (by kernel_rfl) ?_
      refine WC.seq ?_
      refine WL.p (by rfl) (Yl.loadAB agg38 (by rfl) hs (by repeat (first | exact List.mem_cons_self | apply List.mem_cons_of_mem)) (by rfl) (by rfl)) ?_
      refine WL.call hs (by rfl) (Yc.func (by rfl) fn6) (c_laws_toPage _ _ ⟨⟨(Ph.old h_aA.addr.host hs), (Ph.old h_aA.addr.path hs)⟩, ⟨(Ph.old h_aA.policy.set hs), (Ph.old h_aA.policy.scripts hs), (Ph.old h_aA.policy.styles hs), (Ph.old h_aA.policy.images hs), (Ph.old h_aA.policy.nonce hs)⟩, ⟨(Ph.old h_aA.tok.rest hs)⟩, (Ph.old h_aA.queue hs), (Ph.old h_aA.ended hs), ⟨(Ph.old h_aA.builder.nodes hs), (Ph.old h_aA.builder.opn hs)⟩, (Ph.old h_aA.slots hs), (Ph.old h_aA.mods hs), (Ph.old h_aA.entries hs), (Ph.old h_aA.block hs), (Ph.old h_aA.inln hs), (Ph.old h_aA.deferred hs), (Ph.old h_aA.entered hs), (Ph.old h_aA.ran hs), (Ph.old h_aA.log hs), (Ph.old h_aA.loaded hs)⟩ (by first | assumption | omega | (simp only [lsz] at *; omega) | (simp only [lsz, strsz, TPolicy.size, TCache.size, TAddr.size, TRequest.size, TEntry.size, TResponse.size, TLine.size] at *; omega) | (simp only [lsz_map, TPage.size, TBuilder.size, TNode.size, TToken.size, TTokenizer.size, TServer.size, TFile.size, TNet.size, TCache.size, TSheet.size, strsz] at *; omega) | (simp only [lsz_map, TPage.size, TBuilder.size, TNode.size, TToken.size, TTokenizer.size, TServer.size, TFile.size, TNet.size, TCache.size, TSheet.size, strsz, lsz] at *; omega))) ?_
      have hs0 := hs; clear hs; intro v w hb hR hs; clear hs
      obtain ⟨x5, rfl, hx5, hf5⟩ := hR
      obtain ⟨F5, hs⟩ := hf5.sat hs0 hb; clear hs0 hf5
      refine WL.r (by rfl) (Yr.alloc hs zt52) ?_
      clear hs; rintro _ w ⟨b6, rfl, hb, hs⟩; clear hb
      refine WL.s (Yr.storeB hs (by rfl) (by rfl) (by rfl) (by repeat (first | exact Repl.here | apply Repl.there)) (by repeat (first | (apply SetAt.here; repeat (first | exact Over.nil | apply Over.cons)) | apply SetAt.there)) (by rfl) (by exact szf52)) ?_
      clear hs; rintro _ w hs
      refine WL.next ?_
      refine WC.seq ?_
      refine WL.p (by rfl) (Yl.loadAB agg38 (by rfl) hs (by repeat (first | exact List.mem_cons_self | apply List.mem_cons_of_mem)) (by rfl) (by rfl)) ?_
      refine WL.call hs (by rfl) (Yc.func (by rfl) fn6) (c_laws_toPage _ _ ⟨⟨(Ph.old h_aB.addr.host hs), (Ph.old h_aB.addr.path hs)⟩, ⟨(Ph.old h_aB.policy.set hs), (Ph.old h_aB.policy.scripts hs), (Ph.old h_aB.policy.styles hs), (Ph.old h_aB.policy.images hs), (Ph.old h_aB.policy.nonce hs)⟩, ⟨(Ph.old h_aB.tok.rest hs)⟩, (Ph.old h_aB.queue hs), (Ph.old h_aB.ended hs), ⟨(Ph.old h_aB.builder.nodes hs), (Ph.old h_aB.builder.opn hs)⟩, (Ph.old h_aB.slots hs), (Ph.old h_aB.mods hs), (Ph.old h_aB.entries hs), (Ph.old h_aB.block hs), (Ph.old h_aB.inln hs), (Ph.old h_aB.deferred hs), (Ph.old h_aB.entered hs), (Ph.old h_aB.ran hs), (Ph.old h_aB.log hs), (Ph.old h_aB.loaded hs)⟩ (by first | assumption | omega | (simp only [lsz] at *; omega) | (simp only [lsz, strsz, TPolicy.size, TCache.size, TAddr.size, TRequest.size, TEntry.size, TResponse.size, TLine.size] at *; omega) | (simp only [lsz_map, TPage.size, TBuilder.size, TNode.size, TToken.size, TTokenizer.size, TServer.size, TFile.size, TNet.size, TCache.size, TSheet.size, strsz] at *; omega) | (simp only [lsz_map, TPage.size, TBuilder.size, TNode.size, TToken.size, TTokenizer.size, TServer.size, TFile.size, TNet.size, TCache.size, TSheet.size, strsz, lsz] at *; omega))) ?_
      have hs0 := hs; clear hs; intro v w hb hR hs; clear hs
      obtain ⟨x7, rfl, hx7, hf7⟩ := hR
      obtain ⟨F7, hs⟩ := hf7.sat hs0 hb; clear hs0 hf7
      refine WL.r (by rfl) (Yr.alloc hs zt52) ?_
      clear hs; rintro _ w ⟨b8, rfl, hb, hs⟩; clear hb
      refine WL.s (Yr.storeB hs (by rfl) (by rfl) (by rfl) (by repeat (first | exact Repl.here | apply Repl.there)) (by repeat (first | (apply SetAt.here; repeat (first | exact Over.nil | apply Over.cons)) | apply SetAt.there)) (by rfl) (by exact szf52)) ?_
      clear hs; rintro _ w hs
      refine WL.next ?_
      refine WC.seq ?_
      refine WL.p (by rfl) (Yl.loadAB agg52 (by rfl) hs (by repeat (first | exact List.mem_cons_self | apply List.mem_cons_of_mem)) (by rfl) (by rfl)) ?_
      refine WL.p (by rfl) (Yl.loadAB agg52 (by rfl) hs (by repeat (first | exact List.mem_cons_self | apply List.mem_cons_of_mem)) (by rfl) (by rfl)) ?_
      refine WL.callp hs (by rfl) (Yc.func (by rfl) fn7) (c_impl_EqualPages _ _ _ ⟨⟨(hs.okow (x := x5) (F := F5) (by repeat (first | exact List.mem_cons_self | apply List.mem_cons_of_mem))).addr.host, (hs.okow (x := x5) (F := F5) (by repeat (first | exact List.mem_cons_self | apply List.mem_cons_of_mem))).addr.path⟩, ⟨(hs.okow (x := x5) (F := F5) (by repeat (first | exact List.mem_cons_self | apply List.mem_cons_of_mem))).policy.set, (hs.okow (x := x5) (F := F5) (by repeat (first | exact List.mem_cons_self | apply List.mem_cons_of_mem))).policy.scripts, (hs.okow (x := x5) (F := F5) (by repeat (first | exact List.mem_cons_self | apply List.mem_cons_of_mem))).policy.styles, (hs.okow (x := x5) (F := F5) (by repeat (first | exact List.mem_cons_self | apply List.mem_cons_of_mem))).policy.images, (hs.okow (x := x5) (F := F5) (by repeat (first | exact List.mem_cons_self | apply List.mem_cons_of_mem))).policy.nonce⟩, ⟨(hs.okow (x := x5) (F := F5) (by repeat (first | exact List.mem_cons_self | apply List.mem_cons_of_mem))).tok.rest⟩, (hs.okow (x := x5) (F := F5) (by repeat (first | exact List.mem_cons_self | apply List.mem_cons_of_mem))).queue, (hs.okow (x := x5) (F := F5) (by repeat (first | exact List.mem_cons_self | apply List.mem_cons_of_mem))).ended, ⟨(hs.okow (x := x5) (F := F5) (by repeat (first | exact List.mem_cons_self | apply List.mem_cons_of_mem))).builder.nodes, (hs.okow (x := x5) (F := F5) (by repeat (first | exact List.mem_cons_self | apply List.mem_cons_of_mem))).builder.opn⟩, (hs.okow (x := x5) (F := F5) (by repeat (first | exact List.mem_cons_self | apply List.mem_cons_of_mem))).slots, (hs.okow (x := x5) (F := F5) (by repeat (first | exact List.mem_cons_self | apply List.mem_cons_of_mem))).mods, (hs.okow (x := x5) (F := F5) (by repeat (first | exact List.mem_cons_self | apply List.mem_cons_of_mem))).entries, (hs.okow (x := x5) (F := F5) (by repeat (first | exact List.mem_cons_self | apply List.mem_cons_of_mem))).block, (hs.okow (x := x5) (F := F5) (by repeat (first | exact List.mem_cons_self | apply List.mem_cons_of_mem))).inln, (hs.okow (x := x5) (F := F5) (by repeat (first | exact List.mem_cons_self | apply List.mem_cons_of_mem))).deferred, (hs.okow (x := x5) (F := F5) (by repeat (first | exact List.mem_cons_self | apply List.mem_cons_of_mem))).entered, (hs.okow (x := x5) (F := F5) (by repeat (first | exact List.mem_cons_self | apply List.mem_cons_of_mem))).ran, (hs.okow (x := x5) (F := F5) (by repeat (first | exact List.mem_cons_self | apply List.mem_cons_of_mem))).log, (hs.okow (x := x5) (F := F5) (by repeat (first | exact List.mem_cons_self | apply List.mem_cons_of_mem))).loaded⟩ ⟨⟨(hs.okow (x := x7) (F := F7) (by repeat (first | exact List.mem_cons_self | apply List.mem_cons_of_mem))).addr.host, (hs.okow (x := x7) (F := F7) (by repeat (first | exact List.mem_cons_self | apply List.mem_cons_of_mem))).addr.path⟩, ⟨(hs.okow (x := x7) (F := F7) (by repeat (first | exact List.mem_cons_self | apply List.mem_cons_of_mem))).policy.set, (hs.okow (x := x7) (F := F7) (by repeat (first | exact List.mem_cons_self | apply List.mem_cons_of_mem))).policy.scripts, (hs.okow (x := x7) (F := F7) (by repeat (first | exact List.mem_cons_self | apply List.mem_cons_of_mem))).policy.styles, (hs.okow (x := x7) (F := F7) (by repeat (first | exact List.mem_cons_self | apply List.mem_cons_of_mem))).policy.images, (hs.okow (x := x7) (F := F7) (by repeat (first | exact List.mem_cons_self | apply List.mem_cons_of_mem))).policy.nonce⟩, ⟨(hs.okow (x := x7) (F := F7) (by repeat (first | exact List.mem_cons_self | apply List.mem_cons_of_mem))).tok.rest⟩, (hs.okow (x := x7) (F := F7) (by repeat (first | exact List.mem_cons_self | apply List.mem_cons_of_mem))).queue, (hs.okow (x := x7) (F := F7) (by repeat (first | exact List.mem_cons_self | apply List.mem_cons_of_mem))).ended, ⟨(hs.okow (x := x7) (F := F7) (by repeat (first | exact List.mem_cons_self | apply List.mem_cons_of_mem))).builder.nodes, (hs.okow (x := x7) (F := F7) (by repeat (first | exact List.mem_cons_self | apply List.mem_cons_of_mem))).builder.opn⟩, (hs.okow (x := x7) (F := F7) (by repeat (first | exact List.mem_cons_self | apply List.mem_cons_of_mem))).slots, (hs.okow (x := x7) (F := F7) (by repeat (first | exact List.mem_cons_self | apply List.mem_cons_of_mem))).mods, (hs.okow (x := x7) (F := F7) (by repeat (first | exact List.mem_cons_self | apply List.mem_cons_of_mem))).entries, (hs.okow (x := x7) (F := F7) (by repeat (first | exact List.mem_cons_self | apply List.mem_cons_of_mem))).block, (hs.okow (x := x7) (F := F7) (by repeat (first | exact List.mem_cons_self | apply List.mem_cons_of_mem))).inln, (hs.okow (x := x7) (F := F7) (by repeat (first | exact List.mem_cons_self | apply List.mem_cons_of_mem))).deferred, (hs.okow (x := x7) (F := F7) (by repeat (first | exact List.mem_cons_self | apply List.mem_cons_of_mem))).entered, (hs.okow (x := x7) (F := F7) (by repeat (first | exact List.mem_cons_self | apply List.mem_cons_of_mem))).ran, (hs.okow (x := x7) (F := F7) (by repeat (first | exact List.mem_cons_self | apply List.mem_cons_of_mem))).log, (hs.okow (x := x7) (F := F7) (by repeat (first | exact List.mem_cons_self | apply List.mem_cons_of_mem))).loaded⟩) ?_
      clear hs; intro w hs
      refine WL.p (by rfl) (Yl.assign (by rfl)) ?_
      refine WL.next ?_
      refine WC.seq' ?_
      refine WC.seq ?_
      refine WL.p (by rfl) (Yl.move (by rfl)) ?_
      refine WL.p (by rfl) (Yl.move (by rfl)) ?_
      refine WL.p (by rfl) (Yl.neb bool4 (by rfl) (by rfl)) ?_
      refine WL.next ?_
      refine WC.condS (by rfl) (fun h3 => ?_) (fun h3 => ?_)
      ·
        replace h3 := not_eq_true h3
        replace h3 := beq_false h3
        refine WC.seq ?_
        refine WL.p (by rfl) (Yl.assign (by rfl)) ?_
        refine WL.next ?_
        refine WC.ret ?_
        refine At.thenret ?_
        refine fin1' rfl (by rfl) ?_
        refine RetP.mk hs ?_
        try simp only [hx3, hx4, hx5, hx7] at h1
        try simp only [hx3, hx4, hx5, hx7] at h2
        try simp only [hx3, hx4, hx5, hx7] at h3
        all_goals (first | (simp only [hx3, hx4, hx5, hx7]; done) | simp_all)
      ·
        replace h3 := not_eq_false h3
        replace h3 := beq_true h3
        refine WC.skipn ?_
        refine WC.seq' ?_
        refine WC.anyn mixed hs ?_
        clear hs; intro w hs
        refine WA.p (i := 0) (by rfl) (by kernel_rfl) (by kernel_rfl) (by kernel_rfl) (by rfl) (hs.only (by repeat (first | exact Sel.nil | (apply Sel.cons; (repeat (first | exact Ext.here | apply Ext.there)))))) (fun w hs => Yl.loadAB agg52 (by rfl) hs (by repeat (first | exact List.mem_cons_self | apply List.mem_cons_of_mem)) (by rfl) (by rfl)) ?_
        refine WA.p (i := 1) (by rfl) (by kernel_rfl) (by kernel_rfl) (by kernel_rfl) (by rfl) (hs.only (by repeat (first | exact Sel.nil | (apply Sel.cons; (repeat (first | exact Ext.here | apply Ext.there)))))) (fun w hs => Yl.loadAB agg38 (by rfl) hs (by repeat (first | exact List.mem_cons_self | apply List.mem_cons_of_mem)) (by rfl) (by rfl)) ?_
        refine WA.call2 (i := 2) hs (fun _ hs => hs.only (by repeat (first | exact Sel.nil | (apply Sel.cons; (repeat (first | exact Ext.here | apply Ext.there)))))) (by kernel_rfl) (by rfl) (by rfl) (Yc.func (by rfl) fn6) (c_laws_toPage _ _ ⟨⟨(Ph.old h_aA.addr.host hs), (Ph.old h_aA.addr.path hs)⟩, ⟨(Ph.old h_aA.policy.set hs), (Ph.old h_aA.policy.scripts hs), (Ph.old h_aA.policy.styles hs), (Ph.old h_aA.policy.images hs), (Ph.old h_aA.policy.nonce hs)⟩, ⟨(Ph.old h_aA.tok.rest hs)⟩, (Ph.old h_aA.queue hs), (Ph.old h_aA.ended hs), ⟨(Ph.old h_aA.builder.nodes hs), (Ph.old h_aA.builder.opn hs)⟩, (Ph.old h_aA.slots hs), (Ph.old h_aA.mods hs), (Ph.old h_aA.entries hs), (Ph.old h_aA.block hs), (Ph.old h_aA.inln hs), (Ph.old h_aA.deferred hs), (Ph.old h_aA.entered hs), (Ph.old h_aA.ran hs), (Ph.old h_aA.log hs), (Ph.old h_aA.loaded hs)⟩ (by first | assumption | omega | (simp only [lsz] at *; omega) | (simp only [lsz, strsz, TPolicy.size, TCache.size, TAddr.size, TRequest.size, TEntry.size, TResponse.size, TLine.size] at *; omega) | (simp only [lsz_map, TPage.size, TBuilder.size, TNode.size, TToken.size, TTokenizer.size, TServer.size, TFile.size, TNet.size, TCache.size, TSheet.size, strsz] at *; omega) | (simp only [lsz_map, TPage.size, TBuilder.size, TNode.size, TToken.size, TTokenizer.size, TServer.size, TFile.size, TNet.size, TCache.size, TSheet.size, strsz, lsz] at *; omega))) ?_
        have hs0 := hs; clear hs; intro v w hb hR hs; clear hs
        obtain ⟨x9, rfl, hx9, hf9⟩ := hR
        obtain ⟨F9, hs⟩ := hf9.sat hs0 hb; clear hs0 hf9
        refine WA.callp2 (i := 3) hs (fun _ hs => hs.only (by repeat (first | exact Sel.nil | (apply Sel.cons; (repeat (first | exact Ext.here | apply Ext.there)))))) (by kernel_rfl) (by rfl) (by rfl) (Yc.func (by rfl) fn8) (c_laws_eqPage _ _ _ ⟨⟨(hs.okow (x := x5) (F := F5) (by repeat (first | exact List.mem_cons_self | apply List.mem_cons_of_mem))).addr.host, (hs.okow (x := x5) (F := F5) (by repeat (first | exact List.mem_cons_self | apply List.mem_cons_of_mem))).addr.path⟩, ⟨(hs.okow (x := x5) (F := F5) (by repeat (first | exact List.mem_cons_self | apply List.mem_cons_of_mem))).policy.set, (hs.okow (x := x5) (F := F5) (by repeat (first | exact List.mem_cons_self | apply List.mem_cons_of_mem))).policy.scripts, (hs.okow (x := x5) (F := F5) (by repeat (first | exact List.mem_cons_self | apply List.mem_cons_of_mem))).policy.styles, (hs.okow (x := x5) (F := F5) (by repeat (first | exact List.mem_cons_self | apply List.mem_cons_of_mem))).policy.images, (hs.okow (x := x5) (F := F5) (by repeat (first | exact List.mem_cons_self | apply List.mem_cons_of_mem))).policy.nonce⟩, ⟨(hs.okow (x := x5) (F := F5) (by repeat (first | exact List.mem_cons_self | apply List.mem_cons_of_mem))).tok.rest⟩, (hs.okow (x := x5) (F := F5) (by repeat (first | exact List.mem_cons_self | apply List.mem_cons_of_mem))).queue, (hs.okow (x := x5) (F := F5) (by repeat (first | exact List.mem_cons_self | apply List.mem_cons_of_mem))).ended, ⟨(hs.okow (x := x5) (F := F5) (by repeat (first | exact List.mem_cons_self | apply List.mem_cons_of_mem))).builder.nodes, (hs.okow (x := x5) (F := F5) (by repeat (first | exact List.mem_cons_self | apply List.mem_cons_of_mem))).builder.opn⟩, (hs.okow (x := x5) (F := F5) (by repeat (first | exact List.mem_cons_self | apply List.mem_cons_of_mem))).slots, (hs.okow (x := x5) (F := F5) (by repeat (first | exact List.mem_cons_self | apply List.mem_cons_of_mem))).mods, (hs.okow (x := x5) (F := F5) (by repeat (first | exact List.mem_cons_self | apply List.mem_cons_of_mem))).entries, (hs.okow (x := x5) (F := F5) (by repeat (first | exact List.mem_cons_self | apply List.mem_cons_of_mem))).block, (hs.okow (x := x5) (F := F5) (by repeat (first | exact List.mem_cons_self | apply List.mem_cons_of_mem))).inln, (hs.okow (x := x5) (F := F5) (by repeat (first | exact List.mem_cons_self | apply List.mem_cons_of_mem))).deferred, (hs.okow (x := x5) (F := F5) (by repeat (first | exact List.mem_cons_self | apply List.mem_cons_of_mem))).entered, (hs.okow (x := x5) (F := F5) (by repeat (first | exact List.mem_cons_self | apply List.mem_cons_of_mem))).ran, (hs.okow (x := x5) (F := F5) (by repeat (first | exact List.mem_cons_self | apply List.mem_cons_of_mem))).log, (hs.okow (x := x5) (F := F5) (by repeat (first | exact List.mem_cons_self | apply List.mem_cons_of_mem))).loaded⟩ (hs.okow (x := x9) (F := F9) (by repeat (first | exact List.mem_cons_self | apply List.mem_cons_of_mem)))) ?_
        clear hs; intro w hs
        refine WA.p (i := 4) (by rfl) (by kernel_rfl) (by kernel_rfl) (by kernel_rfl) (by rfl) (hs.only (by repeat (first | exact Sel.nil | (apply Sel.cons; (repeat (first | exact Ext.here | apply Ext.there)))))) (fun w hs => Yl.not (by rfl)) ?_
        refine WA.donen (by kernel_rfl) ?_
        refine WC.condS (by rfl) (fun h4 => ?_) (fun h4 => ?_)
        ·
          replace h4 := not_eq_true h4
          replace h4 := of_decide_eq_false h4
          refine WC.seq ?_
          refine WL.p (by rfl) (Yl.assign (by rfl)) ?_
          refine WL.next ?_
          refine WC.ret ?_
          refine At.thenret ?_
          refine fin1' rfl (by rfl) ?_
          refine RetP.mk hs ?_
          try simp only [hx3, hx4, hx5, hx7, hx9] at h1
          try simp only [hx3, hx4, hx5, hx7, hx9] at h2
          try simp only [hx3, hx4, hx5, hx7, hx9] at h3
          try simp only [hx3, hx4, hx5, hx7, hx9] at h4
          all_goals (first | (simp only [hx3, hx4, hx5, hx7, hx9]; done) | simp_all)
        ·
          replace h4 := not_eq_false h4
          replace h4 := of_decide_eq_true h4
          refine WC.skipn ?_
          refine WC.seq' ?_
          refine WC.anyn mixed hs ?_
          clear hs; intro w hs
          refine WA.p (i := 0) (by rfl) (by kernel_rfl) (by kernel_rfl) (by kernel_rfl) (by rfl) (hs.only (by repeat (first | exact Sel.nil | (apply Sel.cons; (repeat (first | exact Ext.here | apply Ext.there)))))) (fun w hs => Yl.loadAB agg52 (by rfl) hs (by repeat (first | exact List.mem_cons_self | apply List.mem_cons_of_mem)) (by rfl) (by rfl)) ?_
          refine WA.p (i := 1) (by rfl) (by kernel_rfl) (by kernel_rfl) (by kernel_rfl) (by rfl) (hs.only (by repeat (first | exact Sel.nil | (apply Sel.cons; (repeat (first | exact Ext.here | apply Ext.there)))))) (fun w hs => Yl.loadAB agg38 (by rfl) hs (by repeat (first | exact List.mem_cons_self | apply List.mem_cons_of_mem)) (by rfl) (by rfl)) ?_
          refine WA.call2 (i := 2) hs (fun _ hs => hs.only (by repeat (first | exact Sel.nil | (apply Sel.cons; (repeat (first | exact Ext.here | apply Ext.there)))))) (by kernel_rfl) (by rfl) (by rfl) (Yc.func (by rfl) fn6) (c_laws_toPage _ _ ⟨⟨(Ph.old h_aB.addr.host hs), (Ph.old h_aB.addr.path hs)⟩, ⟨(Ph.old h_aB.policy.set hs), (Ph.old h_aB.policy.scripts hs), (Ph.old h_aB.policy.styles hs), (Ph.old h_aB.policy.images hs), (Ph.old h_aB.policy.nonce hs)⟩, ⟨(Ph.old h_aB.tok.rest hs)⟩, (Ph.old h_aB.queue hs), (Ph.old h_aB.ended hs), ⟨(Ph.old h_aB.builder.nodes hs), (Ph.old h_aB.builder.opn hs)⟩, (Ph.old h_aB.slots hs), (Ph.old h_aB.mods hs), (Ph.old h_aB.entries hs), (Ph.old h_aB.block hs), (Ph.old h_aB.inln hs), (Ph.old h_aB.deferred hs), (Ph.old h_aB.entered hs), (Ph.old h_aB.ran hs), (Ph.old h_aB.log hs), (Ph.old h_aB.loaded hs)⟩ (by first | assumption | omega | (simp only [lsz] at *; omega) | (simp only [lsz, strsz, TPolicy.size, TCache.size, TAddr.size, TRequest.size, TEntry.size, TResponse.size, TLine.size] at *; omega) | (simp only [lsz_map, TPage.size, TBuilder.size, TNode.size, TToken.size, TTokenizer.size, TServer.size, TFile.size, TNet.size, TCache.size, TSheet.size, strsz] at *; omega) | (simp only [lsz_map, TPage.size, TBuilder.size, TNode.size, TToken.size, TTokenizer.size, TServer.size, TFile.size, TNet.size, TCache.size, TSheet.size, strsz, lsz] at *; omega))) ?_
          have hs0 := hs; clear hs; intro v w hb hR hs; clear hs
          obtain ⟨x10, rfl, hx10, hf10⟩ := hR
          obtain ⟨F10, hs⟩ := hf10.sat hs0 hb; clear hs0 hf10
          refine WA.callp2 (i := 3) hs (fun _ hs => hs.only (by repeat (first | exact Sel.nil | (apply Sel.cons; (repeat (first | exact Ext.here | apply Ext.there)))))) (by kernel_rfl) (by rfl) (by rfl) (Yc.func (by rfl) fn8) (c_laws_eqPage _ _ _ ⟨⟨(hs.okow (x := x7) (F := F7) (by repeat (first | exact List.mem_cons_self | apply List.mem_cons_of_mem))).addr.host, (hs.okow (x := x7) (F := F7) (by repeat (first | exact List.mem_cons_self | apply List.mem_cons_of_mem))).addr.path⟩, ⟨(hs.okow (x := x7) (F := F7) (by repeat (first | exact List.mem_cons_self | apply List.mem_cons_of_mem))).policy.set, (hs.okow (x := x7) (F := F7) (by repeat (first | exact List.mem_cons_self | apply List.mem_cons_of_mem))).policy.scripts, (hs.okow (x := x7) (F := F7) (by repeat (first | exact List.mem_cons_self | apply List.mem_cons_of_mem))).policy.styles, (hs.okow (x := x7) (F := F7) (by repeat (first | exact List.mem_cons_self | apply List.mem_cons_of_mem))).policy.images, (hs.okow (x := x7) (F := F7) (by repeat (first | exact List.mem_cons_self | apply List.mem_cons_of_mem))).policy.nonce⟩, ⟨(hs.okow (x := x7) (F := F7) (by repeat (first | exact List.mem_cons_self | apply List.mem_cons_of_mem))).tok.rest⟩, (hs.okow (x := x7) (F := F7) (by repeat (first | exact List.mem_cons_self | apply List.mem_cons_of_mem))).queue, (hs.okow (x := x7) (F := F7) (by repeat (first | exact List.mem_cons_self | apply List.mem_cons_of_mem))).ended, ⟨(hs.okow (x := x7) (F := F7) (by repeat (first | exact List.mem_cons_self | apply List.mem_cons_of_mem))).builder.nodes, (hs.okow (x := x7) (F := F7) (by repeat (first | exact List.mem_cons_self | apply List.mem_cons_of_mem))).builder.opn⟩, (hs.okow (x := x7) (F := F7) (by repeat (first | exact List.mem_cons_self | apply List.mem_cons_of_mem))).slots, (hs.okow (x := x7) (F := F7) (by repeat (first | exact List.mem_cons_self | apply List.mem_cons_of_mem))).mods, (hs.okow (x := x7) (F := F7) (by repeat (first | exact List.mem_cons_self | apply List.mem_cons_of_mem))).entries, (hs.okow (x := x7) (F := F7) (by repeat (first | exact List.mem_cons_self | apply List.mem_cons_of_mem))).block, (hs.okow (x := x7) (F := F7) (by repeat (first | exact List.mem_cons_self | apply List.mem_cons_of_mem))).inln, (hs.okow (x := x7) (F := F7) (by repeat (first | exact List.mem_cons_self | apply List.mem_cons_of_mem))).deferred, (hs.okow (x := x7) (F := F7) (by repeat (first | exact List.mem_cons_self | apply List.mem_cons_of_mem))).entered, (hs.okow (x := x7) (F := F7) (by repeat (first | exact List.mem_cons_self | apply List.mem_cons_of_mem))).ran, (hs.okow (x := x7) (F := F7) (by repeat (first | exact List.mem_cons_self | apply List.mem_cons_of_mem))).log, (hs.okow (x := x7) (F := F7) (by repeat (first | exact List.mem_cons_self | apply List.mem_cons_of_mem))).loaded⟩ (hs.okow (x := x10) (F := F10) (by repeat (first | exact List.mem_cons_self | apply List.mem_cons_of_mem)))) ?_
          clear hs; intro w hs
          refine WA.p (i := 4) (by rfl) (by kernel_rfl) (by kernel_rfl) (by kernel_rfl) (by rfl) (hs.only (by repeat (first | exact Sel.nil | (apply Sel.cons; (repeat (first | exact Ext.here | apply Ext.there)))))) (fun w hs => Yl.not (by rfl)) ?_
          refine WA.donen (by kernel_rfl) ?_
          refine WC.condS (by rfl) (fun h5 => ?_) (fun h5 => ?_)
          ·
            replace h5 := not_eq_true h5
            replace h5 := of_decide_eq_false h5
            refine WC.seq ?_
            refine WL.p (by rfl) (Yl.assign (by rfl)) ?_
            refine WL.next ?_
            refine WC.ret ?_
            refine At.thenret ?_
            refine fin1' rfl (by rfl) ?_
            refine RetP.mk hs ?_
            try simp only [hx3, hx4, hx5, hx7, hx9, hx10] at h1
            try simp only [hx3, hx4, hx5, hx7, hx9, hx10] at h2
            try simp only [hx3, hx4, hx5, hx7, hx9, hx10] at h3
            try simp only [hx3, hx4, hx5, hx7, hx9, hx10] at h4
            try simp only [hx3, hx4, hx5, hx7, hx9, hx10] at h5
            all_goals (first | (simp only [hx3, hx4, hx5, hx7, hx9, hx10]; done) | simp_all)
          ·
            replace h5 := not_eq_false h5
            replace h5 := of_decide_eq_true h5
            refine WC.skipn ?_
            refine WC.seq ?_
            refine WL.p (by rfl) (Yl.assign (by rfl)) ?_
            refine WL.next ?_
            refine WC.ret ?_
            refine fin1' rfl (by rfl) ?_
            refine RetP.mk hs ?_
            try simp only [hx3, hx4, hx5, hx7, hx9, hx10] at h1
            try simp only [hx3, hx4, hx5, hx7, hx9, hx10] at h2
            try simp only [hx3, hx4, hx5, hx7, hx9, hx10] at h3
            try simp only [hx3, hx4, hx5, hx7, hx9, hx10] at h4
            try simp only [hx3, hx4, hx5, hx7, hx9, hx10] at h5
            all_goals (first | (simp only [hx3, hx4, hx5, hx7, hx9, hx10]; done) | simp_all)

end Go.Sw
